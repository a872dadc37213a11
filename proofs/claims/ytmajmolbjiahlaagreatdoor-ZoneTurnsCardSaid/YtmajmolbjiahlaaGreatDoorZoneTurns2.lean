/- Part 2 of the texts that the claim leans on: the functions' walks, and what they compute. -/
import Derived.Test.YtmajmolbjiahlaaGreatDoorZoneTurns1
import Derived.Test.YtmajmolbjiahlaaGreatDoorProg
import Derived.Below
import Derived.Deep.Draws
import Derived.Deep.AppendLies
import Derived.Maps.AppendAt
import Derived.OwnWalk
import Derived.Laws.BytesArg
import Derived.Laws.MakeOwn
import Derived.Laws.OwnMore
import Derived.Deep.OwnRows
import Derived.Tactics
import Derived.Lib.ConvBytes
import Derived.Laws.Slices
import Derived.WalkKit
import Derived.KernelRfl
import Derived.RowKit3
import Derived.Deep.LoopGhost
import Derived.Deep.QuietTactic
import Derived.BigQuiet
import Derived.WideLaws
import Derived.Deep.DeepCutAuto
import Derived.Deep.CutBlock
import Derived.Deep.RegionHeld3
import Derived.Laws.Rows
import Derived.Lib.AppendStr
import Derived.ArgAppend
import Derived.Laws.IdiomCopy
import Derived.OrdersHeld
import Derived.Laws.BitsLemmas
import Derived.RowKit
import Derived.Shelf.Strings.Repeat
import Derived.Shelf.LaysM
import Derived.Shelf.Strconv.Itoa4
import Derived.Ground.SlsfProg
import Derived.Shelf.SlSortCmp.NoneTotal
import Derived.Test.YtmajmolbjiahlaaGreatDoorRows
import Derived.ProofKit
import Derived.OpenShut
import Derived.ShutString
import Derived.ChangeOld
import Derived.SizedLaws
import Derived.LaidMore
import Derived.LaidSub
import Derived.Lib.LaidTab
import Derived.MakeChecks
import Derived.Stop.Joined
import Derived.Shelf.RegionOpen
import Derived.Scope
namespace Go.Proofs.YtmajmolbjiahlaaGreatDoor.PD
open Go.RowKit Go.Proofs.YtmajmolbjiahlaaGreatDoorW.PrintWords Go.Proofs.YtmajmolbjiahlaaGreatDoorW.PrintLast Go.Proofs.YtmajmolbjiahlaaGreatDoorW.PrintMore
attribute [local go_sem] isSome_setCell max2_int min2_int max_two min_two max_three min_three max_four min_four
set_option linter.unusedVariables false
set_option linter.unusedSimpArgs false
def errW : Option Int → Value
  | none => .nilIface
  | some c => .iface 0 (.int .i64 c)
theorem errW_none : errW none = .nilIface := rfl
theorem errW_some (c : Int) : errW (some c) = .iface 0 (.int .i64 c) := rfl
theorem info2 : (Tryz.prog.info? 2).map (fun i => (i.zero, i.size, i.bytes)) = some (some (.int .i64 0), 1, 8) := by kernel_rfl
structure S30 where
  f0 : Int
  f1 : Int
def z30 : S30 := ⟨(0 : Int), (0 : Int)⟩
def k30 : Kd S30 := Kd.iso (Kd.pair (Kd.int .i64) (Kd.int .i64)) (fun x : S30 => (x.f0, x.f1))
theorem k30_open {w : World} {x : S30} {cs : List Value} (h : k30.K w x cs) : cs = [.int .i64 x.f0, .int .i64 x.f1] := by
  obtain ⟨_, _, rfl, rfl, rfl⟩ := h
  exact rfl
theorem k30_mkM (w : World) (base : Nat) (ok : Nat → Prop) (x : S30)  : k30.M w base ok x [.int .i64 x.f0, .int .i64 x.f1] := ⟨[.int .i64 x.f0], [.int .i64 x.f1], rfl, rfl, rfl⟩
structure S32 where
  f0 : Int
  f1 : Int
  f2 : Int
  f3 : Bool
  f4 : Int
  f5 : S30
def z32 : S32 := ⟨(0 : Int), (0 : Int), (0 : Int), false, (0 : Int), z30⟩
def k32 : Kd S32 := Kd.iso (Kd.pair (Kd.int .i64) (Kd.pair (Kd.int .i64) (Kd.pair (Kd.int .i64) (Kd.pair Kd.bool (Kd.pair (Kd.int .i64) k30))))) (fun x : S32 => (x.f0, x.f1, x.f2, x.f3, x.f4, x.f5))
theorem k32_open {w : World} {x : S32} {cs : List Value} (h : k32.K w x cs) : cs = [.int .i64 x.f0, .int .i64 x.f1, .int .i64 x.f2, .bool x.f3, .int .i64 x.f4, .int .i64 x.f5.f0, .int .i64 x.f5.f1] := by
  obtain ⟨_, _, rfl, rfl, ⟨_, _, rfl, rfl, ⟨_, _, rfl, rfl, ⟨_, _, rfl, rfl, ⟨_, _, rfl, rfl, s5⟩⟩⟩⟩⟩ := h
  obtain rfl := k30_open s5
  exact rfl
theorem k32_mkM (w : World) (base : Nat) (ok : Nat → Prop) (x : S32)  : k32.M w base ok x [.int .i64 x.f0, .int .i64 x.f1, .int .i64 x.f2, .bool x.f3, .int .i64 x.f4, .int .i64 x.f5.f0, .int .i64 x.f5.f1] := ⟨[.int .i64 x.f0], [.int .i64 x.f1, .int .i64 x.f2, .bool x.f3, .int .i64 x.f4, .int .i64 x.f5.f0, .int .i64 x.f5.f1], rfl, rfl, ⟨[.int .i64 x.f1], [.int .i64 x.f2, .bool x.f3, .int .i64 x.f4, .int .i64 x.f5.f0, .int .i64 x.f5.f1], rfl, rfl, ⟨[.int .i64 x.f2], [.bool x.f3, .int .i64 x.f4, .int .i64 x.f5.f0, .int .i64 x.f5.f1], rfl, rfl, ⟨[.bool x.f3], [.int .i64 x.f4, .int .i64 x.f5.f0, .int .i64 x.f5.f1], rfl, rfl, ⟨[.int .i64 x.f4], [.int .i64 x.f5.f0, .int .i64 x.f5.f1], rfl, rfl, (k30_mkM w base ok x.f5 )⟩⟩⟩⟩⟩
def rd_T32 (xs : List S32) (i : Int) : S32 := xs.getD i.toNat z32
theorem at_T32 {w : World} {A : Option Addr} {n : Nat} {xs : List S32} (h : Kd.C k32 w A n xs) (i : Int) (h0 : 0 ≤ i) (h1 : i < n) : ∃ ad , A = some ad ∧ w.cell? (ad.add (i.toNat * 7)) = some (.int .i64 (rd_T32 xs i).f0) ∧ w.cell? ⟨(ad.add (i.toNat * 7)).block, (ad.add (i.toNat * 7)).off + 1, none⟩ = some (.int .i64 (rd_T32 xs i).f1) ∧ w.cell? ⟨(ad.add (i.toNat * 7)).block, (ad.add (i.toNat * 7)).off + 2, none⟩ = some (.int .i64 (rd_T32 xs i).f2) ∧ w.cell? ⟨(ad.add (i.toNat * 7)).block, (ad.add (i.toNat * 7)).off + 3, none⟩ = some (.bool (rd_T32 xs i).f3) ∧ w.cell? ⟨(ad.add (i.toNat * 7)).block, (ad.add (i.toNat * 7)).off + 4, none⟩ = some (.int .i64 (rd_T32 xs i).f4) ∧ w.cell? ⟨(ad.add (i.toNat * 7)).block, (ad.add (i.toNat * 7)).off + 5, none⟩ = some (.int .i64 (rd_T32 xs i).f5.f0) ∧ w.cell? ⟨(ad.add (i.toNat * 7)).block, (ad.add (i.toNat * 7)).off + 6, none⟩ = some (.int .i64 (rd_T32 xs i).f5.f1) := by
  obtain ⟨ad, c, e, _, hK, hc0⟩ := Kd.C_get h z32 i h0 h1
  have hc : ∀ j u, c[j]? = some u → w.cell? (ad.add (i.toNat * 7 + j)) = some u := hc0
  obtain rfl := k32_open hK
  exact ⟨ad, e, hc 0 _ rfl, by rw [← add_field _ _ 1 (by omega)]; exact hc 1 _ rfl, by rw [← add_field _ _ 2 (by omega)]; exact hc 2 _ rfl, by rw [← add_field _ _ 3 (by omega)]; exact hc 3 _ rfl, by rw [← add_field _ _ 4 (by omega)]; exact hc 4 _ rfl, by rw [← add_field _ _ 5 (by omega)]; exact hc 5 _ rfl, by rw [← add_field _ _ 6 (by omega)]; exact hc 6 _ rfl⟩
structure S24 where
  f0 : ByteArray
  f1 : (List S32)
def z24 : S24 := ⟨(⟨#[]⟩ : ByteArray), ([] : List S32)⟩
def k24 : Kd S24 := Kd.iso (Kd.pair Kd.string (Kd.slice 32 k32)) (fun x : S24 => (x.f0, x.f1))
theorem k24_open {w : World} {x : S24} {cs : List Value} (h : k24.K w x cs) : ∃ A1 c1, cs = [.string x.f0, .slice A1 x.f1.length c1] ∧ x.f1.length ≤ c1 ∧ k32.C w A1 x.f1.length x.f1 := by
  obtain ⟨_, _, rfl, rfl, ⟨A1, c1, rfl, l1, g1⟩⟩ := h
  exact ⟨A1, c1, rfl, l1, g1⟩
theorem k24_mk (w : World) (x : S24) {A1 : Option Addr} {c1 : Nat} (l1 : x.f1.length ≤ c1) (g1 : k32.C w A1 x.f1.length x.f1) : k24.K w x [.string x.f0, .slice A1 x.f1.length c1] := ⟨[.string x.f0], [.slice A1 x.f1.length c1], rfl, rfl, ⟨A1, c1, rfl, l1, g1⟩⟩
theorem k24_openF {W : World} {ok : Nat → Prop} {x : S24} {cs : List Value} (h : Kd.FK k24 W ok x cs) : ∃ A1 c1, cs = [.string x.f0, .slice A1 x.f1.length c1] ∧ x.f1.length ≤ c1 ∧ Kd.F k32 W ok A1 x.f1.length x.f1 := by
  obtain ⟨A1, c1, rfl, l1, _⟩ := k24_open (Kd.FK_now h)
  exact ⟨A1, c1, rfl, l1, (fun W' hW => by obtain ⟨A1_, c1_, he, l1_, g1_⟩ := k24_open (h W' hW); injection (Option.some.inj (show some (Value.slice A1 x.f1.length c1) = some (Value.slice A1_ x.f1.length c1_) from congrArg (fun l => l[1]?) he)) with ha_ _ _; rw [ha_]; exact g1_)⟩
theorem k24_mkF (W : World) (ok : Nat → Prop) (x : S24) {A1 : Option Addr} {c1 : Nat} (l1 : x.f1.length ≤ c1) (g1 : Kd.F k32 W ok A1 x.f1.length x.f1) : Kd.FK k24 W ok x [.string x.f0, .slice A1 x.f1.length c1] := fun W2 hW => k24_mk W2 x l1 (g1 W2 hW)
def rd_T24 (xs : List S24) (i : Int) : S24 := xs.getD i.toNat z24
theorem at_T24 {w : World} {A : Option Addr} {n : Nat} {xs : List S24} (h : Kd.C k24 w A n xs) (i : Int) (h0 : 0 ≤ i) (h1 : i < n) : ∃ ad A1 c1, A = some ad ∧ w.cell? (ad.add (i.toNat * 2)) = some (.string (rd_T24 xs i).f0) ∧ w.cell? ⟨(ad.add (i.toNat * 2)).block, (ad.add (i.toNat * 2)).off + 1, none⟩ = some (.slice A1 (rd_T24 xs i).f1.length c1) ∧ (rd_T24 xs i).f1.length ≤ c1 ∧ k32.C w A1 (rd_T24 xs i).f1.length (rd_T24 xs i).f1 := by
  obtain ⟨ad, c, e, _, hK, hc0⟩ := Kd.C_get h z24 i h0 h1
  have hc : ∀ j u, c[j]? = some u → w.cell? (ad.add (i.toNat * 2 + j)) = some u := hc0
  obtain ⟨A1, c1, rfl, l1, g1⟩ := k24_open hK
  exact ⟨ad, A1, c1, e, hc 0 _ rfl, by rw [← add_field _ _ 1 (by omega)]; exact hc 1 _ rfl, l1, g1⟩
end Go.Proofs.YtmajmolbjiahlaaGreatDoor.PD
namespace Go.Proofs
open Go.Shelf
def Tryz.laysM173_ren : Go.Shelf.Ren := ⟨fun | 173 => 104 | 246 => 107 | 283 => 114 | 284 => 115 | 285 => 116 | 286 => 117 | 129 => 78 | 317 => 123 | 318 => 124 | 319 => 125 | 320 => 126 | 337 => 129 | 338 => 130 | n => n, fun | 2 => 2 | 3 => 3 | 9 => 9 | 4 => 4 | 171 => 134 | 0 => 0 | 53 => 94 | 37 => 111 | 5 => 5 | 173 => 136 | 212 => 145 | 51 => 92 | 20 => 20 | 213 => 146 | 46 => 69 | 232 => 150 | 233 => 151 | n => n, fun | 17 => 0 | 18 => 2 | 19 => 3 | n => n⟩
theorem Tryz.laysM173 : Go.Proofs.LaysM.n173 Tryz.prog Tryz.laysM173_ren := {
  mixed := by kernel_rfl
  f129 := Tryz.func78.trans (congrArg some (by kernel_rfl))
  f173 := Tryz.func104.trans (congrArg some (by kernel_rfl))
  f246 := Tryz.func107.trans (congrArg some (by kernel_rfl))
  f283 := Tryz.func114.trans (congrArg some (by kernel_rfl))
  f284 := Tryz.func115.trans (congrArg some (by kernel_rfl))
  f285 := Tryz.func116.trans (congrArg some (by kernel_rfl))
  f286 := Tryz.func117.trans (congrArg some (by kernel_rfl))
  f317 := Tryz.func123.trans (congrArg some (by kernel_rfl))
  f318 := Tryz.func124.trans (congrArg some (by kernel_rfl))
  f319 := Tryz.func125.trans (congrArg some (by kernel_rfl))
  f320 := Tryz.func126.trans (congrArg some (by kernel_rfl))
  f337 := Tryz.func129.trans (congrArg some (by kernel_rfl))
  f338 := Tryz.func130.trans (congrArg some (by kernel_rfl))
  t0 := Tryz.underlying0
  a0 := Tryz.isAgg0
  z0 := Tryz.sizeOf0
  v0 := Tryz.zeroValue0
  t2 := Tryz.underlying2
  a2 := Tryz.isAgg2
  z2 := Tryz.sizeOf2
  v2 := Tryz.zeroValue2
  t3 := Tryz.underlying3
  a3 := Tryz.isAgg3
  z3 := Tryz.sizeOf3
  v3 := Tryz.zeroValue3
  t4 := Tryz.underlying4
  a4 := Tryz.isAgg4
  z4 := Tryz.sizeOf4
  v4 := Tryz.zeroValue4
  t5 := Tryz.underlying5
  a5 := Tryz.isAgg5
  z5 := Tryz.sizeOf5
  v5 := Tryz.zeroValue5
  t9 := Tryz.underlying9
  a9 := Tryz.isAgg9
  z9 := Tryz.sizeOf9
  v9 := Tryz.zeroValue9
  t20 := Tryz.underlying20
  a20 := Tryz.isAgg20
  z20 := Tryz.sizeOf20
  v20 := Tryz.zeroValue20
  t37 := Tryz.underlying111
  a37 := Tryz.isAgg111
  z37 := Tryz.sizeOf111
  v37 := Tryz.zeroValue111
  t46 := Tryz.underlying69
  a46 := Tryz.isAgg69
  z46 := Tryz.sizeOf69
  v46 := Tryz.zeroValue69
  t51 := Tryz.underlying92
  a51 := Tryz.isAgg92
  z51 := Tryz.sizeOf92
  v51 := Tryz.zeroValue92
  t53 := Tryz.underlying94
  a53 := Tryz.isAgg94
  z53 := Tryz.sizeOf94
  v53 := Tryz.zeroValue94
  t171 := Tryz.underlying134
  a171 := Tryz.isAgg134
  z171 := Tryz.sizeOf134
  v171 := Tryz.zeroValue134
  t173 := Tryz.underlying136
  a173 := Tryz.isAgg136
  z173 := Tryz.sizeOf136
  v173 := Tryz.zeroValue136
  t212 := Tryz.underlying145
  a212 := Tryz.isAgg145
  z212 := Tryz.sizeOf145
  v212 := Tryz.zeroValue145
  t213 := Tryz.underlying146
  a213 := Tryz.isAgg146
  z213 := Tryz.sizeOf146
  t232 := Tryz.underlying150
  a232 := Tryz.isAgg150
  z232 := Tryz.sizeOf150
  v232 := Tryz.zeroValue150
  t233 := Tryz.underlying151
  a233 := Tryz.isAgg151
  z233 := Tryz.sizeOf151
  v233 := Tryz.zeroValue151
  g17 := by kernel_rfl
  g18 := by kernel_rfl
  g19 := by kernel_rfl
  i0 := by kernel_rfl
  i2 := by kernel_rfl
  i3 := by kernel_rfl
  i4 := by kernel_rfl
  i5 := by kernel_rfl
  i9 := by kernel_rfl
  i20 := by kernel_rfl
  i37 := by kernel_rfl
  i46 := by kernel_rfl
  i51 := by kernel_rfl
  i53 := by kernel_rfl
  i171 := by kernel_rfl
  i173 := by kernel_rfl
  i212 := by kernel_rfl
  i232 := by kernel_rfl
  i233 := by kernel_rfl
  m17 := by kernel_rfl
  m18 := by kernel_rfl
  m19 := by kernel_rfl }
open Go.RowKit Go.Sort Go.Lib in
theorem Tryz.strconv_FormatInt_10 (n : Int) (h0 : -9223372036854775808 ≤ n) (h1 : n ≤ 9223372036854775807) (w : World) (htab : Lib.TabIs Tryz.prog w "internal/strconv.uint64pow10" .u64 Lib.pow10Tab) :
    Calls Tryz.prog 104 #[.int .i64 n, .int .i64 10] w fun e w' => e = .returned (.string ⟨(Lib.itoa n).toArray⟩) ∧ ∃ k os, w' = grow (w.drewN k) os := Any.strconv_FormatInt_10 Tryz.laysM173 n h0 h1 w htab
def Tryz.lays105_ren : Go.Shelf.Ren := ⟨fun | 105 => 105 | 212 => 108 | 99 => 109 | 165 => 110 | 166 => 111 | 170 => 112 | 169 => 113 | 263 => 118 | 264 => 119 | 206 => 120 | 240 => 121 | 241 => 122 | 276 => 127 | 277 => 128 | n => n, fun | 9 => 9 | 3 => 3 | 4 => 4 | 20 => 20 | 0 => 0 | 46 => 69 | 109 => 120 | 5 => 5 | 72 => 125 | 76 => 129 | 51 => 92 | 146 => 138 | 53 => 94 | 148 => 140 | 70 => 123 | 37 => 111 | 75 => 128 | 127 => 142 | 164 => 147 | 80 => 132 | n => n, fun | n => n⟩
theorem Tryz.lays105 : Go.Proofs.Lays.n105 Tryz.prog Tryz.lays105_ren := {
  mixed := by kernel_rfl
  f99 := Tryz.func109.trans (congrArg some (by kernel_rfl))
  f105 := Tryz.func105.trans (congrArg some (by kernel_rfl))
  f165 := Tryz.func110.trans (congrArg some (by kernel_rfl))
  f166 := Tryz.func111.trans (congrArg some (by kernel_rfl))
  f169 := Tryz.func113.trans (congrArg some (by kernel_rfl))
  f170 := Tryz.func112.trans (congrArg some (by kernel_rfl))
  f206 := Tryz.func120.trans (congrArg some (by kernel_rfl))
  f212 := Tryz.func108.trans (congrArg some (by kernel_rfl))
  f240 := Tryz.func121.trans (congrArg some (by kernel_rfl))
  f241 := Tryz.func122.trans (congrArg some (by kernel_rfl))
  f263 := Tryz.func118.trans (congrArg some (by kernel_rfl))
  f264 := Tryz.func119.trans (congrArg some (by kernel_rfl))
  f276 := Tryz.func127.trans (congrArg some (by kernel_rfl))
  f277 := Tryz.func128.trans (congrArg some (by kernel_rfl))
  t0 := Tryz.underlying0
  a0 := Tryz.isAgg0
  z0 := Tryz.sizeOf0
  v0 := Tryz.zeroValue0
  t3 := Tryz.underlying3
  a3 := Tryz.isAgg3
  z3 := Tryz.sizeOf3
  v3 := Tryz.zeroValue3
  t4 := Tryz.underlying4
  a4 := Tryz.isAgg4
  z4 := Tryz.sizeOf4
  v4 := Tryz.zeroValue4
  t5 := Tryz.underlying5
  a5 := Tryz.isAgg5
  z5 := Tryz.sizeOf5
  v5 := Tryz.zeroValue5
  t9 := Tryz.underlying9
  a9 := Tryz.isAgg9
  z9 := Tryz.sizeOf9
  v9 := Tryz.zeroValue9
  t20 := Tryz.underlying20
  a20 := Tryz.isAgg20
  z20 := Tryz.sizeOf20
  v20 := Tryz.zeroValue20
  t37 := Tryz.underlying111
  a37 := Tryz.isAgg111
  z37 := Tryz.sizeOf111
  v37 := Tryz.zeroValue111
  t46 := Tryz.underlying69
  a46 := Tryz.isAgg69
  z46 := Tryz.sizeOf69
  v46 := Tryz.zeroValue69
  t51 := Tryz.underlying92
  a51 := Tryz.isAgg92
  z51 := Tryz.sizeOf92
  v51 := Tryz.zeroValue92
  t53 := Tryz.underlying94
  a53 := Tryz.isAgg94
  z53 := Tryz.sizeOf94
  v53 := Tryz.zeroValue94
  t70 := Tryz.underlying123
  a70 := Tryz.isAgg123
  z70 := Tryz.sizeOf123
  v70 := Tryz.zeroValue123
  t72 := Tryz.underlying125
  a72 := Tryz.isAgg125
  z72 := Tryz.sizeOf125
  v72 := Tryz.zeroValue125
  t75 := Tryz.underlying128
  a75 := Tryz.isAgg128
  z75 := Tryz.sizeOf128
  v75 := Tryz.zeroValue128
  t76 := Tryz.underlying129
  a76 := Tryz.isAgg129
  z76 := Tryz.sizeOf129
  v76 := Tryz.zeroValue129
  t109 := Tryz.underlying120
  a109 := Tryz.isAgg120
  z109 := Tryz.sizeOf120
  v109 := Tryz.zeroValue120
  t127 := Tryz.underlying142
  a127 := Tryz.isAgg142
  z127 := Tryz.sizeOf142
  v127 := Tryz.zeroValue142
  t146 := Tryz.underlying138
  a146 := Tryz.isAgg138
  z146 := Tryz.sizeOf138
  v146 := Tryz.zeroValue138
  t148 := Tryz.underlying140
  a148 := Tryz.isAgg140
  z148 := Tryz.sizeOf140
  v148 := Tryz.zeroValue140
  t164 := Tryz.underlying147
  a164 := Tryz.isAgg147
  z164 := Tryz.sizeOf147
  v164 := Tryz.zeroValue147 }
theorem Tryz.Builder_Extra_105 : Builder.Extra Tryz.prog Tryz.lays105_ren := {
  sizeBuilder := by kernel_rfl
  liesBuilder := by kernel_rfl
  t5 := Tryz.underlying5
  a5 := Tryz.isAgg5
  z5 := Tryz.sizeOf5
  v5 := Tryz.zeroValue5
  infoByte := by kernel_rfl
  cellsByte := by kernel_rfl
  sizeByte := by kernel_rfl
  neB5 := by decide }
open Go.RowKit Go.Lib in
theorem Tryz.strings_Repeat (s : ByteArray) (c : Nat) (w : World) (hc : c ≤ 9223372036854775807) (hlen : s.size * c ≤ 140737488355328) :
    Calls Tryz.prog 105 #[.string s, .int .i64 c] w fun e w' => e = .returned (.string ⟨(Lib.repeatL s.data.toList c).toArray⟩) ∧ Below w.heap.size w w' := Any.strings_Repeat Tryz.lays105 Tryz.Builder_Extra_105 s c w hc hlen
def Tryz.laysSlF6_f28_ren : Go.Shelf.Ren := ⟨fun | 6 => 28 | 15 => 49 | 14 => 48 | 28 => 77 | 29 => 78 | 20 => 69 | 21 => 70 | 22 => 71 | 23 => 72 | 24 => 73 | 25 => 74 | 26 => 75 | 27 => 76 | 46 => 89 | 47 => 90 | 48 => 91 | 49 => 92 | 50 => 93 | 57 => 103 | n => n, fun | 22 => 45 | 24 => 2 | 25 => 47 | 3 => 3 | 39 => 69 | 0 => 0 | 53 => 92 | 55 => 94 | 4 => 4 | 46 => 85 | 45 => 84 | 50 => 89 | 5 => 5 | 9 => 9 | 66 => 105 | 70 => 109 | 76 => 115 | 77 => 116 | n => n, fun | n => n⟩
theorem Tryz.laysSlF6_f28 : Go.Proofs.SlLaysF.n6 Tryz.prog Tryz.laysSlF6_f28_ren := {
  mixed := by kernel_rfl
  f6 := ⟨Tryz.f28.name, by decide, Tryz.func28.trans (congrArg some (by kernel_rfl))⟩
  f14 := ⟨Tryz.f48.name, by decide, Tryz.func48.trans (congrArg some (by kernel_rfl))⟩
  f15 := Tryz.func49.trans (congrArg some (by kernel_rfl))
  f20 := ⟨Tryz.f69.name, by decide, Tryz.func69.trans (congrArg some (by kernel_rfl))⟩
  f21 := ⟨Tryz.f70.name, by decide, Tryz.func70.trans (congrArg some (by kernel_rfl))⟩
  f22 := ⟨Tryz.f71.name, by decide, Tryz.func71.trans (congrArg some (by kernel_rfl))⟩
  f23 := ⟨Tryz.f72.name, by decide, Tryz.func72.trans (congrArg some (by kernel_rfl))⟩
  f24 := ⟨Tryz.f73.name, by decide, Tryz.func73.trans (congrArg some (by kernel_rfl))⟩
  f25 := ⟨Tryz.f74.name, by decide, Tryz.func74.trans (congrArg some (by kernel_rfl))⟩
  f26 := ⟨Tryz.f75.name, by decide, Tryz.func75.trans (congrArg some (by kernel_rfl))⟩
  f27 := ⟨Tryz.f76.name, by decide, Tryz.func76.trans (congrArg some (by kernel_rfl))⟩
  f28 := Tryz.func77.trans (congrArg some (by kernel_rfl))
  f29 := Tryz.func78.trans (congrArg some (by kernel_rfl))
  f46 := ⟨Tryz.f89.name, by decide, Tryz.func89.trans (congrArg some (by kernel_rfl))⟩
  f47 := Tryz.func90.trans (congrArg some (by kernel_rfl))
  f48 := Tryz.func91.trans (congrArg some (by kernel_rfl))
  f49 := ⟨Tryz.f92.name, by decide, Tryz.func92.trans (congrArg some (by kernel_rfl))⟩
  f50 := ⟨Tryz.f93.name, by decide, Tryz.func93.trans (congrArg some (by kernel_rfl))⟩
  f57 := ⟨Tryz.f103.name, by decide, Tryz.func103.trans (congrArg some (by kernel_rfl))⟩
  t0 := Tryz.underlying0
  a0 := Tryz.isAgg0
  z0 := Tryz.sizeOf0
  v0 := Tryz.zeroValue0
  t3 := Tryz.underlying3
  a3 := Tryz.isAgg3
  z3 := Tryz.sizeOf3
  v3 := Tryz.zeroValue3
  t4 := Tryz.underlying4
  a4 := Tryz.isAgg4
  z4 := Tryz.sizeOf4
  v4 := Tryz.zeroValue4
  t5 := Tryz.underlying5
  a5 := Tryz.isAgg5
  z5 := Tryz.sizeOf5
  v5 := Tryz.zeroValue5
  t9 := Tryz.underlying9
  a9 := Tryz.isAgg9
  z9 := Tryz.sizeOf9
  v9 := Tryz.zeroValue9
  t22 := Tryz.underlying45
  a22 := Tryz.isAgg45
  z22 := Tryz.sizeOf45
  v22 := Tryz.zeroValue45
  a24 := Tryz.isAgg2
  z24 := Tryz.sizeOf2
  t25 := Tryz.underlying47
  a25 := Tryz.isAgg47
  z25 := Tryz.sizeOf47
  v25 := Tryz.zeroValue47
  t39 := Tryz.underlying69
  a39 := Tryz.isAgg69
  z39 := Tryz.sizeOf69
  v39 := Tryz.zeroValue69
  t45 := Tryz.underlying84
  a45 := Tryz.isAgg84
  z45 := Tryz.sizeOf84
  v45 := Tryz.zeroValue84
  t46 := Tryz.underlying85
  a46 := Tryz.isAgg85
  z46 := Tryz.sizeOf85
  v46 := Tryz.zeroValue85
  t50 := Tryz.underlying89
  a50 := Tryz.isAgg89
  z50 := Tryz.sizeOf89
  v50 := Tryz.zeroValue89
  t53 := Tryz.underlying92
  a53 := Tryz.isAgg92
  z53 := Tryz.sizeOf92
  v53 := Tryz.zeroValue92
  t55 := Tryz.underlying94
  a55 := Tryz.isAgg94
  z55 := Tryz.sizeOf94
  v55 := Tryz.zeroValue94
  t66 := Tryz.underlying105
  a66 := Tryz.isAgg105
  z66 := Tryz.sizeOf105
  v66 := Tryz.zeroValue105
  t70 := Tryz.underlying109
  a70 := Tryz.isAgg109
  z70 := Tryz.sizeOf109
  v70 := Tryz.zeroValue109
  t76 := Tryz.underlying115
  a76 := Tryz.isAgg115
  z76 := Tryz.sizeOf115
  v76 := Tryz.zeroValue115
  t77 := Tryz.underlying116
  a77 := Tryz.isAgg116
  z77 := Tryz.sizeOf116
  v77 := Tryz.zeroValue116 }
def Tryz.laysSlF06_f28_ren : Go.Shelf.Ren := ⟨fun | 6 => 28 | 15 => 49 | 14 => 48 | 28 => 77 | 29 => 78 | 20 => 69 | 21 => 70 | 22 => 71 | 23 => 72 | 24 => 73 | 25 => 74 | 26 => 75 | 27 => 76 | 46 => 89 | 47 => 90 | 48 => 91 | 49 => 92 | 50 => 93 | 57 => 103 | n => n, fun | 22 => 45 | 24 => 2 | 25 => 47 | 3 => 3 | 39 => 69 | 0 => 0 | 53 => 92 | 55 => 94 | 4 => 4 | 46 => 85 | 45 => 84 | 50 => 89 | 5 => 5 | 9 => 9 | 66 => 105 | 70 => 109 | 76 => 115 | 77 => 116 | n => n, fun | n => n⟩
theorem Tryz.laysSlF06_f28 : Go.Proofs.SlLaysF0.n6 Tryz.prog Tryz.laysSlF06_f28_ren := {
  mixed := by kernel_rfl
  f6 := ⟨Tryz.f28.name, by decide, Tryz.func28.trans (congrArg some (by kernel_rfl))⟩
  f14 := ⟨Tryz.f48.name, by decide, Tryz.func48.trans (congrArg some (by kernel_rfl))⟩
  f15 := Tryz.func49.trans (congrArg some (by kernel_rfl))
  f20 := ⟨Tryz.f69.name, by decide, Tryz.func69.trans (congrArg some (by kernel_rfl))⟩
  f21 := ⟨Tryz.f70.name, by decide, Tryz.func70.trans (congrArg some (by kernel_rfl))⟩
  f22 := ⟨Tryz.f71.name, by decide, Tryz.func71.trans (congrArg some (by kernel_rfl))⟩
  f23 := ⟨Tryz.f72.name, by decide, Tryz.func72.trans (congrArg some (by kernel_rfl))⟩
  f24 := ⟨Tryz.f73.name, by decide, Tryz.func73.trans (congrArg some (by kernel_rfl))⟩
  f25 := ⟨Tryz.f74.name, by decide, Tryz.func74.trans (congrArg some (by kernel_rfl))⟩
  f26 := ⟨Tryz.f75.name, by decide, Tryz.func75.trans (congrArg some (by kernel_rfl))⟩
  f27 := ⟨Tryz.f76.name, by decide, Tryz.func76.trans (congrArg some (by kernel_rfl))⟩
  f28 := Tryz.func77.trans (congrArg some (by kernel_rfl))
  f29 := Tryz.func78.trans (congrArg some (by kernel_rfl))
  f46 := ⟨Tryz.f89.name, by decide, Tryz.func89.trans (congrArg some (by kernel_rfl))⟩
  f47 := Tryz.func90.trans (congrArg some (by kernel_rfl))
  f48 := Tryz.func91.trans (congrArg some (by kernel_rfl))
  f49 := ⟨Tryz.f92.name, by decide, Tryz.func92.trans (congrArg some (by kernel_rfl))⟩
  f50 := ⟨Tryz.f93.name, by decide, Tryz.func93.trans (congrArg some (by kernel_rfl))⟩
  f57 := ⟨Tryz.f103.name, by decide, Tryz.func103.trans (congrArg some (by kernel_rfl))⟩
  t0 := Tryz.underlying0
  a0 := Tryz.isAgg0
  z0 := Tryz.sizeOf0
  v0 := Tryz.zeroValue0
  t3 := Tryz.underlying3
  a3 := Tryz.isAgg3
  z3 := Tryz.sizeOf3
  v3 := Tryz.zeroValue3
  t4 := Tryz.underlying4
  a4 := Tryz.isAgg4
  z4 := Tryz.sizeOf4
  v4 := Tryz.zeroValue4
  t5 := Tryz.underlying5
  a5 := Tryz.isAgg5
  z5 := Tryz.sizeOf5
  v5 := Tryz.zeroValue5
  t9 := Tryz.underlying9
  a9 := Tryz.isAgg9
  z9 := Tryz.sizeOf9
  v9 := Tryz.zeroValue9
  t22 := Tryz.underlying45
  a22 := Tryz.isAgg45
  z22 := Tryz.sizeOf45
  v22 := Tryz.zeroValue45
  t25 := Tryz.underlying47
  a25 := Tryz.isAgg47
  z25 := Tryz.sizeOf47
  v25 := Tryz.zeroValue47
  t39 := Tryz.underlying69
  a39 := Tryz.isAgg69
  z39 := Tryz.sizeOf69
  v39 := Tryz.zeroValue69
  t45 := Tryz.underlying84
  a45 := Tryz.isAgg84
  z45 := Tryz.sizeOf84
  v45 := Tryz.zeroValue84
  t46 := Tryz.underlying85
  a46 := Tryz.isAgg85
  z46 := Tryz.sizeOf85
  v46 := Tryz.zeroValue85
  t50 := Tryz.underlying89
  a50 := Tryz.isAgg89
  z50 := Tryz.sizeOf89
  v50 := Tryz.zeroValue89
  t53 := Tryz.underlying92
  a53 := Tryz.isAgg92
  z53 := Tryz.sizeOf92
  v53 := Tryz.zeroValue92
  t55 := Tryz.underlying94
  a55 := Tryz.isAgg94
  z55 := Tryz.sizeOf94
  v55 := Tryz.zeroValue94
  t66 := Tryz.underlying105
  a66 := Tryz.isAgg105
  z66 := Tryz.sizeOf105
  v66 := Tryz.zeroValue105
  t70 := Tryz.underlying109
  a70 := Tryz.isAgg109
  z70 := Tryz.sizeOf109
  v70 := Tryz.zeroValue109
  t76 := Tryz.underlying115
  a76 := Tryz.isAgg115
  z76 := Tryz.sizeOf115
  v76 := Tryz.zeroValue115
  t77 := Tryz.underlying116
  a77 := Tryz.isAgg116
  z77 := Tryz.sizeOf116
  v77 := Tryz.zeroValue116 }
open Go.RowKit Go.Lib Go.Sort in
theorem Tryz.slices_SortFunc_none {α : Type} [Inhabited α] (p : Option Addr) (cap : Nat) (fv : Value) (w : World) :
    Calls Tryz.prog 28 #[.slice p 0 cap, fv] w fun e w' => e = .returned (.tuple #[]) ∧ w' = w := AnyF.slices_SortFunc_none Tryz.laysSlF06_f28 p cap fv w
open Go.RowKit Go.Lib Go.Sort in
theorem Tryz.slices_SortFunc_total {α : Type} [Inhabited α] (enc : α → Value) (h1 : OneCell enc) (cf : α → α → Int) (hO : SWO (ltOf cf)) (g : Nat) (cb : Array Value) (blk off cap : Nat) (d : Array α) (w : World) (eg : ∀ args w, (callFunc g args).run Tryz.prog w = .ok (.enter g args) w) (hcmp : CmpLays1 Tryz.prog g cb enc cf blk off d.size w) (hH : Holds enc w blk off d) (hblk : blk < w.heap.size) (hsz : d.size < 4611686018427387904) (hT : ∀ x y, (ltOf cf) x y = false → (ltOf cf) y x = false → x = y) :
    Calls Tryz.prog 28 #[.slice (some ⟨blk, off, none⟩) d.size cap, .func (.func g) #[] cb] w fun e w' =>
      e = .returned (.tuple #[]) ∧ ∃ n os, w' = sortWorld enc w blk off n (d.toList.mergeSort fun x y => !(ltOf cf) y x).toArray os := Any.slices_SortFunc_total Tryz.laysSlF6_f28 enc h1 cf hO g cb blk off cap d w eg hcmp hH hblk hsz hT
end Go.Proofs
namespace Go.Proofs.YtmajmolbjiahlaaGreatDoor.PD
open Go.RowKit Go.Shelf Go.Sort Go.Proofs.YtmajmolbjiahlaaGreatDoorW.PrintWords Go.Proofs.YtmajmolbjiahlaaGreatDoorW.PrintLast Go.Proofs.YtmajmolbjiahlaaGreatDoorW.PrintMore
attribute [local go_sem] isSome_setCell max2_int min2_int max_two min_two
set_option linter.unusedVariables false
set_option linter.unusedSimpArgs false
def Tab (w : World) : Prop := Lib.TabIs Tryz.prog w "internal/strconv.uint64pow10" .u64 Lib.pow10Tab
theorem Tab.below {w w' : World} (h : Tab w) (hb : Below w.heap.size w w') : Tab w' := by
  unfold Tab Lib.TabIs World.var? at *
  rw [show Tryz.prog.globalNamed "internal/strconv.uint64pow10" = some 0 by kernel_rfl] at *
  simp only [Option.bind_some, Option.bind_eq_bind] at *
  have hlt : 0 < w.heap.size := by
    rcases Nat.eq_zero_or_pos w.heap.size with h0 | h0
    · rw [Array.getElem?_eq_none (by omega)] at h
      cases h
    · exact h0
  rw [hb.block 0 hlt]
  exact h
theorem grow_below (w : World) (k : Nat) (os : Array Obj) : Below w.heap.size w (grow (w.drewN k) os) := ⟨rfl, rfl, rfl, by simp [grow, World.drewN], fun i hi => heap_grow_old _ _ hi⟩
def digB (n : Int) : ByteArray := ⟨(Lib.itoa n).toArray⟩
theorem fmt_calls (n : Int) (w : World) (h0 : -9223372036854775808 ≤ n) (h1 : n ≤ 9223372036854775807) (ht : Tab w) :
    Calls Tryz.prog 104 #[.int .i64 n, .int .i64 10] w fun e w' => e = .returned (.string (digB n)) ∧ Below w.heap.size w w' := by
  refine (Tryz.strconv_FormatInt_10 n h0 h1 w ht).mono ?_
  rintro e w' ⟨rfl, k, os, rfl⟩
  exact ⟨rfl, grow_below w k os⟩
def oB (c : Nat) : ByteArray := ⟨(Lib.repeatL [48] c).toArray⟩
theorem oB_size (c : Nat) : (oB c).size = c := by
  show (Lib.repeatL [48] c).toArray.size = c
  simp [Lib.repeatL_length]
theorem oo_calls (c : Nat) (w : World) (hc : c ≤ 1000) : Calls Tryz.prog 105 #[.string ⟨#[48]⟩, .int .i64 (c : Int)] w fun e w' => e = .returned (.string (oB c)) ∧ Below w.heap.size w w' :=
  Tryz.strings_Repeat ⟨#[48]⟩ c w (by omega) (by show 1 * c ≤ _; omega)
def padB (n : Int) (width : Nat) : ByteArray := oB (width - (digB n).size) ++ digB n
set_option maxRecDepth 100000 in
set_option maxHeartbeats 1600000 in
theorem padded_calls (n : Int) (width : Nat) (w : World) (h0 : -9223372036854775808 ≤ n) (h1 : n ≤ 9223372036854775807) (hw : width ≤ 1000) (hl : (digB n).size ≤ 1000) (ht : Tab w) :
    Calls Tryz.prog 95 #[.int .i64 n, .int .i64 (width : Int)] w fun e w' => e = .returned (.string (padB n width)) ∧ Below w.heap.size w w' := by
  have HF := Aside0.mk (fmt_calls n w h0 h1 ht)
  clear ht
  unfold padB
  obtain ⟨s, hs⟩ : ∃ s, digB n = s := ⟨_, rfl⟩
  rw [hs] at HF hl ⊢
  clear hs
  have hwr : IntKind.i64.wrap ((width : Int) - (s.size : Int)) = (width : Int) - (s.size : Int) := by rw [i64_w]; simp only [wrap64]; omega
  by_cases hc : s.size < width
  · have HR : Aside0 (∀ W, Calls Tryz.prog 105 #[.string ⟨#[48]⟩, .int .i64 ((width : Int) - (s.size : Int))] W fun e w' => e = .returned (.string (oB (width - s.size))) ∧ Below W.heap.size W w') := ⟨fun W => by
      rw [show ((width : Int) - (s.size : Int)) = ((width - s.size : Nat) : Int) by omega]
      exact oo_calls _ W (by omega)⟩
    have hsz := oB_size (width - s.size)
    obtain ⟨z, hz⟩ : ∃ z, oB (width - s.size) = z := ⟨_, rfl⟩
    rw [hz] at HR hsz ⊢
    have hlt := eq_false (show ¬ 9223372036854775807 < z.size + s.size by omega)
    clear hsz
    clear hz
    go_enter Tryz.func95, Tryz.ntmps95
    go_wp2_with (first | (go_at_call 104; refine HF.out.mono ?_; rintro e w2 ⟨rfl, hb2⟩; have HB2 := Aside0.mk hb2; clear hb2) | (go_at_call 105; refine (HR.out _).mono ?_; rintro e w3 ⟨rfl, hb3⟩; have HB3 := Aside0.mk (HB2.out.trans (hb3.mono HB2.out.size)); clear hb3))
    go_ret
    exact ⟨rfl, HB3.out⟩
  · have HR : Aside0 (∀ W, Calls Tryz.prog 105 #[.string ⟨#[48]⟩, .int .i64 0] W fun e w' => e = .returned (.string (oB (width - s.size))) ∧ Below W.heap.size W w') := ⟨fun W => by
      rw [show width - s.size = 0 by omega]
      exact oo_calls 0 W (by omega)⟩
    have hsz := oB_size (width - s.size)
    obtain ⟨z, hz⟩ : ∃ z, oB (width - s.size) = z := ⟨_, rfl⟩
    rw [hz] at HR hsz ⊢
    have hlt := eq_false (show ¬ 9223372036854775807 < z.size + s.size by omega)
    clear hsz
    clear hz
    go_enter Tryz.func95, Tryz.ntmps95
    go_wp2_with (first | (go_at_call 104; refine HF.out.mono ?_; rintro e w2 ⟨rfl, hb2⟩; have HB2 := Aside0.mk hb2; clear hb2) | (go_at_call 105; refine (HR.out _).mono ?_; rintro e w3 ⟨rfl, hb3⟩; have HB3 := Aside0.mk (HB2.out.trans (hb3.mono HB2.out.size)); clear hb3))
    go_ret
    exact ⟨rfl, HB3.out⟩
def date_padded.f (a0 : Int) (a1 : Int) : Option (ByteArray) := if -9223372036854775808 ≤ a0 ∧ a0 ≤ 9223372036854775807 ∧ 0 ≤ a1 ∧ a1 ≤ 1000 ∧ (digB a0).size ≤ 1000 then some (padB a0 a1.toNat) else none
theorem date_padded.calls (a0 : Int) (a1 : Int) (r : ByteArray) (w : World) (h : date_padded.f a0 a1 = some r) (hTab : Tab w) :
    Calls Tryz.prog 95 #[.int .i64 a0, .int .i64 a1] w fun e w' => e = .returned (.string r) ∧ Below w.heap.size w w' := by
  unfold date_padded.f at h
  split at h
  case isFalse => cases h
  rename_i hc
  obtain rfl := Option.some.inj h
  have := padded_calls a0 a1.toNat w hc.1 hc.2.1 (by omega) hc.2.2.2.2 hTab
  rwa [show ((a1.toNat : Nat) : Int) = a1 by omega] at this
end Go.Proofs.YtmajmolbjiahlaaGreatDoor.PD
namespace Go.Proofs.YtmajmolbjiahlaaGreatDoor.PD
open Go.ChangeShapes Go.WideShapes Go.ChangeAt Go.RowKit Go.Proofs.YtmajmolbjiahlaaGreatDoorW.PrintWords
set_option linter.unusedVariables false
abbrev okW (x : S30) : Prop := (Lit.int .i64 x.f0).wf = true ∧ (Lit.int .i64 x.f1).wf = true
theorem op_wday : Op Tryz.prog 30 k30 okW :=
  op_iso (fun x : S30 => (x.f0, x.f1)) (fun a => ⟨a.1, a.2⟩) (fun _ => rfl)
    (op_struct (L := [(0, 3), (1, 3)]) Tryz.underlying30 rfl (by kernel_rfl) (opF_cons (op_int Tryz.underlying3) (by kernel_rfl) (opF_one (op_int Tryz.underlying3) (by kernel_rfl))))
theorem op_obs : Op Tryz.prog 32 k32 (fun x => (Lit.int .i64 x.f0).wf = true ∧ (Lit.int .i64 x.f1).wf = true ∧ (Lit.int .i64 x.f2).wf = true ∧ True ∧ (Lit.int .i64 x.f4).wf = true ∧ okW x.f5) :=
  op_iso (fun x : S32 => (x.f0, x.f1, x.f2, x.f3, x.f4, x.f5)) (fun a => ⟨a.1, a.2.1, a.2.2.1, a.2.2.2.1, a.2.2.2.2.1, a.2.2.2.2.2⟩) (fun _ => rfl)
    (op_struct (L := [(0, 2), (1, 2), (2, 2), (3, 4), (4, 3), (5, 30)]) Tryz.underlying32 rfl (by kernel_rfl)
      (opF_cons (op_int Tryz.underlying2) (by kernel_rfl) (opF_cons (op_int Tryz.underlying2) (by kernel_rfl) (opF_cons (op_int Tryz.underlying2) (by kernel_rfl)
        (opF_cons (op_bool Tryz.underlying4) (by kernel_rfl) (opF_cons (op_int Tryz.underlying3) (by kernel_rfl) (opF_one op_wday (by kernel_rfl))))))))
theorem op_zone : Op Tryz.prog 24 (Kd.pair Kd.string (Kd.slice 32 k32)) (fun x => x.1.size ≤ reachBytes ∧ x.2.length * 56 ≤ reachBytes ∧ ∀ q ∈ x.2, (Lit.int .i64 q.f0).wf = true ∧ (Lit.int .i64 q.f1).wf = true ∧ (Lit.int .i64 q.f2).wf = true ∧ True ∧ (Lit.int .i64 q.f4).wf = true ∧ okW q.f5) :=
  op_struct (L := [(0, 9), (1, 22)]) Tryz.underlying24 rfl (by kernel_rfl)
    (opF_cons (op_string Tryz.underlying9) (by kernel_rfl) (opF_one (op_slice Tryz.underlying22 (by kernel_rfl) (by kernel_rfl) op_obs) (by kernel_rfl)))
set_option maxRecDepth 100000 in
theorem open_zone {H : Type} {enc : TypeId × Value → H} {w : World} {base : Nat} {spare : Nat → Bool} {held : Bool} {r : Reach} {b0 : Nat} {v : Value} {d : DataW H} {p : List MemPlace} (hv : Value.okWide Tryz.prog w r b0 24 v) (h : DataW.Trod enc Tryz.prog w base spare held 24 v d p)
    (hs : ∀ n ∈ d.weights Tryz.prog 24, n ≤ reachBytes) :
    ∃ (s : ByteArray) (A : Option Addr) (c : Nat) (l : List S32), v = .agg #[.string s, .slice A l.length c] ∧ Kd.C k32 w A l.length l ∧ l.length ≤ c ∧ l.length < 4398046511104 := by
  obtain ⟨cs, rfl, hsz⟩ := okWide_struct Tryz.underlying24 hv
  obtain ⟨fuel, hf⟩ := h
  obtain ⟨⟨s, l⟩, hK, _, h2, _⟩ := op_zone enc w base spare held fuel _ _ hf hs
  obtain ⟨x0, x1, hcs, hx0, ⟨A, c, rfl, hc, hC⟩⟩ := hK
  obtain rfl : x0 = [.string s] := hx0
  refine ⟨s, A, c, l, ?_, hC, hc, ?_⟩
  · have hcs' : cs.toList = [.string s, .slice A l.length c] := by simpa [Value.cells] using hcs
    rw [show cs = cs.toList.toArray by simp, hcs']
  · unfold reachBytes at h2; simp only at h2; omega
theorem own : ownKnob Tryz.prog.godebug = none := by kernel_rfl
theorem laidOut : laidOutB Tryz.prog = true := by kernel_rfl
theorem weighs {H : Type} {P : Program} {ts : List TypeId} {ds : List (DataW H)} (h : (DataW.weightsEach P ts ds).all (· ≤ reachBytes) = true) {j : Nat} {t : TypeId} {d : DataW H} (ht : ts[j]? = some t) (hd : ds[j]? = some d) : ∀ n ∈ d.weights P t, n ≤ reachBytes :=
  fun n hn => by simpa using List.all_eq_true.1 h n (DataW.weights_mem_each (j := j) ht hd n hn)
open _root_.Go.Proofs.YtmajmolbjiahlaaGreatDoor.Rows
abbrev laidL : List (String × DataW Unit) := zoneTellsRow.laid
theorem gPow : Tryz.prog.globalNamed "internal/strconv.uint64pow10" = some 0 := by kernel_rfl
theorem tab_of {W : World} (h : laidMetH Tryz.prog laidL W) : Tab W := by
  rw [MakeChecks.laidMetH_plain _ _ _ (by kernel_rfl)] at h
  have h2 := h.filter (fun x => x.1 == "internal/strconv.uint64pow10")
  have e : laidL.filter (fun x => x.1 == "internal/strconv.uint64pow10") = [("internal/strconv.uint64pow10", Lib.tabData .u64 Lib.pow10Tab)] := by kernel_rfl
  rw [e] at h2
  exact Lib.tabIs_of_head gPow (t := 145) (e := 94) (n := 20) (by kernel_rfl) (by kernel_rfl) (by kernel_rfl) (by kernel_rfl) (by kernel_rfl) h2
set_option maxRecDepth 100000 in
theorem door_met (os : Os) (args : Array Value) : laidMetH Tryz.prog laidL ((World.doorLaid Tryz.prog 400 os).forCall (fun _ _ => 0) ⟨#[], args, []⟩).memory := by
  rw [MakeChecks.laidMetH_plain _ _ _ (by kernel_rfl)]
  exact laidMet_of_run' 8 (by kernel_rfl) (by kernel_rfl)
end Go.Proofs.YtmajmolbjiahlaaGreatDoor.PD
namespace Go.Proofs.YtmajmolbjiahlaaGreatDoor.PD
open Go.RowKit Go.Proofs.YtmajmolbjiahlaaGreatDoorW.PrintWords Go.Proofs.YtmajmolbjiahlaaGreatDoorW.PrintLast Go.Proofs.YtmajmolbjiahlaaGreatDoorW.PrintMore
section
variable {P : Program} {ops : Array Oper} {rest : List Oper} {o : Oper} {a : Act} {Q : Exit → Act → World → Prop} {W : World}
theorem gate_tmp {t : Tmp} {xs : Array Operand} {ts : Array TypeId} (_ho : o.op = .call { callee := .value (.tmp t), args := xs, argTypes := ts }) (h : wpList P ops Q (o :: rest) a W) : wpList P ops Q (o :: rest) a W := h
theorem goesF_ {rest : List Oper} {oi : Oper} {a : Act} {w : World} (N : Option Tmp) (hd : oi.dst = N) (hg : oi.guard = none) {f : FuncId} {fn : Func} {xs : Array Operand} {ts : Array TypeId} (hf : P.funcs[f]? = some fn) (hname : (fn.name == "runtime.NumGoroutine") = false) (hb : fn.body.isSome = true) (args : Array Value)
    {c : Operand} {lb : Array Value} (hop : oi.op = .call { callee := .value c, args := xs, argTypes := ts }) (hc : a.eval c = .func (.func f) #[] lb) (hargs : xs.map a.eval ++ lb = args)
    (h : Calls P f args w fun e w' => ∃ v, e = .returned v ∧ wpList P ops Q rest (a.put N v) w') : wpList P ops Q (oi :: rest) a w := by
  refine wpList_plain hg fun K hK => ?_
  have he := enters_ hf hname hb args w
  have hrun : (execOp a.eval oi).run P w = .ok (.enter f args) w := by
    unfold execOp
    simp [hop, resolve, Deferred.ofValue, invoke, hc, hargs, he]
  unfold Oper.wp
  rw [hrun, Oper.upon_enter]
  refine h.mono fun e w'' hh => ?_
  obtain ⟨v, rfl, hk⟩ := hh
  subst hd
  exact hK _ _ hk
end
end Go.Proofs.YtmajmolbjiahlaaGreatDoor.PD
namespace Go.Proofs.YtmajmolbjiahlaaGreatDoor.PD
open Go.RowKit Go.Proofs.YtmajmolbjiahlaaGreatDoorW.PrintWords Go.Proofs.YtmajmolbjiahlaaGreatDoorW.PrintLast Go.Proofs.YtmajmolbjiahlaaGreatDoorW.PrintMore
attribute [local go_sem] isSome_setCell
set_option linter.unusedVariables false
set_option linter.unusedSimpArgs false
theorem drawn_below {w w' : World} (h : Drawn0 w w') : Below w.heap.size w w' := by
  obtain ⟨n, rfl⟩ := h
  apply pw_below_drewN
  exact Below.refl _ _
def lp (y : Int) : Bool := decide (Int.tmod y 4 = 0) && (!decide (Int.tmod y 100 = 0) || decide (Int.tmod y 400 = 0))
set_option maxHeartbeats 4000000 in
set_option maxRecDepth 100000 in
theorem leap_calls (y : Int) (w : World) : Calls Tryz.prog 99 #[.int .i64 y] w fun e w' => e = .returned (.bool (lp y)) ∧ w' = w := by
  unfold lp
  by_cases h4 : Int.tmod y 4 = 0
  · by_cases h1 : Int.tmod y 100 = 0
    · by_cases h2 : Int.tmod y 400 = 0
      · rw [decide_eq_true h4, decide_eq_true h1, decide_eq_true h2]
        go_enter Tryz.func99, Tryz.ntmps99
        go_wp2
        go_ret
        exact ⟨rfl, rfl⟩
      · have h2' : (Int.tmod y 400 == 0) = false := beq_eq_false_iff_ne.2 h2
        rw [decide_eq_true h4, decide_eq_true h1, decide_eq_false h2]
        go_enter Tryz.func99, Tryz.ntmps99
        go_wp2
        go_ret
        exact ⟨by simp only [h2']; rfl, rfl⟩
    · rw [decide_eq_true h4, decide_eq_false h1]
      go_enter Tryz.func99, Tryz.ntmps99
      go_wp2
      go_ret
      exact ⟨rfl, rfl⟩
  · rw [decide_eq_false h4]
    go_enter Tryz.func99, Tryz.ntmps99
    go_wp2
    go_ret
    exact ⟨rfl, rfl⟩
def feb (b : Bool) : Int := if b = true then 29 else 28
def lenA (b : Bool) : Array Value := #[.int .i64 31, .int .i64 (feb b), .int .i64 31, .int .i64 30, .int .i64 31, .int .i64 30, .int .i64 31, .int .i64 31, .int .i64 30, .int .i64 31, .int .i64 30, .int .i64 31]
set_option maxHeartbeats 4000000 in
set_option maxRecDepth 100000 in
theorem lengths_calls (y : Int) (w : World) : Calls Tryz.prog 85 #[.int .i64 y] w fun e w' => e = .returned (.agg (lenA (lp y))) ∧ Below w.heap.size w w' := by
  have HL := Aside0.mk (fun W => leap_calls y W)
  obtain ⟨b, hb⟩ : ∃ b, lp y = b := ⟨_, rfl⟩
  rw [hb] at HL ⊢
  clear hb
  cases b with
  | false =>
    go_enter Tryz.func85, Tryz.ntmps85
    go_wp2_with (go_at_call 99; refine (HL.out _).mono ?_; rintro e w' ⟨rfl, rfl⟩)
    refine bodyPost_ret (results_cell_row rfl _ _ w.heap.size 100 (lenA false) (0, 0) _ rfl ?blk Tryz.underlying100 rfl (by kernel_rfl)) rfl ?_
    case blk => exact blk_alloc (heap_alloc_new w _) _
    exact ⟨rfl, below_alloc (below_alloc (Below.refl _ _) _) _⟩
  | true =>
    go_enter Tryz.func85, Tryz.ntmps85
    go_wp2_with (go_at_call 99; refine (HL.out _).mono ?_; rintro e w' ⟨rfl, rfl⟩)
    refine bodyPost_ret (results_cell_row rfl _ _ w.heap.size 100 (lenA true) (0, 0) _ rfl ?blk Tryz.underlying100 rfl (by kernel_rfl)) rfl ?_
    case blk => exact blk_alloc (heap_alloc_new w _) _
    exact ⟨rfl, below_alloc (below_alloc (Below.refl _ _) _) _⟩
def mon (b : Bool) : List (Int × Int) := [(1, 31), (2, feb b), (3, 31), (4, 30), (5, 31), (6, 30), (7, 31), (8, 31), (9, 30), (10, 31), (11, 30), (12, 31)]
theorem wide_fn (f : FuncId) : Fence.wide.fn f = True := rfl
theorem wide_depth : Fence.wide.depth = none := rfl
attribute [local go_sem] Oper.semAt_some wide_fn wide_depth
theorem mon_len (b : Bool) : (mon b).length = 12 := rfl
set_option maxRecDepth 100000 in
set_option maxHeartbeats 1600000 in
theorem index_mon (b : Bool) (m : Nat) (hm : m < (mon b).length) (w : World) : (Instr.index 100 (.agg (lenA b)) (.int .i64 (m : Int))).run Tryz.prog w = .ok (.int .i64 (mon b)[m].2) w := by
  have : ∀ m : Fin 12, (Instr.index 100 (.agg (lenA b)) (.int .i64 (m.val : Int))).run Tryz.prog w = .ok (.int .i64 ((mon b)[m.val]'m.isLt).2) w := by
    intro m
    match m with
    | ⟨0, _⟩ => go_simp; rfl
    | ⟨1, _⟩ => go_simp; rfl
    | ⟨2, _⟩ => go_simp; rfl
    | ⟨3, _⟩ => go_simp; rfl
    | ⟨4, _⟩ => go_simp; rfl
    | ⟨5, _⟩ => go_simp; rfl
    | ⟨6, _⟩ => go_simp; rfl
    | ⟨7, _⟩ => go_simp; rfl
    | ⟨8, _⟩ => go_simp; rfl
    | ⟨9, _⟩ => go_simp; rfl
    | ⟨10, _⟩ => go_simp; rfl
    | ⟨11, _⟩ => go_simp; rfl
  exact this ⟨m, hm⟩
theorem mon_fst (b : Bool) (m : Nat) (hm : m < (mon b).length) : (mon b)[m].1 = (m : Int) + 1 := by
  have : ∀ m : Fin 12, ((mon b)[m.val]'m.isLt).1 = (m.val : Int) + 1 := by cases b <;> decide
  exact this ⟨m, hm⟩
set_option maxRecDepth 100000 in
set_option maxHeartbeats 4000000 in
theorem months_in (y : Int) (l Bn n₀ : Nat) (J Jx : List (Int × Int) → World → Prop) (W : World) (hJ : OwnZ (fun _ => False) W.heap.size J)
    (hY : ∀ pre x W1, J pre W1 → pre ++ [x] <+: (mon (lp y)) → YieldAt Fence.wide 50 Tryz.prog l #[.int .i64 x.1, .int .i64 x.2] W1 fun e W' => ((e = .returned (.bool true) ∧ J (pre ++ [x]) W') ∨ (e = .returned (.bool false) ∧ Jx (pre ++ [x]) W')) ∧ Below n₀ W1 W' ∧ SameZ (fun _ => False) W1 W' ∧ KeepsFrom W.heap.size W1 W')
    (hBn : W.heap[Bn]? = some (.cells #[.int .i64 y] 3 (0, 0))) (h0 : J [] W) :
    CallsIn Fence.wide 51 Tryz.prog 84 #[.func (.yield l) #[] #[], .pointer (some ⟨Bn, 0, none⟩)] W fun e W' => (∃ v, e = .returned v) ∧ (J (mon (lp y)) W' ∨ ∃ pre, pre <+: (mon (lp y)) ∧ Jx pre W') := by
  refine callsIn_of_wp Tryz.func84 rfl trivial ?_ rfl
  simp only [Tryz.ntmps84, List.size_toArray, List.length_cons, List.length_nil, Nat.reduceAdd, Nat.reduceSub, Array.replicate_succ, Array.replicate_zero, List.push_toArray, List.append_toArray, List.nil_append, List.cons_append]
  have HY := Aside0.mk hY
  have HJ := Aside0.mk hJ
  have H0 := Aside0.mk h0
  have hc : W.cell? ⟨Bn, 0, none⟩ = some (.int .i64 y) := (blk_cell hBn 0).trans rfl
  clear hY hJ h0 hBn
  gi_wp2_with (gi_at_call 85; refine (callsIn_wide.2 (lengths_calls y _)).mono ?_; rintro e W2 ⟨rfl, hb2⟩)
  have H2 := Aside0.mk (HJ.out.below H0.out hb2)
  clear hb2 hc
  gi_loopw [7] (fun v wr => ∃ m : Nat, v = .int .i64 (m : Int) ∧ m ≤ 12 ∧ Aside0 (J ((mon (lp y)).take m) wr)) (fun v _ => 12 - (intOf v).toNat)
  case atStart => exact ⟨0, rfl, Nat.zero_le _, H2⟩
  case round =>
    obtain ⟨m, rfl, hm, HJ1⟩ := hrel
    by_cases hlt : m < 12
    · have hlt0 : decide ((m : Int) < 12) = true := decide_eq_true (by omega)
      have hlt2 : m < (mon (lp y)).length := hlt
      have hix := index_mon (lp y) m hlt2
      have hfst := mon_fst (lp y) m hlt2
      obtain ⟨x, hx⟩ : ∃ x, x = (mon (lp y))[m] := ⟨_, rfl⟩
      simp only [← hx] at hix hfst
      have hpx : (mon (lp y)).take m ++ [x] = (mon (lp y)).take (m + 1) := by rw [hx]; exact List.take_append_getElem hlt2
      have HPX := Aside0.mk hpx
      obtain ⟨fn, tmps, assign, body, hy, hRd⟩ := HY.out ((mon (lp y)).take m) x wr HJ1.out (by rw [hpx]; exact List.take_prefix _ _)
      rw [hfst] at hy
      have HRr := Aside0.mk hRd
      clear hRd hpx hx
      gi_wp2
      refine HRr.out.mono ?_
      rintro e W4 ⟨⟨rfl, hJ4⟩ | ⟨rfl, hJx4⟩, hb4, hz4, hab4⟩
      · gi_wp2
        refine ⟨⟨m + 1, by simp, by omega, ⟨by rw [← HPX.out]; exact hJ4⟩⟩, ?_⟩
        show 12 - ((m : Int) + 1).toNat < 12 - (m : Int).toNat
        omega
      · gi_wp2
        refine bodyPost_ret (results_none rfl _ _ _) rfl ?_
        exact ⟨⟨_, rfl⟩, .inr ⟨_, by rw [HPX.out]; exact List.take_prefix _ _, hJx4⟩⟩
    · have hlt0 : decide ((m : Int) < 12) = false := decide_eq_false (by omega)
      obtain rfl : m = 12 := by omega
      gi_wp2
      refine bodyPost_end (results_none rfl _ _ _) rfl ?_
      exact ⟨⟨_, rfl⟩, .inl HJ1.out⟩
end Go.Proofs.YtmajmolbjiahlaaGreatDoor.PD
namespace Go.Proofs.YtmajmolbjiahlaaGreatDoor.PD
open Go.RowKit Go.Proofs.YtmajmolbjiahlaaGreatDoorW.PrintWords Go.Proofs.YtmajmolbjiahlaaGreatDoorW.PrintLast Go.Proofs.YtmajmolbjiahlaaGreatDoorW.PrintMore
attribute [local go_sem] isSome_setCell max2_int min2_int max_two min_two max_three min_three max_four min_four
set_option linter.unusedVariables false
set_option linter.unusedSimpArgs false
def date_begins.f (a0 : Int) : Option (Int) := some (wrap64 ((wrap64 ((wrap64 ((wrap64 ((-719162) + (wrap64 (365 * (wrap64 (a0 - 1)))))) + (wrap64 (Int.tdiv (wrap64 (a0 - 1)) 4)))) - (wrap64 (Int.tdiv (wrap64 (a0 - 1)) 100)))) + (wrap64 (Int.tdiv (wrap64 (a0 - 1)) 400))))
set_option maxHeartbeats 8000000 in
set_option maxRecDepth 100000 in
theorem date_begins.calls (a0 : Int) (r : Int) (w : World) (h : date_begins.f a0 = some r) :
    Calls Tryz.prog 61 #[.int .i64 a0] w fun e w' => e = .returned (.int .i64 r) ∧ Drawn0 w w' := by
  have H : (some (wrap64 ((wrap64 ((wrap64 ((wrap64 ((-719162) + (wrap64 (365 * (wrap64 (a0 - 1)))))) + (wrap64 (Int.tdiv (wrap64 (a0 - 1)) 4)))) - (wrap64 (Int.tdiv (wrap64 (a0 - 1)) 100)))) + (wrap64 (Int.tdiv (wrap64 (a0 - 1)) 400))))) = some r := h
  clear h
  obtain rfl := Option.some.inj H
  go_enter Tryz.func61, Tryz.ntmps61
  go_wp2
  go_ret
  exact ⟨by first | rfl | (simp; done) | (simp [*]; done), by repeat (first | exact Drawn0.refl _ | apply Drawn0.step)⟩
end Go.Proofs.YtmajmolbjiahlaaGreatDoor.PD
namespace Go.Proofs.YtmajmolbjiahlaaGreatDoor.PD
open Go.RowKit Go.Shelf Go.Proofs.YtmajmolbjiahlaaGreatDoorW.PrintWords Go.Proofs.YtmajmolbjiahlaaGreatDoorW.PrintLast Go.Proofs.YtmajmolbjiahlaaGreatDoorW.PrintMore
attribute [local go_sem] isSome_setCell Oper.semAt_some wide_fn wide_depth
set_option linter.unusedVariables false
set_option linter.unusedSimpArgs false
def lenP (y m : Int) : Int := if h : 1 ≤ y ∧ y ≤ 9999 ∧ 1 ≤ m ∧ m ≤ 12 then ((mon (lp y))[(m - 1).toNat]'(by rw [mon_len]; omega)).2 else 0
theorem lenP_out (y m : Int) (h : ¬ (1 ≤ y ∧ y ≤ 9999 ∧ 1 ≤ m ∧ m ≤ 12)) : lenP y m = 0 := dif_neg h
theorem lenP_in (y m : Int) (h : 1 ≤ y ∧ y ≤ 9999 ∧ 1 ≤ m ∧ m ≤ 12) : lenP y m = ((mon (lp y))[(m - 1).toNat]'(by rw [mon_len]; omega)).2 := dif_pos h
def date_Length.f (a0 : Int) (a1 : Int) : Option (Int) := some (lenP a0 a1)
set_option maxRecDepth 100000 in
set_option maxHeartbeats 4000000 in
theorem date_Length.calls (a0 : Int) (a1 : Int) (r : Int) (w : World) (h : date_Length.f a0 a1 = some r) :
    Calls Tryz.prog 94 #[.int .i64 a0, .int .i64 a1] w fun e w' => e = .returned (.int .i64 r) ∧ Below w.heap.size w w' := by
  obtain rfl := Option.some.inj h
  clear h
  have HB := Aside0.mk (Below.refl w.heap.size w)
  by_cases h1 : a0 < 1
  · have e1 : decide (a0 < 1) = true := decide_eq_true h1
    rw [lenP_out a0 a1 (by omega)]
    go_enter Tryz.func94, Tryz.ntmps94
    go_wp2
    go_ret
    exact ⟨rfl, HB.out⟩
  have e1 : decide (a0 < 1) = false := decide_eq_false h1
  by_cases h2 : 9999 < a0
  · have e2 : decide (9999 < a0) = true := decide_eq_true h2
    rw [lenP_out a0 a1 (by omega)]
    go_enter Tryz.func94, Tryz.ntmps94
    go_wp2
    go_ret
    exact ⟨rfl, HB.out⟩
  have e2 : decide (9999 < a0) = false := decide_eq_false h2
  by_cases h3 : a1 < 1
  · have e3 : decide (a1 < 1) = true := decide_eq_true h3
    rw [lenP_out a0 a1 (by omega)]
    go_enter Tryz.func94, Tryz.ntmps94
    go_wp2
    go_ret
    exact ⟨rfl, HB.out⟩
  have e3 : decide (a1 < 1) = false := decide_eq_false h3
  by_cases h4 : 12 < a1
  · have e4 : decide (12 < a1) = true := decide_eq_true h4
    rw [lenP_out a0 a1 (by omega)]
    go_enter Tryz.func94, Tryz.ntmps94
    go_wp2
    go_ret
    exact ⟨rfl, HB.out⟩
  have e4 : decide (12 < a1) = false := decide_eq_false h4
  have hlt : (a1 - 1).toNat < (mon (lp a0)).length := by rw [mon_len]; omega
  rw [lenP_in a0 a1 (by omega)]
  have hix := fun W => index_mon (lp a0) (a1 - 1).toNat hlt W
  rw [show (((a1 - 1).toNat : Nat) : Int) = a1 - 1 by omega] at hix
  have hw : IntKind.i64.wrap (a1 - 1) = a1 - 1 := by rw [i64_w]; simp only [wrap64]; omega
  obtain ⟨v, hv⟩ : ∃ v, (mon (lp a0))[(a1 - 1).toNat].2 = v := ⟨_, rfl⟩
  rw [hv] at hix ⊢
  have HL := Aside0.mk (lengths_calls a0 w)
  go_enter Tryz.func94, Tryz.ntmps94
  go_wp2_with (go_at_call 85; refine HL.out.mono ?_; rintro e w1 ⟨rfl, hb1⟩; have HB1 := Aside0.mk hb1; clear hb1)
  go_ret
  exact ⟨rfl, HB1.out⟩
def bgP (y : Int) : Int := -719162 + 365 * (y - 1) + (y - 1) / 4 - (y - 1) / 100 + (y - 1) / 400
theorem begins_val (y : Int) (h0 : 1 ≤ y) (h1 : y ≤ 20000) : date_begins.f y = some (bgP y) := by
  unfold date_begins.f bgP
  have w1 : wrap64 (y - 1) = y - 1 := by simp only [wrap64]; omega
  rw [w1, Int.tdiv_eq_ediv_of_nonneg (by omega), Int.tdiv_eq_ediv_of_nonneg (by omega), Int.tdiv_eq_ediv_of_nonneg (by omega)]
  congr 1
  simp only [wrap64]
  omega
theorem begins_in {n : Nat} (y : Int) (h0 : 1 ≤ y) (h1 : y ≤ 20000) (w : World) : CallsIn Fence.wide n Tryz.prog 61 #[.int .i64 y] w fun e w' => e = .returned (.int .i64 (bgP y)) ∧ Drawn0 w w' := callsIn_wide.2 (date_begins.calls y _ w (begins_val y h0 h1))
theorem months_made (n : Nat) (a : Int) (w : World) :
    CallsIn Fence.wide n Tryz.prog 62 #[.int .i64 a] w fun e w' => e = .returned (.func (.func 84) #[] #[.pointer (some ⟨w.heap.size, 0, none⟩)]) ∧ w' = w.alloc (.cells #[.int .i64 a] 3) := by
  refine callsIn_of_wp Tryz.func62 rfl trivial ?_ rfl
  simp only [Tryz.ntmps62, List.size_toArray, List.length_cons, List.length_nil, Nat.reduceAdd, Nat.reduceSub, Array.replicate_succ, Array.replicate_zero, List.push_toArray, List.append_toArray, List.nil_append, List.cons_append]
  gi_wp2
  go_ret
  exact ⟨rfl, rfl⟩
theorem months_z (y : Int) (n₀ Bn : Nat) (w : World) (hlt : Bn < w.heap.size) (hBn : w.heap[Bn]? = some (.cells #[.int .i64 y] 3 (0, 0))) :
    SeqZ Tryz.prog 84 #[.pointer (some ⟨Bn, 0, none⟩)] (fun x : Int × Int => #[.int .i64 x.1, .int .i64 x.2]) n₀ (fun _ => False) (mon (lp y)) w := fun l J Jx W hW hJ hJx hY h0 =>
  (callsIn_wide (n := 51)).1 (months_in y l Bn n₀ J Jx W hJ hY ((hW.block Bn hlt).trans hBn) h0)
def sumL (l : List (Int × Int)) : Int := (l.map (·.2)).sum
theorem sumL_snoc (l : List (Int × Int)) (x : Int × Int) : sumL (l ++ [x]) = sumL l + x.2 := by simp [sumL]
theorem mon_at (b : Bool) (pre : List (Int × Int)) (x : Int × Int) (h : pre ++ [x] <+: mon b) : pre = (mon b).take pre.length ∧ x.1 = (pre.length : Int) + 1 ∧ pre.length < 12 ∧ 28 ≤ x.2 ∧ x.2 ≤ 31 := by
  obtain ⟨s, hs⟩ := h
  have hl : pre.length + 1 + s.length = 12 := by have := congrArg List.length hs; rw [mon_len] at this; simp only [List.length_append, List.length_singleton] at this; omega
  have h1 : (mon b).take pre.length = pre := by rw [← hs]; simp
  have h2 : (mon b)[pre.length]? = some x := by rw [← hs]; simp
  have h3 : pre.length < (mon b).length := by rw [mon_len]; omega
  rw [List.getElem?_eq_getElem h3] at h2
  have h4 := Option.some.inj h2
  refine ⟨h1.symm, by rw [← h4]; exact mon_fst b pre.length h3, by omega, ?_⟩
  have : ∀ (b : Bool) (m : Fin 12), 28 ≤ ((mon b)[m.val]'m.isLt).2 ∧ ((mon b)[m.val]'m.isLt).2 ≤ 31 := by decide
  rw [← h4]
  exact this b ⟨pre.length, by omega⟩
theorem sumL_take (b : Bool) : ∀ k : Nat, k ≤ 12 → 0 ≤ sumL ((mon b).take k) ∧ sumL ((mon b).take k) ≤ 366 := by
  have : ∀ (b : Bool) (k : Fin 13), 0 ≤ sumL ((mon b).take k.val) ∧ sumL ((mon b).take k.val) ≤ 366 := by decide
  exact fun k hk => this b ⟨k, by omega⟩
def daysP (y m d : Int) : Int × Bool := if d < 1 ∨ lenP y m < d then (0, false) else (bgP y + sumL ((mon (lp y)).take (m - 1).toNat) + d - 1, true)
def Dy (w : World) (S G : Nat) (m v : Int) (W : World) : Prop := (W.heap[S]? = some (.cells #[.int .i64 m] 3 (0, 0)) ∧ W.heap[G]? = some (.cells #[.int .i64 v] 2 (0, 0))) ∧ Below w.heap.size w W
theorem dy_own {β : Type} (w : World) (S G B : Nat) (hS : w.heap.size = S) (hSG : S < G) (hB : G < B) (m : Int) (v : β → Int) (p : β → Prop) : OwnZ (fun _ => False) B (fun (s : β) W => p s ∧ Dy w S G m (v s) W) := by
  rintro s X Y row ⟨hp, ⟨h1, h2⟩, h7⟩ hg hr
  have hrow : ∀ r, row = some r → B ≤ r := fun r e => by
    rcases hr r e with h | h
    · exact h.elim
    · exact h.1
  have key : ∀ k o', k < B → X.heap[k]? = some o' → Y.heap[k]? = some o' := fun k o' hk h => (hg.block k (Array.getElem?_eq_some_iff.1 h).1 (fun e => by have := hrow k e.symm; omega)).trans h
  exact ⟨hp, ⟨key _ _ (by omega) h1, key _ _ (by omega) h2⟩, h7.grown hg h7.size (fun k e => by have := hrow k e; omega)⟩
theorem dy_set (w W : World) (S G B : Nat) (hS : w.heap.size = S) (hSG : S < G) (hB : G < B) (m v u : Int) (h : Dy w S G m v W) :
    KeepsFrom B W (W.setCell ⟨G, 0, none⟩ (.int .i64 u)) ∧ Below w.heap.size W (W.setCell ⟨G, 0, none⟩ (.int .i64 u)) ∧ Dy w S G m u (W.setCell ⟨G, 0, none⟩ (.int .i64 u)) := by
  obtain ⟨⟨h0, h1⟩, h6⟩ := h
  have far : ∀ k, k ≠ G → (W.setCell ⟨G, 0, none⟩ (.int .i64 u)).heap[k]? = W.heap[k]? := fun k hk => Below.heap_setCell _ _ _ k hk
  have hsz : W.heap.size = (W.setCell ⟨G, 0, none⟩ (.int .i64 u)).heap.size := by simp [World.setCell]
  have hbl : Below w.heap.size W (W.setCell ⟨G, 0, none⟩ (.int .i64 u)) := ⟨rfl, rfl, rfl, Nat.le_of_eq hsz, fun k hk => far k (by omega)⟩
  exact ⟨⟨Nat.le_of_eq hsz, fun i o hi ho _ => (far i (by omega)).trans ho⟩, hbl, ⟨(far S (by omega)).trans h0, blk_set h1 0 _⟩, h6.trans hbl⟩
theorem Dy.cells {w W : World} {S G : Nat} {m v : Int} (h : Dy w S G m v W) : W.cell? ⟨S, 0, none⟩ = some (.int .i64 m) ∧ W.cell? ⟨G, 0, none⟩ = some (.int .i64 v) ∧ W.frozen? ⟨G, 0, none⟩ = false := ⟨(blk_cell h.1.1 0).trans rfl, (blk_cell h.1.2 0).trans rfl, blk_frozen h.1.2 0⟩
def date_Days.f (a0 : Int) (a1 : Int) (a2 : Int) : Option (Int × Bool) := some (daysP a0 a1 a2)
set_option maxRecDepth 100000 in
set_option maxHeartbeats 8000000 in
theorem days_calls (y m d : Int) (w : World) :
    Calls Tryz.prog 79 #[.int .i64 y, .int .i64 m, .int .i64 d] w fun e w' => e = .returned (.tuple #[.int .i64 (daysP y m d).1, .bool (daysP y m d).2]) ∧ Below w.heap.size w w' := by
  have HBm := Aside0.mk (below_alloc (Below.refl w.heap.size w) (.cells #[.int .i64 m] 3))
  have HKm := Aside0.mk (heap_alloc_new w (.cells #[.int .i64 m] 3))
  by_cases h1 : d < 1
  · have e1 : decide (d < 1) = true := decide_eq_true h1
    rw [show daysP y m d = (0, false) from if_pos (.inl h1)]
    go_enter Tryz.func79, Tryz.ntmps79
    go_wp2
    go_ret2
    exact ⟨rfl, HBm.out⟩
  have e1 : decide (d < 1) = false := decide_eq_false h1
  have HL := Aside0.mk (date_Length.calls y m (lenP y m) (w.alloc (.cells #[.int .i64 m] 3)) rfl)
  by_cases h2 : lenP y m < d
  · have e2 : decide (lenP y m < d) = true := decide_eq_true h2
    rw [show daysP y m d = (0, false) from if_pos (.inr h2)]
    go_enter Tryz.func79, Tryz.ntmps79
    go_wp2_with (go_at_call 94; refine HL.out.mono ?_; rintro e w1 ⟨rfl, hb1⟩; have HB1 := Aside0.mk (HBm.out.trans (hb1.mono HBm.out.size)); clear hb1)
    go_ret2
    exact ⟨rfl, HB1.out⟩
  have e2 : decide (lenP y m < d) = false := decide_eq_false h2
  have hin : 1 ≤ y ∧ y ≤ 9999 ∧ 1 ≤ m ∧ m ≤ 12 := by
    refine Classical.byContradiction fun hc => ?_
    rw [lenP_out y m hc] at h2
    omega
  rw [show daysP y m d = (bgP y + sumL ((mon (lp y)).take (m - 1).toNat) + d - 1, true) from if_neg (by omega)]
  refine (callsIn_wide (n := 51)).1 ?_
  refine callsIn_of_wp_marks Tryz.func79 rfl trivial ?_ rfl
  simp only [Tryz.ntmps79, List.size_toArray, List.length_cons, List.length_nil, Nat.reduceAdd, Nat.reduceSub, Array.replicate_succ, Array.replicate_zero, List.push_toArray, List.append_toArray, List.nil_append, List.cons_append]
  gi_wp2
  gi_at_call 94
  refine (callsIn_wide.2 HL.out).mono ?_
  rintro e w1 ⟨rfl, hb1⟩
  have HB1 := Aside0.mk (HBm.out.trans (hb1.mono HBm.out.size))
  have HK1 := Aside0.mk (blk_below HKm.out hb1)
  clear hb1 HL
  gi_wp2
  gi_at_call 61
  refine (begins_in y hin.1 (by omega) w1).mono ?_
  rintro e w2 ⟨rfl, hd2⟩
  have hb2 := drawn_below hd2
  have HB2 := Aside0.mk (HB1.out.trans (hb2.mono HB1.out.size))
  have HK2 := Aside0.mk (blk_below HK1.out hb2)
  clear hb2 hd2
  gi_wp2
  gi_at_call 62
  with_reducible refine (months_made _ _ _).mono ?_
  rintro e w3 ⟨rfl, rfl⟩
  gi_wp2
  obtain ⟨V, hV⟩ : ∃ V, V = (w2.alloc (.cells #[.int .i64 (bgP y)] 2)).alloc (.cells #[.int .i64 y] 3) := ⟨_, rfl⟩
  obtain ⟨S, hS⟩ : ∃ S, w.heap.size = S := ⟨_, rfl⟩
  have hSG : S < w2.heap.size := by rw [← hS]; exact blk_lt HK2.out
  have q0 : V.heap[S]? = some (.cells #[.int .i64 m] 3 (0, 0)) := by rw [hV, ← hS]; exact blk_alloc (blk_alloc HK2.out _) _
  have q1 : V.heap[w2.heap.size]? = some (.cells #[.int .i64 (bgP y)] 2 (0, 0)) := by rw [hV]; exact blk_alloc (heap_alloc_new w2 _) _
  have q2 : V.heap[w2.heap.size + 1]? = some (.cells #[.int .i64 y] 3 (0, 0)) := by
    have := heap_alloc_new (w2.alloc (.cells #[.int .i64 (bgP y)] 2)) (.cells #[.int .i64 y] 3)
    rw [World.size_alloc] at this
    rw [hV]; exact this
  have hz : V.heap.size = w2.heap.size + 2 := by rw [hV]; simp
  have hb : Below w.heap.size w V := by rw [hV]; exact below_alloc (below_alloc HB2.out _) _
  rw [← hV]
  try rw [hS]
  obtain ⟨G, hG⟩ : ∃ G, w2.heap.size = G := ⟨_, rfl⟩
  rw [hG] at q1 q2 hz hSG ⊢
  clear hV hG HB2 HK2 HBm HKm HB1 HK1
  have hDy : Dy w S G m (bgP y + sumL []) V := ⟨⟨q0, by rw [show sumL [] = 0 from rfl, Int.add_zero]; exact q1⟩, hb⟩
  have hbg : -719162 ≤ bgP y ∧ bgP y ≤ 3000000 := by unfold bgP; omega
  clear q0 q1 hb
  have HE2 := Aside0.mk e2
  have HH2 := Aside0.mk h2
  clear e2 h2
  refine range_z (n₀ := w.heap.size) (Z := fun _ => False) (gf := 84) (lb := #[.pointer (some ⟨G + 1, 0, none⟩)]) rfl (enters_of Tryz.func84 (by kernel_rfl) rfl) (by omega) (fun b hb => hb.elim)
    (months_z y w.heap.size (G + 1) V (by omega) q2) (fun _ => rfl) (fun pre W => (∀ x ∈ pre, x.1 ≠ m) ∧ Dy w S G m (bgP y + sumL pre) W) (fun c pre W => c = .exit 0 ∧ Dy w S G m (bgP y + sumL ((mon (lp y)).take (m - 1).toNat)) W)
    (dy_own w S G _ hS hSG (by omega) m (fun pre => bgP y + sumL pre) (fun pre => ∀ x ∈ pre, x.1 ≠ m)) (fun c => dy_own w S G _ hS hSG (by omega) m (fun _ => _) (fun _ => c = .exit 0)) ⟨fun x hx => (by cases hx), hDy⟩
    (fun x a' _ => a' = { tmps := #[.int .i64 y, .int .i64 m, .int .i64 d, undef, .pointer (some ⟨S, 0, none⟩), undef, .int .i64 0, .bool false, .pointer (some ⟨G, 0, none⟩), .int .i64 x.1, .int .i64 x.2, .int .i64 d, .bool false, .bool false, .int .i64 d, .int .i64 y, .int .i64 m, .int .i64 (lenP y m), .bool false, .bool false, .int .i64 y, .int .i64 (bgP y), .int .i64 y, .func (.func 84) #[] #[.pointer (some ⟨G + 1, 0, none⟩)], .int .i64 x.1, .int .i64 x.2, undef, undef, undef, undef, undef, undef, undef, undef, undef, undef], defers := [] }) (fun _ _ _ _ _ _ hs _ _ => hs) ?assign ?body ?done ?stop
  case assign =>
    intro l pre x W K hI hpx hW hK
    gi_wp2
    refine hK _ _ (KeepsFrom.refl _ _) (Below.refl _ _) (fun _ _ => rfl) hI (by simp)
  case body =>
    rintro l pre x a' W ⟨hne, hD⟩ hpx hWs rfl
    obtain ⟨hp1, hx1, hlt12, hx2, hx3⟩ := mon_at (lp y) pre x hpx
    have HP1 := Aside0.mk hp1
    have HD := Aside0.mk hD
    have HNE := Aside0.mk hne
    have hsm := sumL_take (lp y) pre.length (by omega)
    rw [← hp1] at hsm
    obtain ⟨c0, c1, f1⟩ := hD.cells
    clear hp1 hD hne hpx
    by_cases hxm : x.1 = m
    · have e3 : decide (x.1 = m) = true := decide_eq_true hxm
      have e4 : (x.1 == m) = true := beq_iff_eq.2 hxm
      have hfin : Dy w S G m (bgP y + sumL ((mon (lp y)).take (m - 1).toNat)) W := by
        have h := HD.out
        rw [HP1.out, show pre.length = (m - 1).toNat by omega] at h
        exact h
      have HF := Aside0.mk hfin
      clear hfin
      gi_wp2
      exact ⟨KeepsFrom.refl _ _, Below.refl _ _, fun _ hb => hb.elim, rfl, HF.out⟩
    · have e3 : decide (x.1 = m) = false := decide_eq_false hxm
      have e4 : (x.1 == m) = false := beq_eq_false_iff_ne.2 hxm
      have hw : IntKind.i64.wrap (bgP y + sumL pre + x.2) = bgP y + sumL pre + x.2 := by rw [i64_w]; simp only [wrap64]; omega
      have HW := Aside0.mk (dy_set w W S G V.heap.size hS hSG (by omega) m _ (bgP y + sumL pre + x.2) HD.out)
      gi_wp2
      refine ⟨HW.out.1, HW.out.2.1, fun _ hb => hb.elim, ?_, ?_⟩
      · intro z hz
        rcases List.mem_append.1 hz with hz | hz
        · exact HNE.out z hz
        · rw [List.mem_singleton.1 hz]; exact hxm
      · rw [sumL_snoc, ← Int.add_assoc]
        exact HW.out.2.2
  case done =>
    rintro D W hD ⟨hne, _⟩ hK
    have h12 : (m - 1).toNat < (mon (lp y)).length := by rw [mon_len]; omega
    have := hne _ (List.getElem_mem h12)
    rw [mon_fst (lp y) _ h12] at this
    omega
  case stop =>
    rintro D c pre W hD hpre ⟨rfl, hDy2⟩ hK
    obtain ⟨c0, c1, f1⟩ := hDy2.cells
    have hsm := sumL_take (lp y) (m - 1).toNat (by omega)
    obtain ⟨s, hs⟩ : ∃ s, sumL ((mon (lp y)).take (m - 1).toNat) = s := ⟨_, rfl⟩
    rw [hs] at c1 hsm
    have hl31 : lenP y m ≤ 31 := by
      rw [lenP_in y m hin]
      have : ∀ (b : Bool) (k : Fin 12), ((mon b)[k.val]'k.isLt).2 ≤ 31 := by decide
      exact this (lp y) ⟨(m - 1).toNat, by omega⟩
    have hd31 : d ≤ 31 := by have := HH2.out; omega
    have w1 : IntKind.i64.wrap (bgP y + s + d) = bgP y + s + d := by rw [i64_w]; simp only [wrap64]; omega
    have w2 : IntKind.i64.wrap (bgP y + s + d - 1) = bgP y + s + d - 1 := by rw [i64_w]; simp only [wrap64]; omega
    have HB6 := Aside0.mk hDy2.2
    clear hDy2
    gi_wp2
    refine ⟨by simp, .inl ⟨_, _, rfl, run_takeDeferred hK, ?_⟩⟩
    exact ⟨_, results_tmp2 rfl _ _ _, by rw [← hs]; rfl, HB6.out.trans (below_put _ (by omega))⟩
theorem date_Days.calls (a0 : Int) (a1 : Int) (a2 : Int) (r1 : Int) (r2 : Bool) (w : World) (h : date_Days.f a0 a1 a2 = some (r1, r2)) :
    Calls Tryz.prog 79 #[.int .i64 a0, .int .i64 a1, .int .i64 a2] w fun e w' => e = .returned (.tuple #[.int .i64 r1, .bool r2]) ∧ Below w.heap.size w w' := by
  have h' : daysP a0 a1 a2 = (r1, r2) := Option.some.inj h
  have := days_calls a0 a1 a2 w
  rwa [h'] at this
end Go.Proofs.YtmajmolbjiahlaaGreatDoor.PD
namespace Go.Proofs.YtmajmolbjiahlaaGreatDoor.PD
open Go.RowKit Go.Shelf Go.Proofs.YtmajmolbjiahlaaGreatDoorW.PrintWords Go.Proofs.YtmajmolbjiahlaaGreatDoorW.PrintLast Go.Proofs.YtmajmolbjiahlaaGreatDoorW.PrintMore
attribute [local go_sem] isSome_setCell
set_option linter.unusedVariables false
set_option linter.unusedSimpArgs false
def wkP (n : Int) : Int := (n + 3) % 7
theorem tmod7 (n : Int) : Int.tmod (Int.tmod n 7 + 7 + 3) 7 = wkP n ∧ -7 < Int.tmod n 7 ∧ Int.tmod n 7 < 7 := by
  unfold wkP
  rcases Int.lt_or_le n 0 with h | h
  · have h1 : Int.tmod n 7 = -((-n) % 7) := by
      rw [show n = -(-n) by omega, Int.neg_tmod, Int.tmod_eq_emod_of_nonneg (by omega)]
      simp
    rw [h1, Int.tmod_eq_emod_of_nonneg (by omega)]
    omega
  · have h1 : Int.tmod n 7 = n % 7 := Int.tmod_eq_emod_of_nonneg h
    rw [h1, Int.tmod_eq_emod_of_nonneg (by omega)]
    omega
set_option maxRecDepth 100000 in
set_option maxHeartbeats 1600000 in
theorem weekday_calls (n : Int) (h : -10000000 ≤ n ∧ n ≤ 10000000) (w : World) : Calls Tryz.prog 102 #[.int .i64 n] w fun e w' => e = .returned (.int .i64 (wkP n)) ∧ w' = w := by
  obtain ⟨h1, h2, h3⟩ := tmod7 n
  have w1 : IntKind.i64.wrap (Int.tmod n 7 + 7) = Int.tmod n 7 + 7 := by rw [i64_w]; simp only [wrap64]; omega
  have w2 : IntKind.i64.wrap (Int.tmod n 7 + 7 + 3) = Int.tmod n 7 + 7 + 3 := by rw [i64_w]; simp only [wrap64]; omega
  have w3 : IntKind.i64.wrap (wkP n) = wkP n := by rw [i64_w]; simp only [wrap64]; unfold wkP; omega
  clear h2 h3
  go_enter Tryz.func102, Tryz.ntmps102
  go_wp2
  go_ret
  exact ⟨rfl, rfl⟩
def wdL (a : Int) (c : Nat) : List Int := (List.range c).map fun k : Nat => a + 7 * (k : Int)
theorem wdL_len (a : Int) (c : Nat) : (wdL a c).length = c := by simp [wdL]
theorem wdL_at (a : Int) (c j : Nat) (h : j < (wdL a c).length) : (wdL a c)[j] = a + 7 * (j : Int) := by simp [wdL]
def offW (f wd : Int) : Int := (wd - wkP f + 7) % 7
def cntW (len off : Int) : Nat := ((len - off + 6) / 7).toNat
def wdays (y m wd : Int) : List Int := if (daysP y m 1).2 = true then wdL ((daysP y m 1).1 + offW (daysP y m 1).1 wd) (cntW (lenP y m) (offW (daysP y m 1).1 wd)) else []
def HeldD (Bd : Nat) (wd : Int) (w : World) : Prop := w.cell? ⟨Bd, 0, none⟩ = some (.int .i64 wd)
theorem days1 (y m : Int) (h : (daysP y m 1).2 = true) : (1 ≤ y ∧ y ≤ 9999 ∧ 1 ≤ m ∧ m ≤ 12) ∧ (daysP y m 1).1 = bgP y + sumL ((mon (lp y)).take (m - 1).toNat) := by
  unfold daysP at h ⊢
  split at h
  · cases h
  · rename_i hc
    rw [if_neg hc]
    refine ⟨?_, by show _ + 1 - 1 = _; omega⟩
    refine Classical.byContradiction fun hn => ?_
    rw [lenP_out y m hn] at hc
    omega
attribute [local go_sem] Oper.semAt_some wide_fn wide_depth
set_option maxRecDepth 100000 in
set_option maxHeartbeats 4000000 in
theorem weekdays_in (y m wd : Int) (hwd : 0 ≤ wd ∧ wd ≤ 6) (l By Bm Bd n₀ : Nat) (J Jx : List Int → World → Prop) (W : World) (hJ : OwnZ (fun _ => False) W.heap.size J)
    (hY : ∀ pre x W1, J pre W1 → pre ++ [x] <+: wdays y m wd → YieldAt Fence.wide 50 Tryz.prog l #[.int .i64 x] W1 fun e W' => ((e = .returned (.bool true) ∧ J (pre ++ [x]) W') ∨ (e = .returned (.bool false) ∧ Jx (pre ++ [x]) W')) ∧ Below n₀ W1 W' ∧ SameZ (fun _ => False) W1 W' ∧ KeepsFrom W.heap.size W1 W')
    (hBy : W.heap[By]? = some (.cells #[.int .i64 y] 3 (0, 0))) (hBm : W.heap[Bm]? = some (.cells #[.int .i64 m] 3 (0, 0))) (hBd : W.heap[Bd]? = some (.cells #[.int .i64 wd] 3 (0, 0))) (h0 : J [] W) (hn1 : By < n₀) (hn2 : Bm < n₀) :
    CallsIn Fence.wide 51 Tryz.prog 101 #[.func (.yield l) #[] #[], .pointer (some ⟨By, 0, none⟩), .pointer (some ⟨Bm, 0, none⟩), .pointer (some ⟨Bd, 0, none⟩)] W fun e W' => (∃ v, e = .returned v) ∧ (J (wdays y m wd) W' ∨ ∃ pre, pre <+: wdays y m wd ∧ Jx pre W') := by
  refine callsIn_of_wp Tryz.func101 rfl trivial ?_ rfl
  simp only [Tryz.ntmps101, List.size_toArray, List.length_cons, List.length_nil, Nat.reduceAdd, Nat.reduceSub, Array.replicate_succ, Array.replicate_zero, List.push_toArray, List.append_toArray, List.nil_append, List.cons_append]
  have HYd := Aside0.mk hY
  have HJ := Aside0.mk hJ
  have H0 := Aside0.mk h0
  have cy : W.cell? ⟨By, 0, none⟩ = some (.int .i64 y) := (blk_cell hBy 0).trans rfl
  have cm : W.cell? ⟨Bm, 0, none⟩ = some (.int .i64 m) := (blk_cell hBm 0).trans rfl
  have HBy := Aside0.mk hBy
  have HBm := Aside0.mk hBm
  have HBd := Aside0.mk hBd
  clear hY hJ h0 hBy hBm hBd
  gi_wp2
  gi_at_call 79
  refine (callsIn_wide.2 (days_calls y m 1 _)).mono ?_
  rintro e w2 ⟨rfl, hb2⟩
  have H2 := Aside0.mk (HJ.out.below H0.out hb2)
  have HY2 := Aside0.mk (blk_below HBy.out hb2)
  have HM2 := Aside0.mk (blk_below HBm.out hb2)
  have HD2 := Aside0.mk (blk_below HBd.out hb2)
  clear hb2 cy cm
  have HW := Aside0.mk (show wdays y m wd = if (daysP y m 1).2 = true then wdL ((daysP y m 1).1 + offW (daysP y m 1).1 wd) (cntW (lenP y m) (offW (daysP y m 1).1 wd)) else [] from rfl)
  have HD1 := Aside0.mk (days1 y m)
  obtain ⟨F, hF⟩ : ∃ F, (daysP y m 1).1 = F := ⟨_, rfl⟩
  obtain ⟨B, hB⟩ : ∃ B, (daysP y m 1).2 = B := ⟨_, rfl⟩
  rw [hF, hB] at HW HD1 ⊢
  clear hF hB
  cases B with
  | false =>
    gi_wp2
    refine bodyPost_ret (results_none rfl _ _ _) rfl ?_
    rw [HW.out, if_neg (by decide)]
    exact ⟨⟨_, rfl⟩, .inl H2.out⟩
  | true =>
    obtain ⟨hin, hFv⟩ := HD1.out rfl
    have hsm := sumL_take (lp y) (m - 1).toNat (by omega)
    have hFr : -10000000 ≤ F ∧ F ≤ 10000000 := by rw [hFv]; unfold bgP; omega
    have HF := Aside0.mk hFr
    have hwk : 0 ≤ wkP F ∧ wkP F ≤ 6 := by unfold wkP; omega
    have w1 : IntKind.i64.wrap (wd - wkP F) = wd - wkP F := by rw [i64_w]; simp only [wrap64]; omega
    have w2' : IntKind.i64.wrap (wd - wkP F + 7) = wd - wkP F + 7 := by rw [i64_w]; simp only [wrap64]; omega
    have w3' : Int.tmod (wd - wkP F + 7) 7 = offW F wd := by unfold offW; exact Int.tmod_eq_emod_of_nonneg (by omega)
    have hoff : 0 ≤ offW F wd ∧ offW F wd ≤ 6 := by unfold offW; omega
    have w4' : IntKind.i64.wrap (F + offW F wd) = F + offW F wd := by rw [i64_w]; simp only [wrap64]; omega
    have w5' : IntKind.i64.wrap (offW F wd) = offW F wd := by rw [i64_w]; simp only [wrap64]; omega
    clear hsm hFv
    gi_wp2
    refine wpIn_wide.2 ?_
    refine start_ (n := 9) (S := HeldD Bd wd) (ds := []) #[false, false, false, false, false, false, false, false, false] (by kernel_rfl) rfl rfl ((blk_cell HD2.out 0).trans rfl) (fun hHeld => ?_)
    obtain ⟨w3, hw3⟩ : ∃ y, w2.drew = y := ⟨_, rfl⟩
    have hb3 : Below w2.heap.size w2 w3 := by rw [← hw3]; exact below_drew (Below.refl _ _)
    rw [hw3] at hHeld ⊢
    clear hw3
    have H3 := Aside0.mk (HJ.out.below H2.out hb3)
    have HY3 := Aside0.mk (blk_below HY2.out hb3)
    have HM3 := Aside0.mk (blk_below HM2.out hb3)
    have HD3 := Aside0.mk (blk_below HD2.out hb3)
    clear hb3
    refine pure_ (i := 0) (N := some 16) (v := ?_) (a' := ?_) #[true, false, false, false, false, false, false, false, false] rfl rfl (by kernel_rfl) (fun _ _ _ h => h) (Or.inl ⟨by rfl, ?_⟩) ?_ ?_
    rotate_left
    · intro w'
      go_simp
      with_reducible rfl
    rotate_left
    · simp only [Act.put, List.setIfInBounds_toArray, List.set_cons_zero, List.set_cons_succ, i64_w, i32_w]
      rfl
    refine take_ (i := 1) (N := some 17) (v := ?_) (a' := ?_) #[true, true, false, false, false, false, false, false, false] rfl rfl (by kernel_rfl) (fun _ _ _ h => h) (Or.inl ⟨by rfl, ?_⟩) hHeld ?_ ?_
    rotate_left
    · rintro w' (s0 : w'.cell? ⟨Bd, 0, none⟩ = some (.int .i64 wd))
      go_simp
      with_reducible rfl
    rotate_left
    · simp only [Act.put, List.setIfInBounds_toArray, List.set_cons_zero, List.set_cons_succ, i64_w, i32_w]
      rfl
    refine pure_ (i := 2) (N := some 18) (v := ?_) (a' := ?_) #[true, true, true, false, false, false, false, false, false] rfl rfl (by kernel_rfl) (fun _ _ _ h => h) (Or.inl ⟨by rfl, ?_⟩) ?_ ?_
    rotate_left
    · intro w'
      go_simp
      with_reducible rfl
    rotate_left
    · simp only [Act.put, List.setIfInBounds_toArray, List.set_cons_zero, List.set_cons_succ, i64_w, i32_w]
      rfl
    refine one_ (i := 3) (N := some 19) #[true, true, true, true, false, false, false, false, false] rfl rfl (by kernel_rfl) (by decide) (fun K hK => ?_)
    refine goes_ Tryz.func102 (by kernel_rfl) rfl #[.int .i64 F] (by rfl) rfl rfl (by (try simp only [List.map_toArray, List.map_cons, List.map_nil]); first | done | rfl) ?_
    refine (weekday_calls F HF.out w3).mono ?_
    rintro e w4 ⟨rfl, rfl⟩
    refine ⟨_, rfl, ?_⟩
    refine hK.out _ _ ((blk_cell HD3.out 0).trans rfl) (fun hHeld => ?_)
    clear hK K
    refine norm_ (a' := ?_) ?_ ?_
    rotate_left
    · show Act.put _ (some 19) _ = _
      simp only [Act.put, List.setIfInBounds_toArray, List.set_cons_zero, List.set_cons_succ, i64_w, i32_w]
      rfl
    refine pure_ (i := 4) (N := some 20) (v := ?_) (a' := ?_) #[true, true, true, true, true, false, false, false, false] rfl rfl (by kernel_rfl) (fun _ _ _ h => h) (Or.inl ⟨by rfl, ?_⟩) ?_ ?_
    rotate_left
    · intro w'
      go_simp
      with_reducible rfl
    rotate_left
    · simp only [Act.put, List.setIfInBounds_toArray, List.set_cons_zero, List.set_cons_succ, i64_w, i32_w]
      rfl
    refine pure_ (i := 5) (N := some 21) (v := ?_) (a' := ?_) #[true, true, true, true, true, true, false, false, false] rfl rfl (by kernel_rfl) (fun _ _ _ h => h) (Or.inl ⟨by rfl, ?_⟩) ?_ ?_
    rotate_left
    · intro w'
      go_simp
      with_reducible rfl
    rotate_left
    · simp only [Act.put, List.setIfInBounds_toArray, List.set_cons_zero, List.set_cons_succ, i64_w, i32_w]
      rfl
    refine pure_ (i := 6) (N := some 22) (v := ?_) (a' := ?_) #[true, true, true, true, true, true, true, false, false] rfl rfl (by kernel_rfl) (fun _ _ _ h => h) (Or.inl ⟨by rfl, ?_⟩) ?_ ?_
    rotate_left
    · intro w'
      go_simp
      with_reducible rfl
    rotate_left
    · simp only [Act.put, List.setIfInBounds_toArray, List.set_cons_zero, List.set_cons_succ, i64_w, i32_w]
      rfl
    refine pure_ (i := 7) (N := some 23) (v := ?_) (a' := ?_) #[true, true, true, true, true, true, true, true, false] rfl rfl (by kernel_rfl) (fun _ _ _ h => h) (Or.inl ⟨by rfl, ?_⟩) ?_ ?_
    rotate_left
    · intro w'
      go_simp
      with_reducible rfl
    rotate_left
    · simp only [Act.put, List.setIfInBounds_toArray, List.set_cons_zero, List.set_cons_succ, i64_w, i32_w]
      rfl
    refine pure_ (i := 8) (N := some 7) (v := ?_) (a' := ?_) #[true, true, true, true, true, true, true, true, true] rfl rfl (by kernel_rfl) (fun _ _ _ h => h) (Or.inl ⟨by rfl, ?_⟩) ?_ ?_
    rotate_left
    · intro w'
      go_simp
      with_reducible rfl
    rotate_left
    · simp only [Act.put, List.setIfInBounds_toArray, List.set_cons_zero, List.set_cons_succ, i64_w, i32_w]
      rfl
    refine done_ (by kernel_rfl) ?_
    gi_wp2
    obtain ⟨A, hA⟩ : ∃ A, F + offW F wd = A := ⟨_, rfl⟩
    obtain ⟨C, hC⟩ : ∃ C, cntW (lenP y m) (offW F wd) = C := ⟨_, rfl⟩
    have hwdl : wdays y m wd = wdL A C := by rw [HW.out, if_pos trivial, hA, hC]
    have hlen : 28 ≤ lenP y m ∧ lenP y m ≤ 31 := by
      rw [lenP_in y m hin]
      have : ∀ (b : Bool) (k : Fin 12), 28 ≤ ((mon b)[k.val]'k.isLt).2 ∧ ((mon b)[k.val]'k.isLt).2 ≤ 31 := by decide
      exact this (lp y) ⟨(m - 1).toNat, by omega⟩
    have hspec : ∀ j : Nat, j < C ↔ A + 7 * (j : Int) < F + lenP y m := by
      intro j
      rw [← hC, ← hA]
      unfold cntW
      omega
    have hAr : -10000010 ≤ A ∧ A ≤ 10000010 := by omega
    have hCr : C ≤ 5 := by rw [← hC]; unfold cntW; omega
    rw [hA]
    rw [hwdl] at HYd
    have HSP := Aside0.mk hspec
    have HWL := Aside0.mk hwdl
    have wl : IntKind.i64.wrap (F + lenP y m) = F + lenP y m := by rw [i64_w]; simp only [wrap64]; omega
    clear w1 w2' w3' w4' w5' hwk hoff hspec HW hwdl HD1 hHeld HD3 HD2 HBd hA hC hFr HF hin
    gi_loopw [7] (fun v wr => ∃ j : Nat, v = .int .i64 (A + 7 * (j : Int)) ∧ j ≤ C ∧ Aside0 (J ((wdL A C).take j) wr) ∧ Aside0 (wr.heap[By]? = some (.cells #[.int .i64 y] 3 (0, 0))) ∧ Aside0 (wr.heap[Bm]? = some (.cells #[.int .i64 m] 3 (0, 0)))) (fun v _ => (A + 7 * (C : Int) + 7 - intOf v).toNat)
    case atStart => exact ⟨0, by simp, Nat.zero_le _, H3, HY3, HM3⟩
    case round =>
      clear H3 HY3 HM3 H2 HY2 HM2 HBy HBm
      obtain ⟨j, rfl, hj, HJ1, HYr, HMr⟩ := hrel
      have cy : wr.cell? ⟨By, 0, none⟩ = some (.int .i64 y) := (blk_cell HYr.out 0).trans rfl
      have cm : wr.cell? ⟨Bm, 0, none⟩ = some (.int .i64 m) := (blk_cell HMr.out 0).trans rfl
      gi_wp2
      gi_at_call 94
      refine (callsIn_wide.2 (date_Length.calls y m _ _ rfl)).mono ?_
      rintro e w6 ⟨rfl, hb6⟩
      have H6 := Aside0.mk (HJ.out.below HJ1.out hb6)
      have HY6 := Aside0.mk (blk_below HYr.out hb6)
      have HM6 := Aside0.mk (blk_below HMr.out hb6)
      clear hb6 cy cm
      by_cases hlt : j < C
      · have e1 : decide (A + 7 * (j : Int) < F + lenP y m) = true := decide_eq_true ((HSP.out j).1 hlt)
        have hlt2 : j < (wdL A C).length := by rw [wdL_len]; exact hlt
        have hx : (wdL A C)[j] = A + 7 * (j : Int) := wdL_at A C j hlt2
        have hpx : (wdL A C).take j ++ [A + 7 * (j : Int)] = (wdL A C).take (j + 1) := by rw [← hx]; exact List.take_append_getElem hlt2
        have HPX := Aside0.mk hpx
        obtain ⟨fn, tmps, assign, body, hy, hRd⟩ := HYd.out ((wdL A C).take j) (A + 7 * (j : Int)) w6 H6.out (by rw [hpx]; exact List.take_prefix _ _)
        have HRr := Aside0.mk hRd
        have wj : IntKind.i64.wrap (A + 7 * (j : Int) + 7) = A + 7 * (j : Int) + 7 := by rw [i64_w]; simp only [wrap64]; omega
        clear hRd hpx hx
        gi_wp2
        refine HRr.out.mono ?_
        rintro e W4 ⟨⟨rfl, hJ4⟩ | ⟨rfl, hJx4⟩, hb4, hz4, hab4⟩
        · gi_wp2
          refine ⟨⟨j + 1, by simp; omega, by omega, ⟨by rw [← HPX.out]; exact hJ4⟩, ⟨(hb4.block By hn1).trans HY6.out⟩, ⟨(hb4.block Bm hn2).trans HM6.out⟩⟩, ?_⟩
          show (A + 7 * (C : Int) + 7 - (A + 7 * (j : Int) + 7)).toNat < (A + 7 * (C : Int) + 7 - (A + 7 * (j : Int))).toNat
          omega
        · gi_wp2
          refine bodyPost_ret (results_none rfl _ _ _) rfl ?_
          exact ⟨⟨_, rfl⟩, .inr ⟨_, by rw [HWL.out, HPX.out]; exact List.take_prefix _ _, hJx4⟩⟩
      · have e1 : decide (A + 7 * (j : Int) < F + lenP y m) = false := decide_eq_false (fun h => hlt ((HSP.out j).2 h))
        obtain rfl : j = C := by omega
        gi_wp2
        refine bodyPost_end (results_none rfl _ _ _) rfl ?_
        have h := H6.out
        rw [List.take_of_length_le (by rw [wdL_len]; exact Nat.le_refl _)] at h
        exact ⟨⟨_, rfl⟩, .inl (by rw [HWL.out]; exact h)⟩
theorem weekdays_z (y m wd : Int) (hwd : 0 ≤ wd ∧ wd ≤ 6) (By Bm Bd n₀ : Nat) (w : World) (hn1 : By < n₀) (hn2 : Bm < n₀)
    (hBy : w.heap[By]? = some (.cells #[.int .i64 y] 3 (0, 0))) (hBm : w.heap[Bm]? = some (.cells #[.int .i64 m] 3 (0, 0))) (hBd : w.heap[Bd]? = some (.cells #[.int .i64 wd] 3 (0, 0))) :
    SeqZ Tryz.prog 101 #[.pointer (some ⟨By, 0, none⟩), .pointer (some ⟨Bm, 0, none⟩), .pointer (some ⟨Bd, 0, none⟩)] (fun x : Int => #[.int .i64 x]) n₀ (fun _ => False) (wdays y m wd) w := fun l J Jx W hW hJ hJx hY h0 =>
  (callsIn_wide (n := 51)).1 (weekdays_in y m wd hwd l By Bm Bd n₀ J Jx W hJ hY ((hW.block By (blk_lt hBy)).trans hBy) ((hW.block Bm (blk_lt hBm)).trans hBm) ((hW.block Bd (blk_lt hBd)).trans hBd) h0 hn1 hn2)
end Go.Proofs.YtmajmolbjiahlaaGreatDoor.PD
namespace Go.Proofs.YtmajmolbjiahlaaGreatDoor.PD
open Go.RowKit Go.Shelf Go.Sort Go.Proofs.YtmajmolbjiahlaaGreatDoorW.PrintWords Go.Proofs.YtmajmolbjiahlaaGreatDoorW.PrintLast Go.Proofs.YtmajmolbjiahlaaGreatDoorW.PrintMore
attribute [local go_sem] isSome_setCell
set_option linter.unusedVariables false
set_option linter.unusedSimpArgs false
abbrev SmI := { x : Int // -200000 < x ∧ x < 200000 }
instance inhSmI : Inhabited SmI := ⟨⟨0, by omega, by omega⟩⟩
def encS (x : SmI) : Value := .int .i64 x.val
def cmpD (x y : SmI) : Int := y.val - x.val
def ltD (x y : SmI) : Bool := decide (y.val < x.val)
theorem ltOf_cmpD : ltOf cmpD = ltD := by
  funext a b
  show decide (cmpD a b < 0) = decide (b.val < a.val)
  rw [decide_eq_decide]
  unfold cmpD
  omega
theorem ltD_swo : SWO ltD where
  irrefl a := by simp [ltD]
  trans a b c h1 h2 := by simp only [ltD, decide_eq_true_eq] at *; omega
  ntrans a b c h1 h2 := by simp only [ltD, decide_eq_false_iff_not] at *; omega
set_option maxHeartbeats 1600000 in
set_option maxRecDepth 100000 in
theorem cmpD_calls (x y : SmI) (w : World) :
    Calls Tryz.prog 29 (#[encS x, encS y] ++ #[]) w fun e w' => e = .returned (.int .i64 (cmpD x y)) ∧ ∃ q os', w' = grow (w.drewN q) os' := by
  obtain ⟨x, hx⟩ := x
  obtain ⟨y, hy⟩ := y
  have hwr : IntKind.i64.wrap (y - x) = y - x := by rw [i64_w]; simp only [wrap64]; omega
  have hg : ∃ q os', w = grow (w.drewN q) os' := ⟨0, #[], by rw [grow_empty]; rfl⟩
  have hg1 : ∃ q os', w.drew = grow (w.drewN q) os' := ⟨1, #[], by rw [grow_empty]; rfl⟩
  show Calls Tryz.prog 29 #[.int .i64 x, .int .i64 y] w fun e w' => e = .returned (.int .i64 (y - x)) ∧ _
  go_enter Tryz.func29, Tryz.ntmps29
  go_wp2
  go_ret
  exact ⟨rfl, by first | exact hg | exact hg1⟩
def sortDesc (l : List Int) : List Int := l.mergeSort fun x y => decide (y ≤ x)
def smallI (l : List Int) : Bool := decide (l.length < 4611686018427387904) && l.all fun x => decide (-200000 < x) && decide (x < 200000)
theorem inner_int {w : World} {base : Nat} {ok : Nat → Prop} {xs : List Int} {inner : List Value} (h : Reps ((Kd.int .i64).M w base ok) 1 xs inner) (t : Nat) (ht : t < xs.length) : inner[t]? = some (.int .i64 xs[t]) := by
  have h1 := h.2 t xs[t] (by rw [List.getElem?_eq_getElem ht])
  have h2 : (inner.drop (t * 1)).take 1 = [.int .i64 xs[t]] := h1
  rw [Nat.mul_one] at h2
  have h3 : ((inner.drop t).take 1)[0]? = inner[t]? := by rw [List.getElem?_take_of_lt (by omega), List.getElem?_drop, Nat.add_zero]
  rw [← h3, h2]
  rfl
theorem reps_int {w : World} {base : Nat} {ok : Nat → Prop} (xs : List Int) : Reps ((Kd.int .i64).M w base ok) 1 xs (xs.map (Value.int .i64)) := by
  refine ⟨by simp, fun j p hj => ?_⟩
  obtain ⟨hl, hp⟩ := List.getElem?_eq_some_iff.1 hj
  show ((xs.map (Value.int .i64)).drop (j * 1)).take 1 = [.int .i64 p]
  have hl' : j < (xs.map (Value.int .i64)).length := by simpa using hl
  rw [Nat.mul_one, List.drop_eq_getElem_cons hl']
  simp [hp]
set_option maxRecDepth 100000 in
set_option maxHeartbeats 1600000 in
theorem sortI_calls (base : Nat) (ok : Nat → Prop) (v : Value) (l : List Int) (w : World) (hr : Kd.R (Kd.int .i64) 2 w base ok v l) (hs : smallI l = true) :
    Calls Tryz.prog 28 #[v, .func (.func 29) #[] #[]] w fun e w' => e = .returned (.tuple #[]) ∧ Kd.R (Kd.int .i64) 2 w' base ok v (sortDesc l) ∧ w.grownBy w' v.ownBlock := by
  unfold smallI at hs
  simp only [Bool.and_eq_true, decide_eq_true_eq, List.all_eq_true] at hs
  obtain ⟨hbig, hsm⟩ := hs
  rcases Nat.eq_zero_or_pos l.length with hz0 | h0
  · obtain rfl := List.eq_nil_of_length_eq_zero hz0
    obtain ⟨A, c, rfl⟩ := Kd.R_slice hr
    refine (Tryz.slices_SortFunc_none (α := SmI) A c (.func (.func 29) #[] #[]) w).mono ?_
    rintro e w' ⟨rfl, rfl⟩
    have e0 : sortDesc ([] : List Int) = [] := by simp [sortDesc]
    rw [e0]
    exact ⟨rfl, hr, ⟨rfl, rfl, rfl, Nat.le_refl _, fun _ _ _ => rfl⟩⟩
  obtain ⟨d, hd⟩ : ∃ d : List SmI, d.map Subtype.val = l := ⟨l.attach.map fun x => ⟨x.1, hsm x.1 x.2⟩, by simp [Function.comp_def]⟩
  have hdl : d.length = l.length := by rw [← hd]; simp
  obtain ⟨hok, inner, hown, hrep⟩ := hr
  rcases hown.2 with ⟨hv, hz⟩ | ⟨g, cap, cur, hv, hb, hh, hnc, hcm, hcs, htake⟩
  · omega
  subst hv
  have hcs2 : cur.size = cap := by rw [hcs]; exact Nat.mul_one _
  have htk : cur.toList.take l.length = inner := by rw [← htake]; show _ = cur.toList.take (l.length * 1); rw [Nat.mul_one]
  have hH : Holds encS w g 0 d.toArray := by
    intro j hj
    have hj' : j < l.length := by simpa [hdl] using hj
    have hj2 : j < d.length := by omega
    refine ⟨?_, by simp [World.frozen?, hh]⟩
    have h1 := inner_int hrep j hj'
    rw [← htk, List.getElem?_take_of_lt hj', Array.getElem?_toList] at h1
    rw [blk_cell hh, Nat.zero_add, h1]
    have : d.toArray[j]! = d[j] := by simp [hj2]
    rw [this]
    subst hd
    simp [encS]
  have eg : ∀ args w, (callFunc 29 args).run Tryz.prog w = .ok (.enter 29 args) w := enters_of Tryz.func29 (by kernel_rfl) rfl
  have hcon := Tryz.slices_SortFunc_total encS (fun _ => rfl) cmpD (by rw [ltOf_cmpD]; exact ltD_swo) 29 #[] g 0 cap d.toArray w eg (fun _ _ _ _ x y => cmpD_calls x y _) hH (blk_lt hh) (by simpa [hdl] using hbig) (by
    rw [ltOf_cmpD]
    intro x y h1 h2
    simp only [ltD, decide_eq_false_iff_not] at h1 h2
    exact Subtype.ext (by omega))
  simp only [List.size_toArray, hdl] at hcon
  refine hcon.mono ?_
  rintro e w' ⟨rfl, n, os, rfl⟩
  obtain ⟨d', hd'⟩ : ∃ d' : List SmI, d' = (d.mergeSort fun x y => !(ltOf cmpD) y x) := ⟨_, rfl⟩
  have hmap : d'.map Subtype.val = sortDesc l := by
    rw [hd', ← hd]
    unfold sortDesc
    refine List.map_mergeSort (fun a _ b _ => ?_)
    rw [ltOf_cmpD]
    unfold ltD
    by_cases h : b.val ≤ a.val
    · rw [decide_eq_true h, decide_eq_false (by omega)]; rfl
    · rw [decide_eq_false h, decide_eq_true (by omega)]; rfl
  have hll : d'.length = l.length := by rw [hd', List.length_mergeSort, hdl]
  rw [← hd', ← hmap]
  have hhp : (sortWorld encS w g 0 n d'.toArray os).heap[g]? = some (.cells (putCells encS 0 d'.toArray cur) 2 (0, 0)) := by
    unfold sortWorld
    rw [heap_grow_old _ _ (by simpa [putRow, mapBlock, Sort.ahead] using blk_lt hh)]
    simp [putRow, mapBlock, Sort.ahead, Array.getElem?_modify, hh, onCells]
  have hgr : w.grownBy (sortWorld encS w g 0 n d'.toArray os) (some g) := by
    unfold sortWorld
    refine ⟨rfl, rfl, rfl, by simp, fun k hk hne => ?_⟩
    rw [heap_grow_old _ _ (by simpa [putRow, mapBlock, Sort.ahead] using hk)]
    have : g ≠ k := fun e => hne (by rw [e])
    simp [putRow, mapBlock, Sort.ahead, Array.getElem?_modify, this]
  refine ⟨rfl, ⟨hok, (d'.map Subtype.val).map (Value.int .i64), ?_, reps_int _⟩, hgr⟩
  refine ⟨by rw [List.length_map]; exact (Nat.mul_one _).symm, .inr ⟨g, cap, _, by rw [List.length_map, hll], hb, hhp, by rw [List.length_map]; omega, hcm, by simp [putCells]; exact hcs, ?_⟩⟩
  show (putCells encS 0 d'.toArray cur).toList.take ((d'.map Subtype.val).length * 1) = _
  rw [Nat.mul_one, List.length_map]
  apply List.ext_getElem?
  intro j
  by_cases hj : j < d'.length
  · have h2 : j < cur.size := by rw [hcs2]; omega
    rw [List.getElem?_take_of_lt hj, Array.getElem?_toList]
    simp [putCells, h2, hj, encS]
  · rw [List.getElem?_take_eq_none (by omega), List.getElem?_eq_none (by simp; omega)]
def slices_SortFunc_int64_int64.f (_ : Nat) (l0 : List Int) : Option (List Int) := if smallI l0 = true then some (sortDesc l0) else none
theorem slices_SortFunc_int64_int64.calls (k : Nat) (P0_ : Nat → Prop) (u9000_ : Value) (l0 : List Int) (r : List Int) (w0 w : World) (hB : Below w0.heap.size w0 w) (ho0 : Kd.R (Kd.int .i64) 2 w w0.heap.size P0_ u9000_ l0) (h : slices_SortFunc_int64_int64.f k l0 = some r) :
    Calls Tryz.prog 28 #[u9000_, .func (.func 29) #[] #[]] w fun e w' => e = .returned (.tuple #[]) ∧ Kd.R (Kd.int .i64) 2 w' w0.heap.size (fun k_ => (P0_ k_ ∨ w.heap.size ≤ k_)) u9000_ r ∧ Below w0.heap.size w0 w' ∧ Kept w w' (fun k_ => P0_ k_) := by
  unfold slices_SortFunc_int64_int64.f at h
  split at h
  case isFalse => cases h
  rename_i hs
  obtain rfl := Option.some.inj h
  have hbs := Kd.R_base ho0
  have hP := ho0.1
  refine (sortI_calls w0.heap.size P0_ u9000_ l0 w ho0 hs).mono ?_
  rintro e w' ⟨rfl, hR, hg⟩
  refine ⟨rfl, Kd.R_mono hR (fun k hk => .inl hk), hB.grown hg hB.size (fun k e => hbs k e), ⟨hg.size, fun i hi hn => hg.block i hi (fun e => hn (hP i e.symm))⟩⟩
end Go.Proofs.YtmajmolbjiahlaaGreatDoor.PD
namespace Go.Proofs.YtmajmolbjiahlaaGreatDoor.PD
open Go.RowKit Go.Shelf Go.Proofs.YtmajmolbjiahlaaGreatDoorW.PrintWords Go.Proofs.YtmajmolbjiahlaaGreatDoorW.PrintLast Go.Proofs.YtmajmolbjiahlaaGreatDoorW.PrintMore
attribute [local go_sem] isSome_setCell Oper.semAt_some wide_fn wide_depth
set_option linter.unusedVariables false
set_option linter.unusedSimpArgs false
def Acc (w : World) (S : Nat) (xs : List Int) (W : World) : Prop := ∃ v : Value, (W.heap[S]? = some (.cells #[v] 45 (0, 0)) ∧ v.ownBlock ≠ some S) ∧ W.ownsRow (S + 1) 2 1 v xs.length (xs.map (Value.int .i64)) ∧ Below S w W
theorem acc_own (w : World) (S : Nat) (hS : w.heap.size = S) : OwnZ (fun _ => False) (S + 1) (fun (xs : List Int) W => Acc w S xs W) := by
  rintro s X Y row ⟨v, ⟨h1, h2⟩, h3, h4⟩ hg hr
  have hrow : ∀ r, row = some r → S + 1 ≤ r ∧ ∃ o : Obj, X.heap[r]? = some o ∧ o.isCells = false := fun r e => (hr r e).elim (fun h => h.elim) id
  refine ⟨v, ⟨(hg.block S (blk_lt h1) (fun e => by have := (hrow S e.symm).1; omega)).trans h1, h2⟩, h3.kept hg ?_, h4.grown hg (by rw [← hS]; exact h4.size) (fun k e => by have := (hrow k e).1; omega)⟩
  cases hv : v.ownBlock with
  | none => exact .inl rfl
  | some g =>
    refine .inr (fun e => ?_)
    obtain ⟨_, o, ho, hoc⟩ := hrow g e.symm
    rcases h3.2 with ⟨rfl, _⟩ | ⟨g', cap, cur, rfl, _, hg', _⟩
    · simp [Value.ownBlock] at hv
    · have : g' = g := by simpa [Value.ownBlock] using hv
      subst this
      rw [hg'] at ho
      cases ho
      simp [Obj.isCells] at hoc
theorem one_new (w : World) (u : Value) (t : TypeId) : ∀ (j : Nat) (v : Value), ([u] : List Value)[j]? = some v → (w.alloc (.cells #[u] t)).cell? ((⟨w.heap.size, 0, none⟩ : Addr).add j) = some v := by
  intro j v hj
  cases j with
  | zero =>
    obtain rfl : u = v := by simpa using hj
    exact (blk_cell (heap_alloc_new w (.cells #[u] t)) 0).trans rfl
  | succ j => simp at hj
theorem own_succ {w : World} {base : Nat} {e : TypeId} {size n : Nat} {v : Value} {xs : List Value} (h : w.ownsRow base e size v (n + 1) xs) : ∃ g cap, v = .slice (some ⟨g, 0, none⟩) (n + 1) cap := by
  rcases h.2 with ⟨_, h0⟩ | ⟨g, cap, cur, rfl, _⟩
  · omega
  · exact ⟨g, cap, rfl⟩
theorem own_put {W : World} {base : Nat} {e : TypeId} {size n D : Nat} {v : Value} {xs : List Value} {o : Obj} (h : W.ownsRow base e size v n xs) (hD : W.heap[D]? = some (.deferred (some []))) : (W.putObj D o).ownsRow base e size v n xs := by
  refine h.kept (row := some D) (grownBy_putObj' W D o) ?_
  rcases h.2 with ⟨rfl, _⟩ | ⟨g, cap, cur, rfl, _, hg, _⟩
  · exact .inl rfl
  · refine .inr (fun e => ?_)
    have : g = D := by simpa [Value.ownBlock] using e
    subst this
    rw [hg] at hD
    cases hD
theorem own_lower {W : World} {base base' : Nat} {e : TypeId} {size n : Nat} {v : Value} {xs : List Value} (h : W.ownsRow base e size v n xs) (hb : base' ≤ base) : W.ownsRow base' e size v n xs := ⟨h.1, h.2.imp id (fun ⟨g, cap, cur, a, b, r⟩ => ⟨g, cap, cur, a, Nat.le_trans hb b, r⟩)⟩
theorem acc_at {W w1 : World} {S : Nat} {v u : Value} {t : TypeId} (h1 : W.heap[S]? = some (.cells #[v] 45 (0, 0))) (h2 : v.ownBlock ≠ some S) (hg : (W.alloc (.cells #[u] t)).grownBy w1 v.ownBlock) :
    w1.heap[S]? = some (.cells #[v] 45 (0, 0)) ∧ w1.cell? ⟨S, 0, none⟩ = some v ∧ w1.frozen? ⟨S, 0, none⟩ = false := by
  have h := blk_grown (blk_alloc h1 (.cells #[u] t)) hg (fun e => h2 e.symm)
  exact ⟨h, (blk_cell h 0).trans rfl, blk_frozen h 0⟩
theorem acc_step {w W w1 : World} {S B : Nat} {v : Value} {pre : List Int} {x : Int} {g cap : Nat} (h1 : W.heap[S]? = some (.cells #[v] 45 (0, 0))) (h2 : v.ownBlock ≠ some S) (h3 : W.ownsRow (S + 1) 2 1 v pre.length (pre.map (Value.int .i64))) (h4 : Below S w W)
    (hg : (W.alloc (.cells #[.int .i64 x] 2)).grownBy w1 v.ownBlock) (ho : w1.ownsRow (S + 1) 2 1 (.slice (some ⟨g, 0, none⟩) (pre.length + 1) cap) (pre.length + 1) (pre.map (Value.int .i64) ++ [.int .i64 x])) (hB : B = S + 1) (hS : S < W.heap.size) :
    KeepsFrom B W (w1.setCell ⟨S, 0, none⟩ (.slice (some ⟨g, 0, none⟩) (pre.length + 1) cap)) ∧ Below S W (w1.setCell ⟨S, 0, none⟩ (.slice (some ⟨g, 0, none⟩) (pre.length + 1) cap)) ∧ SameZ (fun _ => False) W (w1.setCell ⟨S, 0, none⟩ (.slice (some ⟨g, 0, none⟩) (pre.length + 1) cap)) ∧ Acc w S (pre ++ [x]) (w1.setCell ⟨S, 0, none⟩ (.slice (some ⟨g, 0, none⟩) (pre.length + 1) cap)) := by
  obtain ⟨X, hX⟩ : ∃ X, w1.setCell ⟨S, 0, none⟩ (.slice (some ⟨g, 0, none⟩) (pre.length + 1) cap) = X := ⟨_, rfl⟩
  have hsz : w1.heap.size = X.heap.size := by rw [← hX]; simp [World.setCell]
  have hsw : W.heap.size ≤ w1.heap.size := by have := hg.size; rw [World.size_alloc] at this; omega
  have far : ∀ k, k ≠ S → X.heap[k]? = w1.heap[k]? := fun k hk => by rw [← hX]; exact Below.heap_setCell _ _ _ k hk
  have hv : ∀ k, v.ownBlock = some k → S + 1 ≤ k := fun k e => (h3.lt k e).1
  have old : ∀ k, k < W.heap.size → some k ≠ v.ownBlock → w1.heap[k]? = W.heap[k]? := fun k hk hne => (hg.block k (by rw [World.size_alloc]; omega) hne).trans (Below.heap_alloc _ _ _ hk)
  have hgS : g ≠ S := by have := (ho.lt g rfl).1; omega
  have hbl : Below S W X := ⟨by rw [← hX]; exact hg.os, by rw [← hX]; exact hg.tape, by rw [← hX]; exact hg.output, by omega, fun k hk => (far k (by omega)).trans (old k (by omega) (fun e => by have := hv k e.symm; omega))⟩
  have hb1 := (acc_at h1 h2 hg).1
  rw [hX]
  refine ⟨⟨by omega, fun i o hi ho' hc => ?_⟩, hbl, fun _ hb => hb.elim, ⟨_, ⟨by rw [← hX]; exact blk_set hb1 0 _, by simpa [Value.ownBlock] using hgS⟩, ?_, h4.trans hbl⟩⟩
  · rw [far i (by omega), old i (Array.getElem?_eq_some_iff.1 ho').1 (fun e => ?_)]
    · exact ho'
    · rcases h3.2 with ⟨rfl, _⟩ | ⟨g2, c2, cur, rfl, _, hg2, _⟩
      · simp [Value.ownBlock] at e
      · have : i = g2 := by simpa [Value.ownBlock] using e
        subst this
        rw [hg2] at ho'
        cases ho'
        simp [Obj.isCells] at hc
  · rw [List.length_append, List.length_singleton, List.map_append]
    refine ho.kept (row := some S) ⟨by rw [← hX]; rfl, by rw [← hX]; rfl, by rw [← hX]; rfl, by omega, fun k _ hk => far k (fun e => hk (by rw [e]))⟩ (.inr (by simpa [Value.ownBlock] using hgS))
set_option maxRecDepth 100000 in
set_option maxHeartbeats 8000000 in
theorem appendSeq_calls (gf : Nat) (fn : Func) (lb : Array Value) (xs : List Int) (w : World) (hfn : Tryz.prog.funcs[gf]? = some fn) (hname : (fn.name == "runtime.NumGoroutine") = false) (hbody : fn.body.isSome = true) (hlen : xs.length ≤ 1000)
    (hseq : SeqZ Tryz.prog gf lb (fun x : Int => #[.int .i64 x]) w.heap.size (fun _ => False) xs w) :
    Calls Tryz.prog 100 #[.slice none 0 0, .func (.func gf) #[] lb] w fun e w' => ∃ v, e = .returned v ∧ Kd.R (Kd.int .i64) 2 w' w.heap.size (fun _ => True) v xs ∧ Below w.heap.size w w' := by
  have HB := Aside0.mk (below_alloc (Below.refl w.heap.size w) (.cells #[.slice none 0 0] 45))
  have HK := Aside0.mk (heap_alloc_new w (.cells #[.slice none 0 0] 45))
  refine (callsIn_wide (n := 51)).1 ?_
  refine callsIn_of_wp_marks Tryz.func100 rfl trivial ?_ rfl
  simp only [Tryz.ntmps100, List.size_toArray, List.length_cons, List.length_nil, Nat.reduceAdd, Nat.reduceSub, Array.replicate_succ, Array.replicate_zero, List.push_toArray, List.append_toArray, List.nil_append, List.cons_append]
  have HSEQ := Aside0.mk hseq
  clear hseq
  gi_wp2
  obtain ⟨V, hV⟩ : ∃ V, w.alloc (.cells #[.slice none 0 0] 45) = V := ⟨_, rfl⟩
  have hz : V.heap.size = w.heap.size + 1 := by rw [← hV]; simp
  rw [hV] at HB HK ⊢
  obtain ⟨S, hS⟩ : ∃ S, w.heap.size = S := ⟨_, rfl⟩
  rw [hS] at HB HK HSEQ hz ⊢
  clear hV
  refine range_z (n₀ := S) (Z := fun _ => False) (gf := gf) (lb := lb) rfl (fun args W => enters_ hfn hname hbody args W) (by omega) (fun b hb => hb.elim)
    (fun l J Jx W hW hJ hJx hY h0 => HSEQ.out l J Jx W (by rw [hS]; exact HB.out.trans (hW.mono (by omega))) hJ hJx hY h0) (fun _ => rfl) (fun pre W => Acc w S pre W) (fun c pre W => False)
    (by rw [hz]; exact acc_own w S hS) (fun c => (fun s X Y row h _ _ => h.elim)) ⟨.slice none 0 0, ⟨HK.out, by simp [Value.ownBlock]⟩, World.ownsRow_nil _ _ _ _, HB.out⟩
    (fun x a' _ => a' = { tmps := #[.slice none 0 0, .func (.func gf) #[] lb, .pointer (some ⟨S, 0, none⟩), undef, .slice none 0 0, .int .i64 x, .func (.func gf) #[] lb, .int .i64 x, undef, undef, undef, undef, undef], defers := [] }) (fun _ _ _ _ _ _ hs _ _ => hs) ?assign ?body ?done ?stop
  case assign =>
    intro l pre x W K hI hpx hW hK
    gi_wp2
    refine hK _ _ (KeepsFrom.refl _ _) (Below.refl _ _) (fun _ _ => rfl) hI (by simp)
  case body =>
    rintro l pre x a' W ⟨v, ⟨h1, h2⟩, h3, h4⟩ hpx hWs rfl
    have hpl : pre.length + 1 ≤ 1000 := by
      have := hpx.length_le
      simp only [List.length_append, List.length_singleton] at this
      omega
    have c1 : W.cell? ⟨S, 0, none⟩ = some v := (blk_cell h1 0).trans rfl
    obtain ⟨i0, hi, hzz⟩ := Option.map_eq_some_iff.1 info2
    simp only [Prod.mk.injEq] at hzz
    obtain ⟨hz0, hz1, hz2⟩ := hzz
    have hWS : S + 1 ≤ W.heap.size := by omega
    have hvl : (pre.map (Value.int .i64)).length = pre.length := by simp
    have H1 := Aside0.mk h1
    have H2 := Aside0.mk h2
    have H4 := Aside0.mk h4
    clear h1 h2 h4
    gi_wp2_with (gi_at_builtin; refine wpListIn_append_own _ rfl _ _ 45 rfl (S + 1) 2 i0 (.int .i64 0) 1 8 Tryz.underlying45 hi hz0 hz1 hz2 rfl (by decide) _ _ _ rfl (h3.alloc _) ⟨W.heap.size, 0, none⟩ 1 1 [.int .i64 x] rfl rfl (one_new _ _ _) (by simp [Value.oneCell']) (by unfold maxLen; omega) (by omega) (by simp; omega) ?_; intro v' w1 hown' hgrow _; obtain ⟨g', cap', rfl⟩ := own_succ hown'; obtain ⟨HS1, hc1, hf1⟩ := acc_at H1.out H2.out hgrow; have HO := Aside0.mk hown'; have HG := Aside0.mk hgrow; clear hown' hgrow)
    exact acc_step H1.out H2.out h3 H4.out HG.out HO.out (by rw [hz]) (by omega)
  case done =>
    rintro D W hD ⟨v, ⟨h1, h2⟩, h3, h4⟩ hK
    have c1 : W.cell? ⟨S, 0, none⟩ = some v := (blk_cell h1 0).trans rfl
    have H4 := Aside0.mk h4
    have H3 := Aside0.mk h3
    clear h1 h2 h3 h4
    gi_wp2
    refine ⟨by simp, .inl ⟨_, _, rfl, run_takeDeferred hK, ?_⟩⟩
    refine ⟨_, results_tmp rfl _ _ _, v, rfl, ?_, by rw [hS]; exact H4.out.trans (below_put _ (by omega))⟩
    rw [hS]
    exact ⟨fun _ _ => trivial, _, own_lower (own_put H3.out hK) (Nat.le_succ S), reps_int xs⟩
  case stop =>
    rintro D c pre W hD hpre h hK
    exact h.elim
set_option maxRecDepth 100000 in
set_option maxHeartbeats 1600000 in
theorem collect_calls (gf : Nat) (fn : Func) (lb : Array Value) (xs : List Int) (w : World) (hfn : Tryz.prog.funcs[gf]? = some fn) (hname : (fn.name == "runtime.NumGoroutine") = false) (hbody : fn.body.isSome = true) (hlen : xs.length ≤ 1000)
    (hseq : SeqZ Tryz.prog gf lb (fun x : Int => #[.int .i64 x]) w.heap.size (fun _ => False) xs w) :
    Calls Tryz.prog 86 #[.func (.func gf) #[] lb] w fun e w' => ∃ v, e = .returned v ∧ Kd.R (Kd.int .i64) 2 w' w.heap.size (fun _ => True) v xs ∧ Below w.heap.size w w' := by
  have HA := Aside0.mk (appendSeq_calls gf fn lb xs w hfn hname hbody hlen hseq)
  clear hseq
  go_enter Tryz.func86, Tryz.ntmps86
  go_wp2_with (go_at_call 100; refine HA.out.mono ?_; rintro e w1 ⟨v, rfl, hR, hb⟩; have HR := Aside0.mk hR; have HB := Aside0.mk hb; clear hR hb)
  go_ret
  exact ⟨v, rfl, HR.out, HB.out⟩
end Go.Proofs.YtmajmolbjiahlaaGreatDoor.PD
namespace Go.Proofs.YtmajmolbjiahlaaGreatDoor.PD
open Go.RowKit Go.Shelf Go.Proofs.YtmajmolbjiahlaaGreatDoorW.PrintWords Go.Proofs.YtmajmolbjiahlaaGreatDoorW.PrintLast Go.Proofs.YtmajmolbjiahlaaGreatDoorW.PrintMore
attribute [local go_sem] isSome_setCell
set_option linter.unusedVariables false
set_option linter.unusedSimpArgs false
def atL (l : List Int) (k : Int) : Int × Bool := if k < 0 ∨ (l.length : Int) ≤ k then (0, false) else (rd l k, true)
def nthP (y m n d : Int) : Int × Bool := if d < 0 ∨ 6 < d ∨ n = 0 then (0, false) else if n < 0 then atL (wdays y m d) (((wdays y m d).length : Int) + n) else atL (wdays y m d) (n - 1)
theorem nthP_bad (y m n d : Int) (h : d < 0 ∨ 6 < d ∨ n = 0) : nthP y m n d = (0, false) := if_pos h
theorem nthP_neg (y m n d : Int) (h1 : ¬ d < 0) (h2 : ¬ 6 < d) (h3 : ¬ n = 0) (h4 : n < 0) : nthP y m n d = if ((wdays y m d).length : Int) + n < 0 ∨ ((wdays y m d).length : Int) ≤ ((wdays y m d).length : Int) + n then (0, false) else (rd (wdays y m d) (((wdays y m d).length : Int) + n), true) := by
  unfold nthP
  rw [if_neg (by omega), if_pos h4]
  rfl
theorem nthP_pos (y m n d : Int) (h1 : ¬ d < 0) (h2 : ¬ 6 < d) (h3 : ¬ n = 0) (h4 : ¬ n < 0) : nthP y m n d = if n - 1 < 0 ∨ ((wdays y m d).length : Int) ≤ n - 1 then (0, false) else (rd (wdays y m d) (n - 1), true) := by
  unfold nthP
  rw [if_neg (by omega), if_neg h4]
  rfl
theorem wdays_len (y m d : Int) (hd : 0 ≤ d ∧ d ≤ 6) : (wdays y m d).length ≤ 5 := by
  unfold wdays
  split
  · rename_i h
    obtain ⟨hin, _⟩ := days1 y m h
    rw [wdL_len]
    have hlen : lenP y m ≤ 31 := by
      rw [lenP_in y m hin]
      have : ∀ (b : Bool) (k : Fin 12), ((mon b)[k.val]'k.isLt).2 ≤ 31 := by decide
      exact this (lp y) ⟨(m - 1).toNat, by omega⟩
    unfold cntW offW
    omega
  · exact Nat.zero_le _
set_option maxRecDepth 100000 in
set_option maxHeartbeats 1600000 in
theorem weekdays_made (y m d : Int) (w : World) : Calls Tryz.prog 87 #[.int .i64 y, .int .i64 m, .int .i64 d] w fun e w' =>
    e = .returned (.func (.func 101) #[] #[.pointer (some ⟨w.heap.size, 0, none⟩), .pointer (some ⟨w.heap.size + 1, 0, none⟩), .pointer (some ⟨w.heap.size + 2, 0, none⟩)]) ∧ w' = ((w.alloc (.cells #[.int .i64 y] 3)).alloc (.cells #[.int .i64 m] 3)).alloc (.cells #[.int .i64 d] 3) := by
  go_enter Tryz.func87, Tryz.ntmps87
  go_wp2
  go_ret
  exact ⟨rfl, rfl⟩
set_option maxRecDepth 100000 in
set_option maxHeartbeats 8000000 in
theorem nth_calls (y m n d : Int) (hn : -1000 ≤ n ∧ n ≤ 1000) (w : World) :
    Calls Tryz.prog 64 #[.int .i64 y, .int .i64 m, .agg #[.int .i64 n, .int .i64 d]] w fun e w' => e = .returned (.tuple #[.int .i64 (nthP y m n d).1, .bool (nthP y m n d).2]) ∧ Below w.heap.size w w' := by
  have HBN := Aside0.mk (below_alloc (Below.refl w.heap.size w) (.cells #[.int .i64 n, .int .i64 d] 30))
  by_cases h1 : d < 0
  · have e1 : decide (d < 0) = true := decide_eq_true h1
    rw [nthP_bad y m n d (.inl h1)]
    go_enter Tryz.func64, Tryz.ntmps64
    go_wp2
    go_ret2
    exact ⟨rfl, HBN.out⟩
  have e1 : decide (d < 0) = false := decide_eq_false h1
  by_cases h2 : 6 < d
  · have e2 : decide (6 < d) = true := decide_eq_true h2
    rw [nthP_bad y m n d (.inr (.inl h2))]
    go_enter Tryz.func64, Tryz.ntmps64
    go_wp2
    go_ret2
    exact ⟨rfl, HBN.out⟩
  have e2 : decide (6 < d) = false := decide_eq_false h2
  by_cases h3 : n = 0
  · subst h3
    rw [nthP_bad y m 0 d (.inr (.inr rfl))]
    go_enter Tryz.func64, Tryz.ntmps64
    go_wp2
    go_ret2
    exact ⟨rfl, HBN.out⟩
  have e3 : (n == 0) = false := beq_eq_false_iff_ne.2 h3
  have e3' : decide (n = 0) = false := decide_eq_false h3
  have hl5 := wdays_len y m d (by omega)
  have HB0 := Aside0.mk (below_alloc (below_alloc (below_alloc HBN.out (.cells #[.int .i64 y] 3)) (.cells #[.int .i64 m] 3)) (.cells #[.int .i64 d] 3))
  have HKN := Aside0.mk (blk_alloc (blk_alloc (blk_alloc (heap_alloc_new w (.cells #[.int .i64 n, .int .i64 d] 30)) (.cells #[.int .i64 y] 3)) (.cells #[.int .i64 m] 3)) (.cells #[.int .i64 d] 3))
  have HCO : Aside0 (Calls Tryz.prog 86 #[.func (.func 101) #[] #[.pointer (some ⟨w.heap.size + 1, 0, none⟩), .pointer (some ⟨w.heap.size + 1 + 1, 0, none⟩), .pointer (some ⟨w.heap.size + 1 + 2, 0, none⟩)]] ((((w.alloc (.cells #[.int .i64 n, .int .i64 d] 30)).alloc (.cells #[.int .i64 y] 3)).alloc (.cells #[.int .i64 m] 3)).alloc (.cells #[.int .i64 d] 3))
      fun e w' => ∃ v, e = .returned v ∧ Kd.R (Kd.int .i64) 2 w' ((((w.alloc (.cells #[.int .i64 n, .int .i64 d] 30)).alloc (.cells #[.int .i64 y] 3)).alloc (.cells #[.int .i64 m] 3)).alloc (.cells #[.int .i64 d] 3)).heap.size (fun _ => True) v (wdays y m d) ∧ Below ((((w.alloc (.cells #[.int .i64 n, .int .i64 d] 30)).alloc (.cells #[.int .i64 y] 3)).alloc (.cells #[.int .i64 m] 3)).alloc (.cells #[.int .i64 d] 3)).heap.size ((((w.alloc (.cells #[.int .i64 n, .int .i64 d] 30)).alloc (.cells #[.int .i64 y] 3)).alloc (.cells #[.int .i64 m] 3)).alloc (.cells #[.int .i64 d] 3)) w') :=
    ⟨collect_calls 101 _ _ _ _ Tryz.func101 (by kernel_rfl) rfl (by omega) (weekdays_z y m d (by omega) (w.heap.size + 1) (w.heap.size + 1 + 1) (w.heap.size + 1 + 2) _ _ (by simp) (by simp)
      (by have := heap_alloc_new (w.alloc (.cells #[.int .i64 n, .int .i64 d] 30)) (.cells #[.int .i64 y] 3); rw [World.size_alloc] at this; exact blk_alloc (blk_alloc this _) _)
      (by have := heap_alloc_new ((w.alloc (.cells #[.int .i64 n, .int .i64 d] 30)).alloc (.cells #[.int .i64 y] 3)) (.cells #[.int .i64 m] 3); rw [World.size_alloc, World.size_alloc] at this; exact blk_alloc this _)
      (by have := heap_alloc_new (((w.alloc (.cells #[.int .i64 n, .int .i64 d] 30)).alloc (.cells #[.int .i64 y] 3)).alloc (.cells #[.int .i64 m] 3)) (.cells #[.int .i64 d] 3); rw [World.size_alloc, World.size_alloc, World.size_alloc] at this; exact this))⟩
  by_cases h4 : n < 0
  ·
    have w1 : IntKind.i64.wrap (n - 1) = n - 1 := by rw [i64_w]; simp only [wrap64]; omega
    have w2 : IntKind.i64.wrap (((wdays y m d).length : Int) + n) = ((wdays y m d).length : Int) + n := by rw [i64_w]; simp only [wrap64]; omega
    have e4 : decide (n < 0) = true := decide_eq_true (by omega)
    rw [nthP_neg y m n d h1 h2 h3 (by omega)]
    by_cases h5 : ((wdays y m d).length : Int) + n < 0
    · have e5 : decide (((wdays y m d).length : Int) + n < 0) = true := decide_eq_true h5
      rw [if_pos (.inl h5)]
      go_enter Tryz.func64, Tryz.ntmps64
      go_wp2_with (first
            | (go_at_call 87; with_reducible refine (weekdays_made y m d _).mono ?_; rintro e w1 ⟨rfl, rfl⟩)
            | (go_at_call 86; refine HCO.out.mono ?_; rintro e w2 ⟨v, rfl, hR, hb⟩; obtain ⟨A, c, rfl⟩ := Kd.R_slice hR; have HR := Aside0.mk hR; have HB := Aside0.mk (HB0.out.trans (hb.mono HB0.out.size)); have HBX := Aside0.mk hb; have hk2 := blk_below HKN.out hb; have c0 : w2.cell? ⟨w.heap.size, 0, none⟩ = some (.int .i64 n) := (blk_cell hk2 0).trans rfl; clear hk2; skip; clear hR hb))
      go_ret2
      exact ⟨rfl, HB.out⟩
    have e5 : decide (((wdays y m d).length : Int) + n < 0) = false := decide_eq_false h5
    by_cases h6 : ((wdays y m d).length : Int) ≤ ((wdays y m d).length : Int) + n
    · have e6 : decide (((wdays y m d).length : Int) ≤ ((wdays y m d).length : Int) + n) = true := decide_eq_true h6
      rw [if_pos (.inr h6)]
      omega
    have e6 : decide (((wdays y m d).length : Int) ≤ ((wdays y m d).length : Int) + n) = false := decide_eq_false h6
    rw [if_neg (by omega)]
    go_enter Tryz.func64, Tryz.ntmps64
    go_wp2_with (first
        | (go_at_call 87; with_reducible refine (weekdays_made y m d _).mono ?_; rintro e w1 ⟨rfl, rfl⟩)
        | (go_at_call 86; refine HCO.out.mono ?_; rintro e w2 ⟨v, rfl, hR, hb⟩; obtain ⟨A, c, rfl⟩ := Kd.R_slice hR; have HR := Aside0.mk hR; have HB := Aside0.mk (HB0.out.trans (hb.mono HB0.out.size)); have HBX := Aside0.mk hb; have hk2 := blk_below HKN.out hb; have c0 : w2.cell? ⟨w.heap.size, 0, none⟩ = some (.int .i64 n) := (blk_cell hk2 0).trans rfl; clear hk2; obtain ⟨ad, e, hx⟩ := Kd.at_int (Kd.R_reads' hR).2.2 (((wdays y m d).length : Int) + n) (by omega) (by omega); subst e; clear hR hb))
    go_ret2
    exact ⟨rfl, HB.out⟩
  ·
    have w1 : IntKind.i64.wrap (n - 1) = n - 1 := by rw [i64_w]; simp only [wrap64]; omega
    have w2 : IntKind.i64.wrap (((wdays y m d).length : Int) + n) = ((wdays y m d).length : Int) + n := by rw [i64_w]; simp only [wrap64]; omega
    have e4 : decide (n < 0) = false := decide_eq_false (by omega)
    rw [nthP_pos y m n d h1 h2 h3 (by omega)]
    by_cases h5 : n - 1 < 0
    · have e5 : decide (n - 1 < 0) = true := decide_eq_true h5
      rw [if_pos (.inl h5)]
      omega
    have e5 : decide (n - 1 < 0) = false := decide_eq_false h5
    by_cases h6 : ((wdays y m d).length : Int) ≤ n - 1
    · have e6 : decide (((wdays y m d).length : Int) ≤ n - 1) = true := decide_eq_true h6
      rw [if_pos (.inr h6)]
      go_enter Tryz.func64, Tryz.ntmps64
      go_wp2_with (first
            | (go_at_call 87; with_reducible refine (weekdays_made y m d _).mono ?_; rintro e w1 ⟨rfl, rfl⟩)
            | (go_at_call 86; refine HCO.out.mono ?_; rintro e w2 ⟨v, rfl, hR, hb⟩; obtain ⟨A, c, rfl⟩ := Kd.R_slice hR; have HR := Aside0.mk hR; have HB := Aside0.mk (HB0.out.trans (hb.mono HB0.out.size)); have HBX := Aside0.mk hb; have hk2 := blk_below HKN.out hb; have c0 : w2.cell? ⟨w.heap.size, 0, none⟩ = some (.int .i64 n) := (blk_cell hk2 0).trans rfl; clear hk2; skip; clear hR hb))
      go_ret2
      exact ⟨rfl, HB.out⟩
    have e6 : decide (((wdays y m d).length : Int) ≤ n - 1) = false := decide_eq_false h6
    rw [if_neg (by omega)]
    go_enter Tryz.func64, Tryz.ntmps64
    go_wp2_with (first
        | (go_at_call 87; with_reducible refine (weekdays_made y m d _).mono ?_; rintro e w1 ⟨rfl, rfl⟩)
        | (go_at_call 86; refine HCO.out.mono ?_; rintro e w2 ⟨v, rfl, hR, hb⟩; obtain ⟨A, c, rfl⟩ := Kd.R_slice hR; have HR := Aside0.mk hR; have HB := Aside0.mk (HB0.out.trans (hb.mono HB0.out.size)); have HBX := Aside0.mk hb; have hk2 := blk_below HKN.out hb; have c0 : w2.cell? ⟨w.heap.size, 0, none⟩ = some (.int .i64 n) := (blk_cell hk2 0).trans rfl; clear hk2; obtain ⟨ad, e, hx⟩ := Kd.at_int (Kd.R_reads' hR).2.2 (n - 1) (by omega) (by omega); subst e; rw [show (n - 1).toNat = n.toNat - 1 by omega] at hx; clear hR hb))
    go_ret2
    exact ⟨rfl, HB.out⟩
end Go.Proofs.YtmajmolbjiahlaaGreatDoor.PD
namespace Go.Proofs.YtmajmolbjiahlaaGreatDoor.PD
open Go.RowKit Go.Proofs.YtmajmolbjiahlaaGreatDoorW.PrintWords Go.Proofs.YtmajmolbjiahlaaGreatDoorW.PrintLast Go.Proofs.YtmajmolbjiahlaaGreatDoorW.PrintMore
attribute [local go_sem] isSome_setCell max2_int min2_int max_two min_two max_three min_three max_four min_four
set_option linter.unusedVariables false
set_option linter.unusedSimpArgs false
theorem eqA30 (d : Nat) (w : World) (x0 y0 : Int) (x1 y1 : Int) :
    (Op.equalIn (d + 2) 30 (.agg #[.int .i64 x0, .int .i64 x1]) (.agg #[.int .i64 y0, .int .i64 y1])).run Tryz.prog w = .ok (x0 == y0 && (x1 == y1)) w := by
  refine eqA_of Tryz.underlying30 (by kernel_rfl) ?_
  refine eqf_cons (by rfl) (by go_simp; rfl) (by go_simp; rfl) (by go_simp) ?_
  exact eqf_last (by rfl) (by go_simp; rfl) (by go_simp; rfl) (by go_simp)
end Go.Proofs.YtmajmolbjiahlaaGreatDoor.PD
namespace Go.Proofs.YtmajmolbjiahlaaGreatDoor.PD
open Go.RowKit Go.Proofs.YtmajmolbjiahlaaGreatDoorW.PrintWords Go.Proofs.YtmajmolbjiahlaaGreatDoorW.PrintLast Go.Proofs.YtmajmolbjiahlaaGreatDoorW.PrintMore
attribute [local go_sem] isSome_setCell max2_int min2_int max_two min_two max_three min_three max_four min_four
set_option linter.unusedVariables false
set_option linter.unusedSimpArgs false
def date_In.f (a0 : Int) : Option (Bool) := if a0 ≥ (-62135596800) then (some (decide (a0 ≤ 253402300799))) else (some false)
set_option maxHeartbeats 8000000 in
set_option maxRecDepth 100000 in
theorem date_In.calls (a0 : Int) (r : Bool) (w : World) (h : date_In.f a0 = some r) :
    Calls Tryz.prog 22 #[.int .i64 a0] w fun e w' => e = .returned (.bool r) ∧ Drawn0 w w' := by
  have H : (if a0 ≥ (-62135596800) then (some (decide (a0 ≤ 253402300799))) else (some false)) = some r := h
  clear h
  by_cases c2 : a0 ≥ (-62135596800)
  · rw [if_pos c2] at H
    have c2b0 : decide ((-62135596800) ≤ a0) = true := decide_eq_true c2
    clear c2
    obtain rfl := Option.some.inj H
    go_enter Tryz.func22, Tryz.ntmps22
    go_wp2
    go_ret
    exact ⟨by first | rfl | (simp; done) | (simp [*]; done), by repeat (first | exact Drawn0.refl _ | apply Drawn0.step)⟩
  · rw [if_neg c2] at H
    have c2b0 : decide ((-62135596800) ≤ a0) = false := decide_eq_false c2
    clear c2
    obtain rfl := Option.some.inj H
    go_enter Tryz.func22, Tryz.ntmps22
    go_wp2
    go_ret
    exact ⟨by first | rfl | (simp; done) | (simp [*]; done), by repeat (first | exact Drawn0.refl _ | apply Drawn0.step)⟩
end Go.Proofs.YtmajmolbjiahlaaGreatDoor.PD
namespace Go.Proofs.YtmajmolbjiahlaaGreatDoor.PD
open Go.RowKit Go.Proofs.YtmajmolbjiahlaaGreatDoorW.PrintWords Go.Proofs.YtmajmolbjiahlaaGreatDoorW.PrintLast Go.Proofs.YtmajmolbjiahlaaGreatDoorW.PrintMore
attribute [local go_sem] isSome_setCell max2_int min2_int max_two min_two max_three min_three max_four min_four
set_option linter.unusedVariables false
set_option linter.unusedSimpArgs false
def zone_within.f (a0 : Int) (a1 : Int) : Option (Bool) := if a0 < a1 then (some (decide (a0 > (wrap64 (-a1))))) else (some false)
set_option maxHeartbeats 8000000 in
set_option maxRecDepth 100000 in
theorem zone_within.calls (a0 : Int) (a1 : Int) (r : Bool) (w : World) (h : zone_within.f a0 a1 = some r) :
    Calls Tryz.prog 59 #[.int .i64 a0, .int .i64 a1] w fun e w' => e = .returned (.bool r) ∧ Drawn0 w w' := by
  have H : (if a0 < a1 then (some (decide (a0 > (wrap64 (-a1))))) else (some false)) = some r := h
  clear h
  by_cases c3 : a0 < a1
  · rw [if_pos c3] at H
    have c3b0 : decide (a0 < a1) = true := decide_eq_true c3
    clear c3
    obtain rfl := Option.some.inj H
    go_enter Tryz.func59, Tryz.ntmps59
    go_wp2
    go_ret
    exact ⟨by first | rfl | (simp; done) | (simp [*]; done), by repeat (first | exact Drawn0.refl _ | apply Drawn0.step)⟩
  · rw [if_neg c3] at H
    have c3b0 : decide (a0 < a1) = false := decide_eq_false c3
    clear c3
    obtain rfl := Option.some.inj H
    go_enter Tryz.func59, Tryz.ntmps59
    go_wp2
    go_ret
    exact ⟨by first | rfl | (simp; done) | (simp [*]; done), by repeat (first | exact Drawn0.refl _ | apply Drawn0.step)⟩
end Go.Proofs.YtmajmolbjiahlaaGreatDoor.PD
namespace Go.Proofs.YtmajmolbjiahlaaGreatDoor.PD
open Go.RowKit Go.Proofs.YtmajmolbjiahlaaGreatDoorW.PrintWords Go.Proofs.YtmajmolbjiahlaaGreatDoorW.PrintLast Go.Proofs.YtmajmolbjiahlaaGreatDoorW.PrintMore
attribute [local go_sem] isSome_setCell max2_int min2_int max_two min_two max_three min_three max_four min_four
set_option linter.unusedVariables false
set_option linter.unusedSimpArgs false
def zone_numbered.f (a0_0 : Int) (a0_1 : Int) : Option (Bool) := if a0_0 = 0 then (some false) else ((zone_within.f a0_0 6).bind fun t505 => (if t505 = true then (if a0_1 ≥ 0 then (some (decide (a0_1 ≤ 6))) else (some false)) else (some false)))
set_option maxHeartbeats 8000000 in
set_option maxRecDepth 100000 in
theorem zone_numbered.calls (a0_0 : Int) (a0_1 : Int) (r : Bool) (w : World) (h : zone_numbered.f a0_0 a0_1 = some r) :
    Calls Tryz.prog 58 #[.agg #[.int .i64 a0_0, .int .i64 a0_1]] w fun e w' => e = .returned (.bool r) ∧ Below w.heap.size w w' := by
  have hu30 := Tryz.underlying30
  have HB := Aside0.mk (Below.refl w.heap.size w)
  have H : (if a0_0 = 0 then (some false) else ((zone_within.f a0_0 6).bind fun t505 => (if t505 = true then (if a0_1 ≥ 0 then (some (decide (a0_1 ≤ 6))) else (some false)) else (some false)))) = some r := h
  clear h
  by_cases c2 : a0_0 = 0
  · rw [if_pos c2] at H
    have c2b0 : (a0_0 == 0) = true := beq_iff_eq.mpr c2
    have c2b1 : (a0_0 != 0) = false := bne_eq_false_iff_eq.mpr c2
    clear c2
    obtain rfl := Option.some.inj H
    go_enter Tryz.func58, Tryz.ntmps58
    go_wp2_with (first | ((with_reducible refine gate_dst (N := 1) rfl ?_); refine box_event ?hg (N := 1) ?hd (cs := #[.int .i64 a0_0, .int .i64 a0_1]) (t := 30) ?hr ?_; (case hd => rfl); (case hg => rfl); (case hr => first | (go_simp; done) | (go_simp; rfl)); intro gb504 hg w3 hbox hb; have n0_ := Aside0.mk (below_step (by repeat (first | (with_reducible first | exact HB.out | apply below_alloc | apply pw_below_drewN | apply below_drew1) | exact HB.out)) hb); have n1_ := Aside0.mk (hbox); have n2_ := Aside0.mk ((by rw [hg]; exact (below_size (by repeat (first | (with_reducible first | exact HB.out | apply below_alloc | apply pw_below_drewN | apply below_drew1) | exact HB.out))) : w.heap.size ≤ gb504)); have n3_ := Aside0.mk ((by rw [hg]; exact (below_size (by repeat (first | (with_reducible first | exact HB.out | apply below_alloc | apply pw_below_drewN | apply below_drew1) | exact HB.out))) : w.heap.size ≤ gb504)); clear HB; have HB := n0_; have BK504 := n1_; have GW504 := n2_; have GE504 := n3_; clear n0_ n1_ n2_ n3_; clear hb hbox hg; have hcz4_0 : w3.cell? ⟨gb504, 0, none⟩ = some (.int .i64 a0_0) := (blk_cell BK504.out 0).trans rfl; have hcz4_1 : w3.cell? ⟨gb504, 1, none⟩ = some (.int .i64 a0_1) := (blk_cell BK504.out 1).trans rfl; have hfz4_0 := blk_frozen BK504.out 0; have hfz4_1 := blk_frozen BK504.out 1))
    go_ret
    exact ⟨by first | rfl | (simp [errW_none, errW_some] <;> rfl) | (simp [*, errW_none, errW_some] <;> rfl), by repeat (first | (with_reducible first | exact HB.out | apply below_alloc | apply pw_below_drewN | apply below_drew1 | refine below_set ?_ GE504.out) | exact HB.out)⟩
  · rw [if_neg c2] at H
    have c2b0 : (a0_0 == 0) = false := beq_eq_false_iff_ne.mpr c2
    have c2b1 : (a0_0 != 0) = true := bne_iff_ne.mpr c2
    replace H := Option.bind_eq_some_iff.mp H
    obtain ⟨t505, A50, H⟩ := H
    replace H : (if t505 = true then (if a0_1 ≥ 0 then (some (decide (a0_1 ≤ 6))) else (some false)) else (some false)) = some r := H
    have A5 := Aside0.mk A50
    clear A50
    by_cases c6 : t505 = true
    · subst c6
      have H1 : (if a0_1 ≥ 0 then (some (decide (a0_1 ≤ 6))) else (some false)) = some r := by rw [if_pos rfl] at H; exact H
      clear H
      have H := H1
      clear H1
      by_cases c7 : a0_1 ≥ 0
      · rw [if_pos c7] at H
        have c7b0 : decide (0 ≤ a0_1) = true := decide_eq_true c7
        clear c7
        obtain rfl := Option.some.inj H
        go_enter Tryz.func58, Tryz.ntmps58
        go_wp2_with (first | ((with_reducible refine gate_dst (N := 1) rfl ?_); refine box_event ?hg (N := 1) ?hd (cs := #[.int .i64 a0_0, .int .i64 a0_1]) (t := 30) ?hr ?_; (case hd => rfl); (case hg => rfl); (case hr => first | (go_simp; done) | (go_simp; rfl)); intro gb504 hg w8 hbox hb; have n0_ := Aside0.mk (below_step (by repeat (first | (with_reducible first | exact HB.out | apply below_alloc | apply pw_below_drewN | apply below_drew1) | exact HB.out)) hb); have n1_ := Aside0.mk (hbox); have n2_ := Aside0.mk ((by rw [hg]; exact (below_size (by repeat (first | (with_reducible first | exact HB.out | apply below_alloc | apply pw_below_drewN | apply below_drew1) | exact HB.out))) : w.heap.size ≤ gb504)); have n3_ := Aside0.mk ((by rw [hg]; exact (below_size (by repeat (first | (with_reducible first | exact HB.out | apply below_alloc | apply pw_below_drewN | apply below_drew1) | exact HB.out))) : w.heap.size ≤ gb504)); clear HB; have HB := n0_; have BK504 := n1_; have GW504 := n2_; have GE504 := n3_; clear n0_ n1_ n2_ n3_; clear hb hbox hg; have hcz9_0 : w8.cell? ⟨gb504, 0, none⟩ = some (.int .i64 a0_0) := (blk_cell BK504.out 0).trans rfl; have hcz9_1 : w8.cell? ⟨gb504, 1, none⟩ = some (.int .i64 a0_1) := (blk_cell BK504.out 1).trans rfl; have hfz9_0 := blk_frozen BK504.out 0; have hfz9_1 := blk_frozen BK504.out 1) | (go_at_call 59; (with_reducible refine (zone_within.calls a0_0 6 true _ A5.out).mono ?_); rintro e w' ⟨rfl, ⟨nd, rfl⟩⟩))
        go_ret
        exact ⟨by first | rfl | (simp [errW_none, errW_some] <;> rfl) | (simp [*, errW_none, errW_some] <;> rfl), by repeat (first | (with_reducible first | exact HB.out | apply below_alloc | apply pw_below_drewN | apply below_drew1 | refine below_set ?_ GE504.out) | exact HB.out)⟩
      · rw [if_neg c7] at H
        have c7b0 : decide (0 ≤ a0_1) = false := decide_eq_false c7
        clear c7
        obtain rfl := Option.some.inj H
        go_enter Tryz.func58, Tryz.ntmps58
        go_wp2_with (first | ((with_reducible refine gate_dst (N := 1) rfl ?_); refine box_event ?hg (N := 1) ?hd (cs := #[.int .i64 a0_0, .int .i64 a0_1]) (t := 30) ?hr ?_; (case hd => rfl); (case hg => rfl); (case hr => first | (go_simp; done) | (go_simp; rfl)); intro gb504 hg w10 hbox hb; have n0_ := Aside0.mk (below_step (by repeat (first | (with_reducible first | exact HB.out | apply below_alloc | apply pw_below_drewN | apply below_drew1) | exact HB.out)) hb); have n1_ := Aside0.mk (hbox); have n2_ := Aside0.mk ((by rw [hg]; exact (below_size (by repeat (first | (with_reducible first | exact HB.out | apply below_alloc | apply pw_below_drewN | apply below_drew1) | exact HB.out))) : w.heap.size ≤ gb504)); have n3_ := Aside0.mk ((by rw [hg]; exact (below_size (by repeat (first | (with_reducible first | exact HB.out | apply below_alloc | apply pw_below_drewN | apply below_drew1) | exact HB.out))) : w.heap.size ≤ gb504)); clear HB; have HB := n0_; have BK504 := n1_; have GW504 := n2_; have GE504 := n3_; clear n0_ n1_ n2_ n3_; clear hb hbox hg; have hcz11_0 : w10.cell? ⟨gb504, 0, none⟩ = some (.int .i64 a0_0) := (blk_cell BK504.out 0).trans rfl; have hcz11_1 : w10.cell? ⟨gb504, 1, none⟩ = some (.int .i64 a0_1) := (blk_cell BK504.out 1).trans rfl; have hfz11_0 := blk_frozen BK504.out 0; have hfz11_1 := blk_frozen BK504.out 1) | (go_at_call 59; (with_reducible refine (zone_within.calls a0_0 6 true _ A5.out).mono ?_); rintro e w' ⟨rfl, ⟨nd, rfl⟩⟩))
        go_ret
        exact ⟨by first | rfl | (simp [errW_none, errW_some] <;> rfl) | (simp [*, errW_none, errW_some] <;> rfl), by repeat (first | (with_reducible first | exact HB.out | apply below_alloc | apply pw_below_drewN | apply below_drew1 | refine below_set ?_ GE504.out) | exact HB.out)⟩
    · replace c6 := Bool.eq_false_iff.mpr c6
      subst c6
      have H1 : (some false) = some r := by rw [if_neg (show ¬ (false = true) by decide)] at H; exact H
      clear H
      have H := H1
      clear H1
      obtain rfl := Option.some.inj H
      go_enter Tryz.func58, Tryz.ntmps58
      go_wp2_with (first | ((with_reducible refine gate_dst (N := 1) rfl ?_); refine box_event ?hg (N := 1) ?hd (cs := #[.int .i64 a0_0, .int .i64 a0_1]) (t := 30) ?hr ?_; (case hd => rfl); (case hg => rfl); (case hr => first | (go_simp; done) | (go_simp; rfl)); intro gb504 hg w12 hbox hb; have n0_ := Aside0.mk (below_step (by repeat (first | (with_reducible first | exact HB.out | apply below_alloc | apply pw_below_drewN | apply below_drew1) | exact HB.out)) hb); have n1_ := Aside0.mk (hbox); have n2_ := Aside0.mk ((by rw [hg]; exact (below_size (by repeat (first | (with_reducible first | exact HB.out | apply below_alloc | apply pw_below_drewN | apply below_drew1) | exact HB.out))) : w.heap.size ≤ gb504)); have n3_ := Aside0.mk ((by rw [hg]; exact (below_size (by repeat (first | (with_reducible first | exact HB.out | apply below_alloc | apply pw_below_drewN | apply below_drew1) | exact HB.out))) : w.heap.size ≤ gb504)); clear HB; have HB := n0_; have BK504 := n1_; have GW504 := n2_; have GE504 := n3_; clear n0_ n1_ n2_ n3_; clear hb hbox hg; have hcz13_0 : w12.cell? ⟨gb504, 0, none⟩ = some (.int .i64 a0_0) := (blk_cell BK504.out 0).trans rfl; have hcz13_1 : w12.cell? ⟨gb504, 1, none⟩ = some (.int .i64 a0_1) := (blk_cell BK504.out 1).trans rfl; have hfz13_0 := blk_frozen BK504.out 0; have hfz13_1 := blk_frozen BK504.out 1) | (go_at_call 59; (with_reducible refine (zone_within.calls a0_0 6 false _ A5.out).mono ?_); rintro e w' ⟨rfl, ⟨nd, rfl⟩⟩))
      go_ret
      exact ⟨by first | rfl | (simp [errW_none, errW_some] <;> rfl) | (simp [*, errW_none, errW_some] <;> rfl), by repeat (first | (with_reducible first | exact HB.out | apply below_alloc | apply pw_below_drewN | apply below_drew1 | refine below_set ?_ GE504.out) | exact HB.out)⟩
end Go.Proofs.YtmajmolbjiahlaaGreatDoor.PD
namespace Go.Proofs.YtmajmolbjiahlaaGreatDoor.PD
open Go.RowKit Go.Proofs.YtmajmolbjiahlaaGreatDoorW.PrintWords Go.Proofs.YtmajmolbjiahlaaGreatDoorW.PrintLast Go.Proofs.YtmajmolbjiahlaaGreatDoorW.PrintMore
attribute [local go_sem] isSome_setCell max2_int min2_int max_two min_two max_three min_three max_four min_four
set_option linter.unusedVariables false
set_option linter.unusedSimpArgs false
attribute [local go_sem high] eqA30
def zone_fit.j0 : Nat → Bool → Int → Int → Int → Bool → Int → Int → Int → Option (Bool)
  | 0, _, _, _, _, _, _, _, _ => none
  | k + 1, x3, x507000, x507001, x507002, x507003, x507004, x507005, x507006 => if x507003 = true then (if x507004 ≥ 1 then (if x507004 ≤ 12 then ((zone_numbered.f x507005 x507006).bind fun t507 => (if t507 = true then ((zone_within.f x507001 86400).bind fun t508 => (if t508 = true then ((zone_within.f x507002 86400).bind fun t509 => (if t509 = true then ((date_In.f x507000).bind fun t510 => (some t510)) else (some false))) else (some false))) else (some false))) else (some false)) else (some false)) else (if x3 = true then ((zone_within.f x507001 86400).bind fun t511 => (if t511 = true then ((zone_within.f x507002 86400).bind fun t512 => (if t512 = true then ((date_In.f x507000).bind fun t513 => (some t513)) else (some false))) else (some false))) else (some false))
def zone_fit.f (k : Nat) (a0_0 : Int) (a0_1 : Int) (a0_2 : Int) (a0_3 : Bool) (a0_4 : Int) (a0_5 : Int) (a0_6 : Int) : Option (Bool) := if a0_4 = 0 then (zone_fit.j0 k (a0_5 == 0 && (a0_6 == 0)) a0_0 a0_1 a0_2 a0_3 a0_4 a0_5 a0_6) else (zone_fit.j0 k false a0_0 a0_1 a0_2 a0_3 a0_4 a0_5 a0_6)
set_option maxHeartbeats 8000000 in
set_option maxRecDepth 100000 in
theorem zone_fit.calls (k : Nat) (a0_0 : Int) (a0_1 : Int) (a0_2 : Int) (a0_3 : Bool) (a0_4 : Int) (a0_5 : Int) (a0_6 : Int) (r : Bool) (w : World) (h : zone_fit.f k a0_0 a0_1 a0_2 a0_3 a0_4 a0_5 a0_6 = some r) :
    Calls Tryz.prog 40 #[.agg #[.int .i64 a0_0, .int .i64 a0_1, .int .i64 a0_2, .bool a0_3, .int .i64 a0_4, .int .i64 a0_5, .int .i64 a0_6]] w fun e w' => e = .returned (.bool r) ∧ Below w.heap.size w w' := by
  have hu32 := Tryz.underlying32
  have hu30 := Tryz.underlying30
  have HB := Aside0.mk (Below.refl w.heap.size w)
  have H : (if a0_4 = 0 then (zone_fit.j0 k (a0_5 == 0 && (a0_6 == 0)) a0_0 a0_1 a0_2 a0_3 a0_4 a0_5 a0_6) else (zone_fit.j0 k false a0_0 a0_1 a0_2 a0_3 a0_4 a0_5 a0_6)) = some r := h
  clear h
  have HC2 := Aside0.mk H
  clear H
  go_enter Tryz.func40, Tryz.ntmps40
  go_upto_region 1 with (first | ((with_reducible refine gate_dst (N := 1) rfl ?_); refine box_event ?hg (N := 1) ?hd (cs := #[.int .i64 a0_0, .int .i64 a0_1, .int .i64 a0_2, .bool a0_3, .int .i64 a0_4, .int .i64 a0_5, .int .i64 a0_6]) (t := 32) ?hr ?_; (case hd => rfl); (case hg => rfl); (case hr => first | (go_simp; done) | (go_simp; rfl)); intro gb506 hg w3 hbox hb; have n0_ := Aside0.mk (below_step (by repeat (first | (with_reducible first | exact HB.out | apply below_alloc | apply pw_below_drewN | apply below_drew1) | exact HB.out)) hb); have n1_ := Aside0.mk (hbox); have n2_ := Aside0.mk ((by rw [hg]; exact (below_size (by repeat (first | (with_reducible first | exact HB.out | apply below_alloc | apply pw_below_drewN | apply below_drew1) | exact HB.out))) : w.heap.size ≤ gb506)); have n3_ := Aside0.mk ((by rw [hg]; exact (below_size (by repeat (first | (with_reducible first | exact HB.out | apply below_alloc | apply pw_below_drewN | apply below_drew1) | exact HB.out))) : w.heap.size ≤ gb506)); clear HB; have HB := n0_; have BK506 := n1_; have GW506 := n2_; have GE506 := n3_; clear n0_ n1_ n2_ n3_; clear hb hbox hg))
  (try simp only [Act.put, List.setIfInBounds_toArray, List.set_cons_zero, List.set_cons_succ])
  go_cut [3] (fun v3 wc => ∃ (kq : Nat) (x3_1 : Bool), v3 = .bool x3_1 ∧ Aside0 (zone_fit.j0 kq x3_1 a0_0 a0_1 a0_2 a0_3 a0_4 a0_5 a0_6 = some r) ∧ Aside0 (kq ≤ k) ∧ Aside0 (wc.heap[gb506]? = some (.cells #[.int .i64 a0_0, .int .i64 a0_1, .int .i64 a0_2, .bool a0_3, .int .i64 a0_4, .int .i64 a0_5, .int .i64 a0_6] 32 (0, 0))) ∧ Aside0 (Below w.heap.size w wc))
  case first =>
    have H := HC2.out
    clear HC2
    by_cases c4 : a0_4 = 0
    · rw [if_pos c4] at H
      have c4b0 : (a0_4 == 0) = true := beq_iff_eq.mpr c4
      have c4b1 : (a0_4 != 0) = false := bne_eq_false_iff_eq.mpr c4
      clear c4
      (first | rw [c4b0] | (simp only [i64_w, i32_w]; rw [c4b0]) | skip)
      have H' := Aside0.mk H
      clear H
      have hcz5_0 : w3.cell? ⟨gb506, 0, none⟩ = some (.int .i64 a0_0) := (blk_cell BK506.out 0).trans rfl
      have hcz5_1 : w3.cell? ⟨gb506, 1, none⟩ = some (.int .i64 a0_1) := (blk_cell BK506.out 1).trans rfl
      have hcz5_2 : w3.cell? ⟨gb506, 2, none⟩ = some (.int .i64 a0_2) := (blk_cell BK506.out 2).trans rfl
      have hcz5_3 : w3.cell? ⟨gb506, 3, none⟩ = some (.bool a0_3) := (blk_cell BK506.out 3).trans rfl
      have hcz5_4 : w3.cell? ⟨gb506, 4, none⟩ = some (.int .i64 a0_4) := (blk_cell BK506.out 4).trans rfl
      have hcz5_5 : w3.cell? ⟨gb506, 5, none⟩ = some (.int .i64 a0_5) := (blk_cell BK506.out 5).trans rfl
      have hcz5_6 : w3.cell? ⟨gb506, 6, none⟩ = some (.int .i64 a0_6) := (blk_cell BK506.out 6).trans rfl
      have hfz5_0 := blk_frozen BK506.out 0
      have hfz5_1 := blk_frozen BK506.out 1
      have hfz5_2 := blk_frozen BK506.out 2
      have hfz5_3 := blk_frozen BK506.out 3
      have hfz5_4 := blk_frozen BK506.out 4
      have hfz5_5 := blk_frozen BK506.out 5
      have hfz5_6 := blk_frozen BK506.out 6
      go_wp2
      go_meet
      case rel => exact ⟨_, ((a0_5 == 0 && (a0_6 == 0))), (by first | rfl | (simp; done) | (simp [*]; done)), H', ⟨by first | omega | exact Nat.le_refl _⟩, ⟨by (with_reducible repeat (first | refine blk_drewN ?_ _ | refine blk_drew ?_ | refine blk_alloc ?_ _)); exact BK506.out⟩, ⟨by repeat (first | (with_reducible first | exact HB.out | apply below_alloc | apply pw_below_drewN | apply below_drew1 | refine below_set ?_ GE506.out) | exact HB.out)⟩⟩
    · rw [if_neg c4] at H
      have c4b0 : (a0_4 == 0) = false := beq_eq_false_iff_ne.mpr c4
      have c4b1 : (a0_4 != 0) = true := bne_iff_ne.mpr c4
      (first | rw [c4b0] | (simp only [i64_w, i32_w]; rw [c4b0]) | skip)
      have H' := Aside0.mk H
      clear H
      have hcz6_0 : w3.cell? ⟨gb506, 0, none⟩ = some (.int .i64 a0_0) := (blk_cell BK506.out 0).trans rfl
      have hcz6_1 : w3.cell? ⟨gb506, 1, none⟩ = some (.int .i64 a0_1) := (blk_cell BK506.out 1).trans rfl
      have hcz6_2 : w3.cell? ⟨gb506, 2, none⟩ = some (.int .i64 a0_2) := (blk_cell BK506.out 2).trans rfl
      have hcz6_3 : w3.cell? ⟨gb506, 3, none⟩ = some (.bool a0_3) := (blk_cell BK506.out 3).trans rfl
      have hcz6_4 : w3.cell? ⟨gb506, 4, none⟩ = some (.int .i64 a0_4) := (blk_cell BK506.out 4).trans rfl
      have hcz6_5 : w3.cell? ⟨gb506, 5, none⟩ = some (.int .i64 a0_5) := (blk_cell BK506.out 5).trans rfl
      have hcz6_6 : w3.cell? ⟨gb506, 6, none⟩ = some (.int .i64 a0_6) := (blk_cell BK506.out 6).trans rfl
      have hfz6_0 := blk_frozen BK506.out 0
      have hfz6_1 := blk_frozen BK506.out 1
      have hfz6_2 := blk_frozen BK506.out 2
      have hfz6_3 := blk_frozen BK506.out 3
      have hfz6_4 := blk_frozen BK506.out 4
      have hfz6_5 := blk_frozen BK506.out 5
      have hfz6_6 := blk_frozen BK506.out 6
      go_wp2
      go_meet
      case rel => exact ⟨_, (false), (by first | rfl | (simp; done) | (simp [*]; done)), H', ⟨by first | omega | exact Nat.le_refl _⟩, ⟨by (with_reducible repeat (first | refine blk_drewN ?_ _ | refine blk_drew ?_ | refine blk_alloc ?_ _)); exact BK506.out⟩, ⟨by repeat (first | (with_reducible first | exact HB.out | apply below_alloc | apply pw_below_drewN | apply below_drew1 | refine below_set ?_ GE506.out) | exact HB.out)⟩⟩
  case rest =>
    clear HC2
    try clear p2
    try clear c4
    try clear c4b0
    try clear c4b1
    try clear hcz5_0
    try clear hcz5_1
    try clear hcz5_2
    try clear hcz5_3
    try clear hcz5_4
    try clear hcz5_5
    try clear hcz5_6
    try clear hcz6_0
    try clear hcz6_1
    try clear hcz6_2
    try clear hcz6_3
    try clear hcz6_4
    try clear hcz6_5
    try clear hcz6_6
    try clear hfz5_0
    try clear hfz5_1
    try clear hfz5_2
    try clear hfz5_3
    try clear hfz5_4
    try clear hfz5_5
    try clear hfz5_6
    try clear hfz6_0
    try clear hfz6_1
    try clear hfz6_2
    try clear hfz6_3
    try clear hfz6_4
    try clear hfz6_5
    try clear hfz6_6
    obtain ⟨kq, x3_1, rfl, HA, HJ1, BK506, HB⟩ := hcut
    cases kq with
    | zero => exact absurd HA.out (by simp [zone_fit.j0])
    | succ kj1 =>
      have H := HA.out
      clear HA
      simp only [zone_fit.j0] at H
      by_cases c7 : a0_3 = true
      · subst c7
        have H1 : (if a0_4 ≥ 1 then (if a0_4 ≤ 12 then ((zone_numbered.f a0_5 a0_6).bind fun t507 => (if t507 = true then ((zone_within.f a0_1 86400).bind fun t508 => (if t508 = true then ((zone_within.f a0_2 86400).bind fun t509 => (if t509 = true then ((date_In.f a0_0).bind fun t510 => (some t510)) else (some false))) else (some false))) else (some false))) else (some false)) else (some false)) = some r := by rw [if_pos rfl] at H; exact H
        clear H
        have H := H1
        clear H1
        by_cases c8 : a0_4 ≥ 1
        · rw [if_pos c8] at H
          have c8b0 : decide (1 ≤ a0_4) = true := decide_eq_true c8
          clear c8
          by_cases c9 : a0_4 ≤ 12
          · rw [if_pos c9] at H
            have c9b0 : decide (a0_4 ≤ 12) = true := decide_eq_true c9
            clear c9
            replace H := Option.bind_eq_some_iff.mp H
            obtain ⟨t507, A100, H⟩ := H
            replace H : (if t507 = true then ((zone_within.f a0_1 86400).bind fun t508 => (if t508 = true then ((zone_within.f a0_2 86400).bind fun t509 => (if t509 = true then ((date_In.f a0_0).bind fun t510 => (some t510)) else (some false))) else (some false))) else (some false)) = some r := H
            have A10 := Aside0.mk A100
            clear A100
            by_cases c11 : t507 = true
            · subst c11
              have H1 : ((zone_within.f a0_1 86400).bind fun t508 => (if t508 = true then ((zone_within.f a0_2 86400).bind fun t509 => (if t509 = true then ((date_In.f a0_0).bind fun t510 => (some t510)) else (some false))) else (some false))) = some r := by rw [if_pos rfl] at H; exact H
              clear H
              have H := H1
              clear H1
              replace H := Option.bind_eq_some_iff.mp H
              obtain ⟨t508, A120, H⟩ := H
              replace H : (if t508 = true then ((zone_within.f a0_2 86400).bind fun t509 => (if t509 = true then ((date_In.f a0_0).bind fun t510 => (some t510)) else (some false))) else (some false)) = some r := H
              have A12 := Aside0.mk A120
              clear A120
              by_cases c13 : t508 = true
              · subst c13
                have H1 : ((zone_within.f a0_2 86400).bind fun t509 => (if t509 = true then ((date_In.f a0_0).bind fun t510 => (some t510)) else (some false))) = some r := by rw [if_pos rfl] at H; exact H
                clear H
                have H := H1
                clear H1
                replace H := Option.bind_eq_some_iff.mp H
                obtain ⟨t509, A140, H⟩ := H
                replace H : (if t509 = true then ((date_In.f a0_0).bind fun t510 => (some t510)) else (some false)) = some r := H
                have A14 := Aside0.mk A140
                clear A140
                by_cases c15 : t509 = true
                · subst c15
                  have H1 : ((date_In.f a0_0).bind fun t510 => (some t510)) = some r := by rw [if_pos rfl] at H; exact H
                  clear H
                  have H := H1
                  clear H1
                  replace H := Option.bind_eq_some_iff.mp H
                  obtain ⟨t510, A160, H⟩ := H
                  replace H : (some t510) = some r := H
                  have A16 := Aside0.mk A160
                  clear A160
                  obtain rfl := Option.some.inj H
                  have hcz17_0 : wc.cell? ⟨gb506, 0, none⟩ = some (.int .i64 a0_0) := (blk_cell BK506.out 0).trans rfl
                  have hcz17_1 : wc.cell? ⟨gb506, 1, none⟩ = some (.int .i64 a0_1) := (blk_cell BK506.out 1).trans rfl
                  have hcz17_2 : wc.cell? ⟨gb506, 2, none⟩ = some (.int .i64 a0_2) := (blk_cell BK506.out 2).trans rfl
                  have hcz17_3 : wc.cell? ⟨gb506, 3, none⟩ = some (.bool true) := (blk_cell BK506.out 3).trans rfl
                  have hcz17_4 : wc.cell? ⟨gb506, 4, none⟩ = some (.int .i64 a0_4) := (blk_cell BK506.out 4).trans rfl
                  have hcz17_5 : wc.cell? ⟨gb506, 5, none⟩ = some (.int .i64 a0_5) := (blk_cell BK506.out 5).trans rfl
                  have hcz17_6 : wc.cell? ⟨gb506, 6, none⟩ = some (.int .i64 a0_6) := (blk_cell BK506.out 6).trans rfl
                  have hfz17_0 := blk_frozen BK506.out 0
                  have hfz17_1 := blk_frozen BK506.out 1
                  have hfz17_2 := blk_frozen BK506.out 2
                  have hfz17_3 := blk_frozen BK506.out 3
                  have hfz17_4 := blk_frozen BK506.out 4
                  have hfz17_5 := blk_frozen BK506.out 5
                  have hfz17_6 := blk_frozen BK506.out 6
                  go_wp2_with (first | (go_at_call 58; (with_reducible refine (zone_numbered.calls a0_5 a0_6 true _ A10.out).mono ?_); rintro e w18 ⟨rfl, hb⟩; have n0_ := Aside0.mk (blk_below (g := gb506) (o := .cells #[.int .i64 a0_0, .int .i64 a0_1, .int .i64 a0_2, .bool true, .int .i64 a0_4, .int .i64 a0_5, .int .i64 a0_6] 32 (0, 0)) (by (with_reducible repeat (first | refine blk_drewN ?_ _ | refine blk_drew ?_ | refine blk_alloc ?_ _)); exact BK506.out) hb); have n1_ := Aside0.mk (below_step (by repeat (first | (with_reducible first | exact HB.out | apply below_alloc | apply pw_below_drewN | apply below_drew1 | refine below_set ?_ GE506.out) | exact HB.out)) hb); clear BK506; clear HB; have BK506 := n0_; have HB := n1_; clear n0_ n1_; (try clear hb); (try clear hb2); (try clear hk); (try clear hi); have hcz19_0 : w18.cell? ⟨gb506, 0, none⟩ = some (.int .i64 a0_0) := (blk_cell BK506.out 0).trans rfl; have hcz19_1 : w18.cell? ⟨gb506, 1, none⟩ = some (.int .i64 a0_1) := (blk_cell BK506.out 1).trans rfl; have hcz19_2 : w18.cell? ⟨gb506, 2, none⟩ = some (.int .i64 a0_2) := (blk_cell BK506.out 2).trans rfl; have hcz19_3 : w18.cell? ⟨gb506, 3, none⟩ = some (.bool true) := (blk_cell BK506.out 3).trans rfl; have hcz19_4 : w18.cell? ⟨gb506, 4, none⟩ = some (.int .i64 a0_4) := (blk_cell BK506.out 4).trans rfl; have hcz19_5 : w18.cell? ⟨gb506, 5, none⟩ = some (.int .i64 a0_5) := (blk_cell BK506.out 5).trans rfl; have hcz19_6 : w18.cell? ⟨gb506, 6, none⟩ = some (.int .i64 a0_6) := (blk_cell BK506.out 6).trans rfl; have hfz19_0 := blk_frozen BK506.out 0; have hfz19_1 := blk_frozen BK506.out 1; have hfz19_2 := blk_frozen BK506.out 2; have hfz19_3 := blk_frozen BK506.out 3; have hfz19_4 := blk_frozen BK506.out 4; have hfz19_5 := blk_frozen BK506.out 5; have hfz19_6 := blk_frozen BK506.out 6) | (go_at_call 59; (with_reducible refine (zone_within.calls a0_1 86400 true _ A12.out).mono ?_); rintro e w' ⟨rfl, ⟨nd, rfl⟩⟩) | (go_at_call 59; (with_reducible refine (zone_within.calls a0_2 86400 true _ A14.out).mono ?_); rintro e w' ⟨rfl, ⟨nd, rfl⟩⟩) | (go_at_call 22; (with_reducible refine (date_In.calls a0_0 t510 _ A16.out).mono ?_); rintro e w' ⟨rfl, ⟨nd, rfl⟩⟩))
                  go_ret
                  exact ⟨by first | rfl | (simp [errW_none, errW_some] <;> rfl) | (simp [*, errW_none, errW_some] <;> rfl), by repeat (first | (with_reducible first | exact HB.out | apply below_alloc | apply pw_below_drewN | apply below_drew1 | refine below_set ?_ GE506.out) | exact HB.out)⟩
                · replace c15 := Bool.eq_false_iff.mpr c15
                  subst c15
                  have H1 : (some false) = some r := by rw [if_neg (show ¬ (false = true) by decide)] at H; exact H
                  clear H
                  have H := H1
                  clear H1
                  obtain rfl := Option.some.inj H
                  have hcz20_0 : wc.cell? ⟨gb506, 0, none⟩ = some (.int .i64 a0_0) := (blk_cell BK506.out 0).trans rfl
                  have hcz20_1 : wc.cell? ⟨gb506, 1, none⟩ = some (.int .i64 a0_1) := (blk_cell BK506.out 1).trans rfl
                  have hcz20_2 : wc.cell? ⟨gb506, 2, none⟩ = some (.int .i64 a0_2) := (blk_cell BK506.out 2).trans rfl
                  have hcz20_3 : wc.cell? ⟨gb506, 3, none⟩ = some (.bool true) := (blk_cell BK506.out 3).trans rfl
                  have hcz20_4 : wc.cell? ⟨gb506, 4, none⟩ = some (.int .i64 a0_4) := (blk_cell BK506.out 4).trans rfl
                  have hcz20_5 : wc.cell? ⟨gb506, 5, none⟩ = some (.int .i64 a0_5) := (blk_cell BK506.out 5).trans rfl
                  have hcz20_6 : wc.cell? ⟨gb506, 6, none⟩ = some (.int .i64 a0_6) := (blk_cell BK506.out 6).trans rfl
                  have hfz20_0 := blk_frozen BK506.out 0
                  have hfz20_1 := blk_frozen BK506.out 1
                  have hfz20_2 := blk_frozen BK506.out 2
                  have hfz20_3 := blk_frozen BK506.out 3
                  have hfz20_4 := blk_frozen BK506.out 4
                  have hfz20_5 := blk_frozen BK506.out 5
                  have hfz20_6 := blk_frozen BK506.out 6
                  go_wp2_with (first | (go_at_call 58; (with_reducible refine (zone_numbered.calls a0_5 a0_6 true _ A10.out).mono ?_); rintro e w21 ⟨rfl, hb⟩; have n0_ := Aside0.mk (blk_below (g := gb506) (o := .cells #[.int .i64 a0_0, .int .i64 a0_1, .int .i64 a0_2, .bool true, .int .i64 a0_4, .int .i64 a0_5, .int .i64 a0_6] 32 (0, 0)) (by (with_reducible repeat (first | refine blk_drewN ?_ _ | refine blk_drew ?_ | refine blk_alloc ?_ _)); exact BK506.out) hb); have n1_ := Aside0.mk (below_step (by repeat (first | (with_reducible first | exact HB.out | apply below_alloc | apply pw_below_drewN | apply below_drew1 | refine below_set ?_ GE506.out) | exact HB.out)) hb); clear BK506; clear HB; have BK506 := n0_; have HB := n1_; clear n0_ n1_; (try clear hb); (try clear hb2); (try clear hk); (try clear hi); have hcz22_0 : w21.cell? ⟨gb506, 0, none⟩ = some (.int .i64 a0_0) := (blk_cell BK506.out 0).trans rfl; have hcz22_1 : w21.cell? ⟨gb506, 1, none⟩ = some (.int .i64 a0_1) := (blk_cell BK506.out 1).trans rfl; have hcz22_2 : w21.cell? ⟨gb506, 2, none⟩ = some (.int .i64 a0_2) := (blk_cell BK506.out 2).trans rfl; have hcz22_3 : w21.cell? ⟨gb506, 3, none⟩ = some (.bool true) := (blk_cell BK506.out 3).trans rfl; have hcz22_4 : w21.cell? ⟨gb506, 4, none⟩ = some (.int .i64 a0_4) := (blk_cell BK506.out 4).trans rfl; have hcz22_5 : w21.cell? ⟨gb506, 5, none⟩ = some (.int .i64 a0_5) := (blk_cell BK506.out 5).trans rfl; have hcz22_6 : w21.cell? ⟨gb506, 6, none⟩ = some (.int .i64 a0_6) := (blk_cell BK506.out 6).trans rfl; have hfz22_0 := blk_frozen BK506.out 0; have hfz22_1 := blk_frozen BK506.out 1; have hfz22_2 := blk_frozen BK506.out 2; have hfz22_3 := blk_frozen BK506.out 3; have hfz22_4 := blk_frozen BK506.out 4; have hfz22_5 := blk_frozen BK506.out 5; have hfz22_6 := blk_frozen BK506.out 6) | (go_at_call 59; (with_reducible refine (zone_within.calls a0_1 86400 true _ A12.out).mono ?_); rintro e w' ⟨rfl, ⟨nd, rfl⟩⟩) | (go_at_call 59; (with_reducible refine (zone_within.calls a0_2 86400 false _ A14.out).mono ?_); rintro e w' ⟨rfl, ⟨nd, rfl⟩⟩))
                  go_ret
                  exact ⟨by first | rfl | (simp [errW_none, errW_some] <;> rfl) | (simp [*, errW_none, errW_some] <;> rfl), by repeat (first | (with_reducible first | exact HB.out | apply below_alloc | apply pw_below_drewN | apply below_drew1 | refine below_set ?_ GE506.out) | exact HB.out)⟩
              · replace c13 := Bool.eq_false_iff.mpr c13
                subst c13
                have H1 : (some false) = some r := by rw [if_neg (show ¬ (false = true) by decide)] at H; exact H
                clear H
                have H := H1
                clear H1
                obtain rfl := Option.some.inj H
                have hcz23_0 : wc.cell? ⟨gb506, 0, none⟩ = some (.int .i64 a0_0) := (blk_cell BK506.out 0).trans rfl
                have hcz23_1 : wc.cell? ⟨gb506, 1, none⟩ = some (.int .i64 a0_1) := (blk_cell BK506.out 1).trans rfl
                have hcz23_2 : wc.cell? ⟨gb506, 2, none⟩ = some (.int .i64 a0_2) := (blk_cell BK506.out 2).trans rfl
                have hcz23_3 : wc.cell? ⟨gb506, 3, none⟩ = some (.bool true) := (blk_cell BK506.out 3).trans rfl
                have hcz23_4 : wc.cell? ⟨gb506, 4, none⟩ = some (.int .i64 a0_4) := (blk_cell BK506.out 4).trans rfl
                have hcz23_5 : wc.cell? ⟨gb506, 5, none⟩ = some (.int .i64 a0_5) := (blk_cell BK506.out 5).trans rfl
                have hcz23_6 : wc.cell? ⟨gb506, 6, none⟩ = some (.int .i64 a0_6) := (blk_cell BK506.out 6).trans rfl
                have hfz23_0 := blk_frozen BK506.out 0
                have hfz23_1 := blk_frozen BK506.out 1
                have hfz23_2 := blk_frozen BK506.out 2
                have hfz23_3 := blk_frozen BK506.out 3
                have hfz23_4 := blk_frozen BK506.out 4
                have hfz23_5 := blk_frozen BK506.out 5
                have hfz23_6 := blk_frozen BK506.out 6
                go_wp2_with (first | (go_at_call 58; (with_reducible refine (zone_numbered.calls a0_5 a0_6 true _ A10.out).mono ?_); rintro e w24 ⟨rfl, hb⟩; have n0_ := Aside0.mk (blk_below (g := gb506) (o := .cells #[.int .i64 a0_0, .int .i64 a0_1, .int .i64 a0_2, .bool true, .int .i64 a0_4, .int .i64 a0_5, .int .i64 a0_6] 32 (0, 0)) (by (with_reducible repeat (first | refine blk_drewN ?_ _ | refine blk_drew ?_ | refine blk_alloc ?_ _)); exact BK506.out) hb); have n1_ := Aside0.mk (below_step (by repeat (first | (with_reducible first | exact HB.out | apply below_alloc | apply pw_below_drewN | apply below_drew1 | refine below_set ?_ GE506.out) | exact HB.out)) hb); clear BK506; clear HB; have BK506 := n0_; have HB := n1_; clear n0_ n1_; (try clear hb); (try clear hb2); (try clear hk); (try clear hi); have hcz25_0 : w24.cell? ⟨gb506, 0, none⟩ = some (.int .i64 a0_0) := (blk_cell BK506.out 0).trans rfl; have hcz25_1 : w24.cell? ⟨gb506, 1, none⟩ = some (.int .i64 a0_1) := (blk_cell BK506.out 1).trans rfl; have hcz25_2 : w24.cell? ⟨gb506, 2, none⟩ = some (.int .i64 a0_2) := (blk_cell BK506.out 2).trans rfl; have hcz25_3 : w24.cell? ⟨gb506, 3, none⟩ = some (.bool true) := (blk_cell BK506.out 3).trans rfl; have hcz25_4 : w24.cell? ⟨gb506, 4, none⟩ = some (.int .i64 a0_4) := (blk_cell BK506.out 4).trans rfl; have hcz25_5 : w24.cell? ⟨gb506, 5, none⟩ = some (.int .i64 a0_5) := (blk_cell BK506.out 5).trans rfl; have hcz25_6 : w24.cell? ⟨gb506, 6, none⟩ = some (.int .i64 a0_6) := (blk_cell BK506.out 6).trans rfl; have hfz25_0 := blk_frozen BK506.out 0; have hfz25_1 := blk_frozen BK506.out 1; have hfz25_2 := blk_frozen BK506.out 2; have hfz25_3 := blk_frozen BK506.out 3; have hfz25_4 := blk_frozen BK506.out 4; have hfz25_5 := blk_frozen BK506.out 5; have hfz25_6 := blk_frozen BK506.out 6) | (go_at_call 59; (with_reducible refine (zone_within.calls a0_1 86400 false _ A12.out).mono ?_); rintro e w' ⟨rfl, ⟨nd, rfl⟩⟩))
                go_ret
                exact ⟨by first | rfl | (simp [errW_none, errW_some] <;> rfl) | (simp [*, errW_none, errW_some] <;> rfl), by repeat (first | (with_reducible first | exact HB.out | apply below_alloc | apply pw_below_drewN | apply below_drew1 | refine below_set ?_ GE506.out) | exact HB.out)⟩
            · replace c11 := Bool.eq_false_iff.mpr c11
              subst c11
              have H1 : (some false) = some r := by rw [if_neg (show ¬ (false = true) by decide)] at H; exact H
              clear H
              have H := H1
              clear H1
              obtain rfl := Option.some.inj H
              have hcz26_0 : wc.cell? ⟨gb506, 0, none⟩ = some (.int .i64 a0_0) := (blk_cell BK506.out 0).trans rfl
              have hcz26_1 : wc.cell? ⟨gb506, 1, none⟩ = some (.int .i64 a0_1) := (blk_cell BK506.out 1).trans rfl
              have hcz26_2 : wc.cell? ⟨gb506, 2, none⟩ = some (.int .i64 a0_2) := (blk_cell BK506.out 2).trans rfl
              have hcz26_3 : wc.cell? ⟨gb506, 3, none⟩ = some (.bool true) := (blk_cell BK506.out 3).trans rfl
              have hcz26_4 : wc.cell? ⟨gb506, 4, none⟩ = some (.int .i64 a0_4) := (blk_cell BK506.out 4).trans rfl
              have hcz26_5 : wc.cell? ⟨gb506, 5, none⟩ = some (.int .i64 a0_5) := (blk_cell BK506.out 5).trans rfl
              have hcz26_6 : wc.cell? ⟨gb506, 6, none⟩ = some (.int .i64 a0_6) := (blk_cell BK506.out 6).trans rfl
              have hfz26_0 := blk_frozen BK506.out 0
              have hfz26_1 := blk_frozen BK506.out 1
              have hfz26_2 := blk_frozen BK506.out 2
              have hfz26_3 := blk_frozen BK506.out 3
              have hfz26_4 := blk_frozen BK506.out 4
              have hfz26_5 := blk_frozen BK506.out 5
              have hfz26_6 := blk_frozen BK506.out 6
              go_wp2_with (first | (go_at_call 58; (with_reducible refine (zone_numbered.calls a0_5 a0_6 false _ A10.out).mono ?_); rintro e w27 ⟨rfl, hb⟩; have n0_ := Aside0.mk (blk_below (g := gb506) (o := .cells #[.int .i64 a0_0, .int .i64 a0_1, .int .i64 a0_2, .bool true, .int .i64 a0_4, .int .i64 a0_5, .int .i64 a0_6] 32 (0, 0)) (by (with_reducible repeat (first | refine blk_drewN ?_ _ | refine blk_drew ?_ | refine blk_alloc ?_ _)); exact BK506.out) hb); have n1_ := Aside0.mk (below_step (by repeat (first | (with_reducible first | exact HB.out | apply below_alloc | apply pw_below_drewN | apply below_drew1 | refine below_set ?_ GE506.out) | exact HB.out)) hb); clear BK506; clear HB; have BK506 := n0_; have HB := n1_; clear n0_ n1_; (try clear hb); (try clear hb2); (try clear hk); (try clear hi)))
              go_ret
              exact ⟨by first | rfl | (simp [errW_none, errW_some] <;> rfl) | (simp [*, errW_none, errW_some] <;> rfl), by repeat (first | (with_reducible first | exact HB.out | apply below_alloc | apply pw_below_drewN | apply below_drew1 | refine below_set ?_ GE506.out) | exact HB.out)⟩
          · rw [if_neg c9] at H
            have c9b0 : decide (a0_4 ≤ 12) = false := decide_eq_false c9
            clear c9
            obtain rfl := Option.some.inj H
            have hcz28_0 : wc.cell? ⟨gb506, 0, none⟩ = some (.int .i64 a0_0) := (blk_cell BK506.out 0).trans rfl
            have hcz28_1 : wc.cell? ⟨gb506, 1, none⟩ = some (.int .i64 a0_1) := (blk_cell BK506.out 1).trans rfl
            have hcz28_2 : wc.cell? ⟨gb506, 2, none⟩ = some (.int .i64 a0_2) := (blk_cell BK506.out 2).trans rfl
            have hcz28_3 : wc.cell? ⟨gb506, 3, none⟩ = some (.bool true) := (blk_cell BK506.out 3).trans rfl
            have hcz28_4 : wc.cell? ⟨gb506, 4, none⟩ = some (.int .i64 a0_4) := (blk_cell BK506.out 4).trans rfl
            have hcz28_5 : wc.cell? ⟨gb506, 5, none⟩ = some (.int .i64 a0_5) := (blk_cell BK506.out 5).trans rfl
            have hcz28_6 : wc.cell? ⟨gb506, 6, none⟩ = some (.int .i64 a0_6) := (blk_cell BK506.out 6).trans rfl
            have hfz28_0 := blk_frozen BK506.out 0
            have hfz28_1 := blk_frozen BK506.out 1
            have hfz28_2 := blk_frozen BK506.out 2
            have hfz28_3 := blk_frozen BK506.out 3
            have hfz28_4 := blk_frozen BK506.out 4
            have hfz28_5 := blk_frozen BK506.out 5
            have hfz28_6 := blk_frozen BK506.out 6
            go_wp2
            go_ret
            exact ⟨by first | rfl | (simp [errW_none, errW_some] <;> rfl) | (simp [*, errW_none, errW_some] <;> rfl), by repeat (first | (with_reducible first | exact HB.out | apply below_alloc | apply pw_below_drewN | apply below_drew1 | refine below_set ?_ GE506.out) | exact HB.out)⟩
        · rw [if_neg c8] at H
          have c8b0 : decide (1 ≤ a0_4) = false := decide_eq_false c8
          clear c8
          obtain rfl := Option.some.inj H
          have hcz29_0 : wc.cell? ⟨gb506, 0, none⟩ = some (.int .i64 a0_0) := (blk_cell BK506.out 0).trans rfl
          have hcz29_1 : wc.cell? ⟨gb506, 1, none⟩ = some (.int .i64 a0_1) := (blk_cell BK506.out 1).trans rfl
          have hcz29_2 : wc.cell? ⟨gb506, 2, none⟩ = some (.int .i64 a0_2) := (blk_cell BK506.out 2).trans rfl
          have hcz29_3 : wc.cell? ⟨gb506, 3, none⟩ = some (.bool true) := (blk_cell BK506.out 3).trans rfl
          have hcz29_4 : wc.cell? ⟨gb506, 4, none⟩ = some (.int .i64 a0_4) := (blk_cell BK506.out 4).trans rfl
          have hcz29_5 : wc.cell? ⟨gb506, 5, none⟩ = some (.int .i64 a0_5) := (blk_cell BK506.out 5).trans rfl
          have hcz29_6 : wc.cell? ⟨gb506, 6, none⟩ = some (.int .i64 a0_6) := (blk_cell BK506.out 6).trans rfl
          have hfz29_0 := blk_frozen BK506.out 0
          have hfz29_1 := blk_frozen BK506.out 1
          have hfz29_2 := blk_frozen BK506.out 2
          have hfz29_3 := blk_frozen BK506.out 3
          have hfz29_4 := blk_frozen BK506.out 4
          have hfz29_5 := blk_frozen BK506.out 5
          have hfz29_6 := blk_frozen BK506.out 6
          go_wp2
          go_ret
          exact ⟨by first | rfl | (simp [errW_none, errW_some] <;> rfl) | (simp [*, errW_none, errW_some] <;> rfl), by repeat (first | (with_reducible first | exact HB.out | apply below_alloc | apply pw_below_drewN | apply below_drew1 | refine below_set ?_ GE506.out) | exact HB.out)⟩
      · replace c7 := Bool.eq_false_iff.mpr c7
        subst c7
        have H1 : (if x3_1 = true then ((zone_within.f a0_1 86400).bind fun t511 => (if t511 = true then ((zone_within.f a0_2 86400).bind fun t512 => (if t512 = true then ((date_In.f a0_0).bind fun t513 => (some t513)) else (some false))) else (some false))) else (some false)) = some r := by rw [if_neg (show ¬ (false = true) by decide)] at H; exact H
        clear H
        have H := H1
        clear H1
        by_cases c30 : x3_1 = true
        · subst c30
          have H1 : ((zone_within.f a0_1 86400).bind fun t511 => (if t511 = true then ((zone_within.f a0_2 86400).bind fun t512 => (if t512 = true then ((date_In.f a0_0).bind fun t513 => (some t513)) else (some false))) else (some false))) = some r := by rw [if_pos rfl] at H; exact H
          clear H
          have H := H1
          clear H1
          replace H := Option.bind_eq_some_iff.mp H
          obtain ⟨t511, A310, H⟩ := H
          replace H : (if t511 = true then ((zone_within.f a0_2 86400).bind fun t512 => (if t512 = true then ((date_In.f a0_0).bind fun t513 => (some t513)) else (some false))) else (some false)) = some r := H
          have A31 := Aside0.mk A310
          clear A310
          by_cases c32 : t511 = true
          · subst c32
            have H1 : ((zone_within.f a0_2 86400).bind fun t512 => (if t512 = true then ((date_In.f a0_0).bind fun t513 => (some t513)) else (some false))) = some r := by rw [if_pos rfl] at H; exact H
            clear H
            have H := H1
            clear H1
            replace H := Option.bind_eq_some_iff.mp H
            obtain ⟨t512, A330, H⟩ := H
            replace H : (if t512 = true then ((date_In.f a0_0).bind fun t513 => (some t513)) else (some false)) = some r := H
            have A33 := Aside0.mk A330
            clear A330
            by_cases c34 : t512 = true
            · subst c34
              have H1 : ((date_In.f a0_0).bind fun t513 => (some t513)) = some r := by rw [if_pos rfl] at H; exact H
              clear H
              have H := H1
              clear H1
              replace H := Option.bind_eq_some_iff.mp H
              obtain ⟨t513, A350, H⟩ := H
              replace H : (some t513) = some r := H
              have A35 := Aside0.mk A350
              clear A350
              obtain rfl := Option.some.inj H
              have hcz36_0 : wc.cell? ⟨gb506, 0, none⟩ = some (.int .i64 a0_0) := (blk_cell BK506.out 0).trans rfl
              have hcz36_1 : wc.cell? ⟨gb506, 1, none⟩ = some (.int .i64 a0_1) := (blk_cell BK506.out 1).trans rfl
              have hcz36_2 : wc.cell? ⟨gb506, 2, none⟩ = some (.int .i64 a0_2) := (blk_cell BK506.out 2).trans rfl
              have hcz36_3 : wc.cell? ⟨gb506, 3, none⟩ = some (.bool false) := (blk_cell BK506.out 3).trans rfl
              have hcz36_4 : wc.cell? ⟨gb506, 4, none⟩ = some (.int .i64 a0_4) := (blk_cell BK506.out 4).trans rfl
              have hcz36_5 : wc.cell? ⟨gb506, 5, none⟩ = some (.int .i64 a0_5) := (blk_cell BK506.out 5).trans rfl
              have hcz36_6 : wc.cell? ⟨gb506, 6, none⟩ = some (.int .i64 a0_6) := (blk_cell BK506.out 6).trans rfl
              have hfz36_0 := blk_frozen BK506.out 0
              have hfz36_1 := blk_frozen BK506.out 1
              have hfz36_2 := blk_frozen BK506.out 2
              have hfz36_3 := blk_frozen BK506.out 3
              have hfz36_4 := blk_frozen BK506.out 4
              have hfz36_5 := blk_frozen BK506.out 5
              have hfz36_6 := blk_frozen BK506.out 6
              go_wp2_with (first | (go_at_call 59; (with_reducible refine (zone_within.calls a0_1 86400 true _ A31.out).mono ?_); rintro e w' ⟨rfl, ⟨nd, rfl⟩⟩) | (go_at_call 59; (with_reducible refine (zone_within.calls a0_2 86400 true _ A33.out).mono ?_); rintro e w' ⟨rfl, ⟨nd, rfl⟩⟩) | (go_at_call 22; (with_reducible refine (date_In.calls a0_0 t513 _ A35.out).mono ?_); rintro e w' ⟨rfl, ⟨nd, rfl⟩⟩))
              go_ret
              exact ⟨by first | rfl | (simp [errW_none, errW_some] <;> rfl) | (simp [*, errW_none, errW_some] <;> rfl), by repeat (first | (with_reducible first | exact HB.out | apply below_alloc | apply pw_below_drewN | apply below_drew1 | refine below_set ?_ GE506.out) | exact HB.out)⟩
            · replace c34 := Bool.eq_false_iff.mpr c34
              subst c34
              have H1 : (some false) = some r := by rw [if_neg (show ¬ (false = true) by decide)] at H; exact H
              clear H
              have H := H1
              clear H1
              obtain rfl := Option.some.inj H
              have hcz37_0 : wc.cell? ⟨gb506, 0, none⟩ = some (.int .i64 a0_0) := (blk_cell BK506.out 0).trans rfl
              have hcz37_1 : wc.cell? ⟨gb506, 1, none⟩ = some (.int .i64 a0_1) := (blk_cell BK506.out 1).trans rfl
              have hcz37_2 : wc.cell? ⟨gb506, 2, none⟩ = some (.int .i64 a0_2) := (blk_cell BK506.out 2).trans rfl
              have hcz37_3 : wc.cell? ⟨gb506, 3, none⟩ = some (.bool false) := (blk_cell BK506.out 3).trans rfl
              have hcz37_4 : wc.cell? ⟨gb506, 4, none⟩ = some (.int .i64 a0_4) := (blk_cell BK506.out 4).trans rfl
              have hcz37_5 : wc.cell? ⟨gb506, 5, none⟩ = some (.int .i64 a0_5) := (blk_cell BK506.out 5).trans rfl
              have hcz37_6 : wc.cell? ⟨gb506, 6, none⟩ = some (.int .i64 a0_6) := (blk_cell BK506.out 6).trans rfl
              have hfz37_0 := blk_frozen BK506.out 0
              have hfz37_1 := blk_frozen BK506.out 1
              have hfz37_2 := blk_frozen BK506.out 2
              have hfz37_3 := blk_frozen BK506.out 3
              have hfz37_4 := blk_frozen BK506.out 4
              have hfz37_5 := blk_frozen BK506.out 5
              have hfz37_6 := blk_frozen BK506.out 6
              go_wp2_with (first | (go_at_call 59; (with_reducible refine (zone_within.calls a0_1 86400 true _ A31.out).mono ?_); rintro e w' ⟨rfl, ⟨nd, rfl⟩⟩) | (go_at_call 59; (with_reducible refine (zone_within.calls a0_2 86400 false _ A33.out).mono ?_); rintro e w' ⟨rfl, ⟨nd, rfl⟩⟩))
              go_ret
              exact ⟨by first | rfl | (simp [errW_none, errW_some] <;> rfl) | (simp [*, errW_none, errW_some] <;> rfl), by repeat (first | (with_reducible first | exact HB.out | apply below_alloc | apply pw_below_drewN | apply below_drew1 | refine below_set ?_ GE506.out) | exact HB.out)⟩
          · replace c32 := Bool.eq_false_iff.mpr c32
            subst c32
            have H1 : (some false) = some r := by rw [if_neg (show ¬ (false = true) by decide)] at H; exact H
            clear H
            have H := H1
            clear H1
            obtain rfl := Option.some.inj H
            have hcz38_0 : wc.cell? ⟨gb506, 0, none⟩ = some (.int .i64 a0_0) := (blk_cell BK506.out 0).trans rfl
            have hcz38_1 : wc.cell? ⟨gb506, 1, none⟩ = some (.int .i64 a0_1) := (blk_cell BK506.out 1).trans rfl
            have hcz38_2 : wc.cell? ⟨gb506, 2, none⟩ = some (.int .i64 a0_2) := (blk_cell BK506.out 2).trans rfl
            have hcz38_3 : wc.cell? ⟨gb506, 3, none⟩ = some (.bool false) := (blk_cell BK506.out 3).trans rfl
            have hcz38_4 : wc.cell? ⟨gb506, 4, none⟩ = some (.int .i64 a0_4) := (blk_cell BK506.out 4).trans rfl
            have hcz38_5 : wc.cell? ⟨gb506, 5, none⟩ = some (.int .i64 a0_5) := (blk_cell BK506.out 5).trans rfl
            have hcz38_6 : wc.cell? ⟨gb506, 6, none⟩ = some (.int .i64 a0_6) := (blk_cell BK506.out 6).trans rfl
            have hfz38_0 := blk_frozen BK506.out 0
            have hfz38_1 := blk_frozen BK506.out 1
            have hfz38_2 := blk_frozen BK506.out 2
            have hfz38_3 := blk_frozen BK506.out 3
            have hfz38_4 := blk_frozen BK506.out 4
            have hfz38_5 := blk_frozen BK506.out 5
            have hfz38_6 := blk_frozen BK506.out 6
            go_wp2_with (first | (go_at_call 59; (with_reducible refine (zone_within.calls a0_1 86400 false _ A31.out).mono ?_); rintro e w' ⟨rfl, ⟨nd, rfl⟩⟩))
            go_ret
            exact ⟨by first | rfl | (simp [errW_none, errW_some] <;> rfl) | (simp [*, errW_none, errW_some] <;> rfl), by repeat (first | (with_reducible first | exact HB.out | apply below_alloc | apply pw_below_drewN | apply below_drew1 | refine below_set ?_ GE506.out) | exact HB.out)⟩
        · replace c30 := Bool.eq_false_iff.mpr c30
          subst c30
          have H1 : (some false) = some r := by rw [if_neg (show ¬ (false = true) by decide)] at H; exact H
          clear H
          have H := H1
          clear H1
          obtain rfl := Option.some.inj H
          have hcz39_0 : wc.cell? ⟨gb506, 0, none⟩ = some (.int .i64 a0_0) := (blk_cell BK506.out 0).trans rfl
          have hcz39_1 : wc.cell? ⟨gb506, 1, none⟩ = some (.int .i64 a0_1) := (blk_cell BK506.out 1).trans rfl
          have hcz39_2 : wc.cell? ⟨gb506, 2, none⟩ = some (.int .i64 a0_2) := (blk_cell BK506.out 2).trans rfl
          have hcz39_3 : wc.cell? ⟨gb506, 3, none⟩ = some (.bool false) := (blk_cell BK506.out 3).trans rfl
          have hcz39_4 : wc.cell? ⟨gb506, 4, none⟩ = some (.int .i64 a0_4) := (blk_cell BK506.out 4).trans rfl
          have hcz39_5 : wc.cell? ⟨gb506, 5, none⟩ = some (.int .i64 a0_5) := (blk_cell BK506.out 5).trans rfl
          have hcz39_6 : wc.cell? ⟨gb506, 6, none⟩ = some (.int .i64 a0_6) := (blk_cell BK506.out 6).trans rfl
          have hfz39_0 := blk_frozen BK506.out 0
          have hfz39_1 := blk_frozen BK506.out 1
          have hfz39_2 := blk_frozen BK506.out 2
          have hfz39_3 := blk_frozen BK506.out 3
          have hfz39_4 := blk_frozen BK506.out 4
          have hfz39_5 := blk_frozen BK506.out 5
          have hfz39_6 := blk_frozen BK506.out 6
          go_wp2
          go_ret
          exact ⟨by first | rfl | (simp [errW_none, errW_some] <;> rfl) | (simp [*, errW_none, errW_some] <;> rfl), by repeat (first | (with_reducible first | exact HB.out | apply below_alloc | apply pw_below_drewN | apply below_drew1 | refine below_set ?_ GE506.out) | exact HB.out)⟩
end Go.Proofs.YtmajmolbjiahlaaGreatDoor.PD
namespace Go.Proofs.YtmajmolbjiahlaaGreatDoor.PD
open Go.RowKit Go.Proofs.YtmajmolbjiahlaaGreatDoorW.PrintWords Go.Proofs.YtmajmolbjiahlaaGreatDoorW.PrintLast Go.Proofs.YtmajmolbjiahlaaGreatDoorW.PrintMore
attribute [local go_sem] isSome_setCell
set_option linter.unusedVariables false
set_option linter.unusedSimpArgs false
abbrev encO (x : S32) : Value := .agg #[.int .i64 x.f0, .int .i64 x.f1, .int .i64 x.f2, .bool x.f3, .int .i64 x.f4, .int .i64 x.f5.f0, .int .i64 x.f5.f1]
def winO (a b : Int) : Bool := decide (a < b) && decide (-b < a)
def inO (a : Int) : Bool := decide (-62135596800 ≤ a) && decide (a ≤ 253402300799)
def numO (a b : Int) : Bool := !decide (a = 0) && decide (a < 6) && decide (-6 < a) && decide (0 ≤ b) && decide (b ≤ 6)
def againO (o : S32) : Bool := if o.f3 = true then decide (1 ≤ o.f4) && decide (o.f4 ≤ 12) && numO o.f5.f0 o.f5.f1 else decide (o.f4 = 0) && decide (o.f5.f0 = 0) && decide (o.f5.f1 = 0)
def fitO (o : S32) : Bool := againO o && winO o.f1 86400 && winO o.f2 86400 && inO o.f0
theorem within_val (a b : Int) (hb : 0 ≤ b ∧ b ≤ 90000) : zone_within.f a b = some (winO a b) := by
  unfold winO
  have hw : wrap64 (-b) = -b := by simp only [wrap64]; omega
  unfold zone_within.f
  rw [hw]
  by_cases h : a < b <;> simp [h, gt_iff_lt]
theorem in_val (a : Int) : date_In.f a = some (inO a) := by
  unfold inO
  unfold date_In.f
  by_cases h : a ≥ -62135596800
  · have h' : -62135596800 ≤ a := h
    simp [h, h']
  · have h' : ¬ -62135596800 ≤ a := h
    simp [h']
theorem numbered_val (a b : Int) : zone_numbered.f a b = some (numO a b) := by
  unfold numO
  unfold zone_numbered.f
  rw [within_val a 6 (by omega)]
  unfold winO
  by_cases h0 : a = 0
  · simp [h0]
  · by_cases h1 : a < 6 <;> by_cases h2 : -6 < a <;> by_cases h3 : 0 ≤ b <;> simp [h0, h1, h2, h3]
theorem fit_val (o : S32) : zone_fit.f 1 o.f0 o.f1 o.f2 o.f3 o.f4 o.f5.f0 o.f5.f1 = some (fitO o) := by
  have key : ∀ x3 : Bool, zone_fit.j0 1 x3 o.f0 o.f1 o.f2 o.f3 o.f4 o.f5.f0 o.f5.f1 = some ((if o.f3 = true then decide (1 ≤ o.f4) && decide (o.f4 ≤ 12) && numO o.f5.f0 o.f5.f1 else x3) && winO o.f1 86400 && winO o.f2 86400 && inO o.f0) := by
    intro x3
    simp only [zone_fit.j0, within_val o.f1 86400 (by omega), within_val o.f2 86400 (by omega), in_val, numbered_val, Option.bind_some, ge_iff_le]
    generalize winO o.f1 86400 = A
    generalize winO o.f2 86400 = B
    generalize inO o.f0 = C
    generalize numO o.f5.f0 o.f5.f1 = D
    by_cases h3 : o.f3 = true
    · by_cases h1 : 1 ≤ o.f4 <;> by_cases h2 : o.f4 ≤ 12 <;> cases A <;> cases B <;> cases C <;> cases D <;> simp [h3, h1, h2]
    · cases A <;> cases B <;> cases C <;> cases x3 <;> simp [h3]
  unfold zone_fit.f
  rw [key, key]
  unfold fitO againO
  by_cases h4 : o.f4 = 0
  · rw [if_pos h4]
    by_cases h3 : o.f3 = true
    · simp [h3]
    · have e : ∀ a b : Int, (a == b) = decide (a = b) := fun a b => by rw [Bool.eq_iff_iff]; simp
      simp [h3, h4, e]
  · rw [if_neg h4]
    by_cases h3 : o.f3 = true
    · simp [h3]
    · simp [h3, h4]
def idxP {α : Type} (p : α → Bool) (l : List α) : Int := match l.findIdx? p with | some i => (i : Int) | none => -1
theorem idxP_at {α : Type} (p : α → Bool) (l : List α) (i : Nat) (hi : i < l.length) (h : p l[i] = true) (hno : ∀ j (hj : j < i), p (l[j]'(by omega)) = false) : idxP p l = i := by
  unfold idxP
  rw [List.findIdx?_eq_some_iff_getElem.2 ⟨hi, h, fun j hj => by simp [hno j hj]⟩]
theorem idxP_none {α : Type} (p : α → Bool) (l : List α) (hno : ∀ j (hj : j < l.length), p l[j] = false) : idxP p l = -1 := by
  unfold idxP
  rw [List.findIdx?_eq_none_iff.2 (fun x hx => by obtain ⟨j, hj, rfl⟩ := List.getElem_of_mem hx; exact hno j hj)]
set_option maxRecDepth 100000 in
set_option maxHeartbeats 1600000 in
theorem indexSp (fk : Nat) (fn : Func) (hfn : Tryz.prog.funcs[fk]? = some fn) (hname : (fn.name == "runtime.NumGoroutine") = false) (hbody : fn.body.isSome = true) (lb : Array Value) (p : S32 → Bool)
    (A0 : Option Addr) (c0 : Nat) (l0 : List S32) (w : World) (hr0 : Kd.C k32 w A0 l0.length l0)
    (hp : ∀ x ∈ l0, ∀ W, Below w.heap.size w W → Calls Tryz.prog fk (#[encO x] ++ lb) W fun e W' => e = .returned (.bool (p x)) ∧ Below W.heap.size W W') :
    Calls Tryz.prog 57 #[.slice A0 l0.length c0, .func (.func fk) #[] lb] w fun e w' => e = .returned (.int .i64 (idxP p l0)) ∧ Below w.heap.size w w' := by
  have HR0 := Aside0.mk hr0
  have hml : l0.length ≤ 9223372036854775807 := by have := hr0.2.1; unfold maxLen at this; omega
  clear hr0
  have HP := Aside0.mk hp
  clear hp
  have HB := Aside0.mk (Below.refl w.heap.size w)
  go_enter Tryz.func57, Tryz.ntmps57
  go_wp2
  go_loopw [8] (fun v wr => ∃ k : Nat, v = .int .i64 k ∧ k ≤ l0.length ∧ Aside0 (∀ j, (hj : j < l0.length) → j < k → p l0[j] = false) ∧ Aside0 (Below w.heap.size w wr)) (fun v _ => l0.length - (intOf v).toNat)
  case atStart => exact ⟨0, rfl, Nat.zero_le _, ⟨fun j _ hj => absurd hj (Nat.not_lt_zero _)⟩, HB⟩
  case round =>
    obtain ⟨k, rfl, hk, hno, hb⟩ := hrel
    by_cases hlt : k < l0.length
    · have hlt0 : decide ((k : Int) < (l0.length : Int)) = true := decide_eq_true (by omega)
      obtain ⟨ad, e, hx0, hx1, hx2, hx3, hx4, hx5, hx6⟩ := at_T32 HR0.out (k : Int) (by omega) (by omega)
      subst e
      replace hx0 := (hb.out.cell (World.block_lt_of_cell? w _ hx0)).trans hx0
      replace hx1 := (hb.out.cell (World.block_lt_of_cell? w _ hx1)).trans hx1
      replace hx2 := (hb.out.cell (World.block_lt_of_cell? w _ hx2)).trans hx2
      replace hx3 := (hb.out.cell (World.block_lt_of_cell? w _ hx3)).trans hx3
      replace hx4 := (hb.out.cell (World.block_lt_of_cell? w _ hx4)).trans hx4
      replace hx5 := (hb.out.cell (World.block_lt_of_cell? w _ hx5)).trans hx5
      replace hx6 := (hb.out.cell (World.block_lt_of_cell? w _ hx6)).trans hx6
      have hget : rd_T32 l0 (k : Int) = l0[k] := by simp [rd_T32, hlt]
      have hc := HP.out l0[k] (List.getElem_mem hlt) wr hb.out
      rw [hget] at hx0 hx1 hx2 hx3 hx4 hx5 hx6
      simp only [Int.toNat_natCast] at hx0 hx1 hx2 hx3 hx4 hx5 hx6
      cases hpk : p l0[k] with
      | true =>
        rw [hpk] at hc
        have HC := Aside0.mk hc
        clear hc
        go_wp2_with ((with_reducible refine gate_tmp (t := 11) rfl ?_); refine goesF_ (some 16) rfl rfl hfn hname hbody (args := #[encO l0[k]] ++ lb) rfl rfl (by (try simp only [List.map_toArray, List.map_cons, List.map_nil]); first | done | rfl) ?_; refine HC.out.mono ?_; rintro e W' ⟨rfl, hb'⟩; refine ⟨_, rfl, ?_⟩)
        go_ret
        refine ⟨?_, hb.out.trans (hb'.mono hb.out.size)⟩
        rw [idxP_at p l0 k hlt hpk (fun j hj => hno.out j (by omega) hj)]
        rfl
      | false =>
        rw [hpk] at hc
        have HC := Aside0.mk hc
        clear hc
        go_wp2_with ((with_reducible refine gate_tmp (t := 11) rfl ?_); refine goesF_ (some 16) rfl rfl hfn hname hbody (args := #[encO l0[k]] ++ lb) rfl rfl (by (try simp only [List.map_toArray, List.map_cons, List.map_nil]); first | done | rfl) ?_; refine HC.out.mono ?_; rintro e W' ⟨rfl, hb'⟩; refine ⟨_, rfl, ?_⟩)
        go_roundw
        case rel =>
          refine ⟨k + 1, by simp, hlt, ⟨fun j hj hjk => ?_⟩, ⟨hb.out.trans (hb'.mono hb.out.size)⟩⟩
          rcases Nat.lt_or_ge j k with h | h
          · exact hno.out j hj h
          · obtain rfl : j = k := by omega
            exact hpk
        case measure => show l0.length - (((k : Int) + 1)).toNat < l0.length - ((k : Int)).toNat; omega
    · have hlt0 : decide ((k : Int) < (l0.length : Int)) = false := decide_eq_false (by omega)
      go_wp2
      go_ret
      refine ⟨?_, hb.out⟩
      rw [idxP_none p l0 (fun j hj => hno.out j hj (by omega))]
      rfl
set_option maxRecDepth 100000 in
set_option maxHeartbeats 1600000 in
theorem fitC_calls (x : S32) (w : World) : Calls Tryz.prog 39 (#[encO x] ++ #[]) w fun e w' => e = .returned (.bool (!fitO x)) ∧ Below w.heap.size w w' := by
  have hb0 := below_alloc (Below.refl w.heap.size w) (.cells #[.int .i64 x.f0, .int .i64 x.f1, .int .i64 x.f2, .bool x.f3, .int .i64 x.f4, .int .i64 x.f5.f0, .int .i64 x.f5.f1] 32)
  have HB0 := Aside0.mk hb0
  have HF := Aside0.mk (zone_fit.calls 1 x.f0 x.f1 x.f2 x.f3 x.f4 x.f5.f0 x.f5.f1 (fitO x) (w.alloc (.cells #[.int .i64 x.f0, .int .i64 x.f1, .int .i64 x.f2, .bool x.f3, .int .i64 x.f4, .int .i64 x.f5.f0, .int .i64 x.f5.f1] 32)) (fit_val x))
  clear hb0
  go_enter Tryz.func39, Tryz.ntmps39
  go_wp2_with (go_at_call 40; refine HF.out.mono ?_; rintro e w1 ⟨rfl, hb1⟩; have HB1 := Aside0.mk (HB0.out.trans (hb1.mono HB0.out.size)); clear hb1)
  go_ret
  exact ⟨rfl, HB1.out⟩
theorem idxP_any {α : Type} (p : α → Bool) (l : List α) : decide (idxP p l ≥ 0) = l.any p := by
  unfold idxP
  cases h : l.findIdx? p with
  | none =>
    rw [List.findIdx?_eq_none_iff] at h
    have : l.any p = false := by rw [List.any_eq_false]; intro x hx; simp [h x hx]
    rw [this]; rfl
  | some i =>
    obtain ⟨h1, h2, _⟩ := List.findIdx?_eq_some_iff_getElem.1 h
    have : l.any p = true := List.any_eq_true.2 ⟨_, List.getElem_mem h1, h2⟩
    rw [this]
    exact decide_eq_true (by show (i : Int) ≥ 0; omega)
set_option maxRecDepth 100000 in
set_option maxHeartbeats 1600000 in
theorem containsO (A0 : Option Addr) (c0 : Nat) (l0 : List S32) (w : World) (hr0 : Kd.C k32 w A0 l0.length l0) :
    Calls Tryz.prog 38 #[.slice A0 l0.length c0, .func (.func 39) #[] #[]] w fun e w' => e = .returned (.bool (l0.any fun x => !fitO x)) ∧ Below w.heap.size w w' := by
  have HI := Aside0.mk (indexSp 39 _ Tryz.func39 (by kernel_rfl) rfl #[] (fun x => !fitO x) A0 c0 l0 w hr0 (fun x _ W _ => fitC_calls x W))
  rw [← idxP_any]
  obtain ⟨i, hi⟩ : ∃ i, idxP (fun x => !fitO x) l0 = i := ⟨_, rfl⟩
  rw [hi] at HI ⊢
  clear hr0 hi
  go_enter Tryz.func38, Tryz.ntmps38
  go_wp2_with (go_at_call 57; refine HI.out.mono ?_; rintro e w1 ⟨rfl, hb1⟩; have HB1 := Aside0.mk hb1; clear hb1)
  go_ret
  exact ⟨rfl, HB1.out⟩
def fitZ (l : List S32) : Bool := decide (l.length ≤ 16) && !(l.any fun x => !fitO x)
def zone_Fit.f (_ : ByteArray) (l0_1 : List (S32)) : Option (Bool) := some (fitZ l0_1)
set_option maxRecDepth 100000 in
set_option maxHeartbeats 1600000 in
theorem zone_Fit.calls (a0_0 : ByteArray) (A0_1 : Option Addr) (c0_1 : Nat) (l0_1 : List (S32)) (r : Bool) (w : World) (hr0_1 : Kd.C k32 w A0_1 l0_1.length l0_1) (hc0_1 : l0_1.length ≤ c0_1) (h : zone_Fit.f a0_0 l0_1 = some r) :
    Calls Tryz.prog 20 #[.agg #[.string a0_0, .slice A0_1 l0_1.length c0_1]] w fun e w' => e = .returned (.bool r) ∧ Below w.heap.size w w' := by
  obtain rfl := Option.some.inj h
  clear h
  have hml : l0_1.length ≤ 9223372036854775807 := by have := hr0_1.2.1; unfold maxLen at this; omega
  have hb0 := below_alloc (Below.refl w.heap.size w) (.cells #[.string a0_0, .slice A0_1 l0_1.length c0_1] 24)
  have HB0 := Aside0.mk hb0
  have HC := Aside0.mk (containsO A0_1 c0_1 l0_1 (w.alloc (.cells #[.string a0_0, .slice A0_1 l0_1.length c0_1] 24)) (Kd.C_below hr0_1 (below_alloc (Below.refl _ _) _)))
  clear hb0 hr0_1
  unfold fitZ
  obtain ⟨b, hb⟩ : ∃ b, (l0_1.any fun x => !fitO x) = b := ⟨_, rfl⟩
  rw [hb] at HC ⊢
  clear hb
  by_cases hle : l0_1.length ≤ 16
  · have h0 : decide ((l0_1.length : Int) ≤ 16) = true := decide_eq_true (by omega)
    rw [decide_eq_true hle, Bool.true_and]
    go_enter Tryz.func20, Tryz.ntmps20
    go_wp2_with (go_at_call 38; refine HC.out.mono ?_; rintro e w1 ⟨rfl, hb1⟩; have HB1 := Aside0.mk (HB0.out.trans (hb1.mono HB0.out.size)); clear hb1)
    go_ret
    exact ⟨rfl, HB1.out⟩
  · have h0 : decide ((l0_1.length : Int) ≤ 16) = false := decide_eq_false (by omega)
    rw [decide_eq_false hle, Bool.false_and]
    go_enter Tryz.func20, Tryz.ntmps20
    go_wp2
    go_ret
    exact ⟨rfl, HB0.out⟩
end Go.Proofs.YtmajmolbjiahlaaGreatDoor.PD
namespace Go.Proofs.YtmajmolbjiahlaaGreatDoor.PD
open Go.RowKit Go.Proofs.YtmajmolbjiahlaaGreatDoorW.PrintWords Go.Proofs.YtmajmolbjiahlaaGreatDoorW.PrintLast Go.Proofs.YtmajmolbjiahlaaGreatDoorW.PrintMore
attribute [local go_sem] isSome_setCell max2_int min2_int max_two min_two
set_option linter.unusedVariables false
set_option linter.unusedSimpArgs false
abbrev cellsO (m : S32) : Array Value := #[.int .i64 m.f0, .int .i64 m.f1, .int .i64 m.f2, .bool m.f3, .int .i64 m.f4, .int .i64 m.f5.f0, .int .i64 m.f5.f1]
abbrev zeroO : Array Value := #[.int .i64 0, .int .i64 0, .int .i64 0, .bool false, .int .i64 0, .int .i64 0, .int .i64 0]
theorem goesV_ {P : Program} {ops : Array Oper} {Q : Exit → Act → World → Prop} {oi : Oper} {N : Option Tmp} {a : Act} {w : World} {K : Act → World → Prop} {f : FuncId} {fn : Func} {xs : Array Operand} {ts : Array TypeId} {c : Operand} (hf : P.funcs[f]? = some fn) (hname : (fn.name == "runtime.NumGoroutine") = false) (hb : fn.body.isSome = true) (args : Array Value)
    (hw : Region.wanted oi (yielded ops a.tmps) = true) (hN : oi.dst = N) (hop : oi.op = .call { callee := .value c, args := xs, argTypes := ts }) (hc : a.eval c = .func (.func f) #[] #[]) (hargs : xs.map a.eval = args)
    (h : Calls P f args w fun e w' => ∃ v, e = .returned v ∧ K (a.put N v) w') : if Region.wanted oi (yielded ops a.tmps) = true then Oper.wp P oi a w K Q else K (a.put N undef) w := by
  refine call_ f args hw hN ?_ h
  have he := enters_ hf hname hb args w
  unfold execOp
  simp [hop, resolve, Deferred.ofValue, invoke, hc, hargs, he]
def cmpI (a b : Int) : Int := mx (mn (a - b) 1) (-1)
theorem cmpI_lt (a b : Int) : decide (cmpI a b < 0) = decide (a < b) := by
  unfold cmpI mx mn
  rw [decide_eq_decide]
  split <;> split <;> omega
set_option maxRecDepth 100000 in
set_option maxHeartbeats 1600000 in
theorem cmpO_calls (x y : S32) (hx : inO x.f0 = true) (hy : inO y.f0 = true) (w : World) : Calls Tryz.prog 25 #[encO x, encO y] w fun e w' => e = .returned (.int .i64 (cmpI x.f0 y.f0)) ∧ Below w.heap.size w w' := by
  have hb0 := below_alloc (below_alloc (Below.refl w.heap.size w) (.cells (cellsO x) 32)) (.cells (cellsO y) 32)
  have HB0 := Aside0.mk hb0
  have hwr : IntKind.i64.wrap (x.f0 - y.f0) = x.f0 - y.f0 := by
    unfold inO at hx hy
    simp only [Bool.and_eq_true, decide_eq_true_eq] at hx hy
    rw [i64_w]; simp only [wrap64]; omega
  clear hb0 hx hy
  go_enter Tryz.func25, Tryz.ntmps25
  go_wp2
  all_goals go_ret
  all_goals refine ⟨?_, HB0.out⟩
  all_goals refine congrArg (fun v => Ending.returned (Value.int .i64 v)) ?_
  all_goals unfold cmpI mx mn
  all_goals grind
def stepMin (m x : S32) : S32 := if x.f0 < m.f0 then x else m
def minFrom (m : S32) (l : List S32) : S32 := l.foldl stepMin m
def AtEl (w : World) (p : Addr) (x : S32) : Prop := w.cell? p = some (.int .i64 x.f0) ∧ w.cell? ⟨p.block, p.off + 1, none⟩ = some (.int .i64 x.f1) ∧ w.cell? ⟨p.block, p.off + 2, none⟩ = some (.int .i64 x.f2) ∧ w.cell? ⟨p.block, p.off + 3, none⟩ = some (.bool x.f3) ∧ w.cell? ⟨p.block, p.off + 4, none⟩ = some (.int .i64 x.f4) ∧ w.cell? ⟨p.block, p.off + 5, none⟩ = some (.int .i64 x.f5.f0) ∧ w.cell? ⟨p.block, p.off + 6, none⟩ = some (.int .i64 x.f5.f1)
theorem AtEl.below {w w' : World} {p : Addr} {x : S32} (h : AtEl w p x) (hb : Below w.heap.size w w') : AtEl w' p x := by
  obtain ⟨h0, h1, h2, h3, h4, h5, h6⟩ := h
  exact ⟨(hb.cell (World.block_lt_of_cell? w _ h0)).trans h0, (hb.cell (World.block_lt_of_cell? w _ h1)).trans h1, (hb.cell (World.block_lt_of_cell? w _ h2)).trans h2, (hb.cell (World.block_lt_of_cell? w _ h3)).trans h3, (hb.cell (World.block_lt_of_cell? w _ h4)).trans h4, (hb.cell (World.block_lt_of_cell? w _ h5)).trans h5, (hb.cell (World.block_lt_of_cell? w _ h6)).trans h6⟩
def AtBk (w : World) (M : Nat) (x : S32) : Prop := w.cell? ⟨M, 0, none⟩ = some (.int .i64 x.f0) ∧ w.cell? ⟨M, 1, none⟩ = some (.int .i64 x.f1) ∧ w.cell? ⟨M, 2, none⟩ = some (.int .i64 x.f2) ∧ w.cell? ⟨M, 3, none⟩ = some (.bool x.f3) ∧ w.cell? ⟨M, 4, none⟩ = some (.int .i64 x.f4) ∧ w.cell? ⟨M, 5, none⟩ = some (.int .i64 x.f5.f0) ∧ w.cell? ⟨M, 6, none⟩ = some (.int .i64 x.f5.f1)
theorem atBk {w : World} {M : Nat} {m : S32} (hm : w.heap[M]? = some (.cells (cellsO m) 32)) : AtBk w M m := ⟨(blk_cell hm 0).trans rfl, (blk_cell hm 1).trans rfl, (blk_cell hm 2).trans rfl, (blk_cell hm 3).trans rfl, (blk_cell hm 4).trans rfl, (blk_cell hm 5).trans rfl, (blk_cell hm 6).trans rfl⟩
theorem atBkZ {w : World} {M : Nat} (hm : w.heap[M]? = some (.cells zeroO 32)) : w.cell? ⟨M, 0, none⟩ = some (.int .i64 0) ∧ w.cell? ⟨M, 1, none⟩ = some (.int .i64 0) ∧ w.cell? ⟨M, 2, none⟩ = some (.int .i64 0) ∧ w.cell? ⟨M, 3, none⟩ = some (.bool false) ∧ w.cell? ⟨M, 4, none⟩ = some (.int .i64 0) ∧ w.cell? ⟨M, 5, none⟩ = some (.int .i64 0) ∧ w.cell? ⟨M, 6, none⟩ = some (.int .i64 0) := ⟨(blk_cell hm 0).trans rfl, (blk_cell hm 1).trans rfl, (blk_cell hm 2).trans rfl, (blk_cell hm 3).trans rfl, (blk_cell hm 4).trans rfl, (blk_cell hm 5).trans rfl, (blk_cell hm 6).trans rfl⟩
theorem blk_set7 {w : World} {M : Nat} {a0 a1 a2 a3 a4 a5 a6 : Value} (hm : w.heap[M]? = some (.cells #[a0, a1, a2, a3, a4, a5, a6] 32 (0, 0))) (x : S32) :
    (((((((w.setCell ⟨M, 0, none⟩ (.int .i64 x.f0)).setCell ⟨M, 1, none⟩ (.int .i64 x.f1)).setCell ⟨M, 2, none⟩ (.int .i64 x.f2)).setCell ⟨M, 3, none⟩ (.bool x.f3)).setCell ⟨M, 4, none⟩ (.int .i64 x.f4)).setCell ⟨M, 5, none⟩ (.int .i64 x.f5.f0)).setCell ⟨M, 6, none⟩ (.int .i64 x.f5.f1)).heap[M]? = some (.cells (cellsO x) 32 (0, 0)) := by
  have h0 := blk_set hm 0 (.int .i64 x.f0)
  have h1 := blk_set h0 1 (.int .i64 x.f1)
  have h2 := blk_set h1 2 (.int .i64 x.f2)
  have h3 := blk_set h2 3 (.bool x.f3)
  have h4 := blk_set h3 4 (.int .i64 x.f4)
  have h5 := blk_set h4 5 (.int .i64 x.f5.f0)
  have h6 := blk_set h5 6 (.int .i64 x.f5.f1)
  simpa only [List.setIfInBounds_toArray, List.set_cons_zero, List.set_cons_succ] using h6
theorem far_set7 {w : World} {M k : Nat} (x : S32) (h : k ≠ M) : (((((((w.setCell ⟨M, 0, none⟩ (.int .i64 x.f0)).setCell ⟨M, 1, none⟩ (.int .i64 x.f1)).setCell ⟨M, 2, none⟩ (.int .i64 x.f2)).setCell ⟨M, 3, none⟩ (.bool x.f3)).setCell ⟨M, 4, none⟩ (.int .i64 x.f4)).setCell ⟨M, 5, none⟩ (.int .i64 x.f5.f0)).setCell ⟨M, 6, none⟩ (.int .i64 x.f5.f1)).heap[k]? = w.heap[k]? := by
  iterate 7 rw [Below.heap_setCell _ _ _ _ h]
theorem below_set7 {w0 w : World} {M : Nat} (x : S32) (h : Below w0.heap.size w0 w) (hM : w0.heap.size ≤ M) : Below w0.heap.size w0 (((((((w.setCell ⟨M, 0, none⟩ (.int .i64 x.f0)).setCell ⟨M, 1, none⟩ (.int .i64 x.f1)).setCell ⟨M, 2, none⟩ (.int .i64 x.f2)).setCell ⟨M, 3, none⟩ (.bool x.f3)).setCell ⟨M, 4, none⟩ (.int .i64 x.f4)).setCell ⟨M, 5, none⟩ (.int .i64 x.f5.f0)).setCell ⟨M, 6, none⟩ (.int .i64 x.f5.f1)) :=
  below_set (below_set (below_set (below_set (below_set (below_set (below_set h hM) hM) hM) hM) hM) hM) hM
theorem held_mb {w w' : World} {p : Addr} {x : S32} (h : AtEl w p x) (hb : Below w.heap.size w w') : AtEl w' p x := h.below hb
def HeldM (ad : Addr) (j : Nat) (M : Nat) (x m : S32) (w : World) : Prop := AtEl w (ad.add (j * 7)) x ∧ AtBk w M m
theorem held_m {w : World} {ad : Addr} {j M : Nat} {x m : S32} (h : AtEl w (ad.add (j * 7)) x) (hm : w.heap[M]? = some (.cells (cellsO m) 32)) : HeldM ad j M x m w :=
  ⟨h, atBk hm⟩
set_option maxRecDepth 100000 in
set_option maxHeartbeats 8000000 in
theorem minC (A : Option Addr) (c : Nat) (l : List S32) (w : World) (hr : Kd.C k32 w A l.length l) (hne : 0 < l.length) (hin : ∀ x ∈ l, inO x.f0 = true) :
    Calls Tryz.prog 24 #[.slice A l.length c, .func (.func 25) #[] #[]] w fun e w' => e = .returned (encO (minFrom l[0] (l.drop 1))) ∧ Below w.heap.size w w' := by
  have hml : l.length ≤ 9223372036854775807 := by have := hr.2.1; unfold maxLen at this; omega
  obtain ⟨ad, e, hx0, hx1, hx2, hx3, hx4, hx5, hx6⟩ := at_T32 hr (0 : Int) (by omega) (by omega)
  have hget : rd_T32 l 0 = l[0] := by simp [rd_T32, hne]
  subst e
  rw [hget] at hx0 hx1 hx2 hx3 hx4 hx5 hx6
  have e0 : ad.add ((0 : Int).toNat * 7) = ad := by cases ad; rfl
  simp only [e0] at hx0 hx1 hx2 hx3 hx4 hx5 hx6
  have HR := Aside0.mk hr
  have HIN := Aside0.mk hin
  have hz0 : decide ((l.length : Int) < 1) = false := decide_eq_false (by omega)
  have HB0 := Aside0.mk (below_alloc (below_alloc (Below.refl w.heap.size w) (.cells (zeroO) 32)) (.cells (cellsO l[0]) 32))
  have HM0 := Aside0.mk (heap_alloc_new (w.alloc (.cells (zeroO) 32)) (.cells (cellsO l[0]) 32))
  have HR0 := Aside0.mk (blk_alloc (heap_alloc_new w (.cells (zeroO) 32)) (.cells (cellsO l[0]) 32))
  clear hget hr hin e0
  have hy : AtEl (w.alloc (.cells #[.int .i64 0, .int .i64 0, .int .i64 0, .bool false, .int .i64 0, .int .i64 0, .int .i64 0] 32)) ad l[0] := AtEl.below (w := w) ⟨hx0, hx1, hx2, hx3, hx4, hx5, hx6⟩ (below_alloc (Below.refl _ _) _)
  clear hx0 hx1 hx2 hx3 hx4 hx5 hx6
  obtain ⟨hx0, hx1, hx2, hx3, hx4, hx5, hx6⟩ := hy
  go_enter Tryz.func24, Tryz.ntmps24
  go_wp2
  clear hx0 hx1 hx2 hx3 hx4 hx5 hx6
  go_loopw [6] (fun v wr => ∃ (j : Nat) (m : S32), v = .int .i64 (j : Int) ∧ 1 ≤ j ∧ j ≤ l.length ∧ Aside0 (inO m.f0 = true) ∧ Aside0 (minFrom m (l.drop j) = minFrom l[0] (l.drop 1)) ∧ Aside0 (wr.heap[w.heap.size]? = some (.cells (zeroO) 32)) ∧ Aside0 (wr.heap[w.heap.size + 1]? = some (.cells (cellsO m) 32)) ∧ Aside0 (Below w.heap.size w wr)) (fun v _ => l.length - (intOf v).toNat)
  case atStart => exact ⟨1, l[0], rfl, Nat.le_refl _, hne, ⟨HIN.out _ (List.getElem_mem hne)⟩, ⟨rfl⟩, HR0, ⟨by have := HM0.out; rwa [World.size_alloc] at this⟩, HB0⟩
  case round =>
    obtain ⟨j, m, rfl, hj1, hj, HIM, HMF, HRS, HM, HB⟩ := hrel
    by_cases hlt : j < l.length
    · have hlt0 : decide ((j : Int) < (l.length : Int)) = true := decide_eq_true (by omega)
      have hx : AtEl wr (ad.add (j * 7)) l[j] := by
        obtain ⟨ad', e, hx0, hx1, hx2, hx3, hx4, hx5, hx6⟩ := at_T32 HR.out (j : Int) (by omega) (by omega)
        cases e
        have hget : rd_T32 l (j : Int) = l[j] := by simp [rd_T32, hlt]
        rw [hget] at hx0 hx1 hx2 hx3 hx4 hx5 hx6
        simp only [Int.toNat_natCast] at hx0 hx1 hx2 hx3 hx4 hx5 hx6
        exact AtEl.below (w := w) ⟨hx0, hx1, hx2, hx3, hx4, hx5, hx6⟩ HB.out
      have HX := Aside0.mk hx
      have HIJ := Aside0.mk (HIN.out l[j] (List.getElem_mem hlt))
      clear hx
      go_wp2
      refine start_ (n := 8) (S := HeldM ad j (w.heap.size + 1) l[j] m) (ds := []) #[false, false, false, false, false, false, false, false] (by kernel_rfl) rfl rfl (held_m HX.out HM.out) (fun hHeld => ?_)
      obtain ⟨w5, hw5⟩ : ∃ y, wr.drew = y := ⟨_, rfl⟩
      have hb5 : Below wr.heap.size wr w5 := by rw [← hw5]; exact below_drew (Below.refl _ _)
      rw [hw5] at hHeld ⊢
      clear hw5
      have HX5 := Aside0.mk (held_mb HX.out hb5)
      have HM5 := Aside0.mk (blk_below HM.out hb5)
      have HR5 := Aside0.mk (blk_below HRS.out hb5)
      have HB5 := Aside0.mk (HB.out.trans (hb5.mono HB.out.size))
      clear hb5
      refine pure_ (i := 0) (N := some 20) (v := ?_) (a' := ?_) #[true, false, false, false, false, false, false, false] rfl rfl (by kernel_rfl) (fun _ _ _ h => h) (Or.inl ⟨by rfl, ?_⟩) ?_ ?_
      rotate_left
      · intro w'
        go_simp
        with_reducible rfl
      rotate_left
      · simp only [Act.put, List.setIfInBounds_toArray, List.set_cons_zero, List.set_cons_succ, i64_w, i32_w]
        rfl
      refine pure_ (i := 1) (N := some 21) (v := ?_) (a' := ?_) #[true, true, false, false, false, false, false, false] rfl rfl (by kernel_rfl) (fun _ _ _ h => h) (Or.inl ⟨by rfl, ?_⟩) ?_ ?_
      rotate_left
      · intro w'
        go_simp
        with_reducible rfl
      rotate_left
      · simp only [Act.put, List.setIfInBounds_toArray, List.set_cons_zero, List.set_cons_succ, i64_w, i32_w]
        rfl
      refine pure_ (i := 2) (N := some 22) (v := ?_) (a' := ?_) #[true, true, true, false, false, false, false, false] rfl rfl (by kernel_rfl) (fun _ _ _ h => h) (Or.inl ⟨by rfl, ?_⟩) ?_ ?_
      rotate_left
      · intro w'
        go_simp
        with_reducible rfl
      rotate_left
      · simp only [Act.put, List.setIfInBounds_toArray, List.set_cons_zero, List.set_cons_succ, i64_w, i32_w]
        rfl
      refine pure_ (i := 3) (N := some 23) (v := ?_) (a' := ?_) #[true, true, true, true, false, false, false, false] rfl rfl (by kernel_rfl) (fun _ _ _ h => h) (Or.inl ⟨by rfl, ?_⟩) ?_ ?_
      rotate_left
      · intro w'
        go_simp
        with_reducible rfl
      rotate_left
      · simp only [Act.put, List.setIfInBounds_toArray, List.set_cons_zero, List.set_cons_succ, i64_w, i32_w]
        rfl
      refine take_ (i := 4) (N := some 24) (v := ?_) (a' := ?_) #[true, true, true, true, true, false, false, false] rfl rfl (by kernel_rfl) (fun _ _ _ h => h) (Or.inl ⟨by rfl, ?_⟩) hHeld ?_ ?_
      rotate_left
      · rintro w' ⟨⟨s0, s1, s2, s3, s4, s5, s6⟩, t0, t1, t2, t3, t4, t5, t6⟩
        go_simp
        with_reducible rfl
      rotate_left
      · simp only [Act.put, List.setIfInBounds_toArray, List.set_cons_zero, List.set_cons_succ, i64_w, i32_w]
        rfl
      refine take_ (i := 5) (N := some 25) (v := ?_) (a' := ?_) #[true, true, true, true, true, true, false, false] rfl rfl (by kernel_rfl) (fun _ _ _ h => h) (Or.inl ⟨by rfl, ?_⟩) hHeld ?_ ?_
      rotate_left
      · rintro w' ⟨⟨s0, s1, s2, s3, s4, s5, s6⟩, t0, t1, t2, t3, t4, t5, t6⟩
        go_simp
        with_reducible rfl
      rotate_left
      · simp only [Act.put, List.setIfInBounds_toArray, List.set_cons_zero, List.set_cons_succ, i64_w, i32_w]
        rfl
      refine one_ (i := 6) (N := some 26) #[true, true, true, true, true, true, true, false] rfl rfl (by kernel_rfl) (by decide) (fun K hK => ?_)
      refine goesV_ Tryz.func25 (by kernel_rfl) rfl #[encO l[j], encO m] (by rfl) rfl rfl (by rfl) (by (try simp only [List.map_toArray, List.map_cons, List.map_nil]); first | done | rfl) ?_
      refine (cmpO_calls l[j] m HIJ.out HIM.out w5).mono ?_
      rintro e w6 ⟨rfl, hb6⟩
      refine ⟨_, rfl, ?_⟩
      have HX6 := Aside0.mk (held_mb HX5.out hb6)
      have HM6 := Aside0.mk (blk_below HM5.out hb6)
      have HR6 := Aside0.mk (blk_below HR5.out hb6)
      have HB6 := Aside0.mk (HB5.out.trans (hb6.mono HB5.out.size))
      clear hb6
      refine hK.out _ _ (held_m HX6.out HM6.out) (fun hHeld => ?_)
      clear hK K
      refine norm_ (a' := ?_) ?_ ?_
      rotate_left
      · show Act.put _ (some 26) _ = _
        simp only [Act.put, List.setIfInBounds_toArray, List.set_cons_zero, List.set_cons_succ, i64_w, i32_w]
        rfl
      refine pure_ (i := 7) (N := some 27) (v := ?_) (a' := ?_) #[true, true, true, true, true, true, true, true] rfl rfl (by kernel_rfl) (fun _ _ _ h => h) (Or.inl ⟨by rfl, ?_⟩) ?_ ?_
      rotate_left
      · intro w'
        go_simp
        with_reducible rfl
      rotate_left
      · simp only [Act.put, List.setIfInBounds_toArray, List.set_cons_zero, List.set_cons_succ, i64_w, i32_w]
        rfl
      refine done_ (by kernel_rfl) ?_
      have hcm := cmpI_lt l[j].f0 m.f0
      by_cases hc : l[j].f0 < m.f0
      · rw [decide_eq_true hc] at hcm
        rw [hcm]
        clear hcm
        obtain ⟨hy0, hy1, hy2, hy3, hy4, hy5, hy6⟩ := HX6.out
        obtain ⟨hc0, hc1, hc2, hc3, hc4, hc5, hc6⟩ := atBk HM6.out
        have hf0 := blk_frozen HM6.out 0
        have hf1 := blk_frozen HM6.out 1
        have hf2 := blk_frozen HM6.out 2
        have hf3 := blk_frozen HM6.out 3
        have hf4 := blk_frozen HM6.out 4
        have hf5 := blk_frozen HM6.out 5
        have hf6 := blk_frozen HM6.out 6
        go_wp2
        go_roundw
        case rel =>
          refine ⟨j + 1, l[j], by simp, by omega, hlt, HIJ, ⟨?_⟩, ⟨?_⟩, ⟨?_⟩, ⟨?_⟩⟩
          · rw [← HMF.out, List.drop_eq_getElem_cons hlt]
            show _ = minFrom (stepMin m l[j]) _
            rw [stepMin, if_pos hc]
          · exact (far_set7 l[j] (by omega)).trans HR6.out
          · exact blk_set7 HM6.out l[j]
          · exact below_set7 l[j] HB6.out (by omega)
        case measure => show l.length - (((j : Int) + 1)).toNat < l.length - ((j : Int)).toNat; omega
      · rw [decide_eq_false hc] at hcm
        rw [hcm]
        clear hcm
        go_wp2
        go_roundw
        case rel =>
          refine ⟨j + 1, m, by simp, by omega, hlt, HIM, ⟨?_⟩, HR6, HM6, HB6⟩
          rw [← HMF.out, List.drop_eq_getElem_cons hlt]
          show _ = minFrom (stepMin m l[j]) _
          rw [stepMin, if_neg hc]
        case measure => show l.length - (((j : Int) + 1)).toNat < l.length - ((j : Int)).toNat; omega
    · have hlt0 : decide ((j : Int) < (l.length : Int)) = false := decide_eq_false (by omega)
      obtain rfl : j = l.length := by omega
      have hm : minFrom l[0] (l.drop 1) = m := by rw [← HMF.out, List.drop_length]; rfl
      obtain ⟨hy0, hy1, hy2, hy3, hy4, hy5, hy6⟩ := atBk HM.out
      obtain ⟨hc0, hc1, hc2, hc3, hc4, hc5, hc6⟩ := atBkZ HRS.out
      have hf0 := blk_frozen HRS.out 0
      have hf1 := blk_frozen HRS.out 1
      have hf2 := blk_frozen HRS.out 2
      have hf3 := blk_frozen HRS.out 3
      have hf4 := blk_frozen HRS.out 4
      have hf5 := blk_frozen HRS.out 5
      have hf6 := blk_frozen HRS.out 6
      go_wp2
      refine bodyPost_ret (results_cell_row rfl _ _ w.heap.size 32 (cellsO m) (0, 0) _ rfl ?blk Tryz.underlying32 rfl (by kernel_rfl)) rfl ?_
      case blk => exact blk_set7 HRS.out m
      exact ⟨by rw [hm], below_set7 m HB.out (Nat.le_refl _)⟩
def api_Obs_24.f (l0 : List (S32)) : Option (Int × Int × Int × Bool × Int × Int × Int) :=
  if h : 0 < l0.length ∧ (l0.all fun x => inO x.f0) = true then (let m := minFrom (l0[0]'h.1) (l0.drop 1); some (m.f0, m.f1, m.f2, m.f3, m.f4, m.f5.f0, m.f5.f1)) else none
theorem api_Obs_24.calls (A0 : Option Addr) (c0 : Nat) (l0 : List (S32)) (r1 : Int) (r2 : Int) (r3 : Int) (r4 : Bool) (r5 : Int) (r6 : Int) (r7 : Int) (w : World) (hr0 : Kd.C k32 w A0 l0.length l0) (hc0 : l0.length ≤ c0) (h : api_Obs_24.f l0 = some (r1, r2, r3, r4, r5, r6, r7)) :
    Calls Tryz.prog 24 #[.slice A0 l0.length c0, .func (.func 25) #[] #[]] w fun e w' => e = .returned (.agg #[.int .i64 r1, .int .i64 r2, .int .i64 r3, .bool r4, .int .i64 r5, .int .i64 r6, .int .i64 r7]) ∧ Below w.heap.size w w' := by
  unfold api_Obs_24.f at h
  split at h
  case isFalse => cases h
  rename_i hc
  simp only [Option.some.injEq, Prod.mk.injEq] at h
  obtain ⟨rfl, rfl, rfl, rfl, rfl, rfl, rfl⟩ := h
  exact minC A0 c0 l0 w hr0 hc.1 (fun x hx => by simpa using List.all_eq_true.1 hc.2 x hx)
end Go.Proofs.YtmajmolbjiahlaaGreatDoor.PD
namespace Go.Proofs.YtmajmolbjiahlaaGreatDoor.PD
open Go.RowKit Go.Proofs.YtmajmolbjiahlaaGreatDoorW.PrintWords Go.Proofs.YtmajmolbjiahlaaGreatDoorW.PrintLast Go.Proofs.YtmajmolbjiahlaaGreatDoorW.PrintMore
attribute [local go_sem] isSome_setCell max2_int min2_int max_two min_two max_three min_three max_four min_four
set_option linter.unusedVariables false
set_option linter.unusedSimpArgs false
def date_truth.f (a0 : Bool) : Option (Int) := if a0 = true then (some 1) else (some 0)
set_option maxHeartbeats 8000000 in
set_option maxRecDepth 100000 in
theorem date_truth.calls (a0 : Bool) (r : Int) (w : World) (h : date_truth.f a0 = some r) :
    Calls Tryz.prog 60 #[.bool a0] w fun e w' => e = .returned (.int .i64 r) ∧ Drawn0 w w' := by
  have H : (if a0 = true then (some 1) else (some 0)) = some r := h
  clear h
  by_cases c2 : a0 = true
  · subst c2
    have H1 : (some 1) = some r := by rw [if_pos rfl] at H; exact H
    clear H
    have H := H1
    clear H1
    obtain rfl := Option.some.inj H
    go_enter Tryz.func60, Tryz.ntmps60
    go_wp2
    go_ret
    exact ⟨by first | rfl | (simp; done) | (simp [*]; done), by repeat (first | exact Drawn0.refl _ | apply Drawn0.step)⟩
  · replace c2 := Bool.eq_false_iff.mpr c2
    subst c2
    have H1 : (some 0) = some r := by rw [if_neg (show ¬ (false = true) by decide)] at H; exact H
    clear H
    have H := H1
    clear H1
    obtain rfl := Option.some.inj H
    go_enter Tryz.func60, Tryz.ntmps60
    go_wp2
    go_ret
    exact ⟨by first | rfl | (simp; done) | (simp [*]; done), by repeat (first | exact Drawn0.refl _ | apply Drawn0.step)⟩
end Go.Proofs.YtmajmolbjiahlaaGreatDoor.PD
namespace Go.Proofs.YtmajmolbjiahlaaGreatDoor.PD
open Go.RowKit Go.Proofs.YtmajmolbjiahlaaGreatDoorW.PrintWords Go.Proofs.YtmajmolbjiahlaaGreatDoorW.PrintLast Go.Proofs.YtmajmolbjiahlaaGreatDoorW.PrintMore
attribute [local go_sem] isSome_setCell max2_int min2_int max_two min_two max_three min_three max_four min_four
set_option linter.unusedVariables false
set_option linter.unusedSimpArgs false
def date_Parts.f (a0 : Int) : Option (Int × Int) := (date_truth.f (decide ((Int.tmod a0 86400) < 0))).bind fun t105 => (some (wrap64 ((wrap64 (Int.tdiv a0 86400)) - t105), Int.tmod (wrap64 ((Int.tmod a0 86400) + 86400)) 86400))
set_option maxHeartbeats 8000000 in
set_option maxRecDepth 100000 in
theorem date_Parts.calls (a0 : Int) (r1 : Int) (r2 : Int) (w : World) (h : date_Parts.f a0 = some (r1, r2)) :
    Calls Tryz.prog 42 #[.int .i64 a0] w fun e w' => e = .returned (.tuple #[.int .i64 r1, .int .i64 r2]) ∧ Drawn0 w w' := by
  have H : ((date_truth.f (decide ((Int.tmod a0 86400) < 0))).bind fun t105 => (some (wrap64 ((wrap64 (Int.tdiv a0 86400)) - t105), Int.tmod (wrap64 ((Int.tmod a0 86400) + 86400)) 86400))) = some (r1, r2) := h
  clear h
  replace H := Option.bind_eq_some_iff.mp H
  obtain ⟨t105, A20, H⟩ := H
  replace H : (some (wrap64 ((wrap64 (Int.tdiv a0 86400)) - t105), Int.tmod (wrap64 ((Int.tmod a0 86400) + 86400)) 86400)) = some (r1, r2) := H
  have A2 := Aside0.mk A20
  clear A20
  simp only [Option.some.injEq, Prod.mk.injEq] at H
  obtain ⟨rfl, rfl⟩ := H
  go_enter Tryz.func42, Tryz.ntmps42
  go_wp2_with (first | ((with_reducible refine gate_callee (f := 60) rfl ?_); refine goesL_ (some 14) rfl rfl Tryz.func60 (by kernel_rfl) rfl #[.bool (decide ((Int.tmod a0 86400) < 0))] rfl (by (try simp only [List.map_toArray, List.map_cons, List.map_nil]); first | done | rfl | (simp only [List.length_drop, List.length_take]; rfl)) ?_; (with_reducible refine (date_truth.calls (decide ((Int.tmod a0 86400) < 0)) t105 _ A2.out).mono ?_); rintro e w' ⟨rfl, ⟨nd, rfl⟩⟩; refine ⟨_, rfl, ?_⟩))
  go_ret2
  exact ⟨by first | rfl | (simp; done) | (simp [*]; done), by repeat (first | exact Drawn0.refl _ | apply Drawn0.step)⟩
end Go.Proofs.YtmajmolbjiahlaaGreatDoor.PD
namespace Go.Proofs.YtmajmolbjiahlaaGreatDoor.PD
set_option linter.unusedVariables false
theorem bgP_mono (y z : Int) (h0 : 1 ≤ y) (h : y < z) : bgP (y + 1) ≤ bgP z := by
  unfold bgP
  omega
theorem lp_pos (y : Int) (h : 1 ≤ y) : lp y = true ↔ (y % 4 = 0 ∧ (y % 100 ≠ 0 ∨ y % 400 = 0)) := by
  unfold lp
  rw [Int.tmod_eq_emod_of_nonneg (by omega), Int.tmod_eq_emod_of_nonneg (by omega), Int.tmod_eq_emod_of_nonneg (by omega)]
  simp
theorem bgP_step (y : Int) (h : 1 ≤ y) : bgP (y + 1) = bgP y + sumL (mon (lp y)) := by
  have hs : ∀ b : Bool, sumL (mon b) = if b = true then 366 else 365 := by decide
  rw [hs]
  by_cases hl : lp y = true
  · rw [if_pos hl]
    rw [lp_pos y h] at hl
    unfold bgP
    omega
  · rw [if_neg hl]
    rw [lp_pos y h] at hl
    unfold bgP
    omega
def yearF (n : Int) : Int :=
  if n < bgP ((n + 719162) * 400 / 146097 + 1) then (n + 719162) * 400 / 146097 else if bgP ((n + 719162) * 400 / 146097 + 2) ≤ n then (n + 719162) * 400 / 146097 + 2 else (n + 719162) * 400 / 146097 + 1
theorem yearF_spec (n : Int) (h0 : -719162 ≤ n) (h1 : n ≤ 2932896) : 1 ≤ yearF n ∧ yearF n ≤ 9999 ∧ bgP (yearF n) ≤ n ∧ n < bgP (yearF n + 1) := by
  unfold yearF
  obtain ⟨e, he⟩ : ∃ e, (n + 719162) * 400 / 146097 = e := ⟨_, rfl⟩
  rw [he]
  have h2 : e * 146097 ≤ (n + 719162) * 400 := by rw [← he]; exact Int.ediv_mul_le _ (by omega)
  have h3 : (n + 719162) * 400 < (e + 1) * 146097 := by rw [← he]; exact Int.lt_ediv_add_one_mul_self _ (by omega)
  clear he
  split
  · rename_i h
    unfold bgP at *
    omega
  · split
    · rename_i h h'
      unfold bgP at *
      omega
    · rename_i h h'
      rw [show e + 1 + 1 = e + 2 by omega]
      unfold bgP at *
      omega
theorem year_unique (n y z : Int) (hy : 1 ≤ y) (hz : 1 ≤ z) (h1 : bgP y ≤ n) (h2 : n < bgP (y + 1)) (h3 : bgP z ≤ n) (h4 : n < bgP (z + 1)) : y = z := by
  rcases Int.lt_trichotomy y z with h | h | h
  · have := bgP_mono y z hy h; omega
  · exact h
  · have := bgP_mono z y hz h; omega
def monGo : List (Int × Int) → Int → Int × Int × Bool
  | [], _ => (0, 0, false)
  | x :: r, l => if l < x.2 then (x.1, l + 1, true) else monGo r (l - x.2)
def civP (n : Int) : Int × Int × Int × Bool :=
  if n < -719162 ∨ 2932896 < n then (0, 0, 0, false) else (yearF n, monGo (mon (lp (yearF n))) (n - bgP (yearF n)))
end Go.Proofs.YtmajmolbjiahlaaGreatDoor.PD
namespace Go.Proofs.YtmajmolbjiahlaaGreatDoor.PD
open Go.RowKit Go.Shelf Go.Proofs.YtmajmolbjiahlaaGreatDoorW.PrintWords Go.Proofs.YtmajmolbjiahlaaGreatDoorW.PrintLast Go.Proofs.YtmajmolbjiahlaaGreatDoorW.PrintMore
attribute [local go_sem] isSome_setCell Oper.semAt_some wide_fn wide_depth
set_option linter.unusedVariables false
set_option linter.unusedSimpArgs false
theorem results43 (tmps : Array Value) (w : World) (S : Nat) (y m n : Int) (o : Bool) (h2 : tmps.getD 2 undef = .pointer (some ⟨S, 0, none⟩)) (h3 : tmps.getD 3 undef = .pointer (some ⟨S + 1, 0, none⟩)) (h4 : tmps.getD 4 undef = .pointer (some ⟨S + 2, 0, none⟩)) (h5 : tmps.getD 5 undef = .pointer (some ⟨S + 3, 0, none⟩))
    (c2 : w.heap[S]? = some (.cells #[.int .i64 y] 3 (0, 0))) (c3 : w.heap[S + 1]? = some (.cells #[.int .i64 m] 3 (0, 0))) (c4 : w.heap[S + 2]? = some (.cells #[.int .i64 n] 3 (0, 0))) (c5 : w.heap[S + 3]? = some (.cells #[.bool o] 4 (0, 0))) :
    (results Tryz.f43 tmps).run Tryz.prog w = .ok (.tuple #[.int .i64 y, .int .i64 m, .int .i64 n, .bool o]) w := by
  have d2 := (blk_cell c2 0).trans rfl
  have d3 := (blk_cell c3 0).trans rfl
  have d4 := (blk_cell c4 0).trans rfl
  have d5 := (blk_cell c5 0).trans rfl
  unfold results
  rw [show Tryz.f43.results = [ResultVar.cell 2 3, .cell 3 3, .cell 4 3, .cell 5 4].toArray from rfl, List.mapM_toArray]
  simp only [Sem.run_bind, Sem.run_map, List.mapM_cons, List.mapM_nil, h2, h3, h4, h5]
  simp [asAddr, loadVar, go_sem, d2, d3, d4, d5, Tryz.underlying3, Tryz.underlying4]
def Res4 (S : Nat) (y m n : Int) (o : Bool) (W : World) : Prop := W.heap[S]? = some (.cells #[.int .i64 y] 3 (0, 0)) ∧ W.heap[S + 1]? = some (.cells #[.int .i64 m] 3 (0, 0)) ∧ W.heap[S + 2]? = some (.cells #[.int .i64 n] 3 (0, 0)) ∧ W.heap[S + 3]? = some (.cells #[.bool o] 4 (0, 0))
theorem Res4.keep {S : Nat} {y m n : Int} {o : Bool} {W X : World} (h : Res4 S y m n o W) (hk : ∀ k, k < S + 4 → X.heap[k]? = W.heap[k]?) : Res4 S y m n o X :=
  ⟨(hk _ (by omega)).trans h.1, (hk _ (by omega)).trans h.2.1, (hk _ (by omega)).trans h.2.2.1, (hk _ (by omega)).trans h.2.2.2⟩
theorem Res4.cells {S : Nat} {y m n : Int} {o : Bool} {W : World} (h : Res4 S y m n o W) : (W.cell? ⟨S, 0, none⟩ = some (.int .i64 y) ∧ W.cell? ⟨S + 1, 0, none⟩ = some (.int .i64 m) ∧ W.cell? ⟨S + 2, 0, none⟩ = some (.int .i64 n) ∧ W.cell? ⟨S + 3, 0, none⟩ = some (.bool o)) ∧
    W.frozen? ⟨S, 0, none⟩ = false ∧ W.frozen? ⟨S + 1, 0, none⟩ = false ∧ W.frozen? ⟨S + 2, 0, none⟩ = false ∧ W.frozen? ⟨S + 3, 0, none⟩ = false :=
  ⟨⟨(blk_cell h.1 0).trans rfl, (blk_cell h.2.1 0).trans rfl, (blk_cell h.2.2.1 0).trans rfl, (blk_cell h.2.2.2 0).trans rfl⟩, blk_frozen h.1 0, blk_frozen h.2.1 0, blk_frozen h.2.2.1 0, blk_frozen h.2.2.2 0⟩
theorem res_store (W : World) (S : Nat) (y m n y' m' n' : Int) (o o' : Bool) (h : Res4 S y m n o W) :
    let X := (((W.setCell ⟨S, 0, none⟩ (.int .i64 y')).setCell ⟨S + 1, 0, none⟩ (.int .i64 m')).setCell ⟨S + 2, 0, none⟩ (.int .i64 n')).setCell ⟨S + 3, 0, none⟩ (.bool o')
    Res4 S y' m' n' o' X ∧ (∀ k, k ≠ S → k ≠ S + 1 → k ≠ S + 2 → k ≠ S + 3 → X.heap[k]? = W.heap[k]?) ∧ W.heap.size = X.heap.size ∧ X.os = W.os ∧ X.tape = W.tape ∧ X.output = W.output := by
  intro X
  obtain ⟨h0, h1, h2, h3⟩ := h
  have far : ∀ k, k ≠ S → k ≠ S + 1 → k ≠ S + 2 → k ≠ S + 3 → X.heap[k]? = W.heap[k]? := fun k n0 n1 n2 n3 =>
    (Below.heap_setCell _ _ _ k n3).trans ((Below.heap_setCell _ _ _ k n2).trans ((Below.heap_setCell _ _ _ k n1).trans (Below.heap_setCell _ _ _ k n0)))
  refine ⟨⟨?_, ?_, ?_, ?_⟩, far, by simp [X, World.setCell], rfl, rfl, rfl⟩
  · exact (Below.heap_setCell _ _ _ S (by show S ≠ S + 3; omega)).trans ((Below.heap_setCell _ _ _ S (by show S ≠ S + 2; omega)).trans ((Below.heap_setCell _ _ _ S (by show S ≠ S + 1; omega)).trans (blk_set h0 0 _)))
  · exact (Below.heap_setCell _ _ _ _ (by show S + 1 ≠ S + 3; omega)).trans ((Below.heap_setCell _ _ _ _ (by show S + 1 ≠ S + 2; omega)).trans (blk_set ((Below.heap_setCell _ _ _ _ (by show S + 1 ≠ S; omega)).trans h1) 0 _))
  · exact (Below.heap_setCell _ _ _ _ (by show S + 2 ≠ S + 3; omega)).trans (blk_set ((Below.heap_setCell _ _ _ _ (by show S + 2 ≠ S + 1; omega)).trans ((Below.heap_setCell _ _ _ _ (by show S + 2 ≠ S; omega)).trans h2)) 0 _)
  · exact blk_set ((Below.heap_setCell _ _ _ _ (by show S + 3 ≠ S + 2; omega)).trans ((Below.heap_setCell _ _ _ _ (by show S + 3 ≠ S + 1; omega)).trans ((Below.heap_setCell _ _ _ _ (by show S + 3 ≠ S; omega)).trans h3))) 0 _
theorem res_made (w : World) : Res4 w.heap.size 0 0 0 false ((((w.alloc (.cells #[.int .i64 0] 3)).alloc (.cells #[.int .i64 0] 3)).alloc (.cells #[.int .i64 0] 3)).alloc (.cells #[.bool false] 4)) := by
  refine ⟨blk_alloc (blk_alloc (blk_alloc (heap_alloc_new w _) _) _) _, ?_, ?_, ?_⟩
  · have := heap_alloc_new (w.alloc (.cells #[.int .i64 0] 3)) (.cells #[.int .i64 0] 3)
    rw [World.size_alloc] at this
    exact blk_alloc (blk_alloc this _) _
  · have := heap_alloc_new ((w.alloc (.cells #[.int .i64 0] 3)).alloc (.cells #[.int .i64 0] 3)) (.cells #[.int .i64 0] 3)
    rw [World.size_alloc, World.size_alloc] at this
    exact blk_alloc this _
  · have := heap_alloc_new (((w.alloc (.cells #[.int .i64 0] 3)).alloc (.cells #[.int .i64 0] 3)).alloc (.cells #[.int .i64 0] 3)) (.cells #[.bool false] 4)
    rw [World.size_alloc, World.size_alloc, World.size_alloc] at this
    exact this
def Cv5 (w : World) (y : Int) (W : World) : Prop := Res4 w.heap.size 0 0 0 false W ∧ W.heap[w.heap.size + 4]? = some (.cells #[.int .i64 y] 3 (0, 0)) ∧ W.heap.size = w.heap.size + 5 ∧ Below w.heap.size w W
theorem Cv5.drawn {w W X : World} {y : Int} (h : Cv5 w y W) (hd : Drawn0 W X) : Cv5 w y X := by
  obtain ⟨n, rfl⟩ := hd
  exact ⟨h.1, h.2.1, h.2.2.1, by apply pw_below_drewN; exact h.2.2.2⟩
theorem Cv5.set {w W : World} {y : Int} (z : Int) (h : Cv5 w y W) : Cv5 w z (W.setCell ⟨w.heap.size + 4, 0, none⟩ (.int .i64 z)) :=
  ⟨h.1.keep (fun k hk => Below.heap_setCell _ _ _ k (by show k ≠ w.heap.size + 4; omega)), blk_set h.2.1 0 _, by rw [← h.2.2.1]; simp [World.setCell], below_set h.2.2.2 (by omega)⟩
theorem Cv5.cell {w W : World} {y : Int} (h : Cv5 w y W) : W.cell? ⟨w.heap.size + 4, 0, none⟩ = some (.int .i64 y) ∧ W.frozen? ⟨w.heap.size + 4, 0, none⟩ = false := ⟨(blk_cell h.2.1 0).trans rfl, blk_frozen h.2.1 0⟩
def Cv6 (w : World) (y l : Int) (W : World) : Prop := Res4 w.heap.size 0 0 0 false W ∧ W.heap[w.heap.size + 4]? = some (.cells #[.int .i64 y] 3 (0, 0)) ∧ W.heap[w.heap.size + 5]? = some (.cells #[.int .i64 l] 3 (0, 0)) ∧ Below w.heap.size w W
theorem res_own {β : Type} (S B : Nat) (hB : S + 4 ≤ B) (y m n : Int) (o : Bool) (w : World) (hS : w.heap.size = S) (p : β → Prop) : OwnZ (fun _ => False) B (fun (s : β) W => p s ∧ Res4 S y m n o W ∧ Below w.heap.size w W) := by
  rintro s X Y row ⟨hp, ⟨h0, h1, h2, h3⟩, h7⟩ hg hr
  have hrow : ∀ r, row = some r → B ≤ r := fun r e => by
    rcases hr r e with h | h
    · exact h.elim
    · exact h.1
  have key : ∀ k o', k < B → X.heap[k]? = some o' → Y.heap[k]? = some o' := fun k o' hk h => (hg.block k (Array.getElem?_eq_some_iff.1 h).1 (fun e => by have := hrow k e.symm; omega)).trans h
  exact ⟨hp, ⟨key _ _ (by omega) h0, key _ _ (by omega) h1, key _ _ (by omega) h2, key _ _ (by omega) h3⟩, h7.grown hg h7.size (fun k e => by have := hrow k e; omega)⟩
theorem cv6_own {β : Type} (w : World) (B : Nat) (hB : w.heap.size + 6 ≤ B) (y : Int) (l : β → Int) (p : β → Prop) : OwnZ (fun _ => False) B (fun (s : β) W => p s ∧ Cv6 w y (l s) W) := by
  rintro s X Y row ⟨hp, ⟨h0, h1, h2, h3⟩, h4, h5, h7⟩ hg hr
  have hrow : ∀ r, row = some r → B ≤ r := fun r e => by
    rcases hr r e with h | h
    · exact h.elim
    · exact h.1
  have key : ∀ k o', k < B → X.heap[k]? = some o' → Y.heap[k]? = some o' := fun k o' hk h => (hg.block k (Array.getElem?_eq_some_iff.1 h).1 (fun e => by have := hrow k e.symm; omega)).trans h
  exact ⟨hp, ⟨key _ _ (by omega) h0, key _ _ (by omega) h1, key _ _ (by omega) h2, key _ _ (by omega) h3⟩, key _ _ (by omega) h4, key _ _ (by omega) h5, h7.grown hg h7.size (fun k e => by have := hrow k e; omega)⟩
theorem cv6_set (w W : World) (B : Nat) (hB : w.heap.size + 6 ≤ B) (y l u : Int) (h : Cv6 w y l W) :
    KeepsFrom B W (W.setCell ⟨w.heap.size + 5, 0, none⟩ (.int .i64 u)) ∧ Below w.heap.size W (W.setCell ⟨w.heap.size + 5, 0, none⟩ (.int .i64 u)) ∧ Cv6 w y u (W.setCell ⟨w.heap.size + 5, 0, none⟩ (.int .i64 u)) := by
  obtain ⟨h0, h4, h5, h6⟩ := h
  have far : ∀ k, k ≠ w.heap.size + 5 → (W.setCell ⟨w.heap.size + 5, 0, none⟩ (.int .i64 u)).heap[k]? = W.heap[k]? := fun k hk => Below.heap_setCell _ _ _ k hk
  have hsz : W.heap.size = (W.setCell ⟨w.heap.size + 5, 0, none⟩ (.int .i64 u)).heap.size := by simp [World.setCell]
  have hbl : Below w.heap.size W (W.setCell ⟨w.heap.size + 5, 0, none⟩ (.int .i64 u)) := ⟨rfl, rfl, rfl, Nat.le_of_eq hsz, fun k hk => far k (by omega)⟩
  exact ⟨⟨Nat.le_of_eq hsz, fun i o hi ho _ => (far i (by omega)).trans ho⟩, hbl, h0.keep (fun k hk => far k (by omega)), (far _ (by omega)).trans h4, blk_set h5 0 _, h6.trans hbl⟩
theorem cv6_end (w W : World) (B : Nat) (hB : w.heap.size + 6 ≤ B) (y l y' m' n' : Int) (o' : Bool) (h : Cv6 w y l W) (r : Code) :
    let X := (((W.setCell ⟨w.heap.size, 0, none⟩ (.int .i64 y')).setCell ⟨w.heap.size + 1, 0, none⟩ (.int .i64 m')).setCell ⟨w.heap.size + 2, 0, none⟩ (.int .i64 n')).setCell ⟨w.heap.size + 3, 0, none⟩ (.bool o')
    KeepsFrom B W X.drew ∧ Below w.heap.size W X.drew ∧ SameZ (fun _ => False) W X.drew ∧ r = r ∧ Res4 w.heap.size y' m' n' o' X.drew ∧ Below w.heap.size w X.drew := by
  intro X
  obtain ⟨h0, far, hsz, ho, ht, hu⟩ := res_store W w.heap.size 0 0 0 y' m' n' false o' h.1
  have hbl : Below w.heap.size W X.drew := ⟨ho, ht, hu, Nat.le_of_eq hsz, fun k hk => far k (by omega) (by omega) (by omega) (by omega)⟩
  exact ⟨⟨Nat.le_of_eq hsz, fun i o hi ho' _ => (far i (by omega) (by omega) (by omega) (by omega)).trans ho'⟩, hbl, fun _ hb => hb.elim, rfl, h0, h.2.2.2.trans hbl⟩
abbrev storeX (W : World) (S : Nat) (y m n : Int) (o : Bool) : World := (((W.setCell ⟨S, 0, none⟩ (.int .i64 y)).setCell ⟨S + 1, 0, none⟩ (.int .i64 m)).setCell ⟨S + 2, 0, none⟩ (.int .i64 n)).setCell ⟨S + 3, 0, none⟩ (.bool o)
def cellN (W : World) (a : Addr) : Nat := match W.cell? a with | some (.int _ y) => y.toNat | _ => 0
theorem cellN_of {W : World} {a : Addr} {y : Int} (h : W.cell? a = some (.int .i64 y)) : cellN W a = y.toNat := by unfold cellN; rw [h]
set_option maxRecDepth 100000 in
set_option maxHeartbeats 8000000 in
theorem civil_calls (n : Int) (w : World) (hn0 : -719162 ≤ n) (hn1 : n ≤ 2932896) :
    Calls Tryz.prog 43 #[.int .i64 n] w fun e w' => e = .returned (.tuple #[.int .i64 (civP n).1, .int .i64 (civP n).2.1, .int .i64 (civP n).2.2.1, .bool (civP n).2.2.2]) ∧ Below w.heap.size w w' := by
  have e1 : decide (n < -719162) = false := decide_eq_false (by omega)
  have e2 : decide (2932896 < n) = false := decide_eq_false (by omega)
  have w1 : IntKind.i64.wrap (n + 719162) = n + 719162 := by rw [i64_w]; simp only [wrap64]; omega
  have w2 : IntKind.i64.wrap ((n + 719162) * 400) = (n + 719162) * 400 := by rw [i64_w]; simp only [wrap64]; omega
  have t1 : Int.tdiv ((n + 719162) * 400) 146097 = (n + 719162) * 400 / 146097 := Int.tdiv_eq_ediv_of_nonneg (by omega)
  obtain ⟨e0, he0⟩ : ∃ e, (n + 719162) * 400 / 146097 = e := ⟨_, rfl⟩
  have he1 : 0 ≤ e0 ∧ e0 ≤ 10000 := by omega
  rw [he0] at t1
  have w3 : IntKind.i64.wrap (e0 + 1) = e0 + 1 := by rw [i64_w]; simp only [wrap64]; omega
  have w4 : IntKind.i64.wrap e0 = e0 := by rw [i64_w]; simp only [wrap64]; omega
  have HV := Aside0.mk (show Cv5 w (e0 + 1) (((((w.alloc (.cells #[.int .i64 0] 3)).alloc (.cells #[.int .i64 0] 3)).alloc (.cells #[.int .i64 0] 3)).alloc (.cells #[.bool false] 4)).alloc (.cells #[.int .i64 (e0 + 1)] 3)) from by
    refine ⟨(res_made w).keep (fun k hk => ?_), ?_, by simp, below_alloc (below_alloc (below_alloc (below_alloc (below_alloc (Below.refl _ _) _) _) _) _) _⟩
    · exact Below.heap_alloc _ _ _ (by simp; omega)
    · have := heap_alloc_new ((((w.alloc (.cells #[.int .i64 0] 3)).alloc (.cells #[.int .i64 0] 3)).alloc (.cells #[.int .i64 0] 3)).alloc (.cells #[.bool false] 4)) (.cells #[.int .i64 (e0 + 1)] 3)
      rw [World.size_alloc, World.size_alloc, World.size_alloc, World.size_alloc] at this
      exact this)
  refine (callsIn_wide (n := 51)).1 ?_
  refine callsIn_of_wp_marks Tryz.func43 rfl trivial ?_ rfl
  simp only [Tryz.ntmps43, List.size_toArray, List.length_cons, List.length_nil, Nat.reduceAdd, Nat.reduceSub, Array.replicate_succ, Array.replicate_zero, List.push_toArray, List.append_toArray, List.nil_append, List.cons_append]
  gi_wp2
  clear w1 w2 w3 w4 t1 he0 e1 e2
  try rw [show w.heap.size + 1 + 1 + 1 + 1 = w.heap.size + 4 from rfl]
  try rw [show w.heap.size + 1 + 1 + 1 = w.heap.size + 3 from rfl]
  try rw [show w.heap.size + 1 + 1 = w.heap.size + 2 from rfl]
  obtain ⟨V, hVe⟩ : ∃ V, (((((w.alloc (.cells #[.int .i64 0] 3)).alloc (.cells #[.int .i64 0] 3)).alloc (.cells #[.int .i64 0] 3)).alloc (.cells #[.bool false] 4)).alloc (.cells #[.int .i64 (e0 + 1)] 3)) = V := ⟨_, rfl⟩
  rw [hVe] at HV ⊢
  clear hVe
  gi_loopw [21] (fun _ wr => ∃ y : Int, 1 ≤ y ∧ y ≤ 10001 ∧ Aside0 (Cv5 w y wr)) (fun _ wr => cellN wr ⟨w.heap.size + 4, 0, none⟩)
  case atStart => exact ⟨e0 + 1, by omega, by omega, HV⟩
  case round =>
    clear HV
    obtain ⟨y, hy1, hy2, HC⟩ := hrel
    have hc := HC.out.cell.1
    have hm0 := cellN_of hc
    gi_wp2
    gi_at_call 61
    refine (begins_in y hy1 (by omega) _).mono ?_
    rintro e w1 ⟨rfl, hd⟩
    have HC1 := Aside0.mk (HC.out.drawn hd)
    have hc1 := HC1.out.cell.1
    have hf1 := HC1.out.cell.2
    clear hd hc
    by_cases hlt : n < bgP y
    · have e1 : decide (n < bgP y) = true := decide_eq_true hlt
      have hy3 : 2 ≤ y := by
        refine Classical.byContradiction fun hc => ?_
        have : y = 1 := by omega
        subst this
        have : bgP 1 = -719162 := by decide
        omega
      have w1' : IntKind.i64.wrap (y - 1) = y - 1 := by rw [i64_w]; simp only [wrap64]; omega
      have HS := Aside0.mk (HC1.out.set (y - 1))
      have hm1 := cellN_of HS.out.cell.1
      gi_wp2
      refine ⟨⟨y - 1, by omega, by omega, HS⟩, ?_⟩
      show cellN _ _ < cellN _ _
      rw [hm1, hm0]
      omega
    · have e1 : decide (n < bgP y) = false := decide_eq_false hlt
      have hy4 : y ≤ 9999 := by unfold bgP at hlt; omega
      clear hm0
      gi_wp2
      gi_loopw [27] (fun _ wr => ∃ z : Int, 1 ≤ z ∧ z ≤ 9999 ∧ bgP z ≤ n ∧ Aside0 (Cv5 w z wr)) (fun _ wr => 20000 - cellN wr ⟨w.heap.size + 4, 0, none⟩)
      case atStart => exact ⟨y, hy1, hy4, by omega, HC1⟩
      case round =>
        clear HC HC1 hc1 hf1 e1 hlt hy1 hy2 hy4
        obtain ⟨z, hz1, hz4, hlo, HC⟩ := hrel
        have hc := HC.out.cell.1
        have hm0 := cellN_of hc
        have w1' : IntKind.i64.wrap (z + 1) = z + 1 := by rw [i64_w]; simp only [wrap64]; omega
        gi_wp2
        gi_at_call 61
        refine (begins_in (z + 1) (by omega) (by omega) _).mono ?_
        rintro e w2 ⟨rfl, hd⟩
        have HC1 := Aside0.mk (HC.out.drawn hd)
        have hc1 := HC1.out.cell.1
        have hf1 := HC1.out.cell.2
        clear hd hc
        by_cases hle : bgP (z + 1) ≤ n
        · have e1 : decide (bgP (z + 1) ≤ n) = true := decide_eq_true hle
          have hz5 : z + 1 ≤ 9999 := by unfold bgP at hle; omega
          have HS := Aside0.mk (HC1.out.set (z + 1))
          have hm1 := cellN_of HS.out.cell.1
          gi_wp2
          refine ⟨⟨z + 1, by omega, hz5, hle, HS⟩, ?_⟩
          show 20000 - cellN _ _ < 20000 - cellN _ _
          rw [hm1, hm0]
          omega
        · have e1 : decide (bgP (z + 1) ≤ n) = false := decide_eq_false hle
          clear hm0
          have hyF : z = yearF n := year_unique n z (yearF n) hz1 (yearF_spec n hn0 hn1).1 hlo (by omega) (yearF_spec n hn0 hn1).2.2.1 (yearF_spec n hn0 hn1).2.2.2
          have hciv : civP n = (z, monGo (mon (lp z)) (n - bgP z)) := by unfold civP; rw [if_neg (by omega), ← hyF]
          have HCV := Aside0.mk hciv
          have HYR := Aside0.mk (bgP_step z hz1)
          clear hyF hciv
          gi_wp2
          gi_at_call 61
          with_reducible refine (begins_in z hz1 (by omega) _).mono ?_
          rintro e w3 ⟨rfl, hd⟩
          have HC3 := Aside0.mk (HC1.out.drawn hd)
          clear hd hc1 hf1
          have hc3 := HC3.out.cell.1
          have hL0 : IntKind.i64.wrap (n - bgP z) = n - bgP z := by rw [i64_w]; simp only [wrap64]; unfold bgP; omega
          have hs3 : w3.heap.size = w.heap.size + 5 := HC3.out.2.2.1
          gi_wp2
          gi_at_call 62
          with_reducible refine (months_made _ _ _).mono ?_
          rintro e w' ⟨rfl, rfl⟩
          gi_wp2
          obtain ⟨V2, hV2⟩ : ∃ V2, (w3.alloc (.cells #[.int .i64 (n - bgP z)] 3)).alloc (.cells #[.int .i64 z] 3) = V2 := ⟨_, rfl⟩
          have hCv : Cv6 w z (n - bgP z - sumL []) V2 := by
            rw [← hV2, show sumL [] = 0 from rfl, Int.sub_zero]
            refine ⟨HC3.out.1.keep (fun k hk => ?_), blk_alloc (blk_alloc HC3.out.2.1 _) _, ?_, below_alloc (below_alloc HC3.out.2.2.2 _) _⟩
            · exact (Below.heap_alloc _ _ _ (by simp; omega)).trans (Below.heap_alloc _ _ _ (by omega))
            · have := heap_alloc_new w3 (.cells #[.int .i64 (n - bgP z)] 3)
              rw [hs3] at this
              exact blk_alloc this _
          have q2 : V2.heap[w.heap.size + 6]? = some (.cells #[.int .i64 z] 3 (0, 0)) := by
            have := heap_alloc_new (w3.alloc (.cells #[.int .i64 (n - bgP z)] 3)) (.cells #[.int .i64 z] 3)
            rw [World.size_alloc, hs3] at this
            rw [← hV2]
            exact this
          have hz2 : V2.heap.size = w.heap.size + 7 := by rw [← hV2]; simp [hs3]
          rw [hV2]
          try rw [show w.heap.size + 5 + 1 = w.heap.size + 6 from rfl]
          clear hV2 hs3 HC3 hc3 hL0 HC1 HC e1
          obtain ⟨L0, hL0⟩ : ∃ L0, n - bgP z = L0 := ⟨_, rfl⟩
          have hL1 : 0 ≤ L0 ∧ L0 < sumL (mon (lp z)) := by have := HYR.out; omega
          rw [hL0] at hCv HCV ⊢
          obtain ⟨R, hR⟩ : ∃ R, monGo (mon (lp z)) L0 = R := ⟨_, rfl⟩
          rw [hR] at HCV
          have HL1 := Aside0.mk hL1
          have HRR := Aside0.mk hR
          clear hL1 hR HYR hle w1'
          refine range_z (n₀ := w.heap.size) (Z := fun _ => False) (gf := 84) (lb := #[.pointer (some ⟨w.heap.size + 6, 0, none⟩)]) rfl (enters_of Tryz.func84 (by kernel_rfl) rfl) (by omega) (fun b hb => hb.elim)
            (months_z z w.heap.size (w.heap.size + 6) V2 (by omega) q2) (fun _ => rfl) (fun pre W => (monGo ((mon (lp z)).drop pre.length) (L0 - sumL pre) = R ∧ 0 ≤ L0 - sumL pre) ∧ Cv6 w z (L0 - sumL pre) W) (fun c pre W => c = .ret ∧ Res4 w.heap.size z R.1 R.2.1 R.2.2 W ∧ Below w.heap.size w W)
            (cv6_own w _ (by omega) z (fun pre => L0 - sumL pre) (fun pre => monGo ((mon (lp z)).drop pre.length) (L0 - sumL pre) = R ∧ 0 ≤ L0 - sumL pre)) (fun c => res_own w.heap.size _ (by omega) z R.1 R.2.1 R.2.2 w rfl (fun _ => c = .ret)) ⟨⟨by rw [show sumL [] = 0 from rfl, Int.sub_zero]; exact HRR.out, by rw [show sumL [] = 0 from rfl]; have := HL1.out; omega⟩, hCv⟩
            (fun x a' _ => a' = { tmps := #[.int .i64 n, undef, .pointer (some ⟨w.heap.size, 0, none⟩), .pointer (some ⟨w.heap.size + 1, 0, none⟩), .pointer (some ⟨w.heap.size + 2, 0, none⟩), .pointer (some ⟨w.heap.size + 3, 0, none⟩), .pointer (some ⟨w.heap.size + 4, 0, none⟩), .pointer (some ⟨w.heap.size + 5, 0, none⟩), .int .i64 x.1, .int .i64 x.2, .int .i64 n,
              .bool false, .bool false, .int .i64 n, .bool false, .bool false, .int .i64 n, .int .i64 (n + 719162), .int .i64 ((n + 719162) * 400), .int .i64 e0, .int .i64 (e0 + 1), .int .i64 y, .int .i64 (bgP y), .int .i64 n, .bool false, u25, u26, .int .i64 z, .int .i64 (z + 1), .int .i64 (bgP (z + 1)), .int .i64 n, .bool false, u32, u33, .int .i64 n, .int .i64 z, .int .i64 (bgP z), .int .i64 L0, .int .i64 z, .func (.func 84) #[] #[.pointer (some ⟨w.heap.size + 6, 0, none⟩)], .int .i64 x.1, .int .i64 x.2,
              undef, undef, undef, undef, undef, undef, undef, undef, undef, undef], defers := [] }) (fun _ _ _ _ _ _ hs _ _ => hs) ?assign ?body ?done ?stop
          case assign =>
            intro l pre x W K hI hpx hW hK
            gi_wp2
            refine hK _ _ (KeepsFrom.refl _ _) (Below.refl _ _) (fun _ _ => rfl) hI (by simp)
          case body =>
            rintro l pre x a' W ⟨⟨hgo, hle0⟩, hC⟩ hpx hWs rfl
            obtain ⟨hp1, hx1, hlt12, hx2, hx3⟩ := mon_at (lp z) pre x hpx
            have hdrop : (mon (lp z)).drop pre.length = x :: (mon (lp z)).drop (pre.length + 1) := by
              obtain ⟨s, hs⟩ := hpx
              rw [← hs]
              simp
            rw [hdrop] at hgo
            have hsm := sumL_take (lp z) pre.length (by omega)
            rw [← hp1] at hsm
            have hlm : sumL (mon (lp z)) ≤ 366 := (sumL_take (lp z) 12 (Nat.le_refl _)).2
            have hL2 := HL1.out
            obtain ⟨lv, hlv⟩ : ∃ lv, L0 - sumL pre = lv := ⟨_, rfl⟩
            have hlv2 : 0 ≤ lv ∧ lv ≤ 366 := by omega
            rw [hlv] at hgo hC hle0
            obtain ⟨⟨r0, r1, r2, r3⟩, g0, g1, g2, g3⟩ := hC.1.cells
            have hc4 : W.cell? ⟨w.heap.size + 4, 0, none⟩ = some (.int .i64 z) := (blk_cell hC.2.1 0).trans rfl
            have hc5 : W.cell? ⟨w.heap.size + 5, 0, none⟩ = some (.int .i64 lv) := (blk_cell hC.2.2.1 0).trans rfl
            have hf5 := blk_frozen hC.2.2.1 0
            have HCC := Aside0.mk hC
            have HLV := Aside0.mk hlv
            have HPX := Aside0.mk hdrop
            clear hC hpx hp1 hdrop hsm hlm hL2 hlv hx1
            have w5 : IntKind.i64.wrap (lv + 1) = lv + 1 := by rw [i64_w]; simp only [wrap64]; omega
            have w6 : IntKind.i64.wrap (lv - x.2) = lv - x.2 := by rw [i64_w]; simp only [wrap64]; omega
            by_cases hlt2 : lv < x.2
            · have e3 : decide (lv < x.2) = true := decide_eq_true hlt2
              have hRv : R = (x.1, lv + 1, true) := by rw [← hgo]; unfold monGo; rw [if_pos hlt2]
              have HRV := Aside0.mk hRv
              have HGO := Aside0.mk hgo
              clear hRv hgo
              gi_wp2
              have mixed : Tryz.prog.follows .mixedOrders = true := by kernel_rfl
              have HEND : Aside0 (KeepsFrom (w.heap.size + 7) W (storeX W w.heap.size z x.1 (lv + 1) true).drew ∧ Below w.heap.size W (storeX W w.heap.size z x.1 (lv + 1) true).drew ∧ SameZ (fun _ => False) W (storeX W w.heap.size z x.1 (lv + 1) true).drew ∧ Code.ret = Code.ret ∧ Res4 w.heap.size z R.1 R.2.1 R.2.2 (storeX W w.heap.size z x.1 (lv + 1) true).drew ∧ Below w.heap.size w (storeX W w.heap.size z x.1 (lv + 1) true).drew) :=
                ⟨by rw [HRV.out]; exact cv6_end w W (w.heap.size + 7) (by omega) z lv z x.1 (lv + 1) true HCC.out .ret⟩
              obtain ⟨S, hS⟩ : ∃ S, w.heap.size = S := ⟨_, rfl⟩
              rw [hS] at r0 r1 r2 r3 g0 g1 g2 g3 hc4 hc5 hf5 HEND ⊢
              clear HLV HPX HCC HRV HGO hle0 hlv2 hlt2 e3 hx2 hx3 hlt12 hWs w6
              refine wpIn_mono (Q := fun e _ W' => e = .normal ∧ W' = (storeX W S z x.1 (lv + 1) true).drew) ?reg ?fin
              case reg =>
                gi_region_o
                all_goals exact ⟨rfl, rfl⟩
              case fin =>
                rintro e a2 W2 ⟨rfl, rfl⟩
                gi_wp2
                exact ⟨HEND.out.1, HEND.out.2.1, HEND.out.2.2.1, rfl, HEND.out.2.2.2.2⟩
            · have e3 : decide (lv < x.2) = false := decide_eq_false hlt2
              have hgo2 : monGo ((mon (lp z)).drop (pre.length + 1)) (lv - x.2) = R := by rw [← hgo]; conv => rhs; unfold monGo; rw [if_neg hlt2]
              have HGO := Aside0.mk hgo2
              have HW := Aside0.mk (cv6_set w W (w.heap.size + 7) (by omega) z lv (lv - x.2) HCC.out)
              clear hgo hgo2
              gi_wp2
              refine ⟨HW.out.1, HW.out.2.1, fun _ hb => hb.elim, ⟨?_, ?_⟩, ?_⟩
              · rw [sumL_snoc, List.length_append, List.length_singleton, show L0 - (sumL pre + x.2) = lv - x.2 by have := HLV.out; omega]
                exact HGO.out
              · rw [sumL_snoc]; have := HLV.out; omega
              · rw [sumL_snoc, show L0 - (sumL pre + x.2) = lv - x.2 by have := HLV.out; omega]
                exact HW.out.2.2
          case done =>
            rintro D W hD ⟨⟨_, hge⟩, _⟩ hK
            have := HL1.out
            omega
          case stop =>
            rintro D c pre W hD hpre ⟨rfl, hRes, hBl⟩ hK
            have HRS := Aside0.mk hRes
            have HBl := Aside0.mk hBl
            clear hRes hBl
            gi_wp2
            refine ⟨by simp, .inl ⟨_, _, rfl, run_takeDeferred hK, ?_⟩⟩
            have hk : Res4 w.heap.size z R.1 R.2.1 R.2.2 (W.putObj D (.deferred none)) := HRS.out.keep (fun k hk => World.putObj_heap_other (by omega))
            exact ⟨_, results43 _ _ w.heap.size z R.1 R.2.1 R.2.2 rfl rfl rfl rfl hk.1 hk.2.1 hk.2.2.1 hk.2.2.2, by rw [HCV.out], HBl.out.trans (below_put _ (by omega))⟩
set_option maxRecDepth 100000 in
set_option maxHeartbeats 4000000 in
theorem civil_out (n : Int) (w : World) (h : n < -719162 ∨ 2932896 < n) :
    Calls Tryz.prog 43 #[.int .i64 n] w fun e w' => e = .returned (.tuple #[.int .i64 0, .int .i64 0, .int .i64 0, .bool false]) ∧ Below w.heap.size w w' := by
  have HR := Aside0.mk (res_made w)
  have HB := Aside0.mk (below_alloc (below_alloc (below_alloc (below_alloc (Below.refl w.heap.size w) (.cells #[.int .i64 0] 3)) (.cells #[.int .i64 0] 3)) (.cells #[.int .i64 0] 3)) (.cells #[.bool false] 4))
  refine (callsIn_wide (n := 51)).1 ?_
  refine callsIn_of_wp_marks Tryz.func43 rfl trivial ?_ rfl
  simp only [Tryz.ntmps43, List.size_toArray, List.length_cons, List.length_nil, Nat.reduceAdd, Nat.reduceSub, Array.replicate_succ, Array.replicate_zero, List.push_toArray, List.append_toArray, List.nil_append, List.cons_append]
  by_cases h1 : n < -719162
  · have e1 : decide (n < -719162) = true := decide_eq_true h1
    gi_wp2
    exact ⟨_, results43 _ _ w.heap.size 0 0 0 false rfl rfl rfl rfl HR.out.1 HR.out.2.1 HR.out.2.2.1 HR.out.2.2.2, rfl, HB.out⟩
  · have e1 : decide (n < -719162) = false := decide_eq_false h1
    have e2 : decide (2932896 < n) = true := decide_eq_true (by omega)
    gi_wp2
    exact ⟨_, results43 _ _ w.heap.size 0 0 0 false rfl rfl rfl rfl HR.out.1 HR.out.2.1 HR.out.2.2.1 HR.out.2.2.2, rfl, HB.out⟩
def date_Civil.f (a0 : Int) : Option (Int × Int × Int × Bool) := some (civP a0)
theorem date_Civil.calls (a0 : Int) (r1 : Int) (r2 : Int) (r3 : Int) (r4 : Bool) (w : World) (h : date_Civil.f a0 = some (r1, r2, r3, r4)) :
    Calls Tryz.prog 43 #[.int .i64 a0] w fun e w' => e = .returned (.tuple #[.int .i64 r1, .int .i64 r2, .int .i64 r3, .bool r4]) ∧ Below w.heap.size w w' := by
  have h' : civP a0 = (r1, r2, r3, r4) := Option.some.inj h
  by_cases hc : a0 < -719162 ∨ 2932896 < a0
  · have := civil_out a0 w hc
    rw [show civP a0 = (0, 0, 0, false) from if_pos hc] at h'
    cases h'
    exact this
  · have := civil_calls a0 w (by omega) (by omega)
    rwa [h'] at this
end Go.Proofs.YtmajmolbjiahlaaGreatDoor.PD
namespace Go.Proofs.YtmajmolbjiahlaaGreatDoor.PD
open Go.RowKit Go.Shelf Go.Proofs.YtmajmolbjiahlaaGreatDoorW.PrintWords Go.Proofs.YtmajmolbjiahlaaGreatDoorW.PrintLast Go.Proofs.YtmajmolbjiahlaaGreatDoorW.PrintMore
attribute [local go_sem] isSome_setCell Oper.semAt_some wide_fn wide_depth
set_option linter.unusedVariables false
set_option linter.unusedSimpArgs false
theorem tdm (t : Int) : (0 ≤ t → Int.tdiv t 86400 = t / 86400 ∧ Int.tmod t 86400 = t % 86400) ∧ (t < 0 → Int.tdiv t 86400 = -((-t) / 86400) ∧ Int.tmod t 86400 = -((-t) % 86400)) := by
  refine ⟨fun h => ⟨Int.tdiv_eq_ediv_of_nonneg h, Int.tmod_eq_emod_of_nonneg h⟩, fun h => ?_⟩
  constructor
  · rw [show t = -(-t) by omega, Int.neg_tdiv, Int.tdiv_eq_ediv_of_nonneg (by omega)]
    simp
  · rw [show t = -(-t) by omega, Int.neg_tmod, Int.tmod_eq_emod_of_nonneg (by omega)]
    simp
theorem parts_val (t : Int) (h0 : -900000000000 ≤ t) (h1 : t ≤ 900000000000) : date_Parts.f t = some (t / 86400, t % 86400) := by
  obtain ⟨hp, hn⟩ := tdm t
  unfold date_Parts.f date_truth.f
  rcases Int.lt_or_le t 0 with h | h
  · obtain ⟨e1, e2⟩ := hn h
    rw [e1, e2]
    have w0 : wrap64 (-((-t) / 86400)) = -((-t) / 86400) := by simp only [wrap64]; omega
    have w1 : wrap64 (-((-t) % 86400) + 86400) = -((-t) % 86400) + 86400 := by simp only [wrap64]; omega
    rw [w0, w1, Int.tmod_eq_emod_of_nonneg (by omega)]
    by_cases hz : -((-t) % 86400) < 0
    · rw [decide_eq_true hz]
      simp only [if_true, Option.bind_some, wrap64]
      refine congrArg some (Prod.ext ?_ ?_)
      · show _ = _; simp only []; omega
      · show _ = _; simp only []; omega
    · rw [decide_eq_false hz]
      simp only [Bool.false_eq_true, if_false, Option.bind_some, wrap64]
      refine congrArg some (Prod.ext ?_ ?_)
      · show _ = _; simp only []; omega
      · show _ = _; simp only []; omega
  · obtain ⟨e1, e2⟩ := hp h
    rw [e1, e2]
    have w0 : wrap64 (t / 86400) = t / 86400 := by simp only [wrap64]; omega
    have w1 : wrap64 (t % 86400 + 86400) = t % 86400 + 86400 := by simp only [wrap64]; omega
    rw [w0, w1, Int.tmod_eq_emod_of_nonneg (by omega), decide_eq_false (by omega)]
    simp only [Bool.false_eq_true, if_false, Option.bind_some, wrap64]
    refine congrArg some (Prod.ext ?_ ?_)
    · show _ = _; simp only []; omega
    · show _ = _; simp only []; omega
def onsL (o : S32) (s : Int) : Nat → List Int
  | 0 => [o.f0 - o.f1]
  | y + 1 => if o.f3 = true then (if (nthP ((y : Int) + 1) o.f4 o.f5.f0 o.f5.f1).2 = true then (if (nthP ((y : Int) + 1) o.f4 o.f5.f0 o.f5.f1).1 * 86400 + s ≤ o.f0 then [o.f0 - o.f1] else ((nthP ((y : Int) + 1) o.f4 o.f5.f0 o.f5.f1).1 * 86400 + s - o.f1) :: onsL o s y) else onsL o s y) else [o.f0 - o.f1]
theorem onsL_plain (o : S32) (s : Int) (y : Nat) (h : o.f3 = false) : onsL o s y = [o.f0 - o.f1] := by
  cases y with
  | zero => rfl
  | succ y => unfold onsL; rw [if_neg (by simp [h])]
theorem nthP_range (y m n d : Int) : -1000000 ≤ (nthP y m n d).1 ∧ (nthP y m n d).1 ≤ 4000000 := by
  have ha : ∀ (l : List Int) (k : Int), (∀ x ∈ l, -1000000 ≤ x ∧ x ≤ 4000000) → -1000000 ≤ (atL l k).1 ∧ (atL l k).1 ≤ 4000000 := by
    intro l k hl
    unfold atL
    split
    · exact ⟨by decide, by decide⟩
    · rename_i h
      have hk : k.toNat < l.length := by omega
      have : rd l k = l[k.toNat] := by simp [rd, hk]
      show -1000000 ≤ rd l k ∧ rd l k ≤ 4000000
      rw [this]
      exact hl _ (List.getElem_mem hk)
  by_cases hd : d < 0 ∨ 6 < d ∨ n = 0
  · rw [nthP_bad _ _ _ _ hd]; exact ⟨by decide, by decide⟩
  have hw : ∀ x ∈ wdays y m d, -1000000 ≤ x ∧ x ≤ 4000000 := by
    intro x hx
    unfold wdays at hx
    split at hx
    · rename_i hok
      obtain ⟨hin, hF⟩ := days1 y m hok
      have hsm := sumL_take (lp y) (m - 1).toNat (by omega)
      have hFr : -719162 ≤ (daysP y m 1).1 ∧ (daysP y m 1).1 ≤ 3500000 := by rw [hF]; unfold bgP; omega
      have hc := wdays_len y m d (by omega)
      unfold wdays at hc
      rw [if_pos hok, wdL_len] at hc
      unfold wdL at hx
      obtain ⟨k, hk, rfl⟩ := List.mem_map.1 hx
      rw [List.mem_range] at hk
      have ho : 0 ≤ offW (daysP y m 1).1 d ∧ offW (daysP y m 1).1 d ≤ 6 := by unfold offW; omega
      omega
    · cases hx
  unfold nthP
  rw [if_neg hd]
  split
  · exact ha _ _ hw
  · exact ha _ _ hw
def ZO (Ob Yb : Nat) (b : Nat) : Prop := b = Ob ∨ b = Yb
def okO (o : S32) : Prop := inO o.f0 = true ∧ (-86400 < o.f1 ∧ o.f1 < 86400) ∧ (-1000 ≤ o.f5.f0 ∧ o.f5.f0 ≤ 1000)
theorem set_grown (W : World) (g i : Nat) (v : Value) : W.grownBy (W.setCell ⟨g, i, none⟩ v) (some g) := ⟨rfl, rfl, rfl, by simp [World.setCell], fun k _ hk => Below.heap_setCell _ _ _ k (fun e => hk (by rw [e]))⟩
set_option maxRecDepth 100000 in
set_option maxHeartbeats 8000000 in
theorem onsets_in (o : S32) (ho : okO o) (y0 : Nat) (hy0 : y0 ≤ 9999) (l Ob Yb n₀ : Nat) (J Jx : List Int → World → Prop) (W : World) (hJ : OwnZ (ZO Ob Yb) W.heap.size J)
    (hY : ∀ pre x W1, J pre W1 → pre ++ [x] <+: onsL o (o.f0 % 86400) y0 → YieldAt Fence.wide 50 Tryz.prog l #[.int .i64 x] W1 fun e W' => ((e = .returned (.bool true) ∧ J (pre ++ [x]) W') ∨ (e = .returned (.bool false) ∧ Jx (pre ++ [x]) W')) ∧ Below n₀ W1 W' ∧ SameZ (ZO Ob Yb) W1 W' ∧ KeepsFrom W.heap.size W1 W')
    (hO : W.heap[Ob]? = some (.cells (cellsO o) 32 (0, 0))) (hYb : W.heap[Yb]? = some (.cells #[.int .i64 (y0 : Int)] 3 (0, 0))) (hne : Ob ≠ Yb) (h0 : J [] W) :
    CallsIn Fence.wide 51 Tryz.prog 63 #[.func (.yield l) #[] #[], .pointer (some ⟨Ob, 0, none⟩), .pointer (some ⟨Yb, 0, none⟩)] W fun e W' => (∃ v, e = .returned v) ∧ (J (onsL o (o.f0 % 86400) y0) W' ∨ ∃ pre, pre <+: onsL o (o.f0 % 86400) y0 ∧ Jx pre W') := by
  refine callsIn_of_wp Tryz.func63 rfl trivial ?_ rfl
  simp only [Tryz.ntmps63, List.size_toArray, List.length_cons, List.length_nil, Nat.reduceAdd, Nat.reduceSub, Array.replicate_succ, Array.replicate_zero, List.push_toArray, List.append_toArray, List.nil_append, List.cons_append]
  have HYd := Aside0.mk hY
  have HJ := Aside0.mk hJ
  have H0 := Aside0.mk h0
  have HO := Aside0.mk hO
  have HYB := Aside0.mk hYb
  obtain ⟨hin, ho1, ho5⟩ := ho
  have hin' : -62135596800 ≤ o.f0 ∧ o.f0 ≤ 253402300799 := by unfold inO at hin; simpa using hin
  clear hin
  have cO := (atBk hO).1
  clear hY hJ h0 hO hYb
  refine wpIn_wide.2 ?_
  refine wp_scope_straight ?_
  refine (wpIn_wide (n := 51)).1 ?_
  gi_wp2
  gi_at_call 42
  refine (callsIn_wide.2 (date_Parts.calls o.f0 _ _ _ (parts_val o.f0 (by omega) (by omega)))).mono ?_
  rintro e w2 ⟨rfl, hd2⟩
  have hb2 := drawn_below hd2
  have H2 := Aside0.mk (HJ.out.below H0.out hb2)
  have HO2 := Aside0.mk (blk_below HO.out hb2)
  have HY2 := Aside0.mk (blk_below HYB.out hb2)
  clear hb2 hd2 cO
  gi_wp2
  refine wpIn_label ?_
  gi_wp2
  have wof : IntKind.i64.wrap (o.f0 - o.f1) = o.f0 - o.f1 := by rw [i64_w]; simp only [wrap64]; omega
  gi_loopw [15] (fun _ wr => ∃ (pre : List Int) (y : Nat), Aside0 (pre ++ onsL o (o.f0 % 86400) y = onsL o (o.f0 % 86400) y0) ∧ y ≤ 9999 ∧ Aside0 (J pre wr) ∧ Aside0 (wr.heap[Ob]? = some (.cells (cellsO o) 32 (0, 0))) ∧ Aside0 (wr.heap[Yb]? = some (.cells #[.int .i64 (y : Int)] 3 (0, 0)))) (fun _ wr => cellN wr ⟨Yb, 0, none⟩)
  case atStart => exact ⟨[], y0, ⟨rfl⟩, hy0, H2, HO2, HY2⟩
  case round =>
    clear H2 HO2 HY2 H0 HO HYB
    obtain ⟨pre, y, HX, hyl, HJ1, HOr, HYr⟩ := hrel
    obtain ⟨c0, c1, c2, c3, c4, c5, c6⟩ := atBk HOr.out
    have cy : wr.cell? ⟨Yb, 0, none⟩ = some (.int .i64 (y : Int)) := (blk_cell HYr.out 0).trans rfl
    have hm0 := cellN_of cy
    cases hf3 : o.f3 with
    | false =>
      rw [hf3] at c3
      have HF3 := Aside0.mk hf3
      clear hf3 hm0
      have hpx : pre ++ [o.f0 - o.f1] = onsL o (o.f0 % 86400) y0 := by rw [← HX.out, onsL_plain o _ y HF3.out]
      have HPX := Aside0.mk hpx
      obtain ⟨fn, tmps, assign, body, hy, hRd⟩ := HYd.out pre (o.f0 - o.f1) wr HJ1.out (by rw [hpx]; exact List.prefix_refl _)
      have HRr := Aside0.mk hRd
      clear hRd hpx
      gi_wp2
      refine HRr.out.mono ?_
      rintro e W4 ⟨⟨rfl, hJ4⟩ | ⟨rfl, hJx4⟩, hb4, hz4, hab4⟩
      · gi_wp2
        dsimp only [Exit.noGoto]
        refine bodyPost_end (results_none rfl _ _ _) rfl ?_
        exact ⟨⟨_, rfl⟩, .inl (by rw [← HPX.out]; exact hJ4)⟩
      · gi_wp2
        dsimp only [Exit.noGoto]
        refine bodyPost_end (results_none rfl _ _ _) rfl ?_
        exact ⟨⟨_, rfl⟩, .inr ⟨_, by rw [HPX.out]; exact List.prefix_refl _, hJx4⟩⟩
    | true =>
      rw [hf3] at c3
      have HF3 := Aside0.mk hf3
      clear hf3
      cases y with
      | zero =>
        have cy' : wr.cell? ⟨Yb, 0, none⟩ = some (.int .i64 0) := cy
        clear cy hm0
        have hpx : pre ++ [o.f0 - o.f1] = onsL o (o.f0 % 86400) y0 := by rw [← HX.out, show onsL o (o.f0 % 86400) 0 = [o.f0 - o.f1] from rfl]
        have HPX := Aside0.mk hpx
        obtain ⟨fn, tmps, assign, body, hy, hRd⟩ := HYd.out pre (o.f0 - o.f1) wr HJ1.out (by rw [hpx]; exact List.prefix_refl _)
        have HRr := Aside0.mk hRd
        clear hRd hpx
        gi_wp2
        refine HRr.out.mono ?_
        rintro e W4 ⟨⟨rfl, hJ4⟩ | ⟨rfl, hJx4⟩, hb4, hz4, hab4⟩
        · gi_wp2
          dsimp only [Exit.noGoto]
          refine bodyPost_end (results_none rfl _ _ _) rfl ?_
          exact ⟨⟨_, rfl⟩, .inl (by rw [← HPX.out]; exact hJ4)⟩
        · gi_wp2
          dsimp only [Exit.noGoto]
          refine bodyPost_end (results_none rfl _ _ _) rfl ?_
          exact ⟨⟨_, rfl⟩, .inr ⟨_, by rw [HPX.out]; exact List.prefix_refl _, hJx4⟩⟩
      | succ y =>
        have e1 : decide (1 ≤ ((y + 1 : Nat) : Int)) = true := decide_eq_true (by omega)
        have hcast : ((y + 1 : Nat) : Int) = (y : Int) + 1 := by omega
        have HC0 := Aside0.mk hcast
        obtain ⟨u, hu⟩ : ∃ u, ((y + 1 : Nat) : Int) = u := ⟨_, rfl⟩
        rw [hu] at cy e1 hcast hm0
        have hu1 : u = (y : Int) + 1 := hcast
        have HU := Aside0.mk hu1
        have HUU := Aside0.mk hu
        have hub : 1 ≤ u ∧ u ≤ 9999 := by omega
        clear hu hcast hu1
        have hrg := nthP_range u o.f4 o.f5.f0 o.f5.f1
        have HRW := Aside0.mk (show onsL o (o.f0 % 86400) (y + 1) = if (nthP u o.f4 o.f5.f0 o.f5.f1).2 = true then (if (nthP u o.f4 o.f5.f0 o.f5.f1).1 * 86400 + o.f0 % 86400 ≤ o.f0 then [o.f0 - o.f1] else ((nthP u o.f4 o.f5.f0 o.f5.f1).1 * 86400 + o.f0 % 86400 - o.f1) :: onsL o (o.f0 % 86400) y) else onsL o (o.f0 % 86400) y from by rw [HU.out]; exact if_pos HF3.out)
        have HNC := Aside0.mk (fun W => nth_calls u o.f4 o.f5.f0 o.f5.f1 ho5 W)
        obtain ⟨dd, hdd⟩ : ∃ dd, (nthP u o.f4 o.f5.f0 o.f5.f1).1 = dd := ⟨_, rfl⟩
        obtain ⟨ok, hok⟩ : ∃ ok, (nthP u o.f4 o.f5.f0 o.f5.f1).2 = ok := ⟨_, rfl⟩
        rw [hdd, hok] at HRW HNC
        rw [hdd] at hrg
        clear hdd hok
        have w1 : IntKind.i64.wrap (dd * 86400) = dd * 86400 := by rw [i64_w]; simp only [wrap64]; omega
        have w2 : IntKind.i64.wrap (dd * 86400 + o.f0 % 86400) = dd * 86400 + o.f0 % 86400 := by rw [i64_w]; simp only [wrap64]; omega
        have w3 : IntKind.i64.wrap (dd * 86400 + o.f0 % 86400 - o.f1) = dd * 86400 + o.f0 % 86400 - o.f1 := by rw [i64_w]; simp only [wrap64]; omega
        have w4 : IntKind.i64.wrap (u - 1) = u - 1 := by rw [i64_w]; simp only [wrap64]; omega
        gi_wp2
        gi_at_call 64
        refine (callsIn_wide.2 (HNC.out _)).mono ?_
        rintro e w6 ⟨rfl, hb6⟩
        have H6 := Aside0.mk (HJ.out.below HJ1.out hb6)
        have HO6 := Aside0.mk (blk_below HOr.out hb6)
        have HY6 := Aside0.mk (blk_below HYr.out hb6)
        clear hb6 c0 c1 c2 c3 c4 c5 c6 cy
        obtain ⟨c0, c1, c2, c3, c4, c5, c6⟩ := atBk HO6.out
        rw [HUU.out] at HY6
        have cy : w6.cell? ⟨Yb, 0, none⟩ = some (.int .i64 u) := (blk_cell HY6.out 0).trans rfl
        have fy := blk_frozen HY6.out 0
        cases ok with
        | false =>
          have hx : pre ++ onsL o (o.f0 % 86400) y = onsL o (o.f0 % 86400) y0 := by rw [← HX.out, HRW.out, if_neg (by decide)]
          have HXX := Aside0.mk hx
          have HS := Aside0.mk (blk_set HY6.out 0 (.int .i64 (u - 1)))
          have hm1 := cellN_of (show (w6.setCell ⟨Yb, 0, none⟩ (.int .i64 (u - 1))).cell? ⟨Yb, 0, none⟩ = some (.int .i64 (u - 1)) from (blk_cell HS.out 0).trans rfl)
          clear hx
          gi_wp2
          refine ⟨⟨pre, y, HXX, by omega, ⟨HJ.out pre _ _ _ H6.out (set_grown _ _ _ _) (fun r e => .inl (.inr (Option.some.inj e).symm))⟩, ⟨blk_far HO6.out (by exact hne) _⟩, ⟨by have := HS.out; rw [show (y : Int) = u - 1 by have := HU.out; omega]; exact this⟩⟩, ?_⟩
          show cellN _ _ < cellN _ _
          rw [hm1, hm0]
          omega
        | true =>
          by_cases hle : dd * 86400 + o.f0 % 86400 ≤ o.f0
          · have e2 : decide (dd * 86400 + o.f0 % 86400 ≤ o.f0) = true := decide_eq_true hle
            have HLE := Aside0.mk hle
            clear hle hm0
            have hpx : pre ++ [o.f0 - o.f1] = onsL o (o.f0 % 86400) y0 := by rw [← HX.out, HRW.out, if_pos rfl, if_pos HLE.out]
            have HPX := Aside0.mk hpx
            obtain ⟨fn, tmps, assign, body, hy, hRd⟩ := HYd.out pre (o.f0 - o.f1) w6 H6.out (by rw [hpx]; exact List.prefix_refl _)
            have HRr := Aside0.mk hRd
            clear hRd hpx
            gi_wp2
            refine HRr.out.mono ?_
            rintro e W4 ⟨⟨rfl, hJ4⟩ | ⟨rfl, hJx4⟩, hb4, hz4, hab4⟩
            · gi_wp2
              dsimp only [Exit.noGoto]
              refine bodyPost_end (results_none rfl _ _ _) rfl ?_
              exact ⟨⟨_, rfl⟩, .inl (by rw [← HPX.out]; exact hJ4)⟩
            · gi_wp2
              dsimp only [Exit.noGoto]
              refine bodyPost_end (results_none rfl _ _ _) rfl ?_
              exact ⟨⟨_, rfl⟩, .inr ⟨_, by rw [HPX.out]; exact List.prefix_refl _, hJx4⟩⟩
          · have e2 : decide (dd * 86400 + o.f0 % 86400 ≤ o.f0) = false := decide_eq_false hle
            have hx : (pre ++ [dd * 86400 + o.f0 % 86400 - o.f1]) ++ onsL o (o.f0 % 86400) y = onsL o (o.f0 % 86400) y0 := by rw [← HX.out, HRW.out, if_pos rfl, if_neg hle, List.append_assoc]; rfl
            have HXX := Aside0.mk hx
            obtain ⟨fn, tmps, assign, body, hy, hRd⟩ := HYd.out pre (dd * 86400 + o.f0 % 86400 - o.f1) w6 H6.out (by rw [← hx]; exact List.prefix_append _ _)
            have HRr := Aside0.mk hRd
            clear hRd hx hle
            gi_wp2
            refine HRr.out.mono ?_
            rintro e W4 ⟨⟨rfl, hJ4⟩ | ⟨rfl, hJx4⟩, hb4, hz4, hab4⟩
            · have HY4 := Aside0.mk ((hz4 Yb (.inr rfl)).trans HY6.out)
              have HO4 := Aside0.mk ((hz4 Ob (.inl rfl)).trans HO6.out)
              have HJ4 := Aside0.mk hJ4
              have cy4 : W4.cell? ⟨Yb, 0, none⟩ = some (.int .i64 u) := (blk_cell HY4.out 0).trans rfl
              have fy4 := blk_frozen HY4.out 0
              have HS := Aside0.mk (blk_set HY4.out 0 (.int .i64 (u - 1)))
              have hm1 := cellN_of (show (W4.setCell ⟨Yb, 0, none⟩ (.int .i64 (u - 1))).cell? ⟨Yb, 0, none⟩ = some (.int .i64 (u - 1)) from (blk_cell HS.out 0).trans rfl)
              clear hJ4 hb4 hz4 hab4
              gi_wp2
              refine ⟨⟨_, y, HXX, by omega, ⟨HJ.out _ _ _ _ HJ4.out (set_grown _ _ _ _) (fun r e => .inl (.inr (Option.some.inj e).symm))⟩, ⟨blk_far HO4.out (by exact hne) _⟩, ⟨by have := HS.out; rw [show (y : Int) = u - 1 by have := HU.out; omega]; exact this⟩⟩, ?_⟩
              show cellN _ _ < cellN _ _
              rw [hm1, hm0]
              omega
            · gi_wp2
              dsimp only [Exit.noGoto]
              refine bodyPost_ret (results_none rfl _ _ _) rfl ?_
              exact ⟨⟨_, rfl⟩, .inr ⟨_, by rw [← HXX.out]; exact List.prefix_append _ _, hJx4⟩⟩
end Go.Proofs.YtmajmolbjiahlaaGreatDoor.PD
namespace Go.Proofs.YtmajmolbjiahlaaGreatDoor.PD
open Go.RowKit Go.Shelf Go.Proofs.YtmajmolbjiahlaaGreatDoorW.PrintWords Go.Proofs.YtmajmolbjiahlaaGreatDoorW.PrintLast Go.Proofs.YtmajmolbjiahlaaGreatDoorW.PrintMore
attribute [local go_sem] isSome_setCell Oper.semAt_some wide_fn wide_depth
set_option linter.unusedVariables false
set_option linter.unusedSimpArgs false
def yearO (utc : Int) : Nat := if (civP ((utc + 172800) / 86400)).2.2.2 = true then (civP ((utc + 172800) / 86400)).1.toNat else 9999
def onsetP (o : S32) (utc : Int) : Int × Bool :=
  if utc < o.f0 - o.f1 then (0, false) else match (onsL o (o.f0 % 86400) (yearO utc)).find? (fun t => decide (t ≤ utc)) with
    | some t => (t, true)
    | none => (0, false)
theorem okO_of (o : S32) (h : fitO o = true) : okO o := by
  unfold fitO againO winO numO at h
  unfold okO
  simp only [Bool.and_eq_true, decide_eq_true_eq] at h
  obtain ⟨⟨⟨ha, h1⟩, h2⟩, h3⟩ := h
  refine ⟨h3, by omega, ?_⟩
  split at ha
  · simp only [Bool.and_eq_true, decide_eq_true_eq, Bool.not_eq_true', decide_eq_false_iff_not] at ha
    omega
  · simp only [Bool.and_eq_true, decide_eq_true_eq] at ha
    omega
theorem civP_year (n : Int) (h : (civP n).2.2.2 = true) : 1 ≤ (civP n).1 ∧ (civP n).1 ≤ 9999 := by
  unfold civP at h ⊢
  split at h
  · cases h
  · rename_i hc
    rw [if_neg hc]
    have := yearF_spec n (by omega) (by omega)
    exact ⟨this.1, this.2.1⟩
theorem results23 (tmps : Array Value) (w : World) (S : Nat) (t : Int) (o : Bool) (h2 : tmps.getD 4 undef = .pointer (some ⟨S + 2, 0, none⟩)) (h3 : tmps.getD 5 undef = .pointer (some ⟨S + 3, 0, none⟩))
    (c2 : w.heap[S + 2]? = some (.cells #[.int .i64 t] 2 (0, 0))) (c3 : w.heap[S + 3]? = some (.cells #[.bool o] 4 (0, 0))) :
    (results Tryz.f23 tmps).run Tryz.prog w = .ok (.tuple #[.int .i64 t, .bool o]) w := by
  have d2 := (blk_cell c2 0).trans rfl
  have d3 := (blk_cell c3 0).trans rfl
  unfold results
  rw [show Tryz.f23.results = [ResultVar.cell 4 2, .cell 5 4].toArray from rfl, List.mapM_toArray]
  simp only [Sem.run_bind, Sem.run_map, List.mapM_cons, List.mapM_nil, h2, h3]
  simp [asAddr, loadVar, go_sem, d2, d3, Tryz.underlying2, Tryz.underlying4]
theorem find_at {α : Type} (p : α → Bool) (pre : List α) (x : α) (xs : List α) (h : pre ++ [x] <+: xs) (hn : ∀ t ∈ pre, p t = false) (hx : p x = true) : xs.find? p = some x := by
  obtain ⟨s, rfl⟩ := h
  rw [List.append_assoc, List.find?_append, List.find?_eq_none.2 (fun t ht => by simp [hn t ht])]
  simp [hx]
def On (w : World) (utc t : Int) (k : Bool) (W : World) : Prop := (W.heap[w.heap.size + 1]? = some (.cells #[.int .i64 utc] 2 (0, 0)) ∧ W.heap[w.heap.size + 2]? = some (.cells #[.int .i64 t] 2 (0, 0)) ∧ W.heap[w.heap.size + 3]? = some (.cells #[.bool k] 4 (0, 0))) ∧ Below w.heap.size w W
theorem On.below {w W X : World} {utc t : Int} {k : Bool} (h : On w utc t k W) (hb : Below W.heap.size W X) : On w utc t k X :=
  ⟨⟨blk_below h.1.1 hb, blk_below h.1.2.1 hb, blk_below h.1.2.2 hb⟩, h.2.trans (hb.mono h.2.size)⟩
theorem On.cells {w W : World} {utc t : Int} {k : Bool} (h : On w utc t k W) : W.cell? ⟨w.heap.size + 1, 0, none⟩ = some (.int .i64 utc) ∧ (W.cell? ⟨w.heap.size + 2, 0, none⟩ = some (.int .i64 t) ∧ W.cell? ⟨w.heap.size + 3, 0, none⟩ = some (.bool k)) ∧ W.frozen? ⟨w.heap.size + 2, 0, none⟩ = false ∧ W.frozen? ⟨w.heap.size + 3, 0, none⟩ = false :=
  ⟨(blk_cell h.1.1 0).trans rfl, ⟨(blk_cell h.1.2.1 0).trans rfl, (blk_cell h.1.2.2 0).trans rfl⟩, blk_frozen h.1.2.1 0, blk_frozen h.1.2.2 0⟩
theorem On.store {w W : World} {utc t : Int} {k : Bool} (h : On w utc t k W) (t' : Int) (k' : Bool) (B G : Nat) (hB : w.heap.size + 4 ≤ B) (hG : w.heap.size + 4 ≤ G) :
    let X := (W.setCell ⟨w.heap.size + 2, 0, none⟩ (.int .i64 t')).setCell ⟨w.heap.size + 3, 0, none⟩ (.bool k')
    KeepsFrom B W X ∧ Below w.heap.size W X ∧ SameZ (ZO G (G + 1)) W X ∧ On w utc t' k' X := by
  intro X
  have far : ∀ q, q ≠ w.heap.size + 2 → q ≠ w.heap.size + 3 → X.heap[q]? = W.heap[q]? := fun q n2 n3 => (Below.heap_setCell _ _ _ q n3).trans (Below.heap_setCell _ _ _ q n2)
  have hsz : W.heap.size = X.heap.size := by simp [X, World.setCell]
  have hbl : Below w.heap.size W X := ⟨rfl, rfl, rfl, Nat.le_of_eq hsz, fun q hq => far q (by omega) (by omega)⟩
  refine ⟨⟨Nat.le_of_eq hsz, fun i o hi ho _ => (far i (by omega) (by omega)).trans ho⟩, hbl, fun b hb => far b (by rcases hb with rfl | rfl <;> omega) (by rcases hb with rfl | rfl <;> omega), ⟨(far _ (by omega) (by omega)).trans h.1.1, ?_, ?_⟩, h.2.trans hbl⟩
  · exact (Below.heap_setCell _ _ _ _ (by show w.heap.size + 2 ≠ w.heap.size + 3; omega)).trans (blk_set h.1.2.1 0 _)
  · exact blk_set ((Below.heap_setCell _ _ _ _ (by show w.heap.size + 3 ≠ w.heap.size + 2; omega)).trans h.1.2.2) 0 _
theorem on_own {β : Type} (w : World) (B G : Nat) (hB : w.heap.size + 4 ≤ B) (hG : w.heap.size + 4 ≤ G) (utc t : Int) (k : Bool) (p : β → Prop) : OwnZ (ZO G (G + 1)) B (fun (s : β) W => p s ∧ On w utc t k W) := by
  rintro s X Y row ⟨hp, ⟨h1, h2, h3⟩, h7⟩ hg hr
  have hrow : ∀ r, row = some r → w.heap.size + 4 ≤ r := fun r e => by
    rcases hr r e with h | h
    · rcases h with rfl | rfl <;> omega
    · have := h.1; omega
  have key : ∀ q o', q < w.heap.size + 4 → X.heap[q]? = some o' → Y.heap[q]? = some o' := fun q o' hq h => (hg.block q (Array.getElem?_eq_some_iff.1 h).1 (fun e => by have := hrow q e.symm; omega)).trans h
  exact ⟨hp, ⟨key _ _ (by omega) h1, key _ _ (by omega) h2, key _ _ (by omega) h3⟩, h7.grown hg h7.size (fun q e => by have := hrow q e; omega)⟩
set_option maxRecDepth 100000 in
set_option maxHeartbeats 1600000 in
theorem onsets_made (n : Nat) (o : S32) (y : Int) (w : World) :
    CallsIn Fence.wide n Tryz.prog 44 #[encO o, .int .i64 y] w fun e w' => e = .returned (.func (.func 63) #[] #[.pointer (some ⟨w.heap.size, 0, none⟩), .pointer (some ⟨w.heap.size + 1, 0, none⟩)]) ∧ w' = (w.alloc (.cells (cellsO o) 32)).alloc (.cells #[.int .i64 y] 3) := by
  refine callsIn_of_wp Tryz.func44 rfl trivial ?_ rfl
  simp only [Tryz.ntmps44, List.size_toArray, List.length_cons, List.length_nil, Nat.reduceAdd, Nat.reduceSub, Array.replicate_succ, Array.replicate_zero, List.push_toArray, List.append_toArray, List.nil_append, List.cons_append]
  gi_wp2
  go_ret
  exact ⟨rfl, rfl⟩
set_option maxRecDepth 100000 in
set_option maxHeartbeats 8000000 in
theorem onset_calls (o : S32) (utc : Int) (ho : okO o) (hu : inO utc = true) (w : World) :
    Calls Tryz.prog 23 #[encO o, .int .i64 utc] w fun e w' => e = .returned (.tuple #[.int .i64 (onsetP o utc).1, .bool (onsetP o utc).2]) ∧ Below w.heap.size w w' := by
  have hu' : -62135596800 ≤ utc ∧ utc ≤ 253402300799 := by unfold inO at hu; simpa using hu
  have hin' : -62135596800 ≤ o.f0 ∧ o.f0 ≤ 253402300799 := by have := ho.1; unfold inO at this; simpa using this
  have ho1 := ho.2.1
  have HOK := Aside0.mk ho
  clear ho hu
  have w1 : IntKind.i64.wrap (utc + 172800) = utc + 172800 := by rw [i64_w]; simp only [wrap64]; omega
  have w2 : IntKind.i64.wrap (o.f0 - o.f1) = o.f0 - o.f1 := by rw [i64_w]; simp only [wrap64]; omega
  have HV : Aside0 (On w utc 0 false ((((w.alloc (.cells (cellsO o) 32)).alloc (.cells #[.int .i64 utc] 2)).alloc (.cells #[.int .i64 0] 2)).alloc (.cells #[.bool false] 4))) := ⟨⟨by
      have := heap_alloc_new (w.alloc (.cells (cellsO o) 32)) (.cells #[.int .i64 utc] 2)
      rw [World.size_alloc] at this
      exact blk_alloc (blk_alloc this _) _, by
      have := heap_alloc_new ((w.alloc (.cells (cellsO o) 32)).alloc (.cells #[.int .i64 utc] 2)) (.cells #[.int .i64 0] 2)
      rw [World.size_alloc, World.size_alloc] at this
      exact blk_alloc this _, by
      have := heap_alloc_new (((w.alloc (.cells (cellsO o) 32)).alloc (.cells #[.int .i64 utc] 2)).alloc (.cells #[.int .i64 0] 2)) (.cells #[.bool false] 4)
      rw [World.size_alloc, World.size_alloc, World.size_alloc] at this
      exact this⟩, below_alloc (below_alloc (below_alloc (below_alloc (Below.refl _ _) _) _) _) _⟩
  have HKO := Aside0.mk (blk_alloc (blk_alloc (blk_alloc (heap_alloc_new w (.cells (cellsO o) 32)) (.cells #[.int .i64 utc] 2)) (.cells #[.int .i64 0] 2)) (.cells #[.bool false] 4))
  refine (callsIn_wide (n := 51)).1 ?_
  refine callsIn_of_wp_marks Tryz.func23 rfl trivial ?_ rfl
  simp only [Tryz.ntmps23, List.size_toArray, List.length_cons, List.length_nil, Nat.reduceAdd, Nat.reduceSub, Array.replicate_succ, Array.replicate_zero, List.push_toArray, List.append_toArray, List.nil_append, List.cons_append]
  gi_wp2
  gi_at_call 42
  refine (callsIn_wide.2 (date_Parts.calls (utc + 172800) _ _ _ (parts_val (utc + 172800) (by omega) (by omega)))).mono ?_
  rintro e w2' ⟨rfl, hd2⟩
  have hb2 := drawn_below hd2
  have HV2 := Aside0.mk (HV.out.below hb2)
  have HK2 := Aside0.mk (blk_below HKO.out hb2)
  clear hb2 hd2
  obtain ⟨D, hD⟩ : ∃ D, (utc + 172800) / 86400 = D := ⟨_, rfl⟩
  rw [hD]
  gi_wp2
  gi_at_call 43
  obtain ⟨cy, cm, cd, ck, hC⟩ : ∃ a b c d, civP D = (a, b, c, d) := ⟨_, _, _, _, rfl⟩
  refine (callsIn_wide.2 (date_Civil.calls D cy cm cd ck _ (by show some (civP D) = _; rw [hC]))).mono ?_
  rintro e w3 ⟨rfl, hb3⟩
  have HV3 := Aside0.mk (HV2.out.below hb3)
  have HK3 := Aside0.mk (blk_below HK2.out hb3)
  clear hb3 HV2 HK2 HV HKO
  have hyr : ck = true → 1 ≤ cy ∧ cy ≤ 9999 := fun h => by have := civP_year D (by rw [hC]; exact h); rwa [hC] at this
  have hYO : yearO utc = if ck = true then cy.toNat else 9999 := by unfold yearO; rw [hD, hC]
  have HYO := Aside0.mk hYO
  obtain ⟨rem, hrem⟩ : ∃ rem, (utc + 172800) % 86400 = rem := ⟨_, rfl⟩
  rw [hrem]
  clear hC hYO hrem hD w1
  cases ck with
  | true =>
    have hcy := hyr rfl
    clear hyr
    obtain ⟨c0, c1, c2, c3, c4, c5, c6⟩ := atBk HK3.out
    obtain ⟨u1, ⟨u2, u3⟩, u4, u5⟩ := HV3.out.cells
    have HYV : Aside0 ((yearO utc : Int) = cy) := ⟨by rw [HYO.out]; rw [if_pos rfl]; omega⟩
    have hyl : yearO utc ≤ 9999 := by rw [HYO.out]; rw [if_pos rfl]; omega
    have HYL := Aside0.mk hyl
    clear hyl HYO
    by_cases hlt : utc < o.f0 - o.f1
    · have e1 : decide (utc < o.f0 - o.f1) = true := decide_eq_true hlt
      have hP : onsetP o utc = (0, false) := if_pos hlt
      have HPa := Aside0.mk hP
      have HST := Aside0.mk (HV3.out.store 0 false (w.heap.size + 4) (w.heap.size + 4) (Nat.le_refl _) (Nat.le_refl _))
      clear hlt hP
      gi_wp2
      exact ⟨_, results23 _ _ w.heap.size 0 false rfl rfl HST.out.2.2.2.1.2.1 HST.out.2.2.2.1.2.2, by rw [HPa.out], HST.out.2.2.2.2⟩
    · have e1 : decide (utc < o.f0 - o.f1) = false := decide_eq_false hlt
      have hP : onsetP o utc = match (onsL o (o.f0 % 86400) (yearO utc)).find? (fun t => decide (t ≤ utc)) with | some t => (t, true) | none => (0, false) := if_neg hlt
      have HP := Aside0.mk hP
      clear hP hlt
      gi_wp2
      gi_at_call 44
      with_reducible refine (onsets_made _ o _ _).mono ?_
      rintro e w4 ⟨rfl, rfl⟩
      gi_wp2
      obtain ⟨V, hV⟩ : ∃ V, (w3.alloc (.cells (cellsO o) 32)).alloc (.cells #[.int .i64 cy] 3) = V := ⟨_, rfl⟩
      obtain ⟨G, hG⟩ : ∃ G, w3.heap.size = G := ⟨_, rfl⟩
      have hG4 : w.heap.size + 4 ≤ G := by rw [← hG]; exact Nat.succ_le_of_lt (blk_lt HV3.out.1.2.2)
      have q1 : V.heap[G]? = some (.cells (cellsO o) 32 (0, 0)) := by rw [← hV, ← hG]; exact blk_alloc (heap_alloc_new w3 _) _
      have q2 : V.heap[G + 1]? = some (.cells #[.int .i64 ((yearO utc : Nat) : Int)] 3 (0, 0)) := by
        have := heap_alloc_new (w3.alloc (.cells (cellsO o) 32)) (.cells #[.int .i64 cy] 3)
        rw [World.size_alloc, hG, hV] at this
        rw [HYV.out]
        exact this
      have hz : V.heap.size = G + 2 := by rw [← hV, ← hG]; simp
      have HON := Aside0.mk (show On w utc 0 false V from by rw [← hV]; exact HV3.out.below (below_alloc (below_alloc (Below.refl _ _) _) _))
      rw [hV, hG]
      try rw [show w.heap.size + 1 + 1 + 1 = w.heap.size + 3 from rfl]
      try rw [show w.heap.size + 1 + 1 = w.heap.size + 2 from rfl]
      clear hV hG HV3 HK3 c0 c1 c2 c3 c4 c5 c6 u1 u2 u3 u4 u5
      refine range_z (n₀ := w.heap.size) (Z := ZO G (G + 1)) (gf := 63) (lb := #[.pointer (some ⟨G, 0, none⟩), .pointer (some ⟨G + 1, 0, none⟩)]) rfl (enters_of Tryz.func63 (by kernel_rfl) rfl) (by omega) (fun b hb => by rcases hb with rfl | rfl <;> omega)
        (fun l J Jx W hW hJ hJx hY h0 => (callsIn_wide (n := 51)).1 (onsets_in o HOK.out (yearO utc) HYL.out l G (G + 1) w.heap.size J Jx W hJ hY ((hW.block G (by omega)).trans q1) ((hW.block (G + 1) (by omega)).trans q2) (by omega) h0)) (fun _ => rfl)
        (fun pre W => (∀ t ∈ pre, ¬ t ≤ utc) ∧ On w utc 0 false W) (fun c pre W => (c = .ret ∧ pre <+: onsL o (o.f0 % 86400) (yearO utc)) ∧ ∃ t, (onsL o (o.f0 % 86400) (yearO utc)).find? (fun t => decide (t ≤ utc)) = some t ∧ On w utc t true W)
        (on_own w _ G (by omega) hG4 utc 0 false (fun pre => ∀ t ∈ pre, ¬ t ≤ utc)) (fun c => (fun s X Y row h hg hr => by obtain ⟨hp, t, ht, hon⟩ := h; exact ⟨hp, t, ht, (on_own w _ G (by omega) hG4 utc t true (fun _ : Unit => True) () X Y row ⟨trivial, hon⟩ hg hr).2⟩)) ⟨fun x hx => (by cases hx), HON.out⟩
        (fun x a' _ => a' = { tmps := #[encO o, .int .i64 utc, .pointer (some ⟨w.heap.size, 0, none⟩), .pointer (some ⟨w.heap.size + 1, 0, none⟩), .pointer (some ⟨w.heap.size + 2, 0, none⟩), .pointer (some ⟨w.heap.size + 3, 0, none⟩), .int .i64 D, .int .i64 rem, .int .i64 cy, .int .i64 cm, .int .i64 cd, .bool true, .int .i64 x, .tuple #[.int .i64 D, .int .i64 rem], .int .i64 utc, .int .i64 (utc + 172800), .tuple #[.int .i64 D, .int .i64 rem], .int .i64 D, .int .i64 rem,
          .tuple #[.int .i64 cy, .int .i64 cm, .int .i64 cd, .bool true], .int .i64 D, .tuple #[.int .i64 cy, .int .i64 cm, .int .i64 cd, .bool true], .int .i64 cy, .int .i64 cm, .int .i64 cd, .bool true, .bool true, .bool false, .pointer (some ⟨w.heap.size, 0, none⟩), .int .i64 o.f0, .pointer (some ⟨w.heap.size, 1, none⟩), .int .i64 o.f1, .int .i64 (o.f0 - o.f1), .int .i64 utc, .bool false, encO o, .int .i64 cy, .func (.func 63) #[] #[.pointer (some ⟨G, 0, none⟩), .pointer (some ⟨G + 1, 0, none⟩)], .int .i64 x, undef, undef, undef, undef], defers := [] })
        (fun _ _ _ _ _ _ hs _ _ => hs) ?assign ?body ?done ?stop
      case assign =>
        intro l pre x W K hI hpx hW hK
        gi_wp2
        refine hK _ _ (KeepsFrom.refl _ _) (Below.refl _ _) (fun _ _ => rfl) hI (by simp)
      case body =>
        rintro l pre x a' W ⟨hno, hon⟩ hpx hWs rfl
        obtain ⟨u1, ⟨u2, u3⟩, u4, u5⟩ := hon.cells
        have HNO := Aside0.mk hno
        have HO1 := Aside0.mk hon
        have HPX := Aside0.mk hpx
        clear hno hon hpx
        by_cases hle : x ≤ utc
        · have e3 : decide (x ≤ utc) = true := decide_eq_true hle
          have HST := Aside0.mk (HO1.out.store x true V.heap.size G (by omega) hG4)
          have HF := Aside0.mk (find_at (fun t => decide (t ≤ utc)) pre x _ HPX.out (fun t ht => decide_eq_false (HNO.out t ht)) e3)
          clear hle
          gi_wp2
          exact ⟨hz ▸ HST.out.1, HST.out.2.1, HST.out.2.2.1, ⟨rfl, HPX.out⟩, x, HF.out, HST.out.2.2.2⟩
        · have e3 : decide (x ≤ utc) = false := decide_eq_false hle
          have HLE := Aside0.mk hle
          clear hle
          gi_wp2
          refine ⟨KeepsFrom.refl _ _, Below.refl _ _, fun _ _ => rfl, ?_, HO1.out⟩
          intro t ht
          rcases List.mem_append.1 ht with ht | ht
          · exact HNO.out t ht
          · rw [List.mem_singleton.1 ht]; exact HLE.out
      case done =>
        rintro D2 W hD2 ⟨hno, hon⟩ hK
        have hF : (onsL o (o.f0 % 86400) (yearO utc)).find? (fun t => decide (t ≤ utc)) = none := List.find?_eq_none.2 (fun t ht => by simpa using hno t ht)
        have hP2 : onsetP o utc = (0, false) := by rw [HP.out, hF]
        have HP2 := Aside0.mk hP2
        obtain ⟨u1, ⟨u2, u3⟩, u4, u5⟩ := hon.cells
        have HST := Aside0.mk (hon.store 0 false V.heap.size G (by omega) hG4)
        clear hno hon hF hP2
        gi_wp2
        refine ⟨by simp, .inl ⟨_, _, rfl, run_takeDeferred (by exact (HST.out.1.same D2 _ hD2 hK rfl)), ?_⟩⟩
        exact ⟨_, results23 _ _ w.heap.size 0 false rfl rfl ((World.putObj_heap_other (by omega)).trans HST.out.2.2.2.1.2.1) ((World.putObj_heap_other (by omega)).trans HST.out.2.2.2.1.2.2), by rw [HP2.out], HST.out.2.2.2.2.trans (below_put _ (by omega))⟩
      case stop =>
        rintro D2 c pre W hD2 hpre ⟨⟨rfl, _⟩, t, hF, hon⟩ hK
        have hP2 : onsetP o utc = (t, true) := by rw [HP.out, hF]
        have HP2 := Aside0.mk hP2
        have HON2 := Aside0.mk hon
        clear hF hP2 hon
        gi_wp2
        refine ⟨by simp, .inl ⟨_, _, rfl, run_takeDeferred hK, ?_⟩⟩
        exact ⟨_, results23 _ _ w.heap.size t true rfl rfl ((World.putObj_heap_other (by omega)).trans HON2.out.1.2.1) ((World.putObj_heap_other (by omega)).trans HON2.out.1.2.2), by rw [HP2.out], HON2.out.2.trans (below_put _ (by omega))⟩
  | false =>
    clear hyr
    obtain ⟨c0, c1, c2, c3, c4, c5, c6⟩ := atBk HK3.out
    obtain ⟨u1, ⟨u2, u3⟩, u4, u5⟩ := HV3.out.cells
    have HYV : Aside0 ((yearO utc : Int) = 9999) := ⟨by rw [HYO.out]; rw [if_neg (by decide)]; rfl⟩
    have hyl : yearO utc ≤ 9999 := by rw [HYO.out]; rw [if_neg (by decide)]; exact Nat.le_refl _
    have HYL := Aside0.mk hyl
    clear hyl HYO
    by_cases hlt : utc < o.f0 - o.f1
    · have e1 : decide (utc < o.f0 - o.f1) = true := decide_eq_true hlt
      have hP : onsetP o utc = (0, false) := if_pos hlt
      have HPa := Aside0.mk hP
      have HST := Aside0.mk (HV3.out.store 0 false (w.heap.size + 4) (w.heap.size + 4) (Nat.le_refl _) (Nat.le_refl _))
      clear hlt hP
      gi_wp2
      exact ⟨_, results23 _ _ w.heap.size 0 false rfl rfl HST.out.2.2.2.1.2.1 HST.out.2.2.2.1.2.2, by rw [HPa.out], HST.out.2.2.2.2⟩
    · have e1 : decide (utc < o.f0 - o.f1) = false := decide_eq_false hlt
      have hP : onsetP o utc = match (onsL o (o.f0 % 86400) (yearO utc)).find? (fun t => decide (t ≤ utc)) with | some t => (t, true) | none => (0, false) := if_neg hlt
      have HP := Aside0.mk hP
      clear hP hlt
      gi_wp2
      gi_at_call 44
      with_reducible refine (onsets_made _ o _ _).mono ?_
      rintro e w4 ⟨rfl, rfl⟩
      gi_wp2
      obtain ⟨V, hV⟩ : ∃ V, (w3.alloc (.cells (cellsO o) 32)).alloc (.cells #[.int .i64 9999] 3) = V := ⟨_, rfl⟩
      obtain ⟨G, hG⟩ : ∃ G, w3.heap.size = G := ⟨_, rfl⟩
      have hG4 : w.heap.size + 4 ≤ G := by rw [← hG]; exact Nat.succ_le_of_lt (blk_lt HV3.out.1.2.2)
      have q1 : V.heap[G]? = some (.cells (cellsO o) 32 (0, 0)) := by rw [← hV, ← hG]; exact blk_alloc (heap_alloc_new w3 _) _
      have q2 : V.heap[G + 1]? = some (.cells #[.int .i64 ((yearO utc : Nat) : Int)] 3 (0, 0)) := by
        have := heap_alloc_new (w3.alloc (.cells (cellsO o) 32)) (.cells #[.int .i64 9999] 3)
        rw [World.size_alloc, hG, hV] at this
        rw [HYV.out]
        exact this
      have hz : V.heap.size = G + 2 := by rw [← hV, ← hG]; simp
      have HON := Aside0.mk (show On w utc 0 false V from by rw [← hV]; exact HV3.out.below (below_alloc (below_alloc (Below.refl _ _) _) _))
      rw [hV, hG]
      try rw [show w.heap.size + 1 + 1 + 1 = w.heap.size + 3 from rfl]
      try rw [show w.heap.size + 1 + 1 = w.heap.size + 2 from rfl]
      clear hV hG HV3 HK3 c0 c1 c2 c3 c4 c5 c6 u1 u2 u3 u4 u5
      refine range_z (n₀ := w.heap.size) (Z := ZO G (G + 1)) (gf := 63) (lb := #[.pointer (some ⟨G, 0, none⟩), .pointer (some ⟨G + 1, 0, none⟩)]) rfl (enters_of Tryz.func63 (by kernel_rfl) rfl) (by omega) (fun b hb => by rcases hb with rfl | rfl <;> omega)
        (fun l J Jx W hW hJ hJx hY h0 => (callsIn_wide (n := 51)).1 (onsets_in o HOK.out (yearO utc) HYL.out l G (G + 1) w.heap.size J Jx W hJ hY ((hW.block G (by omega)).trans q1) ((hW.block (G + 1) (by omega)).trans q2) (by omega) h0)) (fun _ => rfl)
        (fun pre W => (∀ t ∈ pre, ¬ t ≤ utc) ∧ On w utc 0 false W) (fun c pre W => (c = .ret ∧ pre <+: onsL o (o.f0 % 86400) (yearO utc)) ∧ ∃ t, (onsL o (o.f0 % 86400) (yearO utc)).find? (fun t => decide (t ≤ utc)) = some t ∧ On w utc t true W)
        (on_own w _ G (by omega) hG4 utc 0 false (fun pre => ∀ t ∈ pre, ¬ t ≤ utc)) (fun c => (fun s X Y row h hg hr => by obtain ⟨hp, t, ht, hon⟩ := h; exact ⟨hp, t, ht, (on_own w _ G (by omega) hG4 utc t true (fun _ : Unit => True) () X Y row ⟨trivial, hon⟩ hg hr).2⟩)) ⟨fun x hx => (by cases hx), HON.out⟩
        (fun x a' _ => a' = { tmps := #[encO o, .int .i64 utc, .pointer (some ⟨w.heap.size, 0, none⟩), .pointer (some ⟨w.heap.size + 1, 0, none⟩), .pointer (some ⟨w.heap.size + 2, 0, none⟩), .pointer (some ⟨w.heap.size + 3, 0, none⟩), .int .i64 D, .int .i64 rem, .int .i64 9999, .int .i64 cm, .int .i64 cd, .bool false, .int .i64 x, .tuple #[.int .i64 D, .int .i64 rem], .int .i64 utc, .int .i64 (utc + 172800), .tuple #[.int .i64 D, .int .i64 rem], .int .i64 D, .int .i64 rem,
          .tuple #[.int .i64 cy, .int .i64 cm, .int .i64 cd, .bool false], .int .i64 D, .tuple #[.int .i64 cy, .int .i64 cm, .int .i64 cd, .bool false], .int .i64 cy, .int .i64 cm, .int .i64 cd, .bool false, .bool false, .bool true, .pointer (some ⟨w.heap.size, 0, none⟩), .int .i64 o.f0, .pointer (some ⟨w.heap.size, 1, none⟩), .int .i64 o.f1, .int .i64 (o.f0 - o.f1), .int .i64 utc, .bool false, encO o, .int .i64 9999, .func (.func 63) #[] #[.pointer (some ⟨G, 0, none⟩), .pointer (some ⟨G + 1, 0, none⟩)], .int .i64 x, undef, undef, undef, undef], defers := [] })
        (fun _ _ _ _ _ _ hs _ _ => hs) ?assign ?body ?done ?stop
      case assign =>
        intro l pre x W K hI hpx hW hK
        gi_wp2
        refine hK _ _ (KeepsFrom.refl _ _) (Below.refl _ _) (fun _ _ => rfl) hI (by simp)
      case body =>
        rintro l pre x a' W ⟨hno, hon⟩ hpx hWs rfl
        obtain ⟨u1, ⟨u2, u3⟩, u4, u5⟩ := hon.cells
        have HNO := Aside0.mk hno
        have HO1 := Aside0.mk hon
        have HPX := Aside0.mk hpx
        clear hno hon hpx
        by_cases hle : x ≤ utc
        · have e3 : decide (x ≤ utc) = true := decide_eq_true hle
          have HST := Aside0.mk (HO1.out.store x true V.heap.size G (by omega) hG4)
          have HF := Aside0.mk (find_at (fun t => decide (t ≤ utc)) pre x _ HPX.out (fun t ht => decide_eq_false (HNO.out t ht)) e3)
          clear hle
          gi_wp2
          exact ⟨hz ▸ HST.out.1, HST.out.2.1, HST.out.2.2.1, ⟨rfl, HPX.out⟩, x, HF.out, HST.out.2.2.2⟩
        · have e3 : decide (x ≤ utc) = false := decide_eq_false hle
          have HLE := Aside0.mk hle
          clear hle
          gi_wp2
          refine ⟨KeepsFrom.refl _ _, Below.refl _ _, fun _ _ => rfl, ?_, HO1.out⟩
          intro t ht
          rcases List.mem_append.1 ht with ht | ht
          · exact HNO.out t ht
          · rw [List.mem_singleton.1 ht]; exact HLE.out
      case done =>
        rintro D2 W hD2 ⟨hno, hon⟩ hK
        have hF : (onsL o (o.f0 % 86400) (yearO utc)).find? (fun t => decide (t ≤ utc)) = none := List.find?_eq_none.2 (fun t ht => by simpa using hno t ht)
        have hP2 : onsetP o utc = (0, false) := by rw [HP.out, hF]
        have HP2 := Aside0.mk hP2
        obtain ⟨u1, ⟨u2, u3⟩, u4, u5⟩ := hon.cells
        have HST := Aside0.mk (hon.store 0 false V.heap.size G (by omega) hG4)
        clear hno hon hF hP2
        gi_wp2
        refine ⟨by simp, .inl ⟨_, _, rfl, run_takeDeferred (by exact (HST.out.1.same D2 _ hD2 hK rfl)), ?_⟩⟩
        exact ⟨_, results23 _ _ w.heap.size 0 false rfl rfl ((World.putObj_heap_other (by omega)).trans HST.out.2.2.2.1.2.1) ((World.putObj_heap_other (by omega)).trans HST.out.2.2.2.1.2.2), by rw [HP2.out], HST.out.2.2.2.2.trans (below_put _ (by omega))⟩
      case stop =>
        rintro D2 c pre W hD2 hpre ⟨⟨rfl, _⟩, t, hF, hon⟩ hK
        have hP2 : onsetP o utc = (t, true) := by rw [HP.out, hF]
        have HP2 := Aside0.mk hP2
        have HON2 := Aside0.mk hon
        clear hF hP2 hon
        gi_wp2
        refine ⟨by simp, .inl ⟨_, _, rfl, run_takeDeferred hK, ?_⟩⟩
        exact ⟨_, results23 _ _ w.heap.size t true rfl rfl ((World.putObj_heap_other (by omega)).trans HON2.out.1.2.1) ((World.putObj_heap_other (by omega)).trans HON2.out.1.2.2), by rw [HP2.out], HON2.out.2.trans (below_put _ (by omega))⟩
def zone_onset.f (a0_0 : Int) (a0_1 : Int) (a0_2 : Int) (a0_3 : Bool) (a0_4 : Int) (a0_5 : Int) (a0_6 : Int) (a1 : Int) : Option (Int × Bool) :=
  if fitO ⟨a0_0, a0_1, a0_2, a0_3, a0_4, ⟨a0_5, a0_6⟩⟩ = true ∧ inO a1 = true then some (onsetP ⟨a0_0, a0_1, a0_2, a0_3, a0_4, ⟨a0_5, a0_6⟩⟩ a1) else none
theorem zone_onset.calls (a0_0 : Int) (a0_1 : Int) (a0_2 : Int) (a0_3 : Bool) (a0_4 : Int) (a0_5 : Int) (a0_6 : Int) (a1 : Int) (r1 : Int) (r2 : Bool) (w : World) (h : zone_onset.f a0_0 a0_1 a0_2 a0_3 a0_4 a0_5 a0_6 a1 = some (r1, r2)) :
    Calls Tryz.prog 23 #[.agg #[.int .i64 a0_0, .int .i64 a0_1, .int .i64 a0_2, .bool a0_3, .int .i64 a0_4, .int .i64 a0_5, .int .i64 a0_6], .int .i64 a1] w fun e w' => e = .returned (.tuple #[.int .i64 r1, .bool r2]) ∧ Below w.heap.size w w' := by
  unfold zone_onset.f at h
  split at h
  case isFalse => cases h
  rename_i hc
  have h' := Option.some.inj h
  have := onset_calls ⟨a0_0, a0_1, a0_2, a0_3, a0_4, ⟨a0_5, a0_6⟩⟩ a1 (okO_of _ hc.1) hc.2 w
  rwa [h'] at this
end Go.Proofs.YtmajmolbjiahlaaGreatDoor.PD
namespace Go.Proofs.YtmajmolbjiahlaaGreatDoor.PD
open Go.RowKit Go.Proofs.YtmajmolbjiahlaaGreatDoorW.PrintWords Go.Proofs.YtmajmolbjiahlaaGreatDoorW.PrintLast Go.Proofs.YtmajmolbjiahlaaGreatDoorW.PrintMore
set_option linter.unusedVariables false
set_option linter.unusedSimpArgs false
theorem w64 {a : Int} (h0 : -9223372036854775808 ≤ a) (h1 : a ≤ 9223372036854775807) : wrap64 a = a := by unfold wrap64; omega
theorem w64n {i : Nat} (h : i < 9223372036854775807) : wrap64 ((i : Int) + 1) = ((i + 1 : Nat) : Int) := by unfold wrap64; omega
end Go.Proofs.YtmajmolbjiahlaaGreatDoor.PD
namespace Go.Proofs.YtmajmolbjiahlaaGreatDoor.PD
open Go.RowKit Go.Proofs.YtmajmolbjiahlaaGreatDoorW.PrintWords Go.Proofs.YtmajmolbjiahlaaGreatDoorW.PrintLast Go.Proofs.YtmajmolbjiahlaaGreatDoorW.PrintMore
attribute [local go_sem] isSome_setCell max2_int min2_int max_two min_two max_three min_three max_four min_four
set_option linter.unusedVariables false
set_option linter.unusedSimpArgs false
def almanacref10_In.f (a0 : Int) : Option (Bool) := if a0 ≥ (-62135596800) then (some (decide (a0 ≤ 253402300799))) else (some false)
set_option maxHeartbeats 8000000 in
set_option maxRecDepth 100000 in
theorem almanacref10_In.calls (a0 : Int) (r : Bool) (w : World) (h : almanacref10_In.f a0 = some r) :
    Calls Tryz.prog 26 #[.int .i64 a0] w fun e w' => e = .returned (.bool r) ∧ Drawn0 w w' := by
  have H : (if a0 ≥ (-62135596800) then (some (decide (a0 ≤ 253402300799))) else (some false)) = some r := h
  clear h
  by_cases c2 : a0 ≥ (-62135596800)
  · rw [if_pos c2] at H
    have c2b0 : decide ((-62135596800) ≤ a0) = true := decide_eq_true c2
    clear c2
    obtain rfl := Option.some.inj H
    go_enter Tryz.func26, Tryz.ntmps26
    go_wp2
    go_ret
    exact ⟨by first | rfl | (simp; done) | (simp [*]; done), by repeat (first | exact Drawn0.refl _ | apply Drawn0.step)⟩
  · rw [if_neg c2] at H
    have c2b0 : decide ((-62135596800) ≤ a0) = false := decide_eq_false c2
    clear c2
    obtain rfl := Option.some.inj H
    go_enter Tryz.func26, Tryz.ntmps26
    go_wp2
    go_ret
    exact ⟨by first | rfl | (simp; done) | (simp [*]; done), by repeat (first | exact Drawn0.refl _ | apply Drawn0.step)⟩
end Go.Proofs.YtmajmolbjiahlaaGreatDoor.PD
namespace Go.Proofs.YtmajmolbjiahlaaGreatDoor.PD
open Go.RowKit Go.Proofs.YtmajmolbjiahlaaGreatDoorW.PrintWords Go.Proofs.YtmajmolbjiahlaaGreatDoorW.PrintLast Go.Proofs.YtmajmolbjiahlaaGreatDoorW.PrintMore
attribute [local go_sem] isSome_setCell max2_int min2_int max_two min_two max_three min_three max_four min_four
set_option linter.unusedVariables false
set_option linter.unusedSimpArgs false
def almanacref16_less.f (a0 : Int) : Option (Bool) := if a0 > (-86400) then (some (decide (a0 < 86400))) else (some false)
set_option maxHeartbeats 8000000 in
set_option maxRecDepth 100000 in
theorem almanacref16_less.calls (a0 : Int) (r : Bool) (w : World) (h : almanacref16_less.f a0 = some r) :
    Calls Tryz.prog 32 #[.int .i64 a0] w fun e w' => e = .returned (.bool r) ∧ Drawn0 w w' := by
  have H : (if a0 > (-86400) then (some (decide (a0 < 86400))) else (some false)) = some r := h
  clear h
  by_cases c2 : a0 > (-86400)
  · rw [if_pos c2] at H
    have c2b0 : decide ((-86400) < a0) = true := decide_eq_true c2
    clear c2
    obtain rfl := Option.some.inj H
    go_enter Tryz.func32, Tryz.ntmps32
    go_wp2
    go_ret
    exact ⟨by first | rfl | (simp; done) | (simp [*]; done), by repeat (first | exact Drawn0.refl _ | apply Drawn0.step)⟩
  · rw [if_neg c2] at H
    have c2b0 : decide ((-86400) < a0) = false := decide_eq_false c2
    clear c2
    obtain rfl := Option.some.inj H
    go_enter Tryz.func32, Tryz.ntmps32
    go_wp2
    go_ret
    exact ⟨by first | rfl | (simp; done) | (simp [*]; done), by repeat (first | exact Drawn0.refl _ | apply Drawn0.step)⟩
end Go.Proofs.YtmajmolbjiahlaaGreatDoor.PD
namespace Go.Proofs.YtmajmolbjiahlaaGreatDoor.PD
open Go.RowKit Go.Proofs.YtmajmolbjiahlaaGreatDoorW.PrintWords Go.Proofs.YtmajmolbjiahlaaGreatDoorW.PrintLast Go.Proofs.YtmajmolbjiahlaaGreatDoorW.PrintMore
attribute [local go_sem] isSome_setCell max2_int min2_int max_two min_two max_three min_three max_four min_four
set_option linter.unusedVariables false
set_option linter.unusedSimpArgs false
def almanacref16_nth.f (a0_0 : Int) (a0_1 : Int) : Option (Bool) := if a0_0 = 0 then (some false) else (if a0_0 ≥ (-5) then (if a0_0 ≤ 5 then (if a0_1 ≥ 0 then (some (decide (a0_1 ≤ 6))) else (some false)) else (some false)) else (some false))
set_option maxHeartbeats 8000000 in
set_option maxRecDepth 100000 in
theorem almanacref16_nth.calls (a0_0 : Int) (a0_1 : Int) (r : Bool) (w : World) (h : almanacref16_nth.f a0_0 a0_1 = some r) :
    Calls Tryz.prog 33 #[.agg #[.int .i64 a0_0, .int .i64 a0_1]] w fun e w' => e = .returned (.bool r) ∧ Below w.heap.size w w' := by
  have hu30 := Tryz.underlying30
  have HB := Aside0.mk (Below.refl w.heap.size w)
  have H : (if a0_0 = 0 then (some false) else (if a0_0 ≥ (-5) then (if a0_0 ≤ 5 then (if a0_1 ≥ 0 then (some (decide (a0_1 ≤ 6))) else (some false)) else (some false)) else (some false))) = some r := h
  clear h
  by_cases c2 : a0_0 = 0
  · rw [if_pos c2] at H
    have c2b0 : (a0_0 == 0) = true := beq_iff_eq.mpr c2
    have c2b1 : (a0_0 != 0) = false := bne_eq_false_iff_eq.mpr c2
    clear c2
    obtain rfl := Option.some.inj H
    go_enter Tryz.func33, Tryz.ntmps33
    go_wp2_with (first | ((with_reducible refine gate_dst (N := 1) rfl ?_); refine box_event ?hg (N := 1) ?hd (cs := #[.int .i64 a0_0, .int .i64 a0_1]) (t := 30) ?hr ?_; (case hd => rfl); (case hg => rfl); (case hr => first | (go_simp; done) | (go_simp; rfl)); intro gb129 hg w3 hbox hb; have n0_ := Aside0.mk (below_step (by repeat (first | (with_reducible first | exact HB.out | apply below_alloc | apply pw_below_drewN | apply below_drew1) | exact HB.out)) hb); have n1_ := Aside0.mk (hbox); have n2_ := Aside0.mk ((by rw [hg]; exact (below_size (by repeat (first | (with_reducible first | exact HB.out | apply below_alloc | apply pw_below_drewN | apply below_drew1) | exact HB.out))) : w.heap.size ≤ gb129)); have n3_ := Aside0.mk ((by rw [hg]; exact (below_size (by repeat (first | (with_reducible first | exact HB.out | apply below_alloc | apply pw_below_drewN | apply below_drew1) | exact HB.out))) : w.heap.size ≤ gb129)); clear HB; have HB := n0_; have BK129 := n1_; have GW129 := n2_; have GE129 := n3_; clear n0_ n1_ n2_ n3_; clear hb hbox hg; have hcz4_0 : w3.cell? ⟨gb129, 0, none⟩ = some (.int .i64 a0_0) := (blk_cell BK129.out 0).trans rfl; have hcz4_1 : w3.cell? ⟨gb129, 1, none⟩ = some (.int .i64 a0_1) := (blk_cell BK129.out 1).trans rfl; have hfz4_0 := blk_frozen BK129.out 0; have hfz4_1 := blk_frozen BK129.out 1))
    go_ret
    exact ⟨by first | rfl | (simp [errW_none, errW_some] <;> rfl) | (simp [*, errW_none, errW_some] <;> rfl), by repeat (first | (with_reducible first | exact HB.out | apply below_alloc | apply pw_below_drewN | apply below_drew1 | refine below_set ?_ GE129.out) | exact HB.out)⟩
  · rw [if_neg c2] at H
    have c2b0 : (a0_0 == 0) = false := beq_eq_false_iff_ne.mpr c2
    have c2b1 : (a0_0 != 0) = true := bne_iff_ne.mpr c2
    by_cases c5 : a0_0 ≥ (-5)
    · rw [if_pos c5] at H
      have c5b0 : decide ((-5) ≤ a0_0) = true := decide_eq_true c5
      clear c5
      by_cases c6 : a0_0 ≤ 5
      · rw [if_pos c6] at H
        have c6b0 : decide (a0_0 ≤ 5) = true := decide_eq_true c6
        clear c6
        by_cases c7 : a0_1 ≥ 0
        · rw [if_pos c7] at H
          have c7b0 : decide (0 ≤ a0_1) = true := decide_eq_true c7
          clear c7
          obtain rfl := Option.some.inj H
          go_enter Tryz.func33, Tryz.ntmps33
          go_wp2_with (first | ((with_reducible refine gate_dst (N := 1) rfl ?_); refine box_event ?hg (N := 1) ?hd (cs := #[.int .i64 a0_0, .int .i64 a0_1]) (t := 30) ?hr ?_; (case hd => rfl); (case hg => rfl); (case hr => first | (go_simp; done) | (go_simp; rfl)); intro gb129 hg w8 hbox hb; have n0_ := Aside0.mk (below_step (by repeat (first | (with_reducible first | exact HB.out | apply below_alloc | apply pw_below_drewN | apply below_drew1) | exact HB.out)) hb); have n1_ := Aside0.mk (hbox); have n2_ := Aside0.mk ((by rw [hg]; exact (below_size (by repeat (first | (with_reducible first | exact HB.out | apply below_alloc | apply pw_below_drewN | apply below_drew1) | exact HB.out))) : w.heap.size ≤ gb129)); have n3_ := Aside0.mk ((by rw [hg]; exact (below_size (by repeat (first | (with_reducible first | exact HB.out | apply below_alloc | apply pw_below_drewN | apply below_drew1) | exact HB.out))) : w.heap.size ≤ gb129)); clear HB; have HB := n0_; have BK129 := n1_; have GW129 := n2_; have GE129 := n3_; clear n0_ n1_ n2_ n3_; clear hb hbox hg; have hcz9_0 : w8.cell? ⟨gb129, 0, none⟩ = some (.int .i64 a0_0) := (blk_cell BK129.out 0).trans rfl; have hcz9_1 : w8.cell? ⟨gb129, 1, none⟩ = some (.int .i64 a0_1) := (blk_cell BK129.out 1).trans rfl; have hfz9_0 := blk_frozen BK129.out 0; have hfz9_1 := blk_frozen BK129.out 1))
          go_ret
          exact ⟨by first | rfl | (simp [errW_none, errW_some] <;> rfl) | (simp [*, errW_none, errW_some] <;> rfl), by repeat (first | (with_reducible first | exact HB.out | apply below_alloc | apply pw_below_drewN | apply below_drew1 | refine below_set ?_ GE129.out) | exact HB.out)⟩
        · rw [if_neg c7] at H
          have c7b0 : decide (0 ≤ a0_1) = false := decide_eq_false c7
          clear c7
          obtain rfl := Option.some.inj H
          go_enter Tryz.func33, Tryz.ntmps33
          go_wp2_with (first | ((with_reducible refine gate_dst (N := 1) rfl ?_); refine box_event ?hg (N := 1) ?hd (cs := #[.int .i64 a0_0, .int .i64 a0_1]) (t := 30) ?hr ?_; (case hd => rfl); (case hg => rfl); (case hr => first | (go_simp; done) | (go_simp; rfl)); intro gb129 hg w10 hbox hb; have n0_ := Aside0.mk (below_step (by repeat (first | (with_reducible first | exact HB.out | apply below_alloc | apply pw_below_drewN | apply below_drew1) | exact HB.out)) hb); have n1_ := Aside0.mk (hbox); have n2_ := Aside0.mk ((by rw [hg]; exact (below_size (by repeat (first | (with_reducible first | exact HB.out | apply below_alloc | apply pw_below_drewN | apply below_drew1) | exact HB.out))) : w.heap.size ≤ gb129)); have n3_ := Aside0.mk ((by rw [hg]; exact (below_size (by repeat (first | (with_reducible first | exact HB.out | apply below_alloc | apply pw_below_drewN | apply below_drew1) | exact HB.out))) : w.heap.size ≤ gb129)); clear HB; have HB := n0_; have BK129 := n1_; have GW129 := n2_; have GE129 := n3_; clear n0_ n1_ n2_ n3_; clear hb hbox hg; have hcz11_0 : w10.cell? ⟨gb129, 0, none⟩ = some (.int .i64 a0_0) := (blk_cell BK129.out 0).trans rfl; have hcz11_1 : w10.cell? ⟨gb129, 1, none⟩ = some (.int .i64 a0_1) := (blk_cell BK129.out 1).trans rfl; have hfz11_0 := blk_frozen BK129.out 0; have hfz11_1 := blk_frozen BK129.out 1))
          go_ret
          exact ⟨by first | rfl | (simp [errW_none, errW_some] <;> rfl) | (simp [*, errW_none, errW_some] <;> rfl), by repeat (first | (with_reducible first | exact HB.out | apply below_alloc | apply pw_below_drewN | apply below_drew1 | refine below_set ?_ GE129.out) | exact HB.out)⟩
      · rw [if_neg c6] at H
        have c6b0 : decide (a0_0 ≤ 5) = false := decide_eq_false c6
        clear c6
        obtain rfl := Option.some.inj H
        go_enter Tryz.func33, Tryz.ntmps33
        go_wp2_with (first | ((with_reducible refine gate_dst (N := 1) rfl ?_); refine box_event ?hg (N := 1) ?hd (cs := #[.int .i64 a0_0, .int .i64 a0_1]) (t := 30) ?hr ?_; (case hd => rfl); (case hg => rfl); (case hr => first | (go_simp; done) | (go_simp; rfl)); intro gb129 hg w12 hbox hb; have n0_ := Aside0.mk (below_step (by repeat (first | (with_reducible first | exact HB.out | apply below_alloc | apply pw_below_drewN | apply below_drew1) | exact HB.out)) hb); have n1_ := Aside0.mk (hbox); have n2_ := Aside0.mk ((by rw [hg]; exact (below_size (by repeat (first | (with_reducible first | exact HB.out | apply below_alloc | apply pw_below_drewN | apply below_drew1) | exact HB.out))) : w.heap.size ≤ gb129)); have n3_ := Aside0.mk ((by rw [hg]; exact (below_size (by repeat (first | (with_reducible first | exact HB.out | apply below_alloc | apply pw_below_drewN | apply below_drew1) | exact HB.out))) : w.heap.size ≤ gb129)); clear HB; have HB := n0_; have BK129 := n1_; have GW129 := n2_; have GE129 := n3_; clear n0_ n1_ n2_ n3_; clear hb hbox hg; have hcz13_0 : w12.cell? ⟨gb129, 0, none⟩ = some (.int .i64 a0_0) := (blk_cell BK129.out 0).trans rfl; have hcz13_1 : w12.cell? ⟨gb129, 1, none⟩ = some (.int .i64 a0_1) := (blk_cell BK129.out 1).trans rfl; have hfz13_0 := blk_frozen BK129.out 0; have hfz13_1 := blk_frozen BK129.out 1))
        go_ret
        exact ⟨by first | rfl | (simp [errW_none, errW_some] <;> rfl) | (simp [*, errW_none, errW_some] <;> rfl), by repeat (first | (with_reducible first | exact HB.out | apply below_alloc | apply pw_below_drewN | apply below_drew1 | refine below_set ?_ GE129.out) | exact HB.out)⟩
    · rw [if_neg c5] at H
      have c5b0 : decide ((-5) ≤ a0_0) = false := decide_eq_false c5
      clear c5
      obtain rfl := Option.some.inj H
      go_enter Tryz.func33, Tryz.ntmps33
      go_wp2_with (first | ((with_reducible refine gate_dst (N := 1) rfl ?_); refine box_event ?hg (N := 1) ?hd (cs := #[.int .i64 a0_0, .int .i64 a0_1]) (t := 30) ?hr ?_; (case hd => rfl); (case hg => rfl); (case hr => first | (go_simp; done) | (go_simp; rfl)); intro gb129 hg w14 hbox hb; have n0_ := Aside0.mk (below_step (by repeat (first | (with_reducible first | exact HB.out | apply below_alloc | apply pw_below_drewN | apply below_drew1) | exact HB.out)) hb); have n1_ := Aside0.mk (hbox); have n2_ := Aside0.mk ((by rw [hg]; exact (below_size (by repeat (first | (with_reducible first | exact HB.out | apply below_alloc | apply pw_below_drewN | apply below_drew1) | exact HB.out))) : w.heap.size ≤ gb129)); have n3_ := Aside0.mk ((by rw [hg]; exact (below_size (by repeat (first | (with_reducible first | exact HB.out | apply below_alloc | apply pw_below_drewN | apply below_drew1) | exact HB.out))) : w.heap.size ≤ gb129)); clear HB; have HB := n0_; have BK129 := n1_; have GW129 := n2_; have GE129 := n3_; clear n0_ n1_ n2_ n3_; clear hb hbox hg; have hcz15_0 : w14.cell? ⟨gb129, 0, none⟩ = some (.int .i64 a0_0) := (blk_cell BK129.out 0).trans rfl; have hcz15_1 : w14.cell? ⟨gb129, 1, none⟩ = some (.int .i64 a0_1) := (blk_cell BK129.out 1).trans rfl; have hfz15_0 := blk_frozen BK129.out 0; have hfz15_1 := blk_frozen BK129.out 1))
      go_ret
      exact ⟨by first | rfl | (simp [errW_none, errW_some] <;> rfl) | (simp [*, errW_none, errW_some] <;> rfl), by repeat (first | (with_reducible first | exact HB.out | apply below_alloc | apply pw_below_drewN | apply below_drew1 | refine below_set ?_ GE129.out) | exact HB.out)⟩
end Go.Proofs.YtmajmolbjiahlaaGreatDoor.PD
