/- Part 2 of the texts that the claim leans on: the functions' walks, and what they compute. -/
import Derived.Test.YtebmbfobmakheaaItipMakes1
import Derived.Test.YtebmbfobmakheaaProg
import Derived.Below
import Derived.Deep.Draws
import Derived.Deep.AppendLies
import Derived.Maps.AppendAt
import Derived.OwnWalk
import Derived.Laws.BytesArg
import Derived.Laws.MakeOwn
import Derived.Laws.OwnMore
import Derived.Deep.OwnRows
import Derived.Tactics
import Derived.Lib.ConvBytes
import Derived.Laws.Slices
import Derived.WalkKit
import Derived.KernelRfl
import Derived.RowKit3
import Derived.Deep.LoopGhost
import Derived.Deep.QuietTactic
import Derived.BigQuiet
import Derived.WideLaws
import Derived.Deep.DeepCutAuto
import Derived.Deep.CutBlock
import Derived.Deep.RegionHeld3
import Derived.Laws.Rows
import Derived.Lib.AppendStr
import Derived.ArgAppend
import Derived.Laws.IdiomCopy
import Derived.OrdersHeld
import Derived.Laws.BitsLemmas
import Derived.RowKit
import Derived.Laws.StructEq
import Derived.Laws.IdiomStrings
import Derived.Laws.RangeAny
import Derived.Lib.Strings
import Derived.Scope
import Derived.Shelf.Abstract
import Derived.RangeFuncBox
import Derived.Lib.SliceRun
namespace Go.Proofs.Ytebmbfobmakheaa.PD
open Go.RowKit Go.Proofs.YtebmbfobmakheaaW.PrintWords Go.Proofs.YtebmbfobmakheaaW.PrintLast Go.Proofs.YtebmbfobmakheaaW.PrintMore
attribute [local go_sem] isSome_setCell max2_int min2_int max_two min_two max_three min_three max_four min_four
set_option linter.unusedVariables false
set_option linter.unusedSimpArgs false
def errW : Option Int → Value
  | none => .nilIface
  | some c => .iface 0 (.int .i64 c)
theorem errW_none : errW none = .nilIface := rfl
theorem errW_some (c : Int) : errW (some c) = .iface 0 (.int .i64 c) := rfl
theorem info9 : (Try.prog.info? 9).map (fun i => (i.zero, i.size, i.bytes)) = some (some (.string ⟨#[]⟩), 1, 16) := by kernel_rfl
theorem info25 : (Try.prog.info? 25).map (fun i => (i.zero, i.size, i.bytes)) = some (some (.agg #[(.string ⟨#[]⟩), (.slice none 0 0), (.slice none 0 0)]), 3, 64) := by kernel_rfl
theorem info45 : (Try.prog.info? 45).map (fun i => (i.zero, i.size, i.bytes)) = some (some (.agg #[(.string ⟨#[]⟩), (.slice none 0 0), (.string ⟨#[]⟩)]), 3, 56) := by kernel_rfl
theorem info77 : (Try.prog.info? 77).map (fun i => (i.zero, i.size, i.bytes)) = some (some (.agg #[(.string ⟨#[]⟩), (.slice none 0 0)]), 2, 40) := by kernel_rfl
structure S77 where
  f0 : ByteArray
  f1 : (List ByteArray)
def z77 : S77 := ⟨(⟨#[]⟩ : ByteArray), ([] : List ByteArray)⟩
def k77 : Kd S77 := Kd.iso (Kd.pair Kd.string (Kd.slice 9 Kd.string)) (fun x : S77 => (x.f0, x.f1))
theorem k77_heap : Kd.Heap k77 := Kd.heap_iso _ (Kd.heap_pair Kd.heap_string (Kd.heap_slice 9 Kd.heap_string))
theorem k77_open {w : World} {x : S77} {cs : List Value} (h : k77.K w x cs) : ∃ A1 c1, cs = [.string x.f0, .slice A1 x.f1.length c1] ∧ x.f1.length ≤ c1 ∧ Kd.string.C w A1 x.f1.length x.f1 := by
  obtain ⟨_, _, rfl, rfl, ⟨A1, c1, rfl, l1, g1⟩⟩ := h
  exact ⟨A1, c1, rfl, l1, g1⟩
theorem k77_mk (w : World) (x : S77) {A1 : Option Addr} {c1 : Nat} (l1 : x.f1.length ≤ c1) (g1 : Kd.string.C w A1 x.f1.length x.f1) : k77.K w x [.string x.f0, .slice A1 x.f1.length c1] := ⟨[.string x.f0], [.slice A1 x.f1.length c1], rfl, rfl, ⟨A1, c1, rfl, l1, g1⟩⟩
theorem k77_openF {W : World} {ok : Nat → Prop} {x : S77} {cs : List Value} (h : Kd.FK k77 W ok x cs) : ∃ A1 c1, cs = [.string x.f0, .slice A1 x.f1.length c1] ∧ x.f1.length ≤ c1 ∧ Kd.F Kd.string W ok A1 x.f1.length x.f1 := by
  obtain ⟨A1, c1, rfl, l1, _⟩ := k77_open (Kd.FK_now h)
  exact ⟨A1, c1, rfl, l1, (fun W' hW => by obtain ⟨A1_, c1_, he, l1_, g1_⟩ := k77_open (h W' hW); injection (Option.some.inj (show some (Value.slice A1 x.f1.length c1) = some (Value.slice A1_ x.f1.length c1_) from congrArg (fun l => l[1]?) he)) with ha_ _ _; rw [ha_]; exact g1_)⟩
theorem k77_mkF (W : World) (ok : Nat → Prop) (x : S77) {A1 : Option Addr} {c1 : Nat} (l1 : x.f1.length ≤ c1) (g1 : Kd.F Kd.string W ok A1 x.f1.length x.f1) : Kd.FK k77 W ok x [.string x.f0, .slice A1 x.f1.length c1] := fun W2 hW => k77_mk W2 x l1 (g1 W2 hW)
def rd_T77 (xs : List S77) (i : Int) : S77 := xs.getD i.toNat z77
theorem at_T77 {w : World} {A : Option Addr} {n : Nat} {xs : List S77} (h : Kd.C k77 w A n xs) (i : Int) (h0 : 0 ≤ i) (h1 : i < n) : ∃ ad A1 c1, A = some ad ∧ w.cell? (ad.add (i.toNat * 2)) = some (.string (rd_T77 xs i).f0) ∧ w.cell? ⟨(ad.add (i.toNat * 2)).block, (ad.add (i.toNat * 2)).off + 1, none⟩ = some (.slice A1 (rd_T77 xs i).f1.length c1) ∧ (rd_T77 xs i).f1.length ≤ c1 ∧ Kd.string.C w A1 (rd_T77 xs i).f1.length (rd_T77 xs i).f1 := by
  obtain ⟨ad, c, e, _, hK, hc0⟩ := Kd.C_get h z77 i h0 h1
  have hc : ∀ j u, c[j]? = some u → w.cell? (ad.add (i.toNat * 2 + j)) = some u := hc0
  obtain ⟨A1, c1, rfl, l1, g1⟩ := k77_open hK
  exact ⟨ad, A1, c1, e, hc 0 _ rfl, by rw [← add_field _ _ 1 (by omega)]; exact hc 1 _ rfl, l1, g1⟩
structure S45 where
  f0 : ByteArray
  f1 : (List S77)
  f2 : ByteArray
def z45 : S45 := ⟨(⟨#[]⟩ : ByteArray), ([] : List S77), (⟨#[]⟩ : ByteArray)⟩
def k45 : Kd S45 := Kd.iso (Kd.pair Kd.string (Kd.pair (Kd.slice 77 k77) Kd.string)) (fun x : S45 => (x.f0, x.f1, x.f2))
theorem k45_heap : Kd.Heap k45 := Kd.heap_iso _ (Kd.heap_pair Kd.heap_string (Kd.heap_pair (Kd.heap_slice 77 k77_heap) Kd.heap_string))
theorem k45_open {w : World} {x : S45} {cs : List Value} (h : k45.K w x cs) : ∃ A1 c1, cs = [.string x.f0, .slice A1 x.f1.length c1, .string x.f2] ∧ x.f1.length ≤ c1 ∧ k77.C w A1 x.f1.length x.f1 := by
  obtain ⟨_, _, rfl, rfl, ⟨_, _, rfl, ⟨A1, c1, rfl, l1, g1⟩, rfl⟩⟩ := h
  exact ⟨A1, c1, rfl, l1, g1⟩
theorem k45_mk (w : World) (x : S45) {A1 : Option Addr} {c1 : Nat} (l1 : x.f1.length ≤ c1) (g1 : k77.C w A1 x.f1.length x.f1) : k45.K w x [.string x.f0, .slice A1 x.f1.length c1, .string x.f2] := ⟨[.string x.f0], [.slice A1 x.f1.length c1, .string x.f2], rfl, rfl, ⟨[.slice A1 x.f1.length c1], [.string x.f2], rfl, ⟨A1, c1, rfl, l1, g1⟩, rfl⟩⟩
theorem k45_openF {W : World} {ok : Nat → Prop} {x : S45} {cs : List Value} (h : Kd.FK k45 W ok x cs) : ∃ A1 c1, cs = [.string x.f0, .slice A1 x.f1.length c1, .string x.f2] ∧ x.f1.length ≤ c1 ∧ Kd.F k77 W ok A1 x.f1.length x.f1 := by
  obtain ⟨A1, c1, rfl, l1, _⟩ := k45_open (Kd.FK_now h)
  exact ⟨A1, c1, rfl, l1, (fun W' hW => by obtain ⟨A1_, c1_, he, l1_, g1_⟩ := k45_open (h W' hW); injection (Option.some.inj (show some (Value.slice A1 x.f1.length c1) = some (Value.slice A1_ x.f1.length c1_) from congrArg (fun l => l[1]?) he)) with ha_ _ _; rw [ha_]; exact g1_)⟩
theorem k45_mkF (W : World) (ok : Nat → Prop) (x : S45) {A1 : Option Addr} {c1 : Nat} (l1 : x.f1.length ≤ c1) (g1 : Kd.F k77 W ok A1 x.f1.length x.f1) : Kd.FK k45 W ok x [.string x.f0, .slice A1 x.f1.length c1, .string x.f2] := fun W2 hW => k45_mk W2 x l1 (g1 W2 hW)
def rd_T45 (xs : List S45) (i : Int) : S45 := xs.getD i.toNat z45
theorem at_T45 {w : World} {A : Option Addr} {n : Nat} {xs : List S45} (h : Kd.C k45 w A n xs) (i : Int) (h0 : 0 ≤ i) (h1 : i < n) : ∃ ad A1 c1, A = some ad ∧ w.cell? (ad.add (i.toNat * 3)) = some (.string (rd_T45 xs i).f0) ∧ w.cell? ⟨(ad.add (i.toNat * 3)).block, (ad.add (i.toNat * 3)).off + 1, none⟩ = some (.slice A1 (rd_T45 xs i).f1.length c1) ∧ w.cell? ⟨(ad.add (i.toNat * 3)).block, (ad.add (i.toNat * 3)).off + 2, none⟩ = some (.string (rd_T45 xs i).f2) ∧ (rd_T45 xs i).f1.length ≤ c1 ∧ k77.C w A1 (rd_T45 xs i).f1.length (rd_T45 xs i).f1 := by
  obtain ⟨ad, c, e, _, hK, hc0⟩ := Kd.C_get h z45 i h0 h1
  have hc : ∀ j u, c[j]? = some u → w.cell? (ad.add (i.toNat * 3 + j)) = some u := hc0
  obtain ⟨A1, c1, rfl, l1, g1⟩ := k45_open hK
  exact ⟨ad, A1, c1, e, hc 0 _ rfl, by rw [← add_field _ _ 1 (by omega)]; exact hc 1 _ rfl, by rw [← add_field _ _ 2 (by omega)]; exact hc 2 _ rfl, l1, g1⟩
structure S25 where
  f0 : ByteArray
  f1 : (List S45)
  f2 : (List S25)
def z25 : S25 := ⟨(⟨#[]⟩ : ByteArray), ([] : List S45), ([] : List S25)⟩
def F25 (d : Kd S25) : Kd S25 := Kd.iso (Kd.pair Kd.string (Kd.pair (Kd.slice 45 k45) (Kd.slice 25 d))) (fun x : S25 => (x.f0, x.f1, x.f2))
theorem mono25 : Kd.Mono F25 := Kd.mono_iso _ (Kd.mono_pair (Kd.mono_const _) (Kd.mono_pair (Kd.mono_const _) (Kd.mono_slice 25 Kd.mono_id)))
theorem sub25 : Kd.Sub F25 [9, 25, 45, 77] := Kd.sub_iso _ (Kd.sub_pair (Kd.sub_const _ (by decide)) (Kd.sub_pair (Kd.sub_const _ (by decide)) (Kd.sub_slice 25 (by decide) Kd.sub_id)))
theorem sz25 : ∀ n, (Kd.upto F25 3 [9, 25, 45, 77] n).sz = 3 := Kd.upto_sz (fun _ => rfl)
def k25 : Kd S25 := Kd.fix F25 3 [9, 25, 45, 77] sz25 (Kd.upto_E sub25)
theorem k25_heap : Kd.Heap k25 := Kd.heap_fix (fun _ h_ => Kd.heap_iso _ (Kd.heap_pair Kd.heap_string (Kd.heap_pair (Kd.heap_slice 45 k45_heap) (Kd.heap_slice 25 h_))))
theorem k25_open {w : World} {x : S25} {cs : List Value} (h : k25.K w x cs) : ∃ A1 c1 A2 c2, cs = [.string x.f0, .slice A1 x.f1.length c1, .slice A2 x.f2.length c2] ∧ x.f1.length ≤ c1 ∧ k45.C w A1 x.f1.length x.f1 ∧ x.f2.length ≤ c2 ∧ k25.C w A2 x.f2.length x.f2 := by
  obtain ⟨n, h⟩ := h
  cases n with
  | zero => exact h.elim
  | succ n =>
    obtain ⟨_, _, rfl, rfl, ⟨_, _, rfl, ⟨A1, c1, rfl, l1, g1⟩, ⟨A2, c2, rfl, l2, g2⟩⟩⟩ := h
    exact ⟨A1, c1, A2, c2, rfl, l1, g1, l2, Kd.fix_C g2⟩
theorem k25_mk (w : World) (x : S25) {A1 : Option Addr} {c1 : Nat} (l1 : x.f1.length ≤ c1) (g1 : k45.C w A1 x.f1.length x.f1) {A2 : Option Addr} {c2 : Nat} (l2 : x.f2.length ≤ c2) (g2 : k25.C w A2 x.f2.length x.f2) : k25.K w x [.string x.f0, .slice A1 x.f1.length c1, .slice A2 x.f2.length c2] := by
  obtain ⟨n2, q2⟩ := Kd.fix_C_back mono25 g2
  have r2 := Kd.upto_C_le mono25 sz25 (show n2 ≤ n2 by omega) q2
  exact ⟨n2 + 1, ⟨[.string x.f0], [.slice A1 x.f1.length c1, .slice A2 x.f2.length c2], rfl, rfl, ⟨[.slice A1 x.f1.length c1], [.slice A2 x.f2.length c2], rfl, ⟨A1, c1, rfl, l1, g1⟩, ⟨A2, c2, rfl, l2, r2⟩⟩⟩⟩
theorem k25_openF {W : World} {ok : Nat → Prop} {x : S25} {cs : List Value} (h : Kd.FK k25 W ok x cs) : ∃ A1 c1 A2 c2, cs = [.string x.f0, .slice A1 x.f1.length c1, .slice A2 x.f2.length c2] ∧ x.f1.length ≤ c1 ∧ Kd.F k45 W ok A1 x.f1.length x.f1 ∧ x.f2.length ≤ c2 ∧ Kd.F k25 W ok A2 x.f2.length x.f2 := by
  obtain ⟨A1, c1, A2, c2, rfl, l1, _, l2, _⟩ := k25_open (Kd.FK_now h)
  exact ⟨A1, c1, A2, c2, rfl, l1, (fun W' hW => by obtain ⟨A1_, c1_, A2_, c2_, he, l1_, g1_, l2_, g2_⟩ := k25_open (h W' hW); injection (Option.some.inj (show some (Value.slice A1 x.f1.length c1) = some (Value.slice A1_ x.f1.length c1_) from congrArg (fun l => l[1]?) he)) with ha_ _ _; rw [ha_]; exact g1_), l2, (fun W' hW => by obtain ⟨A1_, c1_, A2_, c2_, he, l1_, g1_, l2_, g2_⟩ := k25_open (h W' hW); injection (Option.some.inj (show some (Value.slice A2 x.f2.length c2) = some (Value.slice A2_ x.f2.length c2_) from congrArg (fun l => l[2]?) he)) with ha_ _ _; rw [ha_]; exact g2_)⟩
theorem k25_mkF (W : World) (ok : Nat → Prop) (x : S25) {A1 : Option Addr} {c1 : Nat} (l1 : x.f1.length ≤ c1) (g1 : Kd.F k45 W ok A1 x.f1.length x.f1) {A2 : Option Addr} {c2 : Nat} (l2 : x.f2.length ≤ c2) (g2 : Kd.F k25 W ok A2 x.f2.length x.f2) : Kd.FK k25 W ok x [.string x.f0, .slice A1 x.f1.length c1, .slice A2 x.f2.length c2] := fun W2 hW => k25_mk W2 x l1 (g1 W2 hW) l2 (g2 W2 hW)
def rd_T25 (xs : List S25) (i : Int) : S25 := xs.getD i.toNat z25
theorem at_T25 {w : World} {A : Option Addr} {n : Nat} {xs : List S25} (h : Kd.C k25 w A n xs) (i : Int) (h0 : 0 ≤ i) (h1 : i < n) : ∃ ad A1 c1 A2 c2, A = some ad ∧ w.cell? (ad.add (i.toNat * 3)) = some (.string (rd_T25 xs i).f0) ∧ w.cell? ⟨(ad.add (i.toNat * 3)).block, (ad.add (i.toNat * 3)).off + 1, none⟩ = some (.slice A1 (rd_T25 xs i).f1.length c1) ∧ w.cell? ⟨(ad.add (i.toNat * 3)).block, (ad.add (i.toNat * 3)).off + 2, none⟩ = some (.slice A2 (rd_T25 xs i).f2.length c2) ∧ (rd_T25 xs i).f1.length ≤ c1 ∧ k45.C w A1 (rd_T25 xs i).f1.length (rd_T25 xs i).f1 ∧ (rd_T25 xs i).f2.length ≤ c2 ∧ k25.C w A2 (rd_T25 xs i).f2.length (rd_T25 xs i).f2 := by
  obtain ⟨ad, c, e, _, hK, hc0⟩ := Kd.C_get h z25 i h0 h1
  have hc : ∀ j u, c[j]? = some u → w.cell? (ad.add (i.toNat * 3 + j)) = some u := hc0
  obtain ⟨A1, c1, A2, c2, rfl, l1, g1, l2, g2⟩ := k25_open hK
  exact ⟨ad, A1, c1, A2, c2, e, hc 0 _ rfl, by rw [← add_field _ _ 1 (by omega)]; exact hc 1 _ rfl, by rw [← add_field _ _ 2 (by omega)]; exact hc 2 _ rfl, l1, g1, l2, g2⟩
end Go.Proofs.Ytebmbfobmakheaa.PD
namespace Go.Proofs.Ytebmbfobmakheaa.PD
open Go.RowKit Go.Proofs.YtebmbfobmakheaaW.PrintWords Go.Proofs.YtebmbfobmakheaaW.PrintLast Go.Proofs.YtebmbfobmakheaaW.PrintMore
attribute [local go_sem] isSome_setCell max2_int min2_int max_two min_two max_three min_three max_four min_four
set_option linter.unusedVariables false
set_option linter.unusedSimpArgs false
def almanacref26_without.l0 : Nat → List (S45) → ByteArray → List (S45) → Int → Option ((List (S45)))
 | 0, _, _, _, _ => none
 | k + 1, x0, x1, x5, x6 => if x6 < (x0.length : Int) then (if 0 ≤ x6 then (if ((rd_T45 x0 x6).f0).toList = x1.toList then (almanacref26_without.l0 k x0 x1 x5 (wrap64 (x6 + 1))) else (if x5.length < 2513169434916 then (almanacref26_without.l0 k x0 x1 (x5 ++ [(⟨(rd_T45 x0 x6).f0, (rd_T45 x0 x6).f1, (rd_T45 x0 x6).f2⟩ : S45)]) (wrap64 (x6 + 1))) else (none))) else (none)) else (some x5)
def almanacref26_without.f (k : Nat) (l0 : List (S45)) (a1 : ByteArray) : Option ((List (S45))) := almanacref26_without.l0 k l0 a1 ([] : List (S45)) 0
set_option maxHeartbeats 8000000 in
set_option maxRecDepth 100000 in
theorem almanacref26_without.calls (k : Nat) (P0_ : Nat → Prop) (A0 : Option Addr) (c0 : Nat) (l0 : List (S45)) (a1 : ByteArray) (r : List (S45)) (w : World) (hs0 : Kd.V k45 45 w w.heap.size (fun k_ => P0_ k_) (.slice A0 l0.length c0) l0) (h : almanacref26_without.f k l0 a1 = some r) :
  Calls Try.prog 67 #[.slice A0 l0.length c0, .string a1] w fun e w' => ∃ v0_ : Value, e = .returned (v0_) ∧ Kd.N k45 45 w' w.heap.size (fun k_ => (P0_ k_ ∨ w.heap.size ≤ k_)) v0_ r ∧ Below w.heap.size w w' := by
 have hu45 := Try.underlying45
 have HO0 := Aside0.mk (show Kd.V k45 45 w w.heap.size (fun k_ => (P0_ k_ ∨ w.heap.size ≤ k_)) (.slice A0 l0.length c0) l0 from Kd.V_mono hs0 (fun k_ hk => .inl hk))
 have HB := Aside0.mk (Below.refl w.heap.size w)
 have H : (almanacref26_without.l0 k l0 a1 ([] : List (S45)) 0) = some r := h
 clear h
 have H' := Aside0.mk H
 clear H
 go_enter Try.func67, Try.ntmps67
 go_wp2
 go_loopg [5, 6] k (fun kq v5 v6 w' => ∃ (x5_1 : List (S45)) (x6_1 : Int), v6 = .int .i64 x6_1 ∧ Aside0 (almanacref26_without.l0 kq l0 a1 x5_1 x6_1 = some r) ∧ Aside0 (kq ≤ k) ∧ Aside0 (Kd.V k45 45 w' w.heap.size (fun k_ => (P0_ k_ ∨ w.heap.size ≤ k_) ∧ some k_ ≠ (v5 : Value).ownBlock) (.slice A0 l0.length c0) l0) ∧ Aside0 (Kd.N k45 45 w' w.heap.size (fun k_ => (P0_ k_ ∨ w.heap.size ≤ k_)) v5 x5_1) ∧ Aside0 (Below w.heap.size w w'))
 case atStart => exact ⟨(([] : List (S45))), (0), (by first | rfl | (simp; done) | (simp [*]; done)), H', ⟨Nat.le_refl _⟩, ⟨by (with_reducible repeat (first | apply Kd.V_alloc | apply Kd.V_drewN | apply Kd.V_drew)); exact Kd.V_mono HO0.out (fun _ hk => ⟨hk, (by simp [Value.ownBlock])⟩)⟩, ⟨by first | exact Kd.R_nil _ _ _ _ _ | exact Kd.N_nil _ _ _ _ _ | exact Kd.V_nil _ _ _ _ _ | exact Kd.Q_nil _ _ _ _ _ | exact Kd.S_nil _ _ _ _ _⟩, ⟨bU HB⟩⟩
 case round =>
  clear H'
  try clear p2
  obtain ⟨x5_1, x6_1, rfl, HA, HK1, HO_0, HO_5, HB⟩ := hrel
  cases gk with
  | zero => exact absurd HA.out (by simp [almanacref26_without.l0])
  | succ k1 =>
   have H := HA.out
   clear HA
   simp only [almanacref26_without.l0] at H
   by_cases c3 : x6_1 < (l0.length : Int)
   ·rw [if_pos c3] at H
    have c3b0 : decide (x6_1 < (l0.length : Int)) = true := decide_eq_true c3
    clear c3
    by_cases c4 : 0 ≤ x6_1
    ·rw [if_pos c4] at H
     have c4b0 : decide (0 ≤ x6_1) = true := decide_eq_true c4
     clear c4
     by_cases c5 : ((rd_T45 l0 x6_1).f0).toList = a1.toList
     ·rw [if_pos c5] at H
      have c5b0 : (((rd_T45 l0 x6_1).f0).toList == a1.toList) = true := beq_iff_eq.mpr c5
      have c5b1 : (((rd_T45 l0 x6_1).f0).toList != a1.toList) = false := bne_eq_false_iff_eq.mpr c5
      clear c5
      have H' := Aside0.mk H
      clear H
      have p390 : 0 ≤ (x6_1 : Int) := of_decide_eq_true (by first | (with_reducible assumption) | assumption)
      have q390 : x6_1 < (l0.length : Int) := of_decide_eq_true (by first | (with_reducible assumption) | assumption)
      obtain ⟨ad390, A390_1, c390_1, e390, hx390_0, hx390_1, hx390_2, hl390_1, hi390_1⟩ := at_T45 (Kd.V_reads' HO_0.out).2.2 x6_1 p390 q390
      cases e390
      obtain ⟨ce390, hce390, hMe390, hcc390⟩ := Kd.V_get HO_0.out z45 x6_1 p390 (by first | exact q390 | exact of_decide_eq_true (by first | (with_reducible assumption) | assumption) | (have e_ := (Kd.V_reads' HO_0.out).1; omega))
      obtain ⟨ua390_1, uc390_1, rfl, ul390_1, ge390_1⟩ := k45_openF hMe390
      have hv390_1 := hcc390 1 _ rfl
      rw [add_field _ _ 1 (by omega)] at hv390_1
      replace hv390_1 := Option.some.inj (hv390_1.symm.trans hx390_1)
      injection hv390_1 with hva_ hvn_ hvc_
      rw [hva_] at ge390_1
      rw [hvc_] at ul390_1
      have HL390_1 := Aside0.mk (show Kd.V k77 77 _ w.heap.size _ _ ((rd_T45 l0 x6_1).f1) from Kd.V_mk ul390_1 ge390_1)
      clear hva_ hvn_ hvc_ ge390_1 ul390_1
      clear hcc390 hce390
      have HR390_1 := Aside0.mk hi390_1
      have HC390_1 := Aside0.mk hl390_1
      clear hi390_1 hl390_1
      replace p390 := eq_true p390
      replace q390 := eq_true q390
      go_wp2
      go_roundg k1
      case measure => have := HK1.out; omega
      case rel => exact ⟨(x5_1), (wrap64 (x6_1 + 1)), (by first | rfl | (simp; done) | (simp [*]; done)), H', ⟨by have := HK1.out; omega⟩, ⟨by (with_reducible repeat (first | apply Kd.V_alloc | apply Kd.V_drewN | apply Kd.V_drew)); exact HO_0.out⟩, ⟨by (with_reducible repeat (first | apply Kd.N_alloc | apply Kd.N_drewN | apply Kd.N_drew)); exact HO_5.out⟩, ⟨bU HB⟩⟩
     ·rw [if_neg c5] at H
      have c5b0 : (((rd_T45 l0 x6_1).f0).toList == a1.toList) = false := beq_eq_false_iff_ne.mpr c5
      have c5b1 : (((rd_T45 l0 x6_1).f0).toList != a1.toList) = true := bne_iff_ne.mpr c5
      by_cases c6 : x5_1.length < 2513169434916
      ·rw [if_pos c6] at H
       have LMc6 := Aside0.mk c6
       clear c6
       obtain ⟨y392, hy392⟩ : ∃ y_ : List (S45), y_ = (x5_1 ++ [(⟨(rd_T45 l0 x6_1).f0, (rd_T45 l0 x6_1).f1, (rd_T45 l0 x6_1).f2⟩ : S45)]) := ⟨_, rfl⟩
       replace H : (almanacref26_without.l0 k1 l0 a1 y392 (wrap64 (x6_1 + 1))) = some r := by first | (rw [hy392]; with_reducible exact H) | (have H2_ := (Option.bind_some _ _).symm.trans H; rw [hy392]; with_reducible exact H2_) | (have H2_ := (Option.bind_some _ _).symm.trans H; with_reducible exact H2_) | with_reducible exact H | (rw [hy392]; exact H) | exact H
       have Ny392 := Aside0.mk hy392
       clear hy392
       have H' := Aside0.mk H
       clear H
       have p390 : 0 ≤ (x6_1 : Int) := of_decide_eq_true (by first | (with_reducible assumption) | assumption)
       have q390 : x6_1 < (l0.length : Int) := of_decide_eq_true (by first | (with_reducible assumption) | assumption)
       obtain ⟨ad390, A390_1, c390_1, e390, hx390_0, hx390_1, hx390_2, hl390_1, hi390_1⟩ := at_T45 (Kd.V_reads' HO_0.out).2.2 x6_1 p390 q390
       cases e390
       obtain ⟨ce390, hce390, hMe390, hcc390⟩ := Kd.V_get HO_0.out z45 x6_1 p390 (by first | exact q390 | exact of_decide_eq_true (by first | (with_reducible assumption) | assumption) | (have e_ := (Kd.V_reads' HO_0.out).1; omega))
       obtain ⟨ua390_1, uc390_1, rfl, ul390_1, ge390_1⟩ := k45_openF hMe390
       have hv390_1 := hcc390 1 _ rfl
       rw [add_field _ _ 1 (by omega)] at hv390_1
       replace hv390_1 := Option.some.inj (hv390_1.symm.trans hx390_1)
       injection hv390_1 with hva_ hvn_ hvc_
       rw [hva_] at ge390_1
       rw [hvc_] at ul390_1
       have HL390_1 := Aside0.mk (show Kd.V k77 77 _ w.heap.size _ _ ((rd_T45 l0 x6_1).f1) from Kd.V_mk ul390_1 ge390_1)
       clear hva_ hvn_ hvc_ ge390_1 ul390_1
       clear hcc390 hce390
       have HR390_1 := Aside0.mk hi390_1
       have HC390_1 := Aside0.mk hl390_1
       clear hi390_1 hl390_1
       replace p390 := eq_true p390
       replace q390 := eq_true q390
       have p391 : 0 ≤ (x6_1 : Int) := of_decide_eq_true (by first | (with_reducible assumption) | assumption)
       have q391 : x6_1 < (l0.length : Int) := of_decide_eq_true (by first | (with_reducible assumption) | assumption)
       obtain ⟨ad391, A391_1, c391_1, e391, hx391_0, hx391_1, hx391_2, hl391_1, hi391_1⟩ := at_T45 (Kd.V_reads' HO_0.out).2.2 x6_1 p391 q391
       obtain rfl : ad390 = ad391 := (by injection e391)
       obtain ⟨ce391, hce391, hMe391, hcc391⟩ := Kd.V_get HO_0.out z45 x6_1 p391 (by first | exact q391 | exact of_decide_eq_true (by first | (with_reducible assumption) | assumption) | (have e_ := (Kd.V_reads' HO_0.out).1; omega))
       obtain ⟨ua391_1, uc391_1, rfl, ul391_1, ge391_1⟩ := k45_openF hMe391
       have hv391_1 := hcc391 1 _ rfl
       rw [add_field _ _ 1 (by omega)] at hv391_1
       replace hv391_1 := Option.some.inj (hv391_1.symm.trans hx391_1)
       injection hv391_1 with hva_ hvn_ hvc_
       rw [hva_] at ge391_1
       rw [hvc_] at ul391_1
       have HL391_1 := Aside0.mk (show Kd.V k77 77 _ w.heap.size _ _ ((rd_T45 l0 x6_1).f1) from Kd.V_mk ul391_1 ge391_1)
       clear hva_ hvn_ hvc_ ge391_1 ul391_1
       clear hcc391 hce391
       have HR391_1 := Aside0.mk hi391_1
       have HC391_1 := Aside0.mk hl391_1
       clear hi391_1 hl391_1
       replace p391 := eq_true p391
       replace q391 := eq_true q391
       have ea_ := Option.some.inj (hx390_1.symm.trans hx391_1)
       injection ea_ with ea_ en_ ec_
       subst ea_
       subst ec_
       clear en_
       go_wp2_with (first | ((with_reducible refine gate_builtin (b := .append) (xs := #[.tmp 20, .tmp 25]) rfl ?_); at_builtin; refine Kd.N_append k45 (w0 := w) w.heap.size rfl (.tmp 20) (.tmp 25) 22 45 (.agg #[(.string ⟨#[]⟩), (.slice none 0 0), (.string ⟨#[]⟩)]) 56 rfl Try.underlying22 info45 rfl (by decide) (by omega) u5 x5_1 (⟨(rd_T45 l0 x6_1).f0, (rd_T45 l0 x6_1).f1, (rd_T45 l0 x6_1).f2⟩ : S45) [.string ((rd_T45 l0 x6_1).f0), .slice A390_1 ((rd_T45 l0 x6_1).f1).length c390_1, .string ((rd_T45 l0 x6_1).f2)] (fun k_ => (P0_ k_ ∨ w.heap.size ≤ k_)) (fun k_ => ((fun k_ => (P0_ k_ ∨ w.heap.size ≤ k_))) k_ ∧ some k_ ≠ (u5 : Value).ownBlock) rfl rfl ?aP (fun _ hk => hk) ?aF ?aO ?aB ?aS ?aL ?_; (case aP => exact (k45_mkF _ _ (⟨(rd_T45 l0 x6_1).f0, (rd_T45 l0 x6_1).f1, (rd_T45 l0 x6_1).f2⟩ : S45) (Kd.V_reads' (Kd.V_mono (ok' := (fun k_ => ((fun k_ => (P0_ k_ ∨ w.heap.size ≤ k_))) k_ ∧ some k_ ≠ (u5 : Value).ownBlock)) (HL391_1.out) (fun k_ hk => ⟨hk.1, hk.2⟩))).2.1 (Kd.V_F (Kd.V_mono (ok' := (fun k_ => ((fun k_ => (P0_ k_ ∨ w.heap.size ≤ k_))) k_ ∧ some k_ ≠ (u5 : Value).ownBlock)) (HL391_1.out) (fun k_ hk => ⟨hk.1, hk.2⟩))))); (case aB => exact (bU HB)); (case aF => exact (fun k_ hk => (.inr (Nat.le_trans (below_size (bU HB)) hk)))); (case aO => exact (by (with_reducible repeat (first | apply Kd.N_alloc | apply Kd.N_drewN | apply Kd.N_drew)); exact HO_5.out)); (case aS => exact (below_size (bU HB))); (case aL => have := LMc6.out; omega); intro v393 w7 ho hb hg hat; rw [← Ny392.out] at ho; have n0_ := Aside0.mk (Kd.V_afterv (ok := (fun k_ => (P0_ k_ ∨ w.heap.size ≤ k_))) (by (with_reducible repeat (first | apply Kd.V_alloc | apply Kd.V_drewN | apply Kd.V_drew)); exact HO_0.out) hg hat); have n1_ := Aside0.mk (Kd.V_afterv (ok := (fun k_ => (P0_ k_ ∨ w.heap.size ≤ k_))) (by (with_reducible repeat (first | apply Kd.V_alloc | apply Kd.V_drewN | apply Kd.V_drew)); exact HL390_1.out) hg hat); have n2_ := Aside0.mk (Kd.V_afterv (ok := (fun k_ => (P0_ k_ ∨ w.heap.size ≤ k_))) (by (with_reducible repeat (first | apply Kd.V_alloc | apply Kd.V_drewN | apply Kd.V_drew)); exact HL391_1.out) hg hat); have n3_ := Aside0.mk (hb); have n4_ := Aside0.mk (ho); clear HO_0; clear HL390_1; clear HL391_1; clear HB; clear HO_5; have HO_0 := n0_; have HL390_1 := n1_; have HL391_1 := n2_; have HB := n3_; have HO394 := n4_; clear n0_ n1_ n2_ n3_ n4_; clear ho hb hg hat))
       go_roundg k1
       case measure => have := HK1.out; omega
       case rel => exact ⟨(y392), (wrap64 (x6_1 + 1)), (by first | rfl | (simp; done) | (simp [*]; done)), H', ⟨by have := HK1.out; omega⟩, ⟨by (with_reducible repeat (first | apply Kd.V_alloc | apply Kd.V_drewN | apply Kd.V_drew)); exact HO_0.out⟩, ⟨by (with_reducible repeat (first | apply Kd.N_alloc | apply Kd.N_drewN | apply Kd.N_drew)); exact HO394.out⟩, ⟨bU HB⟩⟩
      ·rw [if_neg c6] at H
       exact absurd H (by simp)
    ·rw [if_neg c4] at H
     exact absurd H (by simp)
   ·rw [if_neg c3] at H
    have c3b0 : decide (x6_1 < (l0.length : Int)) = false := decide_eq_false c3
    clear c3
    obtain rfl := Option.some.inj H
    go_wp2
    go_ret
    exact ⟨_, eqU, by (with_reducible repeat (first | apply Kd.N_alloc | apply Kd.N_drewN | apply Kd.N_drew)); exact HO_5.out, bU HB⟩
end Go.Proofs.Ytebmbfobmakheaa.PD
namespace Go.Proofs.Ytebmbfobmakheaa.PD
open Go.RowKit Go.Proofs.YtebmbfobmakheaaW.PrintWords Go.Proofs.YtebmbfobmakheaaW.PrintLast Go.Proofs.YtebmbfobmakheaaW.PrintMore
set_option linter.unusedVariables false
set_option linter.unusedSimpArgs false
theorem rd45_at (l : List S45) (i : Nat) (h : i < l.length) : rd_T45 l (i : Int) = l[i] := by simp [rd_T45, h]
theorem wrap_next {i n : Nat} (h : i < n) (hn : n ≤ 9223372036854775807) : wrap64 ((i : Int) + 1) = ((i + 1 : Nat) : Int) := by unfold wrap64; omega
theorem rwithout_l0 (l : List S45) (nm : ByteArray) (hl : l.length ≤ 2513169434916) : ∀ (d k i : Nat) (out : List S45), l.length - i = d → i ≤ l.length → d < k → out.length ≤ i →
    almanacref26_without.l0 k l nm out i = some (out ++ (l.drop i).filter fun x => !(x.f0.toList == nm.toList))
  | d, 0, _, _, _, _, hk, _ => absurd hk (Nat.not_lt_zero _)
  | d, k + 1, i, out, hd, hi, hk, ho => by
    simp only [almanacref26_without.l0]
    by_cases hlt : i < l.length
    · rw [if_pos (by omega), if_pos (by omega), wrap_next hlt (by omega), rd45_at l i hlt, List.drop_eq_getElem_cons hlt]
      by_cases hc : l[i].f0.toList = nm.toList
      · rw [if_pos hc, rwithout_l0 l nm hl (d - 1) k (i + 1) out (by omega) (by omega) (by omega) (by omega), List.filter_cons, if_neg (by simp [hc])]
      · rw [if_neg hc, if_pos (by omega), rwithout_l0 l nm hl (d - 1) k (i + 1) _ (by omega) (by omega) (by omega) (by simp; omega), List.filter_cons, if_pos (by simpa using hc), List.append_assoc]
        rfl
    · rw [if_neg (by omega), List.drop_eq_nil_of_le (by omega), List.filter_nil, List.append_nil]
theorem rwithout_val (k : Nat) (l : List S45) (nm : ByteArray) (hl : l.length ≤ 2513169434916) (hk : l.length < k) : almanacref26_without.f k l nm = some (l.filter fun x => !(x.f0.toList == nm.toList)) := by
  have := rwithout_l0 l nm hl l.length k 0 [] (by omega) (by omega) hk (Nat.le_refl _)
  unfold almanacref26_without.f
  exact this
end Go.Proofs.Ytebmbfobmakheaa.PD
namespace Go.Proofs.Ytebmbfobmakheaa.PD
open Go.RowKit Go.Proofs.YtebmbfobmakheaaW.PrintWords Go.Proofs.YtebmbfobmakheaaW.PrintLast Go.Proofs.YtebmbfobmakheaaW.PrintMore
set_option linter.unusedVariables false
set_option linter.unusedSimpArgs false
def byteN (m : ByteArray) (i : Nat) : Nat := (m.data.getD i 0).toNat
theorem byteN_lt (m : ByteArray) (i : Nat) : byteN m i < 256 := by unfold byteN; exact UInt8.toNat_lt _
def RowOf (W : World) (g : Nat) (m : ByteArray) : Prop := ∀ j, j < m.size → W.cell? ⟨g, j, none⟩ = some (.int .u8 (byteN m j : Nat)) ∧ W.frozen? ⟨g, j, none⟩ = false
theorem RowOf.new (w : World) (s : ByteArray) : RowOf (Lib.bytesWorld w 5 s) w.heap.size s := fun j hj => by
  refine ⟨?_, ?_⟩
  · rw [Lib.bytesWorld_cell w 5 s j hj]
    simp [byteN, List.getD_eq_getElem?_getD, Array.getD_eq_getD_getElem?]
  · have h := Lib.bytesWorld_at_new w 5 s
    have hs : s.size ≤ (Lib.bytesCells w 5 s).size := by unfold Lib.bytesCells; rw [Array.size_append, Array.size_map]; exact Nat.le_add_right _ _
    simp only [World.frozen?, h]
    simp
    omega
def setByte (m : ByteArray) (q v : Nat) : ByteArray := ⟨m.data.setIfInBounds q (UInt8.ofNat v)⟩
theorem setByte_size (m : ByteArray) (q v : Nat) : (setByte m q v).size = m.size := Array.size_setIfInBounds
theorem byteN_setByte (m : ByteArray) (q v : Nat) (hq : q < m.size) (hv : v < 256) (j : Nat) : byteN (setByte m q v) j = if j = q then v else byteN m j := by
  have hq' : q < m.data.size := hq
  unfold setByte byteN
  by_cases h : j = q
  · subst h
    rw [if_pos rfl, Array.getD_eq_getD_getElem?, Array.getElem?_setIfInBounds_self, if_pos hq', Option.getD_some, UInt8.toNat_ofNat']
    omega
  · rw [if_neg h, Array.getD_eq_getD_getElem?, Array.getElem?_setIfInBounds_ne (Ne.symm h), Array.getD_eq_getD_getElem?]
theorem frozen_setCell (W : World) (p q : Addr) (u : Value) : (W.setCell p u).frozen? q = W.frozen? q := by
  simp only [World.frozen?, World.setCell, Array.getElem?_modify]
  by_cases h : p.block = q.block
  · simp only [h, if_true]
    cases W.heap[q.block]? with
    | none => rfl
    | some o => cases o <;> simp
  · simp [h]
theorem RowOf.set {W : World} {g : Nat} {m : ByteArray} (h : RowOf W g m) (q v : Nat) (hq : q < m.size) (hv : v < 256) : RowOf (W.setCell ⟨g, q, none⟩ (.int .u8 (v : Nat))) g (setByte m q v) := fun j hj => by
  rw [setByte_size] at hj
  refine ⟨?_, by rw [frozen_setCell]; exact (h j hj).2⟩
  rw [byteN_setByte m q v hq hv]
  by_cases e : j = q
  · subst e
    rw [if_pos rfl, World.cell?_setCell_same W _ _ (h j hj).1]
  · rw [if_neg e, World.cell?_setCell_other W ⟨g, q, none⟩ ⟨g, j, none⟩ _ (by intro e'; injection e' with _ e2; exact e e2.symm)]
    exact (h j hj).1
theorem RowOf.below {W W' : World} {g : Nat} {m : ByteArray} (h : RowOf W g m) (hb : Below W.heap.size W W') : RowOf W' g m := fun j hj => by
  obtain ⟨h1, h2⟩ := h j hj
  have hl : g < W.heap.size := World.block_lt_of_cell? W _ h1
  refine ⟨(hb.cell hl).trans h1, ?_⟩
  rw [← h2]
  simp only [World.frozen?, hb.block g hl]
theorem RowOf.string {W : World} {g : Nat} {m : ByteArray} (h : RowOf W g m) (cap : Nat) : (convert 70 9 (.slice (some ⟨g, 0, none⟩) m.size cap)).run Try.prog W = .ok (.string m) W := by
  have hl : m.data.toList.length = m.size := Array.length_toList
  have := run_convert_bytes_back (P := Try.prog) W 70 9 5 ⟨g, 0, none⟩ cap m.data.toList Try.underlying70 Try.underlying5 Try.underlying9 (fun j hj => by
    have := (h j (by omega)).1
    rw [add_plain, this]
    have hj' : j < m.data.size := by simpa using hj
    simp only [byteN, Array.getD_eq_getD_getElem?, Array.getElem?_eq_getElem hj', Option.getD_some, Array.getElem_toList])
  rw [hl] at this
  simpa using this
def stepK (f : Nat → Nat) (s : ByteArray) : Nat → ByteArray
  | 0 => s
  | k + 1 => setByte (stepK f s k) k (f (byteN s k))
theorem stepK_size (f : Nat → Nat) (s : ByteArray) : ∀ k, (stepK f s k).size = s.size
  | 0 => rfl
  | k + 1 => (setByte_size _ _ _).trans (stepK_size f s k)
theorem stepK_byte (f : Nat → Nat) (hf : ∀ b, b < 256 → f b < 256) (s : ByteArray) : ∀ k, k ≤ s.size → ∀ j, byteN (stepK f s k) j = if j < k then f (byteN s j) else byteN s j
  | 0, _, j => by rw [if_neg (by omega)]; rfl
  | k + 1, hk, j => by
    show byteN (setByte (stepK f s k) k (f (byteN s k))) j = _
    rw [byteN_setByte _ _ _ (by rw [stepK_size]; omega) (hf _ (byteN_lt _ _)), stepK_byte f hf s k (by omega)]
    by_cases h : j = k
    · subst h; rw [if_pos rfl, if_pos (by omega)]
    · rw [if_neg h]
      by_cases h2 : j < k
      · rw [if_pos h2, if_pos (by omega)]
      · rw [if_neg h2, if_neg (by omega)]
theorem setByte_same (m : ByteArray) (q : Nat) (hq : q < m.size) : setByte m q (byteN m q) = m := by
  have hq' : q < m.data.size := hq
  unfold setByte byteN
  cases m with | mk a =>
  simp only at hq' ⊢
  congr 1
  have e : UInt8.ofNat (a.getD q 0).toNat = a[q] := by rw [Array.getD_eq_getD_getElem?, Array.getElem?_eq_getElem hq', Option.getD_some]; exact UInt8.ofNat_toNat
  rw [e]
  apply Array.ext
  · simp
  · intro i h1 h2
    by_cases hi : i = q
    · subst hi
      rw [Array.getElem_setIfInBounds h2, if_pos rfl]
    · rw [Array.getElem_setIfInBounds h2, if_neg (Ne.symm hi)]
def mapB (f : Nat → Nat) (s : ByteArray) : ByteArray := stepK f s s.size
theorem mapB_size (f : Nat → Nat) (s : ByteArray) : (mapB f s).size = s.size := stepK_size f s _
def lowN (b : Nat) : Nat := if 65 ≤ b ∧ b ≤ 90 then b + 32 else b
def uppN (b : Nat) : Nat := if 97 ≤ b ∧ b ≤ 122 then b - 32 else b
theorem lowN_lt (b : Nat) (h : b < 256) : lowN b < 256 := by unfold lowN; split <;> omega
theorem uppN_lt (b : Nat) (h : b < 256) : uppN b < 256 := by unfold uppN; split <;> omega
def shortB (s : ByteArray) : Bool := decide (s.size ≤ 140737488355328)
end Go.Proofs.Ytebmbfobmakheaa.PD
namespace Go.Proofs.Ytebmbfobmakheaa.PD
open Go.RowKit Go.Proofs.YtebmbfobmakheaaW.PrintWords Go.Proofs.YtebmbfobmakheaaW.PrintLast Go.Proofs.YtebmbfobmakheaaW.PrintMore
attribute [local go_sem] isSome_setCell max2_int min2_int max_two min_two
set_option linter.unusedVariables false
set_option linter.unusedSimpArgs false
set_option maxRecDepth 100000 in
set_option maxHeartbeats 4000000 in
theorem text_lower_walk (s : ByteArray) (w : World) (hs : s.size ≤ 140737488355328) :
    Calls Try.prog 73 #[.string s] w fun e w' => e = .returned (.string (mapB lowN s)) ∧ Below w.heap.size w w' := by
  have hcv := fun W => Lib.run_convert_string_bytes (P := Try.prog) W 9 70 5 s Try.underlying9 Try.underlying70 Try.underlying5
  have hB1 : Below w.heap.size w (Lib.bytesWorld w 5 s) := ⟨rfl, rfl, rfl, by rw [Lib.bytesWorld_size]; exact Nat.le_succ _, fun k hk => Lib.bytesWorld_at_old w 5 s k hk⟩
  have HB := Aside0.mk hB1
  clear hB1
  have HN := Aside0.mk (RowOf.new w s)
  go_enter Try.func73, Try.ntmps73
  go_wp2
  go_loopw [10] (fun v wr => ∃ k : Nat, v = .int .i64 k ∧ k ≤ s.size ∧ Aside0 (RowOf wr w.heap.size (stepK lowN s k)) ∧ Aside0 (Below w.heap.size w wr)) (fun v _ => s.size - (intOf v).toNat)
  case atStart => exact ⟨0, rfl, Nat.zero_le _, HN, HB⟩
  case round =>
    obtain ⟨k, rfl, hk, hrow, hb⟩ := hrel
    by_cases hlt : k < s.size
    · have hlt0 : decide ((k : Int) < (s.size : Int)) = true := decide_eq_true (by omega)
      have hsz := stepK_size lowN s k
      have hbk : byteN (stepK lowN s k) k = byteN s k := by rw [stepK_byte lowN lowN_lt s k hk, if_neg (by omega)]
      obtain ⟨hc, hf⟩ := hrow.out k (by omega)
      rw [hbk] at hc
      have q1 : (k : Int) < (s.size : Int) := by omega
      have q2 : (0 : Int) ≤ (k : Int) := by omega
      have hb256 := byteN_lt s k
      have hmeas : s.size - ((k : Int) + 1).toNat < s.size - (k : Int).toNat := by omega
      have hstep : stepK lowN s (k + 1) = setByte (stepK lowN s k) k (lowN (byteN s k)) := rfl
      have HS := Aside0.mk hstep
      clear hstep
      by_cases h1 : 65 ≤ byteN s k
      · by_cases h2 : byteN s k ≤ 90
        · have d1 : decide ((byteN s k : Int) ≥ 65) = true := decide_eq_true (by omega)
          have d2 : decide ((byteN s k : Int) ≤ 90) = true := decide_eq_true (by omega)
          have hfv : lowN (byteN s k) = byteN s k + 32 := by unfold lowN; rw [if_pos ⟨h1, h2⟩]
          have hr1 := hrow.out.set k (byteN s k + 32) (by omega) (by omega)
          rw [← hfv, ← HS.out] at hr1
          have hb1 := hb.out.setCell (p := ⟨w.heap.size, k, none⟩) (by show w.heap.size ≤ w.heap.size; exact Nat.le_refl _) (.int .u8 ((byteN s k : Int) + 32))
          rw [hfv, show ((byteN s k + 32 : Nat) : Int) = (byteN s k : Int) + 32 by omega] at hr1
          have HR1 := Aside0.mk hr1
          have HB1 := Aside0.mk hb1
          clear hr1 hb1
          go_wp2
          try go_roundw
          all_goals first | exact ⟨⟨k + 1, by simp, hlt, HR1, HB1⟩, hmeas⟩ | exact ⟨k + 1, by simp, hlt, HR1, HB1⟩ | exact hmeas
        · have d1 : decide ((byteN s k : Int) ≥ 65) = true := decide_eq_true (by omega)
          have d2 : decide ((byteN s k : Int) ≤ 90) = false := decide_eq_false (by omega)
          have hfv : stepK lowN s (k + 1) = stepK lowN s k := by rw [HS.out, show lowN (byteN s k) = byteN (stepK lowN s k) k by rw [hbk]; unfold lowN; rw [if_neg (by omega)], setByte_same _ _ (by omega)]
          go_wp2
          try go_roundw
          all_goals first | exact ⟨⟨k + 1, by simp, hlt, ⟨by rw [hfv]; exact hrow.out⟩, hb⟩, hmeas⟩ | exact ⟨k + 1, by simp, hlt, ⟨by rw [hfv]; exact hrow.out⟩, hb⟩ | exact hmeas
      · have d1 : decide ((byteN s k : Int) ≥ 65) = false := decide_eq_false (by omega)
        have hfv : stepK lowN s (k + 1) = stepK lowN s k := by rw [HS.out, show lowN (byteN s k) = byteN (stepK lowN s k) k by rw [hbk]; unfold lowN; rw [if_neg (by omega)], setByte_same _ _ (by omega)]
        go_wp2
        try go_roundw
        all_goals first | exact ⟨⟨k + 1, by simp, hlt, ⟨by rw [hfv]; exact hrow.out⟩, hb⟩, hmeas⟩ | exact ⟨k + 1, by simp, hlt, ⟨by rw [hfv]; exact hrow.out⟩, hb⟩ | exact hmeas
    · have hlt0 : decide ((k : Int) < (s.size : Int)) = false := decide_eq_false (by omega)
      have hkl : k = s.size := by omega
      have hst := hrow.out.string (grownCap w s.size 0 5)
      rw [stepK_size, hkl] at hst
      go_wp2
      go_ret
      exact ⟨rfl, hb.out⟩
set_option maxRecDepth 100000 in
theorem text_Lower_walk (s : ByteArray) (w : World) (hs : s.size ≤ 140737488355328) :
    Calls Try.prog 35 #[.string s] w fun e w' => e = .returned (.string (mapB lowN s)) ∧ Below w.heap.size w w' := by
  go_enter Try.func35, Try.ntmps35
  go_wp2_with (go_at_call 73; refine (text_lower_walk s _ hs).mono ?_; rintro e w1 ⟨rfl, hb⟩; have HB := Aside0.mk hb; clear hb)
  go_ret
  exact ⟨rfl, HB.out⟩
def text_Lower.f (a0 : ByteArray) : Option (ByteArray) := if shortB a0 = true then some (mapB lowN a0) else none
theorem text_Lower.calls (a0 : ByteArray) (r : ByteArray) (w : World) (h : text_Lower.f a0 = some r) :
    Calls Try.prog 35 #[.string a0] w fun e w' => e = .returned (.string r) ∧ Below w.heap.size w w' := by
  unfold text_Lower.f at h
  split at h
  case isFalse => cases h
  rename_i hc
  obtain rfl := Option.some.inj h
  exact text_Lower_walk a0 w (of_decide_eq_true hc)
end Go.Proofs.Ytebmbfobmakheaa.PD
namespace Go.Proofs.Ytebmbfobmakheaa.PD
open Go.RowKit Go.Proofs.YtebmbfobmakheaaW.PrintWords Go.Proofs.YtebmbfobmakheaaW.PrintLast Go.Proofs.YtebmbfobmakheaaW.PrintMore
attribute [local go_sem] isSome_setCell max2_int min2_int max_two min_two max_three min_three max_four min_four
set_option linter.unusedVariables false
set_option linter.unusedSimpArgs false
def stringslite_HasPrefix.f (a0 : ByteArray) (a1 : ByteArray) : Option (Bool) := if (a0.size : Int) ≥ (a1.size : Int) then (if 0 ≤ (a1.size : Int) then (if (a1.size : Int) ≤ (a0.size : Int) then (some ((a0.extract 0 ((a1.size : Int) : Int).toNat).toList == a1.toList)) else (none)) else (none)) else (some false)
set_option maxHeartbeats 8000000 in
set_option maxRecDepth 100000 in
theorem stringslite_HasPrefix.calls (a0 : ByteArray) (a1 : ByteArray) (r : Bool) (w : World) (h : stringslite_HasPrefix.f a0 a1 = some r) :
  Calls Try.prog 74 #[.string a0, .string a1] w fun e w' => e = .returned (.bool r) ∧ Drawn0 w w' := by
 have H : (if (a0.size : Int) ≥ (a1.size : Int) then (if 0 ≤ (a1.size : Int) then (if (a1.size : Int) ≤ (a0.size : Int) then (some ((a0.extract 0 ((a1.size : Int) : Int).toNat).toList == a1.toList)) else (none)) else (none)) else (some false)) = some r := h
 clear h
 by_cases c3 : (a0.size : Int) ≥ (a1.size : Int)
 ·rw [if_pos c3] at H
  have c3b0 : decide ((a1.size : Int) ≤ (a0.size : Int)) = true := decide_eq_true c3
  have c3b1 : decide (a1.size ≤ a0.size) = true := decide_eq_true (Int.ofNat_le.mp c3)
  clear c3
  by_cases c4 : 0 ≤ (a1.size : Int)
  ·rw [if_pos c4] at H
   have c4b0 := eq_true c4
   have c4b1 : decide (0 ≤ (a1.size : Int)) = true := decide_eq_true c4
   clear c4
   by_cases c5 : (a1.size : Int) ≤ (a0.size : Int)
   ·rw [if_pos c5] at H
    have c5b0 := eq_true c5
    have c5b1 : decide ((a1.size : Int) ≤ (a0.size : Int)) = true := decide_eq_true c5
    clear c5
    obtain rfl := Option.some.inj H
    go_enter Try.func74, Try.ntmps74
    go_wp2
    go_ret
    exact ⟨by first | rfl | (simp; done) | (simp [*]; done), by repeat (first | exact Drawn0.refl _ | apply Drawn0.step)⟩
   ·rw [if_neg c5] at H
    exact absurd H (by simp)
  ·rw [if_neg c4] at H
   exact absurd H (by simp)
 ·rw [if_neg c3] at H
  have c3b0 : decide ((a1.size : Int) ≤ (a0.size : Int)) = false := decide_eq_false c3
  have c3b1 : decide (a1.size ≤ a0.size) = false := decide_eq_false (fun h => c3 (Int.ofNat_le.mpr h))
  clear c3
  obtain rfl := Option.some.inj H
  go_enter Try.func74, Try.ntmps74
  go_wp2
  go_ret
  exact ⟨by first | rfl | (simp; done) | (simp [*]; done), by repeat (first | exact Drawn0.refl _ | apply Drawn0.step)⟩
end Go.Proofs.Ytebmbfobmakheaa.PD
namespace Go.Proofs.Ytebmbfobmakheaa.PD
open Go.RowKit Go.Proofs.YtebmbfobmakheaaW.PrintWords Go.Proofs.YtebmbfobmakheaaW.PrintLast Go.Proofs.YtebmbfobmakheaaW.PrintMore
attribute [local go_sem] isSome_setCell max2_int min2_int max_two min_two max_three min_three max_four min_four
set_option linter.unusedVariables false
set_option linter.unusedSimpArgs false
def strings_HasPrefix.f (a0 : ByteArray) (a1 : ByteArray) : Option (Bool) := (stringslite_HasPrefix.f a0 a1).bind fun t113 => (some t113)
set_option maxHeartbeats 8000000 in
set_option maxRecDepth 100000 in
theorem strings_HasPrefix.calls (a0 : ByteArray) (a1 : ByteArray) (r : Bool) (w : World) (h : strings_HasPrefix.f a0 a1 = some r) :
  Calls Try.prog 36 #[.string a0, .string a1] w fun e w' => e = .returned (.bool r) ∧ Drawn0 w w' := by
 have H : ((stringslite_HasPrefix.f a0 a1).bind fun t113 => (some t113)) = some r := h
 clear h
 replace H := Option.bind_eq_some_iff.mp H
 obtain ⟨t113, A30, H⟩ := H
 replace H : (some t113) = some r := H
 have A3 := Aside0.mk A30
 clear A30
 obtain rfl := Option.some.inj H
 go_enter Try.func36, Try.ntmps36
 go_wp2_with (first | ((with_reducible refine gate_callee (f := 74) rfl ?_); refine goesL_ (some 7) rfl rfl Try.func74 (by kernel_rfl) rfl #[.string a0, .string a1] rfl (by (try simp only [List.map_toArray, List.map_cons, List.map_nil]); first | done | rfl | (simp only [List.length_drop, List.length_take]; rfl)) ?_; (with_reducible refine (stringslite_HasPrefix.calls a0 a1 t113 _ A3.out).mono ?_); rintro e w' ⟨rfl, ⟨nd, rfl⟩⟩; refine ⟨_, rfl, ?_⟩))
 go_ret
 exact ⟨by first | rfl | (simp; done) | (simp [*]; done), by repeat (first | exact Drawn0.refl _ | apply Drawn0.step)⟩
end Go.Proofs.Ytebmbfobmakheaa.PD
namespace Go.Proofs.Ytebmbfobmakheaa.PD
open Go.RowKit Go.Proofs.YtebmbfobmakheaaW.PrintWords Go.Proofs.YtebmbfobmakheaaW.PrintLast Go.Proofs.YtebmbfobmakheaaW.PrintMore
attribute [local go_sem] isSome_setCell max2_int min2_int max_two min_two max_three min_three max_four min_four
set_option linter.unusedVariables false
set_option linter.unusedSimpArgs false
def stringslite_HasSuffix.f (a0 : ByteArray) (a1 : ByteArray) : Option (Bool) := if (a0.size : Int) ≥ (a1.size : Int) then (if 0 ≤ (wrap64 ((a0.size : Int) - (a1.size : Int))) then (if (wrap64 ((a0.size : Int) - (a1.size : Int))) ≤ (a0.size : Int) then (some ((a0.extract ((wrap64 ((a0.size : Int) - (a1.size : Int))) : Int).toNat a0.size).toList == a1.toList)) else (none)) else (none)) else (some false)
set_option maxHeartbeats 8000000 in
set_option maxRecDepth 100000 in
theorem stringslite_HasSuffix.calls (a0 : ByteArray) (a1 : ByteArray) (r : Bool) (w : World) (h : stringslite_HasSuffix.f a0 a1 = some r) :
  Calls Try.prog 75 #[.string a0, .string a1] w fun e w' => e = .returned (.bool r) ∧ Drawn0 w w' := by
 have H : (if (a0.size : Int) ≥ (a1.size : Int) then (if 0 ≤ (wrap64 ((a0.size : Int) - (a1.size : Int))) then (if (wrap64 ((a0.size : Int) - (a1.size : Int))) ≤ (a0.size : Int) then (some ((a0.extract ((wrap64 ((a0.size : Int) - (a1.size : Int))) : Int).toNat a0.size).toList == a1.toList)) else (none)) else (none)) else (some false)) = some r := h
 clear h
 by_cases c3 : (a0.size : Int) ≥ (a1.size : Int)
 ·rw [if_pos c3] at H
  have c3b0 : decide ((a1.size : Int) ≤ (a0.size : Int)) = true := decide_eq_true c3
  have c3b1 : decide (a1.size ≤ a0.size) = true := decide_eq_true (Int.ofNat_le.mp c3)
  clear c3
  obtain ⟨ji4, hji4⟩ : ∃ j_ : Int, (wrap64 ((a0.size : Int) - (a1.size : Int))) = j_ := ⟨_, rfl⟩
  replace H : (if 0 ≤ (ji4) then (if (ji4) ≤ (a0.size : Int) then (some ((a0.extract ((ji4) : Int).toNat a0.size).toList == a1.toList)) else (none)) else (none)) = some r := by first | (rw [hji4] at H; exact H) | (simp only [hji4] at H ⊢; exact H)
  have hji4w : (IntKind.i64.wrap ((a0.size : Int) - (a1.size : Int))) = ji4 := (i64_w _).trans hji4
  by_cases c5 : 0 ≤ (ji4)
  ·rw [if_pos c5] at H
   have c5b0 := eq_true c5
   have c5b1 : decide (0 ≤ (ji4)) = true := decide_eq_true c5
   clear c5
   by_cases c6 : (ji4) ≤ (a0.size : Int)
   ·rw [if_pos c6] at H
    have c6b0 := eq_true c6
    have c6b1 : decide ((ji4) ≤ (a0.size : Int)) = true := decide_eq_true c6
    clear c6
    obtain rfl := Option.some.inj H
    go_enter Try.func75, Try.ntmps75
    go_wp2
    go_ret
    exact ⟨by first | rfl | (simp; done) | (simp only [← hji4] <;> (first | rfl | simp)) | (simp [*]; done), by repeat (first | exact Drawn0.refl _ | apply Drawn0.step)⟩
   ·rw [if_neg c6] at H
    exact absurd H (by simp)
  ·rw [if_neg c5] at H
   exact absurd H (by simp)
 ·rw [if_neg c3] at H
  have c3b0 : decide ((a1.size : Int) ≤ (a0.size : Int)) = false := decide_eq_false c3
  have c3b1 : decide (a1.size ≤ a0.size) = false := decide_eq_false (fun h => c3 (Int.ofNat_le.mpr h))
  clear c3
  obtain rfl := Option.some.inj H
  go_enter Try.func75, Try.ntmps75
  go_wp2
  go_ret
  exact ⟨by first | rfl | (simp; done) | (simp [*]; done), by repeat (first | exact Drawn0.refl _ | apply Drawn0.step)⟩
end Go.Proofs.Ytebmbfobmakheaa.PD
namespace Go.Proofs.Ytebmbfobmakheaa.PD
open Go.RowKit Go.Proofs.YtebmbfobmakheaaW.PrintWords Go.Proofs.YtebmbfobmakheaaW.PrintLast Go.Proofs.YtebmbfobmakheaaW.PrintMore
attribute [local go_sem] isSome_setCell max2_int min2_int max_two min_two max_three min_three max_four min_four
set_option linter.unusedVariables false
set_option linter.unusedSimpArgs false
def strings_HasSuffix.f (a0 : ByteArray) (a1 : ByteArray) : Option (Bool) := (stringslite_HasSuffix.f a0 a1).bind fun t114 => (some t114)
set_option maxHeartbeats 8000000 in
set_option maxRecDepth 100000 in
theorem strings_HasSuffix.calls (a0 : ByteArray) (a1 : ByteArray) (r : Bool) (w : World) (h : strings_HasSuffix.f a0 a1 = some r) :
  Calls Try.prog 37 #[.string a0, .string a1] w fun e w' => e = .returned (.bool r) ∧ Drawn0 w w' := by
 have H : ((stringslite_HasSuffix.f a0 a1).bind fun t114 => (some t114)) = some r := h
 clear h
 replace H := Option.bind_eq_some_iff.mp H
 obtain ⟨t114, A30, H⟩ := H
 replace H : (some t114) = some r := H
 have A3 := Aside0.mk A30
 clear A30
 obtain rfl := Option.some.inj H
 go_enter Try.func37, Try.ntmps37
 go_wp2_with (first | ((with_reducible refine gate_callee (f := 75) rfl ?_); refine goesL_ (some 7) rfl rfl Try.func75 (by kernel_rfl) rfl #[.string a0, .string a1] rfl (by (try simp only [List.map_toArray, List.map_cons, List.map_nil]); first | done | rfl | (simp only [List.length_drop, List.length_take]; rfl)) ?_; (with_reducible refine (stringslite_HasSuffix.calls a0 a1 t114 _ A3.out).mono ?_); rintro e w' ⟨rfl, ⟨nd, rfl⟩⟩; refine ⟨_, rfl, ?_⟩))
 go_ret
 exact ⟨by first | rfl | (simp; done) | (simp [*]; done), by repeat (first | exact Drawn0.refl _ | apply Drawn0.step)⟩
end Go.Proofs.Ytebmbfobmakheaa.PD
namespace Go.Proofs.Ytebmbfobmakheaa.PD
open Go.RowKit Go.Proofs.YtebmbfobmakheaaW.PrintWords Go.Proofs.YtebmbfobmakheaaW.PrintLast Go.Proofs.YtebmbfobmakheaaW.PrintMore
section
variable {P : Program} {ops : Array Oper} {rest : List Oper} {o : Oper} {a : Act} {Q : Exit → Act → World → Prop} {W : World}
theorem gate_tmp {t : Tmp} {xs : Array Operand} {ts : Array TypeId} (_ho : o.op = .call { callee := .value (.tmp t), args := xs, argTypes := ts }) (h : wpList P ops Q (o :: rest) a W) : wpList P ops Q (o :: rest) a W := h
theorem goesF_ {rest : List Oper} {oi : Oper} {a : Act} {w : World} (N : Option Tmp) (hd : oi.dst = N) (hg : oi.guard = none) {f : FuncId} {fn : Func} {xs : Array Operand} {ts : Array TypeId} (hf : P.funcs[f]? = some fn) (hname : (fn.name == "runtime.NumGoroutine") = false) (hb : fn.body.isSome = true) (args : Array Value)
    {c : Operand} {lb : Array Value} (hop : oi.op = .call { callee := .value c, args := xs, argTypes := ts }) (hc : a.eval c = .func (.func f) #[] lb) (hargs : xs.map a.eval ++ lb = args)
    (h : Calls P f args w fun e w' => ∃ v, e = .returned v ∧ wpList P ops Q rest (a.put N v) w') : wpList P ops Q (oi :: rest) a w := by
  refine wpList_plain hg fun K hK => ?_
  have he := enters_ hf hname hb args w
  have hrun : (execOp a.eval oi).run P w = .ok (.enter f args) w := by
    unfold execOp
    simp [hop, resolve, Deferred.ofValue, invoke, hc, hargs, he]
  unfold Oper.wp
  rw [hrun, Oper.upon_enter]
  refine h.mono fun e w'' hh => ?_
  obtain ⟨v, rfl, hk⟩ := hh
  subst hd
  exact hK _ _ hk
end
end Go.Proofs.Ytebmbfobmakheaa.PD
namespace Go.Proofs.Ytebmbfobmakheaa.PD
open Go.RowKit Go.Proofs.YtebmbfobmakheaaW.PrintWords Go.Proofs.YtebmbfobmakheaaW.PrintLast Go.Proofs.YtebmbfobmakheaaW.PrintMore
attribute [local go_sem] isSome_setCell max2_int min2_int max_two min_two
set_option linter.unusedVariables false
set_option linter.unusedSimpArgs false
theorem toList_inj {a b : ByteArray} (h : a.toList = b.toList) : a = b := by
  rw [Lib.toList_data, Lib.toList_data] at h
  cases a; cases b
  simp only at h
  congr 1
  exact Array.toList_inj.1 h
def badR (r : Int) : Bool := decide (r < 33) || (decide (126 < r) || decide (r = 47))
def badB (s : ByteArray) (i : Nat) : Bool := badR ((s.data.getD i 0).toNat : Int)
set_option maxRecDepth 100000 in
set_option maxHeartbeats 1600000 in
theorem bad_calls (r : Int) (b : Bool) (hb : badR r = b) (w : World) : Calls Try.prog 76 (#[.int .i32 r] ++ #[]) w fun e w' => e = .returned (.bool b) ∧ w' = w := by
  unfold badR at hb
  subst hb
  by_cases h1 : r < 33
  · have d1 : decide (r < 33) = true := decide_eq_true h1
    go_enter Try.func76, Try.ntmps76
    go_wp2
    go_ret
    exact ⟨by simp [h1], rfl⟩
  · have d1 : decide (r < 33) = false := decide_eq_false h1
    by_cases h2 : 126 < r
    · have d2 : decide (r > 126) = true := decide_eq_true h2
      go_enter Try.func76, Try.ntmps76
      go_wp2
      go_ret
      exact ⟨by simp [h1, h2], rfl⟩
    · have d2 : decide (r > 126) = false := decide_eq_false h2
      go_enter Try.func76, Try.ntmps76
      go_wp2
      go_ret
      refine ⟨?_, rfl⟩
      have e : ∀ a c : Int, (a == c) = decide (a = c) := fun a c => by rw [Bool.eq_iff_iff]; simp
      simp [h1, h2, e]
theorem iter_below (w : World) (s : ByteArray) (p : Nat) : Below w.heap.size w (w.iter s p) := below_alloc (Below.refl _ w) _
set_option maxRecDepth 100000 in
set_option maxHeartbeats 4000000 in
theorem indexFunc_walk (s : ByteArray) (w : World) (hs : s.size ≤ 140737488355328) :
    Calls Try.prog 98 #[.string s, .func (.func 76) #[] #[], .bool true] w fun e w' => ∃ n : Int, e = .returned (.int .i64 n) ∧ (n < 0 ↔ ∀ i, i < s.size → badB s i = false) ∧ Below w.heap.size w w' := by
  have HB := Aside0.mk (iter_below w s 0)
  go_enter Try.func98, Try.ntmps98
  go_wp2
  go_loopw [7] (fun _ wr => ∃ pos : Nat, wr = w.iter s pos ∧ pos ≤ s.size ∧ Aside0 (∀ i, i < pos → badB s i = false)) (fun _ wr => s.size - wr.iterPos w.heap.size)
  case atStart => exact ⟨0, rfl, Nat.zero_le _, ⟨fun i hi => absurd hi (Nat.not_lt_zero _)⟩⟩
  case round =>
    obtain ⟨pos, rfl, hpos, hno⟩ := hrel
    by_cases hlt : pos < s.size
    · have hnx := fun ty => run_next_any (P := Try.prog) w s pos ty hlt
      obtain ⟨rn, ern⟩ : ∃ rn, Utf8.decode s pos = rn := ⟨_, rfl⟩
      rw [ern] at hnx
      by_cases hbad : badR (rn.1 : Int) = true
      · have HC := Aside0.mk (bad_calls (rn.1 : Int) true hbad (w.iter s (pos + rn.2)))
        have hnn : ¬ ∀ i, i < s.size → badB s i = false := by
          intro hall
          have h0 := hall pos hlt
          have hb0 : badB s pos = badR ((s[pos]'hlt).toNat : Int) := by unfold badB; congr 3; exact (Array.getD_eq_getD_getElem? ..).trans (by rw [Array.getElem?_eq_getElem hlt]; rfl)
          by_cases ha : (s[pos]'hlt).toNat < 128
          · have := decode_ascii s pos hlt ha
            rw [ern] at this
            rw [hb0] at h0
            rw [this] at hbad
            rw [hbad] at h0
            cases h0
          · rw [hb0] at h0
            unfold badR at h0
            simp at h0
            omega
        have HN := Aside0.mk hnn
        clear hnn
        go_wp2_with ((with_reducible refine gate_tmp (t := 15) rfl ?_); refine goesF_ (some 17) rfl rfl Try.func76 (by kernel_rfl) rfl (args := #[.int .i32 (rn.1 : Int)] ++ #[]) rfl rfl (by (try simp only [List.map_toArray, List.map_cons, List.map_nil]); first | done | rfl) ?_; refine HC.out.mono ?_; rintro e W' ⟨rfl, rfl⟩; refine ⟨_, rfl, ?_⟩)
        go_ret
        exact ⟨_, rfl, ⟨fun h => by omega, fun h => absurd h HN.out⟩, iter_below w s _⟩
      · have hbad' : badR (rn.1 : Int) = false := by simpa using hbad
        have HC := Aside0.mk (bad_calls (rn.1 : Int) false hbad' (w.iter s (pos + rn.2)))
        have ha : (s[pos]'hlt).toNat < 128 := by
          rcases Nat.lt_or_ge (s[pos]'hlt).toNat 128 with h | h
          · exact h
          · have := (decode_high s pos hlt h).1
            rw [ern] at this
            unfold badR at hbad'
            simp at hbad'
            omega
        have hd := decode_ascii s pos hlt ha
        rw [ern] at hd
        subst hd
        have hb0 : badB s pos = false := by
          rw [← hbad']
          unfold badB
          congr 3
          exact (Array.getD_eq_getD_getElem? ..).trans (by rw [Array.getElem?_eq_getElem hlt]; rfl)
        have HNX := Aside0.mk (show ∀ i, i < pos + 1 → badB s i = false from fun i hi => by
          rcases Nat.lt_or_ge i pos with h | h
          · exact hno.out i h
          · have e : i = pos := by omega
            rw [e]; exact hb0)
        clear hb0 hbad hbad' ern
        go_wp2_with ((with_reducible refine gate_tmp (t := 15) rfl ?_); refine goesF_ (some 17) rfl rfl Try.func76 (by kernel_rfl) rfl (args := #[.int .i32 ((s[pos]'hlt).toNat : Int)] ++ #[]) rfl rfl (by (try simp only [List.map_toArray, List.map_cons, List.map_nil]); first | done | rfl) ?_; refine HC.out.mono ?_; rintro e W' ⟨rfl, rfl⟩; refine ⟨_, rfl, ?_⟩)
        go_roundw
        case rel => exact ⟨pos + 1, rfl, hlt, HNX⟩
        case measure => rw [World.iterPos_iter, World.iterPos_iter]; omega
    · have hnx := fun ty => run_next_end (P := Try.prog) w s pos ty hlt
      go_wp2
      go_ret
      exact ⟨-1, rfl, ⟨fun _ i hi => hno.out i (by omega), fun _ => by omega⟩, iter_below w s pos⟩
def allGood (s : ByteArray) : Bool := (List.range s.size).all fun i => !badB s i
theorem allGood_iff (s : ByteArray) : allGood s = true ↔ ∀ i, i < s.size → badB s i = false := by unfold allGood; simp
def nameP (s : ByteArray) : Bool := (s.toList != ([] : List UInt8)) && (decide (s.size ≤ 24) && ((s.toList != ([46] : List UInt8)) && ((s.toList != ([46, 46] : List UInt8)) && allGood s)))
set_option maxRecDepth 100000 in
set_option maxHeartbeats 4000000 in
theorem indexFuncS_walk (s : ByteArray) (w : World) (hs : s.size ≤ 140737488355328) :
    Calls Try.prog 77 #[.string s, .func (.func 76) #[] #[]] w fun e w' => ∃ n : Int, e = .returned (.int .i64 n) ∧ (n < 0 ↔ ∀ i, i < s.size → badB s i = false) ∧ Below w.heap.size w w' := by
  go_enter Try.func77, Try.ntmps77
  go_wp2_with (go_at_call 98; refine (indexFunc_walk s w hs).mono ?_; rintro e w1 ⟨n, rfl, hn, hb⟩; have HN := Aside0.mk hn; have HB := Aside0.mk hb; clear hn hb)
  go_ret
  exact ⟨n, rfl, HN.out, HB.out⟩
set_option maxRecDepth 100000 in
set_option maxHeartbeats 4000000 in
theorem dir_Name_walk (s : ByteArray) (w : World) (hs : s.size ≤ 140737488355328) :
    Calls Try.prog 38 #[.string s] w fun e w' => e = .returned (.bool (nameP s)) ∧ Below w.heap.size w w' := by
  by_cases h1 : s.toList = ([] : List UInt8)
  · obtain rfl : s = ⟨#[]⟩ := toList_inj (h1.trans (by kernel_rfl))
    go_enter Try.func38, Try.ntmps38
    go_wp2
    go_ret
    exact ⟨by rw [show nameP ⟨#[]⟩ = false by decide +kernel]; rfl, Below.refl _ _⟩
  · have h1' : s.toList.isEmpty = false := by cases hh : s.toList with | nil => exact absurd hh h1 | cons a b => rfl
    have g1 : (s.toList != ([] : List UInt8)) = true := bne_iff_ne.2 h1
    cases h2 : decide (s.size ≤ 24) with
    | false =>
      have hP : nameP s = false := by unfold nameP; rw [h2]; simp
      rw [hP]
      have d2 : decide ((s.size : Int) ≤ 24) = false := decide_eq_false (by have := of_decide_eq_false h2; omega)
      go_enter Try.func38, Try.ntmps38
      go_wp2
      go_ret
      exact ⟨by first | rfl | (simp [h1', d2]; done), Below.refl _ _⟩
    | true =>
      have d2 : decide ((s.size : Int) ≤ 24) = true := decide_eq_true (by have := of_decide_eq_true h2; omega)
      by_cases h3 : s.toList = ([46] : List UInt8)
      · obtain rfl : s = ⟨#[46]⟩ := toList_inj (h3.trans (by kernel_rfl))
        go_enter Try.func38, Try.ntmps38
        go_wp2
        go_ret
        exact ⟨by rw [show nameP ⟨#[46]⟩ = false by decide +kernel]; rfl, Below.refl _ _⟩
      · by_cases h4 : s.toList = ([46, 46] : List UInt8)
        · obtain rfl : s = ⟨#[46, 46]⟩ := toList_inj (h4.trans (by kernel_rfl))
          go_enter Try.func38, Try.ntmps38
          go_wp2
          go_ret
          exact ⟨by rw [show nameP ⟨#[46, 46]⟩ = false by decide +kernel]; rfl, Below.refl _ _⟩
        · have hP : nameP s = allGood s := by unfold nameP; rw [g1, h2, bne_iff_ne.2 h3, bne_iff_ne.2 h4]; rfl
          rw [hP]
          have q3 : (s.toList = ([46] : List UInt8)) = False := eq_false h3
          have q4 : (s.toList = ([46, 46] : List UInt8)) = False := eq_false h4
          go_enter Try.func38, Try.ntmps38
          go_wp2_with (go_at_call 77; refine (indexFuncS_walk s w hs).mono ?_; rintro e w1 ⟨n, rfl, hn, hb⟩; have HN := Aside0.mk hn; have HB := Aside0.mk hb; clear hn hb)
          go_ret
          refine ⟨?_, HB.out⟩
          have : decide (n < 0) = allGood s := by rw [Bool.eq_iff_iff, decide_eq_true_iff, allGood_iff]; exact HN.out
          simp [h1', d2, q3, q4, this]
def dir_Name.f (a0 : ByteArray) : Option (Bool) := if a0.size ≤ 140737488355328 then some (nameP a0) else none
theorem dir_Name.calls (a0 : ByteArray) (r : Bool) (w : World) (h : dir_Name.f a0 = some r) :
    Calls Try.prog 38 #[.string a0] w fun e w' => e = .returned (.bool r) ∧ Below w.heap.size w w' := by
  unfold dir_Name.f at h
  split at h
  case isFalse => cases h
  rename_i hc
  obtain rfl := Option.some.inj h
  exact dir_Name_walk a0 w hc
end Go.Proofs.Ytebmbfobmakheaa.PD
namespace Go.Proofs.Ytebmbfobmakheaa.PD
open Go.RowKit Go.Proofs.YtebmbfobmakheaaW.PrintWords Go.Proofs.YtebmbfobmakheaaW.PrintLast Go.Proofs.YtebmbfobmakheaaW.PrintMore
attribute [local go_sem] isSome_setCell max2_int min2_int max_two min_two max_three min_three max_four min_four
set_option linter.unusedVariables false
set_option linter.unusedSimpArgs false
def itip_User.j0 : Nat → ByteArray → Bool → Option (ByteArray × Bool)
 | 0, _, _ => none
 | k + 1, x0, x20 => if x20 = true then (some ((⟨#[]⟩ : ByteArray), false)) else (if 7 ≤ (wrap64 ((x0.size : Int) - 8)) then (if (wrap64 ((x0.size : Int) - 8)) ≤ (x0.size : Int) then ((dir_Name.f (x0.extract 7 ((wrap64 ((x0.size : Int) - 8)) : Int).toNat)).bind fun t121 => (if t121 = true then (some (x0.extract 7 ((wrap64 ((x0.size : Int) - 8)) : Int).toNat, true)) else (some ((⟨#[]⟩ : ByteArray), false)))) else (none)) else (none))
def itip_User.f (k : Nat) (a0 : ByteArray) : Option (ByteArray × Bool) := (text_Lower.f a0).bind fun t118 => ((strings_HasPrefix.f t118 (⟨#[109, 97, 105, 108, 116, 111, 58]⟩ : ByteArray)).bind fun t119 => (if t119 = true then ((strings_HasSuffix.f t118 (⟨#[64, 97, 108, 109, 97, 110, 97, 99]⟩ : ByteArray)).bind fun t120 => (if t120 = true then (itip_User.j0 k a0 (decide ((a0.size : Int) < 15))) else (itip_User.j0 k a0 true))) else (itip_User.j0 k a0 true)))
set_option maxHeartbeats 8000000 in
set_option maxRecDepth 100000 in
theorem itip_User.calls (k : Nat) (a0 : ByteArray) (r1 : ByteArray) (r2 : Bool) (w : World) (h : itip_User.f k a0 = some (r1, r2)) :
  Calls Try.prog 8 #[.string a0] w fun e w' => e = .returned (.tuple #[.string r1, .bool r2]) ∧ Below w.heap.size w w' := by
 have HB := Aside0.mk (Below.refl w.heap.size w)
 have H : ((text_Lower.f a0).bind fun t118 => ((strings_HasPrefix.f t118 (⟨#[109, 97, 105, 108, 116, 111, 58]⟩ : ByteArray)).bind fun t119 => (if t119 = true then ((strings_HasSuffix.f t118 (⟨#[64, 97, 108, 109, 97, 110, 97, 99]⟩ : ByteArray)).bind fun t120 => (if t120 = true then (itip_User.j0 k a0 (decide ((a0.size : Int) < 15))) else (itip_User.j0 k a0 true))) else (itip_User.j0 k a0 true)))) = some (r1, r2) := h
 clear h
 replace H := Option.bind_eq_some_iff.mp H
 obtain ⟨t118, A20, H⟩ := H
 replace H : ((strings_HasPrefix.f t118 (⟨#[109, 97, 105, 108, 116, 111, 58]⟩ : ByteArray)).bind fun t119 => (if t119 = true then ((strings_HasSuffix.f t118 (⟨#[64, 97, 108, 109, 97, 110, 97, 99]⟩ : ByteArray)).bind fun t120 => (if t120 = true then (itip_User.j0 k a0 (decide ((a0.size : Int) < 15))) else (itip_User.j0 k a0 true))) else (itip_User.j0 k a0 true))) = some (r1, r2) := H
 have A2 := Aside0.mk A20
 clear A20
 have HC3 := Aside0.mk H
 clear H
 go_enter Try.func8, Try.ntmps8
 go_upto_region 2 with (first | ((with_reducible refine gate_callee (f := 35) rfl ?_); refine goesL_ (some 7) rfl rfl Try.func35 (by kernel_rfl) rfl #[.string a0] rfl (by (try simp only [List.map_toArray, List.map_cons, List.map_nil]); first | done | rfl | (simp only [List.length_drop, List.length_take]; rfl)) ?_; (with_reducible refine (text_Lower.calls a0 t118 _ A2.out).mono ?_); rintro e w4 ⟨rfl, hb⟩; refine ⟨_, rfl, ?_⟩; have n0_ := Aside0.mk (below_step (bU HB) hb); clear HB; have HB := n0_; clear n0_; (try clear hb); (try clear hb2); (try clear hk); (try clear hi)))
 (try simp only [Act.put, List.setIfInBounds_toArray, List.set_cons_zero, List.set_cons_succ])
 go_cut [20] (fun v20 wc => ∃ (kq : Nat) (x20_2 : Bool), v20 = .bool x20_2 ∧ Aside0 (itip_User.j0 kq a0 x20_2 = some (r1, r2)) ∧ Aside0 (kq ≤ k) ∧ Aside0 (Below w.heap.size w wc))
 case first =>
  have H := HC3.out
  clear HC3
  replace H := Option.bind_eq_some_iff.mp H
  obtain ⟨t119, A50, H⟩ := H
  replace H : (if t119 = true then ((strings_HasSuffix.f t118 (⟨#[64, 97, 108, 109, 97, 110, 97, 99]⟩ : ByteArray)).bind fun t120 => (if t120 = true then (itip_User.j0 k a0 (decide ((a0.size : Int) < 15))) else (itip_User.j0 k a0 true))) else (itip_User.j0 k a0 true)) = some (r1, r2) := H
  have A5 := Aside0.mk A50
  clear A50
  by_cases c6 : t119 = true
  ·subst c6
   have H1 : ((strings_HasSuffix.f t118 (⟨#[64, 97, 108, 109, 97, 110, 97, 99]⟩ : ByteArray)).bind fun t120 => (if t120 = true then (itip_User.j0 k a0 (decide ((a0.size : Int) < 15))) else (itip_User.j0 k a0 true))) = some (r1, r2) := by rw [if_pos rfl] at H; exact H
   clear H
   have H := H1
   clear H1
   replace H := Option.bind_eq_some_iff.mp H
   obtain ⟨t120, A70, H⟩ := H
   replace H : (if t120 = true then (itip_User.j0 k a0 (decide ((a0.size : Int) < 15))) else (itip_User.j0 k a0 true)) = some (r1, r2) := H
   have A7 := Aside0.mk A70
   clear A70
   by_cases c8 : t120 = true
   ·subst c8
    have H1 : (itip_User.j0 k a0 (decide ((a0.size : Int) < 15))) = some (r1, r2) := by rw [if_pos rfl] at H; exact H
    clear H
    have H := H1
    clear H1
    have H' := Aside0.mk H
    clear H
    go_wp2_with (first | ((with_reducible refine gate_callee (f := 36) rfl ?_); refine goesL_ (some 9) rfl rfl Try.func36 (by kernel_rfl) rfl #[.string t118, .string (⟨#[109, 97, 105, 108, 116, 111, 58]⟩ : ByteArray)] rfl (by (try simp only [List.map_toArray, List.map_cons, List.map_nil]); first | done | rfl | (simp only [List.length_drop, List.length_take]; rfl)) ?_; (with_reducible refine (strings_HasPrefix.calls t118 (⟨#[109, 97, 105, 108, 116, 111, 58]⟩ : ByteArray) true _ A5.out).mono ?_); rintro e w' ⟨rfl, ⟨nd, rfl⟩⟩; refine ⟨_, rfl, ?_⟩) | (go_at_call 37; (with_reducible refine (strings_HasSuffix.calls t118 (⟨#[64, 97, 108, 109, 97, 110, 97, 99]⟩ : ByteArray) true _ A7.out).mono ?_); rintro e w' ⟨rfl, ⟨nd, rfl⟩⟩))
    go_meet
    case rel => exact ⟨_, (decide ((a0.size : Int) < 15)), (by first | rfl | (simp; done) | (simp [*]; done)), H', ⟨by first | omega | exact Nat.le_refl _⟩, ⟨bU HB⟩⟩
   ·replace c8 := Bool.eq_false_iff.mpr c8
    subst c8
    have H1 : (itip_User.j0 k a0 true) = some (r1, r2) := by rw [if_neg (show ¬ (false = true) by decide)] at H; exact H
    clear H
    have H := H1
    clear H1
    have H' := Aside0.mk H
    clear H
    go_wp2_with (first | ((with_reducible refine gate_callee (f := 36) rfl ?_); refine goesL_ (some 9) rfl rfl Try.func36 (by kernel_rfl) rfl #[.string t118, .string (⟨#[109, 97, 105, 108, 116, 111, 58]⟩ : ByteArray)] rfl (by (try simp only [List.map_toArray, List.map_cons, List.map_nil]); first | done | rfl | (simp only [List.length_drop, List.length_take]; rfl)) ?_; (with_reducible refine (strings_HasPrefix.calls t118 (⟨#[109, 97, 105, 108, 116, 111, 58]⟩ : ByteArray) true _ A5.out).mono ?_); rintro e w' ⟨rfl, ⟨nd, rfl⟩⟩; refine ⟨_, rfl, ?_⟩) | (go_at_call 37; (with_reducible refine (strings_HasSuffix.calls t118 (⟨#[64, 97, 108, 109, 97, 110, 97, 99]⟩ : ByteArray) false _ A7.out).mono ?_); rintro e w' ⟨rfl, ⟨nd, rfl⟩⟩))
    go_meet
    case rel => exact ⟨_, (true), (by first | rfl | (simp; done) | (simp [*]; done)), H', ⟨by first | omega | exact Nat.le_refl _⟩, ⟨bU HB⟩⟩
  ·replace c6 := Bool.eq_false_iff.mpr c6
   subst c6
   have H1 : (itip_User.j0 k a0 true) = some (r1, r2) := by rw [if_neg (show ¬ (false = true) by decide)] at H; exact H
   clear H
   have H := H1
   clear H1
   have H' := Aside0.mk H
   clear H
   go_wp2_with (first | ((with_reducible refine gate_callee (f := 36) rfl ?_); refine goesL_ (some 9) rfl rfl Try.func36 (by kernel_rfl) rfl #[.string t118, .string (⟨#[109, 97, 105, 108, 116, 111, 58]⟩ : ByteArray)] rfl (by (try simp only [List.map_toArray, List.map_cons, List.map_nil]); first | done | rfl | (simp only [List.length_drop, List.length_take]; rfl)) ?_; (with_reducible refine (strings_HasPrefix.calls t118 (⟨#[109, 97, 105, 108, 116, 111, 58]⟩ : ByteArray) false _ A5.out).mono ?_); rintro e w' ⟨rfl, ⟨nd, rfl⟩⟩; refine ⟨_, rfl, ?_⟩))
   go_meet
   case rel => exact ⟨_, (true), (by first | rfl | (simp; done) | (simp [*]; done)), H', ⟨by first | omega | exact Nat.le_refl _⟩, ⟨bU HB⟩⟩
 case rest =>
  clear HC3
  try clear p2
  try clear c3
  try clear c6
  try clear c8
  obtain ⟨kq, x20_2, rfl, HA, HJ2, HB⟩ := hcut
  cases kq with
  | zero => exact absurd HA.out (by simp [itip_User.j0])
  | succ kj2 =>
   have H := HA.out
   clear HA
   simp only [itip_User.j0] at H
   by_cases c9 : x20_2 = true
   ·subst c9
    have H1 : (some ((⟨#[]⟩ : ByteArray), false)) = some (r1, r2) := by rw [if_pos rfl] at H; exact H
    clear H
    have H := H1
    clear H1
    simp only [Option.some.injEq, Prod.mk.injEq] at H
    obtain ⟨rfl, rfl⟩ := H
    go_wp2
    go_ret2
    exact ⟨eqU, bU HB⟩
   ·replace c9 := Bool.eq_false_iff.mpr c9
    subst c9
    have H1 : (if 7 ≤ (wrap64 ((a0.size : Int) - 8)) then (if (wrap64 ((a0.size : Int) - 8)) ≤ (a0.size : Int) then ((dir_Name.f (a0.extract 7 ((wrap64 ((a0.size : Int) - 8)) : Int).toNat)).bind fun t121 => (if t121 = true then (some (a0.extract 7 ((wrap64 ((a0.size : Int) - 8)) : Int).toNat, true)) else (some ((⟨#[]⟩ : ByteArray), false)))) else (none)) else (none)) = some (r1, r2) := by rw [if_neg (show ¬ (false = true) by decide)] at H; exact H
    clear H
    have H := H1
    clear H1
    by_cases c10 : 7 ≤ (wrap64 ((a0.size : Int) - 8))
    ·rw [if_pos c10] at H
     have c10b0 := eq_true c10
     have c10b1 : decide (7 ≤ (wrap64 ((a0.size : Int) - 8))) = true := decide_eq_true c10
     clear c10
     by_cases c11 : (wrap64 ((a0.size : Int) - 8)) ≤ (a0.size : Int)
     ·rw [if_pos c11] at H
      have c11b0 := eq_true c11
      have c11b1 : decide ((wrap64 ((a0.size : Int) - 8)) ≤ (a0.size : Int)) = true := decide_eq_true c11
      clear c11
      replace H := Option.bind_eq_some_iff.mp H
      obtain ⟨t121, A120, H⟩ := H
      replace H : (if t121 = true then (some (a0.extract 7 ((wrap64 ((a0.size : Int) - 8)) : Int).toNat, true)) else (some ((⟨#[]⟩ : ByteArray), false))) = some (r1, r2) := H
      have A12 := Aside0.mk A120
      clear A120
      by_cases c13 : t121 = true
      ·subst c13
       have H1 : (some (a0.extract 7 ((wrap64 ((a0.size : Int) - 8)) : Int).toNat, true)) = some (r1, r2) := by rw [if_pos rfl] at H; exact H
       clear H
       have H := H1
       clear H1
       simp only [Option.some.injEq, Prod.mk.injEq] at H
       obtain ⟨rfl, rfl⟩ := H
       go_wp2_with (first | ((with_reducible refine gate_callee (f := 38) rfl ?_); refine goesL_ (some 27) rfl rfl Try.func38 (by kernel_rfl) rfl #[.string (a0.extract 7 ((wrap64 ((a0.size : Int) - 8)) : Int).toNat)] rfl (by (try simp only [List.map_toArray, List.map_cons, List.map_nil]); first | done | rfl | (simp only [List.length_drop, List.length_take]; rfl)) ?_; (with_reducible refine (dir_Name.calls (a0.extract 7 ((wrap64 ((a0.size : Int) - 8)) : Int).toNat) true _ A12.out).mono ?_); rintro e w14 ⟨rfl, hb⟩; refine ⟨_, rfl, ?_⟩; have n0_ := Aside0.mk (below_step (bU HB) hb); clear HB; have HB := n0_; clear n0_; (try clear hb); (try clear hb2); (try clear hk); (try clear hi)))
       go_ret2
       exact ⟨eqU, bU HB⟩
      ·replace c13 := Bool.eq_false_iff.mpr c13
       subst c13
       have H1 : (some ((⟨#[]⟩ : ByteArray), false)) = some (r1, r2) := by rw [if_neg (show ¬ (false = true) by decide)] at H; exact H
       clear H
       have H := H1
       clear H1
       simp only [Option.some.injEq, Prod.mk.injEq] at H
       obtain ⟨rfl, rfl⟩ := H
       go_wp2_with (first | ((with_reducible refine gate_callee (f := 38) rfl ?_); refine goesL_ (some 27) rfl rfl Try.func38 (by kernel_rfl) rfl #[.string (a0.extract 7 ((wrap64 ((a0.size : Int) - 8)) : Int).toNat)] rfl (by (try simp only [List.map_toArray, List.map_cons, List.map_nil]); first | done | rfl | (simp only [List.length_drop, List.length_take]; rfl)) ?_; (with_reducible refine (dir_Name.calls (a0.extract 7 ((wrap64 ((a0.size : Int) - 8)) : Int).toNat) false _ A12.out).mono ?_); rintro e w15 ⟨rfl, hb⟩; refine ⟨_, rfl, ?_⟩; have n0_ := Aside0.mk (below_step (bU HB) hb); clear HB; have HB := n0_; clear n0_; (try clear hb); (try clear hb2); (try clear hk); (try clear hi)))
       go_ret2
       exact ⟨eqU, bU HB⟩
     ·rw [if_neg c11] at H
      exact absurd H (by simp)
    ·rw [if_neg c10] at H
     exact absurd H (by simp)
end Go.Proofs.Ytebmbfobmakheaa.PD
namespace Go.Proofs.Ytebmbfobmakheaa.PD
open Go.RowKit Go.Proofs.YtebmbfobmakheaaW.PrintWords Go.Proofs.YtebmbfobmakheaaW.PrintLast Go.Proofs.YtebmbfobmakheaaW.PrintMore
attribute [local go_sem] isSome_setCell max2_int min2_int max_two min_two max_three min_three max_four min_four
set_option linter.unusedVariables false
set_option linter.unusedSimpArgs false
def itip_alike.f (k : Nat) (a0 : ByteArray) (a1 : ByteArray) : Option (Bool) := (itip_User.f k a0).bind fun bt156 => ((itip_User.f k a1).bind fun bt158 => (if a0.toList = a1.toList then (some true) else (if bt156.2 = true then (if bt158.2 = true then (some (bt156.1.toList == bt158.1.toList)) else (some false)) else (some false))))
set_option maxHeartbeats 8000000 in
set_option maxRecDepth 100000 in
theorem itip_alike.calls (k : Nat) (a0 : ByteArray) (a1 : ByteArray) (r : Bool) (w : World) (h : itip_alike.f k a0 a1 = some r) :
  Calls Try.prog 48 #[.string a0, .string a1] w fun e w' => e = .returned (.bool r) ∧ Below w.heap.size w w' := by
 have HB := Aside0.mk (Below.refl w.heap.size w)
 have H : ((itip_User.f k a0).bind fun bt156 => ((itip_User.f k a1).bind fun bt158 => (if a0.toList = a1.toList then (some true) else (if bt156.2 = true then (if bt158.2 = true then (some (bt156.1.toList == bt158.1.toList)) else (some false)) else (some false))))) = some r := h
 clear h
 replace H := Option.bind_eq_some_iff.mp H
 obtain ⟨⟨t156, t157⟩, A30, H⟩ := H
 replace H : ((itip_User.f k a1).bind fun bt158 => (if a0.toList = a1.toList then (some true) else (if t157 = true then (if bt158.2 = true then (some (t156.toList == bt158.1.toList)) else (some false)) else (some false)))) = some r := H
 have A3 := Aside0.mk A30
 clear A30
 replace H := Option.bind_eq_some_iff.mp H
 obtain ⟨⟨t158, t159⟩, A40, H⟩ := H
 replace H : (if a0.toList = a1.toList then (some true) else (if t157 = true then (if t159 = true then (some (t156.toList == t158.toList)) else (some false)) else (some false))) = some r := H
 have A4 := Aside0.mk A40
 clear A40
 by_cases c5 : a0.toList = a1.toList
 ·rw [if_pos c5] at H
  have c5b0 : (a0.toList == a1.toList) = true := beq_iff_eq.mpr c5
  have c5b1 : (a0.toList != a1.toList) = false := bne_eq_false_iff_eq.mpr c5
  clear c5
  obtain rfl := Option.some.inj H
  go_enter Try.func48, Try.ntmps48
  go_wp2_with (first | ((with_reducible refine gate_callee (f := 8) rfl ?_); refine goesL_ (some 11) rfl rfl Try.func8 (by kernel_rfl) rfl #[.string a0] rfl (by (try simp only [List.map_toArray, List.map_cons, List.map_nil]); first | done | rfl | (simp only [List.length_drop, List.length_take]; rfl)) ?_; (with_reducible refine (itip_User.calls k a0 t156 t157 _ A3.out).mono ?_); rintro e w6 ⟨rfl, hb⟩; refine ⟨_, rfl, ?_⟩; have n0_ := Aside0.mk (below_step (bU HB) hb); clear HB; have HB := n0_; clear n0_; (try clear hb); (try clear hb2); (try clear hk); (try clear hi)) | ((with_reducible refine gate_callee (f := 8) rfl ?_); refine goesL_ (some 16) rfl rfl Try.func8 (by kernel_rfl) rfl #[.string a1] rfl (by (try simp only [List.map_toArray, List.map_cons, List.map_nil]); first | done | rfl | (simp only [List.length_drop, List.length_take]; rfl)) ?_; (with_reducible refine (itip_User.calls k a1 t158 t159 _ A4.out).mono ?_); rintro e w7 ⟨rfl, hb⟩; refine ⟨_, rfl, ?_⟩; have n0_ := Aside0.mk (below_step (bU HB) hb); clear HB; have HB := n0_; clear n0_; (try clear hb); (try clear hb2); (try clear hk); (try clear hi)))
  go_ret
  exact ⟨eqU, bU HB⟩
 ·rw [if_neg c5] at H
  have c5b0 : (a0.toList == a1.toList) = false := beq_eq_false_iff_ne.mpr c5
  have c5b1 : (a0.toList != a1.toList) = true := bne_iff_ne.mpr c5
  by_cases c8 : t157 = true
  ·subst c8
   have H1 : (if t159 = true then (some (t156.toList == t158.toList)) else (some false)) = some r := by rw [if_pos rfl] at H; exact H
   clear H
   have H := H1
   clear H1
   by_cases c9 : t159 = true
   ·subst c9
    have H1 : (some (t156.toList == t158.toList)) = some r := by rw [if_pos rfl] at H; exact H
    clear H
    have H := H1
    clear H1
    obtain rfl := Option.some.inj H
    go_enter Try.func48, Try.ntmps48
    go_wp2_with (first | ((with_reducible refine gate_callee (f := 8) rfl ?_); refine goesL_ (some 11) rfl rfl Try.func8 (by kernel_rfl) rfl #[.string a0] rfl (by (try simp only [List.map_toArray, List.map_cons, List.map_nil]); first | done | rfl | (simp only [List.length_drop, List.length_take]; rfl)) ?_; (with_reducible refine (itip_User.calls k a0 t156 true _ A3.out).mono ?_); rintro e w10 ⟨rfl, hb⟩; refine ⟨_, rfl, ?_⟩; have n0_ := Aside0.mk (below_step (bU HB) hb); clear HB; have HB := n0_; clear n0_; (try clear hb); (try clear hb2); (try clear hk); (try clear hi)) | ((with_reducible refine gate_callee (f := 8) rfl ?_); refine goesL_ (some 16) rfl rfl Try.func8 (by kernel_rfl) rfl #[.string a1] rfl (by (try simp only [List.map_toArray, List.map_cons, List.map_nil]); first | done | rfl | (simp only [List.length_drop, List.length_take]; rfl)) ?_; (with_reducible refine (itip_User.calls k a1 t158 true _ A4.out).mono ?_); rintro e w11 ⟨rfl, hb⟩; refine ⟨_, rfl, ?_⟩; have n0_ := Aside0.mk (below_step (bU HB) hb); clear HB; have HB := n0_; clear n0_; (try clear hb); (try clear hb2); (try clear hk); (try clear hi)))
    go_ret
    exact ⟨eqU, bU HB⟩
   ·replace c9 := Bool.eq_false_iff.mpr c9
    subst c9
    have H1 : (some false) = some r := by rw [if_neg (show ¬ (false = true) by decide)] at H; exact H
    clear H
    have H := H1
    clear H1
    obtain rfl := Option.some.inj H
    go_enter Try.func48, Try.ntmps48
    go_wp2_with (first | ((with_reducible refine gate_callee (f := 8) rfl ?_); refine goesL_ (some 11) rfl rfl Try.func8 (by kernel_rfl) rfl #[.string a0] rfl (by (try simp only [List.map_toArray, List.map_cons, List.map_nil]); first | done | rfl | (simp only [List.length_drop, List.length_take]; rfl)) ?_; (with_reducible refine (itip_User.calls k a0 t156 true _ A3.out).mono ?_); rintro e w12 ⟨rfl, hb⟩; refine ⟨_, rfl, ?_⟩; have n0_ := Aside0.mk (below_step (bU HB) hb); clear HB; have HB := n0_; clear n0_; (try clear hb); (try clear hb2); (try clear hk); (try clear hi)) | ((with_reducible refine gate_callee (f := 8) rfl ?_); refine goesL_ (some 16) rfl rfl Try.func8 (by kernel_rfl) rfl #[.string a1] rfl (by (try simp only [List.map_toArray, List.map_cons, List.map_nil]); first | done | rfl | (simp only [List.length_drop, List.length_take]; rfl)) ?_; (with_reducible refine (itip_User.calls k a1 t158 false _ A4.out).mono ?_); rintro e w13 ⟨rfl, hb⟩; refine ⟨_, rfl, ?_⟩; have n0_ := Aside0.mk (below_step (bU HB) hb); clear HB; have HB := n0_; clear n0_; (try clear hb); (try clear hb2); (try clear hk); (try clear hi)))
    go_ret
    exact ⟨eqU, bU HB⟩
  ·replace c8 := Bool.eq_false_iff.mpr c8
   subst c8
   have H1 : (some false) = some r := by rw [if_neg (show ¬ (false = true) by decide)] at H; exact H
   clear H
   have H := H1
   clear H1
   obtain rfl := Option.some.inj H
   go_enter Try.func48, Try.ntmps48
   go_wp2_with (first | ((with_reducible refine gate_callee (f := 8) rfl ?_); refine goesL_ (some 11) rfl rfl Try.func8 (by kernel_rfl) rfl #[.string a0] rfl (by (try simp only [List.map_toArray, List.map_cons, List.map_nil]); first | done | rfl | (simp only [List.length_drop, List.length_take]; rfl)) ?_; (with_reducible refine (itip_User.calls k a0 t156 false _ A3.out).mono ?_); rintro e w14 ⟨rfl, hb⟩; refine ⟨_, rfl, ?_⟩; have n0_ := Aside0.mk (below_step (bU HB) hb); clear HB; have HB := n0_; clear n0_; (try clear hb); (try clear hb2); (try clear hk); (try clear hi)) | ((with_reducible refine gate_callee (f := 8) rfl ?_); refine goesL_ (some 16) rfl rfl Try.func8 (by kernel_rfl) rfl #[.string a1] rfl (by (try simp only [List.map_toArray, List.map_cons, List.map_nil]); first | done | rfl | (simp only [List.length_drop, List.length_take]; rfl)) ?_; (with_reducible refine (itip_User.calls k a1 t158 t159 _ A4.out).mono ?_); rintro e w15 ⟨rfl, hb⟩; refine ⟨_, rfl, ?_⟩; have n0_ := Aside0.mk (below_step (bU HB) hb); clear HB; have HB := n0_; clear n0_; (try clear hb); (try clear hb2); (try clear hk); (try clear hi)))
   go_ret
   exact ⟨eqU, bU HB⟩
end Go.Proofs.Ytebmbfobmakheaa.PD
namespace Go.Proofs.Ytebmbfobmakheaa.PD
open Go.RowKit Go.Proofs.YtebmbfobmakheaaW.PrintWords Go.Proofs.YtebmbfobmakheaaW.PrintLast Go.Proofs.YtebmbfobmakheaaW.PrintMore
set_option linter.unusedVariables false
set_option linter.unusedSimpArgs false
theorem pre_some (a b : ByteArray) : ∃ r, strings_HasPrefix.f a b = some r := by
  unfold strings_HasPrefix.f stringslite_HasPrefix.f
  by_cases h : (a.size : Int) ≥ (b.size : Int)
  · rw [if_pos h, if_pos (by omega), if_pos (by omega)]; exact ⟨_, rfl⟩
  · rw [if_neg h]; exact ⟨_, rfl⟩
theorem suf_some (a b : ByteArray) (ha : a.size ≤ 140737488355328) : ∃ r, strings_HasSuffix.f a b = some r := by
  unfold strings_HasSuffix.f stringslite_HasSuffix.f
  by_cases h : (a.size : Int) ≥ (b.size : Int)
  · have hw : wrap64 ((a.size : Int) - (b.size : Int)) = (a.size : Int) - (b.size : Int) := by unfold wrap64; omega
    rw [if_pos h, hw, if_pos (by omega), if_pos (by omega)]; exact ⟨_, rfl⟩
  · rw [if_neg h]; exact ⟨_, rfl⟩
theorem user_j0 (k : Nat) (a : ByteArray) (ha : a.size ≤ 140737488355328) (b : Bool) (hb : b = false → 15 ≤ a.size) : ∃ r, itip_User.j0 (k + 1) a b = some r := by
  simp only [itip_User.j0]
  cases b with
  | true => exact ⟨_, rfl⟩
  | false =>
    have h15 := hb rfl
    have hw : wrap64 ((a.size : Int) - 8) = (a.size : Int) - 8 := by unfold wrap64; omega
    rw [if_neg (by simp), hw, if_pos (by omega), if_pos (by omega)]
    unfold dir_Name.f
    rw [if_pos (by rw [ByteArray.size_extract]; omega), Option.bind_some]
    split
    · exact ⟨_, rfl⟩
    · exact ⟨_, rfl⟩
theorem user_some (k : Nat) (a : ByteArray) (ha : shortB a = true) : ∃ r, itip_User.f (k + 1) a = some r := by
  have hsz : a.size ≤ 140737488355328 := of_decide_eq_true ha
  unfold itip_User.f text_Lower.f
  rw [if_pos ha, Option.bind_some]
  obtain ⟨p, hp⟩ := pre_some (mapB lowN a) (⟨#[109, 97, 105, 108, 116, 111, 58]⟩ : ByteArray)
  obtain ⟨q, hq⟩ := suf_some (mapB lowN a) (⟨#[64, 97, 108, 109, 97, 110, 97, 99]⟩ : ByteArray) (by rw [mapB_size]; exact hsz)
  rw [hp, Option.bind_some]
  have h1 := user_j0 k a hsz true (by simp)
  by_cases hpt : p = true
  · rw [if_pos hpt, hq, Option.bind_some]
    by_cases hqt : q = true
    · rw [if_pos hqt]
      exact user_j0 k a hsz _ (fun h => by have := of_decide_eq_false h; omega)
    · rw [if_neg hqt]; exact h1
  · rw [if_neg hpt]; exact h1
def alikeB (a b : ByteArray) : Bool := (itip_alike.f 1 a b).getD false
theorem alike_val (a b : ByteArray) (ha : shortB a = true) (hb : shortB b = true) : itip_alike.f 1 a b = some (alikeB a b) := by
  have h : ∃ r, itip_alike.f 1 a b = some r := by
    unfold itip_alike.f
    obtain ⟨x, hx⟩ := user_some 0 a ha
    obtain ⟨y, hy⟩ := user_some 0 b hb
    rw [show (1 : Nat) = 0 + 1 from rfl, hx, hy, Option.bind_some, Option.bind_some]
    split
    · exact ⟨_, rfl⟩
    · split
      · split
        · exact ⟨_, rfl⟩
        · exact ⟨_, rfl⟩
      · exact ⟨_, rfl⟩
  obtain ⟨r, hr⟩ := h
  unfold alikeB
  rw [hr]
  rfl
theorem alike_calls (a b : ByteArray) (ha : shortB a = true) (hb : shortB b = true) (w : World) : Calls Try.prog 48 #[.string a, .string b] w fun e w' => e = .returned (.bool (alikeB a b)) ∧ Below w.heap.size w w' :=
  itip_alike.calls 1 a b _ w (alike_val a b ha hb)
end Go.Proofs.Ytebmbfobmakheaa.PD
namespace Go.Proofs.Ytebmbfobmakheaa.PD
open Go.RowKit Go.Proofs.YtebmbfobmakheaaW.PrintWords Go.Proofs.YtebmbfobmakheaaW.PrintLast Go.Proofs.YtebmbfobmakheaaW.PrintMore
attribute [local go_sem] isSome_setCell max2_int min2_int max_two min_two
set_option linter.unusedVariables false
set_option linter.unusedSimpArgs false
set_option maxRecDepth 100000 in
set_option maxHeartbeats 4000000 in
theorem almanacref08_Lower_walk (s : ByteArray) (w : World) (hs : s.size ≤ 140737488355328) :
    Calls Try.prog 78 #[.string s] w fun e w' => e = .returned (.string (mapB lowN s)) ∧ Below w.heap.size w w' := by
  have hcv := fun W => Lib.run_convert_string_bytes (P := Try.prog) W 9 70 5 s Try.underlying9 Try.underlying70 Try.underlying5
  have hB1 : Below w.heap.size w (Lib.bytesWorld w 5 s) := ⟨rfl, rfl, rfl, by rw [Lib.bytesWorld_size]; exact Nat.le_succ _, fun k hk => Lib.bytesWorld_at_old w 5 s k hk⟩
  have HB := Aside0.mk hB1
  clear hB1
  have HN := Aside0.mk (RowOf.new w s)
  go_enter Try.func78, Try.ntmps78
  go_wp2
  go_loopw [4] (fun v wr => ∃ k : Nat, v = .int .i64 k ∧ k ≤ s.size ∧ Aside0 (RowOf wr w.heap.size (stepK lowN s k)) ∧ Aside0 (Below w.heap.size w wr)) (fun v _ => s.size - (intOf v).toNat)
  case atStart => exact ⟨0, rfl, Nat.zero_le _, HN, HB⟩
  case round =>
    obtain ⟨k, rfl, hk, hrow, hb⟩ := hrel
    by_cases hlt : k < s.size
    · have hlt0 : decide ((k : Int) < (s.size : Int)) = true := decide_eq_true (by omega)
      have hsz := stepK_size lowN s k
      have hbk : byteN (stepK lowN s k) k = byteN s k := by rw [stepK_byte lowN lowN_lt s k hk, if_neg (by omega)]
      obtain ⟨hc, hf⟩ := hrow.out k (by omega)
      rw [hbk] at hc
      have q1 : (k : Int) < (s.size : Int) := by omega
      have q2 : (0 : Int) ≤ (k : Int) := by omega
      have hb256 := byteN_lt s k
      have hmeas : s.size - ((k : Int) + 1).toNat < s.size - (k : Int).toNat := by omega
      have hstep : stepK lowN s (k + 1) = setByte (stepK lowN s k) k (lowN (byteN s k)) := rfl
      have HS := Aside0.mk hstep
      clear hstep
      by_cases h1 : 65 ≤ byteN s k
      · by_cases h2 : byteN s k ≤ 90
        · have d1 : decide ((byteN s k : Int) ≥ 65) = true := decide_eq_true (by omega)
          have d2 : decide ((byteN s k : Int) ≤ 90) = true := decide_eq_true (by omega)
          have hfv : lowN (byteN s k) = byteN s k + 32 := by unfold lowN; rw [if_pos ⟨h1, h2⟩]
          have hr1 := hrow.out.set k (byteN s k + 32) (by omega) (by omega)
          rw [← hfv, ← HS.out] at hr1
          have hb1 := hb.out.setCell (p := ⟨w.heap.size, k, none⟩) (by show w.heap.size ≤ w.heap.size; exact Nat.le_refl _) (.int .u8 ((byteN s k : Int) + 32))
          rw [hfv, show ((byteN s k + 32 : Nat) : Int) = (byteN s k : Int) + 32 by omega] at hr1
          have HR1 := Aside0.mk hr1
          have HB1 := Aside0.mk hb1
          clear hr1 hb1
          go_wp2
          try go_roundw
          all_goals first | exact ⟨⟨k + 1, by simp, hlt, HR1, HB1⟩, hmeas⟩ | exact ⟨k + 1, by simp, hlt, HR1, HB1⟩ | exact hmeas
        · have d1 : decide ((byteN s k : Int) ≥ 65) = true := decide_eq_true (by omega)
          have d2 : decide ((byteN s k : Int) ≤ 90) = false := decide_eq_false (by omega)
          have hfv : stepK lowN s (k + 1) = stepK lowN s k := by rw [HS.out, show lowN (byteN s k) = byteN (stepK lowN s k) k by rw [hbk]; unfold lowN; rw [if_neg (by omega)], setByte_same _ _ (by omega)]
          go_wp2
          try go_roundw
          all_goals first | exact ⟨⟨k + 1, by simp, hlt, ⟨by rw [hfv]; exact hrow.out⟩, hb⟩, hmeas⟩ | exact ⟨k + 1, by simp, hlt, ⟨by rw [hfv]; exact hrow.out⟩, hb⟩ | exact hmeas
      · have d1 : decide ((byteN s k : Int) ≥ 65) = false := decide_eq_false (by omega)
        have hfv : stepK lowN s (k + 1) = stepK lowN s k := by rw [HS.out, show lowN (byteN s k) = byteN (stepK lowN s k) k by rw [hbk]; unfold lowN; rw [if_neg (by omega)], setByte_same _ _ (by omega)]
        go_wp2
        try go_roundw
        all_goals first | exact ⟨⟨k + 1, by simp, hlt, ⟨by rw [hfv]; exact hrow.out⟩, hb⟩, hmeas⟩ | exact ⟨k + 1, by simp, hlt, ⟨by rw [hfv]; exact hrow.out⟩, hb⟩ | exact hmeas
    · have hlt0 : decide ((k : Int) < (s.size : Int)) = false := decide_eq_false (by omega)
      have hkl : k = s.size := by omega
      have hst := hrow.out.string (grownCap w s.size 0 5)
      rw [stepK_size, hkl] at hst
      go_wp2
      go_ret
      exact ⟨rfl, hb.out⟩
def almanacref08_Lower.f (a0 : ByteArray) : Option (ByteArray) := if shortB a0 = true then some (mapB lowN a0) else none
theorem almanacref08_Lower.calls (a0 : ByteArray) (r : ByteArray) (w : World) (h : almanacref08_Lower.f a0 = some r) :
    Calls Try.prog 78 #[.string a0] w fun e w' => e = .returned (.string r) ∧ Below w.heap.size w w' := by
  unfold almanacref08_Lower.f at h
  split at h
  case isFalse => cases h
  rename_i hc
  obtain rfl := Option.some.inj h
  exact almanacref08_Lower_walk a0 w (of_decide_eq_true hc)
end Go.Proofs.Ytebmbfobmakheaa.PD
namespace Go.Proofs.Ytebmbfobmakheaa.PD
open Go.RowKit Go.Proofs.YtebmbfobmakheaaW.PrintWords Go.Proofs.YtebmbfobmakheaaW.PrintLast Go.Proofs.YtebmbfobmakheaaW.PrintMore
attribute [local go_sem] isSome_setCell max2_int min2_int max_two min_two max_three min_three max_four min_four
set_option linter.unusedVariables false
set_option linter.unusedSimpArgs false
def almanacref08_Alike.f (a0 : ByteArray) (a1 : ByteArray) : Option (Bool) := (almanacref08_Lower.f a0).bind fun t186 => ((almanacref08_Lower.f a1).bind fun t187 => (some (t186.toList == t187.toList)))
set_option maxHeartbeats 8000000 in
set_option maxRecDepth 100000 in
theorem almanacref08_Alike.calls (a0 : ByteArray) (a1 : ByteArray) (r : Bool) (w : World) (h : almanacref08_Alike.f a0 a1 = some r) :
  Calls Try.prog 39 #[.string a0, .string a1] w fun e w' => e = .returned (.bool r) ∧ Below w.heap.size w w' := by
 have HB := Aside0.mk (Below.refl w.heap.size w)
 have H : ((almanacref08_Lower.f a0).bind fun t186 => ((almanacref08_Lower.f a1).bind fun t187 => (some (t186.toList == t187.toList)))) = some r := h
 clear h
 replace H := Option.bind_eq_some_iff.mp H
 obtain ⟨t186, A30, H⟩ := H
 replace H : ((almanacref08_Lower.f a1).bind fun t187 => (some (t186.toList == t187.toList))) = some r := H
 have A3 := Aside0.mk A30
 clear A30
 replace H := Option.bind_eq_some_iff.mp H
 obtain ⟨t187, A40, H⟩ := H
 replace H : (some (t186.toList == t187.toList)) = some r := H
 have A4 := Aside0.mk A40
 clear A40
 obtain rfl := Option.some.inj H
 go_enter Try.func39, Try.ntmps39
 go_wp2_with (first | ((with_reducible refine gate_callee (f := 78) rfl ?_); refine goesL_ (some 6) rfl rfl Try.func78 (by kernel_rfl) rfl #[.string a0] rfl (by (try simp only [List.map_toArray, List.map_cons, List.map_nil]); first | done | rfl | (simp only [List.length_drop, List.length_take]; rfl)) ?_; (with_reducible refine (almanacref08_Lower.calls a0 t186 _ A3.out).mono ?_); rintro e w5 ⟨rfl, hb⟩; refine ⟨_, rfl, ?_⟩; have n0_ := Aside0.mk (below_step (bU HB) hb); clear HB; have HB := n0_; clear n0_; (try clear hb); (try clear hb2); (try clear hk); (try clear hi)) | ((with_reducible refine gate_callee (f := 78) rfl ?_); refine goesL_ (some 8) rfl rfl Try.func78 (by kernel_rfl) rfl #[.string a1] rfl (by (try simp only [List.map_toArray, List.map_cons, List.map_nil]); first | done | rfl | (simp only [List.length_drop, List.length_take]; rfl)) ?_; (with_reducible refine (almanacref08_Lower.calls a1 t187 _ A4.out).mono ?_); rintro e w6 ⟨rfl, hb⟩; refine ⟨_, rfl, ?_⟩; have n0_ := Aside0.mk (below_step (bU HB) hb); clear HB; have HB := n0_; clear n0_; (try clear hb); (try clear hb2); (try clear hk); (try clear hi)))
 go_ret
 exact ⟨eqU, bU HB⟩
end Go.Proofs.Ytebmbfobmakheaa.PD
namespace Go.Proofs.Ytebmbfobmakheaa.PD
open Go.RowKit Go.Proofs.YtebmbfobmakheaaW.PrintWords Go.Proofs.YtebmbfobmakheaaW.PrintLast Go.Proofs.YtebmbfobmakheaaW.PrintMore
attribute [local go_sem] isSome_setCell max2_int min2_int max_two min_two max_three min_three max_four min_four
set_option linter.unusedVariables false
set_option linter.unusedSimpArgs false
def almanacref06_Name.l0 : Nat → ByteArray → Int → Option (Bool)
 | 0, _, _ => none
 | k + 1, x0, x3 => if x3 < (x0.size : Int) then (if 0 ≤ x3 then (if (bt x0 x3) < 33 then (some false) else (if (bt x0 x3) > 126 then (some false) else (if (bt x0 x3) = 47 then (some false) else (almanacref06_Name.l0 k x0 (wrap64 (x3 + 1)))))) else (none)) else (if x0.toList = ([] : List UInt8) then (some false) else (if (x0.size : Int) ≤ 24 then (if x0.toList = ([46] : List UInt8) then (some false) else (some (x0.toList != ([46, 46] : List UInt8)))) else (some false)))
def almanacref06_Name.f (k : Nat) (a0 : ByteArray) : Option (Bool) := almanacref06_Name.l0 k a0 0
set_option maxHeartbeats 8000000 in
set_option maxRecDepth 100000 in
theorem almanacref06_Name.calls (k : Nat) (a0 : ByteArray) (r : Bool) (w : World) (h : almanacref06_Name.f k a0 = some r) :
  Calls Try.prog 40 #[.string a0] w fun e w' => e = .returned (.bool r) ∧ Drawn0 w w' := by
 have H : (almanacref06_Name.l0 k a0 0) = some r := h
 clear h
 have H' := Aside0.mk H
 clear H
 go_enter Try.func40, Try.ntmps40
 go_wp2
 go_loopg [3] k (fun kq v3 w' => ∃ (x3_1 : Int), v3 = .int .i64 x3_1 ∧ Aside0 (almanacref06_Name.l0 kq a0 x3_1 = some r) ∧ Aside0 (kq ≤ k) ∧ Drawn0 w w')
 case atStart => exact ⟨(0), (by first | rfl | (simp; done) | (simp [*]; done)), H', ⟨Nat.le_refl _⟩, by repeat (first | exact Drawn0.refl _ | apply Drawn0.step)⟩
 case round =>
  clear H'
  obtain ⟨x3_1, rfl, HA, HK1, ⟨m1, rfl⟩⟩ := hrel
  cases gk with
  | zero => exact absurd HA.out (by simp [almanacref06_Name.l0])
  | succ k1 =>
   have H := HA.out
   clear HA
   simp only [almanacref06_Name.l0] at H
   by_cases c2 : x3_1 < (a0.size : Int)
   ·rw [if_pos c2] at H
    have c2b0 : decide (x3_1 < (a0.size : Int)) = true := decide_eq_true c2
    clear c2
    by_cases c3 : 0 ≤ x3_1
    ·rw [if_pos c3] at H
     have c3b0 : decide (0 ≤ x3_1) = true := decide_eq_true c3
     clear c3
     by_cases c5 : (bt a0 x3_1) < 33
     ·rw [if_pos c5] at H
      have c5b0 : decide ((bt a0 x3_1) < 33) = true := decide_eq_true c5
      clear c5
      obtain rfl := Option.some.inj H
      have p4 : 0 ≤ (x3_1 : Int) := of_decide_eq_true (by first | (with_reducible assumption) | assumption)
      have q4 : x3_1 < (a0.size : Int) := of_decide_eq_true (by first | (with_reducible assumption) | assumption)
      have hx4 := bt_at a0 x3_1
      replace p4 := eq_true p4
      replace q4 := eq_true q4
      go_wp2
      go_ret
      exact ⟨by first | rfl | (simp; done) | (simp [*]; done), by repeat (first | exact Drawn0.refl _ | apply Drawn0.step)⟩
     ·rw [if_neg c5] at H
      have c5b0 : decide ((bt a0 x3_1) < 33) = false := decide_eq_false c5
      clear c5
      by_cases c7 : (bt a0 x3_1) > 126
      ·rw [if_pos c7] at H
       have c7b0 : decide (126 < (bt a0 x3_1)) = true := decide_eq_true c7
       clear c7
       obtain rfl := Option.some.inj H
       have p4 : 0 ≤ (x3_1 : Int) := of_decide_eq_true (by first | (with_reducible assumption) | assumption)
       have q4 : x3_1 < (a0.size : Int) := of_decide_eq_true (by first | (with_reducible assumption) | assumption)
       have hx4 := bt_at a0 x3_1
       replace p4 := eq_true p4
       replace q4 := eq_true q4
       have p6 : 0 ≤ (x3_1 : Int) := of_decide_eq_true (by first | (with_reducible assumption) | assumption)
       have q6 : x3_1 < (a0.size : Int) := of_decide_eq_true (by first | (with_reducible assumption) | assumption)
       have hx6 := bt_at a0 x3_1
       replace p6 := eq_true p6
       replace q6 := eq_true q6
       go_wp2
       go_ret
       exact ⟨by first | rfl | (simp; done) | (simp [*]; done), by repeat (first | exact Drawn0.refl _ | apply Drawn0.step)⟩
      ·rw [if_neg c7] at H
       have c7b0 : decide (126 < (bt a0 x3_1)) = false := decide_eq_false c7
       clear c7
       by_cases c9 : (bt a0 x3_1) = 47
       ·rw [if_pos c9] at H
        have c9b0 : ((bt a0 x3_1) == 47) = true := beq_iff_eq.mpr c9
        have c9b1 : ((bt a0 x3_1) != 47) = false := bne_eq_false_iff_eq.mpr c9
        clear c9
        obtain rfl := Option.some.inj H
        have p4 : 0 ≤ (x3_1 : Int) := of_decide_eq_true (by first | (with_reducible assumption) | assumption)
        have q4 : x3_1 < (a0.size : Int) := of_decide_eq_true (by first | (with_reducible assumption) | assumption)
        have hx4 := bt_at a0 x3_1
        replace p4 := eq_true p4
        replace q4 := eq_true q4
        have p6 : 0 ≤ (x3_1 : Int) := of_decide_eq_true (by first | (with_reducible assumption) | assumption)
        have q6 : x3_1 < (a0.size : Int) := of_decide_eq_true (by first | (with_reducible assumption) | assumption)
        have hx6 := bt_at a0 x3_1
        replace p6 := eq_true p6
        replace q6 := eq_true q6
        have p8 : 0 ≤ (x3_1 : Int) := of_decide_eq_true (by first | (with_reducible assumption) | assumption)
        have q8 : x3_1 < (a0.size : Int) := of_decide_eq_true (by first | (with_reducible assumption) | assumption)
        have hx8 := bt_at a0 x3_1
        replace p8 := eq_true p8
        replace q8 := eq_true q8
        go_wp2
        go_ret
        exact ⟨by first | rfl | (simp; done) | (simp [*]; done), by repeat (first | exact Drawn0.refl _ | apply Drawn0.step)⟩
       ·rw [if_neg c9] at H
        have c9b0 : ((bt a0 x3_1) == 47) = false := beq_eq_false_iff_ne.mpr c9
        have c9b1 : ((bt a0 x3_1) != 47) = true := bne_iff_ne.mpr c9
        have H' := Aside0.mk H
        clear H
        have p4 : 0 ≤ (x3_1 : Int) := of_decide_eq_true (by first | (with_reducible assumption) | assumption)
        have q4 : x3_1 < (a0.size : Int) := of_decide_eq_true (by first | (with_reducible assumption) | assumption)
        have hx4 := bt_at a0 x3_1
        replace p4 := eq_true p4
        replace q4 := eq_true q4
        have p6 : 0 ≤ (x3_1 : Int) := of_decide_eq_true (by first | (with_reducible assumption) | assumption)
        have q6 : x3_1 < (a0.size : Int) := of_decide_eq_true (by first | (with_reducible assumption) | assumption)
        have hx6 := bt_at a0 x3_1
        replace p6 := eq_true p6
        replace q6 := eq_true q6
        have p8 : 0 ≤ (x3_1 : Int) := of_decide_eq_true (by first | (with_reducible assumption) | assumption)
        have q8 : x3_1 < (a0.size : Int) := of_decide_eq_true (by first | (with_reducible assumption) | assumption)
        have hx8 := bt_at a0 x3_1
        replace p8 := eq_true p8
        replace q8 := eq_true q8
        go_wp2
        go_roundg k1
        case measure => have := HK1.out; omega
        case rel => exact ⟨(wrap64 (x3_1 + 1)), (by first | rfl | (simp; done) | (simp [*]; done)), H', ⟨by have := HK1.out; omega⟩, by repeat (first | exact Drawn0.refl _ | apply Drawn0.step)⟩
    ·rw [if_neg c3] at H
     exact absurd H (by simp)
   ·rw [if_neg c2] at H
    have c2b0 : decide (x3_1 < (a0.size : Int)) = false := decide_eq_false c2
    clear c2
    by_cases c10 : a0.toList = ([] : List UInt8)
    ·rw [if_pos c10] at H
     have c10b0 : (a0.toList == ([] : List UInt8)) = true := beq_iff_eq.mpr c10
     have c10b1 : (a0.toList != ([] : List UInt8)) = false := bne_eq_false_iff_eq.mpr c10
     clear c10
     obtain rfl := Option.some.inj H
     go_wp2
     go_ret
     exact ⟨by first | rfl | (simp; done) | (simp [*]; done), by repeat (first | exact Drawn0.refl _ | apply Drawn0.step)⟩
    ·rw [if_neg c10] at H
     have c10b0 : (a0.toList == ([] : List UInt8)) = false := beq_eq_false_iff_ne.mpr c10
     have c10b1 : (a0.toList != ([] : List UInt8)) = true := bne_iff_ne.mpr c10
     by_cases c11 : (a0.size : Int) ≤ 24
     ·rw [if_pos c11] at H
      have c11b0 : decide ((a0.size : Int) ≤ 24) = true := decide_eq_true c11
      have c11b1 : decide (a0.size ≤ 24) = true := decide_eq_true (by omega)
      clear c11
      by_cases c12 : a0.toList = ([46] : List UInt8)
      ·rw [if_pos c12] at H
       have c12b0 : (a0.toList == ([46] : List UInt8)) = true := beq_iff_eq.mpr c12
       have c12b1 : (a0.toList != ([46] : List UInt8)) = false := bne_eq_false_iff_eq.mpr c12
       clear c12
       obtain rfl := Option.some.inj H
       go_wp2
       go_ret
       exact ⟨by first | rfl | (simp; done) | (simp [*]; done), by repeat (first | exact Drawn0.refl _ | apply Drawn0.step)⟩
      ·rw [if_neg c12] at H
       have c12b0 : (a0.toList == ([46] : List UInt8)) = false := beq_eq_false_iff_ne.mpr c12
       have c12b1 : (a0.toList != ([46] : List UInt8)) = true := bne_iff_ne.mpr c12
       obtain rfl := Option.some.inj H
       go_wp2
       go_ret
       exact ⟨by first | rfl | (simp; done) | (simp [*]; done), by repeat (first | exact Drawn0.refl _ | apply Drawn0.step)⟩
     ·rw [if_neg c11] at H
      have c11b0 : decide ((a0.size : Int) ≤ 24) = false := decide_eq_false c11
      have c11b1 : decide (a0.size ≤ 24) = false := decide_eq_false (by omega)
      clear c11
      obtain rfl := Option.some.inj H
      go_wp2
      go_ret
      exact ⟨by first | rfl | (simp; done) | (simp [*]; done), by repeat (first | exact Drawn0.refl _ | apply Drawn0.step)⟩
end Go.Proofs.Ytebmbfobmakheaa.PD
namespace Go.Proofs.Ytebmbfobmakheaa.PD
open Go.RowKit Go.Proofs.YtebmbfobmakheaaW.PrintWords Go.Proofs.YtebmbfobmakheaaW.PrintLast Go.Proofs.YtebmbfobmakheaaW.PrintMore
attribute [local go_sem] isSome_setCell max2_int min2_int max_two min_two max_three min_three max_four min_four
set_option linter.unusedVariables false
set_option linter.unusedSimpArgs false
def almanacref26_User.j0 : Nat → ByteArray → Int → Bool → Option (ByteArray × Bool)
 | 0, _, _, _ => none
 | k + 1, x0, x4, x23 => if x23 = true then (some ((⟨#[]⟩ : ByteArray), false)) else (if 7 ≤ (wrap64 (x4 - 8)) then (if (wrap64 (x4 - 8)) ≤ (x0.size : Int) then ((almanacref06_Name.f k (x0.extract 7 ((wrap64 (x4 - 8)) : Int).toNat)).bind fun t190 => (if t190 = true then (some (x0.extract 7 ((wrap64 (x4 - 8)) : Int).toNat, true)) else (some ((⟨#[]⟩ : ByteArray), false)))) else (none)) else (none))
def almanacref26_User.f (k : Nat) (a0 : ByteArray) : Option (ByteArray × Bool) := if (a0.size : Int) < 15 then (almanacref26_User.j0 k a0 (a0.size : Int) true) else (if 0 ≤ 7 then (if 7 ≤ (a0.size : Int) then ((almanacref08_Alike.f (a0.extract 0 7) (⟨#[109, 97, 105, 108, 116, 111, 58]⟩ : ByteArray)).bind fun t188 => (if t188 = true then (if 0 ≤ (wrap64 ((a0.size : Int) - 8)) then (if (wrap64 ((a0.size : Int) - 8)) ≤ (a0.size : Int) then ((almanacref08_Alike.f (a0.extract ((wrap64 ((a0.size : Int) - 8)) : Int).toNat a0.size) (⟨#[64, 97, 108, 109, 97, 110, 97, 99]⟩ : ByteArray)).bind fun t189 => (almanacref26_User.j0 k a0 (a0.size : Int) (!t189))) else (none)) else (none)) else (almanacref26_User.j0 k a0 (a0.size : Int) true))) else (none)) else (none))
set_option maxHeartbeats 8000000 in
set_option maxRecDepth 100000 in
theorem almanacref26_User.calls (k : Nat) (a0 : ByteArray) (r1 : ByteArray) (r2 : Bool) (w : World) (h : almanacref26_User.f k a0 = some (r1, r2)) :
  Calls Try.prog 9 #[.string a0] w fun e w' => e = .returned (.tuple #[.string r1, .bool r2]) ∧ Below w.heap.size w w' := by
 have HB := Aside0.mk (Below.refl w.heap.size w)
 have H : (if (a0.size : Int) < 15 then (almanacref26_User.j0 k a0 (a0.size : Int) true) else (if 0 ≤ 7 then (if 7 ≤ (a0.size : Int) then ((almanacref08_Alike.f (a0.extract 0 7) (⟨#[109, 97, 105, 108, 116, 111, 58]⟩ : ByteArray)).bind fun t188 => (if t188 = true then (if 0 ≤ (wrap64 ((a0.size : Int) - 8)) then (if (wrap64 ((a0.size : Int) - 8)) ≤ (a0.size : Int) then ((almanacref08_Alike.f (a0.extract ((wrap64 ((a0.size : Int) - 8)) : Int).toNat a0.size) (⟨#[64, 97, 108, 109, 97, 110, 97, 99]⟩ : ByteArray)).bind fun t189 => (almanacref26_User.j0 k a0 (a0.size : Int) (!t189))) else (none)) else (none)) else (almanacref26_User.j0 k a0 (a0.size : Int) true))) else (none)) else (none))) = some (r1, r2) := h
 clear h
 have HC2 := Aside0.mk H
 clear H
 go_enter Try.func9, Try.ntmps9
 go_upto_region 2 with (fail)
 go_cut [23] (fun v23 wc => ∃ (kq : Nat) (x23_1 : Bool), v23 = .bool x23_1 ∧ Aside0 (almanacref26_User.j0 kq a0 (a0.size : Int) x23_1 = some (r1, r2)) ∧ Aside0 (kq ≤ k) ∧ Aside0 (Below w.heap.size w wc))
 case first =>
  have H := HC2.out
  clear HC2
  by_cases c3 : (a0.size : Int) < 15
  ·rw [if_pos c3] at H
   have c3b0 : decide ((a0.size : Int) < 15) = true := decide_eq_true c3
   have c3b1 : decide (a0.size < 15) = true := decide_eq_true (by omega)
   clear c3
   (first | rw [c3b0] | (simp only [i64_w, i32_w]; rw [c3b0]) | skip)
   have H' := Aside0.mk H
   clear H
   go_wp2
   go_meet
   case rel => exact ⟨_, (true), (by first | rfl | (simp; done) | (simp [*]; done)), H', ⟨by first | omega | exact Nat.le_refl _⟩, ⟨bU HB⟩⟩
  ·rw [if_neg c3] at H
   have c3b0 : decide ((a0.size : Int) < 15) = false := decide_eq_false c3
   have c3b1 : decide (a0.size < 15) = false := decide_eq_false (by omega)
   clear c3
   (first | rw [c3b0] | (simp only [i64_w, i32_w]; rw [c3b0]) | skip)
   by_cases c4 : 0 ≤ 7
   ·rw [if_pos c4] at H
    have c4b0 := eq_true c4
    have c4b1 : decide (0 ≤ 7) = true := decide_eq_true c4
    clear c4
    by_cases c5 : 7 ≤ (a0.size : Int)
    ·rw [if_pos c5] at H
     have c5b0 := eq_true c5
     have c5b1 : decide (7 ≤ (a0.size : Int)) = true := decide_eq_true c5
     clear c5
     replace H := Option.bind_eq_some_iff.mp H
     obtain ⟨t188, A60, H⟩ := H
     replace H : (if t188 = true then (if 0 ≤ (wrap64 ((a0.size : Int) - 8)) then (if (wrap64 ((a0.size : Int) - 8)) ≤ (a0.size : Int) then ((almanacref08_Alike.f (a0.extract ((wrap64 ((a0.size : Int) - 8)) : Int).toNat a0.size) (⟨#[64, 97, 108, 109, 97, 110, 97, 99]⟩ : ByteArray)).bind fun t189 => (almanacref26_User.j0 k a0 (a0.size : Int) (!t189))) else (none)) else (none)) else (almanacref26_User.j0 k a0 (a0.size : Int) true)) = some (r1, r2) := H
     have A6 := Aside0.mk A60
     clear A60
     by_cases c7 : t188 = true
     ·subst c7
      have H1 : (if 0 ≤ (wrap64 ((a0.size : Int) - 8)) then (if (wrap64 ((a0.size : Int) - 8)) ≤ (a0.size : Int) then ((almanacref08_Alike.f (a0.extract ((wrap64 ((a0.size : Int) - 8)) : Int).toNat a0.size) (⟨#[64, 97, 108, 109, 97, 110, 97, 99]⟩ : ByteArray)).bind fun t189 => (almanacref26_User.j0 k a0 (a0.size : Int) (!t189))) else (none)) else (none)) = some (r1, r2) := by rw [if_pos rfl] at H; exact H
      clear H
      have H := H1
      clear H1
      obtain ⟨ji8, hji8⟩ : ∃ j_ : Int, (wrap64 ((a0.size : Int) - 8)) = j_ := ⟨_, rfl⟩
      replace H : (if 0 ≤ (ji8) then (if (ji8) ≤ (a0.size : Int) then ((almanacref08_Alike.f (a0.extract ((ji8) : Int).toNat a0.size) (⟨#[64, 97, 108, 109, 97, 110, 97, 99]⟩ : ByteArray)).bind fun t189 => (almanacref26_User.j0 k a0 (a0.size : Int) (!t189))) else (none)) else (none)) = some (r1, r2) := by first | (rw [hji8] at H; exact H) | (simp only [hji8] at H ⊢; exact H)
      (try rw [hji8] at A6)
      have hji8w : (IntKind.i64.wrap ((a0.size : Int) - 8)) = ji8 := (i64_w _).trans hji8
      by_cases c9 : 0 ≤ (ji8)
      ·rw [if_pos c9] at H
       have c9b0 := eq_true c9
       have c9b1 : decide (0 ≤ (ji8)) = true := decide_eq_true c9
       clear c9
       by_cases c10 : (ji8) ≤ (a0.size : Int)
       ·rw [if_pos c10] at H
        have c10b0 := eq_true c10
        have c10b1 : decide ((ji8) ≤ (a0.size : Int)) = true := decide_eq_true c10
        clear c10
        replace H := Option.bind_eq_some_iff.mp H
        obtain ⟨t189, A110, H⟩ := H
        replace H : (almanacref26_User.j0 k a0 (a0.size : Int) (!t189)) = some (r1, r2) := H
        have A11 := Aside0.mk A110
        clear A110
        have H' := Aside0.mk H
        clear H
        go_wp2_with (first | (go_at_call 39; (with_reducible refine (almanacref08_Alike.calls (a0.extract 0 7) (⟨#[109, 97, 105, 108, 116, 111, 58]⟩ : ByteArray) true _ A6.out).mono ?_); rintro e w12 ⟨rfl, hb⟩; have n0_ := Aside0.mk (below_step (bU HB) hb); clear HB; have HB := n0_; clear n0_; (try clear hb); (try clear hb2); (try clear hk); (try clear hi)) | (go_at_call 39; (with_reducible refine (almanacref08_Alike.calls (a0.extract ((ji8) : Int).toNat a0.size) (⟨#[64, 97, 108, 109, 97, 110, 97, 99]⟩ : ByteArray) t189 _ A11.out).mono ?_); rintro e w13 ⟨rfl, hb⟩; have n0_ := Aside0.mk (below_step (bU HB) hb); clear HB; have HB := n0_; clear n0_; (try clear hb); (try clear hb2); (try clear hk); (try clear hi)))
        go_meet
        case rel => exact ⟨_, (!t189), (by first | rfl | (simp; done) | (simp [*]; done)), H', ⟨by first | omega | exact Nat.le_refl _⟩, ⟨bU HB⟩⟩
       ·rw [if_neg c10] at H
        exact absurd H (by simp)
      ·rw [if_neg c9] at H
       exact absurd H (by simp)
     ·replace c7 := Bool.eq_false_iff.mpr c7
      subst c7
      have H1 : (almanacref26_User.j0 k a0 (a0.size : Int) true) = some (r1, r2) := by rw [if_neg (show ¬ (false = true) by decide)] at H; exact H
      clear H
      have H := H1
      clear H1
      have H' := Aside0.mk H
      clear H
      go_wp2_with (first | (go_at_call 39; (with_reducible refine (almanacref08_Alike.calls (a0.extract 0 7) (⟨#[109, 97, 105, 108, 116, 111, 58]⟩ : ByteArray) false _ A6.out).mono ?_); rintro e w14 ⟨rfl, hb⟩; have n0_ := Aside0.mk (below_step (bU HB) hb); clear HB; have HB := n0_; clear n0_; (try clear hb); (try clear hb2); (try clear hk); (try clear hi)))
      go_meet
      case rel => exact ⟨_, (true), (by first | rfl | (simp; done) | (simp [*]; done)), H', ⟨by first | omega | exact Nat.le_refl _⟩, ⟨bU HB⟩⟩
    ·rw [if_neg c5] at H
     exact absurd H (by simp)
   ·rw [if_neg c4] at H
    exact absurd H (by simp)
 case rest =>
  clear HC2
  try clear c1
  try clear p2
  try clear c3
  try clear c3b0
  try clear c3b1
  try clear c4
  try clear c4b0
  try clear c4b1
  try clear c5
  try clear c5b0
  try clear c5b1
  try clear p6
  try clear c7
  try clear c9
  try clear c9b0
  try clear c9b1
  try clear c10
  try clear c10b0
  try clear c10b1
  obtain ⟨kq, x23_1, rfl, HA, HJ1, HB⟩ := hcut
  cases kq with
  | zero => exact absurd HA.out (by simp [almanacref26_User.j0])
  | succ kj1 =>
   have H := HA.out
   clear HA
   simp only [almanacref26_User.j0] at H
   by_cases c15 : x23_1 = true
   ·subst c15
    have H1 : (some ((⟨#[]⟩ : ByteArray), false)) = some (r1, r2) := by rw [if_pos rfl] at H; exact H
    clear H
    have H := H1
    clear H1
    simp only [Option.some.injEq, Prod.mk.injEq] at H
    obtain ⟨rfl, rfl⟩ := H
    go_wp2
    go_ret2
    exact ⟨eqU, bU HB⟩
   ·replace c15 := Bool.eq_false_iff.mpr c15
    subst c15
    have H1 : (if 7 ≤ (wrap64 ((a0.size : Int) - 8)) then (if (wrap64 ((a0.size : Int) - 8)) ≤ (a0.size : Int) then ((almanacref06_Name.f kj1 (a0.extract 7 ((wrap64 ((a0.size : Int) - 8)) : Int).toNat)).bind fun t190 => (if t190 = true then (some (a0.extract 7 ((wrap64 ((a0.size : Int) - 8)) : Int).toNat, true)) else (some ((⟨#[]⟩ : ByteArray), false)))) else (none)) else (none)) = some (r1, r2) := by rw [if_neg (show ¬ (false = true) by decide)] at H; exact H
    clear H
    have H := H1
    clear H1
    by_cases c16 : 7 ≤ (wrap64 ((a0.size : Int) - 8))
    ·rw [if_pos c16] at H
     have c16b0 := eq_true c16
     have c16b1 : decide (7 ≤ (wrap64 ((a0.size : Int) - 8))) = true := decide_eq_true c16
     clear c16
     by_cases c17 : (wrap64 ((a0.size : Int) - 8)) ≤ (a0.size : Int)
     ·rw [if_pos c17] at H
      have c17b0 := eq_true c17
      have c17b1 : decide ((wrap64 ((a0.size : Int) - 8)) ≤ (a0.size : Int)) = true := decide_eq_true c17
      clear c17
      replace H := Option.bind_eq_some_iff.mp H
      obtain ⟨t190, A180, H⟩ := H
      replace H : (if t190 = true then (some (a0.extract 7 ((wrap64 ((a0.size : Int) - 8)) : Int).toNat, true)) else (some ((⟨#[]⟩ : ByteArray), false))) = some (r1, r2) := H
      have A18 := Aside0.mk A180
      clear A180
      by_cases c19 : t190 = true
      ·subst c19
       have H1 : (some (a0.extract 7 ((wrap64 ((a0.size : Int) - 8)) : Int).toNat, true)) = some (r1, r2) := by rw [if_pos rfl] at H; exact H
       clear H
       have H := H1
       clear H1
       simp only [Option.some.injEq, Prod.mk.injEq] at H
       obtain ⟨rfl, rfl⟩ := H
       go_wp2_with (first | ((with_reducible refine gate_callee (f := 40) rfl ?_); refine goesL_ (some 29) rfl rfl Try.func40 (by kernel_rfl) rfl #[.string (a0.extract 7 ((wrap64 ((a0.size : Int) - 8)) : Int).toNat)] rfl (by (try simp only [List.map_toArray, List.map_cons, List.map_nil]); first | done | rfl | (simp only [List.length_drop, List.length_take]; rfl)) ?_; (with_reducible refine (almanacref06_Name.calls kj1 (a0.extract 7 ((wrap64 ((a0.size : Int) - 8)) : Int).toNat) true _ A18.out).mono ?_); rintro e w' ⟨rfl, ⟨nd, rfl⟩⟩; refine ⟨_, rfl, ?_⟩))
       go_ret2
       exact ⟨eqU, bU HB⟩
      ·replace c19 := Bool.eq_false_iff.mpr c19
       subst c19
       have H1 : (some ((⟨#[]⟩ : ByteArray), false)) = some (r1, r2) := by rw [if_neg (show ¬ (false = true) by decide)] at H; exact H
       clear H
       have H := H1
       clear H1
       simp only [Option.some.injEq, Prod.mk.injEq] at H
       obtain ⟨rfl, rfl⟩ := H
       go_wp2_with (first | ((with_reducible refine gate_callee (f := 40) rfl ?_); refine goesL_ (some 29) rfl rfl Try.func40 (by kernel_rfl) rfl #[.string (a0.extract 7 ((wrap64 ((a0.size : Int) - 8)) : Int).toNat)] rfl (by (try simp only [List.map_toArray, List.map_cons, List.map_nil]); first | done | rfl | (simp only [List.length_drop, List.length_take]; rfl)) ?_; (with_reducible refine (almanacref06_Name.calls kj1 (a0.extract 7 ((wrap64 ((a0.size : Int) - 8)) : Int).toNat) false _ A18.out).mono ?_); rintro e w' ⟨rfl, ⟨nd, rfl⟩⟩; refine ⟨_, rfl, ?_⟩))
       go_ret2
       exact ⟨eqU, bU HB⟩
     ·rw [if_neg c17] at H
      exact absurd H (by simp)
    ·rw [if_neg c16] at H
     exact absurd H (by simp)
end Go.Proofs.Ytebmbfobmakheaa.PD
namespace Go.Proofs.Ytebmbfobmakheaa.PD
open Go.RowKit Go.Proofs.YtebmbfobmakheaaW.PrintWords Go.Proofs.YtebmbfobmakheaaW.PrintLast Go.Proofs.YtebmbfobmakheaaW.PrintMore
attribute [local go_sem] isSome_setCell max2_int min2_int max_two min_two max_three min_three max_four min_four
set_option linter.unusedVariables false
set_option linter.unusedSimpArgs false
def almanacref26_Alike.f (k : Nat) (a0 : ByteArray) (a1 : ByteArray) : Option (Bool) := (almanacref26_User.f k a0).bind fun bt221 => ((almanacref26_User.f k a1).bind fun bt223 => (if a0.toList = a1.toList then (some true) else (if bt221.2 = true then (if bt223.2 = true then (some (bt221.1.toList == bt223.1.toList)) else (some false)) else (some false))))
set_option maxHeartbeats 8000000 in
set_option maxRecDepth 100000 in
theorem almanacref26_Alike.calls (k : Nat) (a0 : ByteArray) (a1 : ByteArray) (r : Bool) (w : World) (h : almanacref26_Alike.f k a0 a1 = some r) :
  Calls Try.prog 69 #[.string a0, .string a1] w fun e w' => e = .returned (.bool r) ∧ Below w.heap.size w w' := by
 have HB := Aside0.mk (Below.refl w.heap.size w)
 have H : ((almanacref26_User.f k a0).bind fun bt221 => ((almanacref26_User.f k a1).bind fun bt223 => (if a0.toList = a1.toList then (some true) else (if bt221.2 = true then (if bt223.2 = true then (some (bt221.1.toList == bt223.1.toList)) else (some false)) else (some false))))) = some r := h
 clear h
 replace H := Option.bind_eq_some_iff.mp H
 obtain ⟨⟨t221, t222⟩, A30, H⟩ := H
 replace H : ((almanacref26_User.f k a1).bind fun bt223 => (if a0.toList = a1.toList then (some true) else (if t222 = true then (if bt223.2 = true then (some (t221.toList == bt223.1.toList)) else (some false)) else (some false)))) = some r := H
 have A3 := Aside0.mk A30
 clear A30
 replace H := Option.bind_eq_some_iff.mp H
 obtain ⟨⟨t223, t224⟩, A40, H⟩ := H
 replace H : (if a0.toList = a1.toList then (some true) else (if t222 = true then (if t224 = true then (some (t221.toList == t223.toList)) else (some false)) else (some false))) = some r := H
 have A4 := Aside0.mk A40
 clear A40
 by_cases c5 : a0.toList = a1.toList
 ·rw [if_pos c5] at H
  have c5b0 : (a0.toList == a1.toList) = true := beq_iff_eq.mpr c5
  have c5b1 : (a0.toList != a1.toList) = false := bne_eq_false_iff_eq.mpr c5
  clear c5
  obtain rfl := Option.some.inj H
  go_enter Try.func69, Try.ntmps69
  go_wp2_with (first | ((with_reducible refine gate_callee (f := 9) rfl ?_); refine goesL_ (some 11) rfl rfl Try.func9 (by kernel_rfl) rfl #[.string a0] rfl (by (try simp only [List.map_toArray, List.map_cons, List.map_nil]); first | done | rfl | (simp only [List.length_drop, List.length_take]; rfl)) ?_; (with_reducible refine (almanacref26_User.calls k a0 t221 t222 _ A3.out).mono ?_); rintro e w6 ⟨rfl, hb⟩; refine ⟨_, rfl, ?_⟩; have n0_ := Aside0.mk (below_step (bU HB) hb); clear HB; have HB := n0_; clear n0_; (try clear hb); (try clear hb2); (try clear hk); (try clear hi)) | ((with_reducible refine gate_callee (f := 9) rfl ?_); refine goesL_ (some 16) rfl rfl Try.func9 (by kernel_rfl) rfl #[.string a1] rfl (by (try simp only [List.map_toArray, List.map_cons, List.map_nil]); first | done | rfl | (simp only [List.length_drop, List.length_take]; rfl)) ?_; (with_reducible refine (almanacref26_User.calls k a1 t223 t224 _ A4.out).mono ?_); rintro e w7 ⟨rfl, hb⟩; refine ⟨_, rfl, ?_⟩; have n0_ := Aside0.mk (below_step (bU HB) hb); clear HB; have HB := n0_; clear n0_; (try clear hb); (try clear hb2); (try clear hk); (try clear hi)))
  go_ret
  exact ⟨eqU, bU HB⟩
 ·rw [if_neg c5] at H
  have c5b0 : (a0.toList == a1.toList) = false := beq_eq_false_iff_ne.mpr c5
  have c5b1 : (a0.toList != a1.toList) = true := bne_iff_ne.mpr c5
  by_cases c8 : t222 = true
  ·subst c8
   have H1 : (if t224 = true then (some (t221.toList == t223.toList)) else (some false)) = some r := by rw [if_pos rfl] at H; exact H
   clear H
   have H := H1
   clear H1
   by_cases c9 : t224 = true
   ·subst c9
    have H1 : (some (t221.toList == t223.toList)) = some r := by rw [if_pos rfl] at H; exact H
    clear H
    have H := H1
    clear H1
    obtain rfl := Option.some.inj H
    go_enter Try.func69, Try.ntmps69
    go_wp2_with (first | ((with_reducible refine gate_callee (f := 9) rfl ?_); refine goesL_ (some 11) rfl rfl Try.func9 (by kernel_rfl) rfl #[.string a0] rfl (by (try simp only [List.map_toArray, List.map_cons, List.map_nil]); first | done | rfl | (simp only [List.length_drop, List.length_take]; rfl)) ?_; (with_reducible refine (almanacref26_User.calls k a0 t221 true _ A3.out).mono ?_); rintro e w10 ⟨rfl, hb⟩; refine ⟨_, rfl, ?_⟩; have n0_ := Aside0.mk (below_step (bU HB) hb); clear HB; have HB := n0_; clear n0_; (try clear hb); (try clear hb2); (try clear hk); (try clear hi)) | ((with_reducible refine gate_callee (f := 9) rfl ?_); refine goesL_ (some 16) rfl rfl Try.func9 (by kernel_rfl) rfl #[.string a1] rfl (by (try simp only [List.map_toArray, List.map_cons, List.map_nil]); first | done | rfl | (simp only [List.length_drop, List.length_take]; rfl)) ?_; (with_reducible refine (almanacref26_User.calls k a1 t223 true _ A4.out).mono ?_); rintro e w11 ⟨rfl, hb⟩; refine ⟨_, rfl, ?_⟩; have n0_ := Aside0.mk (below_step (bU HB) hb); clear HB; have HB := n0_; clear n0_; (try clear hb); (try clear hb2); (try clear hk); (try clear hi)))
    go_ret
    exact ⟨eqU, bU HB⟩
   ·replace c9 := Bool.eq_false_iff.mpr c9
    subst c9
    have H1 : (some false) = some r := by rw [if_neg (show ¬ (false = true) by decide)] at H; exact H
    clear H
    have H := H1
    clear H1
    obtain rfl := Option.some.inj H
    go_enter Try.func69, Try.ntmps69
    go_wp2_with (first | ((with_reducible refine gate_callee (f := 9) rfl ?_); refine goesL_ (some 11) rfl rfl Try.func9 (by kernel_rfl) rfl #[.string a0] rfl (by (try simp only [List.map_toArray, List.map_cons, List.map_nil]); first | done | rfl | (simp only [List.length_drop, List.length_take]; rfl)) ?_; (with_reducible refine (almanacref26_User.calls k a0 t221 true _ A3.out).mono ?_); rintro e w12 ⟨rfl, hb⟩; refine ⟨_, rfl, ?_⟩; have n0_ := Aside0.mk (below_step (bU HB) hb); clear HB; have HB := n0_; clear n0_; (try clear hb); (try clear hb2); (try clear hk); (try clear hi)) | ((with_reducible refine gate_callee (f := 9) rfl ?_); refine goesL_ (some 16) rfl rfl Try.func9 (by kernel_rfl) rfl #[.string a1] rfl (by (try simp only [List.map_toArray, List.map_cons, List.map_nil]); first | done | rfl | (simp only [List.length_drop, List.length_take]; rfl)) ?_; (with_reducible refine (almanacref26_User.calls k a1 t223 false _ A4.out).mono ?_); rintro e w13 ⟨rfl, hb⟩; refine ⟨_, rfl, ?_⟩; have n0_ := Aside0.mk (below_step (bU HB) hb); clear HB; have HB := n0_; clear n0_; (try clear hb); (try clear hb2); (try clear hk); (try clear hi)))
    go_ret
    exact ⟨eqU, bU HB⟩
  ·replace c8 := Bool.eq_false_iff.mpr c8
   subst c8
   have H1 : (some false) = some r := by rw [if_neg (show ¬ (false = true) by decide)] at H; exact H
   clear H
   have H := H1
   clear H1
   obtain rfl := Option.some.inj H
   go_enter Try.func69, Try.ntmps69
   go_wp2_with (first | ((with_reducible refine gate_callee (f := 9) rfl ?_); refine goesL_ (some 11) rfl rfl Try.func9 (by kernel_rfl) rfl #[.string a0] rfl (by (try simp only [List.map_toArray, List.map_cons, List.map_nil]); first | done | rfl | (simp only [List.length_drop, List.length_take]; rfl)) ?_; (with_reducible refine (almanacref26_User.calls k a0 t221 false _ A3.out).mono ?_); rintro e w14 ⟨rfl, hb⟩; refine ⟨_, rfl, ?_⟩; have n0_ := Aside0.mk (below_step (bU HB) hb); clear HB; have HB := n0_; clear n0_; (try clear hb); (try clear hb2); (try clear hk); (try clear hi)) | ((with_reducible refine gate_callee (f := 9) rfl ?_); refine goesL_ (some 16) rfl rfl Try.func9 (by kernel_rfl) rfl #[.string a1] rfl (by (try simp only [List.map_toArray, List.map_cons, List.map_nil]); first | done | rfl | (simp only [List.length_drop, List.length_take]; rfl)) ?_; (with_reducible refine (almanacref26_User.calls k a1 t223 t224 _ A4.out).mono ?_); rintro e w15 ⟨rfl, hb⟩; refine ⟨_, rfl, ?_⟩; have n0_ := Aside0.mk (below_step (bU HB) hb); clear HB; have HB := n0_; clear n0_; (try clear hb); (try clear hb2); (try clear hk); (try clear hi)))
   go_ret
   exact ⟨eqU, bU HB⟩
end Go.Proofs.Ytebmbfobmakheaa.PD
namespace Go.Proofs.Ytebmbfobmakheaa.PD
open Go.RowKit Go.Proofs.YtebmbfobmakheaaW.PrintWords Go.Proofs.YtebmbfobmakheaaW.PrintLast Go.Proofs.YtebmbfobmakheaaW.PrintMore
set_option linter.unusedVariables false
set_option linter.unusedSimpArgs false
theorem byteN_ext {a b : ByteArray} (hs : a.size = b.size) (h : ∀ i, i < a.size → byteN a i = byteN b i) : a = b := by
  cases a with | mk x =>
  cases b with | mk y =>
  congr 1
  apply Array.ext hs
  intro i h1 h2
  have := h i h1
  simp only [byteN, Array.getD_eq_getD_getElem?, Array.getElem?_eq_getElem h1, Array.getElem?_eq_getElem h2, Option.getD_some] at this
  exact UInt8.toNat_inj.1 this
theorem byteN_mapB (f : Nat → Nat) (hf : ∀ b, b < 256 → f b < 256) (s : ByteArray) (j : Nat) (hj : j < s.size) : byteN (mapB f s) j = f (byteN s j) := by
  unfold mapB
  rw [stepK_byte f hf s s.size (Nat.le_refl _) j, if_pos hj]
theorem byteN_extract (s : ByteArray) (a b j : Nat) (hb : b ≤ s.size) (hj : a + j < b) : byteN (s.extract a b) j = byteN s (a + j) := by
  unfold byteN
  have hl : j < (s.extract a b).size := by rw [ByteArray.size_extract]; omega
  have hl2 : a + j < s.size := by omega
  have e := ByteArray.getElem_extract (b := s) (i := j) (start := a) (stop := b) hl
  rw [Array.getD_eq_getD_getElem?, Array.getD_eq_getD_getElem?, show (s.extract a b).data[j]? = some (s.extract a b)[j] from Array.getElem?_eq_getElem (xs := (s.extract a b).data) hl, show s.data[a + j]? = some s[a + j] from Array.getElem?_eq_getElem (xs := s.data) hl2]
  simp only [Option.getD_some]
  exact congrArg UInt8.toNat e
theorem mapB_extract (f : Nat → Nat) (hf : ∀ b, b < 256 → f b < 256) (s : ByteArray) (a b : Nat) (hb : b ≤ s.size) : (mapB f s).extract a b = mapB f (s.extract a b) := by
  apply byteN_ext
  · rw [mapB_size, ByteArray.size_extract, ByteArray.size_extract, mapB_size]
  · intro i hi
    rw [ByteArray.size_extract, mapB_size, Nat.min_eq_left hb] at hi
    rw [byteN_extract _ _ _ _ (by rw [mapB_size]; exact hb) (by omega), byteN_mapB f hf s _ (by omega), byteN_mapB f hf _ _ (by rw [ByteArray.size_extract]; omega), byteN_extract _ _ _ _ hb (by omega)]
theorem bt_byteN (s : ByteArray) (i : Nat) (h : i < s.size) : bt s (i : Int) = (byteN s i : Int) := by
  have := bt_at s (i : Int) (by simpa using h)
  rw [← this]
  unfold byteN
  rw [Array.getD_eq_getD_getElem?, Array.getElem?_eq_getElem (show i < s.data.size from h)]
  rfl
theorem rname_l0 (s : ByteArray) (hs : s.size ≤ 140737488355328) : ∀ (d k i : Nat), s.size - i = d → i ≤ s.size → d < k → (∀ j, j < i → badB s j = false) → almanacref06_Name.l0 k s i = some (nameP s)
  | d, 0, _, _, _, hk, _ => absurd hk (Nat.not_lt_zero _)
  | d, k + 1, i, hd, hi, hk, hg => by
    simp only [almanacref06_Name.l0]
    by_cases hlt : i < s.size
    · have hbad : badB s i = badR (byteN s i : Int) := rfl
      rw [if_pos (by omega), if_pos (by omega), bt_byteN s i hlt]
      have bad : badB s i = true → nameP s = false := fun h => by
        unfold nameP
        have : allGood s = false := by
          rw [Bool.eq_false_iff]
          intro h2
          rw [(allGood_iff s).1 h2 i hlt] at h
          cases h
        rw [this]
        simp
      by_cases h1 : (byteN s i : Int) < 33
      · rw [if_pos h1, bad (by rw [hbad]; unfold badR; simp [h1])]
      · rw [if_neg h1]
        by_cases h2 : (byteN s i : Int) > 126
        · rw [if_pos h2, bad (by rw [hbad]; unfold badR; simp [show (126 : Int) < byteN s i from h2])]
        · rw [if_neg h2]
          by_cases h3 : (byteN s i : Int) = 47
          · rw [if_pos h3, bad (by rw [hbad]; unfold badR; simp [h3])]
          · rw [if_neg h3, show wrap64 ((i : Int) + 1) = ((i + 1 : Nat) : Int) by unfold wrap64; omega]
            refine rname_l0 s hs (d - 1) k (i + 1) (by omega) (by omega) (by omega) (fun j hj => ?_)
            rcases Nat.lt_or_ge j i with h | h
            · exact hg j h
            · obtain rfl : j = i := by omega
              rw [hbad]
              unfold badR
              simp only [Bool.or_eq_false_iff, decide_eq_false_iff_not]
              exact ⟨h1, h2, h3⟩
    · rw [if_neg (by omega)]
      have hall : allGood s = true := (allGood_iff s).2 (fun j hj => hg j (by omega))
      unfold nameP
      rw [hall]
      by_cases h1 : s.toList = ([] : List UInt8)
      · rw [if_pos h1, h1]; rfl
      · rw [if_neg h1]
        by_cases h2 : (s.size : Int) ≤ 24
        · rw [if_pos h2]
          by_cases h3 : s.toList = ([46] : List UInt8)
          · rw [if_pos h3, h3]; simp
          · rw [if_neg h3]
            have e1 : (s.toList != ([] : List UInt8)) = true := by simpa using h1
            have e2 : decide (s.size ≤ 24) = true := decide_eq_true (by omega)
            have e3 : (s.toList != ([46] : List UInt8)) = true := by simpa using h3
            rw [e1, e2, e3]
            simp
        · rw [if_neg h2]
          have e2 : decide (s.size ≤ 24) = false := decide_eq_false (by omega)
          rw [e2]
          simp
theorem rname_val (k : Nat) (s : ByteArray) (hs : s.size ≤ 140737488355328) (hk : s.size < k) : almanacref06_Name.f k s = some (nameP s) :=
  rname_l0 s hs s.size k 0 (by omega) (by omega) hk (fun j hj => by omega)
def mailB : ByteArray := ⟨#[109, 97, 105, 108, 116, 111, 58]⟩
def tailB : ByteArray := ⟨#[64, 97, 108, 109, 97, 110, 97, 99]⟩
theorem low_mail : mapB lowN mailB = mailB := by decide +kernel
theorem low_tail : mapB lowN tailB = tailB := by decide +kernel
def userP (a : ByteArray) : ByteArray × Bool :=
  if 15 ≤ a.size ∧ (mapB lowN (a.extract 0 7)).toList = mailB.toList ∧ (mapB lowN (a.extract (a.size - 8) a.size)).toList = tailB.toList ∧ nameP (a.extract 7 (a.size - 8)) = true then (a.extract 7 (a.size - 8), true) else (⟨#[]⟩, false)
theorem user_val (k : Nat) (a : ByteArray) (ha : shortB a = true) : itip_User.f (k + 1) a = some (userP a) := by
  have hsz : a.size ≤ 140737488355328 := of_decide_eq_true ha
  have hm : (⟨#[109, 97, 105, 108, 116, 111, 58]⟩ : ByteArray) = mailB := rfl
  have ht : (⟨#[64, 97, 108, 109, 97, 110, 97, 99]⟩ : ByteArray) = tailB := rfl
  have hms : mailB.size = 7 := rfl
  have hts : tailB.size = 8 := rfl
  have hj : ∀ b : Bool, (b = false → 15 ≤ a.size) → itip_User.j0 (k + 1) a b = some (if b = true then ((⟨#[]⟩ : ByteArray), false) else if nameP (a.extract 7 (a.size - 8)) = true then (a.extract 7 (a.size - 8), true) else (⟨#[]⟩, false)) := by
    intro b hb
    simp only [itip_User.j0]
    cases b with
    | true => rfl
    | false =>
      have h15 := hb rfl
      rw [if_neg (by simp), show wrap64 ((a.size : Int) - 8) = ((a.size - 8 : Nat) : Int) by unfold wrap64; omega, if_pos (by omega), if_pos (by omega)]
      unfold dir_Name.f
      rw [if_pos (by rw [ByteArray.size_extract, Int.toNat_natCast]; omega), Option.bind_some, Int.toNat_natCast]
      cases nameP (a.extract 7 (a.size - 8)) <;> rfl
  unfold itip_User.f text_Lower.f
  rw [if_pos ha, Option.bind_some, hm, ht]
  unfold strings_HasPrefix.f strings_HasSuffix.f stringslite_HasPrefix.f stringslite_HasSuffix.f
  rw [hms, hts, mapB_size]
  by_cases h15 : 15 ≤ a.size
  · unfold userP
    rw [if_pos (by omega), if_pos (by omega), if_pos (by omega), Option.bind_some, Option.bind_some, show ((7 : Nat) : Int).toNat = 7 from rfl, mapB_extract lowN lowN_lt a 0 7 (by omega)]
    by_cases hp : (mapB lowN (a.extract 0 7)).toList = mailB.toList
    · rw [if_pos (beq_iff_eq.2 hp), if_pos (by omega), show wrap64 ((a.size : Int) - ((8 : Nat) : Int)) = ((a.size - 8 : Nat) : Int) by unfold wrap64; omega, if_pos (by omega), if_pos (by omega), Option.bind_some, Option.bind_some, Int.toNat_natCast, mapB_extract lowN lowN_lt a _ _ (Nat.le_refl _)]
      by_cases hq : (mapB lowN (a.extract (a.size - 8) a.size)).toList = tailB.toList
      · rw [if_pos (beq_iff_eq.2 hq), hj _ (fun _ => h15), if_neg (by simp; omega)]
        by_cases hn : nameP (a.extract 7 (a.size - 8)) = true
        · rw [if_pos hn, if_pos ⟨h15, hp, hq, hn⟩]
        · rw [if_neg hn, if_neg (fun h => hn h.2.2.2)]
      · rw [if_neg (by simpa using hq), hj true (by simp), if_pos rfl, if_neg (fun h => hq h.2.2.1)]
    · rw [if_neg (by simpa using hp), hj true (by simp), if_pos rfl, if_neg (fun h => hp h.2.1)]
  · have hU : userP a = ((⟨#[]⟩ : ByteArray), false) := by unfold userP; rw [if_neg (fun h => h15 h.1)]
    rw [hU]
    have fin : ∀ b : Bool, (b = false → False) → itip_User.j0 (k + 1) a b = some ((⟨#[]⟩ : ByteArray), false) := fun b hb => by rw [hj b (fun h => (hb h).elim)]; cases b with | true => rfl | false => exact (hb rfl).elim
    have hd : decide ((a.size : Int) < 15) = true := decide_eq_true (by omega)
    rw [hd, fin true (by simp)]
    by_cases h7 : (a.size : Int) ≥ ((7 : Nat) : Int)
    · rw [if_pos h7, if_pos (by omega), if_pos (by omega), Option.bind_some, Option.bind_some]
      split
      · by_cases h8 : (a.size : Int) ≥ ((8 : Nat) : Int)
        · rw [if_pos h8, show wrap64 ((a.size : Int) - ((8 : Nat) : Int)) = ((a.size - 8 : Nat) : Int) by unfold wrap64; omega, if_pos (by omega), if_pos (by omega), Option.bind_some, Option.bind_some]
          split <;> rfl
        · rw [if_neg h8, Option.bind_some, Option.bind_some]
          rfl
      · rfl
    · rw [if_neg h7, Option.bind_some, Option.bind_some]
      rfl
theorem ruser_val (k : Nat) (a : ByteArray) (ha : shortB a = true) (hk : a.size < k) : almanacref26_User.f (k + 1) a = some (userP a) := by
  have hsz : a.size ≤ 140737488355328 := of_decide_eq_true ha
  have hm : (⟨#[109, 97, 105, 108, 116, 111, 58]⟩ : ByteArray) = mailB := rfl
  have ht : (⟨#[64, 97, 108, 109, 97, 110, 97, 99]⟩ : ByteArray) = tailB := rfl
  have hal : ∀ x y : ByteArray, x.size ≤ 140737488355328 → y.size ≤ 140737488355328 → almanacref08_Alike.f x y = some ((mapB lowN x).toList == (mapB lowN y).toList) := fun x y hx hy => by
    unfold almanacref08_Alike.f almanacref08_Lower.f shortB
    rw [if_pos (decide_eq_true hx), if_pos (decide_eq_true hy)]
    rfl
  have hj : ∀ b : Bool, (b = false → 15 ≤ a.size) → almanacref26_User.j0 (k + 1) a a.size b = some (if b = true then ((⟨#[]⟩ : ByteArray), false) else if nameP (a.extract 7 (a.size - 8)) = true then (a.extract 7 (a.size - 8), true) else (⟨#[]⟩, false)) := by
    intro b hb
    simp only [almanacref26_User.j0]
    cases b with
    | true => rfl
    | false =>
      have h15 := hb rfl
      rw [if_neg (by simp), show wrap64 ((a.size : Int) - 8) = ((a.size - 8 : Nat) : Int) by unfold wrap64; omega, if_pos (by omega), if_pos (by omega), Int.toNat_natCast, rname_val k _ (by rw [ByteArray.size_extract]; omega) (by rw [ByteArray.size_extract]; omega), Option.bind_some]
      cases nameP (a.extract 7 (a.size - 8)) <;> rfl
  unfold almanacref26_User.f
  rw [hm, ht]
  unfold userP
  by_cases h15 : 15 ≤ a.size
  · rw [if_neg (by omega), if_pos (by omega), if_pos (by omega), hal _ _ (by rw [ByteArray.size_extract]; omega) (by decide), low_mail, Option.bind_some]
    by_cases hp : (mapB lowN (a.extract 0 7)).toList = mailB.toList
    · rw [if_pos (beq_iff_eq.2 hp), show wrap64 ((a.size : Int) - 8) = ((a.size - 8 : Nat) : Int) by unfold wrap64; omega, if_pos (by omega), if_pos (by omega), Int.toNat_natCast, hal _ _ (by rw [ByteArray.size_extract]; omega) (by decide), low_tail, Option.bind_some, hj _ (fun _ => h15)]
      by_cases hq : (mapB lowN (a.extract (a.size - 8) a.size)).toList = tailB.toList
      · rw [if_neg (by simpa using hq)]
        by_cases hn : nameP (a.extract 7 (a.size - 8)) = true
        · rw [if_pos hn, if_pos ⟨h15, hp, hq, hn⟩]
        · rw [if_neg hn, if_neg (fun h => hn h.2.2.2)]
      · rw [if_pos (by simpa using hq), if_neg (fun h => hq h.2.2.1)]
    · rw [if_neg (by simpa using hp), hj true (by simp), if_pos rfl, if_neg (fun h => hp h.2.1)]
  · rw [if_pos (by omega), hj true (by simp), if_pos rfl, if_neg (fun h => h15 h.1)]
theorem ralike_val (k : Nat) (a b : ByteArray) (ha : shortB a = true) (hb : shortB b = true) (hk : a.size < k) (hk2 : b.size < k) : almanacref26_Alike.f (k + 1) a b = some (alikeB a b) := by
  rw [← alike_val a b ha hb]
  unfold almanacref26_Alike.f itip_alike.f
  rw [ruser_val k a ha hk, ruser_val k b hb hk2, show (1 : Nat) = 0 + 1 from rfl, user_val 0 a ha, user_val 0 b hb]
end Go.Proofs.Ytebmbfobmakheaa.PD
namespace Go.Proofs.Ytebmbfobmakheaa.PD
open Go.RowKit Go.Proofs.YtebmbfobmakheaaW.PrintWords Go.Proofs.YtebmbfobmakheaaW.PrintLast Go.Proofs.YtebmbfobmakheaaW.PrintMore
theorem wide_fn (f : FuncId) : Fence.wide.fn f = True := rfl
theorem wide_depth : Fence.wide.depth = none := rfl
attribute [local go_sem] isSome_setCell Oper.semAt_some wide_fn wide_depth
set_option linter.unusedVariables false
set_option linter.unusedSimpArgs false
structure CC where
  s : ByteArray
  a1 : Option Addr
  n1 : Nat
  c1 : Nat
  a2 : Option Addr
  n2 : Nat
  c2 : Nat
abbrev CC.cells (x : CC) : Array Value := #[.string x.s, .slice x.a1 x.n1 x.c1, .slice x.a2 x.n2 x.c2]
abbrev CC.enc (x : CC) : Value := .agg x.cells
def RdAt (A : Option Addr) (L : List CC) (i : Nat) (W : World) : Prop := ∀ j, i ≤ j → (hj : j < L.length) → ∃ ad, A = some ad ∧ W.cell? (ad.add (j * 3)) = some (.string (L[j]'hj).s) ∧ W.cell? ⟨(ad.add (j * 3)).block, (ad.add (j * 3)).off + 1, none⟩ = some (.slice (L[j]'hj).a1 (L[j]'hj).n1 (L[j]'hj).c1) ∧ W.cell? ⟨(ad.add (j * 3)).block, (ad.add (j * 3)).off + 2, none⟩ = some (.slice (L[j]'hj).a2 (L[j]'hj).n2 (L[j]'hj).c2)
def isTz (s : ByteArray) : Bool := s.toList == ([86, 84, 73, 77, 69, 90, 79, 78, 69] : List UInt8)
def othersF : Nat → List CC → List (CC × Nat)
  | _, [] => []
  | i, x :: r => if isTz x.s = true then othersF (i + 1) r else (x, i) :: othersF (i + 1) r
def nextI (pre : List (CC × Nat)) : Nat := match pre.getLast? with | some p => p.2 + 1 | none => 0
theorem nextI_snoc (pre : List (CC × Nat)) (x : CC) (i : Nat) : nextI (pre ++ [(x, i)]) = i + 1 := by unfold nextI; simp
abbrev encC (p : CC × Nat) : Array Value := #[.int .i64 p.2, p.1.enc]
def NoZ (_ : Nat) : Prop := False
set_option maxRecDepth 100000 in
set_option maxHeartbeats 8000000 in
theorem comps_in {Own : World → Nat → Prop} (A : Option Addr) (c : Nat) (L : List CC) (hml : L.length ≤ 9223372036854775807) (nm : ByteArray) (A1 : Option Addr) (n1 c1 l Cb n₀ : Nat) (J Jx : List (CC × Nat) → World → Prop) (W : World) (hJ : OwnZ NoZ W.heap.size J) (hR : ∀ pre W1, J pre W1 → RdAt A L (nextI pre) W1)
    (hY : ∀ pre x W1, J pre W1 → pre ++ [x] <+: othersF 0 L → YieldAt Fence.wide 50 Try.prog l (encC x) W1 fun e W' => ((e = .returned (.bool true) ∧ J (pre ++ [x]) W') ∨ (e = .returned (.bool false) ∧ Jx (pre ++ [x]) W')) ∧ Below n₀ W1 W' ∧ SameZ NoZ W1 W' ∧ KO Own W.heap.size W1 W')
    (hO : W.heap[Cb]? = some (.cells #[.string nm, .slice A1 n1 c1, .slice A L.length c] 25 (0, 0))) (h0 : J [] W) :
    CallsIn Fence.wide 51 Try.prog 79 #[.func (.yield l) #[] #[], .pointer (some ⟨Cb, 0, none⟩)] W fun e W' => (∃ v, e = .returned v) ∧ (J (othersF 0 L) W' ∨ ∃ pre, pre <+: othersF 0 L ∧ Jx pre W') := by
  refine callsIn_of_wp Try.func79 rfl trivial ?_ rfl
  simp only [Try.ntmps79, List.size_toArray, List.length_cons, List.length_nil, Nat.reduceAdd, Nat.reduceSub, Array.replicate_succ, Array.replicate_zero, List.push_toArray, List.append_toArray, List.nil_append, List.cons_append]
  have HYd := Aside0.mk hY
  have HJ := Aside0.mk hJ
  have HRd := Aside0.mk hR
  have H0 := Aside0.mk h0
  have cO : W.cell? ⟨Cb, 2, none⟩ = some (.slice A L.length c) := (blk_cell hO 2).trans rfl
  clear hY hJ h0 hO hR
  gi_wp2
  gi_loopw [8] (fun v wr => ∃ (k : Nat) (pre : List (CC × Nat)), v = .int .i64 k ∧ k ≤ L.length ∧ Aside0 (pre ++ othersF k (L.drop k) = othersF 0 L) ∧ nextI pre ≤ k ∧ Aside0 (J pre wr)) (fun v _ => L.length - (intOf v).toNat)
  case atStart => exact ⟨0, [], rfl, Nat.zero_le _, ⟨rfl⟩, Nat.le_refl _, H0⟩
  case round =>
    obtain ⟨k, pre, rfl, hk, HX, hnx, HJ1⟩ := hrel
    by_cases hlt : k < L.length
    · have hlt0 : decide ((k : Int) < (L.length : Int)) = true := decide_eq_true (by omega)
      obtain ⟨ad, eA, hx0, hx1, hx2⟩ := HRd.out pre wr HJ1.out k hnx hlt
      have hdr := List.drop_eq_getElem_cons hlt
      obtain ⟨x, ex⟩ : ∃ x, L[k] = x := ⟨_, rfl⟩
      rw [ex] at hx0 hx1 hx2 hdr
      subst eA
      by_cases htz : x.s.toList = ([86, 84, 73, 77, 69, 90, 79, 78, 69] : List UInt8)
      · have q3 : (x.s.toList = ([86, 84, 73, 77, 69, 90, 79, 78, 69] : List UInt8)) = True := eq_true htz
        have hXX : pre ++ othersF (k + 1) (L.drop (k + 1)) = othersF 0 L := by
          rw [← HX.out, hdr]; unfold othersF; rw [if_pos (by unfold isTz; exact beq_iff_eq.2 htz)]
          first | rfl | (conv => rhs; unfold othersF)
        have HXX := Aside0.mk hXX
        clear hXX hdr htz
        gi_wp2
        exact ⟨⟨k + 1, pre, by simp, hlt, HXX, by omega, ⟨HJ.out.below HJ1.out (below_alloc (Below.refl _ _) _)⟩⟩, by show L.length - ((k : Int) + 1).toNat < L.length - (k : Int).toNat; omega⟩
      · have q3 : (x.s.toList = ([86, 84, 73, 77, 69, 90, 79, 78, 69] : List UInt8)) = False := eq_false htz
        have q4 : (x.s.toList == ([86, 84, 73, 77, 69, 90, 79, 78, 69] : List UInt8)) = false := beq_eq_false_iff_ne.2 htz
        have hXX : (pre ++ [(x, k)]) ++ othersF (k + 1) (L.drop (k + 1)) = othersF 0 L := by
          rw [← HX.out, hdr, List.append_assoc]
          congr 1
          conv => rhs; unfold othersF
          rw [if_neg (by unfold isTz; simpa using htz)]
          rfl
        have HXX := Aside0.mk hXX
        have HJ2 := Aside0.mk (HJ.out.below HJ1.out (below_alloc (Below.refl _ _) (.cells #[.string x.s, .slice x.a1 x.n1 x.c1, .slice x.a2 x.n2 x.c2] 25)))
        obtain ⟨fn, tmps, assign, body, hy, hRn⟩ := HYd.out pre (x, k) _ HJ2.out (by rw [← hXX]; exact List.prefix_append _ _)
        have HRr := Aside0.mk hRn
        clear hXX hdr htz hRn
        gi_wp2
        refine HRr.out.mono ?_
        rintro e W4 ⟨⟨rfl, hJ4⟩ | ⟨rfl, hJx4⟩, hb4, hz4, hab4⟩
        · gi_wp2
          exact ⟨⟨k + 1, pre ++ [(x, k)], by simp, hlt, HXX, by rw [nextI_snoc]; exact Nat.le_refl _, ⟨hJ4⟩⟩, by show L.length - ((k : Int) + 1).toNat < L.length - (k : Int).toNat; omega⟩
        · gi_wp2
          refine bodyPost_ret (results_none rfl _ _ _) rfl ?_
          exact ⟨⟨_, rfl⟩, .inr ⟨_, by rw [← HXX.out]; exact List.prefix_append _ _, hJx4⟩⟩
    · have hlt0 : decide ((k : Int) < (L.length : Int)) = false := decide_eq_false (by omega)
      gi_wp2
      refine bodyPost_end (results_none rfl _ _ _) rfl ?_
      have e1 : pre = othersF 0 L := by
        have := HX.out
        rw [List.drop_eq_nil_of_le (by omega)] at this
        rw [← this]
        simp [othersF]
      exact ⟨⟨_, rfl⟩, .inl (by rw [← e1]; exact HJ1.out)⟩
set_option maxRecDepth 100000 in
set_option maxHeartbeats 1600000 in
theorem comps_made (nm : ByteArray) (A1 : Option Addr) (n1 c1 : Nat) (A2 : Option Addr) (n2 c2 : Nat) (w : World) :
    Calls Try.prog 41 #[.agg #[.string nm, .slice A1 n1 c1, .slice A2 n2 c2]] w fun e w' => e = .returned (.func (.func 79) #[] #[.pointer (some ⟨w.heap.size, 0, none⟩)]) ∧ w' = w.alloc (.cells #[.string nm, .slice A1 n1 c1, .slice A2 n2 c2] 25) := by
  go_enter Try.func41, Try.ntmps41
  go_wp2
  go_ret
  exact ⟨rfl, rfl⟩
end Go.Proofs.Ytebmbfobmakheaa.PD
namespace Go.Proofs.Ytebmbfobmakheaa.PD
open Go.RowKit Go.Proofs.YtebmbfobmakheaaW.PrintWords Go.Proofs.YtebmbfobmakheaaW.PrintLast Go.Proofs.YtebmbfobmakheaaW.PrintMore
attribute [local go_sem] isSome_setCell max2_int min2_int max_two min_two
set_option linter.unusedVariables false
set_option linter.unusedSimpArgs false
def idxP {α : Type} (p : α → Bool) (l : List α) : Int := match l.findIdx? p with | some i => (i : Int) | none => -1
theorem idxP_at {α : Type} (p : α → Bool) (l : List α) (i : Nat) (hi : i < l.length) (h : p l[i] = true) (hno : ∀ j (hj : j < i), p (l[j]'(by omega)) = false) : idxP p l = i := by
  unfold idxP
  rw [List.findIdx?_eq_some_iff_getElem.2 ⟨hi, h, fun j hj => by simp [hno j hj]⟩]
theorem idxP_none {α : Type} (p : α → Bool) (l : List α) (hno : ∀ j (hj : j < l.length), p l[j] = false) : idxP p l = -1 := by
  unfold idxP
  rw [List.findIdx?_eq_none_iff.2 (fun x hx => by obtain ⟨j, hj, rfl⟩ := List.getElem_of_mem hx; exact hno j hj)]
theorem idx_find {α : Type} (p : α → Bool) (l : List α) : (idxP p l = -1 ∧ l.find? p = none) ∨ ∃ i : Nat, ∃ hi : i < l.length, idxP p l = i ∧ l.find? p = some l[i] := by
  unfold idxP
  cases h : l.findIdx? p with
  | none =>
    left
    rw [List.findIdx?_eq_none_iff] at h
    exact ⟨rfl, List.find?_eq_none.2 (fun x hx => by simp [h x hx])⟩
  | some i =>
    right
    obtain ⟨h1, h2, h3⟩ := List.findIdx?_eq_some_iff_getElem.1 h
    refine ⟨i, h1, rfl, ?_⟩
    rw [List.find?_eq_some_iff_getElem]
    exact ⟨h2, i, h1, rfl, fun j hj => by have := h3 j hj; simpa using this⟩
theorem idxP_any {α : Type} (p : α → Bool) (l : List α) : decide (idxP p l ≥ 0) = l.any p := by
  unfold idxP
  cases h : l.findIdx? p with
  | none =>
    rw [List.findIdx?_eq_none_iff] at h
    have : l.any p = false := by rw [List.any_eq_false]; intro x hx; simp [h x hx]
    rw [this]; rfl
  | some i =>
    obtain ⟨h1, h2, _⟩ := List.findIdx?_eq_some_iff_getElem.1 h
    have : l.any p = true := List.any_eq_true.2 ⟨_, List.getElem_mem h1, h2⟩
    rw [this]
    exact decide_eq_true (by show (i : Int) ≥ 0; omega)
set_option maxRecDepth 100000 in
set_option maxHeartbeats 1600000 in
theorem index45 (fk : Nat) (fn : Func) (hfn : Try.prog.funcs[fk]? = some fn) (hname : (fn.name == "runtime.NumGoroutine") = false) (hbody : fn.body.isSome = true) (lb : Array Value) (p : S45 → Bool)
    (A0 : Option Addr) (c0 : Nat) (l0 : List S45) (w : World) (hr0 : Kd.C k45 w A0 l0.length l0)
    (hp : ∀ x ∈ l0, ∀ A c, ∀ W, Below w.heap.size w W → Calls Try.prog fk (#[.agg #[.string x.f0, .slice A x.f1.length c, .string x.f2]] ++ lb) W fun e W' => e = .returned (.bool (p x)) ∧ Below W.heap.size W W') :
    Calls Try.prog 80 #[.slice A0 l0.length c0, .func (.func fk) #[] lb] w fun e w' => e = .returned (.int .i64 (idxP p l0)) ∧ Below w.heap.size w w' := by
  have HR0 := Aside0.mk hr0
  have hml : l0.length ≤ 9223372036854775807 := by have := hr0.2.1; unfold maxLen at this; omega
  clear hr0
  have HP := Aside0.mk hp
  clear hp
  have HB := Aside0.mk (Below.refl w.heap.size w)
  go_enter Try.func80, Try.ntmps80
  go_wp2
  go_loopw [8] (fun v wr => ∃ k : Nat, v = .int .i64 k ∧ k ≤ l0.length ∧ Aside0 (∀ j, (hj : j < l0.length) → j < k → p l0[j] = false) ∧ Aside0 (Below w.heap.size w wr)) (fun v _ => l0.length - (intOf v).toNat)
  case atStart => exact ⟨0, rfl, Nat.zero_le _, ⟨fun j _ hj => absurd hj (Nat.not_lt_zero _)⟩, HB⟩
  case round =>
    obtain ⟨k, rfl, hk, hno, hb⟩ := hrel
    by_cases hlt : k < l0.length
    · have hlt0 : decide ((k : Int) < (l0.length : Int)) = true := decide_eq_true (by omega)
      obtain ⟨ad, A1, c1, e, hx0, hx1, hx2, _, _⟩ := at_T45 HR0.out (k : Int) (by omega) (by omega)
      subst e
      replace hx0 := (hb.out.cell (World.block_lt_of_cell? w _ hx0)).trans hx0
      replace hx1 := (hb.out.cell (World.block_lt_of_cell? w _ hx1)).trans hx1
      replace hx2 := (hb.out.cell (World.block_lt_of_cell? w _ hx2)).trans hx2
      have hget : rd_T45 l0 (k : Int) = l0[k] := by simp [rd_T45, hlt]
      rw [hget] at hx0 hx1 hx2
      have hc := HP.out l0[k] (List.getElem_mem hlt) A1 c1 wr hb.out
      simp only [Int.toNat_natCast] at hx0 hx1 hx2
      cases hpk : p l0[k] with
      | true =>
        rw [hpk] at hc
        have HC := Aside0.mk hc
        clear hc
        go_wp2_with ((with_reducible refine gate_tmp (t := 11) rfl ?_); refine goesF_ (some 16) rfl rfl hfn hname hbody (args := #[.agg #[.string l0[k].f0, .slice A1 l0[k].f1.length c1, .string l0[k].f2]] ++ lb) rfl rfl (by (try simp only [List.map_toArray, List.map_cons, List.map_nil]); first | done | rfl) ?_; refine HC.out.mono ?_; rintro e W' ⟨rfl, hb'⟩; refine ⟨_, rfl, ?_⟩)
        go_ret
        refine ⟨?_, hb.out.trans (hb'.mono hb.out.size)⟩
        rw [idxP_at p l0 k hlt hpk (fun j hj => hno.out j (by omega) hj)]
        rfl
      | false =>
        rw [hpk] at hc
        have HC := Aside0.mk hc
        clear hc
        go_wp2_with ((with_reducible refine gate_tmp (t := 11) rfl ?_); refine goesF_ (some 16) rfl rfl hfn hname hbody (args := #[.agg #[.string l0[k].f0, .slice A1 l0[k].f1.length c1, .string l0[k].f2]] ++ lb) rfl rfl (by (try simp only [List.map_toArray, List.map_cons, List.map_nil]); first | done | rfl) ?_; refine HC.out.mono ?_; rintro e W' ⟨rfl, hb'⟩; refine ⟨_, rfl, ?_⟩)
        go_roundw
        case rel =>
          refine ⟨k + 1, by simp, hlt, ⟨fun j hj hjk => ?_⟩, ⟨hb.out.trans (hb'.mono hb.out.size)⟩⟩
          rcases Nat.lt_or_ge j k with h | h
          · exact hno.out j hj h
          · obtain rfl : j = k := by omega
            exact hpk
        case measure => show l0.length - (((k : Int) + 1)).toNat < l0.length - ((k : Int)).toNat; omega
    · have hlt0 : decide ((k : Int) < (l0.length : Int)) = false := decide_eq_false (by omega)
      go_wp2
      go_ret
      refine ⟨?_, hb.out⟩
      rw [idxP_none p l0 (fun j hj => hno.out j hj (by omega))]
      rfl
set_option maxRecDepth 100000 in
set_option maxHeartbeats 1600000 in
theorem index77 (fk : Nat) (fn : Func) (hfn : Try.prog.funcs[fk]? = some fn) (hname : (fn.name == "runtime.NumGoroutine") = false) (hbody : fn.body.isSome = true) (lb : Array Value) (p : S77 → Bool)
    (A0 : Option Addr) (c0 : Nat) (l0 : List S77) (w : World) (hr0 : Kd.C k77 w A0 l0.length l0)
    (hp : ∀ x ∈ l0, ∀ A c, ∀ W, Below w.heap.size w W → Calls Try.prog fk (#[.agg #[.string x.f0, .slice A x.f1.length c]] ++ lb) W fun e W' => e = .returned (.bool (p x)) ∧ Below W.heap.size W W') :
    Calls Try.prog 91 #[.slice A0 l0.length c0, .func (.func fk) #[] lb] w fun e w' => e = .returned (.int .i64 (idxP p l0)) ∧ Below w.heap.size w w' := by
  have HR0 := Aside0.mk hr0
  have hml : l0.length ≤ 9223372036854775807 := by have := hr0.2.1; unfold maxLen at this; omega
  clear hr0
  have HP := Aside0.mk hp
  clear hp
  have HB := Aside0.mk (Below.refl w.heap.size w)
  go_enter Try.func91, Try.ntmps91
  go_wp2
  go_loopw [8] (fun v wr => ∃ k : Nat, v = .int .i64 k ∧ k ≤ l0.length ∧ Aside0 (∀ j, (hj : j < l0.length) → j < k → p l0[j] = false) ∧ Aside0 (Below w.heap.size w wr)) (fun v _ => l0.length - (intOf v).toNat)
  case atStart => exact ⟨0, rfl, Nat.zero_le _, ⟨fun j _ hj => absurd hj (Nat.not_lt_zero _)⟩, HB⟩
  case round =>
    obtain ⟨k, rfl, hk, hno, hb⟩ := hrel
    by_cases hlt : k < l0.length
    · have hlt0 : decide ((k : Int) < (l0.length : Int)) = true := decide_eq_true (by omega)
      obtain ⟨ad, A1, c1, e, hx0, hx1, _, _⟩ := at_T77 HR0.out (k : Int) (by omega) (by omega)
      subst e
      replace hx0 := (hb.out.cell (World.block_lt_of_cell? w _ hx0)).trans hx0
      replace hx1 := (hb.out.cell (World.block_lt_of_cell? w _ hx1)).trans hx1
      have hget : rd_T77 l0 (k : Int) = l0[k] := by simp [rd_T77, hlt]
      rw [hget] at hx0 hx1
      have hc := HP.out l0[k] (List.getElem_mem hlt) A1 c1 wr hb.out
      simp only [Int.toNat_natCast] at hx0 hx1
      cases hpk : p l0[k] with
      | true =>
        rw [hpk] at hc
        have HC := Aside0.mk hc
        clear hc
        go_wp2_with ((with_reducible refine gate_tmp (t := 11) rfl ?_); refine goesF_ (some 16) rfl rfl hfn hname hbody (args := #[.agg #[.string l0[k].f0, .slice A1 l0[k].f1.length c1]] ++ lb) rfl rfl (by (try simp only [List.map_toArray, List.map_cons, List.map_nil]); first | done | rfl) ?_; refine HC.out.mono ?_; rintro e W' ⟨rfl, hb'⟩; refine ⟨_, rfl, ?_⟩)
        go_ret
        refine ⟨?_, hb.out.trans (hb'.mono hb.out.size)⟩
        rw [idxP_at p l0 k hlt hpk (fun j hj => hno.out j (by omega) hj)]
        rfl
      | false =>
        rw [hpk] at hc
        have HC := Aside0.mk hc
        clear hc
        go_wp2_with ((with_reducible refine gate_tmp (t := 11) rfl ?_); refine goesF_ (some 16) rfl rfl hfn hname hbody (args := #[.agg #[.string l0[k].f0, .slice A1 l0[k].f1.length c1]] ++ lb) rfl rfl (by (try simp only [List.map_toArray, List.map_cons, List.map_nil]); first | done | rfl) ?_; refine HC.out.mono ?_; rintro e W' ⟨rfl, hb'⟩; refine ⟨_, rfl, ?_⟩)
        go_roundw
        case rel =>
          refine ⟨k + 1, by simp, hlt, ⟨fun j hj hjk => ?_⟩, ⟨hb.out.trans (hb'.mono hb.out.size)⟩⟩
          rcases Nat.lt_or_ge j k with h | h
          · exact hno.out j hj h
          · obtain rfl : j = k := by omega
            exact hpk
        case measure => show l0.length - (((k : Int) + 1)).toNat < l0.length - ((k : Int)).toNat; omega
    · have hlt0 : decide ((k : Int) < (l0.length : Int)) = false := decide_eq_false (by omega)
      go_wp2
      go_ret
      refine ⟨?_, hb.out⟩
      rw [idxP_none p l0 (fun j hj => hno.out j hj (by omega))]
      rfl
end Go.Proofs.Ytebmbfobmakheaa.PD
namespace Go.Proofs.Ytebmbfobmakheaa.PD
open Go.RowKit Go.Proofs.YtebmbfobmakheaaW.PrintWords Go.Proofs.YtebmbfobmakheaaW.PrintLast Go.Proofs.YtebmbfobmakheaaW.PrintMore
attribute [local go_sem] isSome_setCell max2_int min2_int max_two min_two
set_option linter.unusedVariables false
set_option linter.unusedSimpArgs false
set_option maxRecDepth 100000 in
set_option maxHeartbeats 1600000 in
theorem propN_calls (nm : ByteArray) (G : Nat) (s : ByteArray) (A : Option Addr) (n c : Nat) (t : ByteArray) (W : World) (hG : W.heap[G]? = some (.cells #[.string nm] 9 (0, 0))) :
    Calls Try.prog 81 (#[.agg #[.string s, .slice A n c, .string t]] ++ #[.pointer (some ⟨G, 0, none⟩)]) W fun e W' => e = .returned (.bool (s.toList == nm.toList)) ∧ Below W.heap.size W W' := by
  have hc : (W.alloc (.cells #[.string s, .slice A n c, .string t] 45)).cell? ⟨G, 0, none⟩ = some (.string nm) := (blk_cell (blk_alloc hG _) 0).trans rfl
  have HB0 := Aside0.mk (below_alloc (Below.refl W.heap.size W) (.cells #[.string s, .slice A n c, .string t] 45))
  go_enter Try.func81, Try.ntmps81
  go_wp2
  go_ret
  exact ⟨rfl, HB0.out⟩
set_option maxRecDepth 100000 in
set_option maxHeartbeats 1600000 in
theorem propsN_calls (nm : ByteArray) (G : Nat) (s : ByteArray) (A : Option Addr) (n c : Nat) (t : ByteArray) (W : World) (hG : W.heap[G]? = some (.cells #[.string nm] 9 (0, 0))) :
    Calls Try.prog 99 (#[.agg #[.string s, .slice A n c, .string t]] ++ #[.pointer (some ⟨G, 0, none⟩)]) W fun e W' => e = .returned (.bool (s.toList != nm.toList)) ∧ Below W.heap.size W W' := by
  have hc : (W.alloc (.cells #[.string s, .slice A n c, .string t] 45)).cell? ⟨G, 0, none⟩ = some (.string nm) := (blk_cell (blk_alloc hG _) 0).trans rfl
  have HB0 := Aside0.mk (below_alloc (Below.refl W.heap.size W) (.cells #[.string s, .slice A n c, .string t] 45))
  go_enter Try.func99, Try.ntmps99
  go_wp2
  go_ret
  exact ⟨rfl, HB0.out⟩
set_option maxRecDepth 100000 in
set_option maxHeartbeats 1600000 in
theorem withoutN_calls (nm : ByteArray) (G : Nat) (s : ByteArray) (A : Option Addr) (n c : Nat) (t : ByteArray) (W : World) (hG : W.heap[G]? = some (.cells #[.string nm] 9 (0, 0))) :
    Calls Try.prog 96 (#[.agg #[.string s, .slice A n c, .string t]] ++ #[.pointer (some ⟨G, 0, none⟩)]) W fun e W' => e = .returned (.bool (s.toList == nm.toList)) ∧ Below W.heap.size W W' := by
  have hc : (W.alloc (.cells #[.string s, .slice A n c, .string t] 45)).cell? ⟨G, 0, none⟩ = some (.string nm) := (blk_cell (blk_alloc hG _) 0).trans rfl
  have HB0 := Aside0.mk (below_alloc (Below.refl W.heap.size W) (.cells #[.string s, .slice A n c, .string t] 45))
  go_enter Try.func96, Try.ntmps96
  go_wp2
  go_ret
  exact ⟨rfl, HB0.out⟩
set_option maxRecDepth 100000 in
set_option maxHeartbeats 1600000 in
theorem paramN_calls (nm : ByteArray) (G : Nat) (s : ByteArray) (A : Option Addr) (n c : Nat) (W : World) (hG : W.heap[G]? = some (.cells #[.string nm] 9 (0, 0))) :
    Calls Try.prog 93 (#[.agg #[.string s, .slice A n c]] ++ #[.pointer (some ⟨G, 0, none⟩)]) W fun e W' => e = .returned (.bool (s.toList == nm.toList)) ∧ Below W.heap.size W W' := by
  have hc : (W.alloc (.cells #[.string s, .slice A n c] 77)).cell? ⟨G, 0, none⟩ = some (.string nm) := (blk_cell (blk_alloc hG _) 0).trans rfl
  have HB0 := Aside0.mk (below_alloc (Below.refl W.heap.size W) (.cells #[.string s, .slice A n c] 77))
  go_enter Try.func93, Try.ntmps93
  go_wp2
  go_ret
  exact ⟨rfl, HB0.out⟩
def propP (l : List S45) (name : ByteArray) : ByteArray × Bool := match l.find? (fun x => x.f0.toList == name.toList) with | some x => (x.f2, true) | none => ((⟨#[]⟩ : ByteArray), false)
set_option maxRecDepth 100000 in
set_option maxHeartbeats 8000000 in
theorem comp_Prop_walk (nm0 : ByteArray) (A : Option Addr) (c : Nat) (l : List S45) (A2 : Option Addr) (n2 c2 : Nat) (name : ByteArray) (w : World) (hr : Kd.C k45 w A l.length l) :
    Calls Try.prog 42 #[.agg #[.string nm0, .slice A l.length c, .slice A2 n2 c2], .string name] w fun e w' => (∃ (s0 : ByteArray) (Aq : Option Addr) (nq cq : Nat), e = .returned (.tuple #[.agg #[.string s0, .slice Aq nq cq, .string (propP l name).1], .bool (propP l name).2])) ∧ Below w.heap.size w w' := by
  have HR := Aside0.mk hr
  have hml : l.length ≤ 9223372036854775807 := by have := hr.2.1; unfold maxLen at this; omega
  clear hr
  have hu45 := Try.underlying45
  have HB := Aside0.mk (Below.refl w.heap.size w)
  rcases idx_find (fun x : S45 => x.f0.toList == name.toList) l with ⟨hi, hf⟩ | ⟨i, hi, he, hf⟩
  · have hP : propP l name = ((⟨#[]⟩ : ByteArray), false) := by unfold propP; rw [hf]
    rw [hP]
    have HI := Aside0.mk hi
    clear hP hf hi
    go_enter Try.func42, Try.ntmps42
    go_wp2_with (first | ((with_reducible refine gate_dst (N := 2) rfl ?_); refine box_event ?hg (N := 2) ?hd (cs := #[.string nm0, .slice A l.length c, .slice A2 n2 c2]) (t := 25) ?hr ?_; (case hd => rfl); (case hg => rfl); (case hr => first | (go_simp; done) | (go_simp; rfl)); intro gb2 hg w2 hbox hb; have GE2 := Aside0.mk (show w.heap.size ≤ gb2 by rw [hg]; exact HB.out.size); have BK2 := Aside0.mk hbox; replace HB := Aside0.mk (below_step HB.out hb); clear hbox hb hg; skip) | ((with_reducible refine gate_dst (N := 3) rfl ?_); refine box_event ?hg (N := 3) ?hd (cs := #[.string name]) (t := 9) ?hr ?_; (case hd => rfl); (case hg => rfl); (case hr => first | (go_simp; done) | (go_simp; rfl)); intro gb3 hg w3 hbox hb; have GE3 := Aside0.mk (show w.heap.size ≤ gb3 by rw [hg]; exact HB.out.size); have NB3_2 := Aside0.mk (show gb3 ≠ gb2 by have h1_ := blk_lt BK2.out; omega); replace BK2 := Aside0.mk (blk_below BK2.out hb); have BK3 := Aside0.mk hbox; replace HB := Aside0.mk (below_step HB.out hb); clear hbox hb hg; skip) | ((with_reducible refine gate_dst (N := 4) rfl ?_); refine box_event ?hg (N := 4) ?hd (cs := #[.string (⟨#[]⟩ : ByteArray), .slice none 0 0, .string (⟨#[]⟩ : ByteArray)]) (t := 45) ?hr ?_; (case hd => rfl); (case hg => rfl); (case hr => first | (go_simp; done) | (go_simp; rfl)); intro gb4 hg w4 hbox hb; have GE4 := Aside0.mk (show w.heap.size ≤ gb4 by rw [hg]; exact HB.out.size); have NB4_2 := Aside0.mk (show gb4 ≠ gb2 by have h1_ := blk_lt BK2.out; omega); have NB4_3 := Aside0.mk (show gb4 ≠ gb3 by have h1_ := blk_lt BK3.out; omega); replace BK2 := Aside0.mk (blk_below BK2.out hb); replace BK3 := Aside0.mk (blk_below BK3.out hb); have BK4 := Aside0.mk hbox; replace HB := Aside0.mk (below_step HB.out hb); clear hbox hb hg; have f2_1 : w4.cell? ⟨gb2, 1, none⟩ = some (.slice A l.length c) := (blk_cell BK2.out 1).trans rfl; skip) | (go_at_call 80; refine (index45 81 _ Try.func81 (by kernel_rfl) rfl #[.pointer (some ⟨gb3, 0, none⟩)] (fun x => x.f0.toList == name.toList) A c l w4 (Kd.C_below HR.out HB.out) (fun x hx A' c' W hW => propN_calls name gb3 x.f0 A' x.f1.length c' x.f2 W (blk_below BK3.out hW))).mono ?_; rw [HI.out]; rintro e w5 ⟨rfl, hb⟩; clear f2_1; replace BK2 := Aside0.mk (blk_below BK2.out hb); replace BK3 := Aside0.mk (blk_below BK3.out hb); replace BK4 := Aside0.mk (blk_below BK4.out hb); replace HB := Aside0.mk (below_step HB.out hb); clear hb; have f4_0 : w5.cell? ⟨gb4, 0, none⟩ = some (.string ⟨#[]⟩) := (blk_cell BK4.out 0).trans rfl; have f4_1 : w5.cell? ⟨gb4, 1, none⟩ = some (.slice none 0 0) := (blk_cell BK4.out 1).trans rfl; have f4_2 : w5.cell? ⟨gb4, 2, none⟩ = some (.string ⟨#[]⟩) := (blk_cell BK4.out 2).trans rfl; have z4_0 := blk_frozen BK4.out 0; have z4_1 := blk_frozen BK4.out 1; have z4_2 := blk_frozen BK4.out 2; have f2_1 : w5.cell? ⟨gb2, 1, none⟩ = some (.slice A l.length c) := (blk_cell BK2.out 1).trans rfl; skip))
    refine bodyPost_ret (results_ct rfl _ _ gb4 45 #[.string (⟨#[]⟩ : ByteArray), .slice none 0 0, .string (⟨#[]⟩ : ByteArray)] (0, 0) _ rfl (by refine blk_put (cs := #[.string (⟨#[]⟩ : ByteArray), .slice none 0 0, .string (⟨#[]⟩ : ByteArray)]) ?_ 2 _ rfl; refine blk_put (cs := #[.string (⟨#[]⟩ : ByteArray), .slice none 0 0, .string (⟨#[]⟩ : ByteArray)]) ?_ 1 _ rfl; refine blk_put (cs := #[.string (⟨#[]⟩ : ByteArray), .slice none 0 0, .string (⟨#[]⟩ : ByteArray)]) ?_ 0 _ rfl; exact BK4.out) Try.underlying45 rfl (by kernel_rfl)) rfl ?_
    exact ⟨⟨_, _, _, _, rfl⟩, below_set (below_set (below_set HB.out GE4.out) GE4.out) GE4.out⟩
  · have hP : propP l name = (l[i].f2, true) := by unfold propP; rw [hf]
    rw [hP]
    have HI := Aside0.mk he
    have e0 : decide ((i : Int) < 0) = false := decide_eq_false (by omega)
    have p0 : (0 ≤ (i : Int)) = True := eq_true (by omega)
    have q0 : ((i : Int) < (l.length : Int)) = True := eq_true (by omega)
    obtain ⟨ad, A1, c1, ea, hx0, hx1, hx2, _, _⟩ := at_T45 HR.out (i : Int) (by omega) (by omega)
    have hget : rd_T45 l (i : Int) = l[i] := by simp [rd_T45, hi]
    rw [hget] at hx0 hx1 hx2
    simp only [Int.toNat_natCast] at hx0 hx1 hx2
    subst ea
    have HX0 := Aside0.mk hx0
    have HX1 := Aside0.mk hx1
    have HX2 := Aside0.mk hx2
    clear hP hf he hget hx0 hx1 hx2
    go_enter Try.func42, Try.ntmps42
    go_wp2_with (first | ((with_reducible refine gate_dst (N := 2) rfl ?_); refine box_event ?hg (N := 2) ?hd (cs := #[.string nm0, .slice (some ad) l.length c, .slice A2 n2 c2]) (t := 25) ?hr ?_; (case hd => rfl); (case hg => rfl); (case hr => first | (go_simp; done) | (go_simp; rfl)); intro gb2 hg w2 hbox hb; have GE2 := Aside0.mk (show w.heap.size ≤ gb2 by rw [hg]; exact HB.out.size); have BK2 := Aside0.mk hbox; replace HB := Aside0.mk (below_step HB.out hb); clear hbox hb hg; skip) | ((with_reducible refine gate_dst (N := 3) rfl ?_); refine box_event ?hg (N := 3) ?hd (cs := #[.string name]) (t := 9) ?hr ?_; (case hd => rfl); (case hg => rfl); (case hr => first | (go_simp; done) | (go_simp; rfl)); intro gb3 hg w3 hbox hb; have GE3 := Aside0.mk (show w.heap.size ≤ gb3 by rw [hg]; exact HB.out.size); have NB3_2 := Aside0.mk (show gb3 ≠ gb2 by have h1_ := blk_lt BK2.out; omega); replace BK2 := Aside0.mk (blk_below BK2.out hb); have BK3 := Aside0.mk hbox; replace HB := Aside0.mk (below_step HB.out hb); clear hbox hb hg; skip) | ((with_reducible refine gate_dst (N := 4) rfl ?_); refine box_event ?hg (N := 4) ?hd (cs := #[.string (⟨#[]⟩ : ByteArray), .slice none 0 0, .string (⟨#[]⟩ : ByteArray)]) (t := 45) ?hr ?_; (case hd => rfl); (case hg => rfl); (case hr => first | (go_simp; done) | (go_simp; rfl)); intro gb4 hg w4 hbox hb; have GE4 := Aside0.mk (show w.heap.size ≤ gb4 by rw [hg]; exact HB.out.size); have NB4_2 := Aside0.mk (show gb4 ≠ gb2 by have h1_ := blk_lt BK2.out; omega); have NB4_3 := Aside0.mk (show gb4 ≠ gb3 by have h1_ := blk_lt BK3.out; omega); replace BK2 := Aside0.mk (blk_below BK2.out hb); replace BK3 := Aside0.mk (blk_below BK3.out hb); have BK4 := Aside0.mk hbox; replace HB := Aside0.mk (below_step HB.out hb); clear hbox hb hg; have f2_1 : w4.cell? ⟨gb2, 1, none⟩ = some (.slice (some ad) l.length c) := (blk_cell BK2.out 1).trans rfl; skip) | (go_at_call 80; refine (index45 81 _ Try.func81 (by kernel_rfl) rfl #[.pointer (some ⟨gb3, 0, none⟩)] (fun x => x.f0.toList == name.toList) (some ad) c l w4 (Kd.C_below HR.out HB.out) (fun x hx A' c' W hW => propN_calls name gb3 x.f0 A' x.f1.length c' x.f2 W (blk_below BK3.out hW))).mono ?_; rw [HI.out]; rintro e w5 ⟨rfl, hb⟩; clear f2_1; replace BK2 := Aside0.mk (blk_below BK2.out hb); replace BK3 := Aside0.mk (blk_below BK3.out hb); replace BK4 := Aside0.mk (blk_below BK4.out hb); replace HB := Aside0.mk (below_step HB.out hb); clear hb; have f4_0 : w5.cell? ⟨gb4, 0, none⟩ = some (.string ⟨#[]⟩) := (blk_cell BK4.out 0).trans rfl; have f4_1 : w5.cell? ⟨gb4, 1, none⟩ = some (.slice none 0 0) := (blk_cell BK4.out 1).trans rfl; have f4_2 : w5.cell? ⟨gb4, 2, none⟩ = some (.string ⟨#[]⟩) := (blk_cell BK4.out 2).trans rfl; have z4_0 := blk_frozen BK4.out 0; have z4_1 := blk_frozen BK4.out 1; have z4_2 := blk_frozen BK4.out 2; have f2_1 : w5.cell? ⟨gb2, 1, none⟩ = some (.slice (some ad) l.length c) := (blk_cell BK2.out 1).trans rfl; have hx0 := (HB.out.cell (World.block_lt_of_cell? w _ HX0.out)).trans HX0.out; have hx1 := (HB.out.cell (World.block_lt_of_cell? w _ HX1.out)).trans HX1.out; have hx2 := (HB.out.cell (World.block_lt_of_cell? w _ HX2.out)).trans HX2.out))
    refine bodyPost_ret (results_ct rfl _ _ gb4 45 #[.string l[i].f0, .slice A1 l[i].f1.length c1, .string l[i].f2] (0, 0) _ rfl (by refine blk_put (cs := #[.string l[i].f0, .slice A1 l[i].f1.length c1, .string (⟨#[]⟩ : ByteArray)]) ?_ 2 _ rfl; refine blk_put (cs := #[.string l[i].f0, .slice none 0 0, .string (⟨#[]⟩ : ByteArray)]) ?_ 1 _ rfl; refine blk_put (cs := #[.string (⟨#[]⟩ : ByteArray), .slice none 0 0, .string (⟨#[]⟩ : ByteArray)]) ?_ 0 _ rfl; exact BK4.out) Try.underlying45 rfl (by kernel_rfl)) rfl ?_
    exact ⟨⟨_, _, _, _, rfl⟩, below_set (below_set (below_set HB.out GE4.out) GE4.out) GE4.out⟩
end Go.Proofs.Ytebmbfobmakheaa.PD
namespace Go.Proofs.Ytebmbfobmakheaa.PD
open Go.RowKit Go.Proofs.YtebmbfobmakheaaW.PrintWords Go.Proofs.YtebmbfobmakheaaW.PrintLast Go.Proofs.YtebmbfobmakheaaW.PrintMore
attribute [local go_sem] isSome_setCell Oper.semAt_some wide_fn wide_depth
set_option linter.unusedVariables false
set_option linter.unusedSimpArgs false
theorem listOf {α : Type} (Q : Nat → α → Prop) : ∀ n : Nat, (∀ i, i < n → ∃ a, Q i a) → ∃ xs : List α, xs.length = n ∧ ∀ i a, xs[i]? = some a → Q i a
  | 0, _ => ⟨[], rfl, fun i a h => by simp at h⟩
  | n + 1, h => by
    obtain ⟨xs, hl, hx⟩ := listOf Q n (fun i hi => h i (by omega))
    obtain ⟨a, ha⟩ := h n (by omega)
    refine ⟨xs ++ [a], by simp [hl], fun i b hb => ?_⟩
    rcases Nat.lt_or_ge i n with hi | hi
    · rw [List.getElem?_append_left (by omega)] at hb; exact hx i b hb
    · rw [List.getElem?_append_right (by omega)] at hb
      have hi0 : i - xs.length = 0 := by
        rcases Nat.eq_zero_or_pos (i - xs.length) with h0 | h0
        · exact h0
        · rw [List.getElem?_eq_none (by simp; omega)] at hb; cases hb
      rw [hi0] at hb
      have hin : i = n := by omega
      subst hin
      simp at hb
      subst hb
      exact ha
def OkC (w : World) (x : CC) (y : S25) : Prop := x.s = y.f0 ∧ x.n1 = y.f1.length ∧ x.n1 ≤ x.c1 ∧ Kd.C k45 w x.a1 y.f1.length y.f1 ∧ x.n2 = y.f2.length ∧ x.n2 ≤ x.c2 ∧ Kd.C k25 w x.a2 y.f2.length y.f2
theorem cc_of {w : World} {A : Option Addr} {l : List S25} (h : Kd.C k25 w A l.length l) : ∃ L : List CC, L.length = l.length ∧ (∀ i (hi : i < L.length) (hj : i < l.length), OkC w L[i] l[i]) ∧ RdAt A L 0 w := by
  obtain ⟨L, hl, hL⟩ := listOf (fun i (x : CC) => ∃ hi : i < l.length, OkC w x l[i] ∧ ∃ ad, A = some ad ∧ w.cell? (ad.add (i * 3)) = some (.string x.s) ∧ w.cell? ⟨(ad.add (i * 3)).block, (ad.add (i * 3)).off + 1, none⟩ = some (.slice x.a1 x.n1 x.c1) ∧ w.cell? ⟨(ad.add (i * 3)).block, (ad.add (i * 3)).off + 2, none⟩ = some (.slice x.a2 x.n2 x.c2)) l.length (fun i hi => by
    obtain ⟨ad, A1, c1, A2, c2, e, h0, h1, h2, h3, h4, h5, h6⟩ := at_T25 h (i : Int) (by omega) (by omega)
    have hg : rd_T25 l (i : Int) = l[i] := by simp [rd_T25, hi]
    rw [hg] at h0 h1 h2 h3 h4 h5 h6
    rw [Int.toNat_natCast] at h0 h1 h2
    exact ⟨⟨l[i].f0, A1, l[i].f1.length, c1, A2, l[i].f2.length, c2⟩, hi, ⟨rfl, rfl, h3, h4, rfl, h5, h6⟩, ad, e, h0, h1, h2⟩)
  refine ⟨L, hl, fun i hi hj => ?_, fun j _ hj => ?_⟩
  · obtain ⟨_, h1, _⟩ := hL i _ (List.getElem?_eq_getElem hi)
    exact h1
  · obtain ⟨_, _, h2⟩ := hL j _ (List.getElem?_eq_getElem hj)
    exact h2
theorem OkC.below {w W : World} {x : CC} {y : S25} (h : OkC w x y) (hb : Below w.heap.size w W) : OkC W x y := ⟨h.1, h.2.1, h.2.2.1, Kd.C_below h.2.2.2.1 hb, h.2.2.2.2.1, h.2.2.2.2.2.1, Kd.C_below h.2.2.2.2.2.2 hb⟩
theorem RdAt.below {A : Option Addr} {L : List CC} {i k : Nat} {w W : World} (h : RdAt A L i w) (hb : Below w.heap.size w W) (hik : i ≤ k) : RdAt A L k W := fun j hj hl => by
  obtain ⟨ad, e, h0, h1, h2⟩ := h j (by omega) hl
  exact ⟨ad, e, (hb.cell (World.block_lt_of_cell? w _ h0)).trans h0, (hb.cell (World.block_lt_of_cell? w _ h1)).trans h1, (hb.cell (World.block_lt_of_cell? w _ h2)).trans h2⟩
def othI : Nat → List S25 → List Nat
  | _, [] => []
  | i, x :: r => if isTz x.f0 = true then othI (i + 1) r else i :: othI (i + 1) r
theorem oth_map : ∀ (L : List CC) (l : List S25) (i : Nat), L.length = l.length → (∀ j (hi : j < L.length) (hj : j < l.length), L[j].s = l[j].f0) → (othersF i L).map Prod.snd = othI i l
  | [], [], _, _, _ => rfl
  | x :: L, y :: l, i, hl, h => by
    have h0 := h 0 (by simp) (by simp)
    simp only [List.getElem_cons_zero] at h0
    have ih := oth_map L l (i + 1) (by simpa using hl) (fun j hi hj => h (j + 1) (Nat.succ_lt_succ hi) (Nat.succ_lt_succ hj))
    unfold othersF othI
    rw [h0]
    split
    · exact ih
    · rw [List.map_cons, ih]
  | [], _ :: _, _, hl, _ => by simp at hl
  | _ :: _, [], _, hl, _ => by simp at hl
theorem oth_mem : ∀ (L : List CC) (i : Nat) (p : CC × Nat), p ∈ othersF i L → i ≤ p.2 ∧ ∃ h : p.2 - i < L.length, L[p.2 - i] = p.1
  | [], _, p, h => by simp [othersF] at h
  | x :: L, i, p, h => by
    unfold othersF at h
    have key : p ∈ othersF (i + 1) L → i ≤ p.2 ∧ ∃ h : p.2 - i < (x :: L).length, (x :: L)[p.2 - i] = p.1 := fun hp => by
      obtain ⟨h1, h2, h3⟩ := oth_mem L (i + 1) p hp
      refine ⟨by omega, by simp; omega, ?_⟩
      obtain ⟨q, hq⟩ : ∃ q, p.2 - i = q + 1 := ⟨p.2 - i - 1, by omega⟩
      have hq2 : p.2 - (i + 1) = q := by omega
      simp only [hq, List.getElem_cons_succ]
      simp only [hq2] at h3
      exact h3
    split at h
    · exact key h
    · rcases List.mem_cons.1 h with rfl | h
      · exact ⟨Nat.le_refl _, by simp, by simp⟩
      · exact key h
theorem oth_at {L : List CC} {p : CC × Nat} (h : p ∈ othersF 0 L) : ∃ hi : p.2 < L.length, L[p.2] = p.1 := by
  obtain ⟨_, h1, h2⟩ := oth_mem L 0 p h
  exact ⟨h1, h2⟩
theorem find_at {α : Type} (p : α → Bool) (pre : List α) (x : α) (xs : List α) (h : pre ++ [x] <+: xs) (hn : ∀ t ∈ pre, p t = false) (hx : p x = true) : xs.find? p = some x := by
  obtain ⟨r, rfl⟩ := h
  rw [List.append_assoc, List.find?_append]
  have : pre.find? p = none := List.find?_eq_none.2 (fun t ht => by simp [hn t ht])
  rw [this]
  simp [hx]
end Go.Proofs.Ytebmbfobmakheaa.PD
namespace Go.Proofs.Ytebmbfobmakheaa.PD
open Go.RowKit Go.Shelf Go.Proofs.YtebmbfobmakheaaW.PrintWords Go.Proofs.YtebmbfobmakheaaW.PrintLast Go.Proofs.YtebmbfobmakheaaW.PrintMore
attribute [local go_sem] isSome_setCell Oper.semAt_some wide_fn wide_depth
set_option linter.unusedVariables false
set_option linter.unusedSimpArgs false
abbrev orgN : ByteArray := (⟨#[79, 82, 71, 65, 78, 73, 90, 69, 82]⟩ : ByteArray)
def organizerP (l : List S25) : ByteArray := match (othI 0 l).find? (fun i => (propP (l.getD i z25).f1 orgN).2) with | some i => (propP (l.getD i z25).f1 orgN).1 | none => (⟨#[]⟩ : ByteArray)
theorem results12 (tmps : Array Value) (w : World) (S : Nat) (t : ByteArray) (h2 : tmps.getD 2 undef = .pointer (some ⟨S, 0, none⟩)) (q : w.heap[S]? = some (.cells #[.string t] 9 (0, 0))) : (results Try.f12 tmps).run Try.prog w = .ok (.string t) w := by
  have d2 := (blk_cell q 0).trans rfl
  unfold results
  rw [show Try.f12.results = [ResultVar.cell 2 9].toArray from rfl, List.mapM_toArray]
  simp only [Sem.run_bind, Sem.run_map, List.mapM_cons, List.mapM_nil, h2]
  simp [asAddr, loadVar, go_sem, d2, Try.underlying9]
def Og (w : World) (S : Nat) (t : ByteArray) (W : World) : Prop := W.heap[S]? = some (.cells #[.string t] 9 (0, 0)) ∧ Below w.heap.size w W
theorem og_own {β : Type} (w : World) (B S : Nat) (hB : S < B) (hS : w.heap.size ≤ S) (t : ByteArray) (p : β → Prop) : OwnZ NoZ B (fun (s : β) W => p s ∧ Og w S t W) := fun s X Y row hs hg hr => by
  refine ⟨hs.1, (hg.block S (Array.getElem?_eq_some_iff.1 hs.2.1).1 (fun e => ?_)).trans hs.2.1, hg.os.trans hs.2.2.os, hg.tape.trans hs.2.2.tape, hg.output.trans hs.2.2.output, Nat.le_trans hs.2.2.size hg.size, fun k hk => (hg.block k (Nat.lt_of_lt_of_le hk hs.2.2.size) (fun e => ?_)).trans (hs.2.2.block k hk)⟩
  · rcases hr S e.symm with h | h
    · exact h
    · have := h.1; omega
  · rcases hr k e.symm with h | h
    · exact h
    · have := h.1; omega
theorem og_set {w W W6 : World} {S : Nat} {t : ByteArray} (h : Og w S t W) (hb : Below W.heap.size W W6) (t' : ByteArray) (B : Nat) (hS : w.heap.size ≤ S ∧ S < B) :
    KA B W (W6.setCell ⟨S, 0, none⟩ (.string t')) ∧ Below w.heap.size W (W6.setCell ⟨S, 0, none⟩ (.string t')) ∧ Og w S t' (W6.setCell ⟨S, 0, none⟩ (.string t')) := by
  have hl := (Array.getElem?_eq_some_iff.1 h.1).1
  have h2 : Below w.heap.size W (W6.setCell ⟨S, 0, none⟩ (.string t')) := (hb.mono h.2.size).setCell (p := ⟨S, 0, none⟩) hS.1 _
  refine ⟨⟨h2.size, fun i o hi ho => ?_⟩, h2, ?_, h.2.trans h2⟩
  · exact (Below.heap_setCell _ _ _ i (by show i ≠ S; omega)).trans ((hb.block i (Array.getElem?_eq_some_iff.1 ho).1).trans ho)
  · have := blk_set (blk_below h.1 hb) 0 (.string t')
    simpa using this
set_option maxRecDepth 100000 in
set_option maxHeartbeats 8000000 in
theorem organizer_walk (nm : ByteArray) (A1 : Option Addr) (n1 c1 : Nat) (A : Option Addr) (c : Nat) (l : List S25) (w : World) (hr : Kd.C k25 w A l.length l) :
    Calls Try.prog 12 #[.agg #[.string nm, .slice A1 n1 c1, .slice A l.length c]] w fun e w' => e = .returned (.string (organizerP l)) ∧ Below w.heap.size w w' := by
  have hml : l.length ≤ 9223372036854775807 := by have := hr.2.1; unfold maxLen at this; omega
  obtain ⟨L, hLl, hOk, hRd⟩ := cc_of hr
  have HOK := Aside0.mk hOk
  have HRD := Aside0.mk hRd
  have hmap := oth_map L l 0 hLl (fun j hi hj => (hOk j hi hj).1)
  have HMAP := Aside0.mk hmap
  clear hr hOk hRd hmap
  have HV : Aside0 (Og w (w.heap.size + 1) (⟨#[]⟩ : ByteArray) ((w.alloc (.cells #[.string nm, .slice A1 n1 c1, .slice A l.length c] 25)).alloc (.cells #[.string (⟨#[]⟩ : ByteArray)] 9))) := ⟨by
      have := heap_alloc_new (w.alloc (.cells #[.string nm, .slice A1 n1 c1, .slice A l.length c] 25)) (.cells #[.string (⟨#[]⟩ : ByteArray)] 9)
      rw [World.size_alloc] at this
      exact this, below_alloc (below_alloc (Below.refl _ _) _) _⟩
  refine (callsIn_wide (n := 51)).1 ?_
  refine callsIn_of_wp_marks Try.func12 rfl trivial ?_ rfl
  simp only [Try.ntmps12, List.size_toArray, List.length_cons, List.length_nil, Nat.reduceAdd, Nat.reduceSub, Array.replicate_succ, Array.replicate_zero, List.push_toArray, List.append_toArray, List.nil_append, List.cons_append]
  gi_wp2
  gi_at_call 41
  refine (callsIn_wide.2 (comps_made nm A1 n1 c1 A l.length c _)).mono ?_
  rintro e w4 ⟨rfl, rfl⟩
  gi_wp2
  obtain ⟨V, hVe⟩ : ∃ V, ((w.alloc (.cells #[.string nm, .slice A1 n1 c1, .slice A l.length c] 25)).alloc (.cells #[.string (⟨#[]⟩ : ByteArray)] 9)).alloc (.cells #[.string nm, .slice A1 n1 c1, .slice A l.length c] 25) = V := ⟨_, rfl⟩
  have hz : V.heap.size = w.heap.size + 3 := by rw [← hVe]; simp
  have q1 : V.heap[w.heap.size + 1 + 1]? = some (.cells #[.string nm, .slice A1 n1 c1, .slice A l.length c] 25 (0, 0)) := by
    have := heap_alloc_new ((w.alloc (.cells #[.string nm, .slice A1 n1 c1, .slice A l.length c] 25)).alloc (.cells #[.string (⟨#[]⟩ : ByteArray)] 9)) (.cells #[.string nm, .slice A1 n1 c1, .slice A l.length c] 25)
    rw [World.size_alloc, World.size_alloc, hVe] at this
    exact this
  have HOG := Aside0.mk (show Og w (w.heap.size + 1) (⟨#[]⟩ : ByteArray) V from by rw [← hVe]; exact ⟨blk_alloc HV.out.1 _, below_alloc HV.out.2 _⟩)
  rw [hVe]
  clear hVe HV
  have hLm : L.length ≤ 9223372036854775807 := by omega
  have q1' : V.heap[w.heap.size + 1 + 1]? = some (.cells #[.string nm, .slice A1 n1 c1, .slice A L.length c] 25 (0, 0)) := by rw [hLl]; exact q1
  refine range_z (n₀ := w.heap.size) (Z := NoZ) (gf := 79) (lb := #[.pointer (some ⟨w.heap.size + 1 + 1, 0, none⟩)]) (En := fun x ar _ => ar = encC x) (xs := othersF 0 L) (Rd := fun pre W => RdAt A L (nextI pre) W) (Own := fun _ _ => False) rfl (enters_of Try.func79 (by kernel_rfl) rfl) (by omega) (fun b hb => hb.elim)
    (fun l' J Jx W hW hJ hJx hRd _ _ hY h0 => (callsIn_wide (n := 51)).1 (comps_in A c L hLm nm A1 n1 c1 l' (w.heap.size + 1 + 1) w.heap.size J Jx W hJ hRd (fun pre x W1 h1 h2 => hY pre x _ W1 h1 h2 rfl) ((hW.block (w.heap.size + 1 + 1) (by omega)).trans q1') h0)) (fun x ar _ e => by rw [e]; rfl)
    (fun pre W => (∀ p ∈ pre, (propP (l.getD p.2 z25).f1 orgN).2 = false) ∧ Og w (w.heap.size + 1) (⟨#[]⟩ : ByteArray) W)
    (fun pre W h => HRD.out.below h.2.2 (Nat.zero_le _))
    (fun cd pre W => (cd = .ret ∧ ∃ i, (othI 0 l).find? (fun i => (propP (l.getD i z25).f1 orgN).2) = some i ∧ Og w (w.heap.size + 1) (propP (l.getD i z25).f1 orgN).1 W))
    (og_own w _ _ (by omega) (by omega) _ _) (fun cd => fun s X Y row h hg hr => by obtain ⟨hc, i, hi, ho⟩ := h; exact ⟨hc, i, hi, (og_own w V.heap.size (w.heap.size + 1) (by omega) (by omega) _ (fun _ : Unit => True) () X Y row ⟨trivial, ho⟩ hg hr).2⟩) (OwnS.none _ _ _) (fun _ => OwnS.none _ _ _) ⟨fun p hp => (by cases hp), HOG.out⟩
    (fun x a' W => ∃ G, w.heap.size + 3 ≤ G ∧ a' = { tmps := #[.agg #[.string nm, .slice A1 n1 c1, .slice A l.length c], .pointer (some ⟨w.heap.size, 0, none⟩), .pointer (some ⟨w.heap.size + 1, 0, none⟩), undef, .pointer (some ⟨G, 0, none⟩), undef, undef, .agg #[.string nm, .slice A1 n1 c1, .slice A l.length c], .func (.func 79) #[] #[.pointer (some ⟨w.heap.size + 1 + 1, 0, none⟩)], .int .i64 x.2, x.1.enc, undef, undef, undef, undef, undef, undef, undef, undef], defers := [] } ∧ W.heap[G]? = some (.cells x.1.cells 25 (0, 0)))
    (fun x a' _ X Y row h hg hr => by
      obtain ⟨G, hG, e, hb⟩ := h
      refine ⟨G, hG, e, (hg.block G (Array.getElem?_eq_some_iff.1 hb).1 (fun e2 => ?_)).trans hb⟩
      rcases hr G e2.symm with h1 | ⟨_, o, h2, h3⟩
      · exact h1
      · rw [hb] at h2; cases h2; cases h3) ?assign ?body ?done ?stop
  case assign =>
    rintro l' pre x ar W K hI hpx rfl hW hK
    gi_wp2
    have hb : Below W.heap.size W (W.alloc (.cells x.1.cells 25)) := below_alloc (Below.refl _ _) _
    refine hK _ _ (kf_below hb).ko (hb.mono hI.2.2.size) (fun _ h => h.elim) ⟨hI.1, blk_alloc hI.2.1 _, below_alloc hI.2.2 _⟩ ⟨W.heap.size, by omega, by simp, heap_alloc_new W _⟩
  case body =>
    rintro l' pre x a' W ⟨hno, hog⟩ hpx hWs ⟨G, hG, rfl, hb⟩
    obtain ⟨hxi, hxe⟩ := oth_at (p := x) (hpx.subset (List.mem_append_right _ List.mem_cons_self))
    have hxl : x.2 < l.length := by omega
    have hok := (HOK.out x.2 hxi hxl).below hog.2
    rw [hxe] at hok
    obtain ⟨hk1, hk2, hk3, hk4, _⟩ := hok
    have hgd : l.getD x.2 z25 = l[x.2] := by simp [hxl]
    have HG := Aside0.mk hgd
    have HNO := Aside0.mk hno
    have HOG1 := Aside0.mk hog
    have HPX := Aside0.mk hpx
    have HBX := Aside0.mk hb
    have HK4 := Aside0.mk hk4
    have g0 : W.cell? ⟨G, 0, none⟩ = some (.string x.1.s) := (blk_cell hb 0).trans rfl
    have g1 : W.cell? ⟨G, 1, none⟩ = some (.slice x.1.a1 x.1.n1 x.1.c1) := (blk_cell hb 1).trans rfl
    have g2 : W.cell? ⟨G, 2, none⟩ = some (.slice x.1.a2 x.1.n2 x.1.c2) := (blk_cell hb 2).trans rfl
    rw [hk2] at g1
    clear hno hog hpx hb hk1 hk3 hk4 hgd hxe
    gi_wp2
    gi_at_call 42
    refine (CallsIn.inRound l' (callsIn_wide.2 (comp_Prop_walk _ _ _ l[x.2].f1 _ _ _ orgN W HK4.out))).mono ?_
    rintro e w5 ⟨⟨s0, Aq, nq, cq, rfl⟩, hb5⟩
    have HB5 := Aside0.mk hb5
    clear hb5 g0 g1 g2
    have HB6 := Aside0.mk (HB5.out.trans ((below_alloc (Below.refl w5.heap.size w5) (.cells #[.string s0, .slice Aq nq cq, .string (propP l[x.2].f1 orgN).1] 45)).mono HB5.out.size))
    have u1 : (w5.alloc (.cells #[.string s0, .slice Aq nq cq, .string (propP l[x.2].f1 orgN).1] 45)).cell? ⟨w.heap.size + 1, 0, none⟩ = some (.string (⟨#[]⟩ : ByteArray)) := (blk_cell (blk_below HOG1.out.1 HB6.out) 0).trans rfl
    have u2 : (w5.alloc (.cells #[.string s0, .slice Aq nq cq, .string (propP l[x.2].f1 orgN).1] 45)).frozen? ⟨w.heap.size + 1, 0, none⟩ = false := blk_frozen (blk_below HOG1.out.1 HB6.out) 0
    cases hp : (propP l[x.2].f1 orgN).2 with
    | false =>
      have HP := Aside0.mk hp
      clear hp
      gi_wp2
      refine ⟨(kf_below HB6.out).ko, HB6.out.mono HOG1.out.2.size, fun _ h => h.elim, fun p hp => ?_, blk_below HOG1.out.1 HB6.out, HOG1.out.2.trans (HB6.out.mono HOG1.out.2.size)⟩
      rcases List.mem_append.1 hp with hp | hp
      · exact HNO.out p hp
      · rw [List.mem_singleton.1 hp, HG.out]; exact HP.out
    | true =>
      have HP := Aside0.mk hp
      clear hp
      gi_wp2
      have hfi : (othI 0 l).find? (fun i => (propP (l.getD i z25).f1 orgN).2) = some x.2 := by
        have h1 := find_at (fun p : CC × Nat => (propP (l.getD p.2 z25).f1 orgN).2) pre x _ HPX.out HNO.out (by rw [HG.out]; exact HP.out)
        rw [← HMAP.out, List.find?_map]
        show Option.map Prod.snd ((othersF 0 L).find? (fun p : CC × Nat => (propP (l.getD p.2 z25).f1 orgN).2)) = _
        rw [h1]
        rfl
      obtain ⟨k1, k2, k3⟩ := og_set (W := W) HOG1.out HB6.out (propP l[x.2].f1 orgN).1 V.heap.size (by omega)
      exact ⟨k1.ko, k2, fun _ h => h.elim, rfl, x.2, hfi, by rw [HG.out]; exact k3⟩
  case done =>
    rintro D2 W hD2 ⟨hno, hog⟩ hK
    have hF : (othI 0 l).find? (fun i => (propP (l.getD i z25).f1 orgN).2) = none := by
      rw [← HMAP.out, List.find?_map]
      show Option.map Prod.snd ((othersF 0 L).find? (fun p : CC × Nat => (propP (l.getD p.2 z25).f1 orgN).2)) = none
      rw [List.find?_eq_none.2 (fun p hp => by simpa using hno p hp)]
      rfl
    have hP : organizerP l = (⟨#[]⟩ : ByteArray) := by unfold organizerP; rw [hF]
    have HP2 := Aside0.mk hP
    have u1 : W.cell? ⟨w.heap.size + 1, 0, none⟩ = some (.string (⟨#[]⟩ : ByteArray)) := (blk_cell hog.1 0).trans rfl
    have u2 : W.frozen? ⟨w.heap.size + 1, 0, none⟩ = false := blk_frozen hog.1 0
    obtain ⟨k1, k2, k3⟩ := og_set (W := W) hog (Below.refl _ W) (⟨#[]⟩ : ByteArray) V.heap.size (by omega)
    have K1 := Aside0.mk k1
    have K3 := Aside0.mk k3
    clear hno hog hF hP k1 k2 k3
    gi_wp2
    refine ⟨by simp, .inl ⟨_, _, rfl, run_takeDeferred (by exact (K1.out.same D2 _ hD2 hK)), ?_⟩⟩
    exact ⟨_, results12 _ _ (w.heap.size + 1) _ rfl ((World.putObj_heap_other (by omega)).trans K3.out.1), by rw [HP2.out], K3.out.2.trans (below_put _ (by omega))⟩
  case stop =>
    rintro D2 cd pre W hD2 hpre ⟨rfl, i, hF, hog⟩ hK
    have hP : organizerP l = (propP (l.getD i z25).f1 orgN).1 := by unfold organizerP; rw [hF]
    have HP2 := Aside0.mk hP
    have K3 := Aside0.mk hog
    clear hF hP hog
    gi_wp2
    refine ⟨by simp, .inl ⟨_, _, rfl, run_takeDeferred hK, ?_⟩⟩
    exact ⟨_, results12 _ _ (w.heap.size + 1) _ rfl ((World.putObj_heap_other (by omega)).trans K3.out.1), by rw [HP2.out], K3.out.2.trans (below_put _ (by omega))⟩
def itip_Organizer.f (k : Nat) (a0_0 : ByteArray) (l0_1 : List (S45)) (l0_2 : List (S25)) : Option (ByteArray) := some (organizerP l0_2)
theorem itip_Organizer.calls (k : Nat) (a0_0 : ByteArray) (A0_1 : Option Addr) (c0_1 : Nat) (l0_1 : List (S45)) (A0_2 : Option Addr) (c0_2 : Nat) (l0_2 : List (S25)) (r : ByteArray) (w : World) (hr0_1 : Kd.C k45 w A0_1 l0_1.length l0_1) (hc0_1 : l0_1.length ≤ c0_1) (hr0_2 : Kd.C k25 w A0_2 l0_2.length l0_2) (hc0_2 : l0_2.length ≤ c0_2) (h : itip_Organizer.f k a0_0 l0_1 l0_2 = some r) :
    Calls Try.prog 12 #[.agg #[.string a0_0, .slice A0_1 l0_1.length c0_1, .slice A0_2 l0_2.length c0_2]] w fun e w' => e = .returned (.string r) ∧ Below w.heap.size w w' := by
  obtain rfl := Option.some.inj h
  exact organizer_walk a0_0 A0_1 _ c0_1 A0_2 c0_2 l0_2 w hr0_2
end Go.Proofs.Ytebmbfobmakheaa.PD
namespace Go.Proofs.Ytebmbfobmakheaa.PD
open Go.RowKit Go.Proofs.YtebmbfobmakheaaW.PrintWords Go.Proofs.YtebmbfobmakheaaW.PrintLast Go.Proofs.YtebmbfobmakheaaW.PrintMore
attribute [local go_sem] isSome_setCell max2_int min2_int max_two min_two
set_option linter.unusedVariables false
set_option linter.unusedSimpArgs false
set_option maxHeartbeats 8000000 in
set_option maxRecDepth 100000 in
theorem clone45 (P : Nat → Prop) (A : Option Addr) (c : Nat) (l : List S45) (w : World) (hs : Kd.V k45 45 w w.heap.size P (.slice A l.length c) l) (hlim : l.length < 2513169434917) :
    Calls Try.prog 95 #[.slice A l.length c] w fun e w' => ∃ v : Value, e = .returned v ∧ Kd.N k45 45 w' w.heap.size (fun k_ => P k_ ∨ w.heap.size ≤ k_) v l ∧ Below w.heap.size w w' := by
  rcases A with _ | ad
  · have hl : l = [] := by
      rcases Nat.eq_zero_or_pos l.length with h0 | h0
      · exact List.eq_nil_of_length_eq_zero h0
      · obtain ⟨ad, h', _⟩ := (Kd.V_reads' hs).2.2.2.2 h0
        cases h'
    subst hl
    have hq : ∀ (W : World) (n c n' c' : Nat), (binOp .eql 22 (.slice none n c) (.slice none n' c')).run Try.prog W = .ok (.bool true) W := fun W n c n' c' => Lib.run_eql_slice_nil W _ _ none n c n' c' Try.underlying22
    go_enter Try.func95, Try.ntmps95
    go_wp2
    go_ret
    exact ⟨_, rfl, Kd.N_nil _ _ _ _ _, Below.refl _ _⟩
  have hq : ∀ (W : World) (n c n' c' : Nat), (binOp .eql 22 (.slice (some ad) n c) (.slice none n' c')).run Try.prog W = .ok (.bool false) W := fun W n c n' c' => Lib.run_eql_slice_nil W _ _ (some ad) n c n' c' Try.underlying22
  have HV := Aside0.mk (show Kd.V k45 45 w w.heap.size (fun k_ => P k_ ∧ k_ < w.heap.size) (.slice (some ad) l.length c) l from Kd.V_bound hs)
  clear hs
  have HB := Aside0.mk (Below.refl w.heap.size w)
  go_enter Try.func95, Try.ntmps95
  go_wp2_with (first | ((with_reducible refine gate_dst (N := 5) rfl ?_); refine Kd.N_lit k45 (w0 := w) w.heap.size 45 ?hg (N' := 5) ?hd (xs := ([] : List S45)) (inner := []) (ok := (fun k_ => P k_ ∨ w.heap.size ≤ k_)) (okp := fun _ => False) ?hr ?hp (fun _ hk => hk.elim) (.inr HB.out.size) HB.out HB.out.size (by simp) ?_; (case hd => rfl); (case hg => rfl); (case hr => first | (go_simp; done) | (go_simp; rfl)); (case hp => exact (Reps.none _ _)); intro v5 w5 ho hb hg hat; have HO5 := Aside0.mk ho; have HV5 := Aside0.mk (Kd.V_grown HV.out hg (fun k _ => by simp)); clear HV HB; have HB := Aside0.mk hb; clear ho hb hg hat) | ((with_reducible refine gate_builtin (b := .append) (xs := #[.tmp 5, .tmp 6]) rfl ?_); at_builtin; refine Kd.N_append_rows k45 (w0 := w) w.heap.size rfl (.tmp 5) (.tmp 6) 22 45 (.agg #[(.string ⟨#[]⟩), (.slice none 0 0), (.string ⟨#[]⟩)]) 56 rfl Try.underlying22 info45 rfl (by decide) (by omega) v5 ([] : List S45) l _ _ _ (fun k_ => P k_ ∨ w.heap.size ≤ k_) (fun k_ => (fun k_ => P k_ ∨ w.heap.size ≤ k_) k_ ∧ some k_ ≠ (v5 : Value).ownBlock) rfl rfl ?aO ?aR (fun _ hk => hk) ?aF ?aB ?aS ?aL ?_; (case aO => exact HO5.out); (case aR => exact Kd.F_mono (Kd.V_F HV5.out) (fun k_ hk => ⟨.inl hk.1, fun e_ => by have h_ := Kd.N_base HO5.out k_ e_.symm; have := hk.2; omega⟩)); (case aF => exact fun k_ hk => .inr (Nat.le_trans HB.out.size hk)); (case aB => exact HB.out); (case aS => exact HB.out.size); (case aL => simp only [List.length_nil]; omega); intro v6 w6 ho hb hg hat; have HO6 := Aside0.mk ho; clear HB; have HB := Aside0.mk hb; clear ho hb hg hat))
  go_ret
  exact ⟨_, rfl, by have h_ := HO6.out; rw [List.nil_append] at h_; exact h_, HB.out⟩
set_option maxHeartbeats 8000000 in
set_option maxRecDepth 100000 in
theorem clone25 (P : Nat → Prop) (A : Option Addr) (c : Nat) (l : List S25) (w : World) (hs : Kd.V k25 25 w w.heap.size P (.slice A l.length c) l) (hlim : l.length < 2199023255552) :
    Calls Try.prog 94 #[.slice A l.length c] w fun e w' => ∃ v : Value, e = .returned v ∧ Kd.N k25 25 w' w.heap.size (fun k_ => P k_ ∨ w.heap.size ≤ k_) v l ∧ Below w.heap.size w w' := by
  rcases A with _ | ad
  · have hl : l = [] := by
      rcases Nat.eq_zero_or_pos l.length with h0 | h0
      · exact List.eq_nil_of_length_eq_zero h0
      · obtain ⟨ad, h', _⟩ := (Kd.V_reads' hs).2.2.2.2 h0
        cases h'
    subst hl
    have hq : ∀ (W : World) (n c n' c' : Nat), (binOp .eql 23 (.slice none n c) (.slice none n' c')).run Try.prog W = .ok (.bool true) W := fun W n c n' c' => Lib.run_eql_slice_nil W _ _ none n c n' c' Try.underlying23
    go_enter Try.func94, Try.ntmps94
    go_wp2
    go_ret
    exact ⟨_, rfl, Kd.N_nil _ _ _ _ _, Below.refl _ _⟩
  have hq : ∀ (W : World) (n c n' c' : Nat), (binOp .eql 23 (.slice (some ad) n c) (.slice none n' c')).run Try.prog W = .ok (.bool false) W := fun W n c n' c' => Lib.run_eql_slice_nil W _ _ (some ad) n c n' c' Try.underlying23
  have HV := Aside0.mk (show Kd.V k25 25 w w.heap.size (fun k_ => P k_ ∧ k_ < w.heap.size) (.slice (some ad) l.length c) l from Kd.V_bound hs)
  clear hs
  have HB := Aside0.mk (Below.refl w.heap.size w)
  go_enter Try.func94, Try.ntmps94
  go_wp2_with (first | ((with_reducible refine gate_dst (N := 5) rfl ?_); refine Kd.N_lit k25 (w0 := w) w.heap.size 25 ?hg (N' := 5) ?hd (xs := ([] : List S25)) (inner := []) (ok := (fun k_ => P k_ ∨ w.heap.size ≤ k_)) (okp := fun _ => False) ?hr ?hp (fun _ hk => hk.elim) (.inr HB.out.size) HB.out HB.out.size (by simp) ?_; (case hd => rfl); (case hg => rfl); (case hr => first | (go_simp; done) | (go_simp; rfl)); (case hp => exact (Reps.none _ _)); intro v5 w5 ho hb hg hat; have HO5 := Aside0.mk ho; have HV5 := Aside0.mk (Kd.V_grown HV.out hg (fun k _ => by simp)); clear HV HB; have HB := Aside0.mk hb; clear ho hb hg hat) | ((with_reducible refine gate_builtin (b := .append) (xs := #[.tmp 5, .tmp 6]) rfl ?_); at_builtin; refine Kd.N_append_rows k25 (w0 := w) w.heap.size rfl (.tmp 5) (.tmp 6) 23 25 (.agg #[(.string ⟨#[]⟩), (.slice none 0 0), (.slice none 0 0)]) 64 rfl Try.underlying23 info25 rfl (by decide) (by omega) v5 ([] : List S25) l _ _ _ (fun k_ => P k_ ∨ w.heap.size ≤ k_) (fun k_ => (fun k_ => P k_ ∨ w.heap.size ≤ k_) k_ ∧ some k_ ≠ (v5 : Value).ownBlock) rfl rfl ?aO ?aR (fun _ hk => hk) ?aF ?aB ?aS ?aL ?_; (case aO => exact HO5.out); (case aR => exact Kd.F_mono (Kd.V_F HV5.out) (fun k_ hk => ⟨.inl hk.1, fun e_ => by have h_ := Kd.N_base HO5.out k_ e_.symm; have := hk.2; omega⟩)); (case aF => exact fun k_ hk => .inr (Nat.le_trans HB.out.size hk)); (case aB => exact HB.out); (case aS => exact HB.out.size); (case aL => simp only [List.length_nil]; omega); intro v6 w6 ho hb hg hat; have HO6 := Aside0.mk ho; clear HB; have HB := Aside0.mk hb; clear ho hb hg hat))
  go_ret
  exact ⟨_, rfl, by have h_ := HO6.out; rw [List.nil_append] at h_; exact h_, HB.out⟩
set_option maxHeartbeats 8000000 in
set_option maxRecDepth 100000 in
theorem clone77 (P : Nat → Prop) (A : Option Addr) (c : Nat) (l : List S77) (w : World) (hs : Kd.V k77 77 w w.heap.size P (.slice A l.length c) l) (hlim : l.length < 3518437208883) :
    Calls Try.prog 90 #[.slice A l.length c] w fun e w' => ∃ v : Value, e = .returned v ∧ Kd.N k77 77 w' w.heap.size (fun k_ => P k_ ∨ w.heap.size ≤ k_) v l ∧ Below w.heap.size w w' := by
  rcases A with _ | ad
  · have hl : l = [] := by
      rcases Nat.eq_zero_or_pos l.length with h0 | h0
      · exact List.eq_nil_of_length_eq_zero h0
      · obtain ⟨ad, h', _⟩ := (Kd.V_reads' hs).2.2.2.2 h0
        cases h'
    subst hl
    have hq : ∀ (W : World) (n c n' c' : Nat), (binOp .eql 43 (.slice none n c) (.slice none n' c')).run Try.prog W = .ok (.bool true) W := fun W n c n' c' => Lib.run_eql_slice_nil W _ _ none n c n' c' Try.underlying43
    go_enter Try.func90, Try.ntmps90
    go_wp2
    go_ret
    exact ⟨_, rfl, Kd.N_nil _ _ _ _ _, Below.refl _ _⟩
  have hq : ∀ (W : World) (n c n' c' : Nat), (binOp .eql 43 (.slice (some ad) n c) (.slice none n' c')).run Try.prog W = .ok (.bool false) W := fun W n c n' c' => Lib.run_eql_slice_nil W _ _ (some ad) n c n' c' Try.underlying43
  have HV := Aside0.mk (show Kd.V k77 77 w w.heap.size (fun k_ => P k_ ∧ k_ < w.heap.size) (.slice (some ad) l.length c) l from Kd.V_bound hs)
  clear hs
  have HB := Aside0.mk (Below.refl w.heap.size w)
  go_enter Try.func90, Try.ntmps90
  go_wp2_with (first | ((with_reducible refine gate_dst (N := 5) rfl ?_); refine Kd.N_lit k77 (w0 := w) w.heap.size 77 ?hg (N' := 5) ?hd (xs := ([] : List S77)) (inner := []) (ok := (fun k_ => P k_ ∨ w.heap.size ≤ k_)) (okp := fun _ => False) ?hr ?hp (fun _ hk => hk.elim) (.inr HB.out.size) HB.out HB.out.size (by simp) ?_; (case hd => rfl); (case hg => rfl); (case hr => first | (go_simp; done) | (go_simp; rfl)); (case hp => exact (Reps.none _ _)); intro v5 w5 ho hb hg hat; have HO5 := Aside0.mk ho; have HV5 := Aside0.mk (Kd.V_grown HV.out hg (fun k _ => by simp)); clear HV HB; have HB := Aside0.mk hb; clear ho hb hg hat) | ((with_reducible refine gate_builtin (b := .append) (xs := #[.tmp 5, .tmp 6]) rfl ?_); at_builtin; refine Kd.N_append_rows k77 (w0 := w) w.heap.size rfl (.tmp 5) (.tmp 6) 43 77 (.agg #[(.string ⟨#[]⟩), (.slice none 0 0)]) 40 rfl Try.underlying43 info77 rfl (by decide) (by omega) v5 ([] : List S77) l _ _ _ (fun k_ => P k_ ∨ w.heap.size ≤ k_) (fun k_ => (fun k_ => P k_ ∨ w.heap.size ≤ k_) k_ ∧ some k_ ≠ (v5 : Value).ownBlock) rfl rfl ?aO ?aR (fun _ hk => hk) ?aF ?aB ?aS ?aL ?_; (case aO => exact HO5.out); (case aR => exact Kd.F_mono (Kd.V_F HV5.out) (fun k_ hk => ⟨.inl hk.1, fun e_ => by have h_ := Kd.N_base HO5.out k_ e_.symm; have := hk.2; omega⟩)); (case aF => exact fun k_ hk => .inr (Nat.le_trans HB.out.size hk)); (case aB => exact HB.out); (case aS => exact HB.out.size); (case aL => simp only [List.length_nil]; omega); intro v6 w6 ho hb hg hat; have HO6 := Aside0.mk ho; clear HB; have HB := Aside0.mk hb; clear ho hb hg hat))
  go_ret
  exact ⟨_, rfl, by have h_ := HO6.out; rw [List.nil_append] at h_; exact h_, HB.out⟩
end Go.Proofs.Ytebmbfobmakheaa.PD
namespace Go.Proofs.Ytebmbfobmakheaa.PD
open Go.RowKit Go.Proofs.YtebmbfobmakheaaW.PrintWords Go.Proofs.YtebmbfobmakheaaW.PrintLast Go.Proofs.YtebmbfobmakheaaW.PrintMore
attribute [local go_sem] isSome_setCell max2_int min2_int max_two min_two
set_option linter.unusedVariables false
set_option linter.unusedSimpArgs false
theorem gb_trans {w w1 w2 : World} {r : Option Nat} (h : w.grownBy w1 r) (k : w1.grownBy w2 r) : w.grownBy w2 r := ⟨k.os.trans h.os, k.tape.trans h.tape, k.output.trans h.output, Nat.le_trans h.size k.size, fun b hb hne => (k.block b (Nat.lt_of_lt_of_le hb h.size) hne).trans (h.block b hb hne)⟩
theorem gb_below {w w1 : World} {r : Option Nat} (h : Below w.heap.size w w1) : w.grownBy w1 r := ⟨h.os, h.tape, h.output, h.size, fun b hb _ => h.block b hb⟩
theorem below_gb {w w1 : World} {base g : Nat} (h : w.grownBy w1 (some g)) (hbs : base ≤ w.heap.size) (hg : base ≤ g) : Below base w w1 := ⟨h.os, h.tape, h.output, h.size, fun k hk => h.block k (by omega) (fun e => by injection e with e; omega)⟩
theorem list3 {x : List Value} (h : x.length = 3) : ∃ a b c, x = [a, b, c] := by
  match x, h with
  | [a, b, c], _ => exact ⟨a, b, c, rfl⟩
theorem at_R3 {w : World} {A : Option Addr} {l : List (List Value)} (h : Kd.C (Kd.raw 3) w A l.length l) (k : Nat) (hk : k < l.length) :
    ∃ (ad : Addr) (x : Unit) (a b c : Value), A = some ad ∧ l[k] = [a, b, c] ∧ w.cell? (ad.add (k * 3)) = some a ∧ w.cell? ⟨(ad.add (k * 3)).block, (ad.add (k * 3)).off + 1, none⟩ = some b ∧ w.cell? ⟨(ad.add (k * 3)).block, (ad.add (k * 3)).off + 2, none⟩ = some c := by
  obtain ⟨ad, cs, e, hl, hK, hc⟩ := Kd.C_get h [] (k : Int) (by omega) (by omega)
  have hg : l.getD (k : Int).toNat [] = l[k] := by simp [hk]
  rw [hg] at hK
  obtain ⟨rfl, hl3, _⟩ := hK
  obtain ⟨a, b, c, hx⟩ := list3 hl3
  rw [hx] at hc
  rw [Int.toNat_natCast] at hc
  refine ⟨ad, (), a, b, c, e, hx, ?_, ?_, ?_⟩
  · exact hc 0 a rfl
  · rw [← add_field _ _ 1 (by omega)]; exact hc 1 b rfl
  · rw [← add_field _ _ 2 (by omega)]; exact hc 2 c rfl
theorem clear_run (w : World) (ty : TypeId) (g o n c : Nat) {cur : Array Value} (hh : w.heap[g]? = some (.cells cur 45 (0, 0))) (hn : 0 < n) (hfit : o + n * 3 ≤ cur.size) :
    ∃ zs : List Value, zs.length = n * 3 ∧ (Builtin.clear_ #[22] ty #[.slice (some ⟨g, o, none⟩) n c]).run Try.prog w = .ok (.tuple #[]) (w.setCells g o zs) := by
  have hl : (Builtin.zeroCells (Value.agg #[(.string ⟨#[]⟩), (.slice none 0 0), (.string ⟨#[]⟩)]).cells n).toList.length = n * 3 := by simp [Builtin.zeroCells, Value.cells]
  refine ⟨_, hl, ?_⟩
  have hst := run_storeCells_cells (P := Try.prog) g o (Builtin.zeroCells (Value.agg #[(.string ⟨#[]⟩), (.slice none 0 0), (.string ⟨#[]⟩)]).cells n).toList 0 w
    (fun j hj => by rw [cell_of_row w g _ cur 45 (0, 0) hh]; rw [hl] at hj; simp; omega) (fun j _ => blk_frozen hh _)
    (by
      intro v hv
      simp only [Builtin.zeroCells, Value.cells, Array.toList_map, List.mem_map] at hv
      obtain ⟨i, _, rfl⟩ := hv
      have : i % 3 = 0 ∨ i % 3 = 1 ∨ i % 3 = 2 := by omega
      rcases this with h | h | h <;> simp [h, Value.oneCell'])
  simp only [Nat.add_zero] at hst
  obtain ⟨m, rfl⟩ : ∃ m, n = m + 1 := ⟨n - 1, by omega⟩
  have hz : (zeroValue 45).run Try.prog w = .ok (.agg #[(.string ⟨#[]⟩), (.slice none 0 0), (.string ⟨#[]⟩)]) w := by
    have := Try.zeroValue45
    exact this _
  simp [Builtin.clear_, run_underlying Try.underlying22, hz, hst]
theorem R_cut {g n cap m : Nat} {W : World} {base : Nat} {xs : List (List Value)} (h : Kd.R (Kd.raw 3) 45 W base (fun k => k = g) (.slice (some ⟨g, 0, none⟩) n cap) xs) (hm : m ≤ n) (zs : List Value) (hz : m * 3 + zs.length ≤ n * 3) :
    Kd.R (Kd.raw 3) 45 (W.setCells g (m * 3) zs) base (fun k => k = g) (.slice (some ⟨g, 0, none⟩) m cap) (xs.take m) ∧ W.grownBy (W.setCells g (m * 3) zs) (some g) := by
  have hn := (Kd.R_reads' h).1
  have ht := Kd.R_take h (m := m) (by omega)
  obtain ⟨s1, s2, s3, s4⟩ := setCells_same g zs (m * 3) W
  have hgr : W.grownBy (W.setCells g (m * 3) zs) (some g) := ⟨s1, s2, s3, by rw [s4]; exact Nat.le_refl _, fun k _ hk => setCells_far _ _ k (fun he => hk (by rw [he]))⟩
  refine ⟨?_, hgr⟩
  obtain ⟨hok, inner, hown, hrep⟩ := ht
  obtain ⟨_, inner0, hown0, _⟩ := h
  have e : (xs.take m).length = m := by rw [List.length_take]; omega
  rw [e] at hown
  rw [← hn] at hown0
  refine ⟨hok, inner, ?_, hrep.imp_ (fun x c hM => ?_)⟩
  · rw [e]
    refine ⟨hown.1, ?_⟩
    rcases hown.2 with ⟨hv, _⟩ | ⟨g', cap', cur, hv, hb, hh, hnc, hcm, hcs, htake⟩
    · cases hv
    cases hv
    rcases hown0.2 with ⟨hv, _⟩ | ⟨g', cap', cur0, hv, hb0, hh0, hnc0, hcm0, hcs0, htake0⟩
    · cases hv
    cases hv
    have hcs2 : cur.size = cap * 3 := hcs
    have htk : cur.toList.take (m * 3) = inner := htake
    subst htk
    obtain ⟨cur', q3, q4, q5⟩ := setCells_row zs (m * 3) W cur hh (by omega)
    refine .inr ⟨g, cap, cur', rfl, hb, q3, hnc, hcm, by rw [q4, hcs], ?_⟩
    show cur'.toList.take (m * 3) = cur.toList.take (m * 3)
    rw [q5]
    rw [List.append_assoc, List.take_append_of_le_length (by rw [List.length_take, Array.length_toList]; omega), List.take_take, Nat.min_self]
  · exact hM
theorem box3_store (W : World) (g : Nat) (a b c x y z : Value) (h : W.heap[g]? = some (.cells #[a, b, c] 45 (0, 0))) :
    (((W.setCell ⟨g, 0, none⟩ x).setCell ⟨g, 1, none⟩ y).setCell ⟨g, 2, none⟩ z).heap[g]? = some (.cells #[x, y, z] 45 (0, 0)) := by
  have h1 := blk_set h 0 x
  have h2 := blk_set h1 1 y
  have h3 := blk_set h2 2 z
  simpa using h3
theorem cc3 {W : World} {g o : Nat} {a b c : Value} (h0 : W.cell? ⟨g, o, none⟩ = some a) (h1 : W.cell? ⟨g, o + 1, none⟩ = some b) (h2 : W.cell? ⟨g, o + 2, none⟩ = some c) : ∀ j u, [a, b, c][j]? = some u → W.cell? ⟨g, o + j, none⟩ = some u := by
  intro j u hu
  rcases j with _ | _ | _ | j
  · simp at hu; subst hu; exact h0
  · simp at hu; subst hu; exact h1
  · simp at hu; subst hu; exact h2
  · simp at hu
theorem World.below_box3 {W w1 : World} {g : Nat} {x y z : Value} (h : Below W.heap.size W w1) (hg : g = W.heap.size) : Below W.heap.size W (((w1.setCell ⟨g, 0, none⟩ x).setCell ⟨g, 1, none⟩ y).setCell ⟨g, 2, none⟩ z) := by
  have : W.heap.size ≤ g := by omega
  exact below_set (below_set (below_set h this) this) this
set_option maxRecDepth 100000 in
set_option maxHeartbeats 1600000 in
theorem indexR (fk : Nat) (fn : Func) (hfn : Try.prog.funcs[fk]? = some fn) (hname : (fn.name == "runtime.NumGoroutine") = false) (hbody : fn.body.isSome = true) (lb : Array Value) (p : List Value → Bool)
    (A0 : Option Addr) (c0 : Nat) (l0 : List (List Value)) (w : World) (hr0 : Kd.C (Kd.raw 3) w A0 l0.length l0)
    (hp : ∀ a b c, [a, b, c] ∈ l0 → ∀ W, Below w.heap.size w W → Calls Try.prog fk (#[.agg #[a, b, c]] ++ lb) W fun e W' => e = .returned (.bool (p [a, b, c])) ∧ Below W.heap.size W W') :
    Calls Try.prog 80 #[.slice A0 l0.length c0, .func (.func fk) #[] lb] w fun e w' => e = .returned (.int .i64 (idxP p l0)) ∧ Below w.heap.size w w' := by
  have HR0 := Aside0.mk hr0
  have hml : l0.length ≤ 9223372036854775807 := by have := hr0.2.1; unfold maxLen at this; omega
  clear hr0
  have HP := Aside0.mk hp
  clear hp
  have HB := Aside0.mk (Below.refl w.heap.size w)
  go_enter Try.func80, Try.ntmps80
  go_wp2
  go_loopw [8] (fun v wr => ∃ k : Nat, v = .int .i64 k ∧ k ≤ l0.length ∧ Aside0 (∀ j, (hj : j < l0.length) → j < k → p l0[j] = false) ∧ Aside0 (Below w.heap.size w wr)) (fun v _ => l0.length - (intOf v).toNat)
  case atStart => exact ⟨0, rfl, Nat.zero_le _, ⟨fun j _ hj => absurd hj (Nat.not_lt_zero _)⟩, HB⟩
  case round =>
    obtain ⟨k, rfl, hk, hno, hb⟩ := hrel
    by_cases hlt : k < l0.length
    · have hlt0 : decide ((k : Int) < (l0.length : Int)) = true := decide_eq_true (by omega)
      obtain ⟨ad, x, b, d, t, e, hx, hx0, hx1, hx2⟩ := at_R3 HR0.out k hlt
      subst e
      replace hx0 := (hb.out.cell (World.block_lt_of_cell? w _ hx0)).trans hx0
      replace hx1 := (hb.out.cell (World.block_lt_of_cell? w _ hx1)).trans hx1
      replace hx2 := (hb.out.cell (World.block_lt_of_cell? w _ hx2)).trans hx2
      have hc := HP.out b d t (by rw [← hx]; exact List.getElem_mem hlt) wr hb.out
      cases hpk : p l0[k] with
      | true =>
        have hpk' : p [b, d, t] = true := by rw [← hx]; exact hpk
        rw [hpk'] at hc
        have HC := Aside0.mk hc
        clear hc
        go_wp2_with ((with_reducible refine gate_tmp (t := 11) rfl ?_); refine goesF_ (some 16) rfl rfl hfn hname hbody (args := #[.agg #[b, d, t]] ++ lb) rfl rfl (by (try simp only [List.map_toArray, List.map_cons, List.map_nil]); first | done | rfl) ?_; refine HC.out.mono ?_; rintro e W' ⟨rfl, hb'⟩; refine ⟨_, rfl, ?_⟩)
        go_ret
        refine ⟨?_, hb.out.trans (hb'.mono hb.out.size)⟩
        rw [idxP_at p l0 k hlt hpk (fun j hj => hno.out j (by omega) hj)]
        rfl
      | false =>
        have hpk' : p [b, d, t] = false := by rw [← hx]; exact hpk
        rw [hpk'] at hc
        have HC := Aside0.mk hc
        clear hc
        go_wp2_with ((with_reducible refine gate_tmp (t := 11) rfl ?_); refine goesF_ (some 16) rfl rfl hfn hname hbody (args := #[.agg #[b, d, t]] ++ lb) rfl rfl (by (try simp only [List.map_toArray, List.map_cons, List.map_nil]); first | done | rfl) ?_; refine HC.out.mono ?_; rintro e W' ⟨rfl, hb'⟩; refine ⟨_, rfl, ?_⟩)
        go_roundw
        case rel =>
          refine ⟨k + 1, by simp, hlt, ⟨fun j hj hjk => ?_⟩, ⟨hb.out.trans (hb'.mono hb.out.size)⟩⟩
          rcases Nat.lt_or_ge j k with h | h
          · exact hno.out j hj h
          · obtain rfl : j = k := by omega
            exact hpk
        case measure => show l0.length - (((k : Int) + 1)).toNat < l0.length - ((k : Int)).toNat; omega
    · have hlt0 : decide ((k : Int) < (l0.length : Int)) = false := decide_eq_false (by omega)
      go_wp2
      go_ret
      refine ⟨?_, hb.out⟩
      rw [idxP_none p l0 (fun j hj => hno.out j hj (by omega))]
      rfl
set_option maxRecDepth 100000 in
set_option maxHeartbeats 8000000 in
theorem deleteR (fk : Nat) (fn : Func) (hfn : Try.prog.funcs[fk]? = some fn) (hname : (fn.name == "runtime.NumGoroutine") = false) (hbody : fn.body.isSome = true) (lb : Array Value) (p : List Value → Bool) (base : Nat) (v : Value) (l : List (List Value)) (w : World)
    (hr : Kd.R (Kd.raw 3) 45 w base (fun k => some k = v.ownBlock) v l) (hbs : base ≤ w.heap.size) (hsh : ∀ x ∈ l, ∃ s A n c t, x = [Value.string s, Value.slice A n c, Value.string t])
    (hp : ∀ a b c, [a, b, c] ∈ l → ∀ W, w.grownBy W v.ownBlock → Calls Try.prog fk (#[.agg #[a, b, c]] ++ lb) W fun e W' => e = .returned (.bool (p [a, b, c])) ∧ Below W.heap.size W W') :
    Calls Try.prog 64 #[v, .func (.func fk) #[] lb] w fun e w' => ∃ v', e = .returned v' ∧ v'.ownBlock = v.ownBlock ∧ Kd.R (Kd.raw 3) 45 w' base (fun k => some k = v.ownBlock) v' (l.filter fun x => !p x) ∧ w.grownBy w' v.ownBlock := by
  obtain ⟨A, c, rfl⟩ := Kd.R_slice hr
  have hC := (Kd.R_reads' hr).2.2
  have hcc := (Kd.R_reads' hr).2.1
  have hidx := indexR fk fn hfn hname hbody lb p A c l w hC (fun a b d hm W hW => hp a b d hm W (gb_below hW))
  have hml : l.length ≤ 9223372036854775807 := by have := hC.2.1; unfold maxLen at this; omega
  cases hfi : l.findIdx? p with
  | none =>
    have e1 : idxP p l = -1 := by unfold idxP; rw [hfi]
    rw [e1] at hidx
    have e2 : (l.filter fun x => !p x) = l := by
      rw [List.filter_eq_self]
      intro x hx
      rw [List.findIdx?_eq_none_iff] at hfi
      simp [hfi x hx]
    rw [e2]
    have HI := Aside0.mk hidx
    have HR := Aside0.mk hr
    clear hidx hr hC hp
    go_enter Try.func64, Try.ntmps64
    go_wp2_with (go_at_call 80; refine HI.out.mono ?_; rintro e w' ⟨rfl, hb⟩)
    go_ret
    exact ⟨_, rfl, rfl, Kd.R_below HR.out hb, gb_below hb⟩
  | some k0 =>
    have e1 : idxP p l = (k0 : Int) := by unfold idxP; rw [hfi]
    rw [e1] at hidx
    rw [List.findIdx?_eq_some_iff_getElem] at hfi
    obtain ⟨hk0, ht0, hno⟩ := hfi
    have e2 : (l.take (k0 + 1)).filter (fun x => !p x) = l.take k0 := by
      rw [List.take_add_one, List.filter_append]
      have h1 : (l.take k0).filter (fun x => !p x) = l.take k0 := by
        rw [List.filter_eq_self]
        intro x hx
        obtain ⟨j, hj, rfl⟩ := List.getElem_of_mem hx
        rw [List.length_take] at hj
        rw [List.getElem_take]
        have := hno j (by omega)
        simpa using this
      rw [h1, List.getElem?_eq_getElem hk0]
      simp [ht0]
    obtain ⟨g, cap, hAe, hbg, hglt, cells, hcells⟩ := Kd.R_form hr (by omega)
    injection hAe with hA' _ hc'
    subst hA' hc'
    have hob : (Value.slice (some ⟨g, 0, none⟩) l.length c).ownBlock = some g := by
      simp [Value.ownBlock]
    rw [hob] at hr hp ⊢
    have hne1 : ((k0 : Int) == -1) = false := beq_eq_false_iff_ne.2 (by omega)
    have hRg : Kd.R (Kd.raw 3) 45 w base (fun k => k = g) (.slice (some ⟨g, 0, none⟩) l.length c) l := Kd.R_mono hr (fun k hk => by injection hk)
    have HI := Aside0.mk hidx
    have HR := Aside0.mk hRg
    have HE := Aside0.mk e2
    have HP := Aside0.mk hp
    clear hidx hr hC hRg e2 e1 hno ht0 hcells hp
    have hgb0 : base ≤ g := hbg
    go_enter Try.func64, Try.ntmps64
    go_wp2_with (go_at_call 80; refine HI.out.mono ?_; rintro e w1 ⟨rfl, hb⟩)
    have HR1 := Aside0.mk (Kd.R_below HR.out hb)
    have HG1 := Aside0.mk (gb_below (r := some g) hb)
    have hg1 : g < w1.heap.size := Nat.lt_of_lt_of_le hglt hb.size
    clear hb HI
    go_loopw [5, 6, 7] (fun s5 s6 _ wr => ∃ (i j : Nat) (rows : List (List Value)), s5 = .int .i64 (i : Int) ∧ s6 = .int .i64 (j : Int) ∧ i < j ∧ j ≤ l.length ∧ rows.length = l.length ∧ Aside0 (rows.take i = (l.take j).filter (fun x => !p x)) ∧ Aside0 (rows.drop j = l.drop j) ∧
        Aside0 (Kd.R (Kd.raw 3) 45 wr base (fun k => k = g) (.slice (some ⟨g, 0, none⟩) l.length c) rows) ∧ Aside0 (w.grownBy wr (some g)) ∧ g < wr.heap.size)
      (fun _ s6 _ _ => l.length - (intOf s6).toNat)
    case atStart => exact ⟨k0, k0 + 1, l, rfl, by simp, by omega, by omega, rfl, ⟨HE.out.symm⟩, ⟨rfl⟩, HR1, HG1, hg1⟩
    case round =>
      obtain ⟨i, j, rows, rfl, rfl, hij, hjl, hrl, ht, hd, HRr, HGr, hgr⟩ := hrel
      by_cases hlt : j < l.length
      · have hlt0 : decide ((j : Int) < (l.length : Int)) = true := decide_eq_true (by omega)
        have hrj : rows[j]'(by omega) = l[j] := by
          have h1 : (rows.drop j)[0]? = (l.drop j)[0]? := by rw [hd.out]
          rw [List.getElem?_drop, List.getElem?_drop] at h1
          simp only [Nat.add_zero] at h1
          rw [List.getElem?_eq_getElem (by omega), List.getElem?_eq_getElem hlt] at h1
          exact Option.some.inj h1
        have hCr := (Kd.R_reads' HRr.out).2.2
        obtain ⟨ad, _, xa, xb, xc, e, hx, hx0, hx1, hx2⟩ := at_R3 hCr j (by omega)
        cases e
        obtain ⟨ad, _, ya, yb, yc, e, hy, hy0, hy1, hy2⟩ := at_R3 hCr i (by omega)
        cases e
        rw [hrj] at hx
        have HO1 := Aside0.mk (show ∀ u ∈ [xa, xb, xc], u.oneCell' = true by
          obtain ⟨_, cs, _, _, hK, _⟩ := Kd.C_get hCr [] (j : Int) (by omega) (by omega)
          have hg : rows.getD (j : Int).toNat [] = l[j] := by simp [← hrj, List.getD_eq_getElem?_getD, show j < rows.length by omega]
          rw [hg, hx] at hK
          exact hK.1 ▸ hK.2.2)
        have HM := Aside0.mk (show [xa, xb, xc] ∈ l by rw [← hx]; exact List.getElem_mem hlt)
        obtain ⟨q1, q2, q3, q4, q5, hq5⟩ := hsh _ HM.out
        injection hq5 with hqa hq6
        injection hq6 with hqb hq7
        injection hq7 with hqc _
        subst hqa hqb hqc
        simp only [add_plain] at hx0 hx1 hx2 hy0 hy1 hy2
        have HY0 := Aside0.mk hy0
        have HY1 := Aside0.mk hy1
        have HY2 := Aside0.mk hy2
        have HX := Aside0.mk hx
        clear hy0 hy1 hy2 hrj hCr hy hx
        cases hq0 : p [Value.string q1, Value.slice q2 q3 q4, Value.string q5] with
        | true =>
          have hq := Aside0.mk hq0
          clear hq0
          go_wp2_with (first | ((with_reducible refine gate_dst (N := 7) rfl ?_); refine box_event ?hg (N := 7) ?hd (cs := #[.string (⟨#[]⟩ : ByteArray), .slice none 0 0, .string (⟨#[]⟩ : ByteArray)]) (t := 45) ?hr ?_; (case hd => rfl); (case hg => rfl); (case hr => first | (go_simp; done) | (go_simp; rfl)); intro gb hgb w13 hbox hb; have hcz0 : w13.cell? ⟨gb, 0, none⟩ = some (.string ⟨#[]⟩) := (blk_cell hbox 0).trans rfl; have hcz1 : w13.cell? ⟨gb, 1, none⟩ = some (.slice none 0 0) := (blk_cell hbox 1).trans rfl; have hcz2 : w13.cell? ⟨gb, 2, none⟩ = some (.string ⟨#[]⟩) := (blk_cell hbox 2).trans rfl; have hfz0 := blk_frozen hbox 0; have hfz1 := blk_frozen hbox 1; have hfz2 := blk_frozen hbox 2; have HBX := Aside0.mk hbox; have HBb := Aside0.mk hb; have HGB := Aside0.mk hgb; clear hbox hb hgb) | ((with_reducible refine gate_tmp (t := 26) rfl ?_); refine goesF_ (some 28) rfl rfl hfn hname hbody (args := #[.agg #[.string q1, .slice q2 q3 q4, .string q5]] ++ lb) rfl rfl (by (try simp only [List.map_toArray, List.map_cons, List.map_nil]); first | done | rfl) ?_; have hW := World.below_box3 HBb.out (x := .string q1) (y := .slice q2 q3 q4) (z := .string q5) HGB.out; have hX := box3_store w13 gb _ _ _ (.string q1) (.slice q2 q3 q4) (.string q5) HBX.out; generalize ((w13.setCell ⟨gb, 0, none⟩ (.string q1)).setCell ⟨gb, 1, none⟩ (.slice q2 q3 q4)).setCell ⟨gb, 2, none⟩ (.string q5) = w14 at hW hX ⊢; clear hcz0 hcz1 hcz2 hfz0 hfz1 hfz2 HBX HBb HGB hx0 hx1 hx2; have hcall := HP.out (.string q1) (.slice q2 q3 q4) (.string q5) HM.out w14 (gb_trans HGr.out (gb_below hW)); rw [hq.out] at hcall; refine hcall.mono ?_; rintro e w15 ⟨rfl, hb15⟩; refine ⟨_, rfl, ?_⟩; have hbx := blk_below hX hb15; have HBx := Aside0.mk hbx; have hv0 : w15.cell? ⟨gb, 0, none⟩ = some (.string q1) := (blk_cell hbx 0).trans rfl; have hv1 : w15.cell? ⟨gb, 1, none⟩ = some (.slice q2 q3 q4) := (blk_cell hbx 1).trans rfl; have hv2 : w15.cell? ⟨gb, 2, none⟩ = some (.string q5) := (blk_cell hbx 2).trans rfl; have HW15 := Aside0.mk (hW.trans (hb15.mono hW.size)); clear hb15 hW hX hbx hcall))
          go_roundw
          case rel =>
            refine ⟨i, j + 1, rows, rfl, by simp, by omega, by omega, hrl, ⟨?_⟩, ⟨?_⟩, ⟨Kd.R_below HRr.out HW15.out⟩, ⟨gb_trans HGr.out (gb_below HW15.out)⟩, Nat.lt_of_lt_of_le hgr HW15.out.size⟩
            · rw [ht.out, List.take_add_one, List.getElem?_eq_getElem hlt, List.filter_append, HX.out]
              simp [hq.out]
            · have := congrArg (List.drop 1) hd.out
              rwa [List.drop_drop, List.drop_drop] at this
          case measure => show l.length - ((j : Int) + 1).toNat < l.length - (j : Int).toNat; omega
        | false =>
          have hq := Aside0.mk hq0
          clear hq0
          go_wp2_with (first | ((with_reducible refine gate_dst (N := 7) rfl ?_); refine box_event ?hg (N := 7) ?hd (cs := #[.string (⟨#[]⟩ : ByteArray), .slice none 0 0, .string (⟨#[]⟩ : ByteArray)]) (t := 45) ?hr ?_; (case hd => rfl); (case hg => rfl); (case hr => first | (go_simp; done) | (go_simp; rfl)); intro gb hgb w13 hbox hb; have hcz0 : w13.cell? ⟨gb, 0, none⟩ = some (.string ⟨#[]⟩) := (blk_cell hbox 0).trans rfl; have hcz1 : w13.cell? ⟨gb, 1, none⟩ = some (.slice none 0 0) := (blk_cell hbox 1).trans rfl; have hcz2 : w13.cell? ⟨gb, 2, none⟩ = some (.string ⟨#[]⟩) := (blk_cell hbox 2).trans rfl; have hfz0 := blk_frozen hbox 0; have hfz1 := blk_frozen hbox 1; have hfz2 := blk_frozen hbox 2; have HBX := Aside0.mk hbox; have HBb := Aside0.mk hb; have HGB := Aside0.mk hgb; clear hbox hb hgb) | ((with_reducible refine gate_tmp (t := 26) rfl ?_); refine goesF_ (some 28) rfl rfl hfn hname hbody (args := #[.agg #[.string q1, .slice q2 q3 q4, .string q5]] ++ lb) rfl rfl (by (try simp only [List.map_toArray, List.map_cons, List.map_nil]); first | done | rfl) ?_; have hW := World.below_box3 HBb.out (x := .string q1) (y := .slice q2 q3 q4) (z := .string q5) HGB.out; have hX := box3_store w13 gb _ _ _ (.string q1) (.slice q2 q3 q4) (.string q5) HBX.out; generalize ((w13.setCell ⟨gb, 0, none⟩ (.string q1)).setCell ⟨gb, 1, none⟩ (.slice q2 q3 q4)).setCell ⟨gb, 2, none⟩ (.string q5) = w14 at hW hX ⊢; clear hcz0 hcz1 hcz2 hfz0 hfz1 hfz2 HBX HBb HGB hx0 hx1 hx2; have hcall := HP.out (.string q1) (.slice q2 q3 q4) (.string q5) HM.out w14 (gb_trans HGr.out (gb_below hW)); rw [hq.out] at hcall; refine hcall.mono ?_; rintro e w15 ⟨rfl, hb15⟩; refine ⟨_, rfl, ?_⟩; have hbx := blk_below hX hb15; have HBx := Aside0.mk hbx; have hv0 : w15.cell? ⟨gb, 0, none⟩ = some (.string q1) := (blk_cell hbx 0).trans rfl; have hv1 : w15.cell? ⟨gb, 1, none⟩ = some (.slice q2 q3 q4) := (blk_cell hbx 1).trans rfl; have hv2 : w15.cell? ⟨gb, 2, none⟩ = some (.string q5) := (blk_cell hbx 2).trans rfl; have HW15 := Aside0.mk (hW.trans (hb15.mono hW.size)); clear hb15 hW hX hbx hcall) | ((with_reducible refine gate_ (.store 45 (.tmp 33) (.tmp 32)) rfl ?_); refine Kd.R_store (Kd.raw 3) (w0 := w) base rfl rfl 45 (.tmp 33) (.tmp 32) rfl 45 (g := g) (n := l.length) (cap := c) (o' := i * 3) (i : Int) 0 rows [Value.string q1, Value.slice q2 q3 q4, Value.string q5] (.agg #[.string q1, .slice q2 q3 q4, .string q5]) [Value.string q1, Value.slice q2 q3 q4, Value.string q5] [ya, yb, yc] (fun k => k = g) (fun _ => False) rfl rfl rfl rfl (by kernel_rfl) HO1.out (Kd.R_below HRr.out HW15.out) (by omega) (by omega) rfl ?hcc (Nat.le_refl 3) ⟨rfl, rfl, HO1.out⟩ (fun _ h => h.elim) (below_gb (gb_trans HGr.out (gb_below HW15.out)) hbs hgb0) ?_; (case hcc => exact cc3 (o := i * 3) ((HW15.out.cell (World.block_lt_of_cell? _ _ HY0.out)).trans HY0.out) ((HW15.out.cell (World.block_lt_of_cell? _ _ HY1.out)).trans HY1.out) ((HW15.out.cell (World.block_lt_of_cell? _ _ HY2.out)).trans HY2.out)); intro w16 hR16 hB16 hG16; have HR16 := Aside0.mk hR16; have HG16 := Aside0.mk hG16; clear hR16 hB16 hG16 hv0 hv1 hv2))
          have hset : rows.set i [Value.string q1, Value.slice q2 q3 q4, Value.string q5] = rows.take i ++ [Value.string q1, Value.slice q2 q3 q4, Value.string q5] :: rows.drop (i + 1) := List.set_eq_take_append_cons_drop.trans (if_pos (by omega))
          refine ⟨⟨i + 1, j + 1, rows.set i [Value.string q1, Value.slice q2 q3 q4, Value.string q5], by simp, by simp, by omega, by omega, by simp [hrl], ⟨?_⟩, ⟨?_⟩, HR16, ⟨gb_trans (gb_trans HGr.out (gb_below HW15.out)) HG16.out⟩, Nat.lt_of_lt_of_le hgr (Nat.le_trans HW15.out.size HG16.out.size)⟩, ?_⟩
          · rw [hset, List.take_append, List.length_take, List.take_take, List.take_add_one (l := l), List.getElem?_eq_getElem hlt, List.filter_append, HX.out]
            rw [show min (i + 1) i = i by omega, ht.out, show i + 1 - min i rows.length = 1 by omega]
            simp [hq.out]
          · rw [List.drop_set, if_pos (by omega)]
            have := congrArg (List.drop 1) hd.out
            rwa [List.drop_drop, List.drop_drop] at this
          · show l.length - ((j : Int) + 1).toNat < l.length - (j : Int).toNat
            omega
      · have hlt0 : decide ((j : Int) < (l.length : Int)) = false := decide_eq_false (by omega)
        have hlo : ∀ W : World, (Instr.slice 22 (.slice (some ⟨g, 0, none⟩) l.length c) (some (.int .i64 (i : Int))) none none).run Try.prog W = .ok (.slice (some ⟨g, i * 3, none⟩) (l.length - i) (c - i)) W := by
          intro W
          obtain ⟨i0, hi, _, hz1, _⟩ := info_parts info45
          have h := cut_from (P := Try.prog) 22 45 .i64 Try.underlying22 hi 3 hz1 (some ⟨g, 0, none⟩) l.length c (i : Int) (by omega) (by omega) W
          rw [Int.toNat_natCast, if_neg (by omega)] at h
          rw [h]
          simp [add_plain]
        have hhi : ∀ W : World, (Instr.slice 22 (.slice (some ⟨g, 0, none⟩) l.length c) none (some (.int .i64 (i : Int))) none).run Try.prog W = .ok (.slice (some ⟨g, 0, none⟩) i c) W := by
          intro W
          obtain ⟨i0, hi, _, hz1, _⟩ := info_parts info45
          have h := cut_to (P := Try.prog) 22 45 .i64 Try.underlying22 hi (some ⟨g, 0, none⟩) l.length c (i : Int) (by omega) (by omega) (by omega) W
          rw [Int.toNat_natCast] at h
          exact h
        obtain ⟨zs, hzl, hclr⟩ : ∃ zs : List Value, zs.length = (l.length - i) * 3 ∧ (Builtin.clear_ #[22] 0 #[.slice (some ⟨g, i * 3, none⟩) (l.length - i) (c - i)]).run Try.prog wr = .ok (.tuple #[]) (wr.setCells g (i * 3) zs) := by
          obtain ⟨_, inner, hown, _⟩ := HRr.out
          rcases hown.2 with ⟨hv, _⟩ | ⟨g', cap', cur, hv, hb, hh, hnc, hcm, hcs, htake⟩
          · cases hv
          injection hv with h1 _ h2
          injection h1 with h1
          injection h1 with h1
          subst h1 h2
          have hcs2 : cur.size = c * 3 := hcs
          exact clear_run wr 0 g (i * 3) (l.length - i) (c - i) hh (by omega) (by omega)
        obtain ⟨hR2, hG2⟩ := R_cut HRr.out (show i ≤ l.length by omega) zs (by omega)
        have HR2 := Aside0.mk hR2
        have HG2 := Aside0.mk hG2
        clear hR2 hG2
        go_wp2
        go_ret
        obtain rfl : j = l.length := by omega
        have e3 : rows.take i = l.filter (fun x => !p x) := by
          rw [ht.out, List.take_of_length_le (Nat.le_refl _)]
        rw [e3] at HR2
        exact ⟨_, rfl, by simp [Value.ownBlock], Kd.R_mono HR2.out (fun k hk => by rw [hk]), gb_trans HGr.out HG2.out⟩
end Go.Proofs.Ytebmbfobmakheaa.PD
namespace Go.Proofs.Ytebmbfobmakheaa.PD
open Go.RowKit Go.Proofs.YtebmbfobmakheaaW.PrintWords Go.Proofs.YtebmbfobmakheaaW.PrintLast Go.Proofs.YtebmbfobmakheaaW.PrintMore
attribute [local go_sem] isSome_setCell max2_int min2_int max_two min_two
set_option linter.unusedVariables false
set_option linter.unusedSimpArgs false
def cellsP (p : ByteArray → ByteArray → Bool) : List Value → Bool
  | [.string s, _, .string t] => p s t
  | _ => false
theorem zip_filter {α β : Type} (l : List α) (r : List β) (hl : r.length = l.length) (p : α → Bool) (q : β → Bool) (h : ∀ (j : Nat) (x : α) (c : β), l[j]? = some x → r[j]? = some c → q c = p x) :
    (r.filter q).length = (l.filter p).length ∧ ∀ (j : Nat) (x : α) (c : β), (l.filter p)[j]? = some x → (r.filter q)[j]? = some c → ∃ i : Nat, l[i]? = some x ∧ r[i]? = some c := by
  induction l generalizing r with
  | nil =>
    obtain rfl : r = [] := List.eq_nil_of_length_eq_zero hl
    exact ⟨rfl, fun j x c hx _ => by simp at hx⟩
  | cons a l ih =>
    cases r with
    | nil => simp at hl
    | cons b r =>
      obtain ⟨h1, h2⟩ := ih r (by simpa using hl) (fun j x c hx hc => h (j + 1) x c (by simpa using hx) (by simpa using hc))
      have hq := h 0 a b rfl rfl
      cases hp : p a with
      | true =>
        rw [List.filter_cons_of_pos hp, List.filter_cons_of_pos (hq.trans hp)]
        refine ⟨by simp [h1], fun j x c hx hc => ?_⟩
        cases j with
        | zero => exact ⟨0, by simpa using hx, by simpa using hc⟩
        | succ j =>
          obtain ⟨i, hi1, hi2⟩ := h2 j x c (by simpa using hx) (by simpa using hc)
          exact ⟨i + 1, by simpa using hi1, by simpa using hi2⟩
      | false =>
        rw [List.filter_cons_of_neg (p := p) (by rw [hp]; decide), List.filter_cons_of_neg (p := q) (by rw [hq, hp]; decide)]
        refine ⟨h1, fun j x c hx hc => ?_⟩
        obtain ⟨i, hi1, hi2⟩ := h2 j x c hx hc
        exact ⟨i + 1, by simpa using hi1, by simpa using hi2⟩
theorem deleteN (fk : Nat) (fn : Func) (hfn : Try.prog.funcs[fk]? = some fn) (hname : (fn.name == "runtime.NumGoroutine") = false) (hbody : fn.body.isSome = true) (lb : Array Value) (p : ByteArray → ByteArray → Bool) (base : Nat) (ok : Nat → Prop) (v : Value) (l : List S45) (w : World)
    (hn : Kd.N k45 45 w base ok v l) (hbs : base ≤ w.heap.size)
    (hp : ∀ x ∈ l, ∀ A n c W, w.grownBy W v.ownBlock → Calls Try.prog fk (#[.agg #[.string x.f0, .slice A n c, .string x.f2]] ++ lb) W fun e W' => e = .returned (.bool (p x.f0 x.f2)) ∧ Below W.heap.size W W') :
    Calls Try.prog 64 #[v, .func (.func fk) #[] lb] w fun e w' => ∃ v', e = .returned v' ∧ Kd.N k45 45 w' base ok v' (l.filter fun x => !p x.f0 x.f2) ∧ w.grownBy w' v.ownBlock := by
  obtain ⟨h0, rows, hl, hR, hf⟩ := hn
  have hsh : ∀ (j : Nat) (c : List Value), rows[j]? = some c → ∃ x A n cc, l[j]? = some x ∧ c = [Value.string x.f0, Value.slice A n cc, Value.string x.f2] := by
    intro j c hc
    obtain ⟨hj, _⟩ := List.getElem?_eq_some_iff.1 hc
    have hx := List.getElem?_eq_getElem (l := l) (i := j) (by omega)
    obtain ⟨A1, c1, e, _⟩ := k45_openF (hf j _ c hx hc)
    exact ⟨_, A1, _, c1, hx, e⟩
  have hq : ∀ (j : Nat) (x : S45) (c : List Value), l[j]? = some x → rows[j]? = some c → (!cellsP p c) = (!p x.f0 x.f2) := by
    intro j x c hx hc
    obtain ⟨x', A, n, cc, hx', rfl⟩ := hsh j c hc
    obtain rfl : x' = x := Option.some.inj (hx'.symm.trans hx)
    rfl
  obtain ⟨z1, z2⟩ := zip_filter l rows hl (fun x => !p x.f0 x.f2) (fun c => !cellsP p c) hq
  refine (deleteR fk fn hfn hname hbody lb (cellsP p) base v rows w hR hbs ?_ ?_).mono ?_
  · intro c hc
    obtain ⟨j, hj, rfl⟩ := List.getElem_of_mem hc
    obtain ⟨x, A, n, cc, _, e⟩ := hsh j _ (List.getElem?_eq_getElem hj)
    exact ⟨_, A, n, cc, _, e⟩
  · intro a b c hm W hW
    obtain ⟨j, hj, e0⟩ := List.getElem_of_mem hm
    obtain ⟨x, A, n, cc, hx, e⟩ := hsh j _ (List.getElem?_eq_getElem hj)
    rw [e0] at e
    injection e with ea e1
    injection e1 with eb e2
    injection e2 with ec _
    subst ea eb ec
    exact hp x (List.mem_of_getElem? hx) A n cc W hW
  · rintro e w' ⟨v', rfl, hob, hR', hg⟩
    refine ⟨v', rfl, ⟨fun k hk => h0 k (by rw [← hob]; exact hk), _, z1, Kd.R_mono hR' (fun k hk => by rw [hob]; exact hk), fun j x c hx hc => ?_⟩, hg⟩
    obtain ⟨i, hi1, hi2⟩ := z2 j x c hx hc
    rw [hob]
    exact Foot.step (hf i x c hi1 hi2) (fun k hk hlt => hg.block k hlt hk.2)
theorem below_ofN {w w1 w2 : World} {v : Value} (h : Below w.heap.size w w1) (hg : w1.grownBy w2 v.ownBlock) (hv : ∀ k, v.ownBlock = some k → w.heap.size ≤ k) : Below w.heap.size w w2 :=
  ⟨hg.os.trans h.os, hg.tape.trans h.tape, hg.output.trans h.output, Nat.le_trans h.size hg.size, fun k hk => (hg.block k (Nat.lt_of_lt_of_le hk h.size) (fun e => by have := hv k e.symm; omega)).trans (h.block k hk)⟩
set_option maxRecDepth 100000 in
set_option maxHeartbeats 8000000 in
theorem itip_without_walk (P : Nat → Prop) (A : Option Addr) (c : Nat) (l : List S45) (name : ByteArray) (w : World) (hs : Kd.V k45 45 w w.heap.size P (.slice A l.length c) l) (hlim : l.length < 2513169434917) :
    Calls Try.prog 66 #[.slice A l.length c, .string name] w fun e w' => ∃ v : Value, e = .returned v ∧ Kd.N k45 45 w' w.heap.size (fun k_ => P k_ ∨ w.heap.size ≤ k_) v (l.filter fun x => !(x.f0.toList == name.toList)) ∧ Below w.heap.size w w' := by
  have HV := Aside0.mk hs
  clear hs
  have HB := Aside0.mk (Below.refl w.heap.size w)
  go_enter Try.func66, Try.ntmps66
  go_wp2_with (first | ((with_reducible refine gate_dst (N := 3) rfl ?_); refine box_event ?hg (N := 3) ?hd (cs := #[.string name]) (t := 9) ?hr ?_; (case hd => rfl); (case hg => rfl); (case hr => first | (go_simp; done) | (go_simp; rfl)); intro gb3 hg w3 hbox hb; have GE3 := Aside0.mk (show w.heap.size ≤ gb3 by rw [hg]; exact HB.out.size); have BK3 := Aside0.mk hbox; replace HB := Aside0.mk (below_step HB.out hb); clear hbox hb hg; have HV3 := Aside0.mk (Kd.V_below HV.out HB.out); skip) | (go_at_call 95; refine (clone45 P A c l w3 HV3.out hlim).mono ?_; rintro e w4 ⟨v4, rfl, hn4, hb4⟩; have HN4 := Aside0.mk hn4; have HW3 := Aside0.mk HB.out.size; have HW34 := Aside0.mk hb4.size; replace BK3 := Aside0.mk (blk_below BK3.out hb4); have HB4 := Aside0.mk (below_step HB.out hb4); clear hn4 hb4 HB) | (go_at_call 64; refine (deleteN 96 _ Try.func96 (by kernel_rfl) rfl #[.pointer (some ⟨gb3, 0, none⟩)] (fun s _ => s.toList == name.toList) w3.heap.size _ v4 l w4 HN4.out HW34.out (fun x _ A' n' c' W hW => withoutN_calls name gb3 x.f0 A' n' c' x.f2 W ((hW.block gb3 (blk_lt BK3.out) (Kd.N_ne HN4.out BK3.out (by decide))).trans BK3.out))).mono ?_; rintro e w5 ⟨v5, rfl, hn5, hg5⟩; have HN5 := Aside0.mk hn5; have HG5 := Aside0.mk hg5; clear hn5 hg5))
  go_ret
  exact ⟨_, rfl, Kd.N_mono (Kd.N_lower HN5.out HW3.out) (fun k hk => hk.imp id (fun h => Nat.le_trans HW3.out h)), below_ofN HB4.out HG5.out (fun k hk => Nat.le_trans HW3.out (Kd.N_base HN4.out k hk))⟩
set_option maxRecDepth 100000 in
set_option maxHeartbeats 8000000 in
theorem comp_Props_walk (nm0 : ByteArray) (P : Nat → Prop) (A : Option Addr) (c : Nat) (l : List S45) (A2 : Option Addr) (n2 c2 : Nat) (name : ByteArray) (w : World) (hs : Kd.V k45 45 w w.heap.size P (.slice A l.length c) l) (hlim : l.length < 2513169434917) :
    Calls Try.prog 83 #[.agg #[.string nm0, .slice A l.length c, .slice A2 n2 c2], .string name] w fun e w' => ∃ v : Value, e = .returned v ∧ Kd.N k45 45 w' w.heap.size (fun k_ => P k_ ∨ w.heap.size ≤ k_) v (l.filter fun x => x.f0.toList == name.toList) ∧ Below w.heap.size w w' := by
  have HV := Aside0.mk hs
  clear hs
  have HB := Aside0.mk (Below.refl w.heap.size w)
  go_enter Try.func83, Try.ntmps83
  go_wp2_with (first | ((with_reducible refine gate_dst (N := 2) rfl ?_); refine box_event ?hg (N := 2) ?hd (cs := #[.string nm0, .slice A l.length c, .slice A2 n2 c2]) (t := 25) ?hr ?_; (case hd => rfl); (case hg => rfl); (case hr => first | (go_simp; done) | (go_simp; rfl)); intro gb2 hg w2 hbox hb; have GE2 := Aside0.mk (show w.heap.size ≤ gb2 by rw [hg]; exact HB.out.size); have BK2 := Aside0.mk hbox; replace HB := Aside0.mk (below_step HB.out hb); clear hbox hb hg; skip) | ((with_reducible refine gate_dst (N := 3) rfl ?_); refine box_event ?hg (N := 3) ?hd (cs := #[.string name]) (t := 9) ?hr ?_; (case hd => rfl); (case hg => rfl); (case hr => first | (go_simp; done) | (go_simp; rfl)); intro gb3 hg w3 hbox hb; have GE3 := Aside0.mk (show w.heap.size ≤ gb3 by rw [hg]; exact HB.out.size); have NB3_2 := Aside0.mk (show gb3 ≠ gb2 by have h1_ := blk_lt BK2.out; omega); replace BK2 := Aside0.mk (blk_below BK2.out hb); have BK3 := Aside0.mk hbox; replace HB := Aside0.mk (below_step HB.out hb); clear hbox hb hg; have HV3 := Aside0.mk (Kd.V_below HV.out HB.out); have f2_1 : w3.cell? ⟨gb2, 1, none⟩ = some (.slice A l.length c) := (blk_cell BK2.out 1).trans rfl; skip) | (go_at_call 95; refine (clone45 P A c l w3 HV3.out hlim).mono ?_; rintro e w4 ⟨v4, rfl, hn4, hb4⟩; clear f2_1; have HN4 := Aside0.mk hn4; have HW3 := Aside0.mk HB.out.size; have HW34 := Aside0.mk hb4.size; replace BK3 := Aside0.mk (blk_below BK3.out hb4); have HB4 := Aside0.mk (below_step HB.out hb4); clear hn4 hb4 HB) | (go_at_call 64; refine (deleteN 99 _ Try.func99 (by kernel_rfl) rfl #[.pointer (some ⟨gb3, 0, none⟩)] (fun s _ => s.toList != name.toList) w3.heap.size _ v4 l w4 HN4.out HW34.out (fun x _ A' n' c' W hW => propsN_calls name gb3 x.f0 A' n' c' x.f2 W ((hW.block gb3 (blk_lt BK3.out) (Kd.N_ne HN4.out BK3.out (by decide))).trans BK3.out))).mono ?_; rintro e w5 ⟨v5, rfl, hn5, hg5⟩; have HN5 := Aside0.mk hn5; have HG5 := Aside0.mk hg5; clear hn5 hg5))
  go_ret
  rw [show (fun x : S45 => x.f0.toList == name.toList) = (fun x : S45 => !(x.f0.toList != name.toList)) from funext fun x => by simp [bne]]
  exact ⟨_, rfl, Kd.N_mono (Kd.N_lower HN5.out HW3.out) (fun k hk => hk.imp id (fun h => Nat.le_trans HW3.out h)), below_ofN HB4.out HG5.out (fun k hk => Nat.le_trans HW3.out (Kd.N_base HN4.out k hk))⟩
def itip_without.f (k : Nat) (l0 : List (S45)) (a1 : ByteArray) : Option (List (S45)) := if l0.length < 2513169434917 then some (l0.filter fun x => !(x.f0.toList == a1.toList)) else none
theorem itip_without.calls (k : Nat) (P0_ : Nat → Prop) (A0 : Option Addr) (c0 : Nat) (l0 : List (S45)) (a1 : ByteArray) (r : List (S45)) (w : World) (hs0 : Kd.V k45 45 w w.heap.size (fun k_ => P0_ k_) (.slice A0 l0.length c0) l0) (h : itip_without.f k l0 a1 = some r) :
    Calls Try.prog 66 #[.slice A0 l0.length c0, .string a1] w fun e w' => ∃ v0_ : Value, e = .returned (v0_) ∧ Kd.N k45 45 w' w.heap.size (fun k_ => (P0_ k_ ∨ w.heap.size ≤ k_)) v0_ r ∧ Below w.heap.size w w' := by
  unfold itip_without.f at h
  split at h
  case isFalse => cases h
  rename_i hc
  obtain rfl := Option.some.inj h
  exact itip_without_walk P0_ A0 c0 l0 a1 w hs0 hc
end Go.Proofs.Ytebmbfobmakheaa.PD
namespace Go.Proofs.Ytebmbfobmakheaa.PD
open Go.RowKit Go.Shelf Go.Proofs.YtebmbfobmakheaaW.PrintWords Go.Proofs.YtebmbfobmakheaaW.PrintLast Go.Proofs.YtebmbfobmakheaaW.PrintMore
attribute [local go_sem] isSome_setCell Oper.semAt_some wide_fn wide_depth
set_option linter.unusedVariables false
set_option linter.unusedSimpArgs false
abbrev attN : ByteArray := (⟨#[65, 84, 84, 69, 78, 68, 69, 69]⟩ : ByteArray)
def attOf (l : List S25) (i : Nat) : List S45 := (l.getD i z25).f1.filter fun x => x.f0.toList == attN.toList
def attP (l : List S25) : List S45 := (othI 0 l).flatMap (attOf l)
def EnP (y : S45) (ar : Array Value) (W : World) : Prop := ∃ (A : Option Addr) (c : Nat), ar = #[.agg #[.string y.f0, .slice A y.f1.length c, .string y.f2]] ∧ y.f1.length ≤ c ∧ Kd.C k77 W A y.f1.length y.f1
theorem roundIn_any {m m' l l' : Nat} {P : Program} {fn : FuncId} {tmps : Array Value} {assign body : Code} {w : World} {R : Ending → World → Prop} (h : RoundIn Fence.wide m P l fn tmps assign body w R) : RoundIn (Fence.wide.inRound l') m' P l fn tmps assign body w R :=
  ⟨trivial, fun c cs _ => h.2 c cs (room_wide _)⟩
theorem OwnZ.up {β : Type} {Z : Nat → Prop} {B B' : Nat} {J : β → World → Prop} (h : OwnZ Z B J) (hB : B ≤ B') : OwnZ Z B' J := fun s X Y row hs hg hr => h s X Y row hs hg (fun r e => (hr r e).imp id (fun h => ⟨by omega, h.2⟩))
theorem below_own {w0 X Y : World} {B : Nat} {row : Option Nat} (hb : Below w0.heap.size w0 X) (hB : w0.heap.size ≤ B) (hg : X.grownBy Y row) (hr : ∀ r, row = some r → NoZ r ∨ (B ≤ r ∧ ∃ o : Obj, X.heap[r]? = some o ∧ o.isCells = false)) : Below w0.heap.size w0 Y :=
  ⟨hg.os.trans hb.os, hg.tape.trans hb.tape, hg.output.trans hb.output, Nat.le_trans hb.size hg.size, fun k hk => (hg.block k (Nat.lt_of_lt_of_le hk hb.size) (fun e => by
    rcases hr k e.symm with h | h
    · exact h
    · have := h.1; omega)).trans (hb.block k hk)⟩
theorem cell_own {X Y : World} {B S : Nat} {cs : Array Value} {t : TypeId} {row : Option Nat} (hb : X.heap[S]? = some (.cells cs t (0, 0))) (hg : X.grownBy Y row) (hr : ∀ r, row = some r → NoZ r ∨ (B ≤ r ∧ ∃ o : Obj, X.heap[r]? = some o ∧ o.isCells = false)) : Y.heap[S]? = some (.cells cs t (0, 0)) :=
  (hg.block S (Array.getElem?_eq_some_iff.1 hb).1 (fun e2 => by
    rcases hr S e2.symm with h1 | ⟨_, o, h2, h3⟩
    · exact h1
    · rw [hb] at h2; cases h2; cases h3)).trans hb
def flatA (l : List S25) (pre : List (CC × Nat)) : List S45 := pre.flatMap fun p => attOf l p.2
theorem flatA_all (l : List S25) (L : List CC) (h : (othersF 0 L).map Prod.snd = othI 0 l) : flatA l (othersF 0 L) = attP l := by
  unfold flatA attP
  rw [← h, List.flatMap_map]
theorem flatA_snoc (l : List S25) (pre : List (CC × Nat)) (x : CC × Nat) : flatA l (pre ++ [x]) = flatA l pre ++ attOf l x.2 := by unfold flatA; rw [List.flatMap_append]; simp
theorem flatA_pre (l : List S25) {pre xs : List (CC × Nat)} (h : pre <+: xs) : flatA l pre <+: flatA l xs := by
  obtain ⟨r, rfl⟩ := h
  unfold flatA
  rw [List.flatMap_append]
  exact List.prefix_append _ _
set_option maxRecDepth 100000 in
set_option maxHeartbeats 8000000 in
theorem att_in {Own : World → Nat → Prop} (A : Option Addr) (c : Nat) (l : List S25) (w0 : World) (hC : Kd.C k25 w0 A l.length l) (hlim : ∀ x ∈ l, x.f1.length < 2513169434917) (nm : ByteArray) (A1 : Option Addr) (n1 c1 yl Cb : Nat) (J Jx : List S45 → World → Prop) (W : World) (hJ : OwnZ NoZ W.heap.size J) (hJx : OwnZ NoZ W.heap.size Jx)
    (hR : ∀ pre W1, J pre W1 → Below w0.heap.size w0 W1) (hSJ : OwnS NoZ Own W.heap.size J) (hSX : OwnS NoZ Own W.heap.size Jx)
    (hY : ∀ pre x ar W1, J pre W1 → pre ++ [x] <+: attP l → EnP x ar W1 → YieldAt Fence.wide 50 Try.prog yl ar W1 fun e W' => ((e = .returned (.bool true) ∧ J (pre ++ [x]) W') ∨ (e = .returned (.bool false) ∧ Jx (pre ++ [x]) W')) ∧ Below w0.heap.size W1 W' ∧ SameZ NoZ W1 W' ∧ KO Own W.heap.size W1 W')
    (hO : W.heap[Cb]? = some (.cells #[.string nm, .slice A1 n1 c1, .slice A l.length c] 25 (0, 0))) (h0 : J [] W) :
    CallsIn Fence.wide 51 Try.prog 82 #[.func (.yield yl) #[] #[], .pointer (some ⟨Cb, 0, none⟩)] W fun e W' => (∃ v, e = .returned v) ∧ (J (attP l) W' ∨ ∃ pre, pre <+: attP l ∧ Jx pre W') := by
  have hml : l.length ≤ 9223372036854775807 := by have := hC.2.1; unfold maxLen at this; omega
  obtain ⟨L, hLl, hOk, hRd⟩ := cc_of hC
  have HOK := Aside0.mk hOk
  have HRD := Aside0.mk hRd
  have hmap := oth_map L l 0 hLl (fun j hi hj => (hOk j hi hj).1)
  have HMAP := Aside0.mk hmap
  have HYd := Aside0.mk hY
  have HJ := Aside0.mk hJ
  have HJX := Aside0.mk hJx
  have HRb := Aside0.mk hR
  have HSJ := Aside0.mk hSJ
  have HSX := Aside0.mk hSX
  have H0 := Aside0.mk h0
  have HLIM := Aside0.mk hlim
  have hW0 := (hR [] W h0).size
  have o1 := blk_alloc hO (.cells #[.func (.yield yl) #[] #[]] 73)
  have u0 : (W.alloc (.cells #[.func (.yield yl) #[] #[]] 73)).cell? ⟨Cb, 0, none⟩ = some (.string nm) := (blk_cell o1 0).trans rfl
  have u1 : (W.alloc (.cells #[.func (.yield yl) #[] #[]] 73)).cell? ⟨Cb, 1, none⟩ = some (.slice A1 n1 c1) := (blk_cell o1 1).trans rfl
  have u2 : (W.alloc (.cells #[.func (.yield yl) #[] #[]] 73)).cell? ⟨Cb, 2, none⟩ = some (.slice A l.length c) := (blk_cell o1 2).trans rfl
  clear hC hOk hRd hmap hY hJ hJx hR h0 hlim hO o1 hSJ hSX
  refine callsIn_of_wp_marks Try.func82 rfl trivial ?_ rfl
  simp only [Try.ntmps82, List.size_toArray, List.length_cons, List.length_nil, Nat.reduceAdd, Nat.reduceSub, Array.replicate_succ, Array.replicate_zero, List.push_toArray, List.append_toArray, List.nil_append, List.cons_append]
  gi_wp2
  gi_at_call 41
  refine (callsIn_wide.2 (comps_made nm A1 n1 c1 A l.length c _)).mono ?_
  rintro e w4 ⟨rfl, rfl⟩
  gi_wp2
  obtain ⟨V, hVe⟩ : ∃ V, (W.alloc (.cells #[.func (.yield yl) #[] #[]] 73)).alloc (.cells #[.string nm, .slice A1 n1 c1, .slice A l.length c] 25) = V := ⟨_, rfl⟩
  have hz : V.heap.size = W.heap.size + 2 := by rw [← hVe]; simp
  have q1 : V.heap[W.heap.size + 1]? = some (.cells #[.string nm, .slice A1 n1 c1, .slice A L.length c] 25 (0, 0)) := by
    have := heap_alloc_new (W.alloc (.cells #[.func (.yield yl) #[] #[]] 73)) (.cells #[.string nm, .slice A1 n1 c1, .slice A l.length c] 25)
    rw [World.size_alloc, hVe] at this
    rw [hLl]
    exact this
  have q2 : V.heap[W.heap.size]? = some (.cells #[.func (.yield yl) #[] #[]] 73 (0, 0)) := by rw [← hVe]; exact blk_alloc (heap_alloc_new W _) _
  have hbV : Below W.heap.size W V := by rw [← hVe]; exact below_alloc (below_alloc (Below.refl _ _) _) _
  have HJV := Aside0.mk (HJ.out.below H0.out hbV)
  have HOW := Aside0.mk (fun (k : Nat) (hk : Own V k) => HSJ.out.2 _ _ H0.out k (HSJ.out.below H0.out hbV k hk))
  rw [hVe]
  clear hVe u0 u1 u2
  have hLm : L.length ≤ 9223372036854775807 := by omega
  refine range_z (n₀ := w0.heap.size) (Z := NoZ) (gf := 79) (lb := #[.pointer (some ⟨W.heap.size + 1, 0, none⟩)]) (En := fun x ar _ => ar = encC x) (xs := othersF 0 L) (Rd := fun pre W => RdAt A L (nextI pre) W) (Own := Own) rfl (enters_of Try.func79 (by kernel_rfl) rfl) (by omega) (fun b hb => hb.elim)
    (fun l' J' Jx' W' hW' hJ' hJx' hRd' _ _ hY' h0' => (callsIn_wide (n := 51)).1 (comps_in A c L hLm nm A1 n1 c1 l' (W.heap.size + 1) w0.heap.size J' Jx' W' hJ' hRd' (fun pre x W1 h1 h2 => hY' pre x _ W1 h1 h2 rfl) ((hW'.block (W.heap.size + 1) (by omega)).trans q1) h0')) (fun x ar _ e => by rw [e]; rfl)
    (fun pre W1 => J (flatA l pre) W1 ∧ W1.heap[W.heap.size]? = some (.cells #[.func (.yield yl) #[] #[]] 73 (0, 0)) ∧ ∀ k, Own W1 k → k < W.heap.size ∨ V.heap.size ≤ k)
    (fun pre W1 h => HRD.out.below (HRb.out _ _ h.1) (Nat.zero_le _))
    (fun cd pre W1 => cd = .ret ∧ ∃ pre', pre' <+: attP l ∧ Jx pre' W1)
    (fun s X Y row hs hg hr => ⟨HJ.out.up (show W.heap.size ≤ V.heap.size by omega) _ X Y row hs.1 hg hr, cell_own hs.2.1 hg hr, fun k hk => hs.2.2 k (HSJ.out.1 _ X Y row hs.1 hg (fun r e => (hr r e).imp id (fun h => ⟨by have := h.1; omega, h.2⟩)) k hk)⟩)
    (fun cd s X Y row h hg hr => by
      obtain ⟨hc, pre', hp, hj⟩ := h
      exact ⟨hc, pre', hp, HJX.out.up (show W.heap.size ≤ V.heap.size by omega) _ X Y row hj hg hr⟩)
    ⟨fun s X Y row hs hg hr => HSJ.out.1 _ X Y row hs.1 hg (fun r e => (hr r e).imp id (fun h => ⟨by have := h.1; omega, h.2⟩)), fun s X hs => HSJ.out.2 _ X hs.1⟩
    (fun cd => ⟨fun s X Y row h hg hr => by
      obtain ⟨hc, pre', hp, hj⟩ := h
      exact HSX.out.1 _ X Y row hj hg (fun r e => (hr r e).imp id (fun h => ⟨by have := h.1; omega, h.2⟩)), fun s X h => by
      obtain ⟨hc, pre', hp, hj⟩ := h
      exact HSX.out.2 _ X hj⟩) ⟨HJV.out, q2, fun k hk => .inl (HOW.out k hk)⟩
    (fun x a' W1 => ∃ G, V.heap.size ≤ G ∧ a' = { tmps := #[.func (.yield yl) #[] #[], .pointer (some ⟨Cb, 0, none⟩), .pointer (some ⟨W.heap.size, 0, none⟩), undef, .pointer (some ⟨G, 0, none⟩), undef, undef, .agg #[.string nm, .slice A1 n1 c1, .slice A l.length c], .func (.func 79) #[] #[.pointer (some ⟨W.heap.size + 1, 0, none⟩)], .int .i64 x.2, x.1.enc, undef, undef, undef, undef, undef, undef, undef, undef, undef, undef, undef, undef], defers := [] } ∧ W1.heap[G]? = some (.cells x.1.cells 25 (0, 0)))
    (fun x a' _ X Y row h hg hr => by
      obtain ⟨G, hG, e, hb⟩ := h
      exact ⟨G, hG, e, cell_own hb hg hr⟩) ?assign ?body ?done ?stop
  case assign =>
    rintro l' pre x ar W1 K hI hpx rfl hW hK
    gi_wp2
    have hb : Below W1.heap.size W1 (W1.alloc (.cells x.1.cells 25)) := below_alloc (Below.refl _ _) _
    refine hK _ _ ((kf_below hb).koS (HSJ.out.below hI.1 hb)) (hb.mono (HRb.out _ _ hI.1).size) (fun _ h => h.elim) ⟨HJ.out.below hI.1 hb, blk_alloc hI.2.1 _, fun k hk => hI.2.2 k (HSJ.out.below hI.1 hb k hk)⟩ ⟨W1.heap.size, hW, by simp, heap_alloc_new W1 _⟩
  case body =>
    rintro l' pre x a' Wb ⟨hj, hyb, how⟩ hpx hWs ⟨G, hG, rfl, hb⟩
    obtain ⟨hxi, hxe⟩ := oth_at (p := x) (hpx.subset (List.mem_append_right _ List.mem_cons_self))
    have hxl : x.2 < l.length := by omega
    have hbw := HRb.out _ _ hj
    have hok := HOK.out x.2 hxi hxl
    rw [hxe] at hok
    obtain ⟨hk1, hk2, hk3, hk4, _⟩ := hok
    rw [hk2] at hk3
    have hgd : attOf l x.2 = l[x.2].f1.filter fun x => x.f0.toList == attN.toList := by unfold attOf; simp [hxl]
    have HVp := Aside0.mk (show Kd.V k45 45 Wb Wb.heap.size (fun k_ => k_ < w0.heap.size) (.slice x.1.a1 l[x.2].f1.length x.1.c1) l[x.2].f1 from Kd.V_mk hk3 (Foot.step (Kd.C_F k45_heap hk4) (fun k hk _ => hbw.block k hk)))
    have HLX := Aside0.mk (HLIM.out l[x.2] (List.getElem_mem hxl))
    have HJ1 := Aside0.mk hj
    have HYB := Aside0.mk hyb
    have HOWb := Aside0.mk how
    have HPX := Aside0.mk (flatA_pre l hpx)
    have g0 : Wb.cell? ⟨G, 0, none⟩ = some (.string x.1.s) := (blk_cell hb 0).trans rfl
    have g1 : Wb.cell? ⟨G, 1, none⟩ = some (.slice x.1.a1 x.1.n1 x.1.c1) := (blk_cell hb 1).trans rfl
    have g2 : Wb.cell? ⟨G, 2, none⟩ = some (.slice x.1.a2 x.1.n2 x.1.c2) := (blk_cell hb 2).trans rfl
    rw [hk2] at g1
    obtain ⟨m, hm⟩ : ∃ m, attOf l x.2 = m := ⟨_, rfl⟩
    rw [hm] at hgd
    have HM := Aside0.mk hm
    have HGD := Aside0.mk hgd
    have hbwz := hbw.size
    clear hj hyb how hpx hb hk1 hk2 hk3 hk4 hgd hxe hm hbw
    gi_wp2
    gi_at_call 83
    refine (CallsIn.inRound l' (callsIn_wide.2 (comp_Props_walk _ (fun k_ => k_ < w0.heap.size) _ _ l[x.2].f1 _ _ _ attN Wb HVp.out HLX.out))).mono ?_
    rintro e w5 ⟨v5, rfl, hn5, hb5⟩
    rw [← HGD.out] at hn5
    obtain ⟨A5, c5, e5⟩ := Kd.N_slice hn5
    subst e5
    have hmm : m.length ≤ 9223372036854775807 := by have := (Kd.N_reads' hn5).2.2.2.1; unfold maxLen at this; omega
    have HN5 := Aside0.mk (show Kd.N k45 45 w5 Wb.heap.size (fun k_ => k_ < w0.heap.size ∨ (Wb.heap.size ≤ k_ ∧ k_ < w5.heap.size)) (.slice A5 m.length c5) m from Kd.N_mono (Kd.N_bound hn5) (fun k hk => hk.1.imp id (fun h => ⟨h, hk.2⟩)))
    have hst5 := HSJ.out.below HJ1.out hb5
    have HO5 := Aside0.mk (show (∀ k, Own w5 k → k < W.heap.size ∨ V.heap.size ≤ k) ∧ ∀ k, Own w5 k → k < Wb.heap.size ∨ w5.heap.size ≤ k from ⟨fun k hk => HOWb.out k (hst5 k hk), fun k hk => .inl (HSJ.out.2 _ _ HJ1.out k (hst5 k hk))⟩)
    have HJ5 := Aside0.mk (HJ.out.below HJ1.out hb5)
    have HYB5 := Aside0.mk (blk_below HYB.out hb5)
    have HK5 := Aside0.mk ((kf_below (B := V.heap.size) hb5).koS hst5)
    have HB5 := Aside0.mk (hb5.mono hbwz)
    clear hn5 hb5 g0 g1 g2 HJ1 HYB hst5
    gi_wp2
    gi_loopw [14] (fun v wr => ∃ j : Nat, v = .int .i64 j ∧ j ≤ m.length ∧ Aside0 (J (flatA l pre ++ m.take j) wr) ∧ Aside0 (wr.heap[W.heap.size]? = some (.cells #[.func (.yield yl) #[] #[]] 73 (0, 0))) ∧ Aside0 (Kd.N k45 45 wr Wb.heap.size (fun k_ => k_ < w0.heap.size ∨ (Wb.heap.size ≤ k_ ∧ k_ < w5.heap.size)) (.slice A5 m.length c5) m) ∧ Aside0 ((∀ k, Own wr k → k < W.heap.size ∨ V.heap.size ≤ k) ∧ ∀ k, Own wr k → k < Wb.heap.size ∨ w5.heap.size ≤ k) ∧ w5.heap.size ≤ wr.heap.size ∧ Aside0 (KO Own V.heap.size Wb wr) ∧ Aside0 (Below w0.heap.size Wb wr)) (fun v _ => m.length - (intOf v).toNat)
    case atStart => exact ⟨0, rfl, Nat.zero_le _, ⟨by rw [List.take_zero, List.append_nil]; exact HJ5.out⟩, HYB5, HN5, HO5, Nat.le_refl _, HK5, HB5⟩
    case round =>
      clear HJ5 HYB5 HN5 HK5 HB5 HO5
      obtain ⟨j, rfl, hjl, HJr, HYr, HNr, HOr, hwr, HKr, HBr⟩ := hrel
      by_cases hlt : j < m.length
      · have hlt0 : decide ((j : Int) < (m.length : Int)) = true := decide_eq_true (by omega)
        obtain ⟨ad, A6, c6, e, hx0, hx1, hx2, hlc, hC6⟩ := at_T45 (Kd.N_reads' HNr.out).2.2 (j : Int) (by omega) (by omega)
        subst e
        have hget : rd_T45 m (j : Int) = m[j] := by simp [rd_T45, hlt]
        rw [hget] at hx0 hx1 hx2 hlc hC6
        simp only [Int.toNat_natCast] at hx0 hx1 hx2
        obtain ⟨y, hyy⟩ : ∃ y, m[j] = y := ⟨_, rfl⟩
        rw [hyy] at hx0 hx1 hx2 hlc hC6
        have hb6 : Below wr.heap.size wr (wr.alloc (.cells #[.string y.f0, .slice A6 y.f1.length c6, .string y.f2] 45)) := below_alloc (Below.refl _ _) _
        have HB6 := Aside0.mk hb6
        have HY6 := Aside0.mk (blk_below HYr.out hb6)
        have hst6 := HSJ.out.below HJr.out hb6
        have HO6 := Aside0.mk (And.intro (fun k hk => HOr.out.1 k (hst6 k hk)) (fun k hk => HOr.out.2 k (hst6 k hk)))
        have HK6 := Aside0.mk (HKr.out.trans ((kf_below hb6).koS hst6))
        clear hst6
        have uy : (wr.alloc (.cells #[.string y.f0, .slice A6 y.f1.length c6, .string y.f2] 45)).cell? ⟨W.heap.size, 0, none⟩ = some (.func (.yield yl) #[] #[]) := (blk_cell HY6.out 0).trans rfl
        have htk : m.take (j + 1) = m.take j ++ [y] := by rw [List.take_add_one, List.getElem?_eq_getElem hlt, hyy]; rfl
        have hpre : (flatA l pre ++ m.take j) ++ [y] <+: attP l := by
          have h1 := HPX.out
          rw [flatA_snoc, HM.out, flatA_all l L HMAP.out] at h1
          refine List.IsPrefix.trans ?_ h1
          rw [List.append_assoc, ← htk]
          exact (List.prefix_append_right_inj _).2 (List.take_prefix _ _)
        obtain ⟨fn, tmps, assign, body, hy, hRn⟩ := HYd.out _ y _ _ (HJ.out.below HJr.out hb6) hpre ⟨A6, c6, rfl, hlc, Kd.C_below hC6 hb6⟩
        have HRr := Aside0.mk hRn
        have HTK := Aside0.mk htk
        clear hRn hpre htk hb6 hlc hC6 hyy hget
        gi_wp2
        refine (roundIn_any HRr.out).mono ?_
        rintro e W4 ⟨⟨rfl, hJ4⟩ | ⟨rfl, hJx4⟩, hb4, hz4, hab4⟩
        · have HK4 := Aside0.mk (HK6.out.trans (hab4.mono (show W.heap.size ≤ V.heap.size by omega)))
          have HB4 := Aside0.mk ((HBr.out.trans (HB6.out.mono (Nat.le_trans hbwz HBr.out.size))).trans hb4)
          have HY4 := Aside0.mk (hab4.same _ _ (Nat.le_refl _) HY6.out (fun _ ho => by have := HO6.out.1 _ ho; omega))
          have hs6 := HB6.out.size
          have hs4 := hab4.size
          have HO4 := Aside0.mk (show (∀ k, Own W4 k → k < W.heap.size ∨ V.heap.size ≤ k) ∧ ∀ k, Own W4 k → k < Wb.heap.size ∨ w5.heap.size ≤ k from ⟨fun k hk => (hab4.own k hk).elim (HO6.out.1 k) (fun h => .inr (by have := HBr.out.size; omega)), fun k hk => (hab4.own k hk).elim (HO6.out.2 k) (fun h => .inr (by omega))⟩)
          have HN4 := Aside0.mk (Kd.N_step (Kd.N_below HNr.out HB6.out) (fun k hk hlt => by
            rcases hk with h | h
            · exact hb4.block k h
            · exact (hab4.same k _ (by have := HBr.out.size; omega) (Array.getElem?_eq_getElem hlt) (fun _ ho => by have := HO6.out.2 _ ho; omega)).trans (Array.getElem?_eq_getElem hlt).symm))
          clear hb4 hz4 hab4
          gi_wp2
          exact ⟨⟨j + 1, by simp, hlt, ⟨by rw [HTK.out, ← List.append_assoc]; exact hJ4⟩, HY4, HN4, HO4, by omega, HK4, HB4⟩, by show m.length - ((j : Int) + 1).toNat < m.length - (j : Int).toNat; omega⟩
        · have hpr : (flatA l pre ++ m.take j) ++ [y] <+: attP l := by
            have h1 := HPX.out
            rw [flatA_snoc, HM.out, flatA_all l L HMAP.out] at h1
            refine List.IsPrefix.trans ?_ h1
            rw [List.append_assoc, ← HTK.out]
            exact (List.prefix_append_right_inj _).2 (List.take_prefix _ _)
          have HPR := Aside0.mk hpr
          clear hpr
          gi_wp2
          exact ⟨HK6.out.trans (hab4.mono (show W.heap.size ≤ V.heap.size by omega)), (HBr.out.trans (HB6.out.mono (Nat.le_trans hbwz HBr.out.size))).trans hb4, fun _ h => h.elim, rfl, _, HPR.out, hJx4⟩
      · have hlt0 : decide ((j : Int) < (m.length : Int)) = false := decide_eq_false (by omega)
        gi_wp2
        refine ⟨HKr.out, HBr.out, fun _ h => h.elim, ?_, HYr.out, HOr.out.1⟩
        rw [flatA_snoc, HM.out]
        have h1 := HJr.out
        rw [List.take_of_length_le (by omega)] at h1
        exact h1
  case done =>
    rintro D2 W1 hD2 ⟨hj, hyb, how⟩ hK
    have HJ1 := Aside0.mk hj
    clear hj hyb how
    gi_wp2
    refine ⟨by simp, .inl ⟨_, _, rfl, run_takeDeferred hK, ?_⟩⟩
    refine ⟨_, results_none rfl _ _ _, ⟨_, rfl⟩, .inl ?_⟩
    have h1 := OwnZ.putObj HJ.out (.deferred none) HJ1.out (show W.heap.size ≤ D2 by omega) hK rfl
    rw [flatA_all l L HMAP.out] at h1
    exact h1
  case stop =>
    rintro D2 cd pre W1 hD2 hpre ⟨rfl, pre', hp, hj⟩ hK
    have HJ1 := Aside0.mk hj
    have HP1 := Aside0.mk hp
    clear hj hp
    gi_wp2
    refine ⟨by simp, .inl ⟨_, _, rfl, run_takeDeferred hK, ?_⟩⟩
    exact ⟨_, results_none rfl _ _ _, ⟨_, rfl⟩, .inr ⟨pre', HP1.out, OwnZ.putObj HJX.out (.deferred none) HJ1.out (show W.heap.size ≤ D2 by omega) hK rfl⟩⟩
end Go.Proofs.Ytebmbfobmakheaa.PD
namespace Go.Proofs.Ytebmbfobmakheaa.PD
open Go.RowKit Go.Proofs.YtebmbfobmakheaaW.PrintWords Go.Proofs.YtebmbfobmakheaaW.PrintLast Go.Proofs.YtebmbfobmakheaaW.PrintMore
attribute [local go_sem] isSome_setCell max2_int min2_int max_two min_two
set_option linter.unusedVariables false
set_option linter.unusedSimpArgs false
set_option maxRecDepth 100000 in
set_option maxHeartbeats 4000000 in
theorem itip_upper_walk (s : ByteArray) (w : World) (hs : s.size ≤ 140737488355328) :
    Calls Try.prog 61 #[.string s] w fun e w' => e = .returned (.string (mapB uppN s)) ∧ Below w.heap.size w w' := by
  have hcv := fun W => Lib.run_convert_string_bytes (P := Try.prog) W 9 70 5 s Try.underlying9 Try.underlying70 Try.underlying5
  have hB1 : Below w.heap.size w (Lib.bytesWorld w 5 s) := ⟨rfl, rfl, rfl, by rw [Lib.bytesWorld_size]; exact Nat.le_succ _, fun k hk => Lib.bytesWorld_at_old w 5 s k hk⟩
  have HB := Aside0.mk hB1
  clear hB1
  have HN := Aside0.mk (RowOf.new w s)
  go_enter Try.func61, Try.ntmps61
  go_wp2
  go_loopw [10] (fun v wr => ∃ k : Nat, v = .int .i64 k ∧ k ≤ s.size ∧ Aside0 (RowOf wr w.heap.size (stepK uppN s k)) ∧ Aside0 (Below w.heap.size w wr)) (fun v _ => s.size - (intOf v).toNat)
  case atStart => exact ⟨0, rfl, Nat.zero_le _, HN, HB⟩
  case round =>
    obtain ⟨k, rfl, hk, hrow, hb⟩ := hrel
    by_cases hlt : k < s.size
    · have hlt0 : decide ((k : Int) < (s.size : Int)) = true := decide_eq_true (by omega)
      have hsz := stepK_size uppN s k
      have hbk : byteN (stepK uppN s k) k = byteN s k := by rw [stepK_byte uppN uppN_lt s k hk, if_neg (by omega)]
      obtain ⟨hc, hf⟩ := hrow.out k (by omega)
      rw [hbk] at hc
      have q1 : (k : Int) < (s.size : Int) := by omega
      have q2 : (0 : Int) ≤ (k : Int) := by omega
      have hb256 := byteN_lt s k
      have hmeas : s.size - ((k : Int) + 1).toNat < s.size - (k : Int).toNat := by omega
      have hstep : stepK uppN s (k + 1) = setByte (stepK uppN s k) k (uppN (byteN s k)) := rfl
      have HS := Aside0.mk hstep
      clear hstep
      by_cases h1 : 97 ≤ byteN s k
      · by_cases h2 : byteN s k ≤ 122
        · have d1 : decide ((byteN s k : Int) ≥ 97) = true := decide_eq_true (by omega)
          have d2 : decide ((byteN s k : Int) ≤ 122) = true := decide_eq_true (by omega)
          have hfv : uppN (byteN s k) = byteN s k - 32 := by unfold uppN; rw [if_pos ⟨h1, h2⟩]
          have hr1 := hrow.out.set k (byteN s k - 32) (by omega) (by omega)
          rw [← hfv, ← HS.out] at hr1
          have hb1 := hb.out.setCell (p := ⟨w.heap.size, k, none⟩) (by show w.heap.size ≤ w.heap.size; exact Nat.le_refl _) (.int .u8 ((byteN s k : Int) - 32))
          rw [hfv, show ((byteN s k - 32 : Nat) : Int) = (byteN s k : Int) - 32 by omega] at hr1
          have HR1 := Aside0.mk hr1
          have HB1 := Aside0.mk hb1
          clear hr1 hb1
          go_wp2
          try go_roundw
          all_goals first | exact ⟨⟨k + 1, by simp, hlt, HR1, HB1⟩, hmeas⟩ | exact ⟨k + 1, by simp, hlt, HR1, HB1⟩ | exact hmeas
        · have d1 : decide ((byteN s k : Int) ≥ 97) = true := decide_eq_true (by omega)
          have d2 : decide ((byteN s k : Int) ≤ 122) = false := decide_eq_false (by omega)
          have hfv : stepK uppN s (k + 1) = stepK uppN s k := by rw [HS.out, show uppN (byteN s k) = byteN (stepK uppN s k) k by rw [hbk]; unfold uppN; rw [if_neg (by omega)], setByte_same _ _ (by omega)]
          go_wp2
          try go_roundw
          all_goals first | exact ⟨⟨k + 1, by simp, hlt, ⟨by rw [hfv]; exact hrow.out⟩, hb⟩, hmeas⟩ | exact ⟨k + 1, by simp, hlt, ⟨by rw [hfv]; exact hrow.out⟩, hb⟩ | exact hmeas
      · have d1 : decide ((byteN s k : Int) ≥ 97) = false := decide_eq_false (by omega)
        have hfv : stepK uppN s (k + 1) = stepK uppN s k := by rw [HS.out, show uppN (byteN s k) = byteN (stepK uppN s k) k by rw [hbk]; unfold uppN; rw [if_neg (by omega)], setByte_same _ _ (by omega)]
        go_wp2
        try go_roundw
        all_goals first | exact ⟨⟨k + 1, by simp, hlt, ⟨by rw [hfv]; exact hrow.out⟩, hb⟩, hmeas⟩ | exact ⟨k + 1, by simp, hlt, ⟨by rw [hfv]; exact hrow.out⟩, hb⟩ | exact hmeas
    · have hlt0 : decide ((k : Int) < (s.size : Int)) = false := decide_eq_false (by omega)
      have hkl : k = s.size := by omega
      have hst := hrow.out.string (grownCap w s.size 0 5)
      rw [stepK_size, hkl] at hst
      go_wp2
      go_ret
      exact ⟨rfl, hb.out⟩
end Go.Proofs.Ytebmbfobmakheaa.PD
namespace Go.Proofs.Ytebmbfobmakheaa.PD
open Go.RowKit Go.Proofs.YtebmbfobmakheaaW.PrintWords Go.Proofs.YtebmbfobmakheaaW.PrintLast Go.Proofs.YtebmbfobmakheaaW.PrintMore
attribute [local go_sem] isSome_setCell max2_int min2_int max_two min_two
set_option linter.unusedVariables false
set_option linter.unusedSimpArgs false
def firstB (l : List ByteArray) : ByteArray × Bool := match l with | [] => ((⟨#[]⟩ : ByteArray), false) | v :: _ => (v, true)
def paramP (l : List S77) (name : ByteArray) : ByteArray × Bool := match l.find? (fun x => x.f0.toList == name.toList) with | some x => firstB x.f1 | none => ((⟨#[]⟩ : ByteArray), false)
set_option maxRecDepth 100000 in
set_option maxHeartbeats 8000000 in
theorem line_Param_walk (nm0 : ByteArray) (A : Option Addr) (c : Nat) (l : List S77) (v0 name : ByteArray) (w : World) (hr : Kd.C k77 w A l.length l) :
    Calls Try.prog 60 #[.agg #[.string nm0, .slice A l.length c, .string v0], .string name] w fun e w' => e = .returned (.tuple #[.string (paramP l name).1, .bool (paramP l name).2]) ∧ Below w.heap.size w w' := by
  have HR := Aside0.mk hr
  have hml : l.length ≤ 9223372036854775807 := by have := hr.2.1; unfold maxLen at this; omega
  clear hr
  have HB := Aside0.mk (Below.refl w.heap.size w)
  rcases idx_find (fun x : S77 => x.f0.toList == name.toList) l with ⟨hi, hf⟩ | ⟨i, hi, he, hf⟩
  · have hP : paramP l name = ((⟨#[]⟩ : ByteArray), false) := by unfold paramP; rw [hf]
    rw [hP]
    have HI := Aside0.mk hi
    clear hP hf hi
    go_enter Try.func60, Try.ntmps60
    go_wp2_with (first | ((with_reducible refine gate_dst (N := 2) rfl ?_); refine box_event ?hg (N := 2) ?hd (cs := #[.string nm0, .slice A l.length c, .string v0]) (t := 45) ?hr ?_; (case hd => rfl); (case hg => rfl); (case hr => first | (go_simp; done) | (go_simp; rfl)); intro gb2 hg w2 hbox hb; have GE2 := Aside0.mk (show w.heap.size ≤ gb2 by rw [hg]; exact HB.out.size); have BK2 := Aside0.mk hbox; replace HB := Aside0.mk (below_step HB.out hb); clear hbox hb hg; skip) | ((with_reducible refine gate_dst (N := 3) rfl ?_); refine box_event ?hg (N := 3) ?hd (cs := #[.string name]) (t := 9) ?hr ?_; (case hd => rfl); (case hg => rfl); (case hr => first | (go_simp; done) | (go_simp; rfl)); intro gb3 hg w3 hbox hb; have GE3 := Aside0.mk (show w.heap.size ≤ gb3 by rw [hg]; exact HB.out.size); have NB3_2 := Aside0.mk (show gb3 ≠ gb2 by have h1_ := blk_lt BK2.out; omega); replace BK2 := Aside0.mk (blk_below BK2.out hb); have BK3 := Aside0.mk hbox; replace HB := Aside0.mk (below_step HB.out hb); clear hbox hb hg; have f2_1 : w3.cell? ⟨gb2, 1, none⟩ = some (.slice A l.length c) := (blk_cell BK2.out 1).trans rfl; skip) | (go_at_call 91; refine (index77 93 _ Try.func93 (by kernel_rfl) rfl #[.pointer (some ⟨gb3, 0, none⟩)] (fun x => x.f0.toList == name.toList) A c l w3 (Kd.C_below HR.out HB.out) (fun x hx A' c' W hW => paramN_calls name gb3 x.f0 A' x.f1.length c' W (blk_below BK3.out hW))).mono ?_; rw [HI.out]; rintro e w5 ⟨rfl, hb⟩; clear f2_1; replace BK2 := Aside0.mk (blk_below BK2.out hb); replace HB := Aside0.mk (below_step HB.out hb); clear hb; have f2_1 : w5.cell? ⟨gb2, 1, none⟩ = some (.slice A l.length c) := (blk_cell BK2.out 1).trans rfl; skip))
    go_ret2
    exact ⟨rfl, HB.out⟩
  · have hP : paramP l name = firstB l[i].f1 := by unfold paramP; rw [hf]
    rw [hP]
    clear hP
    have HI := Aside0.mk he
    have e0 : decide ((i : Int) < 0) = false := decide_eq_false (by omega)
    have p0 : (0 ≤ (i : Int)) = True := eq_true (by omega)
    have q0 : ((i : Int) < (l.length : Int)) = True := eq_true (by omega)
    obtain ⟨ad, A1, c1, ea, hx0, hx1, hlc, hC⟩ := at_T77 HR.out (i : Int) (by omega) (by omega)
    have hget : rd_T77 l (i : Int) = l[i] := by simp [rd_T77, hi]
    rw [hget] at hx0 hx1 hlc hC
    simp only [Int.toNat_natCast] at hx0 hx1
    subst ea
    have HX0 := Aside0.mk hx0
    have HX1 := Aside0.mk hx1
    clear hf he hget hx0 hx1
    cases hv : l[i].f1 with
    | nil =>
      have e1 : decide ((l[i].f1.length : Int) = 0) = true := decide_eq_true (by rw [hv]; rfl)
      rw [hv] at HX1 e1
      go_enter Try.func60, Try.ntmps60
      go_wp2_with (first | ((with_reducible refine gate_dst (N := 2) rfl ?_); refine box_event ?hg (N := 2) ?hd (cs := #[.string nm0, .slice (some ad) l.length c, .string v0]) (t := 45) ?hr ?_; (case hd => rfl); (case hg => rfl); (case hr => first | (go_simp; done) | (go_simp; rfl)); intro gb2 hg w2 hbox hb; have GE2 := Aside0.mk (show w.heap.size ≤ gb2 by rw [hg]; exact HB.out.size); have BK2 := Aside0.mk hbox; replace HB := Aside0.mk (below_step HB.out hb); clear hbox hb hg; skip) | ((with_reducible refine gate_dst (N := 3) rfl ?_); refine box_event ?hg (N := 3) ?hd (cs := #[.string name]) (t := 9) ?hr ?_; (case hd => rfl); (case hg => rfl); (case hr => first | (go_simp; done) | (go_simp; rfl)); intro gb3 hg w3 hbox hb; have GE3 := Aside0.mk (show w.heap.size ≤ gb3 by rw [hg]; exact HB.out.size); have NB3_2 := Aside0.mk (show gb3 ≠ gb2 by have h1_ := blk_lt BK2.out; omega); replace BK2 := Aside0.mk (blk_below BK2.out hb); have BK3 := Aside0.mk hbox; replace HB := Aside0.mk (below_step HB.out hb); clear hbox hb hg; have f2_1 : w3.cell? ⟨gb2, 1, none⟩ = some (.slice (some ad) l.length c) := (blk_cell BK2.out 1).trans rfl; skip) | (go_at_call 91; refine (index77 93 _ Try.func93 (by kernel_rfl) rfl #[.pointer (some ⟨gb3, 0, none⟩)] (fun x => x.f0.toList == name.toList) (some ad) c l w3 (Kd.C_below HR.out HB.out) (fun x hx A' c' W hW => paramN_calls name gb3 x.f0 A' x.f1.length c' W (blk_below BK3.out hW))).mono ?_; rw [HI.out]; rintro e w5 ⟨rfl, hb⟩; clear f2_1; replace BK2 := Aside0.mk (blk_below BK2.out hb); replace HB := Aside0.mk (below_step HB.out hb); clear hb; have f2_1 : w5.cell? ⟨gb2, 1, none⟩ = some (.slice (some ad) l.length c) := (blk_cell BK2.out 1).trans rfl; have hx0 := (HB.out.cell (World.block_lt_of_cell? w _ HX0.out)).trans HX0.out; have hx1 := (HB.out.cell (World.block_lt_of_cell? w _ HX1.out)).trans HX1.out; skip))
      go_ret2
      exact ⟨rfl, HB.out⟩
    | cons v vs =>
      have e1 : decide ((l[i].f1.length : Int) = 0) = false := decide_eq_false (by rw [hv]; simp only [List.length_cons]; omega)
      rw [hv] at HX1 e1 hC
      obtain ⟨ad1, ea1, hy0⟩ := Kd.at_string hC (0 : Int) (by omega) (by simp only [List.length_cons]; omega)
      subst ea1
      have hg0 : rdOf ByteArray.empty (v :: vs) (0 : Int) = v := rfl
      rw [show ad1.add ((0 : Int).toNat) = ad1 by cases ad1; rfl, hg0] at hy0
      have HY := Aside0.mk hy0
      clear hy0
      go_enter Try.func60, Try.ntmps60
      go_wp2_with (first | ((with_reducible refine gate_dst (N := 2) rfl ?_); refine box_event ?hg (N := 2) ?hd (cs := #[.string nm0, .slice (some ad) l.length c, .string v0]) (t := 45) ?hr ?_; (case hd => rfl); (case hg => rfl); (case hr => first | (go_simp; done) | (go_simp; rfl)); intro gb2 hg w2 hbox hb; have GE2 := Aside0.mk (show w.heap.size ≤ gb2 by rw [hg]; exact HB.out.size); have BK2 := Aside0.mk hbox; replace HB := Aside0.mk (below_step HB.out hb); clear hbox hb hg; skip) | ((with_reducible refine gate_dst (N := 3) rfl ?_); refine box_event ?hg (N := 3) ?hd (cs := #[.string name]) (t := 9) ?hr ?_; (case hd => rfl); (case hg => rfl); (case hr => first | (go_simp; done) | (go_simp; rfl)); intro gb3 hg w3 hbox hb; have GE3 := Aside0.mk (show w.heap.size ≤ gb3 by rw [hg]; exact HB.out.size); have NB3_2 := Aside0.mk (show gb3 ≠ gb2 by have h1_ := blk_lt BK2.out; omega); replace BK2 := Aside0.mk (blk_below BK2.out hb); have BK3 := Aside0.mk hbox; replace HB := Aside0.mk (below_step HB.out hb); clear hbox hb hg; have f2_1 : w3.cell? ⟨gb2, 1, none⟩ = some (.slice (some ad) l.length c) := (blk_cell BK2.out 1).trans rfl; skip) | (go_at_call 91; refine (index77 93 _ Try.func93 (by kernel_rfl) rfl #[.pointer (some ⟨gb3, 0, none⟩)] (fun x => x.f0.toList == name.toList) (some ad) c l w3 (Kd.C_below HR.out HB.out) (fun x hx A' c' W hW => paramN_calls name gb3 x.f0 A' x.f1.length c' W (blk_below BK3.out hW))).mono ?_; rw [HI.out]; rintro e w5 ⟨rfl, hb⟩; clear f2_1; replace BK2 := Aside0.mk (blk_below BK2.out hb); replace HB := Aside0.mk (below_step HB.out hb); clear hb; have f2_1 : w5.cell? ⟨gb2, 1, none⟩ = some (.slice (some ad) l.length c) := (blk_cell BK2.out 1).trans rfl; have hx0 := (HB.out.cell (World.block_lt_of_cell? w _ HX0.out)).trans HX0.out; have hx1 := (HB.out.cell (World.block_lt_of_cell? w _ HX1.out)).trans HX1.out; have hy0 := (HB.out.cell (World.block_lt_of_cell? w _ HY.out)).trans HY.out))
      go_ret2
      exact ⟨rfl, HB.out⟩
end Go.Proofs.Ytebmbfobmakheaa.PD
namespace Go.Proofs.Ytebmbfobmakheaa.PD
open Go.RowKit Go.Shelf Go.Proofs.YtebmbfobmakheaaW.PrintWords Go.Proofs.YtebmbfobmakheaaW.PrintLast Go.Proofs.YtebmbfobmakheaaW.PrintMore
attribute [local go_sem] isSome_setCell Oper.semAt_some wide_fn wide_depth
set_option linter.unusedVariables false
set_option linter.unusedSimpArgs false
theorem rows_cells {α : Type} {R R' : α → List Value → Prop} {sz : Nat} {X Y : World} {A : Option Addr} {n : Nat} {xs : List α} (h : ReadsRow R sz X A n xs) (hc : ∀ p u, X.cell? p = some u → Y.cell? p = some u) (hR : ∀ x cs, R x cs → R' x cs) : ReadsRow R' sz Y A n xs :=
  ⟨h.1, h.2.1, fun hn => by
    obtain ⟨ad, e, hj⟩ := h.2.2 hn
    refine ⟨ad, e, fun j p hp => ?_⟩
    obtain ⟨c, hl, hr, hh⟩ := hj j p hp
    exact ⟨c, hl, hR _ _ hr, fun i u hu => hc _ _ (hh i u hu)⟩⟩
theorem C77_cells {X Y : World} {A : Option Addr} {n : Nat} {xs : List S77} (h : Kd.C k77 X A n xs) (hc : ∀ p u, X.cell? p = some u → Y.cell? p = some u) : Kd.C k77 Y A n xs :=
  rows_cells h hc (fun x cs hk => by
    obtain ⟨A1, c1, rfl, hl, hC⟩ := k77_open hk
    exact k77_mk Y x hl (rows_cells hC hc (fun _ _ h => h)))
theorem cells_own {X Y : World} {B : Nat} {row : Option Nat} (hg : X.grownBy Y row) (hr : ∀ r, row = some r → NoZ r ∨ (B ≤ r ∧ ∃ o : Obj, X.heap[r]? = some o ∧ o.isCells = false)) (p : Addr) (u : Value) (h : X.cell? p = some u) : Y.cell? p = some u := by
  have hl := World.block_lt_of_cell? X _ h
  refine (World.cell?_of_block (hg.block p.block hl (fun e => ?_))).trans h
  rcases hr p.block e.symm with h1 | ⟨_, o, h2, h3⟩
  · exact h1
  · unfold World.cell? at h
    rw [h2] at h
    cases o <;> simp_all [Obj.isCells]
theorem atts_made (nm : ByteArray) (A1 : Option Addr) (n1 c1 : Nat) (A2 : Option Addr) (n2 c2 : Nat) (w : World) :
    Calls Try.prog 45 #[.agg #[.string nm, .slice A1 n1 c1, .slice A2 n2 c2]] w fun e w' => e = .returned (.func (.func 82) #[] #[.pointer (some ⟨w.heap.size, 0, none⟩)]) ∧ w' = w.alloc (.cells #[.string nm, .slice A1 n1 c1, .slice A2 n2 c2] 25) := by
  go_enter Try.func45, Try.ntmps45
  go_wp2
  go_ret
  exact ⟨rfl, rfl⟩
def answerP (x : S45) : ByteArray := if (paramP x.f1 (⟨#[80, 65, 82, 84, 83, 84, 65, 84]⟩ : ByteArray)).2 = true then mapB uppN (paramP x.f1 (⟨#[80, 65, 82, 84, 83, 84, 65, 84]⟩ : ByteArray)).1 else (⟨#[78, 69, 69, 68, 83, 45, 65, 67, 84, 73, 79, 78]⟩ : ByteArray)
def statusP (l : List S25) (addr : ByteArray) : ByteArray := match (attP l).find? (fun x => alikeB x.f2 addr) with | some x => answerP x | none => (⟨#[]⟩ : ByteArray)
def okA (x : S45) : Prop := shortB x.f2 = true ∧ shortB (paramP x.f1 (⟨#[80, 65, 82, 84, 83, 84, 65, 84]⟩ : ByteArray)).1 = true
theorem results20 (tmps : Array Value) (w : World) (S : Nat) (t : ByteArray) (h2 : tmps.getD 4 undef = .pointer (some ⟨S, 0, none⟩)) (q : w.heap[S]? = some (.cells #[.string t] 9 (0, 0))) : (results Try.f20 tmps).run Try.prog w = .ok (.string t) w := by
  have d2 := (blk_cell q 0).trans rfl
  unfold results
  rw [show Try.f20.results = [ResultVar.cell 4 9].toArray from rfl, List.mapM_toArray]
  simp only [Sem.run_bind, Sem.run_map, List.mapM_cons, List.mapM_nil, h2]
  simp [asAddr, loadVar, go_sem, d2, Try.underlying9]
def Os (w : World) (addr t : ByteArray) (W : World) : Prop := W.heap[w.heap.size + 1]? = some (.cells #[.string addr] 9 (0, 0)) ∧ Og w (w.heap.size + 2) t W
theorem os_own {β : Type} (w : World) (B : Nat) (hB : w.heap.size + 2 < B) (addr t : ByteArray) (p : β → Prop) : OwnZ NoZ B (fun (s : β) W => p s ∧ Os w addr t W) := fun s X Y row hs hg hr =>
  ⟨hs.1, cell_own hs.2.1 hg hr, (og_own w B (w.heap.size + 2) hB (by omega) t (fun _ : Unit => True) () X Y row ⟨trivial, hs.2.2⟩ hg hr).2⟩
set_option maxRecDepth 100000 in
set_option maxHeartbeats 8000000 in
theorem status_walk (nm : ByteArray) (A1 : Option Addr) (n1 c1 : Nat) (A : Option Addr) (c : Nat) (l : List S25) (addr : ByteArray) (w : World) (hr : Kd.C k25 w A l.length l) (hlim : ∀ x ∈ l, x.f1.length < 2513169434917) (hok : ∀ x ∈ attP l, okA x) (ha : shortB addr = true) :
    Calls Try.prog 20 #[.agg #[.string nm, .slice A1 n1 c1, .slice A l.length c], .string addr] w fun e w' => e = .returned (.string (statusP l addr)) ∧ Below w.heap.size w w' := by
  have HR := Aside0.mk hr
  have HLIM := Aside0.mk hlim
  have HOK := Aside0.mk hok
  clear hr hlim hok
  have HV : Aside0 (Os w addr (⟨#[]⟩ : ByteArray) (((w.alloc (.cells #[.string nm, .slice A1 n1 c1, .slice A l.length c] 25)).alloc (.cells #[.string addr] 9)).alloc (.cells #[.string (⟨#[]⟩ : ByteArray)] 9))) := ⟨by
      have := heap_alloc_new (w.alloc (.cells #[.string nm, .slice A1 n1 c1, .slice A l.length c] 25)) (.cells #[.string addr] 9)
      rw [World.size_alloc] at this
      exact blk_alloc this _, by
      have := heap_alloc_new ((w.alloc (.cells #[.string nm, .slice A1 n1 c1, .slice A l.length c] 25)).alloc (.cells #[.string addr] 9)) (.cells #[.string (⟨#[]⟩ : ByteArray)] 9)
      rw [World.size_alloc, World.size_alloc] at this
      exact this, below_alloc (below_alloc (below_alloc (Below.refl _ _) _) _) _⟩
  refine (callsIn_wide (n := 51)).1 ?_
  refine callsIn_of_wp_marks Try.func20 rfl trivial ?_ rfl
  simp only [Try.ntmps20, List.size_toArray, List.length_cons, List.length_nil, Nat.reduceAdd, Nat.reduceSub, Array.replicate_succ, Array.replicate_zero, List.push_toArray, List.append_toArray, List.nil_append, List.cons_append]
  gi_wp2
  gi_at_call 45
  refine (callsIn_wide.2 (atts_made nm A1 n1 c1 A l.length c _)).mono ?_
  rintro e w4 ⟨rfl, rfl⟩
  gi_wp2
  obtain ⟨V, hVe⟩ : ∃ V, (((w.alloc (.cells #[.string nm, .slice A1 n1 c1, .slice A l.length c] 25)).alloc (.cells #[.string addr] 9)).alloc (.cells #[.string (⟨#[]⟩ : ByteArray)] 9)).alloc (.cells #[.string nm, .slice A1 n1 c1, .slice A l.length c] 25) = V := ⟨_, rfl⟩
  have hz : V.heap.size = w.heap.size + 4 := by rw [← hVe]; simp
  have q1 : V.heap[w.heap.size + 3]? = some (.cells #[.string nm, .slice A1 n1 c1, .slice A l.length c] 25 (0, 0)) := by
    have := heap_alloc_new (((w.alloc (.cells #[.string nm, .slice A1 n1 c1, .slice A l.length c] 25)).alloc (.cells #[.string addr] 9)).alloc (.cells #[.string (⟨#[]⟩ : ByteArray)] 9)) (.cells #[.string nm, .slice A1 n1 c1, .slice A l.length c] 25)
    rw [World.size_alloc, World.size_alloc, World.size_alloc, hVe] at this
    exact this
  have HOG := Aside0.mk (show Os w addr (⟨#[]⟩ : ByteArray) V from by rw [← hVe]; exact ⟨blk_alloc HV.out.1 _, blk_alloc HV.out.2.1 _, below_alloc HV.out.2.2 _⟩)
  try rw [show w.heap.size + 1 + 1 + 1 = w.heap.size + 3 from rfl]
  try rw [show w.heap.size + 1 + 1 = w.heap.size + 2 from rfl]
  rw [hVe]
  clear hVe HV
  refine range_z (n₀ := w.heap.size) (Z := NoZ) (gf := 82) (lb := #[.pointer (some ⟨w.heap.size + 3, 0, none⟩)]) (En := EnP) (xs := attP l) (Rd := fun _ W => Below w.heap.size w W) (Own := fun _ _ => False) rfl (enters_of Try.func82 (by kernel_rfl) rfl) (by omega) (fun b hb => hb.elim)
    (fun l' J Jx W hW hJ hJx hRd hSa hSb hY h0 => (callsIn_wide (n := 51)).1 (att_in A c l w HR.out HLIM.out nm A1 n1 c1 l' (w.heap.size + 3) J Jx W hJ hJx hRd hSa hSb hY ((hW.block (w.heap.size + 3) (by omega)).trans q1) h0)) (fun x ar _ e => by obtain ⟨_, _, e, _⟩ := e; rw [e]; rfl)
    (fun pre W => (∀ p ∈ pre, alikeB p.f2 addr = false) ∧ Os w addr (⟨#[]⟩ : ByteArray) W)
    (fun pre W h => h.2.2.2)
    (fun cd pre W => (cd = .ret ∧ ∃ y, (attP l).find? (fun x => alikeB x.f2 addr) = some y ∧ Os w addr (answerP y) W))
    (os_own w _ (by omega) _ _ _) (fun cd => fun s X Y row h hg hr => by obtain ⟨hc, i, hi, ho⟩ := h; exact ⟨hc, i, hi, (os_own w V.heap.size (by omega) _ _ (fun _ : Unit => True) () X Y row ⟨trivial, ho⟩ hg hr).2⟩) (OwnS.none _ _ _) (fun _ => OwnS.none _ _ _) ⟨fun p hp => (by cases hp), HOG.out⟩
    (fun x a' W => ∃ G Ax cx, w.heap.size + 4 ≤ G ∧ a' = { tmps := #[.agg #[.string nm, .slice A1 n1 c1, .slice A l.length c], .string addr, .pointer (some ⟨w.heap.size, 0, none⟩), .pointer (some ⟨w.heap.size + 1, 0, none⟩), .pointer (some ⟨w.heap.size + 2, 0, none⟩), .pointer (some ⟨G, 0, none⟩), undef, undef, .agg #[.string nm, .slice A1 n1 c1, .slice A l.length c], .func (.func 82) #[] #[.pointer (some ⟨w.heap.size + 3, 0, none⟩)], .agg #[.string x.f0, .slice Ax x.f1.length cx, .string x.f2], undef, undef, undef, undef, undef, undef, undef, undef, undef, undef, undef, undef, undef], defers := [] } ∧ W.heap[G]? = some (.cells #[.string x.f0, .slice Ax x.f1.length cx, .string x.f2] 45 (0, 0)) ∧ Kd.C k77 W Ax x.f1.length x.f1)
    (fun x a' _ X Y row h hg hr => by
      obtain ⟨G, Ax, cx, hG, e, hb, hC⟩ := h
      exact ⟨G, Ax, cx, hG, e, cell_own hb hg hr, C77_cells hC (fun p u h => cells_own hg hr p u h)⟩) ?assign ?body ?done ?stop
  case assign =>
    rintro l' pre x ar W K hI hpx ⟨Ax, cx, rfl, hcx, hCx⟩ hW hK
    gi_wp2
    have hb : Below W.heap.size W (W.alloc (.cells #[.string x.f0, .slice Ax x.f1.length cx, .string x.f2] 45)) := below_alloc (Below.refl _ _) _
    refine hK _ _ (kf_below hb).ko (hb.mono hI.2.2.2.size) (fun _ h => h.elim) ⟨hI.1, blk_alloc hI.2.1 _, blk_alloc hI.2.2.1 _, below_alloc hI.2.2.2 _⟩ ⟨W.heap.size, Ax, cx, by omega, by simp, heap_alloc_new W _, Kd.C_below hCx hb⟩
  case body =>
    rintro l' pre x a' W ⟨hno, hog⟩ hpx hWs ⟨G, Ax, cx, hG, rfl, hb, hCx⟩
    have hmem : x ∈ attP l := hpx.subset (List.mem_append_right _ List.mem_cons_self)
    obtain ⟨hs1, hs2⟩ := HOK.out x hmem
    have HNO := Aside0.mk hno
    have HOG1 := Aside0.mk hog
    have HPX := Aside0.mk hpx
    have HCX := Aside0.mk hCx
    have HBX := Aside0.mk hb
    have g2 : W.cell? ⟨G, 2, none⟩ = some (.string x.f2) := (blk_cell hb 2).trans rfl
    have ga : W.cell? ⟨w.heap.size + 1, 0, none⟩ = some (.string addr) := (blk_cell hog.1 0).trans rfl
    clear hno hog hpx hb hCx hmem
    gi_wp2
    gi_at_call 48
    refine (CallsIn.inRound l' (callsIn_wide.2 (alike_calls x.f2 addr hs1 ha W))).mono ?_
    rintro e w5 ⟨rfl, hb5⟩
    have HB5 := Aside0.mk hb5
    have HX5 := Aside0.mk (blk_below HBX.out hb5)
    have HC5 := Aside0.mk (Kd.C_below HCX.out hb5)
    clear hb5 g2 ga
    cases hp : alikeB x.f2 addr with
    | false =>
      have HP := Aside0.mk hp
      clear hp
      gi_wp2
      refine ⟨(kf_below HB5.out).ko, HB5.out.mono HOG1.out.2.2.size, fun _ h => h.elim, fun p hp => ?_, blk_below HOG1.out.1 HB5.out, blk_below HOG1.out.2.1 HB5.out, HOG1.out.2.2.trans (HB5.out.mono HOG1.out.2.2.size)⟩
      rcases List.mem_append.1 hp with hp | hp
      · exact HNO.out p hp
      · rw [List.mem_singleton.1 hp]; exact HP.out
    | true =>
      have HF := Aside0.mk (find_at (fun x => alikeB x.f2 addr) pre x _ HPX.out HNO.out hp)
      have g0 : w5.cell? ⟨G, 0, none⟩ = some (.string x.f0) := (blk_cell HX5.out 0).trans rfl
      have g1 : w5.cell? ⟨G, 1, none⟩ = some (.slice Ax x.f1.length cx) := (blk_cell HX5.out 1).trans rfl
      have g2 : w5.cell? ⟨G, 2, none⟩ = some (.string x.f2) := (blk_cell HX5.out 2).trans rfl
      clear hp
      gi_wp2
      gi_at_call 60
      refine (CallsIn.inRound l' (callsIn_wide.2 (line_Param_walk x.f0 Ax cx x.f1 x.f2 (⟨#[80, 65, 82, 84, 83, 84, 65, 84]⟩ : ByteArray) w5 HC5.out))).mono ?_
      rintro e w6 ⟨rfl, hb6⟩
      have HB6 := Aside0.mk (HB5.out.trans (hb6.mono HB5.out.size))
      clear hb6 g0 g1 g2
      cases hq : (paramP x.f1 (⟨#[80, 65, 82, 84, 83, 84, 65, 84]⟩ : ByteArray)).2 with
      | false =>
        have hA : answerP x = (⟨#[78, 69, 69, 68, 83, 45, 65, 67, 84, 73, 79, 78]⟩ : ByteArray) := by unfold answerP; rw [if_neg (by rw [hq]; decide)]
        have u1 : w6.cell? ⟨w.heap.size + 2, 0, none⟩ = some (.string (⟨#[]⟩ : ByteArray)) := (blk_cell (blk_below HOG1.out.2.1 HB6.out) 0).trans rfl
        have u2 : w6.frozen? ⟨w.heap.size + 2, 0, none⟩ = false := blk_frozen (blk_below HOG1.out.2.1 HB6.out) 0
        obtain ⟨k1, k2, k3⟩ := og_set HOG1.out.2 HB6.out (⟨#[78, 69, 69, 68, 83, 45, 65, 67, 84, 73, 79, 78]⟩ : ByteArray) V.heap.size (by omega)
        have K := Aside0.mk (And.intro k1 (And.intro k2 k3))
        have HA := Aside0.mk hA
        clear k1 k2 k3 hA
        gi_wp2
        exact ⟨K.out.1.ko, K.out.2.1, fun _ h => h.elim, rfl, x, HF.out, blk_far (blk_below HOG1.out.1 HB6.out) (by show w.heap.size + 1 ≠ w.heap.size + 2; omega) _, by rw [HA.out]; exact K.out.2.2⟩
      | true =>
        have hA : answerP x = mapB uppN (paramP x.f1 (⟨#[80, 65, 82, 84, 83, 84, 65, 84]⟩ : ByteArray)).1 := by unfold answerP; rw [if_pos hq]
        have HA := Aside0.mk hA
        clear hA
        gi_wp2
        gi_at_call 61
        refine (CallsIn.inRound l' (callsIn_wide.2 (itip_upper_walk (paramP x.f1 (⟨#[80, 65, 82, 84, 83, 84, 65, 84]⟩ : ByteArray)).1 w6 (of_decide_eq_true hs2)))).mono ?_
        rintro e w7 ⟨rfl, hb7⟩
        have HB7 := Aside0.mk (HB6.out.trans (hb7.mono HB6.out.size))
        have u1 : w7.cell? ⟨w.heap.size + 2, 0, none⟩ = some (.string (⟨#[]⟩ : ByteArray)) := (blk_cell (blk_below HOG1.out.2.1 HB7.out) 0).trans rfl
        have u2 : w7.frozen? ⟨w.heap.size + 2, 0, none⟩ = false := blk_frozen (blk_below HOG1.out.2.1 HB7.out) 0
        obtain ⟨k1, k2, k3⟩ := og_set HOG1.out.2 HB7.out (mapB uppN (paramP x.f1 (⟨#[80, 65, 82, 84, 83, 84, 65, 84]⟩ : ByteArray)).1) V.heap.size (by omega)
        have K := Aside0.mk (And.intro k1 (And.intro k2 k3))
        clear k1 k2 k3 hb7
        gi_wp2
        exact ⟨K.out.1.ko, K.out.2.1, fun _ h => h.elim, rfl, x, HF.out, blk_far (blk_below HOG1.out.1 HB7.out) (by show w.heap.size + 1 ≠ w.heap.size + 2; omega) _, by rw [HA.out]; exact K.out.2.2⟩
  case done =>
    rintro D2 W hD2 ⟨hno, hog⟩ hK
    have hF : (attP l).find? (fun x => alikeB x.f2 addr) = none := List.find?_eq_none.2 (fun p hp => by simpa using hno p hp)
    have hP : statusP l addr = (⟨#[]⟩ : ByteArray) := by unfold statusP; rw [hF]
    have HP2 := Aside0.mk hP
    have u1 : W.cell? ⟨w.heap.size + 2, 0, none⟩ = some (.string (⟨#[]⟩ : ByteArray)) := (blk_cell hog.2.1 0).trans rfl
    have u2 : W.frozen? ⟨w.heap.size + 2, 0, none⟩ = false := blk_frozen hog.2.1 0
    obtain ⟨k1, k2, k3⟩ := og_set (W := W) hog.2 (Below.refl _ W) (⟨#[]⟩ : ByteArray) V.heap.size (by omega)
    have K1 := Aside0.mk k1
    have K3 := Aside0.mk k3
    clear hno hog hF hP k1 k2 k3
    gi_wp2
    refine ⟨by simp, .inl ⟨_, _, rfl, run_takeDeferred (by exact (K1.out.same D2 _ hD2 hK)), ?_⟩⟩
    exact ⟨_, results20 _ _ (w.heap.size + 2) _ rfl ((World.putObj_heap_other (by omega)).trans K3.out.1), by rw [HP2.out], K3.out.2.trans (below_put _ (by omega))⟩
  case stop =>
    rintro D2 cd pre W hD2 hpre ⟨rfl, y, hF, hog⟩ hK
    have hP : statusP l addr = answerP y := by unfold statusP; rw [hF]
    have HP2 := Aside0.mk hP
    have K3 := Aside0.mk hog.2
    clear hF hP hog
    gi_wp2
    refine ⟨by simp, .inl ⟨_, _, rfl, run_takeDeferred hK, ?_⟩⟩
    exact ⟨_, results20 _ _ (w.heap.size + 2) _ rfl ((World.putObj_heap_other (by omega)).trans K3.out.1), by rw [HP2.out], K3.out.2.trans (below_put _ (by omega))⟩
def limB (l : List S25) : Bool := l.all fun x => decide (x.f1.length < 2513169434917)
def okB (l : List S25) : Bool := (attP l).all fun x => shortB x.f2 && shortB (paramP x.f1 (⟨#[80, 65, 82, 84, 83, 84, 65, 84]⟩ : ByteArray)).1
def itip_Status.f (k : Nat) (a0_0 : ByteArray) (l0_1 : List (S45)) (l0_2 : List (S25)) (a1 : ByteArray) : Option (ByteArray) := if (limB l0_2 && (okB l0_2 && shortB a1)) = true then some (statusP l0_2 a1) else none
theorem limB_iff (l : List S25) : limB l = true ↔ ∀ x ∈ l, x.f1.length < 2513169434917 := by unfold limB; simp
theorem itip_Status.calls (k : Nat) (a0_0 : ByteArray) (A0_1 : Option Addr) (c0_1 : Nat) (l0_1 : List (S45)) (A0_2 : Option Addr) (c0_2 : Nat) (l0_2 : List (S25)) (a1 : ByteArray) (r : ByteArray) (w : World) (hr0_1 : Kd.C k45 w A0_1 l0_1.length l0_1) (hc0_1 : l0_1.length ≤ c0_1) (hr0_2 : Kd.C k25 w A0_2 l0_2.length l0_2) (hc0_2 : l0_2.length ≤ c0_2) (h : itip_Status.f k a0_0 l0_1 l0_2 a1 = some r) :
    Calls Try.prog 20 #[.agg #[.string a0_0, .slice A0_1 l0_1.length c0_1, .slice A0_2 l0_2.length c0_2], .string a1] w fun e w' => e = .returned (.string r) ∧ Below w.heap.size w w' := by
  unfold itip_Status.f at h
  split at h
  case isFalse => cases h
  rename_i hc
  simp only [Bool.and_eq_true] at hc
  obtain rfl := Option.some.inj h
  refine status_walk a0_0 A0_1 _ c0_1 A0_2 c0_2 l0_2 a1 w hr0_2 ((limB_iff _).1 hc.1) (fun x hx => ?_) hc.2.2
  have := List.all_eq_true.1 hc.2.1 x hx
  simpa [okA] using this
end Go.Proofs.Ytebmbfobmakheaa.PD
