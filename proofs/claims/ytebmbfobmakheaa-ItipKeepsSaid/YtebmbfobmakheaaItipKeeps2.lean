/- Part 2 of the texts that the claim leans on: the functions' walks, and what they compute. -/
import Derived.Test.YtebmbfobmakheaaItipKeeps1
import Derived.Test.YtebmbfobmakheaaProg
import Derived.Below
import Derived.Deep.Draws
import Derived.Deep.AppendLies
import Derived.Maps.AppendAt
import Derived.OwnWalk
import Derived.Laws.BytesArg
import Derived.Laws.MakeOwn
import Derived.Laws.OwnMore
import Derived.Deep.OwnRows
import Derived.Tactics
import Derived.Lib.ConvBytes
import Derived.Laws.Slices
import Derived.WalkKit
import Derived.KernelRfl
import Derived.RowKit3
import Derived.Deep.LoopGhost
import Derived.Deep.QuietTactic
import Derived.BigQuiet
import Derived.WideLaws
import Derived.Deep.DeepCutAuto
import Derived.Deep.CutBlock
import Derived.Deep.RegionHeld3
import Derived.Laws.Rows
import Derived.Lib.AppendStr
import Derived.ArgAppend
import Derived.Laws.IdiomCopy
import Derived.OrdersHeld
import Derived.Laws.BitsLemmas
import Derived.RowKit
import Derived.Laws.StructEq
import Derived.Laws.IdiomStrings
import Derived.Laws.RangeAny
import Derived.Lib.Strings
import Derived.Scope
import Derived.Shelf.Abstract
import Derived.RangeFuncBox
import Derived.Lib.SliceRun
namespace Go.Proofs.Ytebmbfobmakheaa.PD
open Go.RowKit Go.Proofs.YtebmbfobmakheaaW.PrintWords Go.Proofs.YtebmbfobmakheaaW.PrintLast Go.Proofs.YtebmbfobmakheaaW.PrintMore
attribute [local go_sem] isSome_setCell max2_int min2_int max_two min_two max_three min_three max_four min_four
set_option linter.unusedVariables false
set_option linter.unusedSimpArgs false
def errW : Option Int → Value
  | none => .nilIface
  | some c => .iface 0 (.int .i64 c)
theorem errW_none : errW none = .nilIface := rfl
theorem errW_some (c : Int) : errW (some c) = .iface 0 (.int .i64 c) := rfl
theorem info9 : (Try.prog.info? 9).map (fun i => (i.zero, i.size, i.bytes)) = some (some (.string ⟨#[]⟩), 1, 16) := by kernel_rfl
theorem info25 : (Try.prog.info? 25).map (fun i => (i.zero, i.size, i.bytes)) = some (some (.agg #[(.string ⟨#[]⟩), (.slice none 0 0), (.slice none 0 0)]), 3, 64) := by kernel_rfl
theorem info45 : (Try.prog.info? 45).map (fun i => (i.zero, i.size, i.bytes)) = some (some (.agg #[(.string ⟨#[]⟩), (.slice none 0 0), (.string ⟨#[]⟩)]), 3, 56) := by kernel_rfl
theorem info77 : (Try.prog.info? 77).map (fun i => (i.zero, i.size, i.bytes)) = some (some (.agg #[(.string ⟨#[]⟩), (.slice none 0 0)]), 2, 40) := by kernel_rfl
structure S77 where
  f0 : ByteArray
  f1 : (List ByteArray)
def z77 : S77 := ⟨(⟨#[]⟩ : ByteArray), ([] : List ByteArray)⟩
def k77 : Kd S77 := Kd.iso (Kd.pair Kd.string (Kd.slice 9 Kd.string)) (fun x : S77 => (x.f0, x.f1))
theorem k77_heap : Kd.Heap k77 := Kd.heap_iso _ (Kd.heap_pair Kd.heap_string (Kd.heap_slice 9 Kd.heap_string))
theorem k77_open {w : World} {x : S77} {cs : List Value} (h : k77.K w x cs) : ∃ A1 c1, cs = [.string x.f0, .slice A1 x.f1.length c1] ∧ x.f1.length ≤ c1 ∧ Kd.string.C w A1 x.f1.length x.f1 := by
  obtain ⟨_, _, rfl, rfl, ⟨A1, c1, rfl, l1, g1⟩⟩ := h
  exact ⟨A1, c1, rfl, l1, g1⟩
theorem k77_mk (w : World) (x : S77) {A1 : Option Addr} {c1 : Nat} (l1 : x.f1.length ≤ c1) (g1 : Kd.string.C w A1 x.f1.length x.f1) : k77.K w x [.string x.f0, .slice A1 x.f1.length c1] := ⟨[.string x.f0], [.slice A1 x.f1.length c1], rfl, rfl, ⟨A1, c1, rfl, l1, g1⟩⟩
theorem k77_openF {W : World} {ok : Nat → Prop} {x : S77} {cs : List Value} (h : Kd.FK k77 W ok x cs) : ∃ A1 c1, cs = [.string x.f0, .slice A1 x.f1.length c1] ∧ x.f1.length ≤ c1 ∧ Kd.F Kd.string W ok A1 x.f1.length x.f1 := by
  obtain ⟨A1, c1, rfl, l1, _⟩ := k77_open (Kd.FK_now h)
  exact ⟨A1, c1, rfl, l1, (fun W' hW => by obtain ⟨A1_, c1_, he, l1_, g1_⟩ := k77_open (h W' hW); injection (Option.some.inj (show some (Value.slice A1 x.f1.length c1) = some (Value.slice A1_ x.f1.length c1_) from congrArg (fun l => l[1]?) he)) with ha_ _ _; rw [ha_]; exact g1_)⟩
theorem k77_mkF (W : World) (ok : Nat → Prop) (x : S77) {A1 : Option Addr} {c1 : Nat} (l1 : x.f1.length ≤ c1) (g1 : Kd.F Kd.string W ok A1 x.f1.length x.f1) : Kd.FK k77 W ok x [.string x.f0, .slice A1 x.f1.length c1] := fun W2 hW => k77_mk W2 x l1 (g1 W2 hW)
def rd_T77 (xs : List S77) (i : Int) : S77 := xs.getD i.toNat z77
theorem at_T77 {w : World} {A : Option Addr} {n : Nat} {xs : List S77} (h : Kd.C k77 w A n xs) (i : Int) (h0 : 0 ≤ i) (h1 : i < n) : ∃ ad A1 c1, A = some ad ∧ w.cell? (ad.add (i.toNat * 2)) = some (.string (rd_T77 xs i).f0) ∧ w.cell? ⟨(ad.add (i.toNat * 2)).block, (ad.add (i.toNat * 2)).off + 1, none⟩ = some (.slice A1 (rd_T77 xs i).f1.length c1) ∧ (rd_T77 xs i).f1.length ≤ c1 ∧ Kd.string.C w A1 (rd_T77 xs i).f1.length (rd_T77 xs i).f1 := by
  obtain ⟨ad, c, e, _, hK, hc0⟩ := Kd.C_get h z77 i h0 h1
  have hc : ∀ j u, c[j]? = some u → w.cell? (ad.add (i.toNat * 2 + j)) = some u := hc0
  obtain ⟨A1, c1, rfl, l1, g1⟩ := k77_open hK
  exact ⟨ad, A1, c1, e, hc 0 _ rfl, by rw [← add_field _ _ 1 (by omega)]; exact hc 1 _ rfl, l1, g1⟩
structure S45 where
  f0 : ByteArray
  f1 : (List S77)
  f2 : ByteArray
def z45 : S45 := ⟨(⟨#[]⟩ : ByteArray), ([] : List S77), (⟨#[]⟩ : ByteArray)⟩
def k45 : Kd S45 := Kd.iso (Kd.pair Kd.string (Kd.pair (Kd.slice 77 k77) Kd.string)) (fun x : S45 => (x.f0, x.f1, x.f2))
theorem k45_heap : Kd.Heap k45 := Kd.heap_iso _ (Kd.heap_pair Kd.heap_string (Kd.heap_pair (Kd.heap_slice 77 k77_heap) Kd.heap_string))
theorem k45_open {w : World} {x : S45} {cs : List Value} (h : k45.K w x cs) : ∃ A1 c1, cs = [.string x.f0, .slice A1 x.f1.length c1, .string x.f2] ∧ x.f1.length ≤ c1 ∧ k77.C w A1 x.f1.length x.f1 := by
  obtain ⟨_, _, rfl, rfl, ⟨_, _, rfl, ⟨A1, c1, rfl, l1, g1⟩, rfl⟩⟩ := h
  exact ⟨A1, c1, rfl, l1, g1⟩
theorem k45_mk (w : World) (x : S45) {A1 : Option Addr} {c1 : Nat} (l1 : x.f1.length ≤ c1) (g1 : k77.C w A1 x.f1.length x.f1) : k45.K w x [.string x.f0, .slice A1 x.f1.length c1, .string x.f2] := ⟨[.string x.f0], [.slice A1 x.f1.length c1, .string x.f2], rfl, rfl, ⟨[.slice A1 x.f1.length c1], [.string x.f2], rfl, ⟨A1, c1, rfl, l1, g1⟩, rfl⟩⟩
theorem k45_openF {W : World} {ok : Nat → Prop} {x : S45} {cs : List Value} (h : Kd.FK k45 W ok x cs) : ∃ A1 c1, cs = [.string x.f0, .slice A1 x.f1.length c1, .string x.f2] ∧ x.f1.length ≤ c1 ∧ Kd.F k77 W ok A1 x.f1.length x.f1 := by
  obtain ⟨A1, c1, rfl, l1, _⟩ := k45_open (Kd.FK_now h)
  exact ⟨A1, c1, rfl, l1, (fun W' hW => by obtain ⟨A1_, c1_, he, l1_, g1_⟩ := k45_open (h W' hW); injection (Option.some.inj (show some (Value.slice A1 x.f1.length c1) = some (Value.slice A1_ x.f1.length c1_) from congrArg (fun l => l[1]?) he)) with ha_ _ _; rw [ha_]; exact g1_)⟩
theorem k45_mkF (W : World) (ok : Nat → Prop) (x : S45) {A1 : Option Addr} {c1 : Nat} (l1 : x.f1.length ≤ c1) (g1 : Kd.F k77 W ok A1 x.f1.length x.f1) : Kd.FK k45 W ok x [.string x.f0, .slice A1 x.f1.length c1, .string x.f2] := fun W2 hW => k45_mk W2 x l1 (g1 W2 hW)
def rd_T45 (xs : List S45) (i : Int) : S45 := xs.getD i.toNat z45
theorem at_T45 {w : World} {A : Option Addr} {n : Nat} {xs : List S45} (h : Kd.C k45 w A n xs) (i : Int) (h0 : 0 ≤ i) (h1 : i < n) : ∃ ad A1 c1, A = some ad ∧ w.cell? (ad.add (i.toNat * 3)) = some (.string (rd_T45 xs i).f0) ∧ w.cell? ⟨(ad.add (i.toNat * 3)).block, (ad.add (i.toNat * 3)).off + 1, none⟩ = some (.slice A1 (rd_T45 xs i).f1.length c1) ∧ w.cell? ⟨(ad.add (i.toNat * 3)).block, (ad.add (i.toNat * 3)).off + 2, none⟩ = some (.string (rd_T45 xs i).f2) ∧ (rd_T45 xs i).f1.length ≤ c1 ∧ k77.C w A1 (rd_T45 xs i).f1.length (rd_T45 xs i).f1 := by
  obtain ⟨ad, c, e, _, hK, hc0⟩ := Kd.C_get h z45 i h0 h1
  have hc : ∀ j u, c[j]? = some u → w.cell? (ad.add (i.toNat * 3 + j)) = some u := hc0
  obtain ⟨A1, c1, rfl, l1, g1⟩ := k45_open hK
  exact ⟨ad, A1, c1, e, hc 0 _ rfl, by rw [← add_field _ _ 1 (by omega)]; exact hc 1 _ rfl, by rw [← add_field _ _ 2 (by omega)]; exact hc 2 _ rfl, l1, g1⟩
structure S25 where
  f0 : ByteArray
  f1 : (List S45)
  f2 : (List S25)
def z25 : S25 := ⟨(⟨#[]⟩ : ByteArray), ([] : List S45), ([] : List S25)⟩
def F25 (d : Kd S25) : Kd S25 := Kd.iso (Kd.pair Kd.string (Kd.pair (Kd.slice 45 k45) (Kd.slice 25 d))) (fun x : S25 => (x.f0, x.f1, x.f2))
theorem mono25 : Kd.Mono F25 := Kd.mono_iso _ (Kd.mono_pair (Kd.mono_const _) (Kd.mono_pair (Kd.mono_const _) (Kd.mono_slice 25 Kd.mono_id)))
theorem sub25 : Kd.Sub F25 [9, 25, 45, 77] := Kd.sub_iso _ (Kd.sub_pair (Kd.sub_const _ (by decide)) (Kd.sub_pair (Kd.sub_const _ (by decide)) (Kd.sub_slice 25 (by decide) Kd.sub_id)))
theorem sz25 : ∀ n, (Kd.upto F25 3 [9, 25, 45, 77] n).sz = 3 := Kd.upto_sz (fun _ => rfl)
def k25 : Kd S25 := Kd.fix F25 3 [9, 25, 45, 77] sz25 (Kd.upto_E sub25)
theorem k25_heap : Kd.Heap k25 := Kd.heap_fix (fun _ h_ => Kd.heap_iso _ (Kd.heap_pair Kd.heap_string (Kd.heap_pair (Kd.heap_slice 45 k45_heap) (Kd.heap_slice 25 h_))))
theorem k25_open {w : World} {x : S25} {cs : List Value} (h : k25.K w x cs) : ∃ A1 c1 A2 c2, cs = [.string x.f0, .slice A1 x.f1.length c1, .slice A2 x.f2.length c2] ∧ x.f1.length ≤ c1 ∧ k45.C w A1 x.f1.length x.f1 ∧ x.f2.length ≤ c2 ∧ k25.C w A2 x.f2.length x.f2 := by
  obtain ⟨n, h⟩ := h
  cases n with
  | zero => exact h.elim
  | succ n =>
    obtain ⟨_, _, rfl, rfl, ⟨_, _, rfl, ⟨A1, c1, rfl, l1, g1⟩, ⟨A2, c2, rfl, l2, g2⟩⟩⟩ := h
    exact ⟨A1, c1, A2, c2, rfl, l1, g1, l2, Kd.fix_C g2⟩
theorem k25_mk (w : World) (x : S25) {A1 : Option Addr} {c1 : Nat} (l1 : x.f1.length ≤ c1) (g1 : k45.C w A1 x.f1.length x.f1) {A2 : Option Addr} {c2 : Nat} (l2 : x.f2.length ≤ c2) (g2 : k25.C w A2 x.f2.length x.f2) : k25.K w x [.string x.f0, .slice A1 x.f1.length c1, .slice A2 x.f2.length c2] := by
  obtain ⟨n2, q2⟩ := Kd.fix_C_back mono25 g2
  have r2 := Kd.upto_C_le mono25 sz25 (show n2 ≤ n2 by omega) q2
  exact ⟨n2 + 1, ⟨[.string x.f0], [.slice A1 x.f1.length c1, .slice A2 x.f2.length c2], rfl, rfl, ⟨[.slice A1 x.f1.length c1], [.slice A2 x.f2.length c2], rfl, ⟨A1, c1, rfl, l1, g1⟩, ⟨A2, c2, rfl, l2, r2⟩⟩⟩⟩
theorem k25_openF {W : World} {ok : Nat → Prop} {x : S25} {cs : List Value} (h : Kd.FK k25 W ok x cs) : ∃ A1 c1 A2 c2, cs = [.string x.f0, .slice A1 x.f1.length c1, .slice A2 x.f2.length c2] ∧ x.f1.length ≤ c1 ∧ Kd.F k45 W ok A1 x.f1.length x.f1 ∧ x.f2.length ≤ c2 ∧ Kd.F k25 W ok A2 x.f2.length x.f2 := by
  obtain ⟨A1, c1, A2, c2, rfl, l1, _, l2, _⟩ := k25_open (Kd.FK_now h)
  exact ⟨A1, c1, A2, c2, rfl, l1, (fun W' hW => by obtain ⟨A1_, c1_, A2_, c2_, he, l1_, g1_, l2_, g2_⟩ := k25_open (h W' hW); injection (Option.some.inj (show some (Value.slice A1 x.f1.length c1) = some (Value.slice A1_ x.f1.length c1_) from congrArg (fun l => l[1]?) he)) with ha_ _ _; rw [ha_]; exact g1_), l2, (fun W' hW => by obtain ⟨A1_, c1_, A2_, c2_, he, l1_, g1_, l2_, g2_⟩ := k25_open (h W' hW); injection (Option.some.inj (show some (Value.slice A2 x.f2.length c2) = some (Value.slice A2_ x.f2.length c2_) from congrArg (fun l => l[2]?) he)) with ha_ _ _; rw [ha_]; exact g2_)⟩
theorem k25_mkF (W : World) (ok : Nat → Prop) (x : S25) {A1 : Option Addr} {c1 : Nat} (l1 : x.f1.length ≤ c1) (g1 : Kd.F k45 W ok A1 x.f1.length x.f1) {A2 : Option Addr} {c2 : Nat} (l2 : x.f2.length ≤ c2) (g2 : Kd.F k25 W ok A2 x.f2.length x.f2) : Kd.FK k25 W ok x [.string x.f0, .slice A1 x.f1.length c1, .slice A2 x.f2.length c2] := fun W2 hW => k25_mk W2 x l1 (g1 W2 hW) l2 (g2 W2 hW)
def rd_T25 (xs : List S25) (i : Int) : S25 := xs.getD i.toNat z25
theorem at_T25 {w : World} {A : Option Addr} {n : Nat} {xs : List S25} (h : Kd.C k25 w A n xs) (i : Int) (h0 : 0 ≤ i) (h1 : i < n) : ∃ ad A1 c1 A2 c2, A = some ad ∧ w.cell? (ad.add (i.toNat * 3)) = some (.string (rd_T25 xs i).f0) ∧ w.cell? ⟨(ad.add (i.toNat * 3)).block, (ad.add (i.toNat * 3)).off + 1, none⟩ = some (.slice A1 (rd_T25 xs i).f1.length c1) ∧ w.cell? ⟨(ad.add (i.toNat * 3)).block, (ad.add (i.toNat * 3)).off + 2, none⟩ = some (.slice A2 (rd_T25 xs i).f2.length c2) ∧ (rd_T25 xs i).f1.length ≤ c1 ∧ k45.C w A1 (rd_T25 xs i).f1.length (rd_T25 xs i).f1 ∧ (rd_T25 xs i).f2.length ≤ c2 ∧ k25.C w A2 (rd_T25 xs i).f2.length (rd_T25 xs i).f2 := by
  obtain ⟨ad, c, e, _, hK, hc0⟩ := Kd.C_get h z25 i h0 h1
  have hc : ∀ j u, c[j]? = some u → w.cell? (ad.add (i.toNat * 3 + j)) = some u := hc0
  obtain ⟨A1, c1, A2, c2, rfl, l1, g1, l2, g2⟩ := k25_open hK
  exact ⟨ad, A1, c1, A2, c2, e, hc 0 _ rfl, by rw [← add_field _ _ 1 (by omega)]; exact hc 1 _ rfl, by rw [← add_field _ _ 2 (by omega)]; exact hc 2 _ rfl, l1, g1, l2, g2⟩
end Go.Proofs.Ytebmbfobmakheaa.PD
namespace Go.Proofs.Ytebmbfobmakheaa.PD
open Go.RowKit Go.Proofs.YtebmbfobmakheaaW.PrintWords Go.Proofs.YtebmbfobmakheaaW.PrintLast Go.Proofs.YtebmbfobmakheaaW.PrintMore
set_option linter.unusedVariables false
set_option linter.unusedSimpArgs false
theorem rd45_at (l : List S45) (i : Nat) (h : i < l.length) : rd_T45 l (i : Int) = l[i] := by simp [rd_T45, h]
theorem wrap_next {i n : Nat} (h : i < n) (hn : n ≤ 9223372036854775807) : wrap64 ((i : Int) + 1) = ((i + 1 : Nat) : Int) := by unfold wrap64; omega
end Go.Proofs.Ytebmbfobmakheaa.PD
namespace Go.Proofs.Ytebmbfobmakheaa.PD
open Go.RowKit Go.Proofs.YtebmbfobmakheaaW.PrintWords Go.Proofs.YtebmbfobmakheaaW.PrintLast Go.Proofs.YtebmbfobmakheaaW.PrintMore
set_option linter.unusedVariables false
set_option linter.unusedSimpArgs false
def byteN (m : ByteArray) (i : Nat) : Nat := (m.data.getD i 0).toNat
theorem byteN_lt (m : ByteArray) (i : Nat) : byteN m i < 256 := by unfold byteN; exact UInt8.toNat_lt _
def RowOf (W : World) (g : Nat) (m : ByteArray) : Prop := ∀ j, j < m.size → W.cell? ⟨g, j, none⟩ = some (.int .u8 (byteN m j : Nat)) ∧ W.frozen? ⟨g, j, none⟩ = false
theorem RowOf.new (w : World) (s : ByteArray) : RowOf (Lib.bytesWorld w 5 s) w.heap.size s := fun j hj => by
  refine ⟨?_, ?_⟩
  · rw [Lib.bytesWorld_cell w 5 s j hj]
    simp [byteN, List.getD_eq_getElem?_getD, Array.getD_eq_getD_getElem?]
  · have h := Lib.bytesWorld_at_new w 5 s
    have hs : s.size ≤ (Lib.bytesCells w 5 s).size := by unfold Lib.bytesCells; rw [Array.size_append, Array.size_map]; exact Nat.le_add_right _ _
    simp only [World.frozen?, h]
    simp
    omega
def setByte (m : ByteArray) (q v : Nat) : ByteArray := ⟨m.data.setIfInBounds q (UInt8.ofNat v)⟩
theorem setByte_size (m : ByteArray) (q v : Nat) : (setByte m q v).size = m.size := Array.size_setIfInBounds
theorem byteN_setByte (m : ByteArray) (q v : Nat) (hq : q < m.size) (hv : v < 256) (j : Nat) : byteN (setByte m q v) j = if j = q then v else byteN m j := by
  have hq' : q < m.data.size := hq
  unfold setByte byteN
  by_cases h : j = q
  · subst h
    rw [if_pos rfl, Array.getD_eq_getD_getElem?, Array.getElem?_setIfInBounds_self, if_pos hq', Option.getD_some, UInt8.toNat_ofNat']
    omega
  · rw [if_neg h, Array.getD_eq_getD_getElem?, Array.getElem?_setIfInBounds_ne (Ne.symm h), Array.getD_eq_getD_getElem?]
theorem frozen_setCell (W : World) (p q : Addr) (u : Value) : (W.setCell p u).frozen? q = W.frozen? q := by
  simp only [World.frozen?, World.setCell, Array.getElem?_modify]
  by_cases h : p.block = q.block
  · simp only [h, if_true]
    cases W.heap[q.block]? with
    | none => rfl
    | some o => cases o <;> simp
  · simp [h]
theorem RowOf.set {W : World} {g : Nat} {m : ByteArray} (h : RowOf W g m) (q v : Nat) (hq : q < m.size) (hv : v < 256) : RowOf (W.setCell ⟨g, q, none⟩ (.int .u8 (v : Nat))) g (setByte m q v) := fun j hj => by
  rw [setByte_size] at hj
  refine ⟨?_, by rw [frozen_setCell]; exact (h j hj).2⟩
  rw [byteN_setByte m q v hq hv]
  by_cases e : j = q
  · subst e
    rw [if_pos rfl, World.cell?_setCell_same W _ _ (h j hj).1]
  · rw [if_neg e, World.cell?_setCell_other W ⟨g, q, none⟩ ⟨g, j, none⟩ _ (by intro e'; injection e' with _ e2; exact e e2.symm)]
    exact (h j hj).1
theorem RowOf.below {W W' : World} {g : Nat} {m : ByteArray} (h : RowOf W g m) (hb : Below W.heap.size W W') : RowOf W' g m := fun j hj => by
  obtain ⟨h1, h2⟩ := h j hj
  have hl : g < W.heap.size := World.block_lt_of_cell? W _ h1
  refine ⟨(hb.cell hl).trans h1, ?_⟩
  rw [← h2]
  simp only [World.frozen?, hb.block g hl]
theorem RowOf.string {W : World} {g : Nat} {m : ByteArray} (h : RowOf W g m) (cap : Nat) : (convert 70 9 (.slice (some ⟨g, 0, none⟩) m.size cap)).run Try.prog W = .ok (.string m) W := by
  have hl : m.data.toList.length = m.size := Array.length_toList
  have := run_convert_bytes_back (P := Try.prog) W 70 9 5 ⟨g, 0, none⟩ cap m.data.toList Try.underlying70 Try.underlying5 Try.underlying9 (fun j hj => by
    have := (h j (by omega)).1
    rw [add_plain, this]
    have hj' : j < m.data.size := by simpa using hj
    simp only [byteN, Array.getD_eq_getD_getElem?, Array.getElem?_eq_getElem hj', Option.getD_some, Array.getElem_toList])
  rw [hl] at this
  simpa using this
def stepK (f : Nat → Nat) (s : ByteArray) : Nat → ByteArray
  | 0 => s
  | k + 1 => setByte (stepK f s k) k (f (byteN s k))
theorem stepK_size (f : Nat → Nat) (s : ByteArray) : ∀ k, (stepK f s k).size = s.size
  | 0 => rfl
  | k + 1 => (setByte_size _ _ _).trans (stepK_size f s k)
theorem stepK_byte (f : Nat → Nat) (hf : ∀ b, b < 256 → f b < 256) (s : ByteArray) : ∀ k, k ≤ s.size → ∀ j, byteN (stepK f s k) j = if j < k then f (byteN s j) else byteN s j
  | 0, _, j => by rw [if_neg (by omega)]; rfl
  | k + 1, hk, j => by
    show byteN (setByte (stepK f s k) k (f (byteN s k))) j = _
    rw [byteN_setByte _ _ _ (by rw [stepK_size]; omega) (hf _ (byteN_lt _ _)), stepK_byte f hf s k (by omega)]
    by_cases h : j = k
    · subst h; rw [if_pos rfl, if_pos (by omega)]
    · rw [if_neg h]
      by_cases h2 : j < k
      · rw [if_pos h2, if_pos (by omega)]
      · rw [if_neg h2, if_neg (by omega)]
theorem setByte_same (m : ByteArray) (q : Nat) (hq : q < m.size) : setByte m q (byteN m q) = m := by
  have hq' : q < m.data.size := hq
  unfold setByte byteN
  cases m with | mk a =>
  simp only at hq' ⊢
  congr 1
  have e : UInt8.ofNat (a.getD q 0).toNat = a[q] := by rw [Array.getD_eq_getD_getElem?, Array.getElem?_eq_getElem hq', Option.getD_some]; exact UInt8.ofNat_toNat
  rw [e]
  apply Array.ext
  · simp
  · intro i h1 h2
    by_cases hi : i = q
    · subst hi
      rw [Array.getElem_setIfInBounds h2, if_pos rfl]
    · rw [Array.getElem_setIfInBounds h2, if_neg (Ne.symm hi)]
def mapB (f : Nat → Nat) (s : ByteArray) : ByteArray := stepK f s s.size
theorem mapB_size (f : Nat → Nat) (s : ByteArray) : (mapB f s).size = s.size := stepK_size f s _
def lowN (b : Nat) : Nat := if 65 ≤ b ∧ b ≤ 90 then b + 32 else b
def uppN (b : Nat) : Nat := if 97 ≤ b ∧ b ≤ 122 then b - 32 else b
theorem lowN_lt (b : Nat) (h : b < 256) : lowN b < 256 := by unfold lowN; split <;> omega
theorem uppN_lt (b : Nat) (h : b < 256) : uppN b < 256 := by unfold uppN; split <;> omega
def shortB (s : ByteArray) : Bool := decide (s.size ≤ 140737488355328)
end Go.Proofs.Ytebmbfobmakheaa.PD
namespace Go.Proofs.Ytebmbfobmakheaa.PD
open Go.RowKit Go.Proofs.YtebmbfobmakheaaW.PrintWords Go.Proofs.YtebmbfobmakheaaW.PrintLast Go.Proofs.YtebmbfobmakheaaW.PrintMore
attribute [local go_sem] isSome_setCell max2_int min2_int max_two min_two
set_option linter.unusedVariables false
set_option linter.unusedSimpArgs false
set_option maxRecDepth 100000 in
set_option maxHeartbeats 4000000 in
theorem text_lower_walk (s : ByteArray) (w : World) (hs : s.size ≤ 140737488355328) :
    Calls Try.prog 73 #[.string s] w fun e w' => e = .returned (.string (mapB lowN s)) ∧ Below w.heap.size w w' := by
  have hcv := fun W => Lib.run_convert_string_bytes (P := Try.prog) W 9 70 5 s Try.underlying9 Try.underlying70 Try.underlying5
  have hB1 : Below w.heap.size w (Lib.bytesWorld w 5 s) := ⟨rfl, rfl, rfl, by rw [Lib.bytesWorld_size]; exact Nat.le_succ _, fun k hk => Lib.bytesWorld_at_old w 5 s k hk⟩
  have HB := Aside0.mk hB1
  clear hB1
  have HN := Aside0.mk (RowOf.new w s)
  go_enter Try.func73, Try.ntmps73
  go_wp2
  go_loopw [10] (fun v wr => ∃ k : Nat, v = .int .i64 k ∧ k ≤ s.size ∧ Aside0 (RowOf wr w.heap.size (stepK lowN s k)) ∧ Aside0 (Below w.heap.size w wr)) (fun v _ => s.size - (intOf v).toNat)
  case atStart => exact ⟨0, rfl, Nat.zero_le _, HN, HB⟩
  case round =>
    obtain ⟨k, rfl, hk, hrow, hb⟩ := hrel
    by_cases hlt : k < s.size
    · have hlt0 : decide ((k : Int) < (s.size : Int)) = true := decide_eq_true (by omega)
      have hsz := stepK_size lowN s k
      have hbk : byteN (stepK lowN s k) k = byteN s k := by rw [stepK_byte lowN lowN_lt s k hk, if_neg (by omega)]
      obtain ⟨hc, hf⟩ := hrow.out k (by omega)
      rw [hbk] at hc
      have q1 : (k : Int) < (s.size : Int) := by omega
      have q2 : (0 : Int) ≤ (k : Int) := by omega
      have hb256 := byteN_lt s k
      have hmeas : s.size - ((k : Int) + 1).toNat < s.size - (k : Int).toNat := by omega
      have hstep : stepK lowN s (k + 1) = setByte (stepK lowN s k) k (lowN (byteN s k)) := rfl
      have HS := Aside0.mk hstep
      clear hstep
      by_cases h1 : 65 ≤ byteN s k
      · by_cases h2 : byteN s k ≤ 90
        · have d1 : decide ((byteN s k : Int) ≥ 65) = true := decide_eq_true (by omega)
          have d2 : decide ((byteN s k : Int) ≤ 90) = true := decide_eq_true (by omega)
          have hfv : lowN (byteN s k) = byteN s k + 32 := by unfold lowN; rw [if_pos ⟨h1, h2⟩]
          have hr1 := hrow.out.set k (byteN s k + 32) (by omega) (by omega)
          rw [← hfv, ← HS.out] at hr1
          have hb1 := hb.out.setCell (p := ⟨w.heap.size, k, none⟩) (by show w.heap.size ≤ w.heap.size; exact Nat.le_refl _) (.int .u8 ((byteN s k : Int) + 32))
          rw [hfv, show ((byteN s k + 32 : Nat) : Int) = (byteN s k : Int) + 32 by omega] at hr1
          have HR1 := Aside0.mk hr1
          have HB1 := Aside0.mk hb1
          clear hr1 hb1
          go_wp2
          try go_roundw
          all_goals first | exact ⟨⟨k + 1, by simp, hlt, HR1, HB1⟩, hmeas⟩ | exact ⟨k + 1, by simp, hlt, HR1, HB1⟩ | exact hmeas
        · have d1 : decide ((byteN s k : Int) ≥ 65) = true := decide_eq_true (by omega)
          have d2 : decide ((byteN s k : Int) ≤ 90) = false := decide_eq_false (by omega)
          have hfv : stepK lowN s (k + 1) = stepK lowN s k := by rw [HS.out, show lowN (byteN s k) = byteN (stepK lowN s k) k by rw [hbk]; unfold lowN; rw [if_neg (by omega)], setByte_same _ _ (by omega)]
          go_wp2
          try go_roundw
          all_goals first | exact ⟨⟨k + 1, by simp, hlt, ⟨by rw [hfv]; exact hrow.out⟩, hb⟩, hmeas⟩ | exact ⟨k + 1, by simp, hlt, ⟨by rw [hfv]; exact hrow.out⟩, hb⟩ | exact hmeas
      · have d1 : decide ((byteN s k : Int) ≥ 65) = false := decide_eq_false (by omega)
        have hfv : stepK lowN s (k + 1) = stepK lowN s k := by rw [HS.out, show lowN (byteN s k) = byteN (stepK lowN s k) k by rw [hbk]; unfold lowN; rw [if_neg (by omega)], setByte_same _ _ (by omega)]
        go_wp2
        try go_roundw
        all_goals first | exact ⟨⟨k + 1, by simp, hlt, ⟨by rw [hfv]; exact hrow.out⟩, hb⟩, hmeas⟩ | exact ⟨k + 1, by simp, hlt, ⟨by rw [hfv]; exact hrow.out⟩, hb⟩ | exact hmeas
    · have hlt0 : decide ((k : Int) < (s.size : Int)) = false := decide_eq_false (by omega)
      have hkl : k = s.size := by omega
      have hst := hrow.out.string (grownCap w s.size 0 5)
      rw [stepK_size, hkl] at hst
      go_wp2
      go_ret
      exact ⟨rfl, hb.out⟩
set_option maxRecDepth 100000 in
theorem text_Lower_walk (s : ByteArray) (w : World) (hs : s.size ≤ 140737488355328) :
    Calls Try.prog 35 #[.string s] w fun e w' => e = .returned (.string (mapB lowN s)) ∧ Below w.heap.size w w' := by
  go_enter Try.func35, Try.ntmps35
  go_wp2_with (go_at_call 73; refine (text_lower_walk s _ hs).mono ?_; rintro e w1 ⟨rfl, hb⟩; have HB := Aside0.mk hb; clear hb)
  go_ret
  exact ⟨rfl, HB.out⟩
def text_Lower.f (a0 : ByteArray) : Option (ByteArray) := if shortB a0 = true then some (mapB lowN a0) else none
theorem text_Lower.calls (a0 : ByteArray) (r : ByteArray) (w : World) (h : text_Lower.f a0 = some r) :
    Calls Try.prog 35 #[.string a0] w fun e w' => e = .returned (.string r) ∧ Below w.heap.size w w' := by
  unfold text_Lower.f at h
  split at h
  case isFalse => cases h
  rename_i hc
  obtain rfl := Option.some.inj h
  exact text_Lower_walk a0 w (of_decide_eq_true hc)
end Go.Proofs.Ytebmbfobmakheaa.PD
namespace Go.Proofs.Ytebmbfobmakheaa.PD
open Go.RowKit Go.Proofs.YtebmbfobmakheaaW.PrintWords Go.Proofs.YtebmbfobmakheaaW.PrintLast Go.Proofs.YtebmbfobmakheaaW.PrintMore
attribute [local go_sem] isSome_setCell max2_int min2_int max_two min_two max_three min_three max_four min_four
set_option linter.unusedVariables false
set_option linter.unusedSimpArgs false
def stringslite_HasPrefix.f (a0 : ByteArray) (a1 : ByteArray) : Option (Bool) := if (a0.size : Int) ≥ (a1.size : Int) then (if 0 ≤ (a1.size : Int) then (if (a1.size : Int) ≤ (a0.size : Int) then (some ((a0.extract 0 ((a1.size : Int) : Int).toNat).toList == a1.toList)) else (none)) else (none)) else (some false)
set_option maxHeartbeats 8000000 in
set_option maxRecDepth 100000 in
theorem stringslite_HasPrefix.calls (a0 : ByteArray) (a1 : ByteArray) (r : Bool) (w : World) (h : stringslite_HasPrefix.f a0 a1 = some r) :
    Calls Try.prog 74 #[.string a0, .string a1] w fun e w' => e = .returned (.bool r) ∧ Drawn0 w w' := by
  have H : (if (a0.size : Int) ≥ (a1.size : Int) then (if 0 ≤ (a1.size : Int) then (if (a1.size : Int) ≤ (a0.size : Int) then (some ((a0.extract 0 ((a1.size : Int) : Int).toNat).toList == a1.toList)) else (none)) else (none)) else (some false)) = some r := h
  clear h
  by_cases c3 : (a0.size : Int) ≥ (a1.size : Int)
  · rw [if_pos c3] at H
    have c3b0 : decide ((a1.size : Int) ≤ (a0.size : Int)) = true := decide_eq_true c3
    have c3b1 : decide (a1.size ≤ a0.size) = true := decide_eq_true (Int.ofNat_le.mp c3)
    clear c3
    by_cases c4 : 0 ≤ (a1.size : Int)
    · rw [if_pos c4] at H
      have c4b0 := eq_true c4
      have c4b1 : decide (0 ≤ (a1.size : Int)) = true := decide_eq_true c4
      clear c4
      by_cases c5 : (a1.size : Int) ≤ (a0.size : Int)
      · rw [if_pos c5] at H
        have c5b0 := eq_true c5
        have c5b1 : decide ((a1.size : Int) ≤ (a0.size : Int)) = true := decide_eq_true c5
        clear c5
        obtain rfl := Option.some.inj H
        go_enter Try.func74, Try.ntmps74
        go_wp2
        go_ret
        exact ⟨by first | rfl | (simp; done) | (simp [*]; done), by repeat (first | exact Drawn0.refl _ | apply Drawn0.step)⟩
      · rw [if_neg c5] at H
        exact absurd H (by simp)
    · rw [if_neg c4] at H
      exact absurd H (by simp)
  · rw [if_neg c3] at H
    have c3b0 : decide ((a1.size : Int) ≤ (a0.size : Int)) = false := decide_eq_false c3
    have c3b1 : decide (a1.size ≤ a0.size) = false := decide_eq_false (fun h => c3 (Int.ofNat_le.mpr h))
    clear c3
    obtain rfl := Option.some.inj H
    go_enter Try.func74, Try.ntmps74
    go_wp2
    go_ret
    exact ⟨by first | rfl | (simp; done) | (simp [*]; done), by repeat (first | exact Drawn0.refl _ | apply Drawn0.step)⟩
end Go.Proofs.Ytebmbfobmakheaa.PD
namespace Go.Proofs.Ytebmbfobmakheaa.PD
open Go.RowKit Go.Proofs.YtebmbfobmakheaaW.PrintWords Go.Proofs.YtebmbfobmakheaaW.PrintLast Go.Proofs.YtebmbfobmakheaaW.PrintMore
attribute [local go_sem] isSome_setCell max2_int min2_int max_two min_two max_three min_three max_four min_four
set_option linter.unusedVariables false
set_option linter.unusedSimpArgs false
def strings_HasPrefix.f (a0 : ByteArray) (a1 : ByteArray) : Option (Bool) := (stringslite_HasPrefix.f a0 a1).bind fun t113 => (some t113)
set_option maxHeartbeats 8000000 in
set_option maxRecDepth 100000 in
theorem strings_HasPrefix.calls (a0 : ByteArray) (a1 : ByteArray) (r : Bool) (w : World) (h : strings_HasPrefix.f a0 a1 = some r) :
    Calls Try.prog 36 #[.string a0, .string a1] w fun e w' => e = .returned (.bool r) ∧ Drawn0 w w' := by
  have H : ((stringslite_HasPrefix.f a0 a1).bind fun t113 => (some t113)) = some r := h
  clear h
  replace H := Option.bind_eq_some_iff.mp H
  obtain ⟨t113, A30, H⟩ := H
  replace H : (some t113) = some r := H
  have A3 := Aside0.mk A30
  clear A30
  obtain rfl := Option.some.inj H
  go_enter Try.func36, Try.ntmps36
  go_wp2_with (first | ((with_reducible refine gate_callee (f := 74) rfl ?_); refine goesL_ (some 7) rfl rfl Try.func74 (by kernel_rfl) rfl #[.string a0, .string a1] rfl (by (try simp only [List.map_toArray, List.map_cons, List.map_nil]); first | done | rfl | (simp only [List.length_drop, List.length_take]; rfl)) ?_; (with_reducible refine (stringslite_HasPrefix.calls a0 a1 t113 _ A3.out).mono ?_); rintro e w' ⟨rfl, ⟨nd, rfl⟩⟩; refine ⟨_, rfl, ?_⟩))
  go_ret
  exact ⟨by first | rfl | (simp; done) | (simp [*]; done), by repeat (first | exact Drawn0.refl _ | apply Drawn0.step)⟩
end Go.Proofs.Ytebmbfobmakheaa.PD
namespace Go.Proofs.Ytebmbfobmakheaa.PD
open Go.RowKit Go.Proofs.YtebmbfobmakheaaW.PrintWords Go.Proofs.YtebmbfobmakheaaW.PrintLast Go.Proofs.YtebmbfobmakheaaW.PrintMore
attribute [local go_sem] isSome_setCell max2_int min2_int max_two min_two max_three min_three max_four min_four
set_option linter.unusedVariables false
set_option linter.unusedSimpArgs false
def stringslite_HasSuffix.f (a0 : ByteArray) (a1 : ByteArray) : Option (Bool) := if (a0.size : Int) ≥ (a1.size : Int) then (if 0 ≤ (wrap64 ((a0.size : Int) - (a1.size : Int))) then (if (wrap64 ((a0.size : Int) - (a1.size : Int))) ≤ (a0.size : Int) then (some ((a0.extract ((wrap64 ((a0.size : Int) - (a1.size : Int))) : Int).toNat a0.size).toList == a1.toList)) else (none)) else (none)) else (some false)
set_option maxHeartbeats 8000000 in
set_option maxRecDepth 100000 in
theorem stringslite_HasSuffix.calls (a0 : ByteArray) (a1 : ByteArray) (r : Bool) (w : World) (h : stringslite_HasSuffix.f a0 a1 = some r) :
    Calls Try.prog 75 #[.string a0, .string a1] w fun e w' => e = .returned (.bool r) ∧ Drawn0 w w' := by
  have H : (if (a0.size : Int) ≥ (a1.size : Int) then (if 0 ≤ (wrap64 ((a0.size : Int) - (a1.size : Int))) then (if (wrap64 ((a0.size : Int) - (a1.size : Int))) ≤ (a0.size : Int) then (some ((a0.extract ((wrap64 ((a0.size : Int) - (a1.size : Int))) : Int).toNat a0.size).toList == a1.toList)) else (none)) else (none)) else (some false)) = some r := h
  clear h
  by_cases c3 : (a0.size : Int) ≥ (a1.size : Int)
  · rw [if_pos c3] at H
    have c3b0 : decide ((a1.size : Int) ≤ (a0.size : Int)) = true := decide_eq_true c3
    have c3b1 : decide (a1.size ≤ a0.size) = true := decide_eq_true (Int.ofNat_le.mp c3)
    clear c3
    obtain ⟨ji4, hji4⟩ : ∃ j_ : Int, (wrap64 ((a0.size : Int) - (a1.size : Int))) = j_ := ⟨_, rfl⟩
    replace H : (if 0 ≤ (ji4) then (if (ji4) ≤ (a0.size : Int) then (some ((a0.extract ((ji4) : Int).toNat a0.size).toList == a1.toList)) else (none)) else (none)) = some r := by first | (rw [hji4] at H; exact H) | (simp only [hji4] at H ⊢; exact H)
    have hji4w : (IntKind.i64.wrap ((a0.size : Int) - (a1.size : Int))) = ji4 := (i64_w _).trans hji4
    by_cases c5 : 0 ≤ (ji4)
    · rw [if_pos c5] at H
      have c5b0 := eq_true c5
      have c5b1 : decide (0 ≤ (ji4)) = true := decide_eq_true c5
      clear c5
      by_cases c6 : (ji4) ≤ (a0.size : Int)
      · rw [if_pos c6] at H
        have c6b0 := eq_true c6
        have c6b1 : decide ((ji4) ≤ (a0.size : Int)) = true := decide_eq_true c6
        clear c6
        obtain rfl := Option.some.inj H
        go_enter Try.func75, Try.ntmps75
        go_wp2
        go_ret
        exact ⟨by first | rfl | (simp; done) | (simp only [← hji4] <;> (first | rfl | simp)) | (simp [*]; done), by repeat (first | exact Drawn0.refl _ | apply Drawn0.step)⟩
      · rw [if_neg c6] at H
        exact absurd H (by simp)
    · rw [if_neg c5] at H
      exact absurd H (by simp)
  · rw [if_neg c3] at H
    have c3b0 : decide ((a1.size : Int) ≤ (a0.size : Int)) = false := decide_eq_false c3
    have c3b1 : decide (a1.size ≤ a0.size) = false := decide_eq_false (fun h => c3 (Int.ofNat_le.mpr h))
    clear c3
    obtain rfl := Option.some.inj H
    go_enter Try.func75, Try.ntmps75
    go_wp2
    go_ret
    exact ⟨by first | rfl | (simp; done) | (simp [*]; done), by repeat (first | exact Drawn0.refl _ | apply Drawn0.step)⟩
end Go.Proofs.Ytebmbfobmakheaa.PD
namespace Go.Proofs.Ytebmbfobmakheaa.PD
open Go.RowKit Go.Proofs.YtebmbfobmakheaaW.PrintWords Go.Proofs.YtebmbfobmakheaaW.PrintLast Go.Proofs.YtebmbfobmakheaaW.PrintMore
attribute [local go_sem] isSome_setCell max2_int min2_int max_two min_two max_three min_three max_four min_four
set_option linter.unusedVariables false
set_option linter.unusedSimpArgs false
def strings_HasSuffix.f (a0 : ByteArray) (a1 : ByteArray) : Option (Bool) := (stringslite_HasSuffix.f a0 a1).bind fun t114 => (some t114)
set_option maxHeartbeats 8000000 in
set_option maxRecDepth 100000 in
theorem strings_HasSuffix.calls (a0 : ByteArray) (a1 : ByteArray) (r : Bool) (w : World) (h : strings_HasSuffix.f a0 a1 = some r) :
    Calls Try.prog 37 #[.string a0, .string a1] w fun e w' => e = .returned (.bool r) ∧ Drawn0 w w' := by
  have H : ((stringslite_HasSuffix.f a0 a1).bind fun t114 => (some t114)) = some r := h
  clear h
  replace H := Option.bind_eq_some_iff.mp H
  obtain ⟨t114, A30, H⟩ := H
  replace H : (some t114) = some r := H
  have A3 := Aside0.mk A30
  clear A30
  obtain rfl := Option.some.inj H
  go_enter Try.func37, Try.ntmps37
  go_wp2_with (first | ((with_reducible refine gate_callee (f := 75) rfl ?_); refine goesL_ (some 7) rfl rfl Try.func75 (by kernel_rfl) rfl #[.string a0, .string a1] rfl (by (try simp only [List.map_toArray, List.map_cons, List.map_nil]); first | done | rfl | (simp only [List.length_drop, List.length_take]; rfl)) ?_; (with_reducible refine (stringslite_HasSuffix.calls a0 a1 t114 _ A3.out).mono ?_); rintro e w' ⟨rfl, ⟨nd, rfl⟩⟩; refine ⟨_, rfl, ?_⟩))
  go_ret
  exact ⟨by first | rfl | (simp; done) | (simp [*]; done), by repeat (first | exact Drawn0.refl _ | apply Drawn0.step)⟩
end Go.Proofs.Ytebmbfobmakheaa.PD
namespace Go.Proofs.Ytebmbfobmakheaa.PD
open Go.RowKit Go.Proofs.YtebmbfobmakheaaW.PrintWords Go.Proofs.YtebmbfobmakheaaW.PrintLast Go.Proofs.YtebmbfobmakheaaW.PrintMore
section
variable {P : Program} {ops : Array Oper} {rest : List Oper} {o : Oper} {a : Act} {Q : Exit → Act → World → Prop} {W : World}
theorem gate_tmp {t : Tmp} {xs : Array Operand} {ts : Array TypeId} (_ho : o.op = .call { callee := .value (.tmp t), args := xs, argTypes := ts }) (h : wpList P ops Q (o :: rest) a W) : wpList P ops Q (o :: rest) a W := h
theorem goesF_ {rest : List Oper} {oi : Oper} {a : Act} {w : World} (N : Option Tmp) (hd : oi.dst = N) (hg : oi.guard = none) {f : FuncId} {fn : Func} {xs : Array Operand} {ts : Array TypeId} (hf : P.funcs[f]? = some fn) (hname : (fn.name == "runtime.NumGoroutine") = false) (hb : fn.body.isSome = true) (args : Array Value)
    {c : Operand} {lb : Array Value} (hop : oi.op = .call { callee := .value c, args := xs, argTypes := ts }) (hc : a.eval c = .func (.func f) #[] lb) (hargs : xs.map a.eval ++ lb = args)
    (h : Calls P f args w fun e w' => ∃ v, e = .returned v ∧ wpList P ops Q rest (a.put N v) w') : wpList P ops Q (oi :: rest) a w := by
  refine wpList_plain hg fun K hK => ?_
  have he := enters_ hf hname hb args w
  have hrun : (execOp a.eval oi).run P w = .ok (.enter f args) w := by
    unfold execOp
    simp [hop, resolve, Deferred.ofValue, invoke, hc, hargs, he]
  unfold Oper.wp
  rw [hrun, Oper.upon_enter]
  refine h.mono fun e w'' hh => ?_
  obtain ⟨v, rfl, hk⟩ := hh
  subst hd
  exact hK _ _ hk
end
end Go.Proofs.Ytebmbfobmakheaa.PD
namespace Go.Proofs.Ytebmbfobmakheaa.PD
open Go.RowKit Go.Proofs.YtebmbfobmakheaaW.PrintWords Go.Proofs.YtebmbfobmakheaaW.PrintLast Go.Proofs.YtebmbfobmakheaaW.PrintMore
attribute [local go_sem] isSome_setCell max2_int min2_int max_two min_two
set_option linter.unusedVariables false
set_option linter.unusedSimpArgs false
theorem toList_inj {a b : ByteArray} (h : a.toList = b.toList) : a = b := by
  rw [Lib.toList_data, Lib.toList_data] at h
  cases a; cases b
  simp only at h
  congr 1
  exact Array.toList_inj.1 h
def badR (r : Int) : Bool := decide (r < 33) || (decide (126 < r) || decide (r = 47))
def badB (s : ByteArray) (i : Nat) : Bool := badR ((s.data.getD i 0).toNat : Int)
set_option maxRecDepth 100000 in
set_option maxHeartbeats 1600000 in
theorem bad_calls (r : Int) (b : Bool) (hb : badR r = b) (w : World) : Calls Try.prog 76 (#[.int .i32 r] ++ #[]) w fun e w' => e = .returned (.bool b) ∧ w' = w := by
  unfold badR at hb
  subst hb
  by_cases h1 : r < 33
  · have d1 : decide (r < 33) = true := decide_eq_true h1
    go_enter Try.func76, Try.ntmps76
    go_wp2
    go_ret
    exact ⟨by simp [h1], rfl⟩
  · have d1 : decide (r < 33) = false := decide_eq_false h1
    by_cases h2 : 126 < r
    · have d2 : decide (r > 126) = true := decide_eq_true h2
      go_enter Try.func76, Try.ntmps76
      go_wp2
      go_ret
      exact ⟨by simp [h1, h2], rfl⟩
    · have d2 : decide (r > 126) = false := decide_eq_false h2
      go_enter Try.func76, Try.ntmps76
      go_wp2
      go_ret
      refine ⟨?_, rfl⟩
      have e : ∀ a c : Int, (a == c) = decide (a = c) := fun a c => by rw [Bool.eq_iff_iff]; simp
      simp [h1, h2, e]
theorem iter_below (w : World) (s : ByteArray) (p : Nat) : Below w.heap.size w (w.iter s p) := below_alloc (Below.refl _ w) _
set_option maxRecDepth 100000 in
set_option maxHeartbeats 4000000 in
theorem indexFunc_walk (s : ByteArray) (w : World) (hs : s.size ≤ 140737488355328) :
    Calls Try.prog 98 #[.string s, .func (.func 76) #[] #[], .bool true] w fun e w' => ∃ n : Int, e = .returned (.int .i64 n) ∧ (n < 0 ↔ ∀ i, i < s.size → badB s i = false) ∧ Below w.heap.size w w' := by
  have HB := Aside0.mk (iter_below w s 0)
  go_enter Try.func98, Try.ntmps98
  go_wp2
  go_loopw [7] (fun _ wr => ∃ pos : Nat, wr = w.iter s pos ∧ pos ≤ s.size ∧ Aside0 (∀ i, i < pos → badB s i = false)) (fun _ wr => s.size - wr.iterPos w.heap.size)
  case atStart => exact ⟨0, rfl, Nat.zero_le _, ⟨fun i hi => absurd hi (Nat.not_lt_zero _)⟩⟩
  case round =>
    obtain ⟨pos, rfl, hpos, hno⟩ := hrel
    by_cases hlt : pos < s.size
    · have hnx := fun ty => run_next_any (P := Try.prog) w s pos ty hlt
      obtain ⟨rn, ern⟩ : ∃ rn, Utf8.decode s pos = rn := ⟨_, rfl⟩
      rw [ern] at hnx
      by_cases hbad : badR (rn.1 : Int) = true
      · have HC := Aside0.mk (bad_calls (rn.1 : Int) true hbad (w.iter s (pos + rn.2)))
        have hnn : ¬ ∀ i, i < s.size → badB s i = false := by
          intro hall
          have h0 := hall pos hlt
          have hb0 : badB s pos = badR ((s[pos]'hlt).toNat : Int) := by unfold badB; congr 3; exact (Array.getD_eq_getD_getElem? ..).trans (by rw [Array.getElem?_eq_getElem hlt]; rfl)
          by_cases ha : (s[pos]'hlt).toNat < 128
          · have := decode_ascii s pos hlt ha
            rw [ern] at this
            rw [hb0] at h0
            rw [this] at hbad
            rw [hbad] at h0
            cases h0
          · rw [hb0] at h0
            unfold badR at h0
            simp at h0
            omega
        have HN := Aside0.mk hnn
        clear hnn
        go_wp2_with ((with_reducible refine gate_tmp (t := 15) rfl ?_); refine goesF_ (some 17) rfl rfl Try.func76 (by kernel_rfl) rfl (args := #[.int .i32 (rn.1 : Int)] ++ #[]) rfl rfl (by (try simp only [List.map_toArray, List.map_cons, List.map_nil]); first | done | rfl) ?_; refine HC.out.mono ?_; rintro e W' ⟨rfl, rfl⟩; refine ⟨_, rfl, ?_⟩)
        go_ret
        exact ⟨_, rfl, ⟨fun h => by omega, fun h => absurd h HN.out⟩, iter_below w s _⟩
      · have hbad' : badR (rn.1 : Int) = false := by simpa using hbad
        have HC := Aside0.mk (bad_calls (rn.1 : Int) false hbad' (w.iter s (pos + rn.2)))
        have ha : (s[pos]'hlt).toNat < 128 := by
          rcases Nat.lt_or_ge (s[pos]'hlt).toNat 128 with h | h
          · exact h
          · have := (decode_high s pos hlt h).1
            rw [ern] at this
            unfold badR at hbad'
            simp at hbad'
            omega
        have hd := decode_ascii s pos hlt ha
        rw [ern] at hd
        subst hd
        have hb0 : badB s pos = false := by
          rw [← hbad']
          unfold badB
          congr 3
          exact (Array.getD_eq_getD_getElem? ..).trans (by rw [Array.getElem?_eq_getElem hlt]; rfl)
        have HNX := Aside0.mk (show ∀ i, i < pos + 1 → badB s i = false from fun i hi => by
          rcases Nat.lt_or_ge i pos with h | h
          · exact hno.out i h
          · have e : i = pos := by omega
            rw [e]; exact hb0)
        clear hb0 hbad hbad' ern
        go_wp2_with ((with_reducible refine gate_tmp (t := 15) rfl ?_); refine goesF_ (some 17) rfl rfl Try.func76 (by kernel_rfl) rfl (args := #[.int .i32 ((s[pos]'hlt).toNat : Int)] ++ #[]) rfl rfl (by (try simp only [List.map_toArray, List.map_cons, List.map_nil]); first | done | rfl) ?_; refine HC.out.mono ?_; rintro e W' ⟨rfl, rfl⟩; refine ⟨_, rfl, ?_⟩)
        go_roundw
        case rel => exact ⟨pos + 1, rfl, hlt, HNX⟩
        case measure => rw [World.iterPos_iter, World.iterPos_iter]; omega
    · have hnx := fun ty => run_next_end (P := Try.prog) w s pos ty hlt
      go_wp2
      go_ret
      exact ⟨-1, rfl, ⟨fun _ i hi => hno.out i (by omega), fun _ => by omega⟩, iter_below w s pos⟩
def allGood (s : ByteArray) : Bool := (List.range s.size).all fun i => !badB s i
theorem allGood_iff (s : ByteArray) : allGood s = true ↔ ∀ i, i < s.size → badB s i = false := by unfold allGood; simp
def nameP (s : ByteArray) : Bool := (s.toList != ([] : List UInt8)) && (decide (s.size ≤ 24) && ((s.toList != ([46] : List UInt8)) && ((s.toList != ([46, 46] : List UInt8)) && allGood s)))
set_option maxRecDepth 100000 in
set_option maxHeartbeats 4000000 in
theorem indexFuncS_walk (s : ByteArray) (w : World) (hs : s.size ≤ 140737488355328) :
    Calls Try.prog 77 #[.string s, .func (.func 76) #[] #[]] w fun e w' => ∃ n : Int, e = .returned (.int .i64 n) ∧ (n < 0 ↔ ∀ i, i < s.size → badB s i = false) ∧ Below w.heap.size w w' := by
  go_enter Try.func77, Try.ntmps77
  go_wp2_with (go_at_call 98; refine (indexFunc_walk s w hs).mono ?_; rintro e w1 ⟨n, rfl, hn, hb⟩; have HN := Aside0.mk hn; have HB := Aside0.mk hb; clear hn hb)
  go_ret
  exact ⟨n, rfl, HN.out, HB.out⟩
set_option maxRecDepth 100000 in
set_option maxHeartbeats 4000000 in
theorem dir_Name_walk (s : ByteArray) (w : World) (hs : s.size ≤ 140737488355328) :
    Calls Try.prog 38 #[.string s] w fun e w' => e = .returned (.bool (nameP s)) ∧ Below w.heap.size w w' := by
  by_cases h1 : s.toList = ([] : List UInt8)
  · obtain rfl : s = ⟨#[]⟩ := toList_inj (h1.trans (by kernel_rfl))
    go_enter Try.func38, Try.ntmps38
    go_wp2
    go_ret
    exact ⟨by rw [show nameP ⟨#[]⟩ = false by decide +kernel]; rfl, Below.refl _ _⟩
  · have h1' : s.toList.isEmpty = false := by cases hh : s.toList with | nil => exact absurd hh h1 | cons a b => rfl
    have g1 : (s.toList != ([] : List UInt8)) = true := bne_iff_ne.2 h1
    cases h2 : decide (s.size ≤ 24) with
    | false =>
      have hP : nameP s = false := by unfold nameP; rw [h2]; simp
      rw [hP]
      have d2 : decide ((s.size : Int) ≤ 24) = false := decide_eq_false (by have := of_decide_eq_false h2; omega)
      go_enter Try.func38, Try.ntmps38
      go_wp2
      go_ret
      exact ⟨by first | rfl | (simp [h1', d2]; done), Below.refl _ _⟩
    | true =>
      have d2 : decide ((s.size : Int) ≤ 24) = true := decide_eq_true (by have := of_decide_eq_true h2; omega)
      by_cases h3 : s.toList = ([46] : List UInt8)
      · obtain rfl : s = ⟨#[46]⟩ := toList_inj (h3.trans (by kernel_rfl))
        go_enter Try.func38, Try.ntmps38
        go_wp2
        go_ret
        exact ⟨by rw [show nameP ⟨#[46]⟩ = false by decide +kernel]; rfl, Below.refl _ _⟩
      · by_cases h4 : s.toList = ([46, 46] : List UInt8)
        · obtain rfl : s = ⟨#[46, 46]⟩ := toList_inj (h4.trans (by kernel_rfl))
          go_enter Try.func38, Try.ntmps38
          go_wp2
          go_ret
          exact ⟨by rw [show nameP ⟨#[46, 46]⟩ = false by decide +kernel]; rfl, Below.refl _ _⟩
        · have hP : nameP s = allGood s := by unfold nameP; rw [g1, h2, bne_iff_ne.2 h3, bne_iff_ne.2 h4]; rfl
          rw [hP]
          have q3 : (s.toList = ([46] : List UInt8)) = False := eq_false h3
          have q4 : (s.toList = ([46, 46] : List UInt8)) = False := eq_false h4
          go_enter Try.func38, Try.ntmps38
          go_wp2_with (go_at_call 77; refine (indexFuncS_walk s w hs).mono ?_; rintro e w1 ⟨n, rfl, hn, hb⟩; have HN := Aside0.mk hn; have HB := Aside0.mk hb; clear hn hb)
          go_ret
          refine ⟨?_, HB.out⟩
          have : decide (n < 0) = allGood s := by rw [Bool.eq_iff_iff, decide_eq_true_iff, allGood_iff]; exact HN.out
          simp [h1', d2, q3, q4, this]
def dir_Name.f (a0 : ByteArray) : Option (Bool) := if a0.size ≤ 140737488355328 then some (nameP a0) else none
theorem dir_Name.calls (a0 : ByteArray) (r : Bool) (w : World) (h : dir_Name.f a0 = some r) :
    Calls Try.prog 38 #[.string a0] w fun e w' => e = .returned (.bool r) ∧ Below w.heap.size w w' := by
  unfold dir_Name.f at h
  split at h
  case isFalse => cases h
  rename_i hc
  obtain rfl := Option.some.inj h
  exact dir_Name_walk a0 w hc
end Go.Proofs.Ytebmbfobmakheaa.PD
namespace Go.Proofs.Ytebmbfobmakheaa.PD
open Go.RowKit Go.Proofs.YtebmbfobmakheaaW.PrintWords Go.Proofs.YtebmbfobmakheaaW.PrintLast Go.Proofs.YtebmbfobmakheaaW.PrintMore
attribute [local go_sem] isSome_setCell max2_int min2_int max_two min_two max_three min_three max_four min_four
set_option linter.unusedVariables false
set_option linter.unusedSimpArgs false
def itip_User.j0 : Nat → ByteArray → Bool → Option (ByteArray × Bool)
  | 0, _, _ => none
  | k + 1, x0, x20 => if x20 = true then (some ((⟨#[]⟩ : ByteArray), false)) else (if 7 ≤ (wrap64 ((x0.size : Int) - 8)) then (if (wrap64 ((x0.size : Int) - 8)) ≤ (x0.size : Int) then ((dir_Name.f (x0.extract 7 ((wrap64 ((x0.size : Int) - 8)) : Int).toNat)).bind fun t121 => (if t121 = true then (some (x0.extract 7 ((wrap64 ((x0.size : Int) - 8)) : Int).toNat, true)) else (some ((⟨#[]⟩ : ByteArray), false)))) else (none)) else (none))
def itip_User.f (k : Nat) (a0 : ByteArray) : Option (ByteArray × Bool) := (text_Lower.f a0).bind fun t118 => ((strings_HasPrefix.f t118 (⟨#[109, 97, 105, 108, 116, 111, 58]⟩ : ByteArray)).bind fun t119 => (if t119 = true then ((strings_HasSuffix.f t118 (⟨#[64, 97, 108, 109, 97, 110, 97, 99]⟩ : ByteArray)).bind fun t120 => (if t120 = true then (itip_User.j0 k a0 (decide ((a0.size : Int) < 15))) else (itip_User.j0 k a0 true))) else (itip_User.j0 k a0 true)))
set_option maxHeartbeats 8000000 in
set_option maxRecDepth 100000 in
theorem itip_User.calls (k : Nat) (a0 : ByteArray) (r1 : ByteArray) (r2 : Bool) (w : World) (h : itip_User.f k a0 = some (r1, r2)) :
    Calls Try.prog 8 #[.string a0] w fun e w' => e = .returned (.tuple #[.string r1, .bool r2]) ∧ Below w.heap.size w w' := by
  have HB := Aside0.mk (Below.refl w.heap.size w)
  have H : ((text_Lower.f a0).bind fun t118 => ((strings_HasPrefix.f t118 (⟨#[109, 97, 105, 108, 116, 111, 58]⟩ : ByteArray)).bind fun t119 => (if t119 = true then ((strings_HasSuffix.f t118 (⟨#[64, 97, 108, 109, 97, 110, 97, 99]⟩ : ByteArray)).bind fun t120 => (if t120 = true then (itip_User.j0 k a0 (decide ((a0.size : Int) < 15))) else (itip_User.j0 k a0 true))) else (itip_User.j0 k a0 true)))) = some (r1, r2) := h
  clear h
  replace H := Option.bind_eq_some_iff.mp H
  obtain ⟨t118, A20, H⟩ := H
  replace H : ((strings_HasPrefix.f t118 (⟨#[109, 97, 105, 108, 116, 111, 58]⟩ : ByteArray)).bind fun t119 => (if t119 = true then ((strings_HasSuffix.f t118 (⟨#[64, 97, 108, 109, 97, 110, 97, 99]⟩ : ByteArray)).bind fun t120 => (if t120 = true then (itip_User.j0 k a0 (decide ((a0.size : Int) < 15))) else (itip_User.j0 k a0 true))) else (itip_User.j0 k a0 true))) = some (r1, r2) := H
  have A2 := Aside0.mk A20
  clear A20
  have HC3 := Aside0.mk H
  clear H
  go_enter Try.func8, Try.ntmps8
  go_upto_region 2 with (first | ((with_reducible refine gate_callee (f := 35) rfl ?_); refine goesL_ (some 7) rfl rfl Try.func35 (by kernel_rfl) rfl #[.string a0] rfl (by (try simp only [List.map_toArray, List.map_cons, List.map_nil]); first | done | rfl | (simp only [List.length_drop, List.length_take]; rfl)) ?_; (with_reducible refine (text_Lower.calls a0 t118 _ A2.out).mono ?_); rintro e w4 ⟨rfl, hb⟩; refine ⟨_, rfl, ?_⟩; have n0_ := Aside0.mk (below_step (by repeat (first | (with_reducible first | exact HB.out | apply below_alloc | apply pw_below_drewN | apply below_drew1) | exact HB.out)) hb); clear HB; have HB := n0_; clear n0_; (try clear hb); (try clear hb2); (try clear hk); (try clear hi)))
  (try simp only [Act.put, List.setIfInBounds_toArray, List.set_cons_zero, List.set_cons_succ])
  go_cut [20] (fun v20 wc => ∃ (kq : Nat) (x20_2 : Bool), v20 = .bool x20_2 ∧ Aside0 (itip_User.j0 kq a0 x20_2 = some (r1, r2)) ∧ Aside0 (kq ≤ k) ∧ Aside0 (Below w.heap.size w wc))
  case first =>
    have H := HC3.out
    clear HC3
    replace H := Option.bind_eq_some_iff.mp H
    obtain ⟨t119, A50, H⟩ := H
    replace H : (if t119 = true then ((strings_HasSuffix.f t118 (⟨#[64, 97, 108, 109, 97, 110, 97, 99]⟩ : ByteArray)).bind fun t120 => (if t120 = true then (itip_User.j0 k a0 (decide ((a0.size : Int) < 15))) else (itip_User.j0 k a0 true))) else (itip_User.j0 k a0 true)) = some (r1, r2) := H
    have A5 := Aside0.mk A50
    clear A50
    by_cases c6 : t119 = true
    · subst c6
      have H1 : ((strings_HasSuffix.f t118 (⟨#[64, 97, 108, 109, 97, 110, 97, 99]⟩ : ByteArray)).bind fun t120 => (if t120 = true then (itip_User.j0 k a0 (decide ((a0.size : Int) < 15))) else (itip_User.j0 k a0 true))) = some (r1, r2) := by rw [if_pos rfl] at H; exact H
      clear H
      have H := H1
      clear H1
      replace H := Option.bind_eq_some_iff.mp H
      obtain ⟨t120, A70, H⟩ := H
      replace H : (if t120 = true then (itip_User.j0 k a0 (decide ((a0.size : Int) < 15))) else (itip_User.j0 k a0 true)) = some (r1, r2) := H
      have A7 := Aside0.mk A70
      clear A70
      by_cases c8 : t120 = true
      · subst c8
        have H1 : (itip_User.j0 k a0 (decide ((a0.size : Int) < 15))) = some (r1, r2) := by rw [if_pos rfl] at H; exact H
        clear H
        have H := H1
        clear H1
        have H' := Aside0.mk H
        clear H
        go_wp2_with (first | ((with_reducible refine gate_callee (f := 36) rfl ?_); refine goesL_ (some 9) rfl rfl Try.func36 (by kernel_rfl) rfl #[.string t118, .string (⟨#[109, 97, 105, 108, 116, 111, 58]⟩ : ByteArray)] rfl (by (try simp only [List.map_toArray, List.map_cons, List.map_nil]); first | done | rfl | (simp only [List.length_drop, List.length_take]; rfl)) ?_; (with_reducible refine (strings_HasPrefix.calls t118 (⟨#[109, 97, 105, 108, 116, 111, 58]⟩ : ByteArray) true _ A5.out).mono ?_); rintro e w' ⟨rfl, ⟨nd, rfl⟩⟩; refine ⟨_, rfl, ?_⟩) | (go_at_call 37; (with_reducible refine (strings_HasSuffix.calls t118 (⟨#[64, 97, 108, 109, 97, 110, 97, 99]⟩ : ByteArray) true _ A7.out).mono ?_); rintro e w' ⟨rfl, ⟨nd, rfl⟩⟩))
        go_meet
        case rel => exact ⟨_, (decide ((a0.size : Int) < 15)), (by first | rfl | (simp; done) | (simp [*]; done)), H', ⟨by first | omega | exact Nat.le_refl _⟩, ⟨by repeat (first | (with_reducible first | exact HB.out | apply below_alloc | apply pw_below_drewN | apply below_drew1) | exact HB.out)⟩⟩
      · replace c8 := Bool.eq_false_iff.mpr c8
        subst c8
        have H1 : (itip_User.j0 k a0 true) = some (r1, r2) := by rw [if_neg (show ¬ (false = true) by decide)] at H; exact H
        clear H
        have H := H1
        clear H1
        have H' := Aside0.mk H
        clear H
        go_wp2_with (first | ((with_reducible refine gate_callee (f := 36) rfl ?_); refine goesL_ (some 9) rfl rfl Try.func36 (by kernel_rfl) rfl #[.string t118, .string (⟨#[109, 97, 105, 108, 116, 111, 58]⟩ : ByteArray)] rfl (by (try simp only [List.map_toArray, List.map_cons, List.map_nil]); first | done | rfl | (simp only [List.length_drop, List.length_take]; rfl)) ?_; (with_reducible refine (strings_HasPrefix.calls t118 (⟨#[109, 97, 105, 108, 116, 111, 58]⟩ : ByteArray) true _ A5.out).mono ?_); rintro e w' ⟨rfl, ⟨nd, rfl⟩⟩; refine ⟨_, rfl, ?_⟩) | (go_at_call 37; (with_reducible refine (strings_HasSuffix.calls t118 (⟨#[64, 97, 108, 109, 97, 110, 97, 99]⟩ : ByteArray) false _ A7.out).mono ?_); rintro e w' ⟨rfl, ⟨nd, rfl⟩⟩))
        go_meet
        case rel => exact ⟨_, (true), (by first | rfl | (simp; done) | (simp [*]; done)), H', ⟨by first | omega | exact Nat.le_refl _⟩, ⟨by repeat (first | (with_reducible first | exact HB.out | apply below_alloc | apply pw_below_drewN | apply below_drew1) | exact HB.out)⟩⟩
    · replace c6 := Bool.eq_false_iff.mpr c6
      subst c6
      have H1 : (itip_User.j0 k a0 true) = some (r1, r2) := by rw [if_neg (show ¬ (false = true) by decide)] at H; exact H
      clear H
      have H := H1
      clear H1
      have H' := Aside0.mk H
      clear H
      go_wp2_with (first | ((with_reducible refine gate_callee (f := 36) rfl ?_); refine goesL_ (some 9) rfl rfl Try.func36 (by kernel_rfl) rfl #[.string t118, .string (⟨#[109, 97, 105, 108, 116, 111, 58]⟩ : ByteArray)] rfl (by (try simp only [List.map_toArray, List.map_cons, List.map_nil]); first | done | rfl | (simp only [List.length_drop, List.length_take]; rfl)) ?_; (with_reducible refine (strings_HasPrefix.calls t118 (⟨#[109, 97, 105, 108, 116, 111, 58]⟩ : ByteArray) false _ A5.out).mono ?_); rintro e w' ⟨rfl, ⟨nd, rfl⟩⟩; refine ⟨_, rfl, ?_⟩))
      go_meet
      case rel => exact ⟨_, (true), (by first | rfl | (simp; done) | (simp [*]; done)), H', ⟨by first | omega | exact Nat.le_refl _⟩, ⟨by repeat (first | (with_reducible first | exact HB.out | apply below_alloc | apply pw_below_drewN | apply below_drew1) | exact HB.out)⟩⟩
  case rest =>
    clear HC3
    try clear p2
    try clear c3
    try clear c6
    try clear c8
    obtain ⟨kq, x20_2, rfl, HA, HJ2, HB⟩ := hcut
    cases kq with
    | zero => exact absurd HA.out (by simp [itip_User.j0])
    | succ kj2 =>
      have H := HA.out
      clear HA
      simp only [itip_User.j0] at H
      by_cases c9 : x20_2 = true
      · subst c9
        have H1 : (some ((⟨#[]⟩ : ByteArray), false)) = some (r1, r2) := by rw [if_pos rfl] at H; exact H
        clear H
        have H := H1
        clear H1
        simp only [Option.some.injEq, Prod.mk.injEq] at H
        obtain ⟨rfl, rfl⟩ := H
        go_wp2
        go_ret2
        exact ⟨by first | rfl | (simp [errW_none, errW_some] <;> rfl) | (simp [*, errW_none, errW_some] <;> rfl), by repeat (first | (with_reducible first | exact HB.out | apply below_alloc | apply pw_below_drewN | apply below_drew1) | exact HB.out)⟩
      · replace c9 := Bool.eq_false_iff.mpr c9
        subst c9
        have H1 : (if 7 ≤ (wrap64 ((a0.size : Int) - 8)) then (if (wrap64 ((a0.size : Int) - 8)) ≤ (a0.size : Int) then ((dir_Name.f (a0.extract 7 ((wrap64 ((a0.size : Int) - 8)) : Int).toNat)).bind fun t121 => (if t121 = true then (some (a0.extract 7 ((wrap64 ((a0.size : Int) - 8)) : Int).toNat, true)) else (some ((⟨#[]⟩ : ByteArray), false)))) else (none)) else (none)) = some (r1, r2) := by rw [if_neg (show ¬ (false = true) by decide)] at H; exact H
        clear H
        have H := H1
        clear H1
        by_cases c10 : 7 ≤ (wrap64 ((a0.size : Int) - 8))
        · rw [if_pos c10] at H
          have c10b0 := eq_true c10
          have c10b1 : decide (7 ≤ (wrap64 ((a0.size : Int) - 8))) = true := decide_eq_true c10
          clear c10
          by_cases c11 : (wrap64 ((a0.size : Int) - 8)) ≤ (a0.size : Int)
          · rw [if_pos c11] at H
            have c11b0 := eq_true c11
            have c11b1 : decide ((wrap64 ((a0.size : Int) - 8)) ≤ (a0.size : Int)) = true := decide_eq_true c11
            clear c11
            replace H := Option.bind_eq_some_iff.mp H
            obtain ⟨t121, A120, H⟩ := H
            replace H : (if t121 = true then (some (a0.extract 7 ((wrap64 ((a0.size : Int) - 8)) : Int).toNat, true)) else (some ((⟨#[]⟩ : ByteArray), false))) = some (r1, r2) := H
            have A12 := Aside0.mk A120
            clear A120
            by_cases c13 : t121 = true
            · subst c13
              have H1 : (some (a0.extract 7 ((wrap64 ((a0.size : Int) - 8)) : Int).toNat, true)) = some (r1, r2) := by rw [if_pos rfl] at H; exact H
              clear H
              have H := H1
              clear H1
              simp only [Option.some.injEq, Prod.mk.injEq] at H
              obtain ⟨rfl, rfl⟩ := H
              go_wp2_with (first | ((with_reducible refine gate_callee (f := 38) rfl ?_); refine goesL_ (some 27) rfl rfl Try.func38 (by kernel_rfl) rfl #[.string (a0.extract 7 ((wrap64 ((a0.size : Int) - 8)) : Int).toNat)] rfl (by (try simp only [List.map_toArray, List.map_cons, List.map_nil]); first | done | rfl | (simp only [List.length_drop, List.length_take]; rfl)) ?_; (with_reducible refine (dir_Name.calls (a0.extract 7 ((wrap64 ((a0.size : Int) - 8)) : Int).toNat) true _ A12.out).mono ?_); rintro e w14 ⟨rfl, hb⟩; refine ⟨_, rfl, ?_⟩; have n0_ := Aside0.mk (below_step (by repeat (first | (with_reducible first | exact HB.out | apply below_alloc | apply pw_below_drewN | apply below_drew1) | exact HB.out)) hb); clear HB; have HB := n0_; clear n0_; (try clear hb); (try clear hb2); (try clear hk); (try clear hi)))
              go_ret2
              exact ⟨by first | rfl | (simp [errW_none, errW_some] <;> rfl) | (simp [*, errW_none, errW_some] <;> rfl), by repeat (first | (with_reducible first | exact HB.out | apply below_alloc | apply pw_below_drewN | apply below_drew1) | exact HB.out)⟩
            · replace c13 := Bool.eq_false_iff.mpr c13
              subst c13
              have H1 : (some ((⟨#[]⟩ : ByteArray), false)) = some (r1, r2) := by rw [if_neg (show ¬ (false = true) by decide)] at H; exact H
              clear H
              have H := H1
              clear H1
              simp only [Option.some.injEq, Prod.mk.injEq] at H
              obtain ⟨rfl, rfl⟩ := H
              go_wp2_with (first | ((with_reducible refine gate_callee (f := 38) rfl ?_); refine goesL_ (some 27) rfl rfl Try.func38 (by kernel_rfl) rfl #[.string (a0.extract 7 ((wrap64 ((a0.size : Int) - 8)) : Int).toNat)] rfl (by (try simp only [List.map_toArray, List.map_cons, List.map_nil]); first | done | rfl | (simp only [List.length_drop, List.length_take]; rfl)) ?_; (with_reducible refine (dir_Name.calls (a0.extract 7 ((wrap64 ((a0.size : Int) - 8)) : Int).toNat) false _ A12.out).mono ?_); rintro e w15 ⟨rfl, hb⟩; refine ⟨_, rfl, ?_⟩; have n0_ := Aside0.mk (below_step (by repeat (first | (with_reducible first | exact HB.out | apply below_alloc | apply pw_below_drewN | apply below_drew1) | exact HB.out)) hb); clear HB; have HB := n0_; clear n0_; (try clear hb); (try clear hb2); (try clear hk); (try clear hi)))
              go_ret2
              exact ⟨by first | rfl | (simp [errW_none, errW_some] <;> rfl) | (simp [*, errW_none, errW_some] <;> rfl), by repeat (first | (with_reducible first | exact HB.out | apply below_alloc | apply pw_below_drewN | apply below_drew1) | exact HB.out)⟩
          · rw [if_neg c11] at H
            exact absurd H (by simp)
        · rw [if_neg c10] at H
          exact absurd H (by simp)
end Go.Proofs.Ytebmbfobmakheaa.PD
namespace Go.Proofs.Ytebmbfobmakheaa.PD
open Go.RowKit Go.Proofs.YtebmbfobmakheaaW.PrintWords Go.Proofs.YtebmbfobmakheaaW.PrintLast Go.Proofs.YtebmbfobmakheaaW.PrintMore
attribute [local go_sem] isSome_setCell max2_int min2_int max_two min_two max_three min_three max_four min_four
set_option linter.unusedVariables false
set_option linter.unusedSimpArgs false
def itip_alike.f (k : Nat) (a0 : ByteArray) (a1 : ByteArray) : Option (Bool) := (itip_User.f k a0).bind fun bt156 => ((itip_User.f k a1).bind fun bt158 => (if a0.toList = a1.toList then (some true) else (if bt156.2 = true then (if bt158.2 = true then (some (bt156.1.toList == bt158.1.toList)) else (some false)) else (some false))))
set_option maxHeartbeats 8000000 in
set_option maxRecDepth 100000 in
theorem itip_alike.calls (k : Nat) (a0 : ByteArray) (a1 : ByteArray) (r : Bool) (w : World) (h : itip_alike.f k a0 a1 = some r) :
    Calls Try.prog 48 #[.string a0, .string a1] w fun e w' => e = .returned (.bool r) ∧ Below w.heap.size w w' := by
  have HB := Aside0.mk (Below.refl w.heap.size w)
  have H : ((itip_User.f k a0).bind fun bt156 => ((itip_User.f k a1).bind fun bt158 => (if a0.toList = a1.toList then (some true) else (if bt156.2 = true then (if bt158.2 = true then (some (bt156.1.toList == bt158.1.toList)) else (some false)) else (some false))))) = some r := h
  clear h
  replace H := Option.bind_eq_some_iff.mp H
  obtain ⟨⟨t156, t157⟩, A30, H⟩ := H
  replace H : ((itip_User.f k a1).bind fun bt158 => (if a0.toList = a1.toList then (some true) else (if t157 = true then (if bt158.2 = true then (some (t156.toList == bt158.1.toList)) else (some false)) else (some false)))) = some r := H
  have A3 := Aside0.mk A30
  clear A30
  replace H := Option.bind_eq_some_iff.mp H
  obtain ⟨⟨t158, t159⟩, A40, H⟩ := H
  replace H : (if a0.toList = a1.toList then (some true) else (if t157 = true then (if t159 = true then (some (t156.toList == t158.toList)) else (some false)) else (some false))) = some r := H
  have A4 := Aside0.mk A40
  clear A40
  by_cases c5 : a0.toList = a1.toList
  · rw [if_pos c5] at H
    have c5b0 : (a0.toList == a1.toList) = true := beq_iff_eq.mpr c5
    have c5b1 : (a0.toList != a1.toList) = false := bne_eq_false_iff_eq.mpr c5
    clear c5
    obtain rfl := Option.some.inj H
    go_enter Try.func48, Try.ntmps48
    go_wp2_with (first | ((with_reducible refine gate_callee (f := 8) rfl ?_); refine goesL_ (some 11) rfl rfl Try.func8 (by kernel_rfl) rfl #[.string a0] rfl (by (try simp only [List.map_toArray, List.map_cons, List.map_nil]); first | done | rfl | (simp only [List.length_drop, List.length_take]; rfl)) ?_; (with_reducible refine (itip_User.calls k a0 t156 t157 _ A3.out).mono ?_); rintro e w6 ⟨rfl, hb⟩; refine ⟨_, rfl, ?_⟩; have n0_ := Aside0.mk (below_step (by repeat (first | (with_reducible first | exact HB.out | apply below_alloc | apply pw_below_drewN | apply below_drew1) | exact HB.out)) hb); clear HB; have HB := n0_; clear n0_; (try clear hb); (try clear hb2); (try clear hk); (try clear hi)) | ((with_reducible refine gate_callee (f := 8) rfl ?_); refine goesL_ (some 16) rfl rfl Try.func8 (by kernel_rfl) rfl #[.string a1] rfl (by (try simp only [List.map_toArray, List.map_cons, List.map_nil]); first | done | rfl | (simp only [List.length_drop, List.length_take]; rfl)) ?_; (with_reducible refine (itip_User.calls k a1 t158 t159 _ A4.out).mono ?_); rintro e w7 ⟨rfl, hb⟩; refine ⟨_, rfl, ?_⟩; have n0_ := Aside0.mk (below_step (by repeat (first | (with_reducible first | exact HB.out | apply below_alloc | apply pw_below_drewN | apply below_drew1) | exact HB.out)) hb); clear HB; have HB := n0_; clear n0_; (try clear hb); (try clear hb2); (try clear hk); (try clear hi)))
    go_ret
    exact ⟨by first | rfl | (simp [errW_none, errW_some] <;> rfl) | (simp [*, errW_none, errW_some] <;> rfl), by repeat (first | (with_reducible first | exact HB.out | apply below_alloc | apply pw_below_drewN | apply below_drew1) | exact HB.out)⟩
  · rw [if_neg c5] at H
    have c5b0 : (a0.toList == a1.toList) = false := beq_eq_false_iff_ne.mpr c5
    have c5b1 : (a0.toList != a1.toList) = true := bne_iff_ne.mpr c5
    by_cases c8 : t157 = true
    · subst c8
      have H1 : (if t159 = true then (some (t156.toList == t158.toList)) else (some false)) = some r := by rw [if_pos rfl] at H; exact H
      clear H
      have H := H1
      clear H1
      by_cases c9 : t159 = true
      · subst c9
        have H1 : (some (t156.toList == t158.toList)) = some r := by rw [if_pos rfl] at H; exact H
        clear H
        have H := H1
        clear H1
        obtain rfl := Option.some.inj H
        go_enter Try.func48, Try.ntmps48
        go_wp2_with (first | ((with_reducible refine gate_callee (f := 8) rfl ?_); refine goesL_ (some 11) rfl rfl Try.func8 (by kernel_rfl) rfl #[.string a0] rfl (by (try simp only [List.map_toArray, List.map_cons, List.map_nil]); first | done | rfl | (simp only [List.length_drop, List.length_take]; rfl)) ?_; (with_reducible refine (itip_User.calls k a0 t156 true _ A3.out).mono ?_); rintro e w10 ⟨rfl, hb⟩; refine ⟨_, rfl, ?_⟩; have n0_ := Aside0.mk (below_step (by repeat (first | (with_reducible first | exact HB.out | apply below_alloc | apply pw_below_drewN | apply below_drew1) | exact HB.out)) hb); clear HB; have HB := n0_; clear n0_; (try clear hb); (try clear hb2); (try clear hk); (try clear hi)) | ((with_reducible refine gate_callee (f := 8) rfl ?_); refine goesL_ (some 16) rfl rfl Try.func8 (by kernel_rfl) rfl #[.string a1] rfl (by (try simp only [List.map_toArray, List.map_cons, List.map_nil]); first | done | rfl | (simp only [List.length_drop, List.length_take]; rfl)) ?_; (with_reducible refine (itip_User.calls k a1 t158 true _ A4.out).mono ?_); rintro e w11 ⟨rfl, hb⟩; refine ⟨_, rfl, ?_⟩; have n0_ := Aside0.mk (below_step (by repeat (first | (with_reducible first | exact HB.out | apply below_alloc | apply pw_below_drewN | apply below_drew1) | exact HB.out)) hb); clear HB; have HB := n0_; clear n0_; (try clear hb); (try clear hb2); (try clear hk); (try clear hi)))
        go_ret
        exact ⟨by first | rfl | (simp [errW_none, errW_some] <;> rfl) | (simp [*, errW_none, errW_some] <;> rfl), by repeat (first | (with_reducible first | exact HB.out | apply below_alloc | apply pw_below_drewN | apply below_drew1) | exact HB.out)⟩
      · replace c9 := Bool.eq_false_iff.mpr c9
        subst c9
        have H1 : (some false) = some r := by rw [if_neg (show ¬ (false = true) by decide)] at H; exact H
        clear H
        have H := H1
        clear H1
        obtain rfl := Option.some.inj H
        go_enter Try.func48, Try.ntmps48
        go_wp2_with (first | ((with_reducible refine gate_callee (f := 8) rfl ?_); refine goesL_ (some 11) rfl rfl Try.func8 (by kernel_rfl) rfl #[.string a0] rfl (by (try simp only [List.map_toArray, List.map_cons, List.map_nil]); first | done | rfl | (simp only [List.length_drop, List.length_take]; rfl)) ?_; (with_reducible refine (itip_User.calls k a0 t156 true _ A3.out).mono ?_); rintro e w12 ⟨rfl, hb⟩; refine ⟨_, rfl, ?_⟩; have n0_ := Aside0.mk (below_step (by repeat (first | (with_reducible first | exact HB.out | apply below_alloc | apply pw_below_drewN | apply below_drew1) | exact HB.out)) hb); clear HB; have HB := n0_; clear n0_; (try clear hb); (try clear hb2); (try clear hk); (try clear hi)) | ((with_reducible refine gate_callee (f := 8) rfl ?_); refine goesL_ (some 16) rfl rfl Try.func8 (by kernel_rfl) rfl #[.string a1] rfl (by (try simp only [List.map_toArray, List.map_cons, List.map_nil]); first | done | rfl | (simp only [List.length_drop, List.length_take]; rfl)) ?_; (with_reducible refine (itip_User.calls k a1 t158 false _ A4.out).mono ?_); rintro e w13 ⟨rfl, hb⟩; refine ⟨_, rfl, ?_⟩; have n0_ := Aside0.mk (below_step (by repeat (first | (with_reducible first | exact HB.out | apply below_alloc | apply pw_below_drewN | apply below_drew1) | exact HB.out)) hb); clear HB; have HB := n0_; clear n0_; (try clear hb); (try clear hb2); (try clear hk); (try clear hi)))
        go_ret
        exact ⟨by first | rfl | (simp [errW_none, errW_some] <;> rfl) | (simp [*, errW_none, errW_some] <;> rfl), by repeat (first | (with_reducible first | exact HB.out | apply below_alloc | apply pw_below_drewN | apply below_drew1) | exact HB.out)⟩
    · replace c8 := Bool.eq_false_iff.mpr c8
      subst c8
      have H1 : (some false) = some r := by rw [if_neg (show ¬ (false = true) by decide)] at H; exact H
      clear H
      have H := H1
      clear H1
      obtain rfl := Option.some.inj H
      go_enter Try.func48, Try.ntmps48
      go_wp2_with (first | ((with_reducible refine gate_callee (f := 8) rfl ?_); refine goesL_ (some 11) rfl rfl Try.func8 (by kernel_rfl) rfl #[.string a0] rfl (by (try simp only [List.map_toArray, List.map_cons, List.map_nil]); first | done | rfl | (simp only [List.length_drop, List.length_take]; rfl)) ?_; (with_reducible refine (itip_User.calls k a0 t156 false _ A3.out).mono ?_); rintro e w14 ⟨rfl, hb⟩; refine ⟨_, rfl, ?_⟩; have n0_ := Aside0.mk (below_step (by repeat (first | (with_reducible first | exact HB.out | apply below_alloc | apply pw_below_drewN | apply below_drew1) | exact HB.out)) hb); clear HB; have HB := n0_; clear n0_; (try clear hb); (try clear hb2); (try clear hk); (try clear hi)) | ((with_reducible refine gate_callee (f := 8) rfl ?_); refine goesL_ (some 16) rfl rfl Try.func8 (by kernel_rfl) rfl #[.string a1] rfl (by (try simp only [List.map_toArray, List.map_cons, List.map_nil]); first | done | rfl | (simp only [List.length_drop, List.length_take]; rfl)) ?_; (with_reducible refine (itip_User.calls k a1 t158 t159 _ A4.out).mono ?_); rintro e w15 ⟨rfl, hb⟩; refine ⟨_, rfl, ?_⟩; have n0_ := Aside0.mk (below_step (by repeat (first | (with_reducible first | exact HB.out | apply below_alloc | apply pw_below_drewN | apply below_drew1) | exact HB.out)) hb); clear HB; have HB := n0_; clear n0_; (try clear hb); (try clear hb2); (try clear hk); (try clear hi)))
      go_ret
      exact ⟨by first | rfl | (simp [errW_none, errW_some] <;> rfl) | (simp [*, errW_none, errW_some] <;> rfl), by repeat (first | (with_reducible first | exact HB.out | apply below_alloc | apply pw_below_drewN | apply below_drew1) | exact HB.out)⟩
end Go.Proofs.Ytebmbfobmakheaa.PD
namespace Go.Proofs.Ytebmbfobmakheaa.PD
open Go.RowKit Go.Proofs.YtebmbfobmakheaaW.PrintWords Go.Proofs.YtebmbfobmakheaaW.PrintLast Go.Proofs.YtebmbfobmakheaaW.PrintMore
set_option linter.unusedVariables false
set_option linter.unusedSimpArgs false
theorem pre_some (a b : ByteArray) : ∃ r, strings_HasPrefix.f a b = some r := by
  unfold strings_HasPrefix.f stringslite_HasPrefix.f
  by_cases h : (a.size : Int) ≥ (b.size : Int)
  · rw [if_pos h, if_pos (by omega), if_pos (by omega)]; exact ⟨_, rfl⟩
  · rw [if_neg h]; exact ⟨_, rfl⟩
theorem suf_some (a b : ByteArray) (ha : a.size ≤ 140737488355328) : ∃ r, strings_HasSuffix.f a b = some r := by
  unfold strings_HasSuffix.f stringslite_HasSuffix.f
  by_cases h : (a.size : Int) ≥ (b.size : Int)
  · have hw : wrap64 ((a.size : Int) - (b.size : Int)) = (a.size : Int) - (b.size : Int) := by unfold wrap64; omega
    rw [if_pos h, hw, if_pos (by omega), if_pos (by omega)]; exact ⟨_, rfl⟩
  · rw [if_neg h]; exact ⟨_, rfl⟩
theorem user_j0 (k : Nat) (a : ByteArray) (ha : a.size ≤ 140737488355328) (b : Bool) (hb : b = false → 15 ≤ a.size) : ∃ r, itip_User.j0 (k + 1) a b = some r := by
  simp only [itip_User.j0]
  cases b with
  | true => exact ⟨_, rfl⟩
  | false =>
    have h15 := hb rfl
    have hw : wrap64 ((a.size : Int) - 8) = (a.size : Int) - 8 := by unfold wrap64; omega
    rw [if_neg (by simp), hw, if_pos (by omega), if_pos (by omega)]
    unfold dir_Name.f
    rw [if_pos (by rw [ByteArray.size_extract]; omega), Option.bind_some]
    split
    · exact ⟨_, rfl⟩
    · exact ⟨_, rfl⟩
theorem user_some (k : Nat) (a : ByteArray) (ha : shortB a = true) : ∃ r, itip_User.f (k + 1) a = some r := by
  have hsz : a.size ≤ 140737488355328 := of_decide_eq_true ha
  unfold itip_User.f text_Lower.f
  rw [if_pos ha, Option.bind_some]
  obtain ⟨p, hp⟩ := pre_some (mapB lowN a) (⟨#[109, 97, 105, 108, 116, 111, 58]⟩ : ByteArray)
  obtain ⟨q, hq⟩ := suf_some (mapB lowN a) (⟨#[64, 97, 108, 109, 97, 110, 97, 99]⟩ : ByteArray) (by rw [mapB_size]; exact hsz)
  rw [hp, Option.bind_some]
  have h1 := user_j0 k a hsz true (by simp)
  by_cases hpt : p = true
  · rw [if_pos hpt, hq, Option.bind_some]
    by_cases hqt : q = true
    · rw [if_pos hqt]
      exact user_j0 k a hsz _ (fun h => by have := of_decide_eq_false h; omega)
    · rw [if_neg hqt]; exact h1
  · rw [if_neg hpt]; exact h1
def alikeB (a b : ByteArray) : Bool := (itip_alike.f 1 a b).getD false
theorem alike_val (a b : ByteArray) (ha : shortB a = true) (hb : shortB b = true) : itip_alike.f 1 a b = some (alikeB a b) := by
  have h : ∃ r, itip_alike.f 1 a b = some r := by
    unfold itip_alike.f
    obtain ⟨x, hx⟩ := user_some 0 a ha
    obtain ⟨y, hy⟩ := user_some 0 b hb
    rw [show (1 : Nat) = 0 + 1 from rfl, hx, hy, Option.bind_some, Option.bind_some]
    split
    · exact ⟨_, rfl⟩
    · split
      · split
        · exact ⟨_, rfl⟩
        · exact ⟨_, rfl⟩
      · exact ⟨_, rfl⟩
  obtain ⟨r, hr⟩ := h
  unfold alikeB
  rw [hr]
  rfl
theorem alike_calls (a b : ByteArray) (ha : shortB a = true) (hb : shortB b = true) (w : World) : Calls Try.prog 48 #[.string a, .string b] w fun e w' => e = .returned (.bool (alikeB a b)) ∧ Below w.heap.size w w' :=
  itip_alike.calls 1 a b _ w (alike_val a b ha hb)
end Go.Proofs.Ytebmbfobmakheaa.PD
namespace Go.Proofs.Ytebmbfobmakheaa.PD
open Go.RowKit Go.Proofs.YtebmbfobmakheaaW.PrintWords Go.Proofs.YtebmbfobmakheaaW.PrintLast Go.Proofs.YtebmbfobmakheaaW.PrintMore
set_option linter.unusedVariables false
set_option linter.unusedSimpArgs false
theorem byteN_ext {a b : ByteArray} (hs : a.size = b.size) (h : ∀ i, i < a.size → byteN a i = byteN b i) : a = b := by
  cases a with | mk x =>
  cases b with | mk y =>
  congr 1
  apply Array.ext hs
  intro i h1 h2
  have := h i h1
  simp only [byteN, Array.getD_eq_getD_getElem?, Array.getElem?_eq_getElem h1, Array.getElem?_eq_getElem h2, Option.getD_some] at this
  exact UInt8.toNat_inj.1 this
theorem byteN_mapB (f : Nat → Nat) (hf : ∀ b, b < 256 → f b < 256) (s : ByteArray) (j : Nat) (hj : j < s.size) : byteN (mapB f s) j = f (byteN s j) := by
  unfold mapB
  rw [stepK_byte f hf s s.size (Nat.le_refl _) j, if_pos hj]
theorem byteN_extract (s : ByteArray) (a b j : Nat) (hb : b ≤ s.size) (hj : a + j < b) : byteN (s.extract a b) j = byteN s (a + j) := by
  unfold byteN
  have hl : j < (s.extract a b).size := by rw [ByteArray.size_extract]; omega
  have hl2 : a + j < s.size := by omega
  have e := ByteArray.getElem_extract (b := s) (i := j) (start := a) (stop := b) hl
  rw [Array.getD_eq_getD_getElem?, Array.getD_eq_getD_getElem?, show (s.extract a b).data[j]? = some (s.extract a b)[j] from Array.getElem?_eq_getElem (xs := (s.extract a b).data) hl, show s.data[a + j]? = some s[a + j] from Array.getElem?_eq_getElem (xs := s.data) hl2]
  simp only [Option.getD_some]
  exact congrArg UInt8.toNat e
theorem mapB_extract (f : Nat → Nat) (hf : ∀ b, b < 256 → f b < 256) (s : ByteArray) (a b : Nat) (hb : b ≤ s.size) : (mapB f s).extract a b = mapB f (s.extract a b) := by
  apply byteN_ext
  · rw [mapB_size, ByteArray.size_extract, ByteArray.size_extract, mapB_size]
  · intro i hi
    rw [ByteArray.size_extract, mapB_size, Nat.min_eq_left hb] at hi
    rw [byteN_extract _ _ _ _ (by rw [mapB_size]; exact hb) (by omega), byteN_mapB f hf s _ (by omega), byteN_mapB f hf _ _ (by rw [ByteArray.size_extract]; omega), byteN_extract _ _ _ _ hb (by omega)]
def mailB : ByteArray := ⟨#[109, 97, 105, 108, 116, 111, 58]⟩
def tailB : ByteArray := ⟨#[64, 97, 108, 109, 97, 110, 97, 99]⟩
def userP (a : ByteArray) : ByteArray × Bool :=
  if 15 ≤ a.size ∧ (mapB lowN (a.extract 0 7)).toList = mailB.toList ∧ (mapB lowN (a.extract (a.size - 8) a.size)).toList = tailB.toList ∧ nameP (a.extract 7 (a.size - 8)) = true then (a.extract 7 (a.size - 8), true) else (⟨#[]⟩, false)
theorem user_val (k : Nat) (a : ByteArray) (ha : shortB a = true) : itip_User.f (k + 1) a = some (userP a) := by
  have hsz : a.size ≤ 140737488355328 := of_decide_eq_true ha
  have hm : (⟨#[109, 97, 105, 108, 116, 111, 58]⟩ : ByteArray) = mailB := rfl
  have ht : (⟨#[64, 97, 108, 109, 97, 110, 97, 99]⟩ : ByteArray) = tailB := rfl
  have hms : mailB.size = 7 := rfl
  have hts : tailB.size = 8 := rfl
  have hj : ∀ b : Bool, (b = false → 15 ≤ a.size) → itip_User.j0 (k + 1) a b = some (if b = true then ((⟨#[]⟩ : ByteArray), false) else if nameP (a.extract 7 (a.size - 8)) = true then (a.extract 7 (a.size - 8), true) else (⟨#[]⟩, false)) := by
    intro b hb
    simp only [itip_User.j0]
    cases b with
    | true => rfl
    | false =>
      have h15 := hb rfl
      rw [if_neg (by simp), show wrap64 ((a.size : Int) - 8) = ((a.size - 8 : Nat) : Int) by unfold wrap64; omega, if_pos (by omega), if_pos (by omega)]
      unfold dir_Name.f
      rw [if_pos (by rw [ByteArray.size_extract, Int.toNat_natCast]; omega), Option.bind_some, Int.toNat_natCast]
      cases nameP (a.extract 7 (a.size - 8)) <;> rfl
  unfold itip_User.f text_Lower.f
  rw [if_pos ha, Option.bind_some, hm, ht]
  unfold strings_HasPrefix.f strings_HasSuffix.f stringslite_HasPrefix.f stringslite_HasSuffix.f
  rw [hms, hts, mapB_size]
  by_cases h15 : 15 ≤ a.size
  · unfold userP
    rw [if_pos (by omega), if_pos (by omega), if_pos (by omega), Option.bind_some, Option.bind_some, show ((7 : Nat) : Int).toNat = 7 from rfl, mapB_extract lowN lowN_lt a 0 7 (by omega)]
    by_cases hp : (mapB lowN (a.extract 0 7)).toList = mailB.toList
    · rw [if_pos (beq_iff_eq.2 hp), if_pos (by omega), show wrap64 ((a.size : Int) - ((8 : Nat) : Int)) = ((a.size - 8 : Nat) : Int) by unfold wrap64; omega, if_pos (by omega), if_pos (by omega), Option.bind_some, Option.bind_some, Int.toNat_natCast, mapB_extract lowN lowN_lt a _ _ (Nat.le_refl _)]
      by_cases hq : (mapB lowN (a.extract (a.size - 8) a.size)).toList = tailB.toList
      · rw [if_pos (beq_iff_eq.2 hq), hj _ (fun _ => h15), if_neg (by simp; omega)]
        by_cases hn : nameP (a.extract 7 (a.size - 8)) = true
        · rw [if_pos hn, if_pos ⟨h15, hp, hq, hn⟩]
        · rw [if_neg hn, if_neg (fun h => hn h.2.2.2)]
      · rw [if_neg (by simpa using hq), hj true (by simp), if_pos rfl, if_neg (fun h => hq h.2.2.1)]
    · rw [if_neg (by simpa using hp), hj true (by simp), if_pos rfl, if_neg (fun h => hp h.2.1)]
  · have hU : userP a = ((⟨#[]⟩ : ByteArray), false) := by unfold userP; rw [if_neg (fun h => h15 h.1)]
    rw [hU]
    have fin : ∀ b : Bool, (b = false → False) → itip_User.j0 (k + 1) a b = some ((⟨#[]⟩ : ByteArray), false) := fun b hb => by rw [hj b (fun h => (hb h).elim)]; cases b with | true => rfl | false => exact (hb rfl).elim
    have hd : decide ((a.size : Int) < 15) = true := decide_eq_true (by omega)
    rw [hd, fin true (by simp)]
    by_cases h7 : (a.size : Int) ≥ ((7 : Nat) : Int)
    · rw [if_pos h7, if_pos (by omega), if_pos (by omega), Option.bind_some, Option.bind_some]
      split
      · by_cases h8 : (a.size : Int) ≥ ((8 : Nat) : Int)
        · rw [if_pos h8, show wrap64 ((a.size : Int) - ((8 : Nat) : Int)) = ((a.size - 8 : Nat) : Int) by unfold wrap64; omega, if_pos (by omega), if_pos (by omega), Option.bind_some, Option.bind_some]
          split <;> rfl
        · rw [if_neg h8, Option.bind_some, Option.bind_some]
          rfl
      · rfl
    · rw [if_neg h7, Option.bind_some, Option.bind_some]
      rfl
end Go.Proofs.Ytebmbfobmakheaa.PD
namespace Go.Proofs.Ytebmbfobmakheaa.PD
open Go.RowKit Go.Proofs.YtebmbfobmakheaaW.PrintWords Go.Proofs.YtebmbfobmakheaaW.PrintLast Go.Proofs.YtebmbfobmakheaaW.PrintMore
theorem wide_fn (f : FuncId) : Fence.wide.fn f = True := rfl
theorem wide_depth : Fence.wide.depth = none := rfl
attribute [local go_sem] isSome_setCell Oper.semAt_some wide_fn wide_depth
set_option linter.unusedVariables false
set_option linter.unusedSimpArgs false
structure CC where
  s : ByteArray
  a1 : Option Addr
  n1 : Nat
  c1 : Nat
  a2 : Option Addr
  n2 : Nat
  c2 : Nat
abbrev CC.cells (x : CC) : Array Value := #[.string x.s, .slice x.a1 x.n1 x.c1, .slice x.a2 x.n2 x.c2]
abbrev CC.enc (x : CC) : Value := .agg x.cells
def RdAt (A : Option Addr) (L : List CC) (i : Nat) (W : World) : Prop := ∀ j, i ≤ j → (hj : j < L.length) → ∃ ad, A = some ad ∧ W.cell? (ad.add (j * 3)) = some (.string (L[j]'hj).s) ∧ W.cell? ⟨(ad.add (j * 3)).block, (ad.add (j * 3)).off + 1, none⟩ = some (.slice (L[j]'hj).a1 (L[j]'hj).n1 (L[j]'hj).c1) ∧ W.cell? ⟨(ad.add (j * 3)).block, (ad.add (j * 3)).off + 2, none⟩ = some (.slice (L[j]'hj).a2 (L[j]'hj).n2 (L[j]'hj).c2)
def isTz (s : ByteArray) : Bool := s.toList == ([86, 84, 73, 77, 69, 90, 79, 78, 69] : List UInt8)
def othersF : Nat → List CC → List (CC × Nat)
  | _, [] => []
  | i, x :: r => if isTz x.s = true then othersF (i + 1) r else (x, i) :: othersF (i + 1) r
def nextI (pre : List (CC × Nat)) : Nat := match pre.getLast? with | some p => p.2 + 1 | none => 0
theorem nextI_snoc (pre : List (CC × Nat)) (x : CC) (i : Nat) : nextI (pre ++ [(x, i)]) = i + 1 := by unfold nextI; simp
abbrev encC (p : CC × Nat) : Array Value := #[.int .i64 p.2, p.1.enc]
def NoZ (_ : Nat) : Prop := False
set_option maxRecDepth 100000 in
set_option maxHeartbeats 8000000 in
theorem comps_in {Own : World → Nat → Prop} (A : Option Addr) (c : Nat) (L : List CC) (hml : L.length ≤ 9223372036854775807) (nm : ByteArray) (A1 : Option Addr) (n1 c1 l Cb n₀ : Nat) (J Jx : List (CC × Nat) → World → Prop) (W : World) (hJ : OwnZ NoZ W.heap.size J) (hR : ∀ pre W1, J pre W1 → RdAt A L (nextI pre) W1)
    (hY : ∀ pre x W1, J pre W1 → pre ++ [x] <+: othersF 0 L → YieldAt Fence.wide 50 Try.prog l (encC x) W1 fun e W' => ((e = .returned (.bool true) ∧ J (pre ++ [x]) W') ∨ (e = .returned (.bool false) ∧ Jx (pre ++ [x]) W')) ∧ Below n₀ W1 W' ∧ SameZ NoZ W1 W' ∧ KO Own W.heap.size W1 W')
    (hO : W.heap[Cb]? = some (.cells #[.string nm, .slice A1 n1 c1, .slice A L.length c] 25 (0, 0))) (h0 : J [] W) :
    CallsIn Fence.wide 51 Try.prog 79 #[.func (.yield l) #[] #[], .pointer (some ⟨Cb, 0, none⟩)] W fun e W' => (∃ v, e = .returned v) ∧ (J (othersF 0 L) W' ∨ ∃ pre, pre <+: othersF 0 L ∧ Jx pre W') := by
  refine callsIn_of_wp Try.func79 rfl trivial ?_ rfl
  simp only [Try.ntmps79, List.size_toArray, List.length_cons, List.length_nil, Nat.reduceAdd, Nat.reduceSub, Array.replicate_succ, Array.replicate_zero, List.push_toArray, List.append_toArray, List.nil_append, List.cons_append]
  have HYd := Aside0.mk hY
  have HJ := Aside0.mk hJ
  have HRd := Aside0.mk hR
  have H0 := Aside0.mk h0
  have cO : W.cell? ⟨Cb, 2, none⟩ = some (.slice A L.length c) := (blk_cell hO 2).trans rfl
  clear hY hJ h0 hO hR
  gi_wp2
  gi_loopw [8] (fun v wr => ∃ (k : Nat) (pre : List (CC × Nat)), v = .int .i64 k ∧ k ≤ L.length ∧ Aside0 (pre ++ othersF k (L.drop k) = othersF 0 L) ∧ nextI pre ≤ k ∧ Aside0 (J pre wr)) (fun v _ => L.length - (intOf v).toNat)
  case atStart => exact ⟨0, [], rfl, Nat.zero_le _, ⟨rfl⟩, Nat.le_refl _, H0⟩
  case round =>
    obtain ⟨k, pre, rfl, hk, HX, hnx, HJ1⟩ := hrel
    by_cases hlt : k < L.length
    · have hlt0 : decide ((k : Int) < (L.length : Int)) = true := decide_eq_true (by omega)
      obtain ⟨ad, eA, hx0, hx1, hx2⟩ := HRd.out pre wr HJ1.out k hnx hlt
      have hdr := List.drop_eq_getElem_cons hlt
      obtain ⟨x, ex⟩ : ∃ x, L[k] = x := ⟨_, rfl⟩
      rw [ex] at hx0 hx1 hx2 hdr
      subst eA
      by_cases htz : x.s.toList = ([86, 84, 73, 77, 69, 90, 79, 78, 69] : List UInt8)
      · have q3 : (x.s.toList = ([86, 84, 73, 77, 69, 90, 79, 78, 69] : List UInt8)) = True := eq_true htz
        have hXX : pre ++ othersF (k + 1) (L.drop (k + 1)) = othersF 0 L := by
          rw [← HX.out, hdr]; unfold othersF; rw [if_pos (by unfold isTz; exact beq_iff_eq.2 htz)]
          first | rfl | (conv => rhs; unfold othersF)
        have HXX := Aside0.mk hXX
        clear hXX hdr htz
        gi_wp2
        exact ⟨⟨k + 1, pre, by simp, hlt, HXX, by omega, ⟨HJ.out.below HJ1.out (below_alloc (Below.refl _ _) _)⟩⟩, by show L.length - ((k : Int) + 1).toNat < L.length - (k : Int).toNat; omega⟩
      · have q3 : (x.s.toList = ([86, 84, 73, 77, 69, 90, 79, 78, 69] : List UInt8)) = False := eq_false htz
        have q4 : (x.s.toList == ([86, 84, 73, 77, 69, 90, 79, 78, 69] : List UInt8)) = false := beq_eq_false_iff_ne.2 htz
        have hXX : (pre ++ [(x, k)]) ++ othersF (k + 1) (L.drop (k + 1)) = othersF 0 L := by
          rw [← HX.out, hdr, List.append_assoc]
          congr 1
          conv => rhs; unfold othersF
          rw [if_neg (by unfold isTz; simpa using htz)]
          rfl
        have HXX := Aside0.mk hXX
        have HJ2 := Aside0.mk (HJ.out.below HJ1.out (below_alloc (Below.refl _ _) (.cells #[.string x.s, .slice x.a1 x.n1 x.c1, .slice x.a2 x.n2 x.c2] 25)))
        obtain ⟨fn, tmps, assign, body, hy, hRn⟩ := HYd.out pre (x, k) _ HJ2.out (by rw [← hXX]; exact List.prefix_append _ _)
        have HRr := Aside0.mk hRn
        clear hXX hdr htz hRn
        gi_wp2
        refine HRr.out.mono ?_
        rintro e W4 ⟨⟨rfl, hJ4⟩ | ⟨rfl, hJx4⟩, hb4, hz4, hab4⟩
        · gi_wp2
          exact ⟨⟨k + 1, pre ++ [(x, k)], by simp, hlt, HXX, by rw [nextI_snoc]; exact Nat.le_refl _, ⟨hJ4⟩⟩, by show L.length - ((k : Int) + 1).toNat < L.length - (k : Int).toNat; omega⟩
        · gi_wp2
          refine bodyPost_ret (results_none rfl _ _ _) rfl ?_
          exact ⟨⟨_, rfl⟩, .inr ⟨_, by rw [← HXX.out]; exact List.prefix_append _ _, hJx4⟩⟩
    · have hlt0 : decide ((k : Int) < (L.length : Int)) = false := decide_eq_false (by omega)
      gi_wp2
      refine bodyPost_end (results_none rfl _ _ _) rfl ?_
      have e1 : pre = othersF 0 L := by
        have := HX.out
        rw [List.drop_eq_nil_of_le (by omega)] at this
        rw [← this]
        simp [othersF]
      exact ⟨⟨_, rfl⟩, .inl (by rw [← e1]; exact HJ1.out)⟩
set_option maxRecDepth 100000 in
set_option maxHeartbeats 1600000 in
theorem comps_made (nm : ByteArray) (A1 : Option Addr) (n1 c1 : Nat) (A2 : Option Addr) (n2 c2 : Nat) (w : World) :
    Calls Try.prog 41 #[.agg #[.string nm, .slice A1 n1 c1, .slice A2 n2 c2]] w fun e w' => e = .returned (.func (.func 79) #[] #[.pointer (some ⟨w.heap.size, 0, none⟩)]) ∧ w' = w.alloc (.cells #[.string nm, .slice A1 n1 c1, .slice A2 n2 c2] 25) := by
  go_enter Try.func41, Try.ntmps41
  go_wp2
  go_ret
  exact ⟨rfl, rfl⟩
end Go.Proofs.Ytebmbfobmakheaa.PD
namespace Go.Proofs.Ytebmbfobmakheaa.PD
open Go.RowKit Go.Proofs.YtebmbfobmakheaaW.PrintWords Go.Proofs.YtebmbfobmakheaaW.PrintLast Go.Proofs.YtebmbfobmakheaaW.PrintMore
attribute [local go_sem] isSome_setCell max2_int min2_int max_two min_two
set_option linter.unusedVariables false
set_option linter.unusedSimpArgs false
def idxP {α : Type} (p : α → Bool) (l : List α) : Int := match l.findIdx? p with | some i => (i : Int) | none => -1
theorem idxP_at {α : Type} (p : α → Bool) (l : List α) (i : Nat) (hi : i < l.length) (h : p l[i] = true) (hno : ∀ j (hj : j < i), p (l[j]'(by omega)) = false) : idxP p l = i := by
  unfold idxP
  rw [List.findIdx?_eq_some_iff_getElem.2 ⟨hi, h, fun j hj => by simp [hno j hj]⟩]
theorem idxP_none {α : Type} (p : α → Bool) (l : List α) (hno : ∀ j (hj : j < l.length), p l[j] = false) : idxP p l = -1 := by
  unfold idxP
  rw [List.findIdx?_eq_none_iff.2 (fun x hx => by obtain ⟨j, hj, rfl⟩ := List.getElem_of_mem hx; exact hno j hj)]
theorem idx_find {α : Type} (p : α → Bool) (l : List α) : (idxP p l = -1 ∧ l.find? p = none) ∨ ∃ i : Nat, ∃ hi : i < l.length, idxP p l = i ∧ l.find? p = some l[i] := by
  unfold idxP
  cases h : l.findIdx? p with
  | none =>
    left
    rw [List.findIdx?_eq_none_iff] at h
    exact ⟨rfl, List.find?_eq_none.2 (fun x hx => by simp [h x hx])⟩
  | some i =>
    right
    obtain ⟨h1, h2, h3⟩ := List.findIdx?_eq_some_iff_getElem.1 h
    refine ⟨i, h1, rfl, ?_⟩
    rw [List.find?_eq_some_iff_getElem]
    exact ⟨h2, i, h1, rfl, fun j hj => by have := h3 j hj; simpa using this⟩
theorem idxP_any {α : Type} (p : α → Bool) (l : List α) : decide (idxP p l ≥ 0) = l.any p := by
  unfold idxP
  cases h : l.findIdx? p with
  | none =>
    rw [List.findIdx?_eq_none_iff] at h
    have : l.any p = false := by rw [List.any_eq_false]; intro x hx; simp [h x hx]
    rw [this]; rfl
  | some i =>
    obtain ⟨h1, h2, _⟩ := List.findIdx?_eq_some_iff_getElem.1 h
    have : l.any p = true := List.any_eq_true.2 ⟨_, List.getElem_mem h1, h2⟩
    rw [this]
    exact decide_eq_true (by show (i : Int) ≥ 0; omega)
set_option maxRecDepth 100000 in
set_option maxHeartbeats 1600000 in
theorem index45 (fk : Nat) (fn : Func) (hfn : Try.prog.funcs[fk]? = some fn) (hname : (fn.name == "runtime.NumGoroutine") = false) (hbody : fn.body.isSome = true) (lb : Array Value) (p : S45 → Bool)
    (A0 : Option Addr) (c0 : Nat) (l0 : List S45) (w : World) (hr0 : Kd.C k45 w A0 l0.length l0)
    (hp : ∀ x ∈ l0, ∀ A c, ∀ W, Below w.heap.size w W → Calls Try.prog fk (#[.agg #[.string x.f0, .slice A x.f1.length c, .string x.f2]] ++ lb) W fun e W' => e = .returned (.bool (p x)) ∧ Below W.heap.size W W') :
    Calls Try.prog 80 #[.slice A0 l0.length c0, .func (.func fk) #[] lb] w fun e w' => e = .returned (.int .i64 (idxP p l0)) ∧ Below w.heap.size w w' := by
  have HR0 := Aside0.mk hr0
  have hml : l0.length ≤ 9223372036854775807 := by have := hr0.2.1; unfold maxLen at this; omega
  clear hr0
  have HP := Aside0.mk hp
  clear hp
  have HB := Aside0.mk (Below.refl w.heap.size w)
  go_enter Try.func80, Try.ntmps80
  go_wp2
  go_loopw [8] (fun v wr => ∃ k : Nat, v = .int .i64 k ∧ k ≤ l0.length ∧ Aside0 (∀ j, (hj : j < l0.length) → j < k → p l0[j] = false) ∧ Aside0 (Below w.heap.size w wr)) (fun v _ => l0.length - (intOf v).toNat)
  case atStart => exact ⟨0, rfl, Nat.zero_le _, ⟨fun j _ hj => absurd hj (Nat.not_lt_zero _)⟩, HB⟩
  case round =>
    obtain ⟨k, rfl, hk, hno, hb⟩ := hrel
    by_cases hlt : k < l0.length
    · have hlt0 : decide ((k : Int) < (l0.length : Int)) = true := decide_eq_true (by omega)
      obtain ⟨ad, A1, c1, e, hx0, hx1, hx2, _, _⟩ := at_T45 HR0.out (k : Int) (by omega) (by omega)
      subst e
      replace hx0 := (hb.out.cell (World.block_lt_of_cell? w _ hx0)).trans hx0
      replace hx1 := (hb.out.cell (World.block_lt_of_cell? w _ hx1)).trans hx1
      replace hx2 := (hb.out.cell (World.block_lt_of_cell? w _ hx2)).trans hx2
      have hget : rd_T45 l0 (k : Int) = l0[k] := by simp [rd_T45, hlt]
      rw [hget] at hx0 hx1 hx2
      have hc := HP.out l0[k] (List.getElem_mem hlt) A1 c1 wr hb.out
      simp only [Int.toNat_natCast] at hx0 hx1 hx2
      cases hpk : p l0[k] with
      | true =>
        rw [hpk] at hc
        have HC := Aside0.mk hc
        clear hc
        go_wp2_with ((with_reducible refine gate_tmp (t := 11) rfl ?_); refine goesF_ (some 16) rfl rfl hfn hname hbody (args := #[.agg #[.string l0[k].f0, .slice A1 l0[k].f1.length c1, .string l0[k].f2]] ++ lb) rfl rfl (by (try simp only [List.map_toArray, List.map_cons, List.map_nil]); first | done | rfl) ?_; refine HC.out.mono ?_; rintro e W' ⟨rfl, hb'⟩; refine ⟨_, rfl, ?_⟩)
        go_ret
        refine ⟨?_, hb.out.trans (hb'.mono hb.out.size)⟩
        rw [idxP_at p l0 k hlt hpk (fun j hj => hno.out j (by omega) hj)]
        rfl
      | false =>
        rw [hpk] at hc
        have HC := Aside0.mk hc
        clear hc
        go_wp2_with ((with_reducible refine gate_tmp (t := 11) rfl ?_); refine goesF_ (some 16) rfl rfl hfn hname hbody (args := #[.agg #[.string l0[k].f0, .slice A1 l0[k].f1.length c1, .string l0[k].f2]] ++ lb) rfl rfl (by (try simp only [List.map_toArray, List.map_cons, List.map_nil]); first | done | rfl) ?_; refine HC.out.mono ?_; rintro e W' ⟨rfl, hb'⟩; refine ⟨_, rfl, ?_⟩)
        go_roundw
        case rel =>
          refine ⟨k + 1, by simp, hlt, ⟨fun j hj hjk => ?_⟩, ⟨hb.out.trans (hb'.mono hb.out.size)⟩⟩
          rcases Nat.lt_or_ge j k with h | h
          · exact hno.out j hj h
          · obtain rfl : j = k := by omega
            exact hpk
        case measure => show l0.length - (((k : Int) + 1)).toNat < l0.length - ((k : Int)).toNat; omega
    · have hlt0 : decide ((k : Int) < (l0.length : Int)) = false := decide_eq_false (by omega)
      go_wp2
      go_ret
      refine ⟨?_, hb.out⟩
      rw [idxP_none p l0 (fun j hj => hno.out j hj (by omega))]
      rfl
set_option maxRecDepth 100000 in
set_option maxHeartbeats 1600000 in
theorem index77 (fk : Nat) (fn : Func) (hfn : Try.prog.funcs[fk]? = some fn) (hname : (fn.name == "runtime.NumGoroutine") = false) (hbody : fn.body.isSome = true) (lb : Array Value) (p : S77 → Bool)
    (A0 : Option Addr) (c0 : Nat) (l0 : List S77) (w : World) (hr0 : Kd.C k77 w A0 l0.length l0)
    (hp : ∀ x ∈ l0, ∀ A c, ∀ W, Below w.heap.size w W → Calls Try.prog fk (#[.agg #[.string x.f0, .slice A x.f1.length c]] ++ lb) W fun e W' => e = .returned (.bool (p x)) ∧ Below W.heap.size W W') :
    Calls Try.prog 91 #[.slice A0 l0.length c0, .func (.func fk) #[] lb] w fun e w' => e = .returned (.int .i64 (idxP p l0)) ∧ Below w.heap.size w w' := by
  have HR0 := Aside0.mk hr0
  have hml : l0.length ≤ 9223372036854775807 := by have := hr0.2.1; unfold maxLen at this; omega
  clear hr0
  have HP := Aside0.mk hp
  clear hp
  have HB := Aside0.mk (Below.refl w.heap.size w)
  go_enter Try.func91, Try.ntmps91
  go_wp2
  go_loopw [8] (fun v wr => ∃ k : Nat, v = .int .i64 k ∧ k ≤ l0.length ∧ Aside0 (∀ j, (hj : j < l0.length) → j < k → p l0[j] = false) ∧ Aside0 (Below w.heap.size w wr)) (fun v _ => l0.length - (intOf v).toNat)
  case atStart => exact ⟨0, rfl, Nat.zero_le _, ⟨fun j _ hj => absurd hj (Nat.not_lt_zero _)⟩, HB⟩
  case round =>
    obtain ⟨k, rfl, hk, hno, hb⟩ := hrel
    by_cases hlt : k < l0.length
    · have hlt0 : decide ((k : Int) < (l0.length : Int)) = true := decide_eq_true (by omega)
      obtain ⟨ad, A1, c1, e, hx0, hx1, _, _⟩ := at_T77 HR0.out (k : Int) (by omega) (by omega)
      subst e
      replace hx0 := (hb.out.cell (World.block_lt_of_cell? w _ hx0)).trans hx0
      replace hx1 := (hb.out.cell (World.block_lt_of_cell? w _ hx1)).trans hx1
      have hget : rd_T77 l0 (k : Int) = l0[k] := by simp [rd_T77, hlt]
      rw [hget] at hx0 hx1
      have hc := HP.out l0[k] (List.getElem_mem hlt) A1 c1 wr hb.out
      simp only [Int.toNat_natCast] at hx0 hx1
      cases hpk : p l0[k] with
      | true =>
        rw [hpk] at hc
        have HC := Aside0.mk hc
        clear hc
        go_wp2_with ((with_reducible refine gate_tmp (t := 11) rfl ?_); refine goesF_ (some 16) rfl rfl hfn hname hbody (args := #[.agg #[.string l0[k].f0, .slice A1 l0[k].f1.length c1]] ++ lb) rfl rfl (by (try simp only [List.map_toArray, List.map_cons, List.map_nil]); first | done | rfl) ?_; refine HC.out.mono ?_; rintro e W' ⟨rfl, hb'⟩; refine ⟨_, rfl, ?_⟩)
        go_ret
        refine ⟨?_, hb.out.trans (hb'.mono hb.out.size)⟩
        rw [idxP_at p l0 k hlt hpk (fun j hj => hno.out j (by omega) hj)]
        rfl
      | false =>
        rw [hpk] at hc
        have HC := Aside0.mk hc
        clear hc
        go_wp2_with ((with_reducible refine gate_tmp (t := 11) rfl ?_); refine goesF_ (some 16) rfl rfl hfn hname hbody (args := #[.agg #[.string l0[k].f0, .slice A1 l0[k].f1.length c1]] ++ lb) rfl rfl (by (try simp only [List.map_toArray, List.map_cons, List.map_nil]); first | done | rfl) ?_; refine HC.out.mono ?_; rintro e W' ⟨rfl, hb'⟩; refine ⟨_, rfl, ?_⟩)
        go_roundw
        case rel =>
          refine ⟨k + 1, by simp, hlt, ⟨fun j hj hjk => ?_⟩, ⟨hb.out.trans (hb'.mono hb.out.size)⟩⟩
          rcases Nat.lt_or_ge j k with h | h
          · exact hno.out j hj h
          · obtain rfl : j = k := by omega
            exact hpk
        case measure => show l0.length - (((k : Int) + 1)).toNat < l0.length - ((k : Int)).toNat; omega
    · have hlt0 : decide ((k : Int) < (l0.length : Int)) = false := decide_eq_false (by omega)
      go_wp2
      go_ret
      refine ⟨?_, hb.out⟩
      rw [idxP_none p l0 (fun j hj => hno.out j hj (by omega))]
      rfl
end Go.Proofs.Ytebmbfobmakheaa.PD
namespace Go.Proofs.Ytebmbfobmakheaa.PD
open Go.RowKit Go.Proofs.YtebmbfobmakheaaW.PrintWords Go.Proofs.YtebmbfobmakheaaW.PrintLast Go.Proofs.YtebmbfobmakheaaW.PrintMore
attribute [local go_sem] isSome_setCell max2_int min2_int max_two min_two
set_option linter.unusedVariables false
set_option linter.unusedSimpArgs false
set_option maxRecDepth 100000 in
set_option maxHeartbeats 1600000 in
theorem propN_calls (nm : ByteArray) (G : Nat) (s : ByteArray) (A : Option Addr) (n c : Nat) (t : ByteArray) (W : World) (hG : W.heap[G]? = some (.cells #[.string nm] 9 (0, 0))) :
    Calls Try.prog 81 (#[.agg #[.string s, .slice A n c, .string t]] ++ #[.pointer (some ⟨G, 0, none⟩)]) W fun e W' => e = .returned (.bool (s.toList == nm.toList)) ∧ Below W.heap.size W W' := by
  have hc : (W.alloc (.cells #[.string s, .slice A n c, .string t] 45)).cell? ⟨G, 0, none⟩ = some (.string nm) := (blk_cell (blk_alloc hG _) 0).trans rfl
  have HB0 := Aside0.mk (below_alloc (Below.refl W.heap.size W) (.cells #[.string s, .slice A n c, .string t] 45))
  go_enter Try.func81, Try.ntmps81
  go_wp2
  go_ret
  exact ⟨rfl, HB0.out⟩
set_option maxRecDepth 100000 in
set_option maxHeartbeats 1600000 in
theorem propsN_calls (nm : ByteArray) (G : Nat) (s : ByteArray) (A : Option Addr) (n c : Nat) (t : ByteArray) (W : World) (hG : W.heap[G]? = some (.cells #[.string nm] 9 (0, 0))) :
    Calls Try.prog 99 (#[.agg #[.string s, .slice A n c, .string t]] ++ #[.pointer (some ⟨G, 0, none⟩)]) W fun e W' => e = .returned (.bool (s.toList != nm.toList)) ∧ Below W.heap.size W W' := by
  have hc : (W.alloc (.cells #[.string s, .slice A n c, .string t] 45)).cell? ⟨G, 0, none⟩ = some (.string nm) := (blk_cell (blk_alloc hG _) 0).trans rfl
  have HB0 := Aside0.mk (below_alloc (Below.refl W.heap.size W) (.cells #[.string s, .slice A n c, .string t] 45))
  go_enter Try.func99, Try.ntmps99
  go_wp2
  go_ret
  exact ⟨rfl, HB0.out⟩
set_option maxRecDepth 100000 in
set_option maxHeartbeats 1600000 in
theorem withoutN_calls (nm : ByteArray) (G : Nat) (s : ByteArray) (A : Option Addr) (n c : Nat) (t : ByteArray) (W : World) (hG : W.heap[G]? = some (.cells #[.string nm] 9 (0, 0))) :
    Calls Try.prog 96 (#[.agg #[.string s, .slice A n c, .string t]] ++ #[.pointer (some ⟨G, 0, none⟩)]) W fun e W' => e = .returned (.bool (s.toList == nm.toList)) ∧ Below W.heap.size W W' := by
  have hc : (W.alloc (.cells #[.string s, .slice A n c, .string t] 45)).cell? ⟨G, 0, none⟩ = some (.string nm) := (blk_cell (blk_alloc hG _) 0).trans rfl
  have HB0 := Aside0.mk (below_alloc (Below.refl W.heap.size W) (.cells #[.string s, .slice A n c, .string t] 45))
  go_enter Try.func96, Try.ntmps96
  go_wp2
  go_ret
  exact ⟨rfl, HB0.out⟩
set_option maxRecDepth 100000 in
set_option maxHeartbeats 1600000 in
theorem paramN_calls (nm : ByteArray) (G : Nat) (s : ByteArray) (A : Option Addr) (n c : Nat) (W : World) (hG : W.heap[G]? = some (.cells #[.string nm] 9 (0, 0))) :
    Calls Try.prog 93 (#[.agg #[.string s, .slice A n c]] ++ #[.pointer (some ⟨G, 0, none⟩)]) W fun e W' => e = .returned (.bool (s.toList == nm.toList)) ∧ Below W.heap.size W W' := by
  have hc : (W.alloc (.cells #[.string s, .slice A n c] 77)).cell? ⟨G, 0, none⟩ = some (.string nm) := (blk_cell (blk_alloc hG _) 0).trans rfl
  have HB0 := Aside0.mk (below_alloc (Below.refl W.heap.size W) (.cells #[.string s, .slice A n c] 77))
  go_enter Try.func93, Try.ntmps93
  go_wp2
  go_ret
  exact ⟨rfl, HB0.out⟩
def propP (l : List S45) (name : ByteArray) : ByteArray × Bool := match l.find? (fun x => x.f0.toList == name.toList) with | some x => (x.f2, true) | none => ((⟨#[]⟩ : ByteArray), false)
set_option maxRecDepth 100000 in
set_option maxHeartbeats 8000000 in
theorem comp_Prop_walk (nm0 : ByteArray) (A : Option Addr) (c : Nat) (l : List S45) (A2 : Option Addr) (n2 c2 : Nat) (name : ByteArray) (w : World) (hr : Kd.C k45 w A l.length l) :
    Calls Try.prog 42 #[.agg #[.string nm0, .slice A l.length c, .slice A2 n2 c2], .string name] w fun e w' => (∃ (s0 : ByteArray) (Aq : Option Addr) (nq cq : Nat), e = .returned (.tuple #[.agg #[.string s0, .slice Aq nq cq, .string (propP l name).1], .bool (propP l name).2])) ∧ Below w.heap.size w w' := by
  have HR := Aside0.mk hr
  have hml : l.length ≤ 9223372036854775807 := by have := hr.2.1; unfold maxLen at this; omega
  clear hr
  have hu45 := Try.underlying45
  have HB := Aside0.mk (Below.refl w.heap.size w)
  rcases idx_find (fun x : S45 => x.f0.toList == name.toList) l with ⟨hi, hf⟩ | ⟨i, hi, he, hf⟩
  · have hP : propP l name = ((⟨#[]⟩ : ByteArray), false) := by unfold propP; rw [hf]
    rw [hP]
    have HI := Aside0.mk hi
    clear hP hf hi
    go_enter Try.func42, Try.ntmps42
    go_wp2_with (first | ((with_reducible refine gate_dst (N := 2) rfl ?_); refine box_event ?hg (N := 2) ?hd (cs := #[.string nm0, .slice A l.length c, .slice A2 n2 c2]) (t := 25) ?hr ?_; (case hd => rfl); (case hg => rfl); (case hr => first | (go_simp; done) | (go_simp; rfl)); intro gb2 hg w2 hbox hb; have GE2 := Aside0.mk (show w.heap.size ≤ gb2 by rw [hg]; exact HB.out.size); have BK2 := Aside0.mk hbox; replace HB := Aside0.mk (below_step HB.out hb); clear hbox hb hg; skip) | ((with_reducible refine gate_dst (N := 3) rfl ?_); refine box_event ?hg (N := 3) ?hd (cs := #[.string name]) (t := 9) ?hr ?_; (case hd => rfl); (case hg => rfl); (case hr => first | (go_simp; done) | (go_simp; rfl)); intro gb3 hg w3 hbox hb; have GE3 := Aside0.mk (show w.heap.size ≤ gb3 by rw [hg]; exact HB.out.size); have NB3_2 := Aside0.mk (show gb3 ≠ gb2 by have h1_ := blk_lt BK2.out; omega); replace BK2 := Aside0.mk (blk_below BK2.out hb); have BK3 := Aside0.mk hbox; replace HB := Aside0.mk (below_step HB.out hb); clear hbox hb hg; skip) | ((with_reducible refine gate_dst (N := 4) rfl ?_); refine box_event ?hg (N := 4) ?hd (cs := #[.string (⟨#[]⟩ : ByteArray), .slice none 0 0, .string (⟨#[]⟩ : ByteArray)]) (t := 45) ?hr ?_; (case hd => rfl); (case hg => rfl); (case hr => first | (go_simp; done) | (go_simp; rfl)); intro gb4 hg w4 hbox hb; have GE4 := Aside0.mk (show w.heap.size ≤ gb4 by rw [hg]; exact HB.out.size); have NB4_2 := Aside0.mk (show gb4 ≠ gb2 by have h1_ := blk_lt BK2.out; omega); have NB4_3 := Aside0.mk (show gb4 ≠ gb3 by have h1_ := blk_lt BK3.out; omega); replace BK2 := Aside0.mk (blk_below BK2.out hb); replace BK3 := Aside0.mk (blk_below BK3.out hb); have BK4 := Aside0.mk hbox; replace HB := Aside0.mk (below_step HB.out hb); clear hbox hb hg; have f2_1 : w4.cell? ⟨gb2, 1, none⟩ = some (.slice A l.length c) := (blk_cell BK2.out 1).trans rfl; skip) | (go_at_call 80; refine (index45 81 _ Try.func81 (by kernel_rfl) rfl #[.pointer (some ⟨gb3, 0, none⟩)] (fun x => x.f0.toList == name.toList) A c l w4 (Kd.C_below HR.out HB.out) (fun x hx A' c' W hW => propN_calls name gb3 x.f0 A' x.f1.length c' x.f2 W (blk_below BK3.out hW))).mono ?_; rw [HI.out]; rintro e w5 ⟨rfl, hb⟩; clear f2_1; replace BK2 := Aside0.mk (blk_below BK2.out hb); replace BK3 := Aside0.mk (blk_below BK3.out hb); replace BK4 := Aside0.mk (blk_below BK4.out hb); replace HB := Aside0.mk (below_step HB.out hb); clear hb; have f4_0 : w5.cell? ⟨gb4, 0, none⟩ = some (.string ⟨#[]⟩) := (blk_cell BK4.out 0).trans rfl; have f4_1 : w5.cell? ⟨gb4, 1, none⟩ = some (.slice none 0 0) := (blk_cell BK4.out 1).trans rfl; have f4_2 : w5.cell? ⟨gb4, 2, none⟩ = some (.string ⟨#[]⟩) := (blk_cell BK4.out 2).trans rfl; have z4_0 := blk_frozen BK4.out 0; have z4_1 := blk_frozen BK4.out 1; have z4_2 := blk_frozen BK4.out 2; have f2_1 : w5.cell? ⟨gb2, 1, none⟩ = some (.slice A l.length c) := (blk_cell BK2.out 1).trans rfl; skip))
    refine bodyPost_ret (results_ct rfl _ _ gb4 45 #[.string (⟨#[]⟩ : ByteArray), .slice none 0 0, .string (⟨#[]⟩ : ByteArray)] (0, 0) _ rfl (by refine blk_put (cs := #[.string (⟨#[]⟩ : ByteArray), .slice none 0 0, .string (⟨#[]⟩ : ByteArray)]) ?_ 2 _ rfl; refine blk_put (cs := #[.string (⟨#[]⟩ : ByteArray), .slice none 0 0, .string (⟨#[]⟩ : ByteArray)]) ?_ 1 _ rfl; refine blk_put (cs := #[.string (⟨#[]⟩ : ByteArray), .slice none 0 0, .string (⟨#[]⟩ : ByteArray)]) ?_ 0 _ rfl; exact BK4.out) Try.underlying45 rfl (by kernel_rfl)) rfl ?_
    exact ⟨⟨_, _, _, _, rfl⟩, below_set (below_set (below_set HB.out GE4.out) GE4.out) GE4.out⟩
  · have hP : propP l name = (l[i].f2, true) := by unfold propP; rw [hf]
    rw [hP]
    have HI := Aside0.mk he
    have e0 : decide ((i : Int) < 0) = false := decide_eq_false (by omega)
    have p0 : (0 ≤ (i : Int)) = True := eq_true (by omega)
    have q0 : ((i : Int) < (l.length : Int)) = True := eq_true (by omega)
    obtain ⟨ad, A1, c1, ea, hx0, hx1, hx2, _, _⟩ := at_T45 HR.out (i : Int) (by omega) (by omega)
    have hget : rd_T45 l (i : Int) = l[i] := by simp [rd_T45, hi]
    rw [hget] at hx0 hx1 hx2
    simp only [Int.toNat_natCast] at hx0 hx1 hx2
    subst ea
    have HX0 := Aside0.mk hx0
    have HX1 := Aside0.mk hx1
    have HX2 := Aside0.mk hx2
    clear hP hf he hget hx0 hx1 hx2
    go_enter Try.func42, Try.ntmps42
    go_wp2_with (first | ((with_reducible refine gate_dst (N := 2) rfl ?_); refine box_event ?hg (N := 2) ?hd (cs := #[.string nm0, .slice (some ad) l.length c, .slice A2 n2 c2]) (t := 25) ?hr ?_; (case hd => rfl); (case hg => rfl); (case hr => first | (go_simp; done) | (go_simp; rfl)); intro gb2 hg w2 hbox hb; have GE2 := Aside0.mk (show w.heap.size ≤ gb2 by rw [hg]; exact HB.out.size); have BK2 := Aside0.mk hbox; replace HB := Aside0.mk (below_step HB.out hb); clear hbox hb hg; skip) | ((with_reducible refine gate_dst (N := 3) rfl ?_); refine box_event ?hg (N := 3) ?hd (cs := #[.string name]) (t := 9) ?hr ?_; (case hd => rfl); (case hg => rfl); (case hr => first | (go_simp; done) | (go_simp; rfl)); intro gb3 hg w3 hbox hb; have GE3 := Aside0.mk (show w.heap.size ≤ gb3 by rw [hg]; exact HB.out.size); have NB3_2 := Aside0.mk (show gb3 ≠ gb2 by have h1_ := blk_lt BK2.out; omega); replace BK2 := Aside0.mk (blk_below BK2.out hb); have BK3 := Aside0.mk hbox; replace HB := Aside0.mk (below_step HB.out hb); clear hbox hb hg; skip) | ((with_reducible refine gate_dst (N := 4) rfl ?_); refine box_event ?hg (N := 4) ?hd (cs := #[.string (⟨#[]⟩ : ByteArray), .slice none 0 0, .string (⟨#[]⟩ : ByteArray)]) (t := 45) ?hr ?_; (case hd => rfl); (case hg => rfl); (case hr => first | (go_simp; done) | (go_simp; rfl)); intro gb4 hg w4 hbox hb; have GE4 := Aside0.mk (show w.heap.size ≤ gb4 by rw [hg]; exact HB.out.size); have NB4_2 := Aside0.mk (show gb4 ≠ gb2 by have h1_ := blk_lt BK2.out; omega); have NB4_3 := Aside0.mk (show gb4 ≠ gb3 by have h1_ := blk_lt BK3.out; omega); replace BK2 := Aside0.mk (blk_below BK2.out hb); replace BK3 := Aside0.mk (blk_below BK3.out hb); have BK4 := Aside0.mk hbox; replace HB := Aside0.mk (below_step HB.out hb); clear hbox hb hg; have f2_1 : w4.cell? ⟨gb2, 1, none⟩ = some (.slice (some ad) l.length c) := (blk_cell BK2.out 1).trans rfl; skip) | (go_at_call 80; refine (index45 81 _ Try.func81 (by kernel_rfl) rfl #[.pointer (some ⟨gb3, 0, none⟩)] (fun x => x.f0.toList == name.toList) (some ad) c l w4 (Kd.C_below HR.out HB.out) (fun x hx A' c' W hW => propN_calls name gb3 x.f0 A' x.f1.length c' x.f2 W (blk_below BK3.out hW))).mono ?_; rw [HI.out]; rintro e w5 ⟨rfl, hb⟩; clear f2_1; replace BK2 := Aside0.mk (blk_below BK2.out hb); replace BK3 := Aside0.mk (blk_below BK3.out hb); replace BK4 := Aside0.mk (blk_below BK4.out hb); replace HB := Aside0.mk (below_step HB.out hb); clear hb; have f4_0 : w5.cell? ⟨gb4, 0, none⟩ = some (.string ⟨#[]⟩) := (blk_cell BK4.out 0).trans rfl; have f4_1 : w5.cell? ⟨gb4, 1, none⟩ = some (.slice none 0 0) := (blk_cell BK4.out 1).trans rfl; have f4_2 : w5.cell? ⟨gb4, 2, none⟩ = some (.string ⟨#[]⟩) := (blk_cell BK4.out 2).trans rfl; have z4_0 := blk_frozen BK4.out 0; have z4_1 := blk_frozen BK4.out 1; have z4_2 := blk_frozen BK4.out 2; have f2_1 : w5.cell? ⟨gb2, 1, none⟩ = some (.slice (some ad) l.length c) := (blk_cell BK2.out 1).trans rfl; have hx0 := (HB.out.cell (World.block_lt_of_cell? w _ HX0.out)).trans HX0.out; have hx1 := (HB.out.cell (World.block_lt_of_cell? w _ HX1.out)).trans HX1.out; have hx2 := (HB.out.cell (World.block_lt_of_cell? w _ HX2.out)).trans HX2.out))
    refine bodyPost_ret (results_ct rfl _ _ gb4 45 #[.string l[i].f0, .slice A1 l[i].f1.length c1, .string l[i].f2] (0, 0) _ rfl (by refine blk_put (cs := #[.string l[i].f0, .slice A1 l[i].f1.length c1, .string (⟨#[]⟩ : ByteArray)]) ?_ 2 _ rfl; refine blk_put (cs := #[.string l[i].f0, .slice none 0 0, .string (⟨#[]⟩ : ByteArray)]) ?_ 1 _ rfl; refine blk_put (cs := #[.string (⟨#[]⟩ : ByteArray), .slice none 0 0, .string (⟨#[]⟩ : ByteArray)]) ?_ 0 _ rfl; exact BK4.out) Try.underlying45 rfl (by kernel_rfl)) rfl ?_
    exact ⟨⟨_, _, _, _, rfl⟩, below_set (below_set (below_set HB.out GE4.out) GE4.out) GE4.out⟩
end Go.Proofs.Ytebmbfobmakheaa.PD
namespace Go.Proofs.Ytebmbfobmakheaa.PD
open Go.RowKit Go.Proofs.YtebmbfobmakheaaW.PrintWords Go.Proofs.YtebmbfobmakheaaW.PrintLast Go.Proofs.YtebmbfobmakheaaW.PrintMore
attribute [local go_sem] isSome_setCell Oper.semAt_some wide_fn wide_depth
set_option linter.unusedVariables false
set_option linter.unusedSimpArgs false
theorem listOf {α : Type} (Q : Nat → α → Prop) : ∀ n : Nat, (∀ i, i < n → ∃ a, Q i a) → ∃ xs : List α, xs.length = n ∧ ∀ i a, xs[i]? = some a → Q i a
  | 0, _ => ⟨[], rfl, fun i a h => by simp at h⟩
  | n + 1, h => by
    obtain ⟨xs, hl, hx⟩ := listOf Q n (fun i hi => h i (by omega))
    obtain ⟨a, ha⟩ := h n (by omega)
    refine ⟨xs ++ [a], by simp [hl], fun i b hb => ?_⟩
    rcases Nat.lt_or_ge i n with hi | hi
    · rw [List.getElem?_append_left (by omega)] at hb; exact hx i b hb
    · rw [List.getElem?_append_right (by omega)] at hb
      have hi0 : i - xs.length = 0 := by
        rcases Nat.eq_zero_or_pos (i - xs.length) with h0 | h0
        · exact h0
        · rw [List.getElem?_eq_none (by simp; omega)] at hb; cases hb
      rw [hi0] at hb
      have hin : i = n := by omega
      subst hin
      simp at hb
      subst hb
      exact ha
def OkC (w : World) (x : CC) (y : S25) : Prop := x.s = y.f0 ∧ x.n1 = y.f1.length ∧ x.n1 ≤ x.c1 ∧ Kd.C k45 w x.a1 y.f1.length y.f1 ∧ x.n2 = y.f2.length ∧ x.n2 ≤ x.c2 ∧ Kd.C k25 w x.a2 y.f2.length y.f2
theorem cc_of {w : World} {A : Option Addr} {l : List S25} (h : Kd.C k25 w A l.length l) : ∃ L : List CC, L.length = l.length ∧ (∀ i (hi : i < L.length) (hj : i < l.length), OkC w L[i] l[i]) ∧ RdAt A L 0 w := by
  obtain ⟨L, hl, hL⟩ := listOf (fun i (x : CC) => ∃ hi : i < l.length, OkC w x l[i] ∧ ∃ ad, A = some ad ∧ w.cell? (ad.add (i * 3)) = some (.string x.s) ∧ w.cell? ⟨(ad.add (i * 3)).block, (ad.add (i * 3)).off + 1, none⟩ = some (.slice x.a1 x.n1 x.c1) ∧ w.cell? ⟨(ad.add (i * 3)).block, (ad.add (i * 3)).off + 2, none⟩ = some (.slice x.a2 x.n2 x.c2)) l.length (fun i hi => by
    obtain ⟨ad, A1, c1, A2, c2, e, h0, h1, h2, h3, h4, h5, h6⟩ := at_T25 h (i : Int) (by omega) (by omega)
    have hg : rd_T25 l (i : Int) = l[i] := by simp [rd_T25, hi]
    rw [hg] at h0 h1 h2 h3 h4 h5 h6
    rw [Int.toNat_natCast] at h0 h1 h2
    exact ⟨⟨l[i].f0, A1, l[i].f1.length, c1, A2, l[i].f2.length, c2⟩, hi, ⟨rfl, rfl, h3, h4, rfl, h5, h6⟩, ad, e, h0, h1, h2⟩)
  refine ⟨L, hl, fun i hi hj => ?_, fun j _ hj => ?_⟩
  · obtain ⟨_, h1, _⟩ := hL i _ (List.getElem?_eq_getElem hi)
    exact h1
  · obtain ⟨_, _, h2⟩ := hL j _ (List.getElem?_eq_getElem hj)
    exact h2
theorem OkC.below {w W : World} {x : CC} {y : S25} (h : OkC w x y) (hb : Below w.heap.size w W) : OkC W x y := ⟨h.1, h.2.1, h.2.2.1, Kd.C_below h.2.2.2.1 hb, h.2.2.2.2.1, h.2.2.2.2.2.1, Kd.C_below h.2.2.2.2.2.2 hb⟩
theorem RdAt.below {A : Option Addr} {L : List CC} {i k : Nat} {w W : World} (h : RdAt A L i w) (hb : Below w.heap.size w W) (hik : i ≤ k) : RdAt A L k W := fun j hj hl => by
  obtain ⟨ad, e, h0, h1, h2⟩ := h j (by omega) hl
  exact ⟨ad, e, (hb.cell (World.block_lt_of_cell? w _ h0)).trans h0, (hb.cell (World.block_lt_of_cell? w _ h1)).trans h1, (hb.cell (World.block_lt_of_cell? w _ h2)).trans h2⟩
def othI : Nat → List S25 → List Nat
  | _, [] => []
  | i, x :: r => if isTz x.f0 = true then othI (i + 1) r else i :: othI (i + 1) r
theorem oth_map : ∀ (L : List CC) (l : List S25) (i : Nat), L.length = l.length → (∀ j (hi : j < L.length) (hj : j < l.length), L[j].s = l[j].f0) → (othersF i L).map Prod.snd = othI i l
  | [], [], _, _, _ => rfl
  | x :: L, y :: l, i, hl, h => by
    have h0 := h 0 (by simp) (by simp)
    simp only [List.getElem_cons_zero] at h0
    have ih := oth_map L l (i + 1) (by simpa using hl) (fun j hi hj => h (j + 1) (Nat.succ_lt_succ hi) (Nat.succ_lt_succ hj))
    unfold othersF othI
    rw [h0]
    split
    · exact ih
    · rw [List.map_cons, ih]
  | [], _ :: _, _, hl, _ => by simp at hl
  | _ :: _, [], _, hl, _ => by simp at hl
theorem oth_mem : ∀ (L : List CC) (i : Nat) (p : CC × Nat), p ∈ othersF i L → i ≤ p.2 ∧ ∃ h : p.2 - i < L.length, L[p.2 - i] = p.1
  | [], _, p, h => by simp [othersF] at h
  | x :: L, i, p, h => by
    unfold othersF at h
    have key : p ∈ othersF (i + 1) L → i ≤ p.2 ∧ ∃ h : p.2 - i < (x :: L).length, (x :: L)[p.2 - i] = p.1 := fun hp => by
      obtain ⟨h1, h2, h3⟩ := oth_mem L (i + 1) p hp
      refine ⟨by omega, by simp; omega, ?_⟩
      obtain ⟨q, hq⟩ : ∃ q, p.2 - i = q + 1 := ⟨p.2 - i - 1, by omega⟩
      have hq2 : p.2 - (i + 1) = q := by omega
      simp only [hq, List.getElem_cons_succ]
      simp only [hq2] at h3
      exact h3
    split at h
    · exact key h
    · rcases List.mem_cons.1 h with rfl | h
      · exact ⟨Nat.le_refl _, by simp, by simp⟩
      · exact key h
theorem oth_at {L : List CC} {p : CC × Nat} (h : p ∈ othersF 0 L) : ∃ hi : p.2 < L.length, L[p.2] = p.1 := by
  obtain ⟨_, h1, h2⟩ := oth_mem L 0 p h
  exact ⟨h1, h2⟩
theorem find_at {α : Type} (p : α → Bool) (pre : List α) (x : α) (xs : List α) (h : pre ++ [x] <+: xs) (hn : ∀ t ∈ pre, p t = false) (hx : p x = true) : xs.find? p = some x := by
  obtain ⟨r, rfl⟩ := h
  rw [List.append_assoc, List.find?_append]
  have : pre.find? p = none := List.find?_eq_none.2 (fun t ht => by simp [hn t ht])
  rw [this]
  simp [hx]
end Go.Proofs.Ytebmbfobmakheaa.PD
namespace Go.Proofs.Ytebmbfobmakheaa.PD
open Go.RowKit Go.Shelf Go.Proofs.YtebmbfobmakheaaW.PrintWords Go.Proofs.YtebmbfobmakheaaW.PrintLast Go.Proofs.YtebmbfobmakheaaW.PrintMore
attribute [local go_sem] isSome_setCell Oper.semAt_some wide_fn wide_depth
set_option linter.unusedVariables false
set_option linter.unusedSimpArgs false
abbrev orgN : ByteArray := (⟨#[79, 82, 71, 65, 78, 73, 90, 69, 82]⟩ : ByteArray)
def organizerP (l : List S25) : ByteArray := match (othI 0 l).find? (fun i => (propP (l.getD i z25).f1 orgN).2) with | some i => (propP (l.getD i z25).f1 orgN).1 | none => (⟨#[]⟩ : ByteArray)
theorem results12 (tmps : Array Value) (w : World) (S : Nat) (t : ByteArray) (h2 : tmps.getD 2 undef = .pointer (some ⟨S, 0, none⟩)) (q : w.heap[S]? = some (.cells #[.string t] 9 (0, 0))) : (results Try.f12 tmps).run Try.prog w = .ok (.string t) w := by
  have d2 := (blk_cell q 0).trans rfl
  unfold results
  rw [show Try.f12.results = [ResultVar.cell 2 9].toArray from rfl, List.mapM_toArray]
  simp only [Sem.run_bind, Sem.run_map, List.mapM_cons, List.mapM_nil, h2]
  simp [asAddr, loadVar, go_sem, d2, Try.underlying9]
def Og (w : World) (S : Nat) (t : ByteArray) (W : World) : Prop := W.heap[S]? = some (.cells #[.string t] 9 (0, 0)) ∧ Below w.heap.size w W
theorem og_own {β : Type} (w : World) (B S : Nat) (hB : S < B) (hS : w.heap.size ≤ S) (t : ByteArray) (p : β → Prop) : OwnZ NoZ B (fun (s : β) W => p s ∧ Og w S t W) := fun s X Y row hs hg hr => by
  refine ⟨hs.1, (hg.block S (Array.getElem?_eq_some_iff.1 hs.2.1).1 (fun e => ?_)).trans hs.2.1, hg.os.trans hs.2.2.os, hg.tape.trans hs.2.2.tape, hg.output.trans hs.2.2.output, Nat.le_trans hs.2.2.size hg.size, fun k hk => (hg.block k (Nat.lt_of_lt_of_le hk hs.2.2.size) (fun e => ?_)).trans (hs.2.2.block k hk)⟩
  · rcases hr S e.symm with h | h
    · exact h
    · have := h.1; omega
  · rcases hr k e.symm with h | h
    · exact h
    · have := h.1; omega
theorem og_set {w W W6 : World} {S : Nat} {t : ByteArray} (h : Og w S t W) (hb : Below W.heap.size W W6) (t' : ByteArray) (B : Nat) (hS : w.heap.size ≤ S ∧ S < B) :
    KA B W (W6.setCell ⟨S, 0, none⟩ (.string t')) ∧ Below w.heap.size W (W6.setCell ⟨S, 0, none⟩ (.string t')) ∧ Og w S t' (W6.setCell ⟨S, 0, none⟩ (.string t')) := by
  have hl := (Array.getElem?_eq_some_iff.1 h.1).1
  have h2 : Below w.heap.size W (W6.setCell ⟨S, 0, none⟩ (.string t')) := (hb.mono h.2.size).setCell (p := ⟨S, 0, none⟩) hS.1 _
  refine ⟨⟨h2.size, fun i o hi ho => ?_⟩, h2, ?_, h.2.trans h2⟩
  · exact (Below.heap_setCell _ _ _ i (by show i ≠ S; omega)).trans ((hb.block i (Array.getElem?_eq_some_iff.1 ho).1).trans ho)
  · have := blk_set (blk_below h.1 hb) 0 (.string t')
    simpa using this
set_option maxRecDepth 100000 in
set_option maxHeartbeats 8000000 in
theorem organizer_walk (nm : ByteArray) (A1 : Option Addr) (n1 c1 : Nat) (A : Option Addr) (c : Nat) (l : List S25) (w : World) (hr : Kd.C k25 w A l.length l) :
    Calls Try.prog 12 #[.agg #[.string nm, .slice A1 n1 c1, .slice A l.length c]] w fun e w' => e = .returned (.string (organizerP l)) ∧ Below w.heap.size w w' := by
  have hml : l.length ≤ 9223372036854775807 := by have := hr.2.1; unfold maxLen at this; omega
  obtain ⟨L, hLl, hOk, hRd⟩ := cc_of hr
  have HOK := Aside0.mk hOk
  have HRD := Aside0.mk hRd
  have hmap := oth_map L l 0 hLl (fun j hi hj => (hOk j hi hj).1)
  have HMAP := Aside0.mk hmap
  clear hr hOk hRd hmap
  have HV : Aside0 (Og w (w.heap.size + 1) (⟨#[]⟩ : ByteArray) ((w.alloc (.cells #[.string nm, .slice A1 n1 c1, .slice A l.length c] 25)).alloc (.cells #[.string (⟨#[]⟩ : ByteArray)] 9))) := ⟨by
      have := heap_alloc_new (w.alloc (.cells #[.string nm, .slice A1 n1 c1, .slice A l.length c] 25)) (.cells #[.string (⟨#[]⟩ : ByteArray)] 9)
      rw [World.size_alloc] at this
      exact this, below_alloc (below_alloc (Below.refl _ _) _) _⟩
  refine (callsIn_wide (n := 51)).1 ?_
  refine callsIn_of_wp_marks Try.func12 rfl trivial ?_ rfl
  simp only [Try.ntmps12, List.size_toArray, List.length_cons, List.length_nil, Nat.reduceAdd, Nat.reduceSub, Array.replicate_succ, Array.replicate_zero, List.push_toArray, List.append_toArray, List.nil_append, List.cons_append]
  gi_wp2
  gi_at_call 41
  refine (callsIn_wide.2 (comps_made nm A1 n1 c1 A l.length c _)).mono ?_
  rintro e w4 ⟨rfl, rfl⟩
  gi_wp2
  obtain ⟨V, hVe⟩ : ∃ V, ((w.alloc (.cells #[.string nm, .slice A1 n1 c1, .slice A l.length c] 25)).alloc (.cells #[.string (⟨#[]⟩ : ByteArray)] 9)).alloc (.cells #[.string nm, .slice A1 n1 c1, .slice A l.length c] 25) = V := ⟨_, rfl⟩
  have hz : V.heap.size = w.heap.size + 3 := by rw [← hVe]; simp
  have q1 : V.heap[w.heap.size + 1 + 1]? = some (.cells #[.string nm, .slice A1 n1 c1, .slice A l.length c] 25 (0, 0)) := by
    have := heap_alloc_new ((w.alloc (.cells #[.string nm, .slice A1 n1 c1, .slice A l.length c] 25)).alloc (.cells #[.string (⟨#[]⟩ : ByteArray)] 9)) (.cells #[.string nm, .slice A1 n1 c1, .slice A l.length c] 25)
    rw [World.size_alloc, World.size_alloc, hVe] at this
    exact this
  have HOG := Aside0.mk (show Og w (w.heap.size + 1) (⟨#[]⟩ : ByteArray) V from by rw [← hVe]; exact ⟨blk_alloc HV.out.1 _, below_alloc HV.out.2 _⟩)
  rw [hVe]
  clear hVe HV
  have hLm : L.length ≤ 9223372036854775807 := by omega
  have q1' : V.heap[w.heap.size + 1 + 1]? = some (.cells #[.string nm, .slice A1 n1 c1, .slice A L.length c] 25 (0, 0)) := by rw [hLl]; exact q1
  refine range_z (n₀ := w.heap.size) (Z := NoZ) (gf := 79) (lb := #[.pointer (some ⟨w.heap.size + 1 + 1, 0, none⟩)]) (En := fun x ar _ => ar = encC x) (xs := othersF 0 L) (Rd := fun pre W => RdAt A L (nextI pre) W) (Own := fun _ _ => False) rfl (enters_of Try.func79 (by kernel_rfl) rfl) (by omega) (fun b hb => hb.elim)
    (fun l' J Jx W hW hJ hJx hRd _ _ hY h0 => (callsIn_wide (n := 51)).1 (comps_in A c L hLm nm A1 n1 c1 l' (w.heap.size + 1 + 1) w.heap.size J Jx W hJ hRd (fun pre x W1 h1 h2 => hY pre x _ W1 h1 h2 rfl) ((hW.block (w.heap.size + 1 + 1) (by omega)).trans q1') h0)) (fun x ar _ e => by rw [e]; rfl)
    (fun pre W => (∀ p ∈ pre, (propP (l.getD p.2 z25).f1 orgN).2 = false) ∧ Og w (w.heap.size + 1) (⟨#[]⟩ : ByteArray) W)
    (fun pre W h => HRD.out.below h.2.2 (Nat.zero_le _))
    (fun cd pre W => (cd = .ret ∧ ∃ i, (othI 0 l).find? (fun i => (propP (l.getD i z25).f1 orgN).2) = some i ∧ Og w (w.heap.size + 1) (propP (l.getD i z25).f1 orgN).1 W))
    (og_own w _ _ (by omega) (by omega) _ _) (fun cd => fun s X Y row h hg hr => by obtain ⟨hc, i, hi, ho⟩ := h; exact ⟨hc, i, hi, (og_own w V.heap.size (w.heap.size + 1) (by omega) (by omega) _ (fun _ : Unit => True) () X Y row ⟨trivial, ho⟩ hg hr).2⟩) (OwnS.none _ _ _) (fun _ => OwnS.none _ _ _) ⟨fun p hp => (by cases hp), HOG.out⟩
    (fun x a' W => ∃ G, w.heap.size + 3 ≤ G ∧ a' = { tmps := #[.agg #[.string nm, .slice A1 n1 c1, .slice A l.length c], .pointer (some ⟨w.heap.size, 0, none⟩), .pointer (some ⟨w.heap.size + 1, 0, none⟩), undef, .pointer (some ⟨G, 0, none⟩), undef, undef, .agg #[.string nm, .slice A1 n1 c1, .slice A l.length c], .func (.func 79) #[] #[.pointer (some ⟨w.heap.size + 1 + 1, 0, none⟩)], .int .i64 x.2, x.1.enc, undef, undef, undef, undef, undef, undef, undef, undef], defers := [] } ∧ W.heap[G]? = some (.cells x.1.cells 25 (0, 0)))
    (fun x a' _ X Y row h hg hr => by
      obtain ⟨G, hG, e, hb⟩ := h
      refine ⟨G, hG, e, (hg.block G (Array.getElem?_eq_some_iff.1 hb).1 (fun e2 => ?_)).trans hb⟩
      rcases hr G e2.symm with h1 | ⟨_, o, h2, h3⟩
      · exact h1
      · rw [hb] at h2; cases h2; cases h3) ?assign ?body ?done ?stop
  case assign =>
    rintro l' pre x ar W K hI hpx rfl hW hK
    gi_wp2
    have hb : Below W.heap.size W (W.alloc (.cells x.1.cells 25)) := below_alloc (Below.refl _ _) _
    refine hK _ _ (kf_below hb).ko (hb.mono hI.2.2.size) (fun _ h => h.elim) ⟨hI.1, blk_alloc hI.2.1 _, below_alloc hI.2.2 _⟩ ⟨W.heap.size, by omega, by simp, heap_alloc_new W _⟩
  case body =>
    rintro l' pre x a' W ⟨hno, hog⟩ hpx hWs ⟨G, hG, rfl, hb⟩
    obtain ⟨hxi, hxe⟩ := oth_at (p := x) (hpx.subset (List.mem_append_right _ List.mem_cons_self))
    have hxl : x.2 < l.length := by omega
    have hok := (HOK.out x.2 hxi hxl).below hog.2
    rw [hxe] at hok
    obtain ⟨hk1, hk2, hk3, hk4, _⟩ := hok
    have hgd : l.getD x.2 z25 = l[x.2] := by simp [hxl]
    have HG := Aside0.mk hgd
    have HNO := Aside0.mk hno
    have HOG1 := Aside0.mk hog
    have HPX := Aside0.mk hpx
    have HBX := Aside0.mk hb
    have HK4 := Aside0.mk hk4
    have g0 : W.cell? ⟨G, 0, none⟩ = some (.string x.1.s) := (blk_cell hb 0).trans rfl
    have g1 : W.cell? ⟨G, 1, none⟩ = some (.slice x.1.a1 x.1.n1 x.1.c1) := (blk_cell hb 1).trans rfl
    have g2 : W.cell? ⟨G, 2, none⟩ = some (.slice x.1.a2 x.1.n2 x.1.c2) := (blk_cell hb 2).trans rfl
    rw [hk2] at g1
    clear hno hog hpx hb hk1 hk3 hk4 hgd hxe
    gi_wp2
    gi_at_call 42
    refine (CallsIn.inRound l' (callsIn_wide.2 (comp_Prop_walk _ _ _ l[x.2].f1 _ _ _ orgN W HK4.out))).mono ?_
    rintro e w5 ⟨⟨s0, Aq, nq, cq, rfl⟩, hb5⟩
    have HB5 := Aside0.mk hb5
    clear hb5 g0 g1 g2
    have HB6 := Aside0.mk (HB5.out.trans ((below_alloc (Below.refl w5.heap.size w5) (.cells #[.string s0, .slice Aq nq cq, .string (propP l[x.2].f1 orgN).1] 45)).mono HB5.out.size))
    have u1 : (w5.alloc (.cells #[.string s0, .slice Aq nq cq, .string (propP l[x.2].f1 orgN).1] 45)).cell? ⟨w.heap.size + 1, 0, none⟩ = some (.string (⟨#[]⟩ : ByteArray)) := (blk_cell (blk_below HOG1.out.1 HB6.out) 0).trans rfl
    have u2 : (w5.alloc (.cells #[.string s0, .slice Aq nq cq, .string (propP l[x.2].f1 orgN).1] 45)).frozen? ⟨w.heap.size + 1, 0, none⟩ = false := blk_frozen (blk_below HOG1.out.1 HB6.out) 0
    cases hp : (propP l[x.2].f1 orgN).2 with
    | false =>
      have HP := Aside0.mk hp
      clear hp
      gi_wp2
      refine ⟨(kf_below HB6.out).ko, HB6.out.mono HOG1.out.2.size, fun _ h => h.elim, fun p hp => ?_, blk_below HOG1.out.1 HB6.out, HOG1.out.2.trans (HB6.out.mono HOG1.out.2.size)⟩
      rcases List.mem_append.1 hp with hp | hp
      · exact HNO.out p hp
      · rw [List.mem_singleton.1 hp, HG.out]; exact HP.out
    | true =>
      have HP := Aside0.mk hp
      clear hp
      gi_wp2
      have hfi : (othI 0 l).find? (fun i => (propP (l.getD i z25).f1 orgN).2) = some x.2 := by
        have h1 := find_at (fun p : CC × Nat => (propP (l.getD p.2 z25).f1 orgN).2) pre x _ HPX.out HNO.out (by rw [HG.out]; exact HP.out)
        rw [← HMAP.out, List.find?_map]
        show Option.map Prod.snd ((othersF 0 L).find? (fun p : CC × Nat => (propP (l.getD p.2 z25).f1 orgN).2)) = _
        rw [h1]
        rfl
      obtain ⟨k1, k2, k3⟩ := og_set (W := W) HOG1.out HB6.out (propP l[x.2].f1 orgN).1 V.heap.size (by omega)
      exact ⟨k1.ko, k2, fun _ h => h.elim, rfl, x.2, hfi, by rw [HG.out]; exact k3⟩
  case done =>
    rintro D2 W hD2 ⟨hno, hog⟩ hK
    have hF : (othI 0 l).find? (fun i => (propP (l.getD i z25).f1 orgN).2) = none := by
      rw [← HMAP.out, List.find?_map]
      show Option.map Prod.snd ((othersF 0 L).find? (fun p : CC × Nat => (propP (l.getD p.2 z25).f1 orgN).2)) = none
      rw [List.find?_eq_none.2 (fun p hp => by simpa using hno p hp)]
      rfl
    have hP : organizerP l = (⟨#[]⟩ : ByteArray) := by unfold organizerP; rw [hF]
    have HP2 := Aside0.mk hP
    have u1 : W.cell? ⟨w.heap.size + 1, 0, none⟩ = some (.string (⟨#[]⟩ : ByteArray)) := (blk_cell hog.1 0).trans rfl
    have u2 : W.frozen? ⟨w.heap.size + 1, 0, none⟩ = false := blk_frozen hog.1 0
    obtain ⟨k1, k2, k3⟩ := og_set (W := W) hog (Below.refl _ W) (⟨#[]⟩ : ByteArray) V.heap.size (by omega)
    have K1 := Aside0.mk k1
    have K3 := Aside0.mk k3
    clear hno hog hF hP k1 k2 k3
    gi_wp2
    refine ⟨by simp, .inl ⟨_, _, rfl, run_takeDeferred (by exact (K1.out.same D2 _ hD2 hK)), ?_⟩⟩
    exact ⟨_, results12 _ _ (w.heap.size + 1) _ rfl ((World.putObj_heap_other (by omega)).trans K3.out.1), by rw [HP2.out], K3.out.2.trans (below_put _ (by omega))⟩
  case stop =>
    rintro D2 cd pre W hD2 hpre ⟨rfl, i, hF, hog⟩ hK
    have hP : organizerP l = (propP (l.getD i z25).f1 orgN).1 := by unfold organizerP; rw [hF]
    have HP2 := Aside0.mk hP
    have K3 := Aside0.mk hog
    clear hF hP hog
    gi_wp2
    refine ⟨by simp, .inl ⟨_, _, rfl, run_takeDeferred hK, ?_⟩⟩
    exact ⟨_, results12 _ _ (w.heap.size + 1) _ rfl ((World.putObj_heap_other (by omega)).trans K3.out.1), by rw [HP2.out], K3.out.2.trans (below_put _ (by omega))⟩
def itip_Organizer.f (k : Nat) (a0_0 : ByteArray) (l0_1 : List (S45)) (l0_2 : List (S25)) : Option (ByteArray) := some (organizerP l0_2)
theorem itip_Organizer.calls (k : Nat) (a0_0 : ByteArray) (A0_1 : Option Addr) (c0_1 : Nat) (l0_1 : List (S45)) (A0_2 : Option Addr) (c0_2 : Nat) (l0_2 : List (S25)) (r : ByteArray) (w : World) (hr0_1 : Kd.C k45 w A0_1 l0_1.length l0_1) (hc0_1 : l0_1.length ≤ c0_1) (hr0_2 : Kd.C k25 w A0_2 l0_2.length l0_2) (hc0_2 : l0_2.length ≤ c0_2) (h : itip_Organizer.f k a0_0 l0_1 l0_2 = some r) :
    Calls Try.prog 12 #[.agg #[.string a0_0, .slice A0_1 l0_1.length c0_1, .slice A0_2 l0_2.length c0_2]] w fun e w' => e = .returned (.string r) ∧ Below w.heap.size w w' := by
  obtain rfl := Option.some.inj h
  exact organizer_walk a0_0 A0_1 _ c0_1 A0_2 c0_2 l0_2 w hr0_2
end Go.Proofs.Ytebmbfobmakheaa.PD
namespace Go.Proofs.Ytebmbfobmakheaa.PD
open Go.RowKit Go.Proofs.YtebmbfobmakheaaW.PrintWords Go.Proofs.YtebmbfobmakheaaW.PrintLast Go.Proofs.YtebmbfobmakheaaW.PrintMore
attribute [local go_sem] isSome_setCell max2_int min2_int max_two min_two
set_option linter.unusedVariables false
set_option linter.unusedSimpArgs false
set_option maxHeartbeats 8000000 in
set_option maxRecDepth 100000 in
theorem clone45 (P : Nat → Prop) (A : Option Addr) (c : Nat) (l : List S45) (w : World) (hs : Kd.V k45 45 w w.heap.size P (.slice A l.length c) l) (hlim : l.length < 2513169434917) :
    Calls Try.prog 95 #[.slice A l.length c] w fun e w' => ∃ v : Value, e = .returned v ∧ Kd.N k45 45 w' w.heap.size (fun k_ => P k_ ∨ w.heap.size ≤ k_) v l ∧ Below w.heap.size w w' := by
  rcases A with _ | ad
  · have hl : l = [] := by
      rcases Nat.eq_zero_or_pos l.length with h0 | h0
      · exact List.eq_nil_of_length_eq_zero h0
      · obtain ⟨ad, h', _⟩ := (Kd.V_reads' hs).2.2.2.2 h0
        cases h'
    subst hl
    have hq : ∀ (W : World) (n c n' c' : Nat), (binOp .eql 22 (.slice none n c) (.slice none n' c')).run Try.prog W = .ok (.bool true) W := fun W n c n' c' => Lib.run_eql_slice_nil W _ _ none n c n' c' Try.underlying22
    go_enter Try.func95, Try.ntmps95
    go_wp2
    go_ret
    exact ⟨_, rfl, Kd.N_nil _ _ _ _ _, Below.refl _ _⟩
  have hq : ∀ (W : World) (n c n' c' : Nat), (binOp .eql 22 (.slice (some ad) n c) (.slice none n' c')).run Try.prog W = .ok (.bool false) W := fun W n c n' c' => Lib.run_eql_slice_nil W _ _ (some ad) n c n' c' Try.underlying22
  have HV := Aside0.mk (show Kd.V k45 45 w w.heap.size (fun k_ => P k_ ∧ k_ < w.heap.size) (.slice (some ad) l.length c) l from Kd.V_bound hs)
  clear hs
  have HB := Aside0.mk (Below.refl w.heap.size w)
  go_enter Try.func95, Try.ntmps95
  go_wp2_with (first | ((with_reducible refine gate_dst (N := 5) rfl ?_); refine Kd.N_lit k45 (w0 := w) w.heap.size 45 ?hg (N' := 5) ?hd (xs := ([] : List S45)) (inner := []) (ok := (fun k_ => P k_ ∨ w.heap.size ≤ k_)) (okp := fun _ => False) ?hr ?hp (fun _ hk => hk.elim) (.inr HB.out.size) HB.out HB.out.size (by simp) ?_; (case hd => rfl); (case hg => rfl); (case hr => first | (go_simp; done) | (go_simp; rfl)); (case hp => exact (Reps.none _ _)); intro v5 w5 ho hb hg hat; have HO5 := Aside0.mk ho; have HV5 := Aside0.mk (Kd.V_grown HV.out hg (fun k _ => by simp)); clear HV HB; have HB := Aside0.mk hb; clear ho hb hg hat) | ((with_reducible refine gate_builtin (b := .append) (xs := #[.tmp 5, .tmp 6]) rfl ?_); at_builtin; refine Kd.N_append_rows k45 (w0 := w) w.heap.size rfl (.tmp 5) (.tmp 6) 22 45 (.agg #[(.string ⟨#[]⟩), (.slice none 0 0), (.string ⟨#[]⟩)]) 56 rfl Try.underlying22 info45 rfl (by decide) (by omega) v5 ([] : List S45) l _ _ _ (fun k_ => P k_ ∨ w.heap.size ≤ k_) (fun k_ => (fun k_ => P k_ ∨ w.heap.size ≤ k_) k_ ∧ some k_ ≠ (v5 : Value).ownBlock) rfl rfl ?aO ?aR (fun _ hk => hk) ?aF ?aB ?aS ?aL ?_; (case aO => exact HO5.out); (case aR => exact Kd.F_mono (Kd.V_F HV5.out) (fun k_ hk => ⟨.inl hk.1, fun e_ => by have h_ := Kd.N_base HO5.out k_ e_.symm; have := hk.2; omega⟩)); (case aF => exact fun k_ hk => .inr (Nat.le_trans HB.out.size hk)); (case aB => exact HB.out); (case aS => exact HB.out.size); (case aL => simp only [List.length_nil]; omega); intro v6 w6 ho hb hg hat; have HO6 := Aside0.mk ho; clear HB; have HB := Aside0.mk hb; clear ho hb hg hat))
  go_ret
  exact ⟨_, rfl, by have h_ := HO6.out; rw [List.nil_append] at h_; exact h_, HB.out⟩
set_option maxHeartbeats 8000000 in
set_option maxRecDepth 100000 in
theorem clone25 (P : Nat → Prop) (A : Option Addr) (c : Nat) (l : List S25) (w : World) (hs : Kd.V k25 25 w w.heap.size P (.slice A l.length c) l) (hlim : l.length < 2199023255552) :
    Calls Try.prog 94 #[.slice A l.length c] w fun e w' => ∃ v : Value, e = .returned v ∧ Kd.N k25 25 w' w.heap.size (fun k_ => P k_ ∨ w.heap.size ≤ k_) v l ∧ Below w.heap.size w w' := by
  rcases A with _ | ad
  · have hl : l = [] := by
      rcases Nat.eq_zero_or_pos l.length with h0 | h0
      · exact List.eq_nil_of_length_eq_zero h0
      · obtain ⟨ad, h', _⟩ := (Kd.V_reads' hs).2.2.2.2 h0
        cases h'
    subst hl
    have hq : ∀ (W : World) (n c n' c' : Nat), (binOp .eql 23 (.slice none n c) (.slice none n' c')).run Try.prog W = .ok (.bool true) W := fun W n c n' c' => Lib.run_eql_slice_nil W _ _ none n c n' c' Try.underlying23
    go_enter Try.func94, Try.ntmps94
    go_wp2
    go_ret
    exact ⟨_, rfl, Kd.N_nil _ _ _ _ _, Below.refl _ _⟩
  have hq : ∀ (W : World) (n c n' c' : Nat), (binOp .eql 23 (.slice (some ad) n c) (.slice none n' c')).run Try.prog W = .ok (.bool false) W := fun W n c n' c' => Lib.run_eql_slice_nil W _ _ (some ad) n c n' c' Try.underlying23
  have HV := Aside0.mk (show Kd.V k25 25 w w.heap.size (fun k_ => P k_ ∧ k_ < w.heap.size) (.slice (some ad) l.length c) l from Kd.V_bound hs)
  clear hs
  have HB := Aside0.mk (Below.refl w.heap.size w)
  go_enter Try.func94, Try.ntmps94
  go_wp2_with (first | ((with_reducible refine gate_dst (N := 5) rfl ?_); refine Kd.N_lit k25 (w0 := w) w.heap.size 25 ?hg (N' := 5) ?hd (xs := ([] : List S25)) (inner := []) (ok := (fun k_ => P k_ ∨ w.heap.size ≤ k_)) (okp := fun _ => False) ?hr ?hp (fun _ hk => hk.elim) (.inr HB.out.size) HB.out HB.out.size (by simp) ?_; (case hd => rfl); (case hg => rfl); (case hr => first | (go_simp; done) | (go_simp; rfl)); (case hp => exact (Reps.none _ _)); intro v5 w5 ho hb hg hat; have HO5 := Aside0.mk ho; have HV5 := Aside0.mk (Kd.V_grown HV.out hg (fun k _ => by simp)); clear HV HB; have HB := Aside0.mk hb; clear ho hb hg hat) | ((with_reducible refine gate_builtin (b := .append) (xs := #[.tmp 5, .tmp 6]) rfl ?_); at_builtin; refine Kd.N_append_rows k25 (w0 := w) w.heap.size rfl (.tmp 5) (.tmp 6) 23 25 (.agg #[(.string ⟨#[]⟩), (.slice none 0 0), (.slice none 0 0)]) 64 rfl Try.underlying23 info25 rfl (by decide) (by omega) v5 ([] : List S25) l _ _ _ (fun k_ => P k_ ∨ w.heap.size ≤ k_) (fun k_ => (fun k_ => P k_ ∨ w.heap.size ≤ k_) k_ ∧ some k_ ≠ (v5 : Value).ownBlock) rfl rfl ?aO ?aR (fun _ hk => hk) ?aF ?aB ?aS ?aL ?_; (case aO => exact HO5.out); (case aR => exact Kd.F_mono (Kd.V_F HV5.out) (fun k_ hk => ⟨.inl hk.1, fun e_ => by have h_ := Kd.N_base HO5.out k_ e_.symm; have := hk.2; omega⟩)); (case aF => exact fun k_ hk => .inr (Nat.le_trans HB.out.size hk)); (case aB => exact HB.out); (case aS => exact HB.out.size); (case aL => simp only [List.length_nil]; omega); intro v6 w6 ho hb hg hat; have HO6 := Aside0.mk ho; clear HB; have HB := Aside0.mk hb; clear ho hb hg hat))
  go_ret
  exact ⟨_, rfl, by have h_ := HO6.out; rw [List.nil_append] at h_; exact h_, HB.out⟩
set_option maxHeartbeats 8000000 in
set_option maxRecDepth 100000 in
theorem clone77 (P : Nat → Prop) (A : Option Addr) (c : Nat) (l : List S77) (w : World) (hs : Kd.V k77 77 w w.heap.size P (.slice A l.length c) l) (hlim : l.length < 3518437208883) :
    Calls Try.prog 90 #[.slice A l.length c] w fun e w' => ∃ v : Value, e = .returned v ∧ Kd.N k77 77 w' w.heap.size (fun k_ => P k_ ∨ w.heap.size ≤ k_) v l ∧ Below w.heap.size w w' := by
  rcases A with _ | ad
  · have hl : l = [] := by
      rcases Nat.eq_zero_or_pos l.length with h0 | h0
      · exact List.eq_nil_of_length_eq_zero h0
      · obtain ⟨ad, h', _⟩ := (Kd.V_reads' hs).2.2.2.2 h0
        cases h'
    subst hl
    have hq : ∀ (W : World) (n c n' c' : Nat), (binOp .eql 43 (.slice none n c) (.slice none n' c')).run Try.prog W = .ok (.bool true) W := fun W n c n' c' => Lib.run_eql_slice_nil W _ _ none n c n' c' Try.underlying43
    go_enter Try.func90, Try.ntmps90
    go_wp2
    go_ret
    exact ⟨_, rfl, Kd.N_nil _ _ _ _ _, Below.refl _ _⟩
  have hq : ∀ (W : World) (n c n' c' : Nat), (binOp .eql 43 (.slice (some ad) n c) (.slice none n' c')).run Try.prog W = .ok (.bool false) W := fun W n c n' c' => Lib.run_eql_slice_nil W _ _ (some ad) n c n' c' Try.underlying43
  have HV := Aside0.mk (show Kd.V k77 77 w w.heap.size (fun k_ => P k_ ∧ k_ < w.heap.size) (.slice (some ad) l.length c) l from Kd.V_bound hs)
  clear hs
  have HB := Aside0.mk (Below.refl w.heap.size w)
  go_enter Try.func90, Try.ntmps90
  go_wp2_with (first | ((with_reducible refine gate_dst (N := 5) rfl ?_); refine Kd.N_lit k77 (w0 := w) w.heap.size 77 ?hg (N' := 5) ?hd (xs := ([] : List S77)) (inner := []) (ok := (fun k_ => P k_ ∨ w.heap.size ≤ k_)) (okp := fun _ => False) ?hr ?hp (fun _ hk => hk.elim) (.inr HB.out.size) HB.out HB.out.size (by simp) ?_; (case hd => rfl); (case hg => rfl); (case hr => first | (go_simp; done) | (go_simp; rfl)); (case hp => exact (Reps.none _ _)); intro v5 w5 ho hb hg hat; have HO5 := Aside0.mk ho; have HV5 := Aside0.mk (Kd.V_grown HV.out hg (fun k _ => by simp)); clear HV HB; have HB := Aside0.mk hb; clear ho hb hg hat) | ((with_reducible refine gate_builtin (b := .append) (xs := #[.tmp 5, .tmp 6]) rfl ?_); at_builtin; refine Kd.N_append_rows k77 (w0 := w) w.heap.size rfl (.tmp 5) (.tmp 6) 43 77 (.agg #[(.string ⟨#[]⟩), (.slice none 0 0)]) 40 rfl Try.underlying43 info77 rfl (by decide) (by omega) v5 ([] : List S77) l _ _ _ (fun k_ => P k_ ∨ w.heap.size ≤ k_) (fun k_ => (fun k_ => P k_ ∨ w.heap.size ≤ k_) k_ ∧ some k_ ≠ (v5 : Value).ownBlock) rfl rfl ?aO ?aR (fun _ hk => hk) ?aF ?aB ?aS ?aL ?_; (case aO => exact HO5.out); (case aR => exact Kd.F_mono (Kd.V_F HV5.out) (fun k_ hk => ⟨.inl hk.1, fun e_ => by have h_ := Kd.N_base HO5.out k_ e_.symm; have := hk.2; omega⟩)); (case aF => exact fun k_ hk => .inr (Nat.le_trans HB.out.size hk)); (case aB => exact HB.out); (case aS => exact HB.out.size); (case aL => simp only [List.length_nil]; omega); intro v6 w6 ho hb hg hat; have HO6 := Aside0.mk ho; clear HB; have HB := Aside0.mk hb; clear ho hb hg hat))
  go_ret
  exact ⟨_, rfl, by have h_ := HO6.out; rw [List.nil_append] at h_; exact h_, HB.out⟩
end Go.Proofs.Ytebmbfobmakheaa.PD
namespace Go.Proofs.Ytebmbfobmakheaa.PD
open Go.RowKit Go.Proofs.YtebmbfobmakheaaW.PrintWords Go.Proofs.YtebmbfobmakheaaW.PrintLast Go.Proofs.YtebmbfobmakheaaW.PrintMore
attribute [local go_sem] isSome_setCell max2_int min2_int max_two min_two
set_option linter.unusedVariables false
set_option linter.unusedSimpArgs false
theorem gb_trans {w w1 w2 : World} {r : Option Nat} (h : w.grownBy w1 r) (k : w1.grownBy w2 r) : w.grownBy w2 r := ⟨k.os.trans h.os, k.tape.trans h.tape, k.output.trans h.output, Nat.le_trans h.size k.size, fun b hb hne => (k.block b (Nat.lt_of_lt_of_le hb h.size) hne).trans (h.block b hb hne)⟩
theorem gb_below {w w1 : World} {r : Option Nat} (h : Below w.heap.size w w1) : w.grownBy w1 r := ⟨h.os, h.tape, h.output, h.size, fun b hb _ => h.block b hb⟩
theorem below_gb {w w1 : World} {base g : Nat} (h : w.grownBy w1 (some g)) (hbs : base ≤ w.heap.size) (hg : base ≤ g) : Below base w w1 := ⟨h.os, h.tape, h.output, h.size, fun k hk => h.block k (by omega) (fun e => by injection e with e; omega)⟩
theorem list3 {x : List Value} (h : x.length = 3) : ∃ a b c, x = [a, b, c] := by
  match x, h with
  | [a, b, c], _ => exact ⟨a, b, c, rfl⟩
theorem at_R3 {w : World} {A : Option Addr} {l : List (List Value)} (h : Kd.C (Kd.raw 3) w A l.length l) (k : Nat) (hk : k < l.length) :
    ∃ (ad : Addr) (x : Unit) (a b c : Value), A = some ad ∧ l[k] = [a, b, c] ∧ w.cell? (ad.add (k * 3)) = some a ∧ w.cell? ⟨(ad.add (k * 3)).block, (ad.add (k * 3)).off + 1, none⟩ = some b ∧ w.cell? ⟨(ad.add (k * 3)).block, (ad.add (k * 3)).off + 2, none⟩ = some c := by
  obtain ⟨ad, cs, e, hl, hK, hc⟩ := Kd.C_get h [] (k : Int) (by omega) (by omega)
  have hg : l.getD (k : Int).toNat [] = l[k] := by simp [hk]
  rw [hg] at hK
  obtain ⟨rfl, hl3, _⟩ := hK
  obtain ⟨a, b, c, hx⟩ := list3 hl3
  rw [hx] at hc
  rw [Int.toNat_natCast] at hc
  refine ⟨ad, (), a, b, c, e, hx, ?_, ?_, ?_⟩
  · exact hc 0 a rfl
  · rw [← add_field _ _ 1 (by omega)]; exact hc 1 b rfl
  · rw [← add_field _ _ 2 (by omega)]; exact hc 2 c rfl
theorem clear_run (w : World) (ty : TypeId) (g o n c : Nat) {cur : Array Value} (hh : w.heap[g]? = some (.cells cur 45 (0, 0))) (hn : 0 < n) (hfit : o + n * 3 ≤ cur.size) :
    ∃ zs : List Value, zs.length = n * 3 ∧ (Builtin.clear_ #[22] ty #[.slice (some ⟨g, o, none⟩) n c]).run Try.prog w = .ok (.tuple #[]) (w.setCells g o zs) := by
  have hl : (Builtin.zeroCells (Value.agg #[(.string ⟨#[]⟩), (.slice none 0 0), (.string ⟨#[]⟩)]).cells n).toList.length = n * 3 := by simp [Builtin.zeroCells, Value.cells]
  refine ⟨_, hl, ?_⟩
  have hst := run_storeCells_cells (P := Try.prog) g o (Builtin.zeroCells (Value.agg #[(.string ⟨#[]⟩), (.slice none 0 0), (.string ⟨#[]⟩)]).cells n).toList 0 w
    (fun j hj => by rw [cell_of_row w g _ cur 45 (0, 0) hh]; rw [hl] at hj; simp; omega) (fun j _ => blk_frozen hh _)
    (by
      intro v hv
      simp only [Builtin.zeroCells, Value.cells, Array.toList_map, List.mem_map] at hv
      obtain ⟨i, _, rfl⟩ := hv
      have : i % 3 = 0 ∨ i % 3 = 1 ∨ i % 3 = 2 := by omega
      rcases this with h | h | h <;> simp [h, Value.oneCell'])
  simp only [Nat.add_zero] at hst
  obtain ⟨m, rfl⟩ : ∃ m, n = m + 1 := ⟨n - 1, by omega⟩
  have hz : (zeroValue 45).run Try.prog w = .ok (.agg #[(.string ⟨#[]⟩), (.slice none 0 0), (.string ⟨#[]⟩)]) w := by
    have := Try.zeroValue45
    exact this _
  simp [Builtin.clear_, run_underlying Try.underlying22, hz, hst]
theorem R_cut {g n cap m : Nat} {W : World} {base : Nat} {xs : List (List Value)} (h : Kd.R (Kd.raw 3) 45 W base (fun k => k = g) (.slice (some ⟨g, 0, none⟩) n cap) xs) (hm : m ≤ n) (zs : List Value) (hz : m * 3 + zs.length ≤ n * 3) :
    Kd.R (Kd.raw 3) 45 (W.setCells g (m * 3) zs) base (fun k => k = g) (.slice (some ⟨g, 0, none⟩) m cap) (xs.take m) ∧ W.grownBy (W.setCells g (m * 3) zs) (some g) := by
  have hn := (Kd.R_reads' h).1
  have ht := Kd.R_take h (m := m) (by omega)
  obtain ⟨s1, s2, s3, s4⟩ := setCells_same g zs (m * 3) W
  have hgr : W.grownBy (W.setCells g (m * 3) zs) (some g) := ⟨s1, s2, s3, by rw [s4]; exact Nat.le_refl _, fun k _ hk => setCells_far _ _ k (fun he => hk (by rw [he]))⟩
  refine ⟨?_, hgr⟩
  obtain ⟨hok, inner, hown, hrep⟩ := ht
  obtain ⟨_, inner0, hown0, _⟩ := h
  have e : (xs.take m).length = m := by rw [List.length_take]; omega
  rw [e] at hown
  rw [← hn] at hown0
  refine ⟨hok, inner, ?_, hrep.imp_ (fun x c hM => ?_)⟩
  · rw [e]
    refine ⟨hown.1, ?_⟩
    rcases hown.2 with ⟨hv, _⟩ | ⟨g', cap', cur, hv, hb, hh, hnc, hcm, hcs, htake⟩
    · cases hv
    cases hv
    rcases hown0.2 with ⟨hv, _⟩ | ⟨g', cap', cur0, hv, hb0, hh0, hnc0, hcm0, hcs0, htake0⟩
    · cases hv
    cases hv
    have hcs2 : cur.size = cap * 3 := hcs
    have htk : cur.toList.take (m * 3) = inner := htake
    subst htk
    obtain ⟨cur', q3, q4, q5⟩ := setCells_row zs (m * 3) W cur hh (by omega)
    refine .inr ⟨g, cap, cur', rfl, hb, q3, hnc, hcm, by rw [q4, hcs], ?_⟩
    show cur'.toList.take (m * 3) = cur.toList.take (m * 3)
    rw [q5]
    rw [List.append_assoc, List.take_append_of_le_length (by rw [List.length_take, Array.length_toList]; omega), List.take_take, Nat.min_self]
  · exact hM
theorem box3_store (W : World) (g : Nat) (a b c x y z : Value) (h : W.heap[g]? = some (.cells #[a, b, c] 45 (0, 0))) :
    (((W.setCell ⟨g, 0, none⟩ x).setCell ⟨g, 1, none⟩ y).setCell ⟨g, 2, none⟩ z).heap[g]? = some (.cells #[x, y, z] 45 (0, 0)) := by
  have h1 := blk_set h 0 x
  have h2 := blk_set h1 1 y
  have h3 := blk_set h2 2 z
  simpa using h3
theorem cc3 {W : World} {g o : Nat} {a b c : Value} (h0 : W.cell? ⟨g, o, none⟩ = some a) (h1 : W.cell? ⟨g, o + 1, none⟩ = some b) (h2 : W.cell? ⟨g, o + 2, none⟩ = some c) : ∀ j u, [a, b, c][j]? = some u → W.cell? ⟨g, o + j, none⟩ = some u := by
  intro j u hu
  rcases j with _ | _ | _ | j
  · simp at hu; subst hu; exact h0
  · simp at hu; subst hu; exact h1
  · simp at hu; subst hu; exact h2
  · simp at hu
theorem World.below_box3 {W w1 : World} {g : Nat} {x y z : Value} (h : Below W.heap.size W w1) (hg : g = W.heap.size) : Below W.heap.size W (((w1.setCell ⟨g, 0, none⟩ x).setCell ⟨g, 1, none⟩ y).setCell ⟨g, 2, none⟩ z) := by
  have : W.heap.size ≤ g := by omega
  exact below_set (below_set (below_set h this) this) this
set_option maxRecDepth 100000 in
set_option maxHeartbeats 1600000 in
theorem indexR (fk : Nat) (fn : Func) (hfn : Try.prog.funcs[fk]? = some fn) (hname : (fn.name == "runtime.NumGoroutine") = false) (hbody : fn.body.isSome = true) (lb : Array Value) (p : List Value → Bool)
    (A0 : Option Addr) (c0 : Nat) (l0 : List (List Value)) (w : World) (hr0 : Kd.C (Kd.raw 3) w A0 l0.length l0)
    (hp : ∀ a b c, [a, b, c] ∈ l0 → ∀ W, Below w.heap.size w W → Calls Try.prog fk (#[.agg #[a, b, c]] ++ lb) W fun e W' => e = .returned (.bool (p [a, b, c])) ∧ Below W.heap.size W W') :
    Calls Try.prog 80 #[.slice A0 l0.length c0, .func (.func fk) #[] lb] w fun e w' => e = .returned (.int .i64 (idxP p l0)) ∧ Below w.heap.size w w' := by
  have HR0 := Aside0.mk hr0
  have hml : l0.length ≤ 9223372036854775807 := by have := hr0.2.1; unfold maxLen at this; omega
  clear hr0
  have HP := Aside0.mk hp
  clear hp
  have HB := Aside0.mk (Below.refl w.heap.size w)
  go_enter Try.func80, Try.ntmps80
  go_wp2
  go_loopw [8] (fun v wr => ∃ k : Nat, v = .int .i64 k ∧ k ≤ l0.length ∧ Aside0 (∀ j, (hj : j < l0.length) → j < k → p l0[j] = false) ∧ Aside0 (Below w.heap.size w wr)) (fun v _ => l0.length - (intOf v).toNat)
  case atStart => exact ⟨0, rfl, Nat.zero_le _, ⟨fun j _ hj => absurd hj (Nat.not_lt_zero _)⟩, HB⟩
  case round =>
    obtain ⟨k, rfl, hk, hno, hb⟩ := hrel
    by_cases hlt : k < l0.length
    · have hlt0 : decide ((k : Int) < (l0.length : Int)) = true := decide_eq_true (by omega)
      obtain ⟨ad, x, b, d, t, e, hx, hx0, hx1, hx2⟩ := at_R3 HR0.out k hlt
      subst e
      replace hx0 := (hb.out.cell (World.block_lt_of_cell? w _ hx0)).trans hx0
      replace hx1 := (hb.out.cell (World.block_lt_of_cell? w _ hx1)).trans hx1
      replace hx2 := (hb.out.cell (World.block_lt_of_cell? w _ hx2)).trans hx2
      have hc := HP.out b d t (by rw [← hx]; exact List.getElem_mem hlt) wr hb.out
      cases hpk : p l0[k] with
      | true =>
        have hpk' : p [b, d, t] = true := by rw [← hx]; exact hpk
        rw [hpk'] at hc
        have HC := Aside0.mk hc
        clear hc
        go_wp2_with ((with_reducible refine gate_tmp (t := 11) rfl ?_); refine goesF_ (some 16) rfl rfl hfn hname hbody (args := #[.agg #[b, d, t]] ++ lb) rfl rfl (by (try simp only [List.map_toArray, List.map_cons, List.map_nil]); first | done | rfl) ?_; refine HC.out.mono ?_; rintro e W' ⟨rfl, hb'⟩; refine ⟨_, rfl, ?_⟩)
        go_ret
        refine ⟨?_, hb.out.trans (hb'.mono hb.out.size)⟩
        rw [idxP_at p l0 k hlt hpk (fun j hj => hno.out j (by omega) hj)]
        rfl
      | false =>
        have hpk' : p [b, d, t] = false := by rw [← hx]; exact hpk
        rw [hpk'] at hc
        have HC := Aside0.mk hc
        clear hc
        go_wp2_with ((with_reducible refine gate_tmp (t := 11) rfl ?_); refine goesF_ (some 16) rfl rfl hfn hname hbody (args := #[.agg #[b, d, t]] ++ lb) rfl rfl (by (try simp only [List.map_toArray, List.map_cons, List.map_nil]); first | done | rfl) ?_; refine HC.out.mono ?_; rintro e W' ⟨rfl, hb'⟩; refine ⟨_, rfl, ?_⟩)
        go_roundw
        case rel =>
          refine ⟨k + 1, by simp, hlt, ⟨fun j hj hjk => ?_⟩, ⟨hb.out.trans (hb'.mono hb.out.size)⟩⟩
          rcases Nat.lt_or_ge j k with h | h
          · exact hno.out j hj h
          · obtain rfl : j = k := by omega
            exact hpk
        case measure => show l0.length - (((k : Int) + 1)).toNat < l0.length - ((k : Int)).toNat; omega
    · have hlt0 : decide ((k : Int) < (l0.length : Int)) = false := decide_eq_false (by omega)
      go_wp2
      go_ret
      refine ⟨?_, hb.out⟩
      rw [idxP_none p l0 (fun j hj => hno.out j hj (by omega))]
      rfl
set_option maxRecDepth 100000 in
set_option maxHeartbeats 8000000 in
theorem deleteR (fk : Nat) (fn : Func) (hfn : Try.prog.funcs[fk]? = some fn) (hname : (fn.name == "runtime.NumGoroutine") = false) (hbody : fn.body.isSome = true) (lb : Array Value) (p : List Value → Bool) (base : Nat) (v : Value) (l : List (List Value)) (w : World)
    (hr : Kd.R (Kd.raw 3) 45 w base (fun k => some k = v.ownBlock) v l) (hbs : base ≤ w.heap.size) (hsh : ∀ x ∈ l, ∃ s A n c t, x = [Value.string s, Value.slice A n c, Value.string t])
    (hp : ∀ a b c, [a, b, c] ∈ l → ∀ W, w.grownBy W v.ownBlock → Calls Try.prog fk (#[.agg #[a, b, c]] ++ lb) W fun e W' => e = .returned (.bool (p [a, b, c])) ∧ Below W.heap.size W W') :
    Calls Try.prog 64 #[v, .func (.func fk) #[] lb] w fun e w' => ∃ v', e = .returned v' ∧ v'.ownBlock = v.ownBlock ∧ Kd.R (Kd.raw 3) 45 w' base (fun k => some k = v.ownBlock) v' (l.filter fun x => !p x) ∧ w.grownBy w' v.ownBlock := by
  obtain ⟨A, c, rfl⟩ := Kd.R_slice hr
  have hC := (Kd.R_reads' hr).2.2
  have hcc := (Kd.R_reads' hr).2.1
  have hidx := indexR fk fn hfn hname hbody lb p A c l w hC (fun a b d hm W hW => hp a b d hm W (gb_below hW))
  have hml : l.length ≤ 9223372036854775807 := by have := hC.2.1; unfold maxLen at this; omega
  cases hfi : l.findIdx? p with
  | none =>
    have e1 : idxP p l = -1 := by unfold idxP; rw [hfi]
    rw [e1] at hidx
    have e2 : (l.filter fun x => !p x) = l := by
      rw [List.filter_eq_self]
      intro x hx
      rw [List.findIdx?_eq_none_iff] at hfi
      simp [hfi x hx]
    rw [e2]
    have HI := Aside0.mk hidx
    have HR := Aside0.mk hr
    clear hidx hr hC hp
    go_enter Try.func64, Try.ntmps64
    go_wp2_with (go_at_call 80; refine HI.out.mono ?_; rintro e w' ⟨rfl, hb⟩)
    go_ret
    exact ⟨_, rfl, rfl, Kd.R_below HR.out hb, gb_below hb⟩
  | some k0 =>
    have e1 : idxP p l = (k0 : Int) := by unfold idxP; rw [hfi]
    rw [e1] at hidx
    rw [List.findIdx?_eq_some_iff_getElem] at hfi
    obtain ⟨hk0, ht0, hno⟩ := hfi
    have e2 : (l.take (k0 + 1)).filter (fun x => !p x) = l.take k0 := by
      rw [List.take_add_one, List.filter_append]
      have h1 : (l.take k0).filter (fun x => !p x) = l.take k0 := by
        rw [List.filter_eq_self]
        intro x hx
        obtain ⟨j, hj, rfl⟩ := List.getElem_of_mem hx
        rw [List.length_take] at hj
        rw [List.getElem_take]
        have := hno j (by omega)
        simpa using this
      rw [h1, List.getElem?_eq_getElem hk0]
      simp [ht0]
    obtain ⟨g, cap, hAe, hbg, hglt, cells, hcells⟩ := Kd.R_form hr (by omega)
    injection hAe with hA' _ hc'
    subst hA' hc'
    have hob : (Value.slice (some ⟨g, 0, none⟩) l.length c).ownBlock = some g := by
      simp [Value.ownBlock]
    rw [hob] at hr hp ⊢
    have hne1 : ((k0 : Int) == -1) = false := beq_eq_false_iff_ne.2 (by omega)
    have hRg : Kd.R (Kd.raw 3) 45 w base (fun k => k = g) (.slice (some ⟨g, 0, none⟩) l.length c) l := Kd.R_mono hr (fun k hk => by injection hk)
    have HI := Aside0.mk hidx
    have HR := Aside0.mk hRg
    have HE := Aside0.mk e2
    have HP := Aside0.mk hp
    clear hidx hr hC hRg e2 e1 hno ht0 hcells hp
    have hgb0 : base ≤ g := hbg
    go_enter Try.func64, Try.ntmps64
    go_wp2_with (go_at_call 80; refine HI.out.mono ?_; rintro e w1 ⟨rfl, hb⟩)
    have HR1 := Aside0.mk (Kd.R_below HR.out hb)
    have HG1 := Aside0.mk (gb_below (r := some g) hb)
    have hg1 : g < w1.heap.size := Nat.lt_of_lt_of_le hglt hb.size
    clear hb HI
    go_loopw [5, 6, 7] (fun s5 s6 _ wr => ∃ (i j : Nat) (rows : List (List Value)), s5 = .int .i64 (i : Int) ∧ s6 = .int .i64 (j : Int) ∧ i < j ∧ j ≤ l.length ∧ rows.length = l.length ∧ Aside0 (rows.take i = (l.take j).filter (fun x => !p x)) ∧ Aside0 (rows.drop j = l.drop j) ∧
        Aside0 (Kd.R (Kd.raw 3) 45 wr base (fun k => k = g) (.slice (some ⟨g, 0, none⟩) l.length c) rows) ∧ Aside0 (w.grownBy wr (some g)) ∧ g < wr.heap.size)
      (fun _ s6 _ _ => l.length - (intOf s6).toNat)
    case atStart => exact ⟨k0, k0 + 1, l, rfl, by simp, by omega, by omega, rfl, ⟨HE.out.symm⟩, ⟨rfl⟩, HR1, HG1, hg1⟩
    case round =>
      obtain ⟨i, j, rows, rfl, rfl, hij, hjl, hrl, ht, hd, HRr, HGr, hgr⟩ := hrel
      by_cases hlt : j < l.length
      · have hlt0 : decide ((j : Int) < (l.length : Int)) = true := decide_eq_true (by omega)
        have hrj : rows[j]'(by omega) = l[j] := by
          have h1 : (rows.drop j)[0]? = (l.drop j)[0]? := by rw [hd.out]
          rw [List.getElem?_drop, List.getElem?_drop] at h1
          simp only [Nat.add_zero] at h1
          rw [List.getElem?_eq_getElem (by omega), List.getElem?_eq_getElem hlt] at h1
          exact Option.some.inj h1
        have hCr := (Kd.R_reads' HRr.out).2.2
        obtain ⟨ad, _, xa, xb, xc, e, hx, hx0, hx1, hx2⟩ := at_R3 hCr j (by omega)
        cases e
        obtain ⟨ad, _, ya, yb, yc, e, hy, hy0, hy1, hy2⟩ := at_R3 hCr i (by omega)
        cases e
        rw [hrj] at hx
        have HO1 := Aside0.mk (show ∀ u ∈ [xa, xb, xc], u.oneCell' = true by
          obtain ⟨_, cs, _, _, hK, _⟩ := Kd.C_get hCr [] (j : Int) (by omega) (by omega)
          have hg : rows.getD (j : Int).toNat [] = l[j] := by simp [← hrj, List.getD_eq_getElem?_getD, show j < rows.length by omega]
          rw [hg, hx] at hK
          exact hK.1 ▸ hK.2.2)
        have HM := Aside0.mk (show [xa, xb, xc] ∈ l by rw [← hx]; exact List.getElem_mem hlt)
        obtain ⟨q1, q2, q3, q4, q5, hq5⟩ := hsh _ HM.out
        injection hq5 with hqa hq6
        injection hq6 with hqb hq7
        injection hq7 with hqc _
        subst hqa hqb hqc
        simp only [add_plain] at hx0 hx1 hx2 hy0 hy1 hy2
        have HY0 := Aside0.mk hy0
        have HY1 := Aside0.mk hy1
        have HY2 := Aside0.mk hy2
        have HX := Aside0.mk hx
        clear hy0 hy1 hy2 hrj hCr hy hx
        cases hq0 : p [Value.string q1, Value.slice q2 q3 q4, Value.string q5] with
        | true =>
          have hq := Aside0.mk hq0
          clear hq0
          go_wp2_with (first | ((with_reducible refine gate_dst (N := 7) rfl ?_); refine box_event ?hg (N := 7) ?hd (cs := #[.string (⟨#[]⟩ : ByteArray), .slice none 0 0, .string (⟨#[]⟩ : ByteArray)]) (t := 45) ?hr ?_; (case hd => rfl); (case hg => rfl); (case hr => first | (go_simp; done) | (go_simp; rfl)); intro gb hgb w13 hbox hb; have hcz0 : w13.cell? ⟨gb, 0, none⟩ = some (.string ⟨#[]⟩) := (blk_cell hbox 0).trans rfl; have hcz1 : w13.cell? ⟨gb, 1, none⟩ = some (.slice none 0 0) := (blk_cell hbox 1).trans rfl; have hcz2 : w13.cell? ⟨gb, 2, none⟩ = some (.string ⟨#[]⟩) := (blk_cell hbox 2).trans rfl; have hfz0 := blk_frozen hbox 0; have hfz1 := blk_frozen hbox 1; have hfz2 := blk_frozen hbox 2; have HBX := Aside0.mk hbox; have HBb := Aside0.mk hb; have HGB := Aside0.mk hgb; clear hbox hb hgb) | ((with_reducible refine gate_tmp (t := 26) rfl ?_); refine goesF_ (some 28) rfl rfl hfn hname hbody (args := #[.agg #[.string q1, .slice q2 q3 q4, .string q5]] ++ lb) rfl rfl (by (try simp only [List.map_toArray, List.map_cons, List.map_nil]); first | done | rfl) ?_; have hW := World.below_box3 HBb.out (x := .string q1) (y := .slice q2 q3 q4) (z := .string q5) HGB.out; have hX := box3_store w13 gb _ _ _ (.string q1) (.slice q2 q3 q4) (.string q5) HBX.out; generalize ((w13.setCell ⟨gb, 0, none⟩ (.string q1)).setCell ⟨gb, 1, none⟩ (.slice q2 q3 q4)).setCell ⟨gb, 2, none⟩ (.string q5) = w14 at hW hX ⊢; clear hcz0 hcz1 hcz2 hfz0 hfz1 hfz2 HBX HBb HGB hx0 hx1 hx2; have hcall := HP.out (.string q1) (.slice q2 q3 q4) (.string q5) HM.out w14 (gb_trans HGr.out (gb_below hW)); rw [hq.out] at hcall; refine hcall.mono ?_; rintro e w15 ⟨rfl, hb15⟩; refine ⟨_, rfl, ?_⟩; have hbx := blk_below hX hb15; have HBx := Aside0.mk hbx; have hv0 : w15.cell? ⟨gb, 0, none⟩ = some (.string q1) := (blk_cell hbx 0).trans rfl; have hv1 : w15.cell? ⟨gb, 1, none⟩ = some (.slice q2 q3 q4) := (blk_cell hbx 1).trans rfl; have hv2 : w15.cell? ⟨gb, 2, none⟩ = some (.string q5) := (blk_cell hbx 2).trans rfl; have HW15 := Aside0.mk (hW.trans (hb15.mono hW.size)); clear hb15 hW hX hbx hcall))
          go_roundw
          case rel =>
            refine ⟨i, j + 1, rows, rfl, by simp, by omega, by omega, hrl, ⟨?_⟩, ⟨?_⟩, ⟨Kd.R_below HRr.out HW15.out⟩, ⟨gb_trans HGr.out (gb_below HW15.out)⟩, Nat.lt_of_lt_of_le hgr HW15.out.size⟩
            · rw [ht.out, List.take_add_one, List.getElem?_eq_getElem hlt, List.filter_append, HX.out]
              simp [hq.out]
            · have := congrArg (List.drop 1) hd.out
              rwa [List.drop_drop, List.drop_drop] at this
          case measure => show l.length - ((j : Int) + 1).toNat < l.length - (j : Int).toNat; omega
        | false =>
          have hq := Aside0.mk hq0
          clear hq0
          go_wp2_with (first | ((with_reducible refine gate_dst (N := 7) rfl ?_); refine box_event ?hg (N := 7) ?hd (cs := #[.string (⟨#[]⟩ : ByteArray), .slice none 0 0, .string (⟨#[]⟩ : ByteArray)]) (t := 45) ?hr ?_; (case hd => rfl); (case hg => rfl); (case hr => first | (go_simp; done) | (go_simp; rfl)); intro gb hgb w13 hbox hb; have hcz0 : w13.cell? ⟨gb, 0, none⟩ = some (.string ⟨#[]⟩) := (blk_cell hbox 0).trans rfl; have hcz1 : w13.cell? ⟨gb, 1, none⟩ = some (.slice none 0 0) := (blk_cell hbox 1).trans rfl; have hcz2 : w13.cell? ⟨gb, 2, none⟩ = some (.string ⟨#[]⟩) := (blk_cell hbox 2).trans rfl; have hfz0 := blk_frozen hbox 0; have hfz1 := blk_frozen hbox 1; have hfz2 := blk_frozen hbox 2; have HBX := Aside0.mk hbox; have HBb := Aside0.mk hb; have HGB := Aside0.mk hgb; clear hbox hb hgb) | ((with_reducible refine gate_tmp (t := 26) rfl ?_); refine goesF_ (some 28) rfl rfl hfn hname hbody (args := #[.agg #[.string q1, .slice q2 q3 q4, .string q5]] ++ lb) rfl rfl (by (try simp only [List.map_toArray, List.map_cons, List.map_nil]); first | done | rfl) ?_; have hW := World.below_box3 HBb.out (x := .string q1) (y := .slice q2 q3 q4) (z := .string q5) HGB.out; have hX := box3_store w13 gb _ _ _ (.string q1) (.slice q2 q3 q4) (.string q5) HBX.out; generalize ((w13.setCell ⟨gb, 0, none⟩ (.string q1)).setCell ⟨gb, 1, none⟩ (.slice q2 q3 q4)).setCell ⟨gb, 2, none⟩ (.string q5) = w14 at hW hX ⊢; clear hcz0 hcz1 hcz2 hfz0 hfz1 hfz2 HBX HBb HGB hx0 hx1 hx2; have hcall := HP.out (.string q1) (.slice q2 q3 q4) (.string q5) HM.out w14 (gb_trans HGr.out (gb_below hW)); rw [hq.out] at hcall; refine hcall.mono ?_; rintro e w15 ⟨rfl, hb15⟩; refine ⟨_, rfl, ?_⟩; have hbx := blk_below hX hb15; have HBx := Aside0.mk hbx; have hv0 : w15.cell? ⟨gb, 0, none⟩ = some (.string q1) := (blk_cell hbx 0).trans rfl; have hv1 : w15.cell? ⟨gb, 1, none⟩ = some (.slice q2 q3 q4) := (blk_cell hbx 1).trans rfl; have hv2 : w15.cell? ⟨gb, 2, none⟩ = some (.string q5) := (blk_cell hbx 2).trans rfl; have HW15 := Aside0.mk (hW.trans (hb15.mono hW.size)); clear hb15 hW hX hbx hcall) | ((with_reducible refine gate_ (.store 45 (.tmp 33) (.tmp 32)) rfl ?_); refine Kd.R_store (Kd.raw 3) (w0 := w) base rfl rfl 45 (.tmp 33) (.tmp 32) rfl 45 (g := g) (n := l.length) (cap := c) (o' := i * 3) (i : Int) 0 rows [Value.string q1, Value.slice q2 q3 q4, Value.string q5] (.agg #[.string q1, .slice q2 q3 q4, .string q5]) [Value.string q1, Value.slice q2 q3 q4, Value.string q5] [ya, yb, yc] (fun k => k = g) (fun _ => False) rfl rfl rfl rfl (by kernel_rfl) HO1.out (Kd.R_below HRr.out HW15.out) (by omega) (by omega) rfl ?hcc (Nat.le_refl 3) ⟨rfl, rfl, HO1.out⟩ (fun _ h => h.elim) (below_gb (gb_trans HGr.out (gb_below HW15.out)) hbs hgb0) ?_; (case hcc => exact cc3 (o := i * 3) ((HW15.out.cell (World.block_lt_of_cell? _ _ HY0.out)).trans HY0.out) ((HW15.out.cell (World.block_lt_of_cell? _ _ HY1.out)).trans HY1.out) ((HW15.out.cell (World.block_lt_of_cell? _ _ HY2.out)).trans HY2.out)); intro w16 hR16 hB16 hG16; have HR16 := Aside0.mk hR16; have HG16 := Aside0.mk hG16; clear hR16 hB16 hG16 hv0 hv1 hv2))
          have hset : rows.set i [Value.string q1, Value.slice q2 q3 q4, Value.string q5] = rows.take i ++ [Value.string q1, Value.slice q2 q3 q4, Value.string q5] :: rows.drop (i + 1) := List.set_eq_take_append_cons_drop.trans (if_pos (by omega))
          refine ⟨⟨i + 1, j + 1, rows.set i [Value.string q1, Value.slice q2 q3 q4, Value.string q5], by simp, by simp, by omega, by omega, by simp [hrl], ⟨?_⟩, ⟨?_⟩, HR16, ⟨gb_trans (gb_trans HGr.out (gb_below HW15.out)) HG16.out⟩, Nat.lt_of_lt_of_le hgr (Nat.le_trans HW15.out.size HG16.out.size)⟩, ?_⟩
          · rw [hset, List.take_append, List.length_take, List.take_take, List.take_add_one (l := l), List.getElem?_eq_getElem hlt, List.filter_append, HX.out]
            rw [show min (i + 1) i = i by omega, ht.out, show i + 1 - min i rows.length = 1 by omega]
            simp [hq.out]
          · rw [List.drop_set, if_pos (by omega)]
            have := congrArg (List.drop 1) hd.out
            rwa [List.drop_drop, List.drop_drop] at this
          · show l.length - ((j : Int) + 1).toNat < l.length - (j : Int).toNat
            omega
      · have hlt0 : decide ((j : Int) < (l.length : Int)) = false := decide_eq_false (by omega)
        have hlo : ∀ W : World, (Instr.slice 22 (.slice (some ⟨g, 0, none⟩) l.length c) (some (.int .i64 (i : Int))) none none).run Try.prog W = .ok (.slice (some ⟨g, i * 3, none⟩) (l.length - i) (c - i)) W := by
          intro W
          obtain ⟨i0, hi, _, hz1, _⟩ := info_parts info45
          have h := cut_from (P := Try.prog) 22 45 .i64 Try.underlying22 hi 3 hz1 (some ⟨g, 0, none⟩) l.length c (i : Int) (by omega) (by omega) W
          rw [Int.toNat_natCast, if_neg (by omega)] at h
          rw [h]
          simp [add_plain]
        have hhi : ∀ W : World, (Instr.slice 22 (.slice (some ⟨g, 0, none⟩) l.length c) none (some (.int .i64 (i : Int))) none).run Try.prog W = .ok (.slice (some ⟨g, 0, none⟩) i c) W := by
          intro W
          obtain ⟨i0, hi, _, hz1, _⟩ := info_parts info45
          have h := cut_to (P := Try.prog) 22 45 .i64 Try.underlying22 hi (some ⟨g, 0, none⟩) l.length c (i : Int) (by omega) (by omega) (by omega) W
          rw [Int.toNat_natCast] at h
          exact h
        obtain ⟨zs, hzl, hclr⟩ : ∃ zs : List Value, zs.length = (l.length - i) * 3 ∧ (Builtin.clear_ #[22] 0 #[.slice (some ⟨g, i * 3, none⟩) (l.length - i) (c - i)]).run Try.prog wr = .ok (.tuple #[]) (wr.setCells g (i * 3) zs) := by
          obtain ⟨_, inner, hown, _⟩ := HRr.out
          rcases hown.2 with ⟨hv, _⟩ | ⟨g', cap', cur, hv, hb, hh, hnc, hcm, hcs, htake⟩
          · cases hv
          injection hv with h1 _ h2
          injection h1 with h1
          injection h1 with h1
          subst h1 h2
          have hcs2 : cur.size = c * 3 := hcs
          exact clear_run wr 0 g (i * 3) (l.length - i) (c - i) hh (by omega) (by omega)
        obtain ⟨hR2, hG2⟩ := R_cut HRr.out (show i ≤ l.length by omega) zs (by omega)
        have HR2 := Aside0.mk hR2
        have HG2 := Aside0.mk hG2
        clear hR2 hG2
        go_wp2
        go_ret
        obtain rfl : j = l.length := by omega
        have e3 : rows.take i = l.filter (fun x => !p x) := by
          rw [ht.out, List.take_of_length_le (Nat.le_refl _)]
        rw [e3] at HR2
        exact ⟨_, rfl, by simp [Value.ownBlock], Kd.R_mono HR2.out (fun k hk => by rw [hk]), gb_trans HGr.out HG2.out⟩
end Go.Proofs.Ytebmbfobmakheaa.PD
namespace Go.Proofs.Ytebmbfobmakheaa.PD
open Go.RowKit Go.Proofs.YtebmbfobmakheaaW.PrintWords Go.Proofs.YtebmbfobmakheaaW.PrintLast Go.Proofs.YtebmbfobmakheaaW.PrintMore
attribute [local go_sem] isSome_setCell max2_int min2_int max_two min_two
set_option linter.unusedVariables false
set_option linter.unusedSimpArgs false
def cellsP (p : ByteArray → ByteArray → Bool) : List Value → Bool
  | [.string s, _, .string t] => p s t
  | _ => false
theorem zip_filter {α β : Type} (l : List α) (r : List β) (hl : r.length = l.length) (p : α → Bool) (q : β → Bool) (h : ∀ (j : Nat) (x : α) (c : β), l[j]? = some x → r[j]? = some c → q c = p x) :
    (r.filter q).length = (l.filter p).length ∧ ∀ (j : Nat) (x : α) (c : β), (l.filter p)[j]? = some x → (r.filter q)[j]? = some c → ∃ i : Nat, l[i]? = some x ∧ r[i]? = some c := by
  induction l generalizing r with
  | nil =>
    obtain rfl : r = [] := List.eq_nil_of_length_eq_zero hl
    exact ⟨rfl, fun j x c hx _ => by simp at hx⟩
  | cons a l ih =>
    cases r with
    | nil => simp at hl
    | cons b r =>
      obtain ⟨h1, h2⟩ := ih r (by simpa using hl) (fun j x c hx hc => h (j + 1) x c (by simpa using hx) (by simpa using hc))
      have hq := h 0 a b rfl rfl
      cases hp : p a with
      | true =>
        rw [List.filter_cons_of_pos hp, List.filter_cons_of_pos (hq.trans hp)]
        refine ⟨by simp [h1], fun j x c hx hc => ?_⟩
        cases j with
        | zero => exact ⟨0, by simpa using hx, by simpa using hc⟩
        | succ j =>
          obtain ⟨i, hi1, hi2⟩ := h2 j x c (by simpa using hx) (by simpa using hc)
          exact ⟨i + 1, by simpa using hi1, by simpa using hi2⟩
      | false =>
        rw [List.filter_cons_of_neg (p := p) (by rw [hp]; decide), List.filter_cons_of_neg (p := q) (by rw [hq, hp]; decide)]
        refine ⟨h1, fun j x c hx hc => ?_⟩
        obtain ⟨i, hi1, hi2⟩ := h2 j x c hx hc
        exact ⟨i + 1, by simpa using hi1, by simpa using hi2⟩
theorem deleteN (fk : Nat) (fn : Func) (hfn : Try.prog.funcs[fk]? = some fn) (hname : (fn.name == "runtime.NumGoroutine") = false) (hbody : fn.body.isSome = true) (lb : Array Value) (p : ByteArray → ByteArray → Bool) (base : Nat) (ok : Nat → Prop) (v : Value) (l : List S45) (w : World)
    (hn : Kd.N k45 45 w base ok v l) (hbs : base ≤ w.heap.size)
    (hp : ∀ x ∈ l, ∀ A n c W, w.grownBy W v.ownBlock → Calls Try.prog fk (#[.agg #[.string x.f0, .slice A n c, .string x.f2]] ++ lb) W fun e W' => e = .returned (.bool (p x.f0 x.f2)) ∧ Below W.heap.size W W') :
    Calls Try.prog 64 #[v, .func (.func fk) #[] lb] w fun e w' => ∃ v', e = .returned v' ∧ Kd.N k45 45 w' base ok v' (l.filter fun x => !p x.f0 x.f2) ∧ w.grownBy w' v.ownBlock := by
  obtain ⟨h0, rows, hl, hR, hf⟩ := hn
  have hsh : ∀ (j : Nat) (c : List Value), rows[j]? = some c → ∃ x A n cc, l[j]? = some x ∧ c = [Value.string x.f0, Value.slice A n cc, Value.string x.f2] := by
    intro j c hc
    obtain ⟨hj, _⟩ := List.getElem?_eq_some_iff.1 hc
    have hx := List.getElem?_eq_getElem (l := l) (i := j) (by omega)
    obtain ⟨A1, c1, e, _⟩ := k45_openF (hf j _ c hx hc)
    exact ⟨_, A1, _, c1, hx, e⟩
  have hq : ∀ (j : Nat) (x : S45) (c : List Value), l[j]? = some x → rows[j]? = some c → (!cellsP p c) = (!p x.f0 x.f2) := by
    intro j x c hx hc
    obtain ⟨x', A, n, cc, hx', rfl⟩ := hsh j c hc
    obtain rfl : x' = x := Option.some.inj (hx'.symm.trans hx)
    rfl
  obtain ⟨z1, z2⟩ := zip_filter l rows hl (fun x => !p x.f0 x.f2) (fun c => !cellsP p c) hq
  refine (deleteR fk fn hfn hname hbody lb (cellsP p) base v rows w hR hbs ?_ ?_).mono ?_
  · intro c hc
    obtain ⟨j, hj, rfl⟩ := List.getElem_of_mem hc
    obtain ⟨x, A, n, cc, _, e⟩ := hsh j _ (List.getElem?_eq_getElem hj)
    exact ⟨_, A, n, cc, _, e⟩
  · intro a b c hm W hW
    obtain ⟨j, hj, e0⟩ := List.getElem_of_mem hm
    obtain ⟨x, A, n, cc, hx, e⟩ := hsh j _ (List.getElem?_eq_getElem hj)
    rw [e0] at e
    injection e with ea e1
    injection e1 with eb e2
    injection e2 with ec _
    subst ea eb ec
    exact hp x (List.mem_of_getElem? hx) A n cc W hW
  · rintro e w' ⟨v', rfl, hob, hR', hg⟩
    refine ⟨v', rfl, ⟨fun k hk => h0 k (by rw [← hob]; exact hk), _, z1, Kd.R_mono hR' (fun k hk => by rw [hob]; exact hk), fun j x c hx hc => ?_⟩, hg⟩
    obtain ⟨i, hi1, hi2⟩ := z2 j x c hx hc
    rw [hob]
    exact Foot.step (hf i x c hi1 hi2) (fun k hk hlt => hg.block k hlt hk.2)
theorem below_ofN {w w1 w2 : World} {v : Value} (h : Below w.heap.size w w1) (hg : w1.grownBy w2 v.ownBlock) (hv : ∀ k, v.ownBlock = some k → w.heap.size ≤ k) : Below w.heap.size w w2 :=
  ⟨hg.os.trans h.os, hg.tape.trans h.tape, hg.output.trans h.output, Nat.le_trans h.size hg.size, fun k hk => (hg.block k (Nat.lt_of_lt_of_le hk h.size) (fun e => by have := hv k e.symm; omega)).trans (h.block k hk)⟩
set_option maxRecDepth 100000 in
set_option maxHeartbeats 8000000 in
theorem itip_without_walk (P : Nat → Prop) (A : Option Addr) (c : Nat) (l : List S45) (name : ByteArray) (w : World) (hs : Kd.V k45 45 w w.heap.size P (.slice A l.length c) l) (hlim : l.length < 2513169434917) :
    Calls Try.prog 66 #[.slice A l.length c, .string name] w fun e w' => ∃ v : Value, e = .returned v ∧ Kd.N k45 45 w' w.heap.size (fun k_ => P k_ ∨ w.heap.size ≤ k_) v (l.filter fun x => !(x.f0.toList == name.toList)) ∧ Below w.heap.size w w' := by
  have HV := Aside0.mk hs
  clear hs
  have HB := Aside0.mk (Below.refl w.heap.size w)
  go_enter Try.func66, Try.ntmps66
  go_wp2_with (first | ((with_reducible refine gate_dst (N := 3) rfl ?_); refine box_event ?hg (N := 3) ?hd (cs := #[.string name]) (t := 9) ?hr ?_; (case hd => rfl); (case hg => rfl); (case hr => first | (go_simp; done) | (go_simp; rfl)); intro gb3 hg w3 hbox hb; have GE3 := Aside0.mk (show w.heap.size ≤ gb3 by rw [hg]; exact HB.out.size); have BK3 := Aside0.mk hbox; replace HB := Aside0.mk (below_step HB.out hb); clear hbox hb hg; have HV3 := Aside0.mk (Kd.V_below HV.out HB.out); skip) | (go_at_call 95; refine (clone45 P A c l w3 HV3.out hlim).mono ?_; rintro e w4 ⟨v4, rfl, hn4, hb4⟩; have HN4 := Aside0.mk hn4; have HW3 := Aside0.mk HB.out.size; have HW34 := Aside0.mk hb4.size; replace BK3 := Aside0.mk (blk_below BK3.out hb4); have HB4 := Aside0.mk (below_step HB.out hb4); clear hn4 hb4 HB) | (go_at_call 64; refine (deleteN 96 _ Try.func96 (by kernel_rfl) rfl #[.pointer (some ⟨gb3, 0, none⟩)] (fun s _ => s.toList == name.toList) w3.heap.size _ v4 l w4 HN4.out HW34.out (fun x _ A' n' c' W hW => withoutN_calls name gb3 x.f0 A' n' c' x.f2 W ((hW.block gb3 (blk_lt BK3.out) (Kd.N_ne HN4.out BK3.out (by decide))).trans BK3.out))).mono ?_; rintro e w5 ⟨v5, rfl, hn5, hg5⟩; have HN5 := Aside0.mk hn5; have HG5 := Aside0.mk hg5; clear hn5 hg5))
  go_ret
  exact ⟨_, rfl, Kd.N_mono (Kd.N_lower HN5.out HW3.out) (fun k hk => hk.imp id (fun h => Nat.le_trans HW3.out h)), below_ofN HB4.out HG5.out (fun k hk => Nat.le_trans HW3.out (Kd.N_base HN4.out k hk))⟩
set_option maxRecDepth 100000 in
set_option maxHeartbeats 8000000 in
theorem comp_Props_walk (nm0 : ByteArray) (P : Nat → Prop) (A : Option Addr) (c : Nat) (l : List S45) (A2 : Option Addr) (n2 c2 : Nat) (name : ByteArray) (w : World) (hs : Kd.V k45 45 w w.heap.size P (.slice A l.length c) l) (hlim : l.length < 2513169434917) :
    Calls Try.prog 83 #[.agg #[.string nm0, .slice A l.length c, .slice A2 n2 c2], .string name] w fun e w' => ∃ v : Value, e = .returned v ∧ Kd.N k45 45 w' w.heap.size (fun k_ => P k_ ∨ w.heap.size ≤ k_) v (l.filter fun x => x.f0.toList == name.toList) ∧ Below w.heap.size w w' := by
  have HV := Aside0.mk hs
  clear hs
  have HB := Aside0.mk (Below.refl w.heap.size w)
  go_enter Try.func83, Try.ntmps83
  go_wp2_with (first | ((with_reducible refine gate_dst (N := 2) rfl ?_); refine box_event ?hg (N := 2) ?hd (cs := #[.string nm0, .slice A l.length c, .slice A2 n2 c2]) (t := 25) ?hr ?_; (case hd => rfl); (case hg => rfl); (case hr => first | (go_simp; done) | (go_simp; rfl)); intro gb2 hg w2 hbox hb; have GE2 := Aside0.mk (show w.heap.size ≤ gb2 by rw [hg]; exact HB.out.size); have BK2 := Aside0.mk hbox; replace HB := Aside0.mk (below_step HB.out hb); clear hbox hb hg; skip) | ((with_reducible refine gate_dst (N := 3) rfl ?_); refine box_event ?hg (N := 3) ?hd (cs := #[.string name]) (t := 9) ?hr ?_; (case hd => rfl); (case hg => rfl); (case hr => first | (go_simp; done) | (go_simp; rfl)); intro gb3 hg w3 hbox hb; have GE3 := Aside0.mk (show w.heap.size ≤ gb3 by rw [hg]; exact HB.out.size); have NB3_2 := Aside0.mk (show gb3 ≠ gb2 by have h1_ := blk_lt BK2.out; omega); replace BK2 := Aside0.mk (blk_below BK2.out hb); have BK3 := Aside0.mk hbox; replace HB := Aside0.mk (below_step HB.out hb); clear hbox hb hg; have HV3 := Aside0.mk (Kd.V_below HV.out HB.out); have f2_1 : w3.cell? ⟨gb2, 1, none⟩ = some (.slice A l.length c) := (blk_cell BK2.out 1).trans rfl; skip) | (go_at_call 95; refine (clone45 P A c l w3 HV3.out hlim).mono ?_; rintro e w4 ⟨v4, rfl, hn4, hb4⟩; clear f2_1; have HN4 := Aside0.mk hn4; have HW3 := Aside0.mk HB.out.size; have HW34 := Aside0.mk hb4.size; replace BK3 := Aside0.mk (blk_below BK3.out hb4); have HB4 := Aside0.mk (below_step HB.out hb4); clear hn4 hb4 HB) | (go_at_call 64; refine (deleteN 99 _ Try.func99 (by kernel_rfl) rfl #[.pointer (some ⟨gb3, 0, none⟩)] (fun s _ => s.toList != name.toList) w3.heap.size _ v4 l w4 HN4.out HW34.out (fun x _ A' n' c' W hW => propsN_calls name gb3 x.f0 A' n' c' x.f2 W ((hW.block gb3 (blk_lt BK3.out) (Kd.N_ne HN4.out BK3.out (by decide))).trans BK3.out))).mono ?_; rintro e w5 ⟨v5, rfl, hn5, hg5⟩; have HN5 := Aside0.mk hn5; have HG5 := Aside0.mk hg5; clear hn5 hg5))
  go_ret
  rw [show (fun x : S45 => x.f0.toList == name.toList) = (fun x : S45 => !(x.f0.toList != name.toList)) from funext fun x => by simp [bne]]
  exact ⟨_, rfl, Kd.N_mono (Kd.N_lower HN5.out HW3.out) (fun k hk => hk.imp id (fun h => Nat.le_trans HW3.out h)), below_ofN HB4.out HG5.out (fun k hk => Nat.le_trans HW3.out (Kd.N_base HN4.out k hk))⟩
def itip_without.f (k : Nat) (l0 : List (S45)) (a1 : ByteArray) : Option (List (S45)) := if l0.length < 2513169434917 then some (l0.filter fun x => !(x.f0.toList == a1.toList)) else none
theorem itip_without.calls (k : Nat) (P0_ : Nat → Prop) (A0 : Option Addr) (c0 : Nat) (l0 : List (S45)) (a1 : ByteArray) (r : List (S45)) (w : World) (hs0 : Kd.V k45 45 w w.heap.size (fun k_ => P0_ k_) (.slice A0 l0.length c0) l0) (h : itip_without.f k l0 a1 = some r) :
    Calls Try.prog 66 #[.slice A0 l0.length c0, .string a1] w fun e w' => ∃ v0_ : Value, e = .returned (v0_) ∧ Kd.N k45 45 w' w.heap.size (fun k_ => (P0_ k_ ∨ w.heap.size ≤ k_)) v0_ r ∧ Below w.heap.size w w' := by
  unfold itip_without.f at h
  split at h
  case isFalse => cases h
  rename_i hc
  obtain rfl := Option.some.inj h
  exact itip_without_walk P0_ A0 c0 l0 a1 w hs0 hc
end Go.Proofs.Ytebmbfobmakheaa.PD
namespace Go.Proofs.Ytebmbfobmakheaa.PD
open Go.RowKit Go.Shelf Go.Proofs.YtebmbfobmakheaaW.PrintWords Go.Proofs.YtebmbfobmakheaaW.PrintLast Go.Proofs.YtebmbfobmakheaaW.PrintMore
attribute [local go_sem] isSome_setCell Oper.semAt_some wide_fn wide_depth
set_option linter.unusedVariables false
set_option linter.unusedSimpArgs false
abbrev attN : ByteArray := (⟨#[65, 84, 84, 69, 78, 68, 69, 69]⟩ : ByteArray)
def attOf (l : List S25) (i : Nat) : List S45 := (l.getD i z25).f1.filter fun x => x.f0.toList == attN.toList
def attP (l : List S25) : List S45 := (othI 0 l).flatMap (attOf l)
def EnP (y : S45) (ar : Array Value) (W : World) : Prop := ∃ (A : Option Addr) (c : Nat), ar = #[.agg #[.string y.f0, .slice A y.f1.length c, .string y.f2]] ∧ y.f1.length ≤ c ∧ Kd.C k77 W A y.f1.length y.f1
theorem roundIn_any {m m' l l' : Nat} {P : Program} {fn : FuncId} {tmps : Array Value} {assign body : Code} {w : World} {R : Ending → World → Prop} (h : RoundIn Fence.wide m P l fn tmps assign body w R) : RoundIn (Fence.wide.inRound l') m' P l fn tmps assign body w R :=
  ⟨trivial, fun c cs _ => h.2 c cs (room_wide _)⟩
theorem OwnZ.up {β : Type} {Z : Nat → Prop} {B B' : Nat} {J : β → World → Prop} (h : OwnZ Z B J) (hB : B ≤ B') : OwnZ Z B' J := fun s X Y row hs hg hr => h s X Y row hs hg (fun r e => (hr r e).imp id (fun h => ⟨by omega, h.2⟩))
theorem below_own {w0 X Y : World} {B : Nat} {row : Option Nat} (hb : Below w0.heap.size w0 X) (hB : w0.heap.size ≤ B) (hg : X.grownBy Y row) (hr : ∀ r, row = some r → NoZ r ∨ (B ≤ r ∧ ∃ o : Obj, X.heap[r]? = some o ∧ o.isCells = false)) : Below w0.heap.size w0 Y :=
  ⟨hg.os.trans hb.os, hg.tape.trans hb.tape, hg.output.trans hb.output, Nat.le_trans hb.size hg.size, fun k hk => (hg.block k (Nat.lt_of_lt_of_le hk hb.size) (fun e => by
    rcases hr k e.symm with h | h
    · exact h
    · have := h.1; omega)).trans (hb.block k hk)⟩
theorem cell_own {X Y : World} {B S : Nat} {cs : Array Value} {t : TypeId} {row : Option Nat} (hb : X.heap[S]? = some (.cells cs t (0, 0))) (hg : X.grownBy Y row) (hr : ∀ r, row = some r → NoZ r ∨ (B ≤ r ∧ ∃ o : Obj, X.heap[r]? = some o ∧ o.isCells = false)) : Y.heap[S]? = some (.cells cs t (0, 0)) :=
  (hg.block S (Array.getElem?_eq_some_iff.1 hb).1 (fun e2 => by
    rcases hr S e2.symm with h1 | ⟨_, o, h2, h3⟩
    · exact h1
    · rw [hb] at h2; cases h2; cases h3)).trans hb
def flatA (l : List S25) (pre : List (CC × Nat)) : List S45 := pre.flatMap fun p => attOf l p.2
theorem flatA_all (l : List S25) (L : List CC) (h : (othersF 0 L).map Prod.snd = othI 0 l) : flatA l (othersF 0 L) = attP l := by
  unfold flatA attP
  rw [← h, List.flatMap_map]
theorem flatA_snoc (l : List S25) (pre : List (CC × Nat)) (x : CC × Nat) : flatA l (pre ++ [x]) = flatA l pre ++ attOf l x.2 := by unfold flatA; rw [List.flatMap_append]; simp
theorem flatA_pre (l : List S25) {pre xs : List (CC × Nat)} (h : pre <+: xs) : flatA l pre <+: flatA l xs := by
  obtain ⟨r, rfl⟩ := h
  unfold flatA
  rw [List.flatMap_append]
  exact List.prefix_append _ _
set_option maxRecDepth 100000 in
set_option maxHeartbeats 8000000 in
theorem att_in {Own : World → Nat → Prop} (A : Option Addr) (c : Nat) (l : List S25) (w0 : World) (hC : Kd.C k25 w0 A l.length l) (hlim : ∀ x ∈ l, x.f1.length < 2513169434917) (nm : ByteArray) (A1 : Option Addr) (n1 c1 yl Cb : Nat) (J Jx : List S45 → World → Prop) (W : World) (hJ : OwnZ NoZ W.heap.size J) (hJx : OwnZ NoZ W.heap.size Jx)
    (hR : ∀ pre W1, J pre W1 → Below w0.heap.size w0 W1) (hSJ : OwnS NoZ Own W.heap.size J) (hSX : OwnS NoZ Own W.heap.size Jx)
    (hY : ∀ pre x ar W1, J pre W1 → pre ++ [x] <+: attP l → EnP x ar W1 → YieldAt Fence.wide 50 Try.prog yl ar W1 fun e W' => ((e = .returned (.bool true) ∧ J (pre ++ [x]) W') ∨ (e = .returned (.bool false) ∧ Jx (pre ++ [x]) W')) ∧ Below w0.heap.size W1 W' ∧ SameZ NoZ W1 W' ∧ KO Own W.heap.size W1 W')
    (hO : W.heap[Cb]? = some (.cells #[.string nm, .slice A1 n1 c1, .slice A l.length c] 25 (0, 0))) (h0 : J [] W) :
    CallsIn Fence.wide 51 Try.prog 82 #[.func (.yield yl) #[] #[], .pointer (some ⟨Cb, 0, none⟩)] W fun e W' => (∃ v, e = .returned v) ∧ (J (attP l) W' ∨ ∃ pre, pre <+: attP l ∧ Jx pre W') := by
  have hml : l.length ≤ 9223372036854775807 := by have := hC.2.1; unfold maxLen at this; omega
  obtain ⟨L, hLl, hOk, hRd⟩ := cc_of hC
  have HOK := Aside0.mk hOk
  have HRD := Aside0.mk hRd
  have hmap := oth_map L l 0 hLl (fun j hi hj => (hOk j hi hj).1)
  have HMAP := Aside0.mk hmap
  have HYd := Aside0.mk hY
  have HJ := Aside0.mk hJ
  have HJX := Aside0.mk hJx
  have HRb := Aside0.mk hR
  have HSJ := Aside0.mk hSJ
  have HSX := Aside0.mk hSX
  have H0 := Aside0.mk h0
  have HLIM := Aside0.mk hlim
  have hW0 := (hR [] W h0).size
  have o1 := blk_alloc hO (.cells #[.func (.yield yl) #[] #[]] 73)
  have u0 : (W.alloc (.cells #[.func (.yield yl) #[] #[]] 73)).cell? ⟨Cb, 0, none⟩ = some (.string nm) := (blk_cell o1 0).trans rfl
  have u1 : (W.alloc (.cells #[.func (.yield yl) #[] #[]] 73)).cell? ⟨Cb, 1, none⟩ = some (.slice A1 n1 c1) := (blk_cell o1 1).trans rfl
  have u2 : (W.alloc (.cells #[.func (.yield yl) #[] #[]] 73)).cell? ⟨Cb, 2, none⟩ = some (.slice A l.length c) := (blk_cell o1 2).trans rfl
  clear hC hOk hRd hmap hY hJ hJx hR h0 hlim hO o1 hSJ hSX
  refine callsIn_of_wp_marks Try.func82 rfl trivial ?_ rfl
  simp only [Try.ntmps82, List.size_toArray, List.length_cons, List.length_nil, Nat.reduceAdd, Nat.reduceSub, Array.replicate_succ, Array.replicate_zero, List.push_toArray, List.append_toArray, List.nil_append, List.cons_append]
  gi_wp2
  gi_at_call 41
  refine (callsIn_wide.2 (comps_made nm A1 n1 c1 A l.length c _)).mono ?_
  rintro e w4 ⟨rfl, rfl⟩
  gi_wp2
  obtain ⟨V, hVe⟩ : ∃ V, (W.alloc (.cells #[.func (.yield yl) #[] #[]] 73)).alloc (.cells #[.string nm, .slice A1 n1 c1, .slice A l.length c] 25) = V := ⟨_, rfl⟩
  have hz : V.heap.size = W.heap.size + 2 := by rw [← hVe]; simp
  have q1 : V.heap[W.heap.size + 1]? = some (.cells #[.string nm, .slice A1 n1 c1, .slice A L.length c] 25 (0, 0)) := by
    have := heap_alloc_new (W.alloc (.cells #[.func (.yield yl) #[] #[]] 73)) (.cells #[.string nm, .slice A1 n1 c1, .slice A l.length c] 25)
    rw [World.size_alloc, hVe] at this
    rw [hLl]
    exact this
  have q2 : V.heap[W.heap.size]? = some (.cells #[.func (.yield yl) #[] #[]] 73 (0, 0)) := by rw [← hVe]; exact blk_alloc (heap_alloc_new W _) _
  have hbV : Below W.heap.size W V := by rw [← hVe]; exact below_alloc (below_alloc (Below.refl _ _) _) _
  have HJV := Aside0.mk (HJ.out.below H0.out hbV)
  have HOW := Aside0.mk (fun (k : Nat) (hk : Own V k) => HSJ.out.2 _ _ H0.out k (HSJ.out.below H0.out hbV k hk))
  rw [hVe]
  clear hVe u0 u1 u2
  have hLm : L.length ≤ 9223372036854775807 := by omega
  refine range_z (n₀ := w0.heap.size) (Z := NoZ) (gf := 79) (lb := #[.pointer (some ⟨W.heap.size + 1, 0, none⟩)]) (En := fun x ar _ => ar = encC x) (xs := othersF 0 L) (Rd := fun pre W => RdAt A L (nextI pre) W) (Own := Own) rfl (enters_of Try.func79 (by kernel_rfl) rfl) (by omega) (fun b hb => hb.elim)
    (fun l' J' Jx' W' hW' hJ' hJx' hRd' _ _ hY' h0' => (callsIn_wide (n := 51)).1 (comps_in A c L hLm nm A1 n1 c1 l' (W.heap.size + 1) w0.heap.size J' Jx' W' hJ' hRd' (fun pre x W1 h1 h2 => hY' pre x _ W1 h1 h2 rfl) ((hW'.block (W.heap.size + 1) (by omega)).trans q1) h0')) (fun x ar _ e => by rw [e]; rfl)
    (fun pre W1 => J (flatA l pre) W1 ∧ W1.heap[W.heap.size]? = some (.cells #[.func (.yield yl) #[] #[]] 73 (0, 0)) ∧ ∀ k, Own W1 k → k < W.heap.size ∨ V.heap.size ≤ k)
    (fun pre W1 h => HRD.out.below (HRb.out _ _ h.1) (Nat.zero_le _))
    (fun cd pre W1 => cd = .ret ∧ ∃ pre', pre' <+: attP l ∧ Jx pre' W1)
    (fun s X Y row hs hg hr => ⟨HJ.out.up (show W.heap.size ≤ V.heap.size by omega) _ X Y row hs.1 hg hr, cell_own hs.2.1 hg hr, fun k hk => hs.2.2 k (HSJ.out.1 _ X Y row hs.1 hg (fun r e => (hr r e).imp id (fun h => ⟨by have := h.1; omega, h.2⟩)) k hk)⟩)
    (fun cd s X Y row h hg hr => by
      obtain ⟨hc, pre', hp, hj⟩ := h
      exact ⟨hc, pre', hp, HJX.out.up (show W.heap.size ≤ V.heap.size by omega) _ X Y row hj hg hr⟩)
    ⟨fun s X Y row hs hg hr => HSJ.out.1 _ X Y row hs.1 hg (fun r e => (hr r e).imp id (fun h => ⟨by have := h.1; omega, h.2⟩)), fun s X hs => HSJ.out.2 _ X hs.1⟩
    (fun cd => ⟨fun s X Y row h hg hr => by
      obtain ⟨hc, pre', hp, hj⟩ := h
      exact HSX.out.1 _ X Y row hj hg (fun r e => (hr r e).imp id (fun h => ⟨by have := h.1; omega, h.2⟩)), fun s X h => by
      obtain ⟨hc, pre', hp, hj⟩ := h
      exact HSX.out.2 _ X hj⟩) ⟨HJV.out, q2, fun k hk => .inl (HOW.out k hk)⟩
    (fun x a' W1 => ∃ G, V.heap.size ≤ G ∧ a' = { tmps := #[.func (.yield yl) #[] #[], .pointer (some ⟨Cb, 0, none⟩), .pointer (some ⟨W.heap.size, 0, none⟩), undef, .pointer (some ⟨G, 0, none⟩), undef, undef, .agg #[.string nm, .slice A1 n1 c1, .slice A l.length c], .func (.func 79) #[] #[.pointer (some ⟨W.heap.size + 1, 0, none⟩)], .int .i64 x.2, x.1.enc, undef, undef, undef, undef, undef, undef, undef, undef, undef, undef, undef, undef], defers := [] } ∧ W1.heap[G]? = some (.cells x.1.cells 25 (0, 0)))
    (fun x a' _ X Y row h hg hr => by
      obtain ⟨G, hG, e, hb⟩ := h
      exact ⟨G, hG, e, cell_own hb hg hr⟩) ?assign ?body ?done ?stop
  case assign =>
    rintro l' pre x ar W1 K hI hpx rfl hW hK
    gi_wp2
    have hb : Below W1.heap.size W1 (W1.alloc (.cells x.1.cells 25)) := below_alloc (Below.refl _ _) _
    refine hK _ _ ((kf_below hb).koS (HSJ.out.below hI.1 hb)) (hb.mono (HRb.out _ _ hI.1).size) (fun _ h => h.elim) ⟨HJ.out.below hI.1 hb, blk_alloc hI.2.1 _, fun k hk => hI.2.2 k (HSJ.out.below hI.1 hb k hk)⟩ ⟨W1.heap.size, hW, by simp, heap_alloc_new W1 _⟩
  case body =>
    rintro l' pre x a' Wb ⟨hj, hyb, how⟩ hpx hWs ⟨G, hG, rfl, hb⟩
    obtain ⟨hxi, hxe⟩ := oth_at (p := x) (hpx.subset (List.mem_append_right _ List.mem_cons_self))
    have hxl : x.2 < l.length := by omega
    have hbw := HRb.out _ _ hj
    have hok := HOK.out x.2 hxi hxl
    rw [hxe] at hok
    obtain ⟨hk1, hk2, hk3, hk4, _⟩ := hok
    rw [hk2] at hk3
    have hgd : attOf l x.2 = l[x.2].f1.filter fun x => x.f0.toList == attN.toList := by unfold attOf; simp [hxl]
    have HVp := Aside0.mk (show Kd.V k45 45 Wb Wb.heap.size (fun k_ => k_ < w0.heap.size) (.slice x.1.a1 l[x.2].f1.length x.1.c1) l[x.2].f1 from Kd.V_mk hk3 (Foot.step (Kd.C_F k45_heap hk4) (fun k hk _ => hbw.block k hk)))
    have HLX := Aside0.mk (HLIM.out l[x.2] (List.getElem_mem hxl))
    have HJ1 := Aside0.mk hj
    have HYB := Aside0.mk hyb
    have HOWb := Aside0.mk how
    have HPX := Aside0.mk (flatA_pre l hpx)
    have g0 : Wb.cell? ⟨G, 0, none⟩ = some (.string x.1.s) := (blk_cell hb 0).trans rfl
    have g1 : Wb.cell? ⟨G, 1, none⟩ = some (.slice x.1.a1 x.1.n1 x.1.c1) := (blk_cell hb 1).trans rfl
    have g2 : Wb.cell? ⟨G, 2, none⟩ = some (.slice x.1.a2 x.1.n2 x.1.c2) := (blk_cell hb 2).trans rfl
    rw [hk2] at g1
    obtain ⟨m, hm⟩ : ∃ m, attOf l x.2 = m := ⟨_, rfl⟩
    rw [hm] at hgd
    have HM := Aside0.mk hm
    have HGD := Aside0.mk hgd
    have hbwz := hbw.size
    clear hj hyb how hpx hb hk1 hk2 hk3 hk4 hgd hxe hm hbw
    gi_wp2
    gi_at_call 83
    refine (CallsIn.inRound l' (callsIn_wide.2 (comp_Props_walk _ (fun k_ => k_ < w0.heap.size) _ _ l[x.2].f1 _ _ _ attN Wb HVp.out HLX.out))).mono ?_
    rintro e w5 ⟨v5, rfl, hn5, hb5⟩
    rw [← HGD.out] at hn5
    obtain ⟨A5, c5, e5⟩ := Kd.N_slice hn5
    subst e5
    have hmm : m.length ≤ 9223372036854775807 := by have := (Kd.N_reads' hn5).2.2.2.1; unfold maxLen at this; omega
    have HN5 := Aside0.mk (show Kd.N k45 45 w5 Wb.heap.size (fun k_ => k_ < w0.heap.size ∨ (Wb.heap.size ≤ k_ ∧ k_ < w5.heap.size)) (.slice A5 m.length c5) m from Kd.N_mono (Kd.N_bound hn5) (fun k hk => hk.1.imp id (fun h => ⟨h, hk.2⟩)))
    have hst5 := HSJ.out.below HJ1.out hb5
    have HO5 := Aside0.mk (show (∀ k, Own w5 k → k < W.heap.size ∨ V.heap.size ≤ k) ∧ ∀ k, Own w5 k → k < Wb.heap.size ∨ w5.heap.size ≤ k from ⟨fun k hk => HOWb.out k (hst5 k hk), fun k hk => .inl (HSJ.out.2 _ _ HJ1.out k (hst5 k hk))⟩)
    have HJ5 := Aside0.mk (HJ.out.below HJ1.out hb5)
    have HYB5 := Aside0.mk (blk_below HYB.out hb5)
    have HK5 := Aside0.mk ((kf_below (B := V.heap.size) hb5).koS hst5)
    have HB5 := Aside0.mk (hb5.mono hbwz)
    clear hn5 hb5 g0 g1 g2 HJ1 HYB hst5
    gi_wp2
    gi_loopw [14] (fun v wr => ∃ j : Nat, v = .int .i64 j ∧ j ≤ m.length ∧ Aside0 (J (flatA l pre ++ m.take j) wr) ∧ Aside0 (wr.heap[W.heap.size]? = some (.cells #[.func (.yield yl) #[] #[]] 73 (0, 0))) ∧ Aside0 (Kd.N k45 45 wr Wb.heap.size (fun k_ => k_ < w0.heap.size ∨ (Wb.heap.size ≤ k_ ∧ k_ < w5.heap.size)) (.slice A5 m.length c5) m) ∧ Aside0 ((∀ k, Own wr k → k < W.heap.size ∨ V.heap.size ≤ k) ∧ ∀ k, Own wr k → k < Wb.heap.size ∨ w5.heap.size ≤ k) ∧ w5.heap.size ≤ wr.heap.size ∧ Aside0 (KO Own V.heap.size Wb wr) ∧ Aside0 (Below w0.heap.size Wb wr)) (fun v _ => m.length - (intOf v).toNat)
    case atStart => exact ⟨0, rfl, Nat.zero_le _, ⟨by rw [List.take_zero, List.append_nil]; exact HJ5.out⟩, HYB5, HN5, HO5, Nat.le_refl _, HK5, HB5⟩
    case round =>
      clear HJ5 HYB5 HN5 HK5 HB5 HO5
      obtain ⟨j, rfl, hjl, HJr, HYr, HNr, HOr, hwr, HKr, HBr⟩ := hrel
      by_cases hlt : j < m.length
      · have hlt0 : decide ((j : Int) < (m.length : Int)) = true := decide_eq_true (by omega)
        obtain ⟨ad, A6, c6, e, hx0, hx1, hx2, hlc, hC6⟩ := at_T45 (Kd.N_reads' HNr.out).2.2 (j : Int) (by omega) (by omega)
        subst e
        have hget : rd_T45 m (j : Int) = m[j] := by simp [rd_T45, hlt]
        rw [hget] at hx0 hx1 hx2 hlc hC6
        simp only [Int.toNat_natCast] at hx0 hx1 hx2
        obtain ⟨y, hyy⟩ : ∃ y, m[j] = y := ⟨_, rfl⟩
        rw [hyy] at hx0 hx1 hx2 hlc hC6
        have hb6 : Below wr.heap.size wr (wr.alloc (.cells #[.string y.f0, .slice A6 y.f1.length c6, .string y.f2] 45)) := below_alloc (Below.refl _ _) _
        have HB6 := Aside0.mk hb6
        have HY6 := Aside0.mk (blk_below HYr.out hb6)
        have hst6 := HSJ.out.below HJr.out hb6
        have HO6 := Aside0.mk (And.intro (fun k hk => HOr.out.1 k (hst6 k hk)) (fun k hk => HOr.out.2 k (hst6 k hk)))
        have HK6 := Aside0.mk (HKr.out.trans ((kf_below hb6).koS hst6))
        clear hst6
        have uy : (wr.alloc (.cells #[.string y.f0, .slice A6 y.f1.length c6, .string y.f2] 45)).cell? ⟨W.heap.size, 0, none⟩ = some (.func (.yield yl) #[] #[]) := (blk_cell HY6.out 0).trans rfl
        have htk : m.take (j + 1) = m.take j ++ [y] := by rw [List.take_add_one, List.getElem?_eq_getElem hlt, hyy]; rfl
        have hpre : (flatA l pre ++ m.take j) ++ [y] <+: attP l := by
          have h1 := HPX.out
          rw [flatA_snoc, HM.out, flatA_all l L HMAP.out] at h1
          refine List.IsPrefix.trans ?_ h1
          rw [List.append_assoc, ← htk]
          exact (List.prefix_append_right_inj _).2 (List.take_prefix _ _)
        obtain ⟨fn, tmps, assign, body, hy, hRn⟩ := HYd.out _ y _ _ (HJ.out.below HJr.out hb6) hpre ⟨A6, c6, rfl, hlc, Kd.C_below hC6 hb6⟩
        have HRr := Aside0.mk hRn
        have HTK := Aside0.mk htk
        clear hRn hpre htk hb6 hlc hC6 hyy hget
        gi_wp2
        refine (roundIn_any HRr.out).mono ?_
        rintro e W4 ⟨⟨rfl, hJ4⟩ | ⟨rfl, hJx4⟩, hb4, hz4, hab4⟩
        · have HK4 := Aside0.mk (HK6.out.trans (hab4.mono (show W.heap.size ≤ V.heap.size by omega)))
          have HB4 := Aside0.mk ((HBr.out.trans (HB6.out.mono (Nat.le_trans hbwz HBr.out.size))).trans hb4)
          have HY4 := Aside0.mk (hab4.same _ _ (Nat.le_refl _) HY6.out (fun _ ho => by have := HO6.out.1 _ ho; omega))
          have hs6 := HB6.out.size
          have hs4 := hab4.size
          have HO4 := Aside0.mk (show (∀ k, Own W4 k → k < W.heap.size ∨ V.heap.size ≤ k) ∧ ∀ k, Own W4 k → k < Wb.heap.size ∨ w5.heap.size ≤ k from ⟨fun k hk => (hab4.own k hk).elim (HO6.out.1 k) (fun h => .inr (by have := HBr.out.size; omega)), fun k hk => (hab4.own k hk).elim (HO6.out.2 k) (fun h => .inr (by omega))⟩)
          have HN4 := Aside0.mk (Kd.N_step (Kd.N_below HNr.out HB6.out) (fun k hk hlt => by
            rcases hk with h | h
            · exact hb4.block k h
            · exact (hab4.same k _ (by have := HBr.out.size; omega) (Array.getElem?_eq_getElem hlt) (fun _ ho => by have := HO6.out.2 _ ho; omega)).trans (Array.getElem?_eq_getElem hlt).symm))
          clear hb4 hz4 hab4
          gi_wp2
          exact ⟨⟨j + 1, by simp, hlt, ⟨by rw [HTK.out, ← List.append_assoc]; exact hJ4⟩, HY4, HN4, HO4, by omega, HK4, HB4⟩, by show m.length - ((j : Int) + 1).toNat < m.length - (j : Int).toNat; omega⟩
        · have hpr : (flatA l pre ++ m.take j) ++ [y] <+: attP l := by
            have h1 := HPX.out
            rw [flatA_snoc, HM.out, flatA_all l L HMAP.out] at h1
            refine List.IsPrefix.trans ?_ h1
            rw [List.append_assoc, ← HTK.out]
            exact (List.prefix_append_right_inj _).2 (List.take_prefix _ _)
          have HPR := Aside0.mk hpr
          clear hpr
          gi_wp2
          exact ⟨HK6.out.trans (hab4.mono (show W.heap.size ≤ V.heap.size by omega)), (HBr.out.trans (HB6.out.mono (Nat.le_trans hbwz HBr.out.size))).trans hb4, fun _ h => h.elim, rfl, _, HPR.out, hJx4⟩
      · have hlt0 : decide ((j : Int) < (m.length : Int)) = false := decide_eq_false (by omega)
        gi_wp2
        refine ⟨HKr.out, HBr.out, fun _ h => h.elim, ?_, HYr.out, HOr.out.1⟩
        rw [flatA_snoc, HM.out]
        have h1 := HJr.out
        rw [List.take_of_length_le (by omega)] at h1
        exact h1
  case done =>
    rintro D2 W1 hD2 ⟨hj, hyb, how⟩ hK
    have HJ1 := Aside0.mk hj
    clear hj hyb how
    gi_wp2
    refine ⟨by simp, .inl ⟨_, _, rfl, run_takeDeferred hK, ?_⟩⟩
    refine ⟨_, results_none rfl _ _ _, ⟨_, rfl⟩, .inl ?_⟩
    have h1 := OwnZ.putObj HJ.out (.deferred none) HJ1.out (show W.heap.size ≤ D2 by omega) hK rfl
    rw [flatA_all l L HMAP.out] at h1
    exact h1
  case stop =>
    rintro D2 cd pre W1 hD2 hpre ⟨rfl, pre', hp, hj⟩ hK
    have HJ1 := Aside0.mk hj
    have HP1 := Aside0.mk hp
    clear hj hp
    gi_wp2
    refine ⟨by simp, .inl ⟨_, _, rfl, run_takeDeferred hK, ?_⟩⟩
    exact ⟨_, results_none rfl _ _ _, ⟨_, rfl⟩, .inr ⟨pre', HP1.out, OwnZ.putObj HJX.out (.deferred none) HJ1.out (show W.heap.size ≤ D2 by omega) hK rfl⟩⟩
end Go.Proofs.Ytebmbfobmakheaa.PD
namespace Go.Proofs.Ytebmbfobmakheaa.PD
open Go.RowKit Go.Proofs.YtebmbfobmakheaaW.PrintWords Go.Proofs.YtebmbfobmakheaaW.PrintLast Go.Proofs.YtebmbfobmakheaaW.PrintMore
attribute [local go_sem] isSome_setCell max2_int min2_int max_two min_two
set_option linter.unusedVariables false
set_option linter.unusedSimpArgs false
set_option maxRecDepth 100000 in
set_option maxHeartbeats 4000000 in
theorem itip_upper_walk (s : ByteArray) (w : World) (hs : s.size ≤ 140737488355328) :
    Calls Try.prog 61 #[.string s] w fun e w' => e = .returned (.string (mapB uppN s)) ∧ Below w.heap.size w w' := by
  have hcv := fun W => Lib.run_convert_string_bytes (P := Try.prog) W 9 70 5 s Try.underlying9 Try.underlying70 Try.underlying5
  have hB1 : Below w.heap.size w (Lib.bytesWorld w 5 s) := ⟨rfl, rfl, rfl, by rw [Lib.bytesWorld_size]; exact Nat.le_succ _, fun k hk => Lib.bytesWorld_at_old w 5 s k hk⟩
  have HB := Aside0.mk hB1
  clear hB1
  have HN := Aside0.mk (RowOf.new w s)
  go_enter Try.func61, Try.ntmps61
  go_wp2
  go_loopw [10] (fun v wr => ∃ k : Nat, v = .int .i64 k ∧ k ≤ s.size ∧ Aside0 (RowOf wr w.heap.size (stepK uppN s k)) ∧ Aside0 (Below w.heap.size w wr)) (fun v _ => s.size - (intOf v).toNat)
  case atStart => exact ⟨0, rfl, Nat.zero_le _, HN, HB⟩
  case round =>
    obtain ⟨k, rfl, hk, hrow, hb⟩ := hrel
    by_cases hlt : k < s.size
    · have hlt0 : decide ((k : Int) < (s.size : Int)) = true := decide_eq_true (by omega)
      have hsz := stepK_size uppN s k
      have hbk : byteN (stepK uppN s k) k = byteN s k := by rw [stepK_byte uppN uppN_lt s k hk, if_neg (by omega)]
      obtain ⟨hc, hf⟩ := hrow.out k (by omega)
      rw [hbk] at hc
      have q1 : (k : Int) < (s.size : Int) := by omega
      have q2 : (0 : Int) ≤ (k : Int) := by omega
      have hb256 := byteN_lt s k
      have hmeas : s.size - ((k : Int) + 1).toNat < s.size - (k : Int).toNat := by omega
      have hstep : stepK uppN s (k + 1) = setByte (stepK uppN s k) k (uppN (byteN s k)) := rfl
      have HS := Aside0.mk hstep
      clear hstep
      by_cases h1 : 97 ≤ byteN s k
      · by_cases h2 : byteN s k ≤ 122
        · have d1 : decide ((byteN s k : Int) ≥ 97) = true := decide_eq_true (by omega)
          have d2 : decide ((byteN s k : Int) ≤ 122) = true := decide_eq_true (by omega)
          have hfv : uppN (byteN s k) = byteN s k - 32 := by unfold uppN; rw [if_pos ⟨h1, h2⟩]
          have hr1 := hrow.out.set k (byteN s k - 32) (by omega) (by omega)
          rw [← hfv, ← HS.out] at hr1
          have hb1 := hb.out.setCell (p := ⟨w.heap.size, k, none⟩) (by show w.heap.size ≤ w.heap.size; exact Nat.le_refl _) (.int .u8 ((byteN s k : Int) - 32))
          rw [hfv, show ((byteN s k - 32 : Nat) : Int) = (byteN s k : Int) - 32 by omega] at hr1
          have HR1 := Aside0.mk hr1
          have HB1 := Aside0.mk hb1
          clear hr1 hb1
          go_wp2
          try go_roundw
          all_goals first | exact ⟨⟨k + 1, by simp, hlt, HR1, HB1⟩, hmeas⟩ | exact ⟨k + 1, by simp, hlt, HR1, HB1⟩ | exact hmeas
        · have d1 : decide ((byteN s k : Int) ≥ 97) = true := decide_eq_true (by omega)
          have d2 : decide ((byteN s k : Int) ≤ 122) = false := decide_eq_false (by omega)
          have hfv : stepK uppN s (k + 1) = stepK uppN s k := by rw [HS.out, show uppN (byteN s k) = byteN (stepK uppN s k) k by rw [hbk]; unfold uppN; rw [if_neg (by omega)], setByte_same _ _ (by omega)]
          go_wp2
          try go_roundw
          all_goals first | exact ⟨⟨k + 1, by simp, hlt, ⟨by rw [hfv]; exact hrow.out⟩, hb⟩, hmeas⟩ | exact ⟨k + 1, by simp, hlt, ⟨by rw [hfv]; exact hrow.out⟩, hb⟩ | exact hmeas
      · have d1 : decide ((byteN s k : Int) ≥ 97) = false := decide_eq_false (by omega)
        have hfv : stepK uppN s (k + 1) = stepK uppN s k := by rw [HS.out, show uppN (byteN s k) = byteN (stepK uppN s k) k by rw [hbk]; unfold uppN; rw [if_neg (by omega)], setByte_same _ _ (by omega)]
        go_wp2
        try go_roundw
        all_goals first | exact ⟨⟨k + 1, by simp, hlt, ⟨by rw [hfv]; exact hrow.out⟩, hb⟩, hmeas⟩ | exact ⟨k + 1, by simp, hlt, ⟨by rw [hfv]; exact hrow.out⟩, hb⟩ | exact hmeas
    · have hlt0 : decide ((k : Int) < (s.size : Int)) = false := decide_eq_false (by omega)
      have hkl : k = s.size := by omega
      have hst := hrow.out.string (grownCap w s.size 0 5)
      rw [stepK_size, hkl] at hst
      go_wp2
      go_ret
      exact ⟨rfl, hb.out⟩
end Go.Proofs.Ytebmbfobmakheaa.PD
namespace Go.Proofs.Ytebmbfobmakheaa.PD
open Go.RowKit Go.Proofs.YtebmbfobmakheaaW.PrintWords Go.Proofs.YtebmbfobmakheaaW.PrintLast Go.Proofs.YtebmbfobmakheaaW.PrintMore
attribute [local go_sem] isSome_setCell max2_int min2_int max_two min_two
set_option linter.unusedVariables false
set_option linter.unusedSimpArgs false
def firstB (l : List ByteArray) : ByteArray × Bool := match l with | [] => ((⟨#[]⟩ : ByteArray), false) | v :: _ => (v, true)
def paramP (l : List S77) (name : ByteArray) : ByteArray × Bool := match l.find? (fun x => x.f0.toList == name.toList) with | some x => firstB x.f1 | none => ((⟨#[]⟩ : ByteArray), false)
set_option maxRecDepth 100000 in
set_option maxHeartbeats 8000000 in
theorem line_Param_walk (nm0 : ByteArray) (A : Option Addr) (c : Nat) (l : List S77) (v0 name : ByteArray) (w : World) (hr : Kd.C k77 w A l.length l) :
    Calls Try.prog 60 #[.agg #[.string nm0, .slice A l.length c, .string v0], .string name] w fun e w' => e = .returned (.tuple #[.string (paramP l name).1, .bool (paramP l name).2]) ∧ Below w.heap.size w w' := by
  have HR := Aside0.mk hr
  have hml : l.length ≤ 9223372036854775807 := by have := hr.2.1; unfold maxLen at this; omega
  clear hr
  have HB := Aside0.mk (Below.refl w.heap.size w)
  rcases idx_find (fun x : S77 => x.f0.toList == name.toList) l with ⟨hi, hf⟩ | ⟨i, hi, he, hf⟩
  · have hP : paramP l name = ((⟨#[]⟩ : ByteArray), false) := by unfold paramP; rw [hf]
    rw [hP]
    have HI := Aside0.mk hi
    clear hP hf hi
    go_enter Try.func60, Try.ntmps60
    go_wp2_with (first | ((with_reducible refine gate_dst (N := 2) rfl ?_); refine box_event ?hg (N := 2) ?hd (cs := #[.string nm0, .slice A l.length c, .string v0]) (t := 45) ?hr ?_; (case hd => rfl); (case hg => rfl); (case hr => first | (go_simp; done) | (go_simp; rfl)); intro gb2 hg w2 hbox hb; have GE2 := Aside0.mk (show w.heap.size ≤ gb2 by rw [hg]; exact HB.out.size); have BK2 := Aside0.mk hbox; replace HB := Aside0.mk (below_step HB.out hb); clear hbox hb hg; skip) | ((with_reducible refine gate_dst (N := 3) rfl ?_); refine box_event ?hg (N := 3) ?hd (cs := #[.string name]) (t := 9) ?hr ?_; (case hd => rfl); (case hg => rfl); (case hr => first | (go_simp; done) | (go_simp; rfl)); intro gb3 hg w3 hbox hb; have GE3 := Aside0.mk (show w.heap.size ≤ gb3 by rw [hg]; exact HB.out.size); have NB3_2 := Aside0.mk (show gb3 ≠ gb2 by have h1_ := blk_lt BK2.out; omega); replace BK2 := Aside0.mk (blk_below BK2.out hb); have BK3 := Aside0.mk hbox; replace HB := Aside0.mk (below_step HB.out hb); clear hbox hb hg; have f2_1 : w3.cell? ⟨gb2, 1, none⟩ = some (.slice A l.length c) := (blk_cell BK2.out 1).trans rfl; skip) | (go_at_call 91; refine (index77 93 _ Try.func93 (by kernel_rfl) rfl #[.pointer (some ⟨gb3, 0, none⟩)] (fun x => x.f0.toList == name.toList) A c l w3 (Kd.C_below HR.out HB.out) (fun x hx A' c' W hW => paramN_calls name gb3 x.f0 A' x.f1.length c' W (blk_below BK3.out hW))).mono ?_; rw [HI.out]; rintro e w5 ⟨rfl, hb⟩; clear f2_1; replace BK2 := Aside0.mk (blk_below BK2.out hb); replace HB := Aside0.mk (below_step HB.out hb); clear hb; have f2_1 : w5.cell? ⟨gb2, 1, none⟩ = some (.slice A l.length c) := (blk_cell BK2.out 1).trans rfl; skip))
    go_ret2
    exact ⟨rfl, HB.out⟩
  · have hP : paramP l name = firstB l[i].f1 := by unfold paramP; rw [hf]
    rw [hP]
    clear hP
    have HI := Aside0.mk he
    have e0 : decide ((i : Int) < 0) = false := decide_eq_false (by omega)
    have p0 : (0 ≤ (i : Int)) = True := eq_true (by omega)
    have q0 : ((i : Int) < (l.length : Int)) = True := eq_true (by omega)
    obtain ⟨ad, A1, c1, ea, hx0, hx1, hlc, hC⟩ := at_T77 HR.out (i : Int) (by omega) (by omega)
    have hget : rd_T77 l (i : Int) = l[i] := by simp [rd_T77, hi]
    rw [hget] at hx0 hx1 hlc hC
    simp only [Int.toNat_natCast] at hx0 hx1
    subst ea
    have HX0 := Aside0.mk hx0
    have HX1 := Aside0.mk hx1
    clear hf he hget hx0 hx1
    cases hv : l[i].f1 with
    | nil =>
      have e1 : decide ((l[i].f1.length : Int) = 0) = true := decide_eq_true (by rw [hv]; rfl)
      rw [hv] at HX1 e1
      go_enter Try.func60, Try.ntmps60
      go_wp2_with (first | ((with_reducible refine gate_dst (N := 2) rfl ?_); refine box_event ?hg (N := 2) ?hd (cs := #[.string nm0, .slice (some ad) l.length c, .string v0]) (t := 45) ?hr ?_; (case hd => rfl); (case hg => rfl); (case hr => first | (go_simp; done) | (go_simp; rfl)); intro gb2 hg w2 hbox hb; have GE2 := Aside0.mk (show w.heap.size ≤ gb2 by rw [hg]; exact HB.out.size); have BK2 := Aside0.mk hbox; replace HB := Aside0.mk (below_step HB.out hb); clear hbox hb hg; skip) | ((with_reducible refine gate_dst (N := 3) rfl ?_); refine box_event ?hg (N := 3) ?hd (cs := #[.string name]) (t := 9) ?hr ?_; (case hd => rfl); (case hg => rfl); (case hr => first | (go_simp; done) | (go_simp; rfl)); intro gb3 hg w3 hbox hb; have GE3 := Aside0.mk (show w.heap.size ≤ gb3 by rw [hg]; exact HB.out.size); have NB3_2 := Aside0.mk (show gb3 ≠ gb2 by have h1_ := blk_lt BK2.out; omega); replace BK2 := Aside0.mk (blk_below BK2.out hb); have BK3 := Aside0.mk hbox; replace HB := Aside0.mk (below_step HB.out hb); clear hbox hb hg; have f2_1 : w3.cell? ⟨gb2, 1, none⟩ = some (.slice (some ad) l.length c) := (blk_cell BK2.out 1).trans rfl; skip) | (go_at_call 91; refine (index77 93 _ Try.func93 (by kernel_rfl) rfl #[.pointer (some ⟨gb3, 0, none⟩)] (fun x => x.f0.toList == name.toList) (some ad) c l w3 (Kd.C_below HR.out HB.out) (fun x hx A' c' W hW => paramN_calls name gb3 x.f0 A' x.f1.length c' W (blk_below BK3.out hW))).mono ?_; rw [HI.out]; rintro e w5 ⟨rfl, hb⟩; clear f2_1; replace BK2 := Aside0.mk (blk_below BK2.out hb); replace HB := Aside0.mk (below_step HB.out hb); clear hb; have f2_1 : w5.cell? ⟨gb2, 1, none⟩ = some (.slice (some ad) l.length c) := (blk_cell BK2.out 1).trans rfl; have hx0 := (HB.out.cell (World.block_lt_of_cell? w _ HX0.out)).trans HX0.out; have hx1 := (HB.out.cell (World.block_lt_of_cell? w _ HX1.out)).trans HX1.out; skip))
      go_ret2
      exact ⟨rfl, HB.out⟩
    | cons v vs =>
      have e1 : decide ((l[i].f1.length : Int) = 0) = false := decide_eq_false (by rw [hv]; simp only [List.length_cons]; omega)
      rw [hv] at HX1 e1 hC
      obtain ⟨ad1, ea1, hy0⟩ := Kd.at_string hC (0 : Int) (by omega) (by simp only [List.length_cons]; omega)
      subst ea1
      have hg0 : rdOf ByteArray.empty (v :: vs) (0 : Int) = v := rfl
      rw [show ad1.add ((0 : Int).toNat) = ad1 by cases ad1; rfl, hg0] at hy0
      have HY := Aside0.mk hy0
      clear hy0
      go_enter Try.func60, Try.ntmps60
      go_wp2_with (first | ((with_reducible refine gate_dst (N := 2) rfl ?_); refine box_event ?hg (N := 2) ?hd (cs := #[.string nm0, .slice (some ad) l.length c, .string v0]) (t := 45) ?hr ?_; (case hd => rfl); (case hg => rfl); (case hr => first | (go_simp; done) | (go_simp; rfl)); intro gb2 hg w2 hbox hb; have GE2 := Aside0.mk (show w.heap.size ≤ gb2 by rw [hg]; exact HB.out.size); have BK2 := Aside0.mk hbox; replace HB := Aside0.mk (below_step HB.out hb); clear hbox hb hg; skip) | ((with_reducible refine gate_dst (N := 3) rfl ?_); refine box_event ?hg (N := 3) ?hd (cs := #[.string name]) (t := 9) ?hr ?_; (case hd => rfl); (case hg => rfl); (case hr => first | (go_simp; done) | (go_simp; rfl)); intro gb3 hg w3 hbox hb; have GE3 := Aside0.mk (show w.heap.size ≤ gb3 by rw [hg]; exact HB.out.size); have NB3_2 := Aside0.mk (show gb3 ≠ gb2 by have h1_ := blk_lt BK2.out; omega); replace BK2 := Aside0.mk (blk_below BK2.out hb); have BK3 := Aside0.mk hbox; replace HB := Aside0.mk (below_step HB.out hb); clear hbox hb hg; have f2_1 : w3.cell? ⟨gb2, 1, none⟩ = some (.slice (some ad) l.length c) := (blk_cell BK2.out 1).trans rfl; skip) | (go_at_call 91; refine (index77 93 _ Try.func93 (by kernel_rfl) rfl #[.pointer (some ⟨gb3, 0, none⟩)] (fun x => x.f0.toList == name.toList) (some ad) c l w3 (Kd.C_below HR.out HB.out) (fun x hx A' c' W hW => paramN_calls name gb3 x.f0 A' x.f1.length c' W (blk_below BK3.out hW))).mono ?_; rw [HI.out]; rintro e w5 ⟨rfl, hb⟩; clear f2_1; replace BK2 := Aside0.mk (blk_below BK2.out hb); replace HB := Aside0.mk (below_step HB.out hb); clear hb; have f2_1 : w5.cell? ⟨gb2, 1, none⟩ = some (.slice (some ad) l.length c) := (blk_cell BK2.out 1).trans rfl; have hx0 := (HB.out.cell (World.block_lt_of_cell? w _ HX0.out)).trans HX0.out; have hx1 := (HB.out.cell (World.block_lt_of_cell? w _ HX1.out)).trans HX1.out; have hy0 := (HB.out.cell (World.block_lt_of_cell? w _ HY.out)).trans HY.out))
      go_ret2
      exact ⟨rfl, HB.out⟩
end Go.Proofs.Ytebmbfobmakheaa.PD
namespace Go.Proofs.Ytebmbfobmakheaa.PD
open Go.RowKit Go.Shelf Go.Proofs.YtebmbfobmakheaaW.PrintWords Go.Proofs.YtebmbfobmakheaaW.PrintLast Go.Proofs.YtebmbfobmakheaaW.PrintMore
attribute [local go_sem] isSome_setCell Oper.semAt_some wide_fn wide_depth
set_option linter.unusedVariables false
set_option linter.unusedSimpArgs false
theorem rows_cells {α : Type} {R R' : α → List Value → Prop} {sz : Nat} {X Y : World} {A : Option Addr} {n : Nat} {xs : List α} (h : ReadsRow R sz X A n xs) (hc : ∀ p u, X.cell? p = some u → Y.cell? p = some u) (hR : ∀ x cs, R x cs → R' x cs) : ReadsRow R' sz Y A n xs :=
  ⟨h.1, h.2.1, fun hn => by
    obtain ⟨ad, e, hj⟩ := h.2.2 hn
    refine ⟨ad, e, fun j p hp => ?_⟩
    obtain ⟨c, hl, hr, hh⟩ := hj j p hp
    exact ⟨c, hl, hR _ _ hr, fun i u hu => hc _ _ (hh i u hu)⟩⟩
theorem C77_cells {X Y : World} {A : Option Addr} {n : Nat} {xs : List S77} (h : Kd.C k77 X A n xs) (hc : ∀ p u, X.cell? p = some u → Y.cell? p = some u) : Kd.C k77 Y A n xs :=
  rows_cells h hc (fun x cs hk => by
    obtain ⟨A1, c1, rfl, hl, hC⟩ := k77_open hk
    exact k77_mk Y x hl (rows_cells hC hc (fun _ _ h => h)))
theorem cells_own {X Y : World} {B : Nat} {row : Option Nat} (hg : X.grownBy Y row) (hr : ∀ r, row = some r → NoZ r ∨ (B ≤ r ∧ ∃ o : Obj, X.heap[r]? = some o ∧ o.isCells = false)) (p : Addr) (u : Value) (h : X.cell? p = some u) : Y.cell? p = some u := by
  have hl := World.block_lt_of_cell? X _ h
  refine (World.cell?_of_block (hg.block p.block hl (fun e => ?_))).trans h
  rcases hr p.block e.symm with h1 | ⟨_, o, h2, h3⟩
  · exact h1
  · unfold World.cell? at h
    rw [h2] at h
    cases o <;> simp_all [Obj.isCells]
theorem atts_made (nm : ByteArray) (A1 : Option Addr) (n1 c1 : Nat) (A2 : Option Addr) (n2 c2 : Nat) (w : World) :
    Calls Try.prog 45 #[.agg #[.string nm, .slice A1 n1 c1, .slice A2 n2 c2]] w fun e w' => e = .returned (.func (.func 82) #[] #[.pointer (some ⟨w.heap.size, 0, none⟩)]) ∧ w' = w.alloc (.cells #[.string nm, .slice A1 n1 c1, .slice A2 n2 c2] 25) := by
  go_enter Try.func45, Try.ntmps45
  go_wp2
  go_ret
  exact ⟨rfl, rfl⟩
def answerP (x : S45) : ByteArray := if (paramP x.f1 (⟨#[80, 65, 82, 84, 83, 84, 65, 84]⟩ : ByteArray)).2 = true then mapB uppN (paramP x.f1 (⟨#[80, 65, 82, 84, 83, 84, 65, 84]⟩ : ByteArray)).1 else (⟨#[78, 69, 69, 68, 83, 45, 65, 67, 84, 73, 79, 78]⟩ : ByteArray)
def statusP (l : List S25) (addr : ByteArray) : ByteArray := match (attP l).find? (fun x => alikeB x.f2 addr) with | some x => answerP x | none => (⟨#[]⟩ : ByteArray)
def okA (x : S45) : Prop := shortB x.f2 = true ∧ shortB (paramP x.f1 (⟨#[80, 65, 82, 84, 83, 84, 65, 84]⟩ : ByteArray)).1 = true
theorem results20 (tmps : Array Value) (w : World) (S : Nat) (t : ByteArray) (h2 : tmps.getD 4 undef = .pointer (some ⟨S, 0, none⟩)) (q : w.heap[S]? = some (.cells #[.string t] 9 (0, 0))) : (results Try.f20 tmps).run Try.prog w = .ok (.string t) w := by
  have d2 := (blk_cell q 0).trans rfl
  unfold results
  rw [show Try.f20.results = [ResultVar.cell 4 9].toArray from rfl, List.mapM_toArray]
  simp only [Sem.run_bind, Sem.run_map, List.mapM_cons, List.mapM_nil, h2]
  simp [asAddr, loadVar, go_sem, d2, Try.underlying9]
def Os (w : World) (addr t : ByteArray) (W : World) : Prop := W.heap[w.heap.size + 1]? = some (.cells #[.string addr] 9 (0, 0)) ∧ Og w (w.heap.size + 2) t W
theorem os_own {β : Type} (w : World) (B : Nat) (hB : w.heap.size + 2 < B) (addr t : ByteArray) (p : β → Prop) : OwnZ NoZ B (fun (s : β) W => p s ∧ Os w addr t W) := fun s X Y row hs hg hr =>
  ⟨hs.1, cell_own hs.2.1 hg hr, (og_own w B (w.heap.size + 2) hB (by omega) t (fun _ : Unit => True) () X Y row ⟨trivial, hs.2.2⟩ hg hr).2⟩
set_option maxRecDepth 100000 in
set_option maxHeartbeats 8000000 in
theorem status_walk (nm : ByteArray) (A1 : Option Addr) (n1 c1 : Nat) (A : Option Addr) (c : Nat) (l : List S25) (addr : ByteArray) (w : World) (hr : Kd.C k25 w A l.length l) (hlim : ∀ x ∈ l, x.f1.length < 2513169434917) (hok : ∀ x ∈ attP l, okA x) (ha : shortB addr = true) :
    Calls Try.prog 20 #[.agg #[.string nm, .slice A1 n1 c1, .slice A l.length c], .string addr] w fun e w' => e = .returned (.string (statusP l addr)) ∧ Below w.heap.size w w' := by
  have HR := Aside0.mk hr
  have HLIM := Aside0.mk hlim
  have HOK := Aside0.mk hok
  clear hr hlim hok
  have HV : Aside0 (Os w addr (⟨#[]⟩ : ByteArray) (((w.alloc (.cells #[.string nm, .slice A1 n1 c1, .slice A l.length c] 25)).alloc (.cells #[.string addr] 9)).alloc (.cells #[.string (⟨#[]⟩ : ByteArray)] 9))) := ⟨by
      have := heap_alloc_new (w.alloc (.cells #[.string nm, .slice A1 n1 c1, .slice A l.length c] 25)) (.cells #[.string addr] 9)
      rw [World.size_alloc] at this
      exact blk_alloc this _, by
      have := heap_alloc_new ((w.alloc (.cells #[.string nm, .slice A1 n1 c1, .slice A l.length c] 25)).alloc (.cells #[.string addr] 9)) (.cells #[.string (⟨#[]⟩ : ByteArray)] 9)
      rw [World.size_alloc, World.size_alloc] at this
      exact this, below_alloc (below_alloc (below_alloc (Below.refl _ _) _) _) _⟩
  refine (callsIn_wide (n := 51)).1 ?_
  refine callsIn_of_wp_marks Try.func20 rfl trivial ?_ rfl
  simp only [Try.ntmps20, List.size_toArray, List.length_cons, List.length_nil, Nat.reduceAdd, Nat.reduceSub, Array.replicate_succ, Array.replicate_zero, List.push_toArray, List.append_toArray, List.nil_append, List.cons_append]
  gi_wp2
  gi_at_call 45
  refine (callsIn_wide.2 (atts_made nm A1 n1 c1 A l.length c _)).mono ?_
  rintro e w4 ⟨rfl, rfl⟩
  gi_wp2
  obtain ⟨V, hVe⟩ : ∃ V, (((w.alloc (.cells #[.string nm, .slice A1 n1 c1, .slice A l.length c] 25)).alloc (.cells #[.string addr] 9)).alloc (.cells #[.string (⟨#[]⟩ : ByteArray)] 9)).alloc (.cells #[.string nm, .slice A1 n1 c1, .slice A l.length c] 25) = V := ⟨_, rfl⟩
  have hz : V.heap.size = w.heap.size + 4 := by rw [← hVe]; simp
  have q1 : V.heap[w.heap.size + 3]? = some (.cells #[.string nm, .slice A1 n1 c1, .slice A l.length c] 25 (0, 0)) := by
    have := heap_alloc_new (((w.alloc (.cells #[.string nm, .slice A1 n1 c1, .slice A l.length c] 25)).alloc (.cells #[.string addr] 9)).alloc (.cells #[.string (⟨#[]⟩ : ByteArray)] 9)) (.cells #[.string nm, .slice A1 n1 c1, .slice A l.length c] 25)
    rw [World.size_alloc, World.size_alloc, World.size_alloc, hVe] at this
    exact this
  have HOG := Aside0.mk (show Os w addr (⟨#[]⟩ : ByteArray) V from by rw [← hVe]; exact ⟨blk_alloc HV.out.1 _, blk_alloc HV.out.2.1 _, below_alloc HV.out.2.2 _⟩)
  try rw [show w.heap.size + 1 + 1 + 1 = w.heap.size + 3 from rfl]
  try rw [show w.heap.size + 1 + 1 = w.heap.size + 2 from rfl]
  rw [hVe]
  clear hVe HV
  refine range_z (n₀ := w.heap.size) (Z := NoZ) (gf := 82) (lb := #[.pointer (some ⟨w.heap.size + 3, 0, none⟩)]) (En := EnP) (xs := attP l) (Rd := fun _ W => Below w.heap.size w W) (Own := fun _ _ => False) rfl (enters_of Try.func82 (by kernel_rfl) rfl) (by omega) (fun b hb => hb.elim)
    (fun l' J Jx W hW hJ hJx hRd hSa hSb hY h0 => (callsIn_wide (n := 51)).1 (att_in A c l w HR.out HLIM.out nm A1 n1 c1 l' (w.heap.size + 3) J Jx W hJ hJx hRd hSa hSb hY ((hW.block (w.heap.size + 3) (by omega)).trans q1) h0)) (fun x ar _ e => by obtain ⟨_, _, e, _⟩ := e; rw [e]; rfl)
    (fun pre W => (∀ p ∈ pre, alikeB p.f2 addr = false) ∧ Os w addr (⟨#[]⟩ : ByteArray) W)
    (fun pre W h => h.2.2.2)
    (fun cd pre W => (cd = .ret ∧ ∃ y, (attP l).find? (fun x => alikeB x.f2 addr) = some y ∧ Os w addr (answerP y) W))
    (os_own w _ (by omega) _ _ _) (fun cd => fun s X Y row h hg hr => by obtain ⟨hc, i, hi, ho⟩ := h; exact ⟨hc, i, hi, (os_own w V.heap.size (by omega) _ _ (fun _ : Unit => True) () X Y row ⟨trivial, ho⟩ hg hr).2⟩) (OwnS.none _ _ _) (fun _ => OwnS.none _ _ _) ⟨fun p hp => (by cases hp), HOG.out⟩
    (fun x a' W => ∃ G Ax cx, w.heap.size + 4 ≤ G ∧ a' = { tmps := #[.agg #[.string nm, .slice A1 n1 c1, .slice A l.length c], .string addr, .pointer (some ⟨w.heap.size, 0, none⟩), .pointer (some ⟨w.heap.size + 1, 0, none⟩), .pointer (some ⟨w.heap.size + 2, 0, none⟩), .pointer (some ⟨G, 0, none⟩), undef, undef, .agg #[.string nm, .slice A1 n1 c1, .slice A l.length c], .func (.func 82) #[] #[.pointer (some ⟨w.heap.size + 3, 0, none⟩)], .agg #[.string x.f0, .slice Ax x.f1.length cx, .string x.f2], undef, undef, undef, undef, undef, undef, undef, undef, undef, undef, undef, undef, undef], defers := [] } ∧ W.heap[G]? = some (.cells #[.string x.f0, .slice Ax x.f1.length cx, .string x.f2] 45 (0, 0)) ∧ Kd.C k77 W Ax x.f1.length x.f1)
    (fun x a' _ X Y row h hg hr => by
      obtain ⟨G, Ax, cx, hG, e, hb, hC⟩ := h
      exact ⟨G, Ax, cx, hG, e, cell_own hb hg hr, C77_cells hC (fun p u h => cells_own hg hr p u h)⟩) ?assign ?body ?done ?stop
  case assign =>
    rintro l' pre x ar W K hI hpx ⟨Ax, cx, rfl, hcx, hCx⟩ hW hK
    gi_wp2
    have hb : Below W.heap.size W (W.alloc (.cells #[.string x.f0, .slice Ax x.f1.length cx, .string x.f2] 45)) := below_alloc (Below.refl _ _) _
    refine hK _ _ (kf_below hb).ko (hb.mono hI.2.2.2.size) (fun _ h => h.elim) ⟨hI.1, blk_alloc hI.2.1 _, blk_alloc hI.2.2.1 _, below_alloc hI.2.2.2 _⟩ ⟨W.heap.size, Ax, cx, by omega, by simp, heap_alloc_new W _, Kd.C_below hCx hb⟩
  case body =>
    rintro l' pre x a' W ⟨hno, hog⟩ hpx hWs ⟨G, Ax, cx, hG, rfl, hb, hCx⟩
    have hmem : x ∈ attP l := hpx.subset (List.mem_append_right _ List.mem_cons_self)
    obtain ⟨hs1, hs2⟩ := HOK.out x hmem
    have HNO := Aside0.mk hno
    have HOG1 := Aside0.mk hog
    have HPX := Aside0.mk hpx
    have HCX := Aside0.mk hCx
    have HBX := Aside0.mk hb
    have g2 : W.cell? ⟨G, 2, none⟩ = some (.string x.f2) := (blk_cell hb 2).trans rfl
    have ga : W.cell? ⟨w.heap.size + 1, 0, none⟩ = some (.string addr) := (blk_cell hog.1 0).trans rfl
    clear hno hog hpx hb hCx hmem
    gi_wp2
    gi_at_call 48
    refine (CallsIn.inRound l' (callsIn_wide.2 (alike_calls x.f2 addr hs1 ha W))).mono ?_
    rintro e w5 ⟨rfl, hb5⟩
    have HB5 := Aside0.mk hb5
    have HX5 := Aside0.mk (blk_below HBX.out hb5)
    have HC5 := Aside0.mk (Kd.C_below HCX.out hb5)
    clear hb5 g2 ga
    cases hp : alikeB x.f2 addr with
    | false =>
      have HP := Aside0.mk hp
      clear hp
      gi_wp2
      refine ⟨(kf_below HB5.out).ko, HB5.out.mono HOG1.out.2.2.size, fun _ h => h.elim, fun p hp => ?_, blk_below HOG1.out.1 HB5.out, blk_below HOG1.out.2.1 HB5.out, HOG1.out.2.2.trans (HB5.out.mono HOG1.out.2.2.size)⟩
      rcases List.mem_append.1 hp with hp | hp
      · exact HNO.out p hp
      · rw [List.mem_singleton.1 hp]; exact HP.out
    | true =>
      have HF := Aside0.mk (find_at (fun x => alikeB x.f2 addr) pre x _ HPX.out HNO.out hp)
      have g0 : w5.cell? ⟨G, 0, none⟩ = some (.string x.f0) := (blk_cell HX5.out 0).trans rfl
      have g1 : w5.cell? ⟨G, 1, none⟩ = some (.slice Ax x.f1.length cx) := (blk_cell HX5.out 1).trans rfl
      have g2 : w5.cell? ⟨G, 2, none⟩ = some (.string x.f2) := (blk_cell HX5.out 2).trans rfl
      clear hp
      gi_wp2
      gi_at_call 60
      refine (CallsIn.inRound l' (callsIn_wide.2 (line_Param_walk x.f0 Ax cx x.f1 x.f2 (⟨#[80, 65, 82, 84, 83, 84, 65, 84]⟩ : ByteArray) w5 HC5.out))).mono ?_
      rintro e w6 ⟨rfl, hb6⟩
      have HB6 := Aside0.mk (HB5.out.trans (hb6.mono HB5.out.size))
      clear hb6 g0 g1 g2
      cases hq : (paramP x.f1 (⟨#[80, 65, 82, 84, 83, 84, 65, 84]⟩ : ByteArray)).2 with
      | false =>
        have hA : answerP x = (⟨#[78, 69, 69, 68, 83, 45, 65, 67, 84, 73, 79, 78]⟩ : ByteArray) := by unfold answerP; rw [if_neg (by rw [hq]; decide)]
        have u1 : w6.cell? ⟨w.heap.size + 2, 0, none⟩ = some (.string (⟨#[]⟩ : ByteArray)) := (blk_cell (blk_below HOG1.out.2.1 HB6.out) 0).trans rfl
        have u2 : w6.frozen? ⟨w.heap.size + 2, 0, none⟩ = false := blk_frozen (blk_below HOG1.out.2.1 HB6.out) 0
        obtain ⟨k1, k2, k3⟩ := og_set HOG1.out.2 HB6.out (⟨#[78, 69, 69, 68, 83, 45, 65, 67, 84, 73, 79, 78]⟩ : ByteArray) V.heap.size (by omega)
        have K := Aside0.mk (And.intro k1 (And.intro k2 k3))
        have HA := Aside0.mk hA
        clear k1 k2 k3 hA
        gi_wp2
        exact ⟨K.out.1.ko, K.out.2.1, fun _ h => h.elim, rfl, x, HF.out, blk_far (blk_below HOG1.out.1 HB6.out) (by show w.heap.size + 1 ≠ w.heap.size + 2; omega) _, by rw [HA.out]; exact K.out.2.2⟩
      | true =>
        have hA : answerP x = mapB uppN (paramP x.f1 (⟨#[80, 65, 82, 84, 83, 84, 65, 84]⟩ : ByteArray)).1 := by unfold answerP; rw [if_pos hq]
        have HA := Aside0.mk hA
        clear hA
        gi_wp2
        gi_at_call 61
        refine (CallsIn.inRound l' (callsIn_wide.2 (itip_upper_walk (paramP x.f1 (⟨#[80, 65, 82, 84, 83, 84, 65, 84]⟩ : ByteArray)).1 w6 (of_decide_eq_true hs2)))).mono ?_
        rintro e w7 ⟨rfl, hb7⟩
        have HB7 := Aside0.mk (HB6.out.trans (hb7.mono HB6.out.size))
        have u1 : w7.cell? ⟨w.heap.size + 2, 0, none⟩ = some (.string (⟨#[]⟩ : ByteArray)) := (blk_cell (blk_below HOG1.out.2.1 HB7.out) 0).trans rfl
        have u2 : w7.frozen? ⟨w.heap.size + 2, 0, none⟩ = false := blk_frozen (blk_below HOG1.out.2.1 HB7.out) 0
        obtain ⟨k1, k2, k3⟩ := og_set HOG1.out.2 HB7.out (mapB uppN (paramP x.f1 (⟨#[80, 65, 82, 84, 83, 84, 65, 84]⟩ : ByteArray)).1) V.heap.size (by omega)
        have K := Aside0.mk (And.intro k1 (And.intro k2 k3))
        clear k1 k2 k3 hb7
        gi_wp2
        exact ⟨K.out.1.ko, K.out.2.1, fun _ h => h.elim, rfl, x, HF.out, blk_far (blk_below HOG1.out.1 HB7.out) (by show w.heap.size + 1 ≠ w.heap.size + 2; omega) _, by rw [HA.out]; exact K.out.2.2⟩
  case done =>
    rintro D2 W hD2 ⟨hno, hog⟩ hK
    have hF : (attP l).find? (fun x => alikeB x.f2 addr) = none := List.find?_eq_none.2 (fun p hp => by simpa using hno p hp)
    have hP : statusP l addr = (⟨#[]⟩ : ByteArray) := by unfold statusP; rw [hF]
    have HP2 := Aside0.mk hP
    have u1 : W.cell? ⟨w.heap.size + 2, 0, none⟩ = some (.string (⟨#[]⟩ : ByteArray)) := (blk_cell hog.2.1 0).trans rfl
    have u2 : W.frozen? ⟨w.heap.size + 2, 0, none⟩ = false := blk_frozen hog.2.1 0
    obtain ⟨k1, k2, k3⟩ := og_set (W := W) hog.2 (Below.refl _ W) (⟨#[]⟩ : ByteArray) V.heap.size (by omega)
    have K1 := Aside0.mk k1
    have K3 := Aside0.mk k3
    clear hno hog hF hP k1 k2 k3
    gi_wp2
    refine ⟨by simp, .inl ⟨_, _, rfl, run_takeDeferred (by exact (K1.out.same D2 _ hD2 hK)), ?_⟩⟩
    exact ⟨_, results20 _ _ (w.heap.size + 2) _ rfl ((World.putObj_heap_other (by omega)).trans K3.out.1), by rw [HP2.out], K3.out.2.trans (below_put _ (by omega))⟩
  case stop =>
    rintro D2 cd pre W hD2 hpre ⟨rfl, y, hF, hog⟩ hK
    have hP : statusP l addr = answerP y := by unfold statusP; rw [hF]
    have HP2 := Aside0.mk hP
    have K3 := Aside0.mk hog.2
    clear hF hP hog
    gi_wp2
    refine ⟨by simp, .inl ⟨_, _, rfl, run_takeDeferred hK, ?_⟩⟩
    exact ⟨_, results20 _ _ (w.heap.size + 2) _ rfl ((World.putObj_heap_other (by omega)).trans K3.out.1), by rw [HP2.out], K3.out.2.trans (below_put _ (by omega))⟩
def limB (l : List S25) : Bool := l.all fun x => decide (x.f1.length < 2513169434917)
def okB (l : List S25) : Bool := (attP l).all fun x => shortB x.f2 && shortB (paramP x.f1 (⟨#[80, 65, 82, 84, 83, 84, 65, 84]⟩ : ByteArray)).1
def itip_Status.f (k : Nat) (a0_0 : ByteArray) (l0_1 : List (S45)) (l0_2 : List (S25)) (a1 : ByteArray) : Option (ByteArray) := if (limB l0_2 && (okB l0_2 && shortB a1)) = true then some (statusP l0_2 a1) else none
theorem limB_iff (l : List S25) : limB l = true ↔ ∀ x ∈ l, x.f1.length < 2513169434917 := by unfold limB; simp
theorem itip_Status.calls (k : Nat) (a0_0 : ByteArray) (A0_1 : Option Addr) (c0_1 : Nat) (l0_1 : List (S45)) (A0_2 : Option Addr) (c0_2 : Nat) (l0_2 : List (S25)) (a1 : ByteArray) (r : ByteArray) (w : World) (hr0_1 : Kd.C k45 w A0_1 l0_1.length l0_1) (hc0_1 : l0_1.length ≤ c0_1) (hr0_2 : Kd.C k25 w A0_2 l0_2.length l0_2) (hc0_2 : l0_2.length ≤ c0_2) (h : itip_Status.f k a0_0 l0_1 l0_2 a1 = some r) :
    Calls Try.prog 20 #[.agg #[.string a0_0, .slice A0_1 l0_1.length c0_1, .slice A0_2 l0_2.length c0_2], .string a1] w fun e w' => e = .returned (.string r) ∧ Below w.heap.size w w' := by
  unfold itip_Status.f at h
  split at h
  case isFalse => cases h
  rename_i hc
  simp only [Bool.and_eq_true] at hc
  obtain rfl := Option.some.inj h
  refine status_walk a0_0 A0_1 _ c0_1 A0_2 c0_2 l0_2 a1 w hr0_2 ((limB_iff _).1 hc.1) (fun x hx => ?_) hc.2.2
  have := List.all_eq_true.1 hc.2.1 x hx
  simpa [okA] using this
end Go.Proofs.Ytebmbfobmakheaa.PD
namespace Go.Proofs.Ytebmbfobmakheaa.PD
open Go.RowKit Go.Shelf Go.Proofs.YtebmbfobmakheaaW.PrintWords Go.Proofs.YtebmbfobmakheaaW.PrintLast Go.Proofs.YtebmbfobmakheaaW.PrintMore
attribute [local go_sem] isSome_setCell Oper.semAt_some wide_fn wide_depth
set_option linter.unusedVariables false
set_option linter.unusedSimpArgs false
set_option maxRecDepth 100000 in
set_option maxHeartbeats 1600000 in
theorem index9 (fk : Nat) (fn : Func) (hfn : Try.prog.funcs[fk]? = some fn) (hname : (fn.name == "runtime.NumGoroutine") = false) (hbody : fn.body.isSome = true) (lb : Array Value) (p : ByteArray → Bool)
    (A0 : Option Addr) (c0 : Nat) (l0 : List ByteArray) (w : World) (hr0 : Kd.C Kd.string w A0 l0.length l0)
    (hp : ∀ x ∈ l0, ∀ W, Below w.heap.size w W → Calls Try.prog fk (#[.string x] ++ lb) W fun e W' => e = .returned (.bool (p x)) ∧ Below W.heap.size W W') :
    Calls Try.prog 84 #[.slice A0 l0.length c0, .func (.func fk) #[] lb] w fun e w' => e = .returned (.int .i64 (idxP p l0)) ∧ Below w.heap.size w w' := by
  have HR0 := Aside0.mk hr0
  have hml : l0.length ≤ 9223372036854775807 := by have := hr0.2.1; unfold maxLen at this; omega
  clear hr0
  have HP := Aside0.mk hp
  clear hp
  have HB := Aside0.mk (Below.refl w.heap.size w)
  go_enter Try.func84, Try.ntmps84
  go_wp2
  go_loopw [8] (fun v wr => ∃ k : Nat, v = .int .i64 k ∧ k ≤ l0.length ∧ Aside0 (∀ j, (hj : j < l0.length) → j < k → p l0[j] = false) ∧ Aside0 (Below w.heap.size w wr)) (fun v _ => l0.length - (intOf v).toNat)
  case atStart => exact ⟨0, rfl, Nat.zero_le _, ⟨fun j _ hj => absurd hj (Nat.not_lt_zero _)⟩, HB⟩
  case round =>
    obtain ⟨k, rfl, hk, hno, hb⟩ := hrel
    by_cases hlt : k < l0.length
    · have hlt0 : decide ((k : Int) < (l0.length : Int)) = true := decide_eq_true (by omega)
      obtain ⟨ad, e, hx0⟩ := Kd.at_string HR0.out (k : Int) (by omega) (by omega)
      subst e
      replace hx0 := (hb.out.cell (World.block_lt_of_cell? w _ hx0)).trans hx0
      have hget : rdOf ByteArray.empty l0 (k : Int) = l0[k] := by simp only [rdOf, Int.toNat_natCast]; simp [hlt]
      rw [hget] at hx0
      have hc := HP.out l0[k] (List.getElem_mem hlt) wr hb.out
      simp only [Int.toNat_natCast] at hx0
      cases hpk : p l0[k] with
      | true =>
        rw [hpk] at hc
        have HC := Aside0.mk hc
        clear hc
        go_wp2_with ((with_reducible refine gate_tmp (t := 11) rfl ?_); refine goesF_ (some 16) rfl rfl hfn hname hbody (args := #[.string l0[k]] ++ lb) rfl rfl (by (try simp only [List.map_toArray, List.map_cons, List.map_nil]); first | done | rfl) ?_; refine HC.out.mono ?_; rintro e W' ⟨rfl, hb'⟩; refine ⟨_, rfl, ?_⟩)
        go_ret
        refine ⟨?_, hb.out.trans (hb'.mono hb.out.size)⟩
        rw [idxP_at p l0 k hlt hpk (fun j hj => hno.out j (by omega) hj)]
        rfl
      | false =>
        rw [hpk] at hc
        have HC := Aside0.mk hc
        clear hc
        go_wp2_with ((with_reducible refine gate_tmp (t := 11) rfl ?_); refine goesF_ (some 16) rfl rfl hfn hname hbody (args := #[.string l0[k]] ++ lb) rfl rfl (by (try simp only [List.map_toArray, List.map_cons, List.map_nil]); first | done | rfl) ?_; refine HC.out.mono ?_; rintro e W' ⟨rfl, hb'⟩; refine ⟨_, rfl, ?_⟩)
        go_roundw
        case rel =>
          refine ⟨k + 1, by simp, hlt, ⟨fun j hj hjk => ?_⟩, ⟨hb.out.trans (hb'.mono hb.out.size)⟩⟩
          rcases Nat.lt_or_ge j k with h | h
          · exact hno.out j hj h
          · obtain rfl : j = k := by omega
            exact hpk
        case measure => show l0.length - (((k : Int) + 1)).toNat < l0.length - ((k : Int)).toNat; omega
    · have hlt0 : decide ((k : Int) < (l0.length : Int)) = false := decide_eq_false (by omega)
      go_wp2
      go_ret
      refine ⟨?_, hb.out⟩
      rw [idxP_none p l0 (fun j hj => hno.out j hj (by omega))]
      rfl
set_option maxRecDepth 100000 in
set_option maxHeartbeats 1600000 in
theorem attN1_calls (v : ByteArray) (G : Nat) (a : ByteArray) (ha : shortB a = true) (hv : shortB v = true) (W : World) (hG : W.cell? ⟨G, 2, none⟩ = some (.string v)) :
    Calls Try.prog 47 (#[.string a] ++ #[.pointer (some ⟨G, 0, none⟩)]) W fun e W' => e = .returned (.bool (alikeB a v)) ∧ Below W.heap.size W W' := by
  go_enter Try.func47, Try.ntmps47
  go_wp2_with (go_at_call 48; refine (alike_calls a v ha hv W).mono ?_; rintro e w1 ⟨rfl, hb⟩; have HB := Aside0.mk hb; clear hb)
  go_ret
  exact ⟨rfl, HB.out⟩
set_option maxRecDepth 100000 in
set_option maxHeartbeats 1600000 in
theorem contains_walk (v : ByteArray) (G : Nat) (A0 : Option Addr) (c0 : Nat) (l0 : List ByteArray) (hl : ∀ a ∈ l0, shortB a = true) (hv : shortB v = true) (w : World) (hr0 : Kd.C Kd.string w A0 l0.length l0) (hG : w.cell? ⟨G, 2, none⟩ = some (.string v)) :
    Calls Try.prog 46 #[.slice A0 l0.length c0, .func (.func 47) #[] #[.pointer (some ⟨G, 0, none⟩)]] w fun e w' => e = .returned (.bool (l0.any fun a => alikeB a v)) ∧ Below w.heap.size w w' := by
  have HI := Aside0.mk (index9 47 _ Try.func47 (by kernel_rfl) rfl #[.pointer (some ⟨G, 0, none⟩)] (fun a => alikeB a v) A0 c0 l0 w hr0 (fun x hx W hW => attN1_calls v G x (hl x hx) hv W ((hW.cell (World.block_lt_of_cell? w _ hG)).trans hG)))
  rw [← idxP_any]
  obtain ⟨i, hi⟩ : ∃ i, idxP (fun a => alikeB a v) l0 = i := ⟨_, rfl⟩
  rw [hi] at HI ⊢
  clear hr0 hi
  go_enter Try.func46, Try.ntmps46
  go_wp2_with (go_at_call 84; refine HI.out.mono ?_; rintro e w1 ⟨rfl, hb1⟩; have HB1 := Aside0.mk hb1; clear hb1)
  go_ret
  exact ⟨rfl, HB1.out⟩
theorem wpListIn_append_at {F : Fence} {n : Nat} {P : Program} (w : World) {ops : Array Oper} {rest : List Oper} {o : Oper} {a : Act} {Q : Exit → Act → World → Prop}
    (hg : o.guard = none) (s x : Operand) (t : TypeId) (hop : o.op = Op.call { callee := Callee.builtin Builtin.append, args := #[s, x], argTypes := #[t, t] })
    (base : Nat) (e : TypeId) (i : TypeInfo) (z : Value) (size bytes : Nat) (h1 : P.underlying t = some (.slice e)) (h2 : P.info? e = some i) (h3 : i.zero = some z) (h4 : i.size = size) (h5 : i.bytes = bytes) (h6 : z.cells.size = size) (h7 : 0 < size)
    (v : Value) (k : Nat) (xs : List Value) (hs : a.eval s = v) (hown : w.ownsRow base e size v k xs) (ad : Addr) (m c : Nat) (news : List Value) (hx : a.eval x = .slice (some ad) m c) (hn : news.length = m * size)
    (hc : ∀ j u, news[j]? = some u → w.cell? (ad.add j) = some u) (h1c : ∀ u ∈ news, u.oneCell' = true) (b1 : k + m ≤ maxLen) (b2 : (k + m) * bytes ≤ 140737488355328) (b3 : base ≤ w.heap.size)
    (hK : ∀ v' w', w'.ownsRow base e size v' (k + m) (xs ++ news) → w.grownBy w' v.ownBlock → (v'.ownBlock = v.ownBlock ∨ v'.ownBlock = some w.heap.size) → wpListIn F n P ops Q rest (a.put o.dst v') w') :
    wpListIn F n P ops Q (o :: rest) a w := by
  refine wpListIn_plain hg fun K hK' => ?_
  obtain ⟨v', w', hrun, r1, r2, r3, r4⟩ := run_append_own_at (P := P) w base t o.type e i z size bytes h1 h2 h3 h4 h5 h6 h7 v k xs hown ad m c news hn hc h1c b1 b2 b3
  unfold Oper.wpIn
  refine ⟨?_, ?_⟩
  · simp [Oper.about, hop, resolve, Target.leads, Sem.run_pure]
  · rw [Oper.semAt_plain F _ _ (by rw [hop]; intro c hc'; cases hc')]
    simp [execOp, hop, resolve, invoke, builtin, hs, hx, hrun, Result.andThen]
    exact hK' _ _ (hK v' w' r1 r2 r4)
def addA (acc : List ByteArray) (x : S45) : List ByteArray := if (acc.any fun a => alikeB a x.f2) = true then acc else acc ++ [x.f2]
def attendeesP (l : List S25) : List ByteArray := (attP l).foldl addA []
theorem addA_mem (pre : List S45) : ∀ acc : List ByteArray, (∀ a ∈ acc, shortB a = true) → (∀ x ∈ pre, shortB x.f2 = true) → (∀ a ∈ pre.foldl addA acc, shortB a = true) ∧ (pre.foldl addA acc).length ≤ acc.length + pre.length := by
  induction pre with
  | nil => intro acc h _; exact ⟨h, by simp⟩
  | cons x pre ih =>
    intro acc h hx
    have h1 : ∀ a ∈ addA acc x, shortB a = true := by
      unfold addA
      split
      · exact h
      · intro a ha
        rcases List.mem_append.1 ha with ha | ha
        · exact h a ha
        · rw [List.mem_singleton.1 ha]; exact hx x List.mem_cons_self
    have h2 : (addA acc x).length ≤ acc.length + 1 := by unfold addA; split <;> simp
    obtain ⟨h3, h4⟩ := ih _ h1 (fun y hy => hx y (List.mem_cons_of_mem _ hy))
    exact ⟨h3, by rw [List.foldl_cons, List.length_cons]; omega⟩
def Acc (w : World) (xs : List ByteArray) (W : World) : Prop := ∃ v : Value, (W.heap[w.heap.size + 1]? = some (.cells #[v] 33 (0, 0)) ∧ v.ownBlock ≠ some (w.heap.size + 1)) ∧ W.ownsRow (w.heap.size + 2) 9 1 v xs.length (xs.map Value.string) ∧ Below w.heap.size w W
def OwA (w : World) (X : World) (k : Nat) : Prop := ∃ v : Value, X.heap[w.heap.size + 1]? = some (.cells #[v] 33 (0, 0)) ∧ v.ownBlock = some k
theorem owns_typed {W : World} {base : Nat} {e : TypeId} {size n k : Nat} {v : Value} {xs : List Value} (h : W.ownsRow base e size v n xs) (hv : v.ownBlock = some k) : base ≤ k ∧ k < W.heap.size ∧ ∃ cells, W.heap[k]? = some (.cells cells e (0, 0)) := by
  rcases h.2 with ⟨rfl, _⟩ | ⟨g, cap, cur, rfl, hb, hg, _⟩
  · simp [Value.ownBlock] at hv
  · have : g = k := by simpa [Value.ownBlock] using hv
    subst this
    exact ⟨hb, (Array.getElem?_eq_some_iff.1 hg).1, _, hg⟩
theorem acc_own (w : World) (B : Nat) (hB : w.heap.size + 2 ≤ B) : OwnZ NoZ B (fun (xs : List ByteArray) W => Acc w xs W) := by
  rintro s X Y row ⟨v, ⟨h1, h2⟩, h3, h4⟩ hg hr
  refine ⟨v, ⟨cell_own h1 hg hr, h2⟩, h3.kept hg ?_, below_own h4 (by omega) hg hr⟩
  cases hv : v.ownBlock with
  | none => exact .inl rfl
  | some g =>
    refine .inr (fun e => ?_)
    obtain ⟨_, _, cells, hcl⟩ := owns_typed h3 hv
    rcases hr g e.symm with h | ⟨_, o, ho, hoc⟩
    · exact h
    · rw [hcl] at ho; cases ho; cases hoc
theorem acc_ownS (w : World) (B : Nat) (p : List S45 → List ByteArray) : OwnS NoZ (OwA w) B (fun (pre : List S45) W => Acc w (p pre) W) := by
  refine ⟨?_, ?_⟩
  · rintro s X Y row ⟨v, ⟨h1, h2⟩, h3, h4⟩ hg hr k ⟨v', hv', hk⟩
    rw [cell_own h1 hg hr] at hv'
    have : v = v' := by injection hv' with h; injection h with h; simpa using h
    exact ⟨v, h1, by rw [this]; exact hk⟩
  · rintro s X ⟨v, ⟨h1, h2⟩, h3, h4⟩ k ⟨v', hv', hk⟩
    rw [h1] at hv'
    have : v = v' := by injection hv' with h; injection h with h; simpa using h
    exact (owns_typed h3 (by rw [this]; exact hk)).2.1
theorem acc_at {W w1 : World} {S : Nat} {v u : Value} {t : TypeId} (h1 : W.heap[S]? = some (.cells #[v] 33 (0, 0))) (h2 : v.ownBlock ≠ some S) (hg : (W.alloc (.cells #[u] t)).grownBy w1 v.ownBlock) :
    w1.heap[S]? = some (.cells #[v] 33 (0, 0)) ∧ w1.cell? ⟨S, 0, none⟩ = some v ∧ w1.frozen? ⟨S, 0, none⟩ = false := by
  have h := blk_grown (blk_alloc h1 (.cells #[u] t)) hg (fun e => h2 e.symm)
  exact ⟨h, (blk_cell h 0).trans rfl, blk_frozen h 0⟩
theorem own_succ {w : World} {base : Nat} {e : TypeId} {size n : Nat} {v : Value} {xs : List Value} (h : w.ownsRow base e size v (n + 1) xs) : ∃ g cap, v = .slice (some ⟨g, 0, none⟩) (n + 1) cap := by
  rcases h.2 with ⟨_, h0⟩ | ⟨g, cap, cur, rfl, _⟩
  · omega
  · exact ⟨g, cap, rfl⟩
theorem own_put {W : World} {base : Nat} {e : TypeId} {size n D : Nat} {v : Value} {xs : List Value} {o : Obj} (h : W.ownsRow base e size v n xs) (hD : W.heap[D]? = some (.deferred (some []))) : (W.putObj D o).ownsRow base e size v n xs := by
  refine h.kept (row := some D) (grownBy_putObj' W D o) ?_
  cases hv : v.ownBlock with
  | none => exact .inl rfl
  | some g =>
    refine .inr (fun e => ?_)
    obtain ⟨_, _, cells, hcl⟩ := owns_typed h hv
    injection e with e
    rw [e, hD] at hcl
    cases hcl
theorem acc_step {w W W0 w1 : World} {B : Nat} {v : Value} {acc : List ByteArray} {x : ByteArray} {g cap : Nat} (hb0 : Below W0.heap.size W0 W) (h1 : W.heap[w.heap.size + 1]? = some (.cells #[v] 33 (0, 0))) (h10 : W0.heap[w.heap.size + 1]? = some (.cells #[v] 33 (0, 0))) (h2 : v.ownBlock ≠ some (w.heap.size + 1)) (h3 : W.ownsRow (w.heap.size + 2) 9 1 v acc.length (acc.map Value.string)) (h4 : Below w.heap.size w W)
    (hg : (W.alloc (.cells #[.string x] 9)).grownBy w1 v.ownBlock) (ho : w1.ownsRow (w.heap.size + 2) 9 1 (.slice (some ⟨g, 0, none⟩) (acc.length + 1) cap) (acc.length + 1) (acc.map Value.string ++ [.string x])) (hat : some g = v.ownBlock ∨ some g = some (W.alloc (.cells #[.string x] 9)).heap.size) (hB : w.heap.size + 2 ≤ B) :
    KO (OwA w) B W0 (w1.setCell ⟨w.heap.size + 1, 0, none⟩ (.slice (some ⟨g, 0, none⟩) (acc.length + 1) cap)) ∧ Below w.heap.size W0 (w1.setCell ⟨w.heap.size + 1, 0, none⟩ (.slice (some ⟨g, 0, none⟩) (acc.length + 1) cap)) ∧ Acc w (acc ++ [x]) (w1.setCell ⟨w.heap.size + 1, 0, none⟩ (.slice (some ⟨g, 0, none⟩) (acc.length + 1) cap)) := by
  obtain ⟨S, hS⟩ : ∃ S, w.heap.size + 1 = S := ⟨_, rfl⟩
  have hS2 : w.heap.size + 2 = S + 1 := by omega
  rw [hS2] at h3 ho hB
  unfold Acc OwA
  rw [hS2]
  rw [hS] at h1 h10 h2 ⊢
  obtain ⟨X, hX⟩ : ∃ X, w1.setCell ⟨S, 0, none⟩ (.slice (some ⟨g, 0, none⟩) (acc.length + 1) cap) = X := ⟨_, rfl⟩
  have hsz : w1.heap.size = X.heap.size := by rw [← hX]; simp [World.setCell]
  have hsw : W.heap.size + 1 ≤ w1.heap.size := by have := hg.size; rw [World.size_alloc] at this; omega
  have hs0 := hb0.size
  have far : ∀ k, k ≠ S → X.heap[k]? = w1.heap[k]? := fun k hk => by rw [← hX]; exact Below.heap_setCell _ _ _ k hk
  have hv : ∀ k, v.ownBlock = some k → S + 1 ≤ k := fun k e => (owns_typed h3 e).1
  have old : ∀ k, k < W.heap.size → some k ≠ v.ownBlock → w1.heap[k]? = W.heap[k]? := fun k hk hne => (hg.block k (by rw [World.size_alloc]; omega) hne).trans (Below.heap_alloc _ _ _ hk)
  have hgS : g ≠ S := by have := (owns_typed ho (k := g) (by simp [Value.ownBlock])).1; omega
  have hbl : Below w.heap.size W X := ⟨by rw [← hX]; exact hg.os, by rw [← hX]; exact hg.tape, by rw [← hX]; exact hg.output, by omega, fun k hk => (far k (by omega)).trans (old k (by have := h4.size; omega) (fun e => by have := hv k e.symm; omega))⟩
  have hb1 := (acc_at h1 h2 hg).1
  have hXS : X.heap[S]? = some (.cells #[.slice (some ⟨g, 0, none⟩) (acc.length + 1) cap] 33 (0, 0)) := by rw [← hX]; exact blk_set hb1 0 _
  have hw0 : w.heap.size ≤ W0.heap.size := by have := (Array.getElem?_eq_some_iff.1 h10).1; omega
  rw [hX]
  refine ⟨⟨by omega, fun i o hi ho' hc => ?_, fun k hk => ?_⟩, (hb0.mono hw0).trans hbl, ⟨_, ⟨hXS, by simpa [Value.ownBlock] using hgS⟩, ?_, h4.trans hbl⟩⟩
  · have hil := (Array.getElem?_eq_some_iff.1 ho').1
    rw [far i (by omega), old i (by omega) (fun e => ?_)]
    · exact (hb0.block i hil).trans ho'
    · obtain ⟨_, _, cells, hcl⟩ := owns_typed h3 e.symm
      rw [hb0.block i hil, ho'] at hcl
      injection hcl with hcl
      exact hc (by rw [hcl]; rfl) ⟨v, h10, e.symm⟩
  · obtain ⟨v', hv', hk'⟩ := hk
    rw [hXS] at hv'
    have : Value.slice (some ⟨g, 0, none⟩) (acc.length + 1) cap = v' := by injection hv' with h; injection h with h; simpa using h
    rw [← this] at hk'
    have hgk : g = k := by simpa [Value.ownBlock] using hk'
    subst hgk
    rcases hat with h | h
    · exact .inl ⟨v, h10, h.symm⟩
    · injection h with h
      rw [World.size_alloc] at h
      exact .inr (by omega)
  · rw [List.length_append, List.length_singleton, List.map_append]
    refine ho.kept (row := some S) ⟨by rw [← hX]; rfl, by rw [← hX]; rfl, by rw [← hX]; rfl, by omega, fun k _ hk => far k (fun e => hk (by rw [e]))⟩ (.inr (by simpa [Value.ownBlock] using hgS))
theorem strs_R {W : World} {base : Nat} {v : Value} {xs : List ByteArray} (h : W.ownsRow base 9 1 v xs.length (xs.map Value.string)) : Kd.R Kd.string 9 W base (fun _ => True) v xs := by
  refine ⟨fun _ _ => trivial, _, h, ?_⟩
  refine ⟨by show _ = xs.length * 1; simp, fun j x hj => ?_⟩
  obtain ⟨hjl, hjx⟩ := List.getElem?_eq_some_iff.1 hj
  show (List.map Value.string xs |>.drop (j * 1) |>.take 1) = [.string x]
  rw [Nat.mul_one, List.drop_eq_getElem_cons (by simpa using hjl), List.take_succ_cons, List.take_zero]
  simp [hjx]
set_option maxRecDepth 100000 in
set_option maxHeartbeats 8000000 in
theorem attendees_walk (nm : ByteArray) (A1 : Option Addr) (n1 c1 : Nat) (A : Option Addr) (c : Nat) (l : List S25) (w : World) (hr : Kd.C k25 w A l.length l) (hlim : ∀ x ∈ l, x.f1.length < 2513169434917) (hok : ∀ x ∈ attP l, shortB x.f2 = true) (hln : (attP l).length ≤ 1000000) :
    Calls Try.prog 15 #[.agg #[.string nm, .slice A1 n1 c1, .slice A l.length c]] w fun e w' => ∃ v, e = .returned v ∧ Kd.R Kd.string 9 w' w.heap.size (fun _ => True) v (attendeesP l) ∧ Below w.heap.size w w' := by
  have HR := Aside0.mk hr
  have HLIM := Aside0.mk hlim
  have HOK := Aside0.mk hok
  clear hr hlim hok
  have HV : Aside0 (Acc w [] ((w.alloc (.cells #[.string nm, .slice A1 n1 c1, .slice A l.length c] 25)).alloc (.cells #[.slice none 0 0] 33))) := ⟨.slice none 0 0, ⟨by
      have := heap_alloc_new (w.alloc (.cells #[.string nm, .slice A1 n1 c1, .slice A l.length c] 25)) (.cells #[.slice none 0 0] 33)
      rw [World.size_alloc] at this
      exact this, by simp [Value.ownBlock]⟩, World.ownsRow_nil _ _ _ _, below_alloc (below_alloc (Below.refl _ _) _) _⟩
  refine (callsIn_wide (n := 51)).1 ?_
  refine callsIn_of_wp_marks Try.func15 rfl trivial ?_ rfl
  simp only [Try.ntmps15, List.size_toArray, List.length_cons, List.length_nil, Nat.reduceAdd, Nat.reduceSub, Array.replicate_succ, Array.replicate_zero, List.push_toArray, List.append_toArray, List.nil_append, List.cons_append]
  gi_wp2
  gi_at_call 45
  refine (callsIn_wide.2 (atts_made nm A1 n1 c1 A l.length c _)).mono ?_
  rintro e w4 ⟨rfl, rfl⟩
  gi_wp2
  obtain ⟨V, hVe⟩ : ∃ V, ((w.alloc (.cells #[.string nm, .slice A1 n1 c1, .slice A l.length c] 25)).alloc (.cells #[.slice none 0 0] 33)).alloc (.cells #[.string nm, .slice A1 n1 c1, .slice A l.length c] 25) = V := ⟨_, rfl⟩
  have hz : V.heap.size = w.heap.size + 3 := by rw [← hVe]; simp
  have q1 : V.heap[w.heap.size + 2]? = some (.cells #[.string nm, .slice A1 n1 c1, .slice A l.length c] 25 (0, 0)) := by
    have := heap_alloc_new ((w.alloc (.cells #[.string nm, .slice A1 n1 c1, .slice A l.length c] 25)).alloc (.cells #[.slice none 0 0] 33)) (.cells #[.string nm, .slice A1 n1 c1, .slice A l.length c] 25)
    rw [World.size_alloc, World.size_alloc, hVe] at this
    exact this
  have HOG := Aside0.mk (show Acc w [] V from by
    obtain ⟨v, ⟨a1, a2⟩, a3, a4⟩ := HV.out
    rw [← hVe]
    exact ⟨v, ⟨blk_alloc a1 _, a2⟩, a3.alloc _, below_alloc a4 _⟩)
  try rw [show w.heap.size + 1 + 1 = w.heap.size + 2 from rfl]
  rw [hVe]
  clear hVe HV
  refine range_z (n₀ := w.heap.size) (Z := NoZ) (gf := 82) (lb := #[.pointer (some ⟨w.heap.size + 2, 0, none⟩)]) (En := EnP) (xs := attP l) (Rd := fun _ W => Below w.heap.size w W) (Own := OwA w) rfl (enters_of Try.func82 (by kernel_rfl) rfl) (by omega) (fun b hb => hb.elim)
    (fun l' J Jx W hW hJ hJx hRd hSa hSb hY h0 => (callsIn_wide (n := 51)).1 (att_in A c l w HR.out HLIM.out nm A1 n1 c1 l' (w.heap.size + 2) J Jx W hJ hJx hRd hSa hSb hY ((hW.block (w.heap.size + 2) (by omega)).trans q1) h0)) (fun x ar _ e => by obtain ⟨_, _, e, _⟩ := e; rw [e]; rfl)
    (fun pre W => Acc w (pre.foldl addA []) W)
    (fun pre W h => by obtain ⟨_, _, _, h⟩ := h; exact h)
    (fun cd pre W => False)
    (fun s X Y row hs hg hr => acc_own w V.heap.size (by omega) _ X Y row hs hg hr) (fun cd => fun s X Y row h hg hr => h) (acc_ownS w _ (fun pre => pre.foldl addA [])) (fun cd => ⟨fun _ _ _ _ h => h.elim, fun _ _ h => h.elim⟩) HOG.out
    (fun x a' W => ∃ G Ax cx, w.heap.size + 3 ≤ G ∧ a' = { tmps := #[.agg #[.string nm, .slice A1 n1 c1, .slice A l.length c], .pointer (some ⟨w.heap.size, 0, none⟩), .slice none 0 0, .pointer (some ⟨w.heap.size + 1, 0, none⟩), .pointer (some ⟨G, 0, none⟩), .agg #[.string nm, .slice A1 n1 c1, .slice A l.length c], .func (.func 82) #[] #[.pointer (some ⟨w.heap.size + 2, 0, none⟩)], .agg #[.string x.f0, .slice Ax x.f1.length cx, .string x.f2], undef, undef, undef, undef, undef, undef, undef, undef, undef, undef], defers := [] } ∧ W.heap[G]? = some (.cells #[.string x.f0, .slice Ax x.f1.length cx, .string x.f2] 45 (0, 0)))
    (fun x a' _ X Y row h hg hr => by
      obtain ⟨G, Ax, cx, hG, e, hb⟩ := h
      exact ⟨G, Ax, cx, hG, e, cell_own hb hg hr⟩) ?assign ?body ?done ?stop
  case assign =>
    rintro l' pre x ar W K hI hpx ⟨Ax, cx, rfl, hcx, hCx⟩ hW hK
    gi_wp2
    have hb : Below W.heap.size W (W.alloc (.cells #[.string x.f0, .slice Ax x.f1.length cx, .string x.f2] 45)) := below_alloc (Below.refl _ _) _
    have hst := (acc_ownS w V.heap.size (fun pre => pre.foldl addA [])).below (s := pre) hI hb
    refine hK _ _ ((kf_below hb).koS hst) (hb.mono (by obtain ⟨_, _, _, h⟩ := hI; exact h.size)) (fun _ h => h.elim) ((acc_own w V.heap.size (by omega)).below hI hb) ⟨W.heap.size, Ax, cx, by omega, by simp, heap_alloc_new W _⟩
  case body =>
    rintro l' pre x a' W ⟨v, ⟨h1, h2⟩, h3, h4⟩ hpx hWs ⟨G, Ax, cx, hG, rfl, hb⟩
    have hmem : x ∈ attP l := hpx.subset (List.mem_append_right _ List.mem_cons_self)
    have hsx := HOK.out x hmem
    have hpl := hpx.length_le
    rw [List.length_append, List.length_singleton] at hpl
    obtain ⟨acc, hacc⟩ : ∃ acc, pre.foldl addA [] = acc := ⟨_, rfl⟩
    obtain ⟨hm1, hm2⟩ := addA_mem pre [] (fun a h => by cases h) (fun y hy => HOK.out y (hpx.subset (List.mem_append_left _ hy)))
    rw [hacc] at hm1 hm2 h3
    simp only [List.length_nil] at hm2
    have hRs := strs_R h3
    obtain ⟨Av, cv, ev⟩ := Kd.R_slice hRs
    subst ev
    have hCs := (Kd.R_reads' hRs).2.2
    have HM1 := Aside0.mk hm1
    have HA := Aside0.mk hacc
    have H1 := Aside0.mk h1
    have H2 := Aside0.mk h2
    have H3 := Aside0.mk h3
    have H4 := Aside0.mk h4
    have HCS := Aside0.mk hCs
    have HBX := Aside0.mk hb
    have cS : W.cell? ⟨w.heap.size + 1, 0, none⟩ = some (.slice Av acc.length cv) := (blk_cell h1 0).trans rfl
    have g2 : W.cell? ⟨G, 2, none⟩ = some (.string x.f2) := (blk_cell hb 2).trans rfl
    clear h1 h2 h3 h4 hb hmem hRs hCs hm1 hacc hpx
    gi_wp2
    gi_at_call 46
    refine (CallsIn.inRound l' (callsIn_wide.2 (contains_walk x.f2 G Av cv acc HM1.out hsx W HCS.out g2))).mono ?_
    rintro e w5 ⟨rfl, hb5⟩
    have HB5 := Aside0.mk hb5
    have H15 := Aside0.mk (blk_below H1.out hb5)
    have HX5 := Aside0.mk (blk_below HBX.out hb5)
    clear hb5 cS g2
    cases hq : (acc.any fun a => alikeB a x.f2) with
    | true =>
      have HQ := Aside0.mk hq
      clear hq
      gi_wp2
      have hst := (acc_ownS w V.heap.size (fun pre => pre.foldl addA [])).below (s := pre) ⟨_, ⟨H1.out, H2.out⟩, by rw [HA.out]; exact H3.out, H4.out⟩ HB5.out
      refine ⟨(kf_below HB5.out).koS hst, HB5.out.mono H4.out.size, fun _ h => h.elim, ?_⟩
      show Acc w ((pre ++ [x]).foldl addA []) _
      rw [List.foldl_append, HA.out]
      show Acc w (addA acc x) w5
      unfold addA
      rw [if_pos HQ.out]
      exact (acc_own w V.heap.size (by omega)).below ⟨_, ⟨H1.out, H2.out⟩, H3.out, H4.out⟩ HB5.out
    | false =>
      have HQ := Aside0.mk hq
      clear hq
      have cS : w5.cell? ⟨w.heap.size + 1, 0, none⟩ = some (.slice Av acc.length cv) := (blk_cell H15.out 0).trans rfl
      have g2 : w5.cell? ⟨G, 2, none⟩ = some (.string x.f2) := (blk_cell HX5.out 2).trans rfl
      have h35 : w5.ownsRow (w.heap.size + 2) 9 1 (.slice Av acc.length cv) acc.length (acc.map Value.string) := H3.out.kept (row := none) (gb_below HB5.out) (by cases hv : (Value.slice Av acc.length cv).ownBlock with | none => exact .inl rfl | some g => exact .inr (by simp))
      obtain ⟨i0, hi, hzz⟩ := Option.map_eq_some_iff.1 info9
      simp only [Prod.mk.injEq] at hzz
      obtain ⟨hz0, hz1, hz2⟩ := hzz
      have hWS : w.heap.size + 2 ≤ w5.heap.size := by have := HB5.out.size; omega
      have hvl : (acc.map Value.string).length = acc.length := by simp
      gi_wp2_with (gi_at_builtin; refine wpListIn_append_at _ rfl _ _ 33 rfl (w.heap.size + 2) 9 i0 (.string ⟨#[]⟩) 1 16 Try.underlying33 hi hz0 hz1 hz2 rfl (by decide) _ _ _ rfl (h35.alloc _) ⟨w5.heap.size, 0, none⟩ 1 1 [.string x.f2] rfl rfl (cell_one_new _ _ _) (by simp [Value.oneCell']) (by unfold maxLen; omega) (by omega) (by simp; omega) ?_; intro v' w1 hown' hgrow hat; obtain ⟨g', cap', rfl⟩ := own_succ hown'; obtain ⟨HS1, hc1, hf1⟩ := acc_at H15.out H2.out hgrow; have HO := Aside0.mk hown'; have HG := Aside0.mk hgrow; have HAT := Aside0.mk hat; clear hown' hgrow hat cS)
      obtain ⟨k1, k2, k3⟩ := acc_step (B := V.heap.size) HB5.out H15.out H1.out H2.out h35 (H4.out.trans (HB5.out.mono H4.out.size)) HG.out HO.out (by exact HAT.out) (by omega)
      refine ⟨k1, k2, fun _ h => h.elim, ?_⟩
      show Acc w ((pre ++ [x]).foldl addA []) _
      rw [List.foldl_append, HA.out]
      show Acc w (addA acc x) _
      unfold addA
      rw [if_neg (by rw [HQ.out]; decide)]
      exact k3
  case done =>
    rintro D2 W hD2 ⟨v, ⟨h1, h2⟩, h3, h4⟩ hK
    have cS : W.cell? ⟨w.heap.size + 1, 0, none⟩ = some v := (blk_cell h1 0).trans rfl
    have H3 := Aside0.mk h3
    have H4 := Aside0.mk h4
    clear h1 h2 h3 h4
    gi_wp2
    refine ⟨by simp, .inl ⟨_, _, rfl, run_takeDeferred hK, ?_⟩⟩
    refine ⟨_, results_tmp rfl _ _ _, v, rfl, ?_, H4.out.trans (below_put _ (by omega))⟩
    exact Kd.R_lower (strs_R (own_put H3.out hK)) (Nat.le_add_right _ _)
  case stop =>
    rintro D2 cd pre W hD2 hpre h hK
    exact h.elim
def okF (l : List S25) : Bool := (attP l).all fun x => shortB x.f2
def itip_Attendees.f (k : Nat) (a0_0 : ByteArray) (l0_1 : List (S45)) (l0_2 : List (S25)) : Option (List ByteArray) := if (limB l0_2 && (okF l0_2 && decide ((attP l0_2).length ≤ 1000000))) = true then some (attendeesP l0_2) else none
theorem itip_Attendees.calls (k : Nat) (a0_0 : ByteArray) (A0_1 : Option Addr) (c0_1 : Nat) (l0_1 : List (S45)) (A0_2 : Option Addr) (c0_2 : Nat) (l0_2 : List (S25)) (r : List ByteArray) (w : World) (hr0_1 : Kd.C k45 w A0_1 l0_1.length l0_1) (hc0_1 : l0_1.length ≤ c0_1) (hr0_2 : Kd.C k25 w A0_2 l0_2.length l0_2) (hc0_2 : l0_2.length ≤ c0_2) (h : itip_Attendees.f k a0_0 l0_1 l0_2 = some r) :
    Calls Try.prog 15 #[.agg #[.string a0_0, .slice A0_1 l0_1.length c0_1, .slice A0_2 l0_2.length c0_2]] w fun e w' => ∃ v0_ : Value, e = .returned (v0_) ∧ Kd.R Kd.string 9 w' w.heap.size (fun _ => True) v0_ r ∧ Below w.heap.size w w' := by
  unfold itip_Attendees.f at h
  split at h
  case isFalse => cases h
  rename_i hc
  simp only [Bool.and_eq_true, decide_eq_true_eq] at hc
  obtain rfl := Option.some.inj h
  exact attendees_walk a0_0 A0_1 _ c0_1 A0_2 c0_2 l0_2 w hr0_2 ((limB_iff _).1 hc.1) (List.all_eq_true.1 hc.2.1) hc.2.2
end Go.Proofs.Ytebmbfobmakheaa.PD
namespace Go.Proofs.Ytebmbfobmakheaa.PD
open Go.RowKit Go.Proofs.YtebmbfobmakheaaW.PrintWords Go.Proofs.YtebmbfobmakheaaW.PrintLast Go.Proofs.YtebmbfobmakheaaW.PrintMore
attribute [local go_sem] isSome_setCell max2_int min2_int max_two min_two
set_option linter.unusedVariables false
set_option linter.unusedSimpArgs false
def toldN : List ByteArray := [(⟨#[82, 69, 67, 85, 82, 82, 69, 78, 67, 69, 45, 73, 68]⟩ : ByteArray), (⟨#[68, 84, 83, 84, 65, 82, 84]⟩ : ByteArray), (⟨#[68, 84, 69, 78, 68]⟩ : ByteArray), (⟨#[68, 85, 69]⟩ : ByteArray), (⟨#[68, 85, 82, 65, 84, 73, 79, 78]⟩ : ByteArray), (⟨#[82, 82, 85, 76, 69]⟩ : ByteArray), (⟨#[82, 68, 65, 84, 69]⟩ : ByteArray), (⟨#[69, 88, 68, 65, 84, 69]⟩ : ByteArray)]
def byN (l : List S45) (n : ByteArray) : List S45 := l.filter fun x => x.f0.toList == n.toList
def toldP (l : List S45) : List S45 := toldN.flatMap (byN l)
theorem told_at (W : World) (G : Nat) (hG : W.heap[G]? = some (.cells #[.string (⟨#[82, 69, 67, 85, 82, 82, 69, 78, 67, 69, 45, 73, 68]⟩ : ByteArray), .string (⟨#[68, 84, 83, 84, 65, 82, 84]⟩ : ByteArray), .string (⟨#[68, 84, 69, 78, 68]⟩ : ByteArray), .string (⟨#[68, 85, 69]⟩ : ByteArray), .string (⟨#[68, 85, 82, 65, 84, 73, 79, 78]⟩ : ByteArray), .string (⟨#[82, 82, 85, 76, 69]⟩ : ByteArray), .string (⟨#[82, 68, 65, 84, 69]⟩ : ByteArray), .string (⟨#[69, 88, 68, 65, 84, 69]⟩ : ByteArray)] 9 (0, 0))) (j : Nat) (hj : j < 8) : W.cell? ⟨G, j, none⟩ = some (.string (toldN[j]'hj)) := by
  refine (blk_cell hG j).trans ?_
  match j, hj with
  | 0, _ | 1, _ | 2, _ | 3, _ | 4, _ | 5, _ | 6, _ | 7, _ => rfl
set_option maxRecDepth 100000 in
set_option maxHeartbeats 8000000 in
theorem told_walk (nm : ByteArray) (P : Nat → Prop) (A : Option Addr) (c : Nat) (l : List S45) (A2 : Option Addr) (n2 c2 : Nat) (w : World) (hs : Kd.V k45 45 w w.heap.size P (.slice A l.length c) l) (hlim : l.length < 2513169434917) (hlt : (toldP l).length < 2513169434916) :
    Calls Try.prog 52 #[.agg #[.string nm, .slice A l.length c, .slice A2 n2 c2]] w fun e w' => ∃ v : Value, e = .returned v ∧ Kd.N k45 45 w' w.heap.size (fun k_ => P k_ ∨ w.heap.size ≤ k_) v (toldP l) ∧ Below w.heap.size w w' := by
  have HV := Aside0.mk (show Kd.V k45 45 w w.heap.size (fun k_ => P k_ ∧ k_ < w.heap.size) (.slice A l.length c) l from Kd.V_bound hs)
  clear hs
  have hb0 : Below w.heap.size w (w.alloc (.cells #[.string nm, .slice A l.length c, .slice A2 n2 c2] 25)) := below_alloc (Below.refl _ _) _
  have HLT := Aside0.mk hlt
  obtain ⟨w1, hw1⟩ : ∃ w1, w.alloc (.cells #[.string nm, .slice A l.length c, .slice A2 n2 c2] 25) = w1 := ⟨_, rfl⟩
  obtain ⟨w2, hw2⟩ : ∃ w2, w1.alloc (.cells #[.string (⟨#[82, 69, 67, 85, 82, 82, 69, 78, 67, 69, 45, 73, 68]⟩ : ByteArray), .string (⟨#[68, 84, 83, 84, 65, 82, 84]⟩ : ByteArray), .string (⟨#[68, 84, 69, 78, 68]⟩ : ByteArray), .string (⟨#[68, 85, 69]⟩ : ByteArray), .string (⟨#[68, 85, 82, 65, 84, 73, 79, 78]⟩ : ByteArray), .string (⟨#[82, 82, 85, 76, 69]⟩ : ByteArray), .string (⟨#[82, 68, 65, 84, 69]⟩ : ByteArray), .string (⟨#[69, 88, 68, 65, 84, 69]⟩ : ByteArray)] 9) = w2 := ⟨_, rfl⟩
  have hs1 : w1.heap.size = w.heap.size + 1 := by rw [← hw1]; simp
  have hs2 : w2.heap.size = w.heap.size + 2 := by rw [← hw2]; simp [hs1]
  have hB2 : Below w.heap.size w w2 := by rw [← hw2, ← hw1]; exact below_alloc hb0 _
  have hK1 : w2.heap[w.heap.size]? = some (.cells #[.string nm, .slice A l.length c, .slice A2 n2 c2] 25 (0, 0)) := by rw [← hw2, ← hw1]; exact blk_alloc (heap_alloc_new w _) _
  have hK2 : w2.heap[w.heap.size + 1]? = some (.cells #[.string (⟨#[82, 69, 67, 85, 82, 82, 69, 78, 67, 69, 45, 73, 68]⟩ : ByteArray), .string (⟨#[68, 84, 83, 84, 65, 82, 84]⟩ : ByteArray), .string (⟨#[68, 84, 69, 78, 68]⟩ : ByteArray), .string (⟨#[68, 85, 69]⟩ : ByteArray), .string (⟨#[68, 85, 82, 65, 84, 73, 79, 78]⟩ : ByteArray), .string (⟨#[82, 82, 85, 76, 69]⟩ : ByteArray), .string (⟨#[82, 68, 65, 84, 69]⟩ : ByteArray), .string (⟨#[69, 88, 68, 65, 84, 69]⟩ : ByteArray)] 9 (0, 0)) := by rw [← hw2, ← hs1]; exact heap_alloc_new w1 _
  have HB2 := Aside0.mk hB2
  have HK1 := Aside0.mk hK1
  have HK2 := Aside0.mk hK2
  clear hB2 hK1 hK2 hb0 hlt
  go_enter Try.func52, Try.ntmps52
  go_wp2
  clear hw1 hw2 hs1 hs2
  go_loopw [3, 8] (fun v3 v8 wr => ∃ j : Nat, v8 = .int .i64 j ∧ j ≤ 8 ∧ Aside0 (Kd.N k45 45 wr w.heap.size (fun k_ => P k_ ∨ w.heap.size ≤ k_) v3 ((toldN.take j).flatMap (byN l))) ∧ Aside0 (wr.heap[w.heap.size]? = some (.cells #[.string nm, .slice A l.length c, .slice A2 n2 c2] 25 (0, 0))) ∧ Aside0 (wr.heap[w.heap.size + 1]? = some (.cells #[.string (⟨#[82, 69, 67, 85, 82, 82, 69, 78, 67, 69, 45, 73, 68]⟩ : ByteArray), .string (⟨#[68, 84, 83, 84, 65, 82, 84]⟩ : ByteArray), .string (⟨#[68, 84, 69, 78, 68]⟩ : ByteArray), .string (⟨#[68, 85, 69]⟩ : ByteArray), .string (⟨#[68, 85, 82, 65, 84, 73, 79, 78]⟩ : ByteArray), .string (⟨#[82, 82, 85, 76, 69]⟩ : ByteArray), .string (⟨#[82, 68, 65, 84, 69]⟩ : ByteArray), .string (⟨#[69, 88, 68, 65, 84, 69]⟩ : ByteArray)] 9 (0, 0))) ∧ Aside0 (Below w.heap.size w wr)) (fun _ v8 _ => 8 - (intOf v8).toNat)
  case atStart => exact ⟨0, rfl, by omega, ⟨by rw [List.take_zero]; exact Kd.N_nil _ _ _ _ _⟩, HK1, HK2, HB2⟩
  case round =>
    clear HK1 HK2 HB2
    obtain ⟨j, rfl, hj, HN, HK1, HK2, HB⟩ := hrel
    by_cases hlt : j < 8
    · have hlt0 : decide ((j : Int) < 8) = true := decide_eq_true (by omega)
      have p1 : (0 ≤ (j : Int)) = True := eq_true (by omega)
      have q1 : ((j : Int) < 8) = True := eq_true (by omega)
      have x0 : wr.cell? ⟨w.heap.size, 0, none⟩ = some (.string nm) := (blk_cell HK1.out 0).trans rfl
      have x1 : wr.cell? ⟨w.heap.size, 1, none⟩ = some (.slice A l.length c) := (blk_cell HK1.out 1).trans rfl
      have x2 : wr.cell? ⟨w.heap.size, 2, none⟩ = some (.slice A2 n2 c2) := (blk_cell HK1.out 2).trans rfl
      have xj := told_at wr _ HK2.out j hlt
      have HC := Aside0.mk (comp_Props_walk nm (fun k_ => P k_ ∧ k_ < w.heap.size) A c l A2 n2 c2 (toldN[j]'hlt) wr (Kd.V_below HV.out HB.out) hlim)
      have htk : (toldN.take (j + 1)).flatMap (byN l) = (toldN.take j).flatMap (byN l) ++ byN l (toldN[j]'hlt) := by rw [List.take_add_one, List.getElem?_eq_getElem (show j < toldN.length from hlt), Option.toList_some, List.flatMap_append, List.flatMap_cons, List.flatMap_nil, List.append_nil]; rfl
      have HTK := Aside0.mk htk
      have hle : ((toldN.take (j + 1)).flatMap (byN l)).length ≤ (toldP l).length := by
        unfold toldP
        conv => rhs; rw [← List.take_append_drop (j + 1) toldN, List.flatMap_append, List.length_append]
        exact Nat.le_add_right _ _
      rw [htk, List.length_append] at hle
      have HLE := Aside0.mk hle
      clear htk hle
      obtain ⟨nj, hnj⟩ : ∃ nj, toldN[j]'hlt = nj := ⟨_, rfl⟩
      rw [hnj] at HC HTK HLE xj
      obtain ⟨row, hrow⟩ : ∃ row, byN l nj = row := ⟨_, rfl⟩
      rw [hrow] at HTK HLE
      replace HC : Aside0 (Calls Try.prog 83 #[.agg #[.string nm, .slice A l.length c, .slice A2 n2 c2], .string nj] wr fun e w' => ∃ v : Value, e = .returned v ∧ Kd.N k45 45 w' wr.heap.size (fun k_ => (P k_ ∧ k_ < w.heap.size) ∨ wr.heap.size ≤ k_) v row ∧ Below wr.heap.size wr w') := by rw [← hrow]; exact HC
      obtain ⟨acc, hacc⟩ : ∃ acc, (toldN.take j).flatMap (byN l) = acc := ⟨_, rfl⟩
      rw [hacc] at HN HTK HLE
      clear hacc hrow hnj
      obtain ⟨Av, cv, ev⟩ := Kd.N_slice HN.out
      subst ev
      go_wp2_with (first | (go_at_call 83; refine HC.out.mono ?_; rintro e w5 ⟨v5, rfl, hn5, hb5⟩; obtain ⟨A5, c5, e5⟩ := Kd.N_slice hn5; subst e5; have HN5 := Aside0.mk hn5; have HB5 := Aside0.mk hb5; clear hn5 hb5 x0 x1 x2 xj) | ((with_reducible refine gate_builtin (b := .append) (xs := #[.tmp 12, .tmp 15]) rfl ?_); at_builtin; refine Kd.N_append_rows k45 (w0 := w) w.heap.size rfl (.tmp 12) (.tmp 15) 22 45 (.agg #[(.string ⟨#[]⟩), (.slice none 0 0), (.string ⟨#[]⟩)]) 56 rfl Try.underlying22 info45 rfl (by decide) (by omega) (.slice Av acc.length cv) acc row _ _ _ (fun k_ => P k_ ∨ w.heap.size ≤ k_) (fun k_ => (P k_ ∧ k_ < w.heap.size) ∨ wr.heap.size ≤ k_) rfl rfl ?aO ?aR ?aP ?aF ?aB ?aS ?aL ?_; (case aO => exact Kd.N_below HN.out HB5.out); (case aR => exact Kd.N_F HN5.out); (case aP => exact fun k_ hk => ⟨hk.elim (fun h => .inl h.1) (fun h => .inr (Nat.le_trans HB.out.size h)), fun e_ => hk.elim (fun h => by have := Kd.N_base HN.out k_ e_.symm; have := h.2; omega) (fun h => by have := Kd.N_lt HN.out k_ e_.symm; omega)⟩); (case aF => exact fun k_ hk => .inr (Nat.le_trans (HB.out.trans (HB5.out.mono HB.out.size)).size hk)); (case aB => exact HB.out.trans (HB5.out.mono HB.out.size)); (case aS => exact (HB.out.trans (HB5.out.mono HB.out.size)).size); (case aL => have h1 := HLE.out; have h2 := HLT.out; omega); intro v6 w6 ho hb hg hat; have HO6 := Aside0.mk ho; have HB6 := Aside0.mk hb; have HK16 := Aside0.mk (blk_grown (blk_below HK1.out HB5.out) hg (Kd.N_ne HN.out HK1.out (by decide))); have HK26 := Aside0.mk (blk_grown (blk_below HK2.out HB5.out) hg (Kd.N_ne HN.out HK2.out (by decide))); clear ho hb hg hat))
      go_roundw
      case rel => exact ⟨j + 1, by simp, hlt, ⟨by rw [HTK.out]; exact HO6.out⟩, HK16, HK26, HB6⟩
      case measure => show 8 - ((j : Int) + 1).toNat < 8 - (j : Int).toNat; omega
    · have hlt0 : decide ((j : Int) < 8) = false := decide_eq_false (by omega)
      obtain rfl : j = 8 := by omega
      go_wp2
      go_ret
      exact ⟨_, rfl, HN.out, HB.out⟩
end Go.Proofs.Ytebmbfobmakheaa.PD
namespace Go.Proofs.Ytebmbfobmakheaa.PD
open Go.RowKit Go.Proofs.YtebmbfobmakheaaW.PrintWords Go.Proofs.YtebmbfobmakheaaW.PrintLast Go.Proofs.YtebmbfobmakheaaW.PrintMore
set_option linter.unusedVariables false
set_option linter.unusedSimpArgs false
theorem rd25_at (l : List S25) (i : Nat) (h : i < l.length) : rd_T25 l (i : Int) = l[i] := by simp [rd_T25, h]
theorem rd77_at (l : List S77) (i : Nat) (h : i < l.length) : rd_T77 l (i : Int) = l[i] := by simp [rd_T77, h]
theorem rdB_at (l : List ByteArray) (i : Nat) (h : i < l.length) : rdOf ByteArray.empty l (i : Int) = l[i] := by simp [rdOf, h]
def oth (l : List S25) : List S25 := l.filter fun x => !isTz x.f0
theorem oth_tz {x : S25} {r : List S25} (h : isTz x.f0 = true) : oth (x :: r) = oth r := by unfold oth; rw [List.filter_cons, if_neg (by rw [h]; simp)]
theorem oth_no {x : S25} {r : List S25} (h : isTz x.f0 = false) : oth (x :: r) = x :: oth r := by unfold oth; rw [List.filter_cons, if_pos (by rw [h]; rfl)]
theorem othI_map : ∀ (l m : List S25) (i : Nat), m.drop i = l → (othI i l).map (fun j => m.getD j z25) = oth l
  | [], _, _, _ => rfl
  | x :: r, m, i, h => by
    have hx : m.getD i z25 = x := by
      have : m[i]? = some x := by rw [← List.head?_drop, h]; rfl
      rw [List.getD_eq_getElem?_getD, this]; rfl
    have hr : m.drop (i + 1) = r := by rw [← List.drop_drop, h]; rfl
    have ih := othI_map r m (i + 1) hr
    unfold othI oth
    rw [List.filter_cons]
    split
    · rename_i ht
      rw [if_neg (by rw [ht]; simp)]
      exact ih
    · rename_i ht
      rw [if_pos (by simpa using ht), List.map_cons, hx, ih]
      rfl
theorem oth_map0 (l : List S25) : (othI 0 l).map (fun j => l.getD j z25) = oth l := othI_map l l 0 rfl
theorem attP_oth (l : List S25) : attP l = (oth l).flatMap fun x => byN x.f1 attN := by
  unfold attP
  rw [← oth_map0, List.flatMap_map]
  rfl
theorem othF_len (l : List S25) : (oth l).length ≤ l.length := List.length_filter_le _ _
theorem oth_mem_l {l : List S25} {x : S25} (h : x ∈ oth l) : x ∈ l := (List.mem_filter.1 h).1
def LimL (l : List S25) : Prop := l.length ≤ 1000000000 ∧ ∀ x ∈ l, x.f1.length ≤ 1000000000
theorem LimL.oth {l : List S25} (h : LimL l) : LimL (oth l) := ⟨Nat.le_trans (othF_len l) h.1, fun x hx => h.2 x (oth_mem_l hx)⟩
end Go.Proofs.Ytebmbfobmakheaa.PD
namespace Go.Proofs.Ytebmbfobmakheaa.PD
open Go.RowKit Go.Proofs.YtebmbfobmakheaaW.PrintWords Go.Proofs.YtebmbfobmakheaaW.PrintLast Go.Proofs.YtebmbfobmakheaaW.PrintMore
attribute [local go_sem] isSome_setCell max2_int min2_int max_two min_two max_three min_three max_four min_four
set_option linter.unusedVariables false
set_option linter.unusedSimpArgs false
def almanacref08_Texts.l0 : Nat → List ByteArray → List ByteArray → Int → Option (Bool)
  | 0, _, _, _ => none
  | k + 1, x0, x1, x5 => if x5 < (x0.length : Int) then (if 0 ≤ x5 then (if x5 < (x1.length : Int) then (if (rdOf ByteArray.empty x0 x5).toList = (rdOf ByteArray.empty x1 x5).toList then (almanacref08_Texts.l0 k x0 x1 (wrap64 (x5 + 1))) else (some false)) else (none)) else (none)) else (some true)
def almanacref08_Texts.f (k : Nat) (l0 : List ByteArray) (l1 : List ByteArray) : Option (Bool) := if (l0.length : Int) = (l1.length : Int) then (almanacref08_Texts.l0 k l0 l1 0) else (some false)
set_option maxHeartbeats 8000000 in
set_option maxRecDepth 100000 in
theorem almanacref08_Texts.calls (k : Nat) (A0 : Option Addr) (c0 : Nat) (l0 : List ByteArray) (A1 : Option Addr) (c1 : Nat) (l1 : List ByteArray) (r : Bool) (w : World) (hr0 : Kd.C Kd.string w A0 l0.length l0) (hc0 : l0.length ≤ c0) (hr1 : Kd.C Kd.string w A1 l1.length l1) (hc1 : l1.length ≤ c1) (h : almanacref08_Texts.f k l0 l1 = some r) :
    Calls Try.prog 14 #[.slice A0 l0.length c0, .slice A1 l1.length c1] w fun e w' => e = .returned (.bool r) ∧ Drawn0 w w' := by
  have HR0 := Aside0.mk hr0
  have HC0 := Aside0.mk hc0
  clear hr0 hc0
  have HR1 := Aside0.mk hr1
  have HC1 := Aside0.mk hc1
  clear hr1 hc1
  have H : (if (l0.length : Int) = (l1.length : Int) then (almanacref08_Texts.l0 k l0 l1 0) else (some false)) = some r := h
  clear h
  by_cases c3 : (l0.length : Int) = (l1.length : Int)
  · rw [if_pos c3] at H
    have c3b0 : ((l0.length : Int) == (l1.length : Int)) = true := beq_iff_eq.mpr c3
    have c3b1 : ((l0.length : Int) != (l1.length : Int)) = false := bne_eq_false_iff_eq.mpr c3
    have c3b2 : (l0.length == l1.length) = true := by first | simpa using c3 | (simp at c3 ⊢; omega)
    clear c3
    have H' := Aside0.mk H
    clear H
    go_enter Try.func14, Try.ntmps14
    go_wp2
    repeat (go_quiet (fail); try go_wp2)
    go_loopg [5] k (fun kq v5 w' => ∃ (x5_1 : Int), v5 = .int .i64 x5_1 ∧ Aside0 (almanacref08_Texts.l0 kq l0 l1 x5_1 = some r) ∧ Aside0 (kq ≤ k) ∧ Drawn0 w w')
    case atStart => exact ⟨(0), (by first | rfl | (simp; done) | (simp [*]; done)), H', ⟨Nat.le_refl _⟩, by repeat (first | exact Drawn0.refl _ | apply Drawn0.step)⟩
    case round =>
      clear H'
      try clear c1
      try clear p2
      try clear c3
      try clear c3b0
      try clear c3b1
      try clear c3b2
      obtain ⟨x5_1, rfl, HA, HK1, ⟨m1, rfl⟩⟩ := hrel
      cases gk with
      | zero => exact absurd HA.out (by simp [almanacref08_Texts.l0])
      | succ k1 =>
        have H := HA.out
        clear HA
        simp only [almanacref08_Texts.l0] at H
        by_cases c4 : x5_1 < (l0.length : Int)
        · rw [if_pos c4] at H
          have c4b0 : decide (x5_1 < (l0.length : Int)) = true := decide_eq_true c4
          clear c4
          by_cases c5 : 0 ≤ x5_1
          · rw [if_pos c5] at H
            have c5b0 : decide (0 ≤ x5_1) = true := decide_eq_true c5
            clear c5
            by_cases c6 : x5_1 < (l1.length : Int)
            · rw [if_pos c6] at H
              have c6b0 : decide (x5_1 < (l1.length : Int)) = true := decide_eq_true c6
              clear c6
              by_cases c7 : (rdOf ByteArray.empty l0 x5_1).toList = (rdOf ByteArray.empty l1 x5_1).toList
              · rw [if_pos c7] at H
                have c7b0 : ((rdOf ByteArray.empty l0 x5_1).toList == (rdOf ByteArray.empty l1 x5_1).toList) = true := beq_iff_eq.mpr c7
                have c7b1 : ((rdOf ByteArray.empty l0 x5_1).toList != (rdOf ByteArray.empty l1 x5_1).toList) = false := bne_eq_false_iff_eq.mpr c7
                clear c7
                have H' := Aside0.mk H
                clear H
                have p128 : 0 ≤ (x5_1 : Int) := of_decide_eq_true (by first | (with_reducible assumption) | assumption)
                have q128 : x5_1 < (l0.length : Int) := of_decide_eq_true (by first | (with_reducible assumption) | assumption)
                obtain ⟨ad128, e128, hx128_0⟩ := Kd.at_string HR0.out x5_1 p128 q128
                cases e128
                replace p128 := eq_true p128
                replace q128 := eq_true q128
                have p129 : 0 ≤ (x5_1 : Int) := of_decide_eq_true (by first | (with_reducible assumption) | assumption)
                have q129 : x5_1 < (l1.length : Int) := of_decide_eq_true (by first | (with_reducible assumption) | assumption)
                obtain ⟨ad129, e129, hx129_0⟩ := Kd.at_string HR1.out x5_1 p129 q129
                cases e129
                replace p129 := eq_true p129
                replace q129 := eq_true q129
                go_wp2
                repeat (go_quiet (fail); try go_wp2)
                go_roundg k1
                case measure => have := HK1.out; omega
                case rel => exact ⟨(wrap64 (x5_1 + 1)), (by first | rfl | (simp; done) | (simp [*]; done)), H', ⟨by have := HK1.out; omega⟩, by repeat (first | exact Drawn0.refl _ | apply Drawn0.step)⟩
              · rw [if_neg c7] at H
                have c7b0 : ((rdOf ByteArray.empty l0 x5_1).toList == (rdOf ByteArray.empty l1 x5_1).toList) = false := beq_eq_false_iff_ne.mpr c7
                have c7b1 : ((rdOf ByteArray.empty l0 x5_1).toList != (rdOf ByteArray.empty l1 x5_1).toList) = true := bne_iff_ne.mpr c7
                obtain rfl := Option.some.inj H
                have p128 : 0 ≤ (x5_1 : Int) := of_decide_eq_true (by first | (with_reducible assumption) | assumption)
                have q128 : x5_1 < (l0.length : Int) := of_decide_eq_true (by first | (with_reducible assumption) | assumption)
                obtain ⟨ad128, e128, hx128_0⟩ := Kd.at_string HR0.out x5_1 p128 q128
                cases e128
                replace p128 := eq_true p128
                replace q128 := eq_true q128
                have p129 : 0 ≤ (x5_1 : Int) := of_decide_eq_true (by first | (with_reducible assumption) | assumption)
                have q129 : x5_1 < (l1.length : Int) := of_decide_eq_true (by first | (with_reducible assumption) | assumption)
                obtain ⟨ad129, e129, hx129_0⟩ := Kd.at_string HR1.out x5_1 p129 q129
                cases e129
                replace p129 := eq_true p129
                replace q129 := eq_true q129
                go_wp2
                repeat (go_quiet (fail); try go_wp2)
                go_ret
                exact ⟨by first | rfl | (simp; done) | (simp [*]; done), by repeat (first | exact Drawn0.refl _ | apply Drawn0.step)⟩
            · rw [if_neg c6] at H
              exact absurd H (by simp)
          · rw [if_neg c5] at H
            exact absurd H (by simp)
        · rw [if_neg c4] at H
          have c4b0 : decide (x5_1 < (l0.length : Int)) = false := decide_eq_false c4
          clear c4
          obtain rfl := Option.some.inj H
          go_wp2
          repeat (go_quiet (fail); try go_wp2)
          go_ret
          exact ⟨by first | rfl | (simp; done) | (simp [*]; done), by repeat (first | exact Drawn0.refl _ | apply Drawn0.step)⟩
  · rw [if_neg c3] at H
    have c3b0 : ((l0.length : Int) == (l1.length : Int)) = false := beq_eq_false_iff_ne.mpr c3
    have c3b1 : ((l0.length : Int) != (l1.length : Int)) = true := bne_iff_ne.mpr c3
    have c3b2 : (l0.length == l1.length) = false := by first | simpa using c3 | (simp at c3 ⊢; omega)
    obtain rfl := Option.some.inj H
    go_enter Try.func14, Try.ntmps14
    go_wp2
    repeat (go_quiet (fail); try go_wp2)
    go_ret
    exact ⟨by first | rfl | (simp; done) | (simp [*]; done), by repeat (first | exact Drawn0.refl _ | apply Drawn0.step)⟩
end Go.Proofs.Ytebmbfobmakheaa.PD
namespace Go.Proofs.Ytebmbfobmakheaa.PD
open Go.RowKit Go.Proofs.YtebmbfobmakheaaW.PrintWords Go.Proofs.YtebmbfobmakheaaW.PrintLast Go.Proofs.YtebmbfobmakheaaW.PrintMore
set_option linter.unusedVariables false
set_option linter.unusedSimpArgs false
theorem addA_len (out : List ByteArray) (x : S45) : (addA out x).length ≤ out.length + 1 := by unfold addA; split <;> simp
theorem addA_short {out : List ByteArray} {x : S45} (h : ∀ y ∈ out, shortB y = true) (hx : shortB x.f2 = true) : ∀ y ∈ addA out x, shortB y = true := by
  unfold addA
  split
  · exact h
  · intro y hy
    rcases List.mem_append.1 hy with hy | hy
    · exact h y hy
    · rw [List.mem_singleton.1 hy]; exact hx
def attL (l : List S25) : List S45 := l.flatMap fun x => byN x.f1 attN
end Go.Proofs.Ytebmbfobmakheaa.PD
namespace Go.Proofs.Ytebmbfobmakheaa.PD
open Go.RowKit Go.Proofs.YtebmbfobmakheaaW.PrintWords Go.Proofs.YtebmbfobmakheaaW.PrintLast Go.Proofs.YtebmbfobmakheaaW.PrintMore
attribute [local go_sem] isSome_setCell max2_int min2_int max_two min_two max_three min_three max_four min_four
set_option linter.unusedVariables false
set_option linter.unusedSimpArgs false
def slices_Equal_string_string.l0 : Nat → List ByteArray → List ByteArray → Int → Int → Option (Bool)
  | 0, _, _, _, _ => none
  | k + 1, x0, x1, x12, x13 => if x13 < x12 then (if 0 ≤ x13 then (if x13 < (x0.length : Int) then (if x13 < (x1.length : Int) then (if (rdOf ByteArray.empty x0 x13).toList = (rdOf ByteArray.empty x1 x13).toList then (slices_Equal_string_string.l0 k x0 x1 x12 (wrap64 (x13 + 1))) else (some false)) else (none)) else (none)) else (none)) else (some true)
def slices_Equal_string_string.f (k : Nat) (l0 : List ByteArray) (l1 : List ByteArray) : Option (Bool) := if (l0.length : Int) = (l1.length : Int) then (slices_Equal_string_string.l0 k l0 l1 (l0.length : Int) 0) else (some false)
set_option maxHeartbeats 8000000 in
set_option maxRecDepth 100000 in
theorem slices_Equal_string_string.calls (k : Nat) (A0 : Option Addr) (c0 : Nat) (l0 : List ByteArray) (A1 : Option Addr) (c1 : Nat) (l1 : List ByteArray) (r : Bool) (w : World) (hr0 : Kd.C Kd.string w A0 l0.length l0) (hc0 : l0.length ≤ c0) (hr1 : Kd.C Kd.string w A1 l1.length l1) (hc1 : l1.length ≤ c1) (h : slices_Equal_string_string.f k l0 l1 = some r) :
    Calls Try.prog 87 #[.slice A0 l0.length c0, .slice A1 l1.length c1] w fun e w' => e = .returned (.bool r) ∧ Drawn0 w w' := by
  have HR0 := Aside0.mk hr0
  have HC0 := Aside0.mk hc0
  clear hr0 hc0
  have HR1 := Aside0.mk hr1
  have HC1 := Aside0.mk hc1
  clear hr1 hc1
  have H : (if (l0.length : Int) = (l1.length : Int) then (slices_Equal_string_string.l0 k l0 l1 (l0.length : Int) 0) else (some false)) = some r := h
  clear h
  by_cases c3 : (l0.length : Int) = (l1.length : Int)
  · rw [if_pos c3] at H
    have c3b0 : ((l0.length : Int) == (l1.length : Int)) = true := beq_iff_eq.mpr c3
    have c3b1 : ((l0.length : Int) != (l1.length : Int)) = false := bne_eq_false_iff_eq.mpr c3
    have c3b2 : (l0.length == l1.length) = true := by first | simpa using c3 | (simp at c3 ⊢; omega)
    clear c3
    have H' := Aside0.mk H
    clear H
    go_enter Try.func87, Try.ntmps87
    go_wp2
    repeat (go_quiet (fail); try go_wp2)
    go_loopg [13] k (fun kq v13 w' => ∃ (x13_1 : Int), v13 = .int .i64 x13_1 ∧ Aside0 (slices_Equal_string_string.l0 kq l0 l1 (l0.length : Int) x13_1 = some r) ∧ Aside0 (kq ≤ k) ∧ Drawn0 w w')
    case atStart => exact ⟨(0), (by first | rfl | (simp; done) | (simp [*]; done)), H', ⟨Nat.le_refl _⟩, by repeat (first | exact Drawn0.refl _ | apply Drawn0.step)⟩
    case round =>
      clear H'
      try clear c1
      try clear p2
      try clear c3
      try clear c3b0
      try clear c3b1
      try clear c3b2
      obtain ⟨x13_1, rfl, HA, HK1, ⟨m1, rfl⟩⟩ := hrel
      cases gk with
      | zero => exact absurd HA.out (by simp [slices_Equal_string_string.l0])
      | succ k1 =>
        have H := HA.out
        clear HA
        simp only [slices_Equal_string_string.l0] at H
        by_cases c4 : x13_1 < (l0.length : Int)
        · rw [if_pos c4] at H
          have c4b0 : decide (x13_1 < (l0.length : Int)) = true := decide_eq_true c4
          clear c4
          by_cases c5 : 0 ≤ x13_1
          · rw [if_pos c5] at H
            have c5b0 : decide (0 ≤ x13_1) = true := decide_eq_true c5
            clear c5
            by_cases c6 : x13_1 < (l0.length : Int)
            · rw [if_pos c6] at H
              have c6b0 : decide (x13_1 < (l0.length : Int)) = true := decide_eq_true c6
              clear c6
              by_cases c7 : x13_1 < (l1.length : Int)
              · rw [if_pos c7] at H
                have c7b0 : decide (x13_1 < (l1.length : Int)) = true := decide_eq_true c7
                clear c7
                by_cases c8 : (rdOf ByteArray.empty l0 x13_1).toList = (rdOf ByteArray.empty l1 x13_1).toList
                · rw [if_pos c8] at H
                  have c8b0 : ((rdOf ByteArray.empty l0 x13_1).toList == (rdOf ByteArray.empty l1 x13_1).toList) = true := beq_iff_eq.mpr c8
                  have c8b1 : ((rdOf ByteArray.empty l0 x13_1).toList != (rdOf ByteArray.empty l1 x13_1).toList) = false := bne_eq_false_iff_eq.mpr c8
                  clear c8
                  have H' := Aside0.mk H
                  clear H
                  have p602 : 0 ≤ (x13_1 : Int) := of_decide_eq_true (by first | (with_reducible assumption) | assumption)
                  have q602 : x13_1 < (l0.length : Int) := of_decide_eq_true (by first | (with_reducible assumption) | assumption)
                  obtain ⟨ad602, e602, hx602_0⟩ := Kd.at_string HR0.out x13_1 p602 q602
                  cases e602
                  replace p602 := eq_true p602
                  replace q602 := eq_true q602
                  have p603 : 0 ≤ (x13_1 : Int) := of_decide_eq_true (by first | (with_reducible assumption) | assumption)
                  have q603 : x13_1 < (l1.length : Int) := of_decide_eq_true (by first | (with_reducible assumption) | assumption)
                  obtain ⟨ad603, e603, hx603_0⟩ := Kd.at_string HR1.out x13_1 p603 q603
                  cases e603
                  replace p603 := eq_true p603
                  replace q603 := eq_true q603
                  go_wp2
                  repeat (go_quiet (fail); try go_wp2)
                  go_roundg k1
                  case measure => have := HK1.out; omega
                  case rel => exact ⟨(wrap64 (x13_1 + 1)), (by first | rfl | (simp; done) | (simp [*]; done)), H', ⟨by have := HK1.out; omega⟩, by repeat (first | exact Drawn0.refl _ | apply Drawn0.step)⟩
                · rw [if_neg c8] at H
                  have c8b0 : ((rdOf ByteArray.empty l0 x13_1).toList == (rdOf ByteArray.empty l1 x13_1).toList) = false := beq_eq_false_iff_ne.mpr c8
                  have c8b1 : ((rdOf ByteArray.empty l0 x13_1).toList != (rdOf ByteArray.empty l1 x13_1).toList) = true := bne_iff_ne.mpr c8
                  obtain rfl := Option.some.inj H
                  have p602 : 0 ≤ (x13_1 : Int) := of_decide_eq_true (by first | (with_reducible assumption) | assumption)
                  have q602 : x13_1 < (l0.length : Int) := of_decide_eq_true (by first | (with_reducible assumption) | assumption)
                  obtain ⟨ad602, e602, hx602_0⟩ := Kd.at_string HR0.out x13_1 p602 q602
                  cases e602
                  replace p602 := eq_true p602
                  replace q602 := eq_true q602
                  have p603 : 0 ≤ (x13_1 : Int) := of_decide_eq_true (by first | (with_reducible assumption) | assumption)
                  have q603 : x13_1 < (l1.length : Int) := of_decide_eq_true (by first | (with_reducible assumption) | assumption)
                  obtain ⟨ad603, e603, hx603_0⟩ := Kd.at_string HR1.out x13_1 p603 q603
                  cases e603
                  replace p603 := eq_true p603
                  replace q603 := eq_true q603
                  go_wp2
                  repeat (go_quiet (fail); try go_wp2)
                  go_ret
                  exact ⟨by first | rfl | (simp; done) | (simp [*]; done), by repeat (first | exact Drawn0.refl _ | apply Drawn0.step)⟩
              · rw [if_neg c7] at H
                exact absurd H (by simp)
            · rw [if_neg c6] at H
              exact absurd H (by simp)
          · rw [if_neg c5] at H
            exact absurd H (by simp)
        · rw [if_neg c4] at H
          have c4b0 : decide (x13_1 < (l0.length : Int)) = false := decide_eq_false c4
          clear c4
          obtain rfl := Option.some.inj H
          go_wp2
          repeat (go_quiet (fail); try go_wp2)
          go_ret
          exact ⟨by first | rfl | (simp; done) | (simp [*]; done), by repeat (first | exact Drawn0.refl _ | apply Drawn0.step)⟩
  · rw [if_neg c3] at H
    have c3b0 : ((l0.length : Int) == (l1.length : Int)) = false := beq_eq_false_iff_ne.mpr c3
    have c3b1 : ((l0.length : Int) != (l1.length : Int)) = true := bne_iff_ne.mpr c3
    have c3b2 : (l0.length == l1.length) = false := by first | simpa using c3 | (simp at c3 ⊢; omega)
    obtain rfl := Option.some.inj H
    go_enter Try.func87, Try.ntmps87
    go_wp2
    repeat (go_quiet (fail); try go_wp2)
    go_ret
    exact ⟨by first | rfl | (simp; done) | (simp [*]; done), by repeat (first | exact Drawn0.refl _ | apply Drawn0.step)⟩
end Go.Proofs.Ytebmbfobmakheaa.PD
