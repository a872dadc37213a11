/- The law BusyMerges holds of every row of intervals and every moment (the tied card): the three tables of the library that the row lists are tied to the program's text. -/
import Derived.Test.YtdafnjlmkbffeaaDoorBusyMerges2
import Derived.Test.YtdafnjlmkbffeaaDoorBusyMerges1
import Derived.Test.YtdafnjlmkbffeaaDoorWWords
import Derived.Deep.Slices
import Derived.Deep.Fields
import Derived.ChangeArms
import Derived.SizedLaws
import Derived.Test.YtdafnjlmkbffeaaDoorRows
import Derived.WalkKit
import Derived.ProofKit
import Derived.OpenShut
import Derived.ChangeOld
import Derived.Below
import Derived.LaidMore
import Derived.LaidSub
import Derived.Lib.LaidTab
import Derived.MakeChecks
import Derived.Stop.Joined
import Derived.Test.YtdafnjlmkbffeaaDoorTie
import Derived.Test.YtdafnjlmkbffeaaDoorCards
import Derived.SevenTiedAt
/- date.clock, Stamp in the first seconds of 1970. -/
namespace Go.Proofs.YtdafnjlmkbffeaaDoor.PD
open Go.RowKit Go.Shelf Go.Proofs.YtdafnjlmkbffeaaDoorW.PrintWords Go.Proofs.YtdafnjlmkbffeaaDoorW.PrintLast Go.Proofs.YtdafnjlmkbffeaaDoorW.PrintMore
attribute [local go_sem] isSome_setCell max2_int min2_int max_two min_two
set_option linter.unusedVariables false
set_option linter.unusedSimpArgs false
theorem dig_fin : ∀ s : Fin 10, (digB (s.val : Int)).size = 1 ∧ (padB (s.val : Int) 2).size = 2 := by decide +kernel
theorem dig_sz (s : Int) (h0 : 0 ≤ s) (h1 : s ≤ 9) : (digB s).size = 1 ∧ (padB s 2).size = 2 := by
  have := dig_fin ⟨s.toNat, by omega⟩
  rwa [show ((s.toNat : Nat) : Int) = s by omega] at this
theorem padS (s : Int) (h0 : 0 ≤ s) (h1 : s ≤ 9) (w : World) (ht : Tab w) : Calls Tryd.prog 44 #[.int .i64 s, .int .i64 2] w fun e w' => e = .returned (.string (padB s 2)) ∧ Below w.heap.size w w' :=
  padded_calls s 2 w (by omega) (by omega) (by omega) (by have := (dig_sz s h0 h1).1; omega) ht
set_option maxRecDepth 100000 in
set_option maxHeartbeats 1600000 in
theorem clockS (s : Int) (h0 : 0 ≤ s) (h9 : s ≤ 9) (w : World) (ht : Tab w) : Calls Tryd.prog 45 #[.int .i64 s, .string ⟨#[]⟩] w fun e w' => (∃ x : ByteArray, e = .returned (.string x) ∧ x.size ≤ 1000) ∧ Below w.heap.size w w' := by
  have HT := Aside0.mk ht
  clear ht
  obtain ⟨a, ha⟩ : ∃ a, padB 0 2 = a := ⟨_, rfl⟩
  obtain ⟨b, hb⟩ : ∃ b, padB s 2 = b := ⟨_, rfl⟩
  have hsa : a.size = 2 := by rw [← ha]; exact (dig_sz 0 (by omega) (by omega)).2
  have hsb : b.size = 2 := by rw [← hb]; exact (dig_sz s h0 h9).2
  have HA := Aside0.mk (fun W h => (ha ▸ padS 0 (by omega) (by omega) W h : Calls Tryd.prog 44 #[.int .i64 0, .int .i64 2] W fun e w' => e = .returned (.string a) ∧ Below W.heap.size W w'))
  have HBB := Aside0.mk (fun W h => (hb ▸ padS s h0 h9 W h : Calls Tryd.prog 44 #[.int .i64 s, .int .i64 2] W fun e w' => e = .returned (.string b) ∧ Below W.heap.size W w'))
  have t1 : Int.tdiv s 3600 = 0 := by rw [Int.tdiv_eq_ediv_of_nonneg h0]; omega
  have t2 : Int.tdiv s 60 = 0 := by rw [Int.tdiv_eq_ediv_of_nonneg h0]; omega
  have t3 : Int.tmod s 60 = s := by rw [Int.tmod_eq_emod_of_nonneg h0]; omega
  have l1 := eq_false (show ¬ 9223372036854775807 < a.size + a.size by omega)
  have l2 := eq_false (show ¬ 9223372036854775807 < a.size + a.size + b.size by omega)
  have l3 := eq_false (show ¬ 9223372036854775807 < a.size by omega)
  have l4 := eq_false (show ¬ 9223372036854775807 < a.size + 0 + a.size by omega)
  have l5 := eq_false (show ¬ 9223372036854775807 < a.size + 0 + a.size + 0 + b.size by omega)
  clear ha hb
  go_enter Tryd.func45, Tryd.ntmps45
  go_wp2_with (first
    | (go_at_call 44; with_reducible refine (HA.out w HT.out).mono ?_; rintro e w2 ⟨rfl, hb2⟩; have HB2 := Aside0.mk hb2; have HT2 := Aside0.mk (HT.out.below hb2); clear hb2)
    | (go_at_call 44; with_reducible refine (HA.out w2 HT2.out).mono ?_; rintro e w3 ⟨rfl, hb3⟩; have HB3 := Aside0.mk (HB2.out.trans (hb3.mono HB2.out.size)); have HT3 := Aside0.mk (HT2.out.below hb3); clear hb3)
    | (go_at_call 44; with_reducible refine (HBB.out w3 HT3.out).mono ?_; rintro e w4 ⟨rfl, hb4⟩; have HB4 := Aside0.mk (HB3.out.trans (hb4.mono HB3.out.size)); clear hb4))
  go_ret
  have e0 : (⟨#[]⟩ : ByteArray).size = 0 := rfl
  refine ⟨⟨_, rfl, ?_⟩, HB4.out⟩
  simp only [ByteArray.size_append, e0]
  omega
end Go.Proofs.YtdafnjlmkbffeaaDoor.PD
/- date.Stamp, value.TimeText and busy.stamp in the first seconds of 1970. -/
namespace Go.Proofs.YtdafnjlmkbffeaaDoor.PD
open Go.RowKit Go.Shelf Go.Proofs.YtdafnjlmkbffeaaDoorW.PrintWords Go.Proofs.YtdafnjlmkbffeaaDoorW.PrintLast Go.Proofs.YtdafnjlmkbffeaaDoorW.PrintMore
attribute [local go_sem] isSome_setCell max2_int min2_int max_two min_two
set_option linter.unusedVariables false
set_option linter.unusedSimpArgs false
theorem in_fin : ∀ s : Fin 10, date_In.f (s.val : Int) = some true ∧ date_Parts.f (s.val : Int) = some (0, (s.val : Int)) := by decide +kernel
theorem in_at (s : Int) (h0 : 0 ≤ s) (h9 : s ≤ 9) : date_In.f s = some true ∧ date_Parts.f s = some (0, s) := by
  have := in_fin ⟨s.toNat, by omega⟩
  rwa [show ((s.toNat : Nat) : Int) = s by omega] at this
theorem drawn_below {w w' : World} (h : Drawn0 w w') : Below w.heap.size w w' := by
  obtain ⟨n, rfl⟩ := h
  apply pw_below_drewN
  exact Below.refl _ _
theorem inS (s : Int) (h0 : 0 ≤ s) (h9 : s ≤ 9) (w : World) : Calls Tryd.prog 39 #[.int .i64 s] w fun e w' => e = .returned (.bool true) ∧ Below w.heap.size w w' :=
  (date_In.calls s true w (in_at s h0 h9).1).mono fun _ _ h => ⟨h.1, drawn_below h.2⟩
theorem partsS (s : Int) (h0 : 0 ≤ s) (h9 : s ≤ 9) (w : World) : Calls Tryd.prog 37 #[.int .i64 s] w fun e w' => e = .returned (.tuple #[.int .i64 0, .int .i64 s]) ∧ Below w.heap.size w w' :=
  (date_Parts.calls s 0 s w (in_at s h0 h9).2).mono fun _ _ h => ⟨h.1, drawn_below h.2⟩
set_option maxRecDepth 100000 in
set_option maxHeartbeats 1600000 in
theorem stampS (s : Int) (h0 : 0 ≤ s) (h9 : s ≤ 9) (w : World) (ht : Tab w) : Calls Tryd.prog 40 #[.int .i64 s] w fun e w' => (∃ x : ByteArray, e = .returned (.string x) ∧ x.size ≤ 3000) ∧ Below w.heap.size w w' := by
  have HT := Aside0.mk ht
  clear ht
  have HI := Aside0.mk (inS s h0 h9 w)
  have HP := Aside0.mk (partsS s h0 h9)
  have HD := Aside0.mk day0
  have HC := Aside0.mk (clockS s h0 h9)
  have ea : (⟨#[84]⟩ : ByteArray).size = 1 := rfl
  go_enter Tryd.func40, Tryd.ntmps40
  go_wp2_with (first
    | (go_at_call 39; with_reducible refine HI.out.mono ?_; rintro e w1 ⟨rfl, hb1⟩; have HB1 := Aside0.mk hb1; have HT1 := Aside0.mk (HT.out.below hb1); clear hb1)
    | (go_at_call 37; with_reducible refine (HP.out w1).mono ?_; rintro e w2 ⟨rfl, hb2⟩; have HB2 := Aside0.mk (HB1.out.trans (hb2.mono HB1.out.size)); have HT2 := Aside0.mk (HT1.out.below hb2); clear hb2)
    | (go_at_call 38; with_reducible refine (HD.out w2 HT2.out).mono ?_; rintro e w3 ⟨⟨x, rfl, hx⟩, hb3⟩; have HB3 := Aside0.mk (HB2.out.trans (hb3.mono HB2.out.size)); have HT3 := Aside0.mk (HT2.out.below hb3); have l1 := eq_false (show ¬ 9223372036854775807 < x.size + 1 by omega); clear hb3)
    | (go_at_call 45; with_reducible refine (HC.out w3 HT3.out).mono ?_; rintro e w4 ⟨⟨y, rfl, hy⟩, hb4⟩; have HB4 := Aside0.mk (HB3.out.trans (hb4.mono HB3.out.size)); have l2 := eq_false (show ¬ 9223372036854775807 < x.size + 1 + y.size by omega); clear hb4))
  go_ret
  refine ⟨⟨_, rfl, ?_⟩, HB4.out⟩
  simp only [ByteArray.size_append, ea]
  omega
end Go.Proofs.YtdafnjlmkbffeaaDoor.PD
/- value.TimeText and busy.stamp in the first seconds of 1970. -/
namespace Go.Proofs.YtdafnjlmkbffeaaDoor.PD
open Go.RowKit Go.Shelf Go.Proofs.YtdafnjlmkbffeaaDoorW.PrintWords Go.Proofs.YtdafnjlmkbffeaaDoorW.PrintLast Go.Proofs.YtdafnjlmkbffeaaDoorW.PrintMore
attribute [local go_sem] isSome_setCell max2_int min2_int max_two min_two
set_option linter.unusedVariables false
set_option linter.unusedSimpArgs false
set_option maxRecDepth 100000 in
set_option maxHeartbeats 1600000 in
theorem textS (s : Int) (h0 : 0 ≤ s) (h9 : s ≤ 9) (w : World) (ht : Tab w) : Calls Tryd.prog 31 #[.agg #[.int .i64 s, .bool true, .bool false]] w fun e w' => (∃ x : ByteArray, e = .returned (.string x) ∧ x.size ≤ 4000) ∧ Below w.heap.size w w' := by
  have hb0 := below_alloc (Below.refl w.heap.size w) (.cells #[.int .i64 s, .bool true, .bool false] 63)
  have HT0 := Aside0.mk (ht.below hb0)
  have HB0 := Aside0.mk hb0
  have hbk := heap_alloc_new w (.cells #[.int .i64 s, .bool true, .bool false] 63)
  have HI := Aside0.mk (inS s h0 h9)
  have HP := Aside0.mk (partsS s h0 h9 (w.alloc (.cells #[.int .i64 s, .bool true, .bool false] 63)))
  have HS := Aside0.mk (stampS s h0 h9)
  have HK := Aside0.mk hbk
  clear ht hb0 hbk
  go_enter Tryd.func31, Tryd.ntmps31
  go_wp2_with (first
    | (go_at_call 37; refine HP.out.mono ?_; rintro e w1 ⟨rfl, hb1⟩; have HB1 := Aside0.mk (HB0.out.trans (hb1.mono HB0.out.size)); have HT1 := Aside0.mk (HT0.out.below hb1); have hk1 := blk_below HK.out hb1; have c0 : w1.cell? ⟨w.heap.size, 0, none⟩ = some (.int .i64 s) := (blk_cell hk1 0).trans rfl; have c1 : w1.cell? ⟨w.heap.size, 1, none⟩ = some (.bool true) := (blk_cell hk1 1).trans rfl; have c2 : w1.cell? ⟨w.heap.size, 2, none⟩ = some (.bool false) := (blk_cell hk1 2).trans rfl; have HK1 := Aside0.mk hk1; clear hb1 hk1)
    | (go_at_call 39; with_reducible refine (HI.out w1).mono ?_; rintro e w2 ⟨rfl, hb2⟩; have HB2 := Aside0.mk (HB1.out.trans (hb2.mono HB1.out.size)); have HT2 := Aside0.mk (HT1.out.below hb2); have hk2 := blk_below HK1.out hb2; have d0 : w2.cell? ⟨w.heap.size, 0, none⟩ = some (.int .i64 s) := (blk_cell hk2 0).trans rfl; clear hb2 hk2 c0 c1 c2)
    | (go_at_call 40; with_reducible refine (HS.out w2 HT2.out).mono ?_; rintro e w3 ⟨⟨x, rfl, hx⟩, hb3⟩; have HB3 := Aside0.mk (HB2.out.trans (hb3.mono HB2.out.size)); have l1 := eq_false (show ¬ 9223372036854775807 < x.size + 1 by omega); clear hb3))
  go_ret
  have ea : (⟨#[90]⟩ : ByteArray).size = 1 := rfl
  refine ⟨⟨_, rfl, ?_⟩, HB3.out⟩
  simp only [ByteArray.size_append, ea]
  omega
set_option maxRecDepth 100000 in
set_option maxHeartbeats 1600000 in
theorem busyS (s : Int) (h0 : 0 ≤ s) (h9 : s ≤ 9) (w : World) (ht : Tab w) : Calls Tryd.prog 20 #[.int .i64 s] w fun e w' => (∃ x : ByteArray, e = .returned (.string x) ∧ x.size ≤ 4000) ∧ Below w.heap.size w w' := by
  have HX := Aside0.mk (textS s h0 h9 w ht)
  clear ht
  go_enter Tryd.func20, Tryd.ntmps20
  go_wp2_with (go_at_call 31; refine HX.out.mono ?_; rintro e w1 ⟨⟨x, rfl, hx⟩, hb1⟩; have HB1 := Aside0.mk hb1; clear hb1)
  go_ret
  exact ⟨⟨_, rfl, hx⟩, HB1.out⟩
end Go.Proofs.YtdafnjlmkbffeaaDoor.PD
/- busy.Comp's closure: a property of a name and a value. -/
namespace Go.Proofs.YtdafnjlmkbffeaaDoor.PD
open Go.RowKit Go.Shelf Go.Proofs.YtdafnjlmkbffeaaDoorW.PrintWords Go.Proofs.YtdafnjlmkbffeaaDoorW.PrintLast Go.Proofs.YtdafnjlmkbffeaaDoorW.PrintMore
attribute [local go_sem] isSome_setCell
set_option linter.unusedVariables false
set_option linter.unusedSimpArgs false
set_option maxRecDepth 100000 in
set_option maxHeartbeats 1600000 in
theorem prop_calls (a b : ByteArray) (w : World) : Calls Tryd.prog 19 #[.string a, .string b] w fun e w' => e = .returned (.agg #[.string a, .slice none 0 0, .string b]) ∧ Below w.heap.size w w' := by
  go_enter Tryd.func19, Tryd.ntmps19
  go_wp2
  refine bodyPost_ret (results_cell_row rfl _ _ w.heap.size 46 #[.string a, .slice none 0 0, .string b] (0, 0) _ rfl ?blk Tryd.underlying46 rfl (by kernel_rfl)) rfl ?_
  case blk => exact heap_alloc_new w _
  exact ⟨rfl, below_alloc (Below.refl _ _) _⟩
end Go.Proofs.YtdafnjlmkbffeaaDoor.PD
/- busy.Comp, on moments in the first seconds of 1970: that one component with one component in it comes back. -/
namespace Go.Proofs.YtdafnjlmkbffeaaDoor.PD
open Go.RowKit Go.Shelf Go.Proofs.YtdafnjlmkbffeaaDoorW.PrintWords Go.Proofs.YtdafnjlmkbffeaaDoorW.PrintLast Go.Proofs.YtdafnjlmkbffeaaDoorW.PrintMore
attribute [local go_sem] isSome_setCell
set_option linter.unusedVariables false
set_option linter.unusedSimpArgs false
abbrev RES : Obj := .cells #[.string ⟨#[]⟩, .slice none 0 0, .slice none 0 0] 37
abbrev FB : Value := .string ⟨#[86, 70, 82, 69, 69, 66, 85, 83, 89]⟩
/-- The component that is being made: its cells at k, its properties a row of its own. -/
structure AtC (wR W : World) (k : Nat) (vp v1 : Value) (n : Nat) (inner : List Value) : Prop where
  bel : Below wR.heap.size wR W
  blk : W.heap[k]? = some (.cells #[FB, vp, .slice none 0 0] 37)
  row : W.ownsRow wR.heap.size 46 3 v1 n inner
  ne : v1.ownBlock ≠ some k
  le : wR.heap.size ≤ k
section
variable {wR W W' : World} {k n : Nat} {vp v1 : Value} {inner : List Value}
theorem AtC.tab (h : AtC wR W k vp v1 n inner) (ht : Tab wR) : Tab W := ht.below h.bel
theorem grown_below (hb : Below W.heap.size W W') : W.grownBy W' none := ⟨hb.os, hb.tape, hb.output, hb.size, fun k hk _ => hb.block k hk⟩
theorem AtC.below (h : AtC wR W k vp v1 n inner) (hb : Below W.heap.size W W') : AtC wR W' k vp v1 n inner := by
  refine ⟨h.bel.trans (hb.mono h.bel.size), blk_below h.blk hb, h.row.kept (grown_below hb) ?_, h.ne, h.le⟩
  cases hv : v1.ownBlock with
  | none => exact Or.inl rfl
  | some g => exact Or.inr (by simp)
theorem AtC.drew (h : AtC wR W k vp v1 n inner) : AtC wR W.drew k vp v1 n inner := h.below (below_drew (Below.refl _ _))
theorem AtC.alloc (h : AtC wR W k vp v1 n inner) (o : Obj) : AtC wR (W.alloc o) k vp v1 n inner := h.below (below_alloc (Below.refl _ _) o)
theorem AtC.append {v2 : Value} {xs : List Value} (h : AtC wR W k vp v1 n inner) (hown : W'.ownsRow wR.heap.size 46 3 v2 (n + 1) xs) (hb : Below wR.heap.size wR W') (hg : W.grownBy W' v1.ownBlock) (hat : v2.ownBlock = v1.ownBlock ∨ ∃ b, v2.ownBlock = some b ∧ W.heap.size ≤ b) : AtC wR W' k vp v2 (n + 1) xs := by
  refine ⟨hb, blk_grown h.blk hg (fun e => h.ne e.symm), hown, ?_, h.le⟩
  rcases hat with e | ⟨b, e, hb⟩
  · rw [e]; exact h.ne
  · rw [e]
    intro e'
    cases e'
    exact absurd (blk_lt h.blk) (by omega)
theorem AtC.stored (h : AtC wR W k vp v1 n inner) : AtC wR (W.setCell ⟨k, 1, none⟩ v1) k v1 v1 n inner := by
  refine ⟨h.bel.setCell h.le _, blk_set h.blk 1 v1, h.row.kept (row := some k) ⟨rfl, rfl, rfl, by simp [World.setCell], fun q _ hq => Below.heap_setCell _ _ _ _ (fun e => hq (by rw [e]))⟩ (Or.inr h.ne), h.ne, h.le⟩
end
/-- What is read while the operations' order is open. -/
def HeldC (k : Nat) (vp : Value) (gi : Nat) (x y : Int) (w' : World) : Prop := w'.cell? ⟨k, 1, none⟩ = some vp ∧ w'.cell? ⟨gi, 0, none⟩ = some (.int .i64 x) ∧ w'.cell? ⟨gi, 1, none⟩ = some (.int .i64 y)
theorem held_c {wR W : World} {k n gi : Nat} {vp v1 : Value} {inner : List Value} {x y z : Int} (h : AtC wR W k vp v1 n inner) (hi : W.heap[gi]? = some (.cells #[.int .i64 x, .int .i64 y, .int .i64 z] 26)) : HeldC k vp gi x y W :=
  ⟨(blk_cell h.blk 1).trans rfl, (blk_cell hi 0).trans rfl, (blk_cell hi 1).trans rfl⟩
def Held8 (k : Nat) (vp : Value) (w' : World) : Prop := w'.cell? ⟨k, 0, none⟩ = some FB ∧ w'.cell? ⟨k, 1, none⟩ = some vp ∧ w'.cell? ⟨k, 2, none⟩ = some (.slice none 0 0)
theorem held_8 {wR W : World} {k n : Nat} {vp v1 : Value} {inner : List Value} (h : AtC wR W k vp v1 n inner) : Held8 k vp W :=
  ⟨(blk_cell h.blk 0).trans rfl, (blk_cell h.blk 1).trans rfl, (blk_cell h.blk 2).trans rfl⟩
/-- A call of a function value that has captured nothing. -/
theorem goesV_ {P : Program} {ops : Array Oper} {Q : Exit → Act → World → Prop} {oi : Oper} {N : Option Tmp} {a : Act} {w : World} {K : Act → World → Prop} {f : FuncId} {fn : Func} {xs : Array Operand} {ts : Array TypeId} {c : Operand} (hf : P.funcs[f]? = some fn) (hname : (fn.name == "runtime.NumGoroutine") = false) (hb : fn.body.isSome = true) (args : Array Value)
    (hw : Region.wanted oi (yielded ops a.tmps) = true) (hN : oi.dst = N) (hop : oi.op = .call { callee := .value c, args := xs, argTypes := ts }) (hc : a.eval c = .func (.func f) #[] #[]) (hargs : xs.map a.eval = args)
    (h : Calls P f args w fun e w' => ∃ v, e = .returned v ∧ K (a.put N v) w') : if Region.wanted oi (yielded ops a.tmps) = true then Oper.wp P oi a w K Q else K (a.put N undef) w := by
  refine call_ f args hw hN ?_ h
  have he := enters_ hf hname hb args w
  unfold execOp
  simp [hop, resolve, Deferred.ofValue, invoke, hc, hargs, he]
set_option maxRecDepth 100000 in
set_option maxHeartbeats 16000000 in
theorem comp_calls (A : Option Addr) (c : Nat) (l : List S26) (w : World) (hr : Kd.C k26 w A l.length l) (hin : ∀ x ∈ l, (0 ≤ x.f0 ∧ x.f0 ≤ 9) ∧ (0 ≤ x.f1 ∧ x.f1 ≤ 9)) (hlen : l.length ≤ 100) (ht : Tab w) :
    Calls Tryd.prog 14 #[.slice A l.length c, .int .i64 0, .int .i64 9] w fun e w' => (∃ (nm : ByteArray) (v : Value) (g : Nat), e = .returned (.agg #[.string nm, v, .slice (some ⟨g, 0, none⟩) 1 1])) ∧ Below w.heap.size w w' := by
  have hb0 := below_alloc (Below.refl w.heap.size w) (.cells #[.string ⟨#[]⟩, .slice none 0 0, .slice none 0 0] 37)
  have HT0 := Aside0.mk (ht.below hb0)
  have HB0 := Aside0.mk hb0
  have HBR := Aside0.mk (Below.refl (w.alloc RES).heap.size (w.alloc RES))
  have HR := Aside0.mk hr
  have HIN := Aside0.mk hin
  have H0 := Aside0.mk (busyS 0 (by omega) (by omega))
  have H9 := Aside0.mk (busyS 9 (by omega) (by omega))
  clear hb0 ht hr hin
  go_enter Tryd.func14, Tryd.ntmps14
  go_wp2_with (first
    | (go_at_call 20; with_reducible refine (H0.out (w.alloc RES) HT0.out).mono ?_; rintro e w1 ⟨⟨x, rfl, hx⟩, hb1⟩; have HB1 := Aside0.mk (HBR.out.trans (hb1.mono HBR.out.size)); have HT1 := Aside0.mk (HT0.out.below hb1); clear hb1)
    | (go_at_call 19; with_reducible refine (prop_calls _ x w1).mono ?_; rintro e w2 ⟨rfl, hb2⟩; have HB2 := Aside0.mk (HB1.out.trans (hb2.mono HB1.out.size)); have HT2 := Aside0.mk (HT1.out.below hb2); clear hb2)
    | (go_at_call 20; with_reducible refine (H9.out w2 HT2.out).mono ?_; rintro e w3 ⟨⟨y, rfl, hy⟩, hb3⟩; have HB3 := Aside0.mk (HB2.out.trans (hb3.mono HB2.out.size)); have HT3 := Aside0.mk (HT2.out.below hb3); clear hb3)
    | (go_at_call 19; with_reducible refine (prop_calls _ y w3).mono ?_; rintro e w4 ⟨rfl, hb4⟩; have HB4 := Aside0.mk (HB3.out.trans (hb4.mono HB3.out.size)); have HT4 := Aside0.mk (HT3.out.below hb4); clear hb4))
  go_loopw [23] (fun v wr => ∃ (j n : Nat) (vp : Value) (inner : List Value), v = .int .i64 (j : Int) ∧ j ≤ l.length ∧ Aside0 (n = j + 2) ∧ Aside0 (AtC (w.alloc RES) wr (w4.heap.size + 1) vp vp n inner)) (fun v _ => l.length - (intOf v).toNat)
  case atStart =>
    refine ⟨0, 2, .slice (some ⟨w4.heap.size, 0, none⟩) 2 2, [.string ⟨#[68, 84, 83, 84, 65, 82, 84]⟩, .slice none 0 0, .string x, .string ⟨#[68, 84, 69, 78, 68]⟩, .slice none 0 0, .string y], rfl, Nat.zero_le _, ⟨rfl⟩, ⟨⟨?_, ?_, ?_, ?_, ?_⟩⟩⟩
    · exact (HB4.out.alloc HB4.out.size _).alloc (Nat.le_trans HB4.out.size (by simp)) _
    · have hsz : ∀ o : Obj, (w4.alloc o).heap.size = w4.heap.size + 1 := fun o => by simp
      rw [← hsz (.cells #[.string ⟨#[68, 84, 83, 84, 65, 82, 84]⟩, .slice none 0 0, .string x, .string ⟨#[68, 84, 69, 78, 68]⟩, .slice none 0 0, .string y] 46)]
      exact heap_alloc_new _ _
    · exact (World.ownsRow_lit w4 _ 2 HB4.out.size (by decide) rfl).alloc _
    · simp [Value.ownBlock]
    · exact Nat.le_succ_of_le HB4.out.size
  case round =>
    obtain ⟨j, n, vp, inner, rfl, hj, HN, HA0⟩ := hrel
    by_cases hlt : j < l.length
    · have hlt0 : decide ((j : Int) < (l.length : Int)) = true := decide_eq_true (by omega)
      obtain ⟨ad, e, hx0, hx1, hx2⟩ := at_T26 HR.out (j : Int) (by omega) (by omega)
      subst e
      have hbw := (HB0.out.trans (HA0.out.bel.mono (by simp) : Below w.heap.size _ _))
      replace hx0 := (hbw.cell (World.block_lt_of_cell? w _ hx0)).trans hx0
      replace hx1 := (hbw.cell (World.block_lt_of_cell? w _ hx1)).trans hx1
      replace hx2 := (hbw.cell (World.block_lt_of_cell? w _ hx2)).trans hx2
      have hget : rd_T26 l (j : Int) = l[j] := by simp [rd_T26, hlt]
      rw [hget] at hx0 hx1 hx2
      simp only [Int.toNat_natCast] at hx0 hx1 hx2
      have hIN := HIN.out l[j] (List.getElem_mem hlt)
      have HS0 := Aside0.mk (busyS l[j].f0 hIN.1.1 hIN.1.2)
      have HS1 := Aside0.mk (busyS l[j].f1 hIN.2.1 hIN.2.2)
      clear hIN hbw
      go_wp2
      obtain ⟨w5, hw5⟩ : ∃ w5, wr.alloc (.cells #[.int .i64 l[j].f0, .int .i64 l[j].f1, .int .i64 l[j].f2] 26) = w5 := ⟨_, rfl⟩
      have HA := Aside0.mk (HA0.out.alloc (.cells #[.int .i64 l[j].f0, .int .i64 l[j].f1, .int .i64 l[j].f2] 26))
      have HI := Aside0.mk (heap_alloc_new wr (.cells #[.int .i64 l[j].f0, .int .i64 l[j].f1, .int .i64 l[j].f2] 26))
      have HV : Aside0 (vp.ownBlock ≠ some wr.heap.size) := ⟨fun e => absurd (HA0.out.row.lt _ e).2 (Nat.lt_irrefl _)⟩
      rw [hw5] at HA HI
      try rw [hw5]
      clear hw5 hx0 hx1 hx2
      refine start_ (n := 16) (S := HeldC (w4.heap.size + 1) vp wr.heap.size l[j].f0 l[j].f1) (ds := [15]) #[false, false, false, false, false, false, false, false, false, false, false, false, false, false, false, false] (by kernel_rfl) rfl rfl ?held0 (fun hHeld => ?_)
      case held0 => exact held_c HA.out.drew HI.out
      have HA5 := Aside0.mk HA.out.drew
      have HI5 := Aside0.mk (show w5.drew.heap[wr.heap.size]? = _ from HI.out)
      refine pure_ (i := 0) (N := some 27) (v := ?_) (a' := ?_) #[true, false, false, false, false, false, false, false, false, false, false, false, false, false, false, false] rfl rfl (by kernel_rfl) (fun _ _ _ h => h) (Or.inl ⟨by rfl, ?_⟩) ?_ ?_
      rotate_left
      · intro w'
        go_simp
        with_reducible rfl
      rotate_left
      · simp only [Act.put, List.setIfInBounds_toArray, List.set_cons_zero, List.set_cons_succ, i64_w, i32_w]
        rfl
      refine take_ (i := 1) (N := some 28) (v := ?_) (a' := ?_) #[true, true, false, false, false, false, false, false, false, false, false, false, false, false, false, false] rfl rfl (by kernel_rfl) (fun _ _ _ h => h) (Or.inl ⟨by rfl, ?_⟩) hHeld ?_ ?_
      rotate_left
      · rintro w' ⟨s0, s1, s2⟩
        go_simp
        with_reducible rfl
      rotate_left
      · simp only [Act.put, List.setIfInBounds_toArray, List.set_cons_zero, List.set_cons_succ, i64_w, i32_w]
        rfl
      refine pure_ (i := 2) (N := some 29) (v := ?_) (a' := ?_) #[true, true, true, false, false, false, false, false, false, false, false, false, false, false, false, false] rfl rfl (by kernel_rfl) (fun _ _ _ h => h) (Or.inl ⟨by rfl, ?_⟩) ?_ ?_
      rotate_left
      · intro w'
        go_simp
        with_reducible rfl
      rotate_left
      · simp only [Act.put, List.setIfInBounds_toArray, List.set_cons_zero, List.set_cons_succ, i64_w, i32_w]
        rfl
      refine pure_ (i := 3) (N := some 30) (v := ?_) (a' := ?_) #[true, true, true, true, false, false, false, false, false, false, false, false, false, false, false, false] rfl rfl (by kernel_rfl) (fun _ _ _ h => h) (Or.inl ⟨by rfl, ?_⟩) ?_ ?_
      rotate_left
      · intro w'
        go_simp
        with_reducible rfl
      rotate_left
      · simp only [Act.put, List.setIfInBounds_toArray, List.set_cons_zero, List.set_cons_succ, i64_w, i32_w]
        rfl
      refine take_ (i := 4) (N := some 31) (v := ?_) (a' := ?_) #[true, true, true, true, true, false, false, false, false, false, false, false, false, false, false, false] rfl rfl (by kernel_rfl) (fun _ _ _ h => h) (Or.inl ⟨by rfl, ?_⟩) hHeld ?_ ?_
      rotate_left
      · rintro w' ⟨s0, s1, s2⟩
        go_simp
        with_reducible rfl
      rotate_left
      · simp only [Act.put, List.setIfInBounds_toArray, List.set_cons_zero, List.set_cons_succ, i64_w, i32_w]
        rfl
      refine pure_ (i := 7) (N := some 34) (v := ?_) (a' := ?_) #[true, true, true, true, true, false, false, true, false, false, false, false, false, false, false, false] rfl rfl (by kernel_rfl) (fun _ _ _ h => h) (Or.inl ⟨by rfl, ?_⟩) ?_ ?_
      rotate_left
      · intro w'
        go_simp
        with_reducible rfl
      rotate_left
      · simp only [Act.put, List.setIfInBounds_toArray, List.set_cons_zero, List.set_cons_succ, i64_w, i32_w]
        rfl
      refine take_ (i := 8) (N := some 35) (v := ?_) (a' := ?_) #[true, true, true, true, true, false, false, true, true, false, false, false, false, false, false, false] rfl rfl (by kernel_rfl) (fun _ _ _ h => h) (Or.inl ⟨by rfl, ?_⟩) hHeld ?_ ?_
      rotate_left
      · rintro w' ⟨s0, s1, s2⟩
        go_simp
        with_reducible rfl
      rotate_left
      · simp only [Act.put, List.setIfInBounds_toArray, List.set_cons_zero, List.set_cons_succ, i64_w, i32_w]
        rfl
      refine one_ (i := 5) (N := some 32) #[true, true, true, true, true, true, false, true, true, false, false, false, false, false, false, false] rfl rfl (by kernel_rfl) (by decide) (fun K hK => ?_)
      refine goes_ Tryd.func20 (by kernel_rfl) rfl #[.int .i64 l[j].f0] (by rfl) rfl rfl (by (try simp only [List.map_toArray, List.map_cons, List.map_nil]); first | done | rfl) ?_
      refine (HS0.out w5.drew (HA5.out.tab HT0.out)).mono ?_
      rintro e w6 ⟨⟨xa, rfl, hxa⟩, hb⟩
      refine ⟨_, rfl, ?_⟩
      have HA6 := Aside0.mk (HA5.out.below hb)
      have HI6 := Aside0.mk (blk_below HI5.out hb)
      clear hb
      refine hK.out _ _ (held_c HA6.out HI6.out) (fun hHeld => ?_)
      clear hK K
      refine norm_ (a' := ?_) ?_ ?_
      rotate_left
      · show Act.put _ (some 32) _ = _
        simp only [Act.put, List.setIfInBounds_toArray, List.set_cons_zero, List.set_cons_succ, i64_w, i32_w]
        rfl
      have s1 := eq_false (show ¬ 9223372036854775807 < xa.size + 1 by omega)
      refine pure_ (i := 6) (N := some 33) (v := ?_) (a' := ?_) #[true, true, true, true, true, true, true, true, true, false, false, false, false, false, false, false] rfl rfl (by kernel_rfl) (fun _ _ _ h => h) (Or.inl ⟨by rfl, ?_⟩) ?_ ?_
      rotate_left
      · intro w'
        go_simp
        with_reducible rfl
      rotate_left
      · simp only [Act.put, List.setIfInBounds_toArray, List.set_cons_zero, List.set_cons_succ, i64_w, i32_w]
        rfl
      refine one_ (i := 9) (N := some 36) #[true, true, true, true, true, true, true, true, true, true, false, false, false, false, false, false] rfl rfl (by kernel_rfl) (by decide) (fun K hK => ?_)
      refine goes_ Tryd.func20 (by kernel_rfl) rfl #[.int .i64 l[j].f1] (by rfl) rfl rfl (by (try simp only [List.map_toArray, List.map_cons, List.map_nil]); first | done | rfl) ?_
      refine (HS1.out w6 (HA6.out.tab HT0.out)).mono ?_
      rintro e w7 ⟨⟨xb, rfl, hxb⟩, hb⟩
      refine ⟨_, rfl, ?_⟩
      have HA7 := Aside0.mk (HA6.out.below hb)
      have HI7 := Aside0.mk (blk_below HI6.out hb)
      clear hb
      refine hK.out _ _ (held_c HA7.out HI7.out) (fun hHeld => ?_)
      clear hK K
      refine norm_ (a' := ?_) ?_ ?_
      rotate_left
      · show Act.put _ (some 36) _ = _
        simp only [Act.put, List.setIfInBounds_toArray, List.set_cons_zero, List.set_cons_succ, i64_w, i32_w]
        rfl
      have s2 := eq_false (show ¬ 9223372036854775807 < (xa ++ (⟨#[47]⟩ : ByteArray)).size + xb.size by have : (⟨#[47]⟩ : ByteArray).size = 1 := rfl; simp only [ByteArray.size_append]; omega)
      have s3 := eq_false (show ¬ 9223372036854775807 < xa.size + 1 + xb.size by omega)
      refine pure_ (i := 10) (N := some 37) (v := ?_) (a' := ?_) #[true, true, true, true, true, true, true, true, true, true, true, false, false, false, false, false] rfl rfl (by kernel_rfl) (fun _ _ _ h => h) (Or.inl ⟨by rfl, ?_⟩) ?_ ?_
      rotate_left
      · intro w'
        go_simp
        with_reducible rfl
      rotate_left
      · simp only [Act.put, List.setIfInBounds_toArray, List.set_cons_zero, List.set_cons_succ, i64_w, i32_w]
        rfl
      refine one_ (i := 11) (N := some 38) #[true, true, true, true, true, true, true, true, true, true, true, true, false, false, false, false] rfl rfl (by kernel_rfl) (by decide) (fun K hK => ?_)
      refine goesV_ Tryd.func19 (by kernel_rfl) rfl #[.string ⟨#[70, 82, 69, 69, 66, 85, 83, 89]⟩, .string (xa ++ ⟨#[47]⟩ ++ xb)] (by rfl) rfl rfl (by rfl) (by (try simp only [List.map_toArray, List.map_cons, List.map_nil]); first | done | rfl) ?_
      refine (prop_calls _ _ w7).mono ?_
      rintro e w8 ⟨rfl, hb⟩
      refine ⟨_, rfl, ?_⟩
      have HA8 := Aside0.mk (HA7.out.below hb)
      have HI8 := Aside0.mk (blk_below HI7.out hb)
      clear hb
      refine hK.out _ _ (held_c HA8.out HI8.out) (fun hHeld => ?_)
      clear hK K
      refine norm_ (a' := ?_) ?_ ?_
      rotate_left
      · show Act.put _ (some 38) _ = _
        simp only [Act.put, List.setIfInBounds_toArray, List.set_cons_zero, List.set_cons_succ, i64_w, i32_w]
        rfl
      refine one_ (i := 12) (N := some 39) #[true, true, true, true, true, true, true, true, true, true, true, true, true, false, false, false] rfl rfl (by kernel_rfl) (by decide) (fun K hK => ?_)
      refine event_step (by rfl) (v := .slice (some ⟨w8.heap.size, 0, none⟩) 1 1) (w1 := w8.alloc (.cells #[.string ⟨#[70, 82, 69, 69, 66, 85, 83, 89]⟩, .slice none 0 0, .string (xa ++ ⟨#[47]⟩ ++ xb)] 46)) (by first | (go_simp; done) | (go_simp; rfl)) ?_
      refine hK.out _ _ (held_c (HA8.out.alloc _) (blk_alloc HI8.out _)) (fun hHeld => ?_)
      clear hK K
      refine norm_ (a' := ?_) ?_ ?_
      rotate_left
      · show Act.put _ (some 39) _ = _
        simp only [Act.put, List.setIfInBounds_toArray, List.set_cons_zero, List.set_cons_succ, i64_w, i32_w]
        rfl
      refine one_ (i := 13) (N := some 40) #[true, true, true, true, true, true, true, true, true, true, true, true, true, true, false, false] rfl rfl (by kernel_rfl) (by decide) (fun K hK => ?_)
      refine step_append_cells (w0 := w.alloc RES) (W := w8) (w.alloc RES).heap.size ?g1 (.tmp 28) (.tmp 39) 34 46 (.agg #[.string ⟨#[]⟩, .slice none 0 0, .string ⟨#[]⟩]) 3 56 ?g2 ?g3 ?g4 ?g5 ?g6 ?g7 vp n inner [.string ⟨#[70, 82, 69, 69, 66, 85, 83, 89]⟩, .slice none 0 0, .string (xa ++ ⟨#[47]⟩ ++ xb)] ?g8 ?g9 ?g10 ?g11 HA8.out.row HA8.out.bel HA8.out.bel.size ?g12 ?_
      case g1 => rfl
      case g2 => rfl
      case g3 => exact Tryd.underlying34
      case g4 => kernel_rfl
      case g5 => rfl
      case g6 => decide
      case g7 => decide
      case g8 => rfl
      case g9 => rfl
      case g10 => rfl
      case g11 => intro u hu; simp only [List.mem_cons, List.not_mem_nil, or_false] at hu; rcases hu with rfl | rfl | rfl <;> rfl
      case g12 => have := HN.out; omega
      intro v1 w9 hown1 hbel1 hgr1 hat1
      obtain ⟨A1, c1, rfl⟩ := own_slice hown1
      have HA9 := Aside0.mk (HA8.out.append hown1 hbel1 hgr1 hat1)
      have HI9 := Aside0.mk (blk_grown HI8.out hgr1 (fun e => absurd (HA8.out.row.lt _ e.symm).2 (by have := HV.out; rw [← e] at this; exact fun _ => this rfl)))
      clear hown1 hbel1 hgr1 hat1
      refine hK.out _ _ (held_c HA9.out HI9.out) (fun hHeld => ?_)
      clear hK K
      refine norm_ (a' := ?_) ?_ ?_
      rotate_left
      · show Act.put _ (some 40) _ = _
        simp only [Act.put, List.setIfInBounds_toArray, List.set_cons_zero, List.set_cons_succ, i64_w, i32_w]
        rfl
      refine pure_ (i := 14) (N := some 41) (v := ?_) (a' := ?_) #[true, true, true, true, true, true, true, true, true, true, true, true, true, true, true, false] rfl rfl (by kernel_rfl) (fun _ _ _ h => h) (Or.inl ⟨by rfl, ?_⟩) ?_ ?_
      rotate_left
      · intro w'
        go_simp
        with_reducible rfl
      rotate_left
      · simp only [Act.put, List.setIfInBounds_toArray, List.set_cons_zero, List.set_cons_succ, i64_w, i32_w]
        rfl
      have hfz := blk_frozen HA9.out.blk 1
      have hcl := (blk_cell HA9.out.blk 1).trans rfl
      refine last_ (i := 15) (N := none) #[true, true, true, true, true, true, true, true, true, true, true, true, true, true, true, true] rfl rfl (by kernel_rfl) (by decide) (fun K hK => ?_)
      refine skip_ (w1 := w9.setCell ⟨w4.heap.size + 1, 1, none⟩ (.slice A1 (n + 1) c1)) (by rfl) rfl ?_ ?_
      · go_simp
      refine hK.out _ _ ?_
      clear hK K hfz hcl
      refine done_ (by kernel_rfl) ?_
      go_wp2
      go_roundw
      case rel =>
        exact ⟨j + 1, n + 1, _, _, by simp, hlt, ⟨by have := HN.out; omega⟩, ⟨HA9.out.stored⟩⟩
      case measure => show l.length - (((j : Int) + 1)).toNat < l.length - ((j : Int)).toNat; omega
    · have hlt0 : decide ((j : Int) < (l.length : Int)) = false := decide_eq_false (by omega)
      have HA9 := Aside0.mk HA0.out.drew
      have HRS := Aside0.mk (show (wr.drew).heap[w.heap.size]? = some RES from (HA0.out.bel.block w.heap.size (by simp)).trans (heap_alloc_new w RES))
      have hbase : w.heap.size < (w.alloc RES).heap.size := by simp
      go_wp2
      refine start_ (n := 9) (S := Held8 (w4.heap.size + 1) vp) (ds := [8]) #[false, false, false, false, false, false, false, false, false] (by kernel_rfl) rfl rfl (held_8 HA9.out) (fun hHeld => ?_)
      obtain ⟨w9, hw9⟩ : ∃ y, wr.drew = y := ⟨_, rfl⟩
      rw [hw9] at HA9 HRS hHeld ⊢
      clear hw9
      refine pure_ (i := 0) (N := some 43) (v := ?_) (a' := ?_) #[true, false, false, false, false, false, false, false, false] rfl rfl (by kernel_rfl) (fun _ _ _ h => h) (Or.inl ⟨by rfl, ?_⟩) ?_ ?_
      rotate_left
      · intro w'
        go_simp
        with_reducible rfl
      rotate_left
      · simp only [Act.put, List.setIfInBounds_toArray, List.set_cons_zero, List.set_cons_succ, i64_w, i32_w]
        rfl
      refine pure_ (i := 2) (N := some 45) (v := ?_) (a' := ?_) #[true, false, true, false, false, false, false, false, false] rfl rfl (by kernel_rfl) (fun _ _ _ h => h) (Or.inl ⟨by rfl, ?_⟩) ?_ ?_
      rotate_left
      · intro w'
        go_simp
        with_reducible rfl
      rotate_left
      · simp only [Act.put, List.setIfInBounds_toArray, List.set_cons_zero, List.set_cons_succ, i64_w, i32_w]
        rfl
      refine take_ (i := 5) (N := some 48) (v := ?_) (a' := ?_) #[true, false, true, false, false, true, false, false, false] rfl rfl (by kernel_rfl) (fun _ _ _ h => h) (Or.inl ⟨by rfl, ?_⟩) hHeld ?_ ?_
      rotate_left
      · rintro w' ⟨s0, s1, s2⟩
        go_simp
        with_reducible rfl
      rotate_left
      · simp only [Act.put, List.setIfInBounds_toArray, List.set_cons_zero, List.set_cons_succ, i64_w, i32_w]
        rfl
      refine two_ (i := 1) (j := 6) (Ni := some 44) (Nj := some 49) #[true, true, true, false, false, true, false, false, false] #[true, false, true, false, false, true, true, false, false] rfl rfl rfl rfl (by kernel_rfl) (by decide) (by decide) (fun K hK => ?_) (fun K hK => ?_)
      · refine goesV_ Tryd.func19 (by kernel_rfl) rfl #[.string ⟨#[86, 69, 82, 83, 73, 79, 78]⟩, .string ⟨#[50, 46, 48]⟩] (by rfl) rfl rfl (by rfl) (by (try simp only [List.map_toArray, List.map_cons, List.map_nil]); first | done | rfl) ?_
        refine (prop_calls _ _ _).mono ?_
        rintro e x0 ⟨rfl, hb⟩
        refine ⟨_, rfl, ?_⟩
        replace HA9 := Aside0.mk (HA9.out.below hb)
        replace HRS := Aside0.mk (blk_below HRS.out hb)
        clear hb
        refine hK.out _ _ (held_8 HA9.out) (fun hHeld => ?_)
        clear hK K
        refine norm_ (a' := ?_) ?_ ?_
        rotate_left
        · show Act.put _ (some 44) _ = _
          simp only [Act.put, List.setIfInBounds_toArray, List.set_cons_zero, List.set_cons_succ, i64_w, i32_w]
          rfl
        refine two_ (i := 3) (j := 6) (Ni := some 46) (Nj := some 49) #[true, true, true, true, false, true, false, false, false] #[true, true, true, false, false, true, true, false, false] rfl rfl rfl rfl (by kernel_rfl) (by decide) (by decide) (fun K hK => ?_) (fun K hK => ?_)
        · refine goesV_ Tryd.func19 (by kernel_rfl) rfl #[.string ⟨#[80, 82, 79, 68, 73, 68]⟩, .string ⟨#[45, 47, 47, 97, 108, 109, 97, 110, 97, 99]⟩] (by rfl) rfl rfl (by rfl) (by (try simp only [List.map_toArray, List.map_cons, List.map_nil]); first | done | rfl) ?_
          refine (prop_calls _ _ _).mono ?_
          rintro e x1 ⟨rfl, hb⟩
          refine ⟨_, rfl, ?_⟩
          replace HA9 := Aside0.mk (HA9.out.below hb)
          replace HRS := Aside0.mk (blk_below HRS.out hb)
          clear hb
          refine hK.out _ _ (held_8 HA9.out) (fun hHeld => ?_)
          clear hK K
          refine norm_ (a' := ?_) ?_ ?_
          rotate_left
          · show Act.put _ (some 46) _ = _
            simp only [Act.put, List.setIfInBounds_toArray, List.set_cons_zero, List.set_cons_succ, i64_w, i32_w]
            rfl
          refine two_ (i := 4) (j := 6) (Ni := some 47) (Nj := some 49) #[true, true, true, true, true, true, false, false, false] #[true, true, true, true, false, true, true, false, false] rfl rfl rfl rfl (by kernel_rfl) (by decide) (by decide) (fun K hK => ?_) (fun K hK => ?_)
          · refine event_step (by rfl) (v := .slice (some ⟨x1.heap.size, 0, none⟩) 2 2) (w1 := x1.alloc (.cells #[.string ⟨#[86, 69, 82, 83, 73, 79, 78]⟩, .slice none 0 0, .string ⟨#[50, 46, 48]⟩, .string ⟨#[80, 82, 79, 68, 73, 68]⟩, .slice none 0 0, .string ⟨#[45, 47, 47, 97, 108, 109, 97, 110, 97, 99]⟩] 46)) (by first | (go_simp; done) | (go_simp; rfl)) ?_
            replace HA9 := Aside0.mk (HA9.out.alloc (.cells #[.string ⟨#[86, 69, 82, 83, 73, 79, 78]⟩, .slice none 0 0, .string ⟨#[50, 46, 48]⟩, .string ⟨#[80, 82, 79, 68, 73, 68]⟩, .slice none 0 0, .string ⟨#[45, 47, 47, 97, 108, 109, 97, 110, 97, 99]⟩] 46))
            replace HRS := Aside0.mk (blk_alloc HRS.out (.cells #[.string ⟨#[86, 69, 82, 83, 73, 79, 78]⟩, .slice none 0 0, .string ⟨#[50, 46, 48]⟩, .string ⟨#[80, 82, 79, 68, 73, 68]⟩, .slice none 0 0, .string ⟨#[45, 47, 47, 97, 108, 109, 97, 110, 97, 99]⟩] 46))
            obtain ⟨y2, hy2⟩ : ∃ y, x1.alloc (.cells #[.string ⟨#[86, 69, 82, 83, 73, 79, 78]⟩, .slice none 0 0, .string ⟨#[50, 46, 48]⟩, .string ⟨#[80, 82, 79, 68, 73, 68]⟩, .slice none 0 0, .string ⟨#[45, 47, 47, 97, 108, 109, 97, 110, 97, 99]⟩] 46) = y := ⟨_, rfl⟩
            rw [hy2] at HA9 HRS ⊢
            clear hy2
            refine hK.out _ _ (held_8 HA9.out) (fun hHeld => ?_)
            clear hK K
            refine norm_ (a' := ?_) ?_ ?_
            rotate_left
            · show Act.put _ (some 47) _ = _
              simp only [Act.put, List.setIfInBounds_toArray, List.set_cons_zero, List.set_cons_succ, i64_w, i32_w]
              rfl
            refine one_ (i := 6) (N := some 49) #[true, true, true, true, true, true, true, false, false] rfl rfl (by kernel_rfl) (by decide) (fun K hK => ?_)
            refine event_step (by rfl) (v := .slice (some ⟨y2.heap.size, 0, none⟩) 1 1) (w1 := y2.alloc (.cells #[FB, vp, .slice none 0 0] 37)) (by first | (go_simp; done) | (go_simp; rfl)) ?_
            replace HA9 := Aside0.mk (HA9.out.alloc (.cells #[FB, vp, .slice none 0 0] 37))
            replace HRS := Aside0.mk (blk_alloc HRS.out (.cells #[FB, vp, .slice none 0 0] 37))
            obtain ⟨y3, hy3⟩ : ∃ y, y2.alloc (.cells #[FB, vp, .slice none 0 0] 37) = y := ⟨_, rfl⟩
            rw [hy3] at HA9 HRS ⊢
            clear hy3
            refine hK.out _ _ (held_8 HA9.out) (fun hHeld => ?_)
            clear hK K
            refine norm_ (a' := ?_) ?_ ?_
            rotate_left
            · show Act.put _ (some 49) _ = _
              simp only [Act.put, List.setIfInBounds_toArray, List.set_cons_zero, List.set_cons_succ, i64_w, i32_w]
              rfl
            refine pure_ (i := 7) (N := some 50) (v := ?_) (a' := ?_) #[true, true, true, true, true, true, true, true, false] rfl rfl (by kernel_rfl) (fun _ _ _ h => h) (Or.inl ⟨by rfl, ?_⟩) ?_ ?_
            rotate_left
            · intro w'
              go_simp
              with_reducible rfl
            rotate_left
            · simp only [Act.put, List.setIfInBounds_toArray, List.set_cons_zero, List.set_cons_succ, i64_w, i32_w]
              rfl
            have hf0 := blk_frozen HRS.out 0
            have hf1 := blk_frozen HRS.out 1
            have hf2 := blk_frozen HRS.out 2
            have hc0 := (blk_cell HRS.out 0).trans rfl
            have hc1 := (blk_cell HRS.out 1).trans rfl
            have hc2 := (blk_cell HRS.out 2).trans rfl
            refine last_ (i := 8) (N := none) #[true, true, true, true, true, true, true, true, true] rfl rfl (by kernel_rfl) (by decide) (fun K hK => ?_)
            refine skip_ (w1 := ?_) (by rfl) rfl ?_ ?_
            rotate_left
            · go_simp
              rfl
            refine hK.out _ _ ?_
            clear hK K hf0 hf1 hf2 hc0 hc1 hc2
            refine done_ (by kernel_rfl) ?_
            go_wp2
            refine bodyPost_ret (results_cell_row rfl _ _ w.heap.size 37 _ (0, 0) _ rfl (blk_set (blk_set (blk_set HRS.out 0 _) 1 _) 2 _) Tryd.underlying37 rfl (by kernel_rfl)) rfl ?_
            exact ⟨⟨_, _, _, rfl⟩, below_set (below_set (below_set (HB0.out.trans (HA9.out.bel.mono (Nat.le_of_lt hbase))) (Nat.le_refl _)) (Nat.le_refl _)) (Nat.le_refl _)⟩
          · refine event_step (by rfl) (v := .slice (some ⟨x1.heap.size, 0, none⟩) 1 1) (w1 := x1.alloc (.cells #[FB, vp, .slice none 0 0] 37)) (by first | (go_simp; done) | (go_simp; rfl)) ?_
            replace HA9 := Aside0.mk (HA9.out.alloc (.cells #[FB, vp, .slice none 0 0] 37))
            replace HRS := Aside0.mk (blk_alloc HRS.out (.cells #[FB, vp, .slice none 0 0] 37))
            obtain ⟨y2, hy2⟩ : ∃ y, x1.alloc (.cells #[FB, vp, .slice none 0 0] 37) = y := ⟨_, rfl⟩
            rw [hy2] at HA9 HRS ⊢
            clear hy2
            refine hK.out _ _ (held_8 HA9.out) (fun hHeld => ?_)
            clear hK K
            refine norm_ (a' := ?_) ?_ ?_
            rotate_left
            · show Act.put _ (some 49) _ = _
              simp only [Act.put, List.setIfInBounds_toArray, List.set_cons_zero, List.set_cons_succ, i64_w, i32_w]
              rfl
            refine one_ (i := 4) (N := some 47) #[true, true, true, true, true, true, true, false, false] rfl rfl (by kernel_rfl) (by decide) (fun K hK => ?_)
            refine event_step (by rfl) (v := .slice (some ⟨y2.heap.size, 0, none⟩) 2 2) (w1 := y2.alloc (.cells #[.string ⟨#[86, 69, 82, 83, 73, 79, 78]⟩, .slice none 0 0, .string ⟨#[50, 46, 48]⟩, .string ⟨#[80, 82, 79, 68, 73, 68]⟩, .slice none 0 0, .string ⟨#[45, 47, 47, 97, 108, 109, 97, 110, 97, 99]⟩] 46)) (by first | (go_simp; done) | (go_simp; rfl)) ?_
            replace HA9 := Aside0.mk (HA9.out.alloc (.cells #[.string ⟨#[86, 69, 82, 83, 73, 79, 78]⟩, .slice none 0 0, .string ⟨#[50, 46, 48]⟩, .string ⟨#[80, 82, 79, 68, 73, 68]⟩, .slice none 0 0, .string ⟨#[45, 47, 47, 97, 108, 109, 97, 110, 97, 99]⟩] 46))
            replace HRS := Aside0.mk (blk_alloc HRS.out (.cells #[.string ⟨#[86, 69, 82, 83, 73, 79, 78]⟩, .slice none 0 0, .string ⟨#[50, 46, 48]⟩, .string ⟨#[80, 82, 79, 68, 73, 68]⟩, .slice none 0 0, .string ⟨#[45, 47, 47, 97, 108, 109, 97, 110, 97, 99]⟩] 46))
            obtain ⟨y3, hy3⟩ : ∃ y, y2.alloc (.cells #[.string ⟨#[86, 69, 82, 83, 73, 79, 78]⟩, .slice none 0 0, .string ⟨#[50, 46, 48]⟩, .string ⟨#[80, 82, 79, 68, 73, 68]⟩, .slice none 0 0, .string ⟨#[45, 47, 47, 97, 108, 109, 97, 110, 97, 99]⟩] 46) = y := ⟨_, rfl⟩
            rw [hy3] at HA9 HRS ⊢
            clear hy3
            refine hK.out _ _ (held_8 HA9.out) (fun hHeld => ?_)
            clear hK K
            refine norm_ (a' := ?_) ?_ ?_
            rotate_left
            · show Act.put _ (some 47) _ = _
              simp only [Act.put, List.setIfInBounds_toArray, List.set_cons_zero, List.set_cons_succ, i64_w, i32_w]
              rfl
            refine pure_ (i := 7) (N := some 50) (v := ?_) (a' := ?_) #[true, true, true, true, true, true, true, true, false] rfl rfl (by kernel_rfl) (fun _ _ _ h => h) (Or.inl ⟨by rfl, ?_⟩) ?_ ?_
            rotate_left
            · intro w'
              go_simp
              with_reducible rfl
            rotate_left
            · simp only [Act.put, List.setIfInBounds_toArray, List.set_cons_zero, List.set_cons_succ, i64_w, i32_w]
              rfl
            have hf0 := blk_frozen HRS.out 0
            have hf1 := blk_frozen HRS.out 1
            have hf2 := blk_frozen HRS.out 2
            have hc0 := (blk_cell HRS.out 0).trans rfl
            have hc1 := (blk_cell HRS.out 1).trans rfl
            have hc2 := (blk_cell HRS.out 2).trans rfl
            refine last_ (i := 8) (N := none) #[true, true, true, true, true, true, true, true, true] rfl rfl (by kernel_rfl) (by decide) (fun K hK => ?_)
            refine skip_ (w1 := ?_) (by rfl) rfl ?_ ?_
            rotate_left
            · go_simp
              rfl
            refine hK.out _ _ ?_
            clear hK K hf0 hf1 hf2 hc0 hc1 hc2
            refine done_ (by kernel_rfl) ?_
            go_wp2
            refine bodyPost_ret (results_cell_row rfl _ _ w.heap.size 37 _ (0, 0) _ rfl (blk_set (blk_set (blk_set HRS.out 0 _) 1 _) 2 _) Tryd.underlying37 rfl (by kernel_rfl)) rfl ?_
            exact ⟨⟨_, _, _, rfl⟩, below_set (below_set (below_set (HB0.out.trans (HA9.out.bel.mono (Nat.le_of_lt hbase))) (Nat.le_refl _)) (Nat.le_refl _)) (Nat.le_refl _)⟩
        · refine event_step (by rfl) (v := .slice (some ⟨x0.heap.size, 0, none⟩) 1 1) (w1 := x0.alloc (.cells #[FB, vp, .slice none 0 0] 37)) (by first | (go_simp; done) | (go_simp; rfl)) ?_
          replace HA9 := Aside0.mk (HA9.out.alloc (.cells #[FB, vp, .slice none 0 0] 37))
          replace HRS := Aside0.mk (blk_alloc HRS.out (.cells #[FB, vp, .slice none 0 0] 37))
          obtain ⟨y1, hy1⟩ : ∃ y, x0.alloc (.cells #[FB, vp, .slice none 0 0] 37) = y := ⟨_, rfl⟩
          rw [hy1] at HA9 HRS ⊢
          clear hy1
          refine hK.out _ _ (held_8 HA9.out) (fun hHeld => ?_)
          clear hK K
          refine norm_ (a' := ?_) ?_ ?_
          rotate_left
          · show Act.put _ (some 49) _ = _
            simp only [Act.put, List.setIfInBounds_toArray, List.set_cons_zero, List.set_cons_succ, i64_w, i32_w]
            rfl
          refine one_ (i := 3) (N := some 46) #[true, true, true, true, false, true, true, false, false] rfl rfl (by kernel_rfl) (by decide) (fun K hK => ?_)
          refine goesV_ Tryd.func19 (by kernel_rfl) rfl #[.string ⟨#[80, 82, 79, 68, 73, 68]⟩, .string ⟨#[45, 47, 47, 97, 108, 109, 97, 110, 97, 99]⟩] (by rfl) rfl rfl (by rfl) (by (try simp only [List.map_toArray, List.map_cons, List.map_nil]); first | done | rfl) ?_
          refine (prop_calls _ _ _).mono ?_
          rintro e x2 ⟨rfl, hb⟩
          refine ⟨_, rfl, ?_⟩
          replace HA9 := Aside0.mk (HA9.out.below hb)
          replace HRS := Aside0.mk (blk_below HRS.out hb)
          clear hb
          refine hK.out _ _ (held_8 HA9.out) (fun hHeld => ?_)
          clear hK K
          refine norm_ (a' := ?_) ?_ ?_
          rotate_left
          · show Act.put _ (some 46) _ = _
            simp only [Act.put, List.setIfInBounds_toArray, List.set_cons_zero, List.set_cons_succ, i64_w, i32_w]
            rfl
          refine one_ (i := 4) (N := some 47) #[true, true, true, true, true, true, true, false, false] rfl rfl (by kernel_rfl) (by decide) (fun K hK => ?_)
          refine event_step (by rfl) (v := .slice (some ⟨x2.heap.size, 0, none⟩) 2 2) (w1 := x2.alloc (.cells #[.string ⟨#[86, 69, 82, 83, 73, 79, 78]⟩, .slice none 0 0, .string ⟨#[50, 46, 48]⟩, .string ⟨#[80, 82, 79, 68, 73, 68]⟩, .slice none 0 0, .string ⟨#[45, 47, 47, 97, 108, 109, 97, 110, 97, 99]⟩] 46)) (by first | (go_simp; done) | (go_simp; rfl)) ?_
          replace HA9 := Aside0.mk (HA9.out.alloc (.cells #[.string ⟨#[86, 69, 82, 83, 73, 79, 78]⟩, .slice none 0 0, .string ⟨#[50, 46, 48]⟩, .string ⟨#[80, 82, 79, 68, 73, 68]⟩, .slice none 0 0, .string ⟨#[45, 47, 47, 97, 108, 109, 97, 110, 97, 99]⟩] 46))
          replace HRS := Aside0.mk (blk_alloc HRS.out (.cells #[.string ⟨#[86, 69, 82, 83, 73, 79, 78]⟩, .slice none 0 0, .string ⟨#[50, 46, 48]⟩, .string ⟨#[80, 82, 79, 68, 73, 68]⟩, .slice none 0 0, .string ⟨#[45, 47, 47, 97, 108, 109, 97, 110, 97, 99]⟩] 46))
          obtain ⟨y3, hy3⟩ : ∃ y, x2.alloc (.cells #[.string ⟨#[86, 69, 82, 83, 73, 79, 78]⟩, .slice none 0 0, .string ⟨#[50, 46, 48]⟩, .string ⟨#[80, 82, 79, 68, 73, 68]⟩, .slice none 0 0, .string ⟨#[45, 47, 47, 97, 108, 109, 97, 110, 97, 99]⟩] 46) = y := ⟨_, rfl⟩
          rw [hy3] at HA9 HRS ⊢
          clear hy3
          refine hK.out _ _ (held_8 HA9.out) (fun hHeld => ?_)
          clear hK K
          refine norm_ (a' := ?_) ?_ ?_
          rotate_left
          · show Act.put _ (some 47) _ = _
            simp only [Act.put, List.setIfInBounds_toArray, List.set_cons_zero, List.set_cons_succ, i64_w, i32_w]
            rfl
          refine pure_ (i := 7) (N := some 50) (v := ?_) (a' := ?_) #[true, true, true, true, true, true, true, true, false] rfl rfl (by kernel_rfl) (fun _ _ _ h => h) (Or.inl ⟨by rfl, ?_⟩) ?_ ?_
          rotate_left
          · intro w'
            go_simp
            with_reducible rfl
          rotate_left
          · simp only [Act.put, List.setIfInBounds_toArray, List.set_cons_zero, List.set_cons_succ, i64_w, i32_w]
            rfl
          have hf0 := blk_frozen HRS.out 0
          have hf1 := blk_frozen HRS.out 1
          have hf2 := blk_frozen HRS.out 2
          have hc0 := (blk_cell HRS.out 0).trans rfl
          have hc1 := (blk_cell HRS.out 1).trans rfl
          have hc2 := (blk_cell HRS.out 2).trans rfl
          refine last_ (i := 8) (N := none) #[true, true, true, true, true, true, true, true, true] rfl rfl (by kernel_rfl) (by decide) (fun K hK => ?_)
          refine skip_ (w1 := ?_) (by rfl) rfl ?_ ?_
          rotate_left
          · go_simp
            rfl
          refine hK.out _ _ ?_
          clear hK K hf0 hf1 hf2 hc0 hc1 hc2
          refine done_ (by kernel_rfl) ?_
          go_wp2
          refine bodyPost_ret (results_cell_row rfl _ _ w.heap.size 37 _ (0, 0) _ rfl (blk_set (blk_set (blk_set HRS.out 0 _) 1 _) 2 _) Tryd.underlying37 rfl (by kernel_rfl)) rfl ?_
          exact ⟨⟨_, _, _, rfl⟩, below_set (below_set (below_set (HB0.out.trans (HA9.out.bel.mono (Nat.le_of_lt hbase))) (Nat.le_refl _)) (Nat.le_refl _)) (Nat.le_refl _)⟩
      · refine event_step (by rfl) (v := .slice (some ⟨w9.heap.size, 0, none⟩) 1 1) (w1 := w9.alloc (.cells #[FB, vp, .slice none 0 0] 37)) (by first | (go_simp; done) | (go_simp; rfl)) ?_
        replace HA9 := Aside0.mk (HA9.out.alloc (.cells #[FB, vp, .slice none 0 0] 37))
        replace HRS := Aside0.mk (blk_alloc HRS.out (.cells #[FB, vp, .slice none 0 0] 37))
        obtain ⟨y0, hy0⟩ : ∃ y, w9.alloc (.cells #[FB, vp, .slice none 0 0] 37) = y := ⟨_, rfl⟩
        rw [hy0] at HA9 HRS ⊢
        clear hy0
        refine hK.out _ _ (held_8 HA9.out) (fun hHeld => ?_)
        clear hK K
        refine norm_ (a' := ?_) ?_ ?_
        rotate_left
        · show Act.put _ (some 49) _ = _
          simp only [Act.put, List.setIfInBounds_toArray, List.set_cons_zero, List.set_cons_succ, i64_w, i32_w]
          rfl
        refine one_ (i := 1) (N := some 44) #[true, true, true, false, false, true, true, false, false] rfl rfl (by kernel_rfl) (by decide) (fun K hK => ?_)
        refine goesV_ Tryd.func19 (by kernel_rfl) rfl #[.string ⟨#[86, 69, 82, 83, 73, 79, 78]⟩, .string ⟨#[50, 46, 48]⟩] (by rfl) rfl rfl (by rfl) (by (try simp only [List.map_toArray, List.map_cons, List.map_nil]); first | done | rfl) ?_
        refine (prop_calls _ _ _).mono ?_
        rintro e x1 ⟨rfl, hb⟩
        refine ⟨_, rfl, ?_⟩
        replace HA9 := Aside0.mk (HA9.out.below hb)
        replace HRS := Aside0.mk (blk_below HRS.out hb)
        clear hb
        refine hK.out _ _ (held_8 HA9.out) (fun hHeld => ?_)
        clear hK K
        refine norm_ (a' := ?_) ?_ ?_
        rotate_left
        · show Act.put _ (some 44) _ = _
          simp only [Act.put, List.setIfInBounds_toArray, List.set_cons_zero, List.set_cons_succ, i64_w, i32_w]
          rfl
        refine one_ (i := 3) (N := some 46) #[true, true, true, true, false, true, true, false, false] rfl rfl (by kernel_rfl) (by decide) (fun K hK => ?_)
        refine goesV_ Tryd.func19 (by kernel_rfl) rfl #[.string ⟨#[80, 82, 79, 68, 73, 68]⟩, .string ⟨#[45, 47, 47, 97, 108, 109, 97, 110, 97, 99]⟩] (by rfl) rfl rfl (by rfl) (by (try simp only [List.map_toArray, List.map_cons, List.map_nil]); first | done | rfl) ?_
        refine (prop_calls _ _ _).mono ?_
        rintro e x2 ⟨rfl, hb⟩
        refine ⟨_, rfl, ?_⟩
        replace HA9 := Aside0.mk (HA9.out.below hb)
        replace HRS := Aside0.mk (blk_below HRS.out hb)
        clear hb
        refine hK.out _ _ (held_8 HA9.out) (fun hHeld => ?_)
        clear hK K
        refine norm_ (a' := ?_) ?_ ?_
        rotate_left
        · show Act.put _ (some 46) _ = _
          simp only [Act.put, List.setIfInBounds_toArray, List.set_cons_zero, List.set_cons_succ, i64_w, i32_w]
          rfl
        refine one_ (i := 4) (N := some 47) #[true, true, true, true, true, true, true, false, false] rfl rfl (by kernel_rfl) (by decide) (fun K hK => ?_)
        refine event_step (by rfl) (v := .slice (some ⟨x2.heap.size, 0, none⟩) 2 2) (w1 := x2.alloc (.cells #[.string ⟨#[86, 69, 82, 83, 73, 79, 78]⟩, .slice none 0 0, .string ⟨#[50, 46, 48]⟩, .string ⟨#[80, 82, 79, 68, 73, 68]⟩, .slice none 0 0, .string ⟨#[45, 47, 47, 97, 108, 109, 97, 110, 97, 99]⟩] 46)) (by first | (go_simp; done) | (go_simp; rfl)) ?_
        replace HA9 := Aside0.mk (HA9.out.alloc (.cells #[.string ⟨#[86, 69, 82, 83, 73, 79, 78]⟩, .slice none 0 0, .string ⟨#[50, 46, 48]⟩, .string ⟨#[80, 82, 79, 68, 73, 68]⟩, .slice none 0 0, .string ⟨#[45, 47, 47, 97, 108, 109, 97, 110, 97, 99]⟩] 46))
        replace HRS := Aside0.mk (blk_alloc HRS.out (.cells #[.string ⟨#[86, 69, 82, 83, 73, 79, 78]⟩, .slice none 0 0, .string ⟨#[50, 46, 48]⟩, .string ⟨#[80, 82, 79, 68, 73, 68]⟩, .slice none 0 0, .string ⟨#[45, 47, 47, 97, 108, 109, 97, 110, 97, 99]⟩] 46))
        obtain ⟨y3, hy3⟩ : ∃ y, x2.alloc (.cells #[.string ⟨#[86, 69, 82, 83, 73, 79, 78]⟩, .slice none 0 0, .string ⟨#[50, 46, 48]⟩, .string ⟨#[80, 82, 79, 68, 73, 68]⟩, .slice none 0 0, .string ⟨#[45, 47, 47, 97, 108, 109, 97, 110, 97, 99]⟩] 46) = y := ⟨_, rfl⟩
        rw [hy3] at HA9 HRS ⊢
        clear hy3
        refine hK.out _ _ (held_8 HA9.out) (fun hHeld => ?_)
        clear hK K
        refine norm_ (a' := ?_) ?_ ?_
        rotate_left
        · show Act.put _ (some 47) _ = _
          simp only [Act.put, List.setIfInBounds_toArray, List.set_cons_zero, List.set_cons_succ, i64_w, i32_w]
          rfl
        refine pure_ (i := 7) (N := some 50) (v := ?_) (a' := ?_) #[true, true, true, true, true, true, true, true, false] rfl rfl (by kernel_rfl) (fun _ _ _ h => h) (Or.inl ⟨by rfl, ?_⟩) ?_ ?_
        rotate_left
        · intro w'
          go_simp
          with_reducible rfl
        rotate_left
        · simp only [Act.put, List.setIfInBounds_toArray, List.set_cons_zero, List.set_cons_succ, i64_w, i32_w]
          rfl
        have hf0 := blk_frozen HRS.out 0
        have hf1 := blk_frozen HRS.out 1
        have hf2 := blk_frozen HRS.out 2
        have hc0 := (blk_cell HRS.out 0).trans rfl
        have hc1 := (blk_cell HRS.out 1).trans rfl
        have hc2 := (blk_cell HRS.out 2).trans rfl
        refine last_ (i := 8) (N := none) #[true, true, true, true, true, true, true, true, true] rfl rfl (by kernel_rfl) (by decide) (fun K hK => ?_)
        refine skip_ (w1 := ?_) (by rfl) rfl ?_ ?_
        rotate_left
        · go_simp
          rfl
        refine hK.out _ _ ?_
        clear hK K hf0 hf1 hf2 hc0 hc1 hc2
        refine done_ (by kernel_rfl) ?_
        go_wp2
        refine bodyPost_ret (results_cell_row rfl _ _ w.heap.size 37 _ (0, 0) _ rfl (blk_set (blk_set (blk_set HRS.out 0 _) 1 _) 2 _) Tryd.underlying37 rfl (by kernel_rfl)) rfl ?_
        exact ⟨⟨_, _, _, rfl⟩, below_set (below_set (below_set (HB0.out.trans (HA9.out.bel.mono (Nat.le_of_lt hbase))) (Nat.le_refl _)) (Nat.le_refl _)) (Nat.le_refl _)⟩
end Go.Proofs.YtdafnjlmkbffeaaDoor.PD
/- The example of chapter 25 comes to true, wherever the table of powers of ten stands as laid. -/
namespace Go.Proofs.YtdafnjlmkbffeaaDoor.PD
open Go.RowKit Go.Shelf Go.Proofs.YtdafnjlmkbffeaaDoorW.PrintWords Go.Proofs.YtdafnjlmkbffeaaDoorW.PrintLast Go.Proofs.YtdafnjlmkbffeaaDoorW.PrintMore
attribute [local go_sem] isSome_setCell
set_option linter.unusedVariables false
set_option linter.unusedSimpArgs false
def almanaclaw25_awake.f : Option Bool := some true
abbrev exIn : List S26 := [⟨5, 7, 0⟩, ⟨1, 3, 0⟩, ⟨3, 4, 0⟩, ⟨9, 9, 0⟩]
abbrev exOut : List S26 := [⟨1, 4, 1⟩, ⟨5, 7, 5⟩]
theorem ex_merge : mergeL exIn = exOut := by kernel_rfl
theorem ex_insts : almanacref18_Insts.f 3 exOut exOut = some true := by decide +kernel
abbrev cellsIn : Array Value := #[.int .i64 5, .int .i64 7, .int .i64 0, .int .i64 1, .int .i64 3, .int .i64 0, .int .i64 3, .int .i64 4, .int .i64 0, .int .i64 9, .int .i64 9, .int .i64 0]
abbrev cellsOut : Array Value := #[.int .i64 1, .int .i64 4, .int .i64 1, .int .i64 5, .int .i64 7, .int .i64 5]
theorem lit_in (W : World) : Kd.C k26 (W.alloc (.cells cellsIn 26)) (some ⟨W.heap.size, 0, none⟩) 4 exIn := by
  have h : Kd.R k26 26 (W.alloc (.cells cellsIn 26)) W.heap.size (fun _ => True) (.slice (some ⟨W.heap.size, 0, none⟩) 4 4) exIn := by
    refine ⟨fun _ _ => trivial, cellsIn.toList, World.ownsRow_lit W cellsIn 4 (Nat.le_refl _) (by decide) rfl, rfl, fun j p hj => ?_⟩
    rcases j with _ | _ | _ | _ | j <;> simp at hj <;> subst hj <;> exact k26_mkM _ _ _ _
  exact (Kd.R_reads' h).2.2
theorem lit_out (W : World) : Kd.C k26 (W.alloc (.cells cellsOut 26)) (some ⟨W.heap.size, 0, none⟩) 2 exOut := by
  have h : Kd.R k26 26 (W.alloc (.cells cellsOut 26)) W.heap.size (fun _ => True) (.slice (some ⟨W.heap.size, 0, none⟩) 2 2) exOut := by
    refine ⟨fun _ _ => trivial, cellsOut.toList, World.ownsRow_lit W cellsOut 2 (Nat.le_refl _) (by decide) rfl, rfl, fun j p hj => ?_⟩
    rcases j with _ | _ | j <;> simp at hj <;> subst hj <;> exact k26_mkM _ _ _ _
  exact (Kd.R_reads' h).2.2
theorem field_2 (nm : ByteArray) (v : Value) (g : Nat) (w : World) : (Instr.field 37 (.agg #[.string nm, v, .slice (some ⟨g, 0, none⟩) 1 1]) 2).run Tryd.prog w = .ok (.slice (some ⟨g, 0, none⟩) 1 1) w := by kernel_rfl
theorem ex_in : ∀ x ∈ exOut, (0 ≤ x.f0 ∧ x.f0 ≤ 9) ∧ (0 ≤ x.f1 ∧ x.f1 ≤ 9) := by decide
set_option maxRecDepth 100000 in
set_option maxHeartbeats 4000000 in
theorem almanaclaw25_awake.calls (r : Bool) (w : World) (h : almanaclaw25_awake.f = some r) (ht : Tab w) : Calls Tryd.prog 7 #[] w fun e w' => e = .returned (.bool r) ∧ Below w.heap.size w w' := by
  obtain rfl : true = r := Option.some.inj h
  clear h
  have hb0 := below_alloc (Below.refl w.heap.size w) (.cells cellsIn 26)
  have HB0 := Aside0.mk hb0
  have HM := Aside0.mk (busy_Merge.calls 0 _ 4 exIn exOut (w.alloc (.cells cellsIn 26)) (lit_in w) (Nat.le_refl 4) (by unfold busy_Merge.f; rw [if_pos (by decide), ex_merge]))
  have HT := Aside0.mk ht
  clear ht hb0
  go_enter Tryd.func7, Tryd.ntmps7
  go_wp2_with (first
    | (go_at_call 4; go_loud (refine HM.out.mono ?_; rintro e w1 ⟨v, rfl, hR, hb1⟩; obtain ⟨A, c, rfl, hcap, hC⟩ := Kd.R_reads hR; have HB1 := Aside0.mk (HB0.out.trans (hb1.mono HB0.out.size)); have HC1 := Aside0.mk (show Kd.C k26 (w1.alloc (.cells cellsOut 26)) A 2 exOut from Kd.C_below hC (below_alloc (Below.refl _ _) _)); have HCC := Aside0.mk hcap; clear hR hb1 hC hcap))
    | (go_at_call 5; refine (almanacref18_Insts.calls 3 A c exOut _ 2 exOut true (w1.alloc (.cells cellsOut 26)) HC1.out HCC.out (lit_out w1) (Nat.le_refl 2) ex_insts).mono ?_; rintro e w2 ⟨rfl, hd2⟩; have hb2 := drawn_below hd2; have HB2 := Aside0.mk ((below_alloc HB1.out _).trans (hb2.mono (below_alloc HB1.out _).size)); have HC2 := Aside0.mk (Kd.C_below HC1.out hb2); clear hb2 hd2)
    | (go_at_call 14; refine (comp_calls A c exOut w2 HC2.out ex_in (by decide) (HT.out.below HB2.out)).mono ?_; rintro e w3 ⟨⟨nm, v, g, rfl⟩, hb3⟩; have HB3 := Aside0.mk (HB2.out.trans (hb3.mono HB2.out.size)); clear hb3; have hfd := field_2 nm v g))
  go_ret
  exact ⟨rfl, HB3.out⟩
end Go.Proofs.YtdafnjlmkbffeaaDoor.PD
-- written by a program of this work (mk.sh, over the kit's print; stubs are proved by hand)
namespace Go.Proofs.YtdafnjlmkbffeaaDoor.PD
open Go.RowKit Go.Proofs.YtdafnjlmkbffeaaDoorW.PrintWords Go.Proofs.YtdafnjlmkbffeaaDoorW.PrintLast Go.Proofs.YtdafnjlmkbffeaaDoorW.PrintMore
attribute [local go_sem] isSome_setCell max2_int min2_int max_two min_two max_three min_three max_four min_four   -- for this text's walks alone
set_option linter.unusedVariables false
set_option linter.unusedSimpArgs false

/-! ### almanaclaw25_BusyMerges: function 3 -/
mutual
def almanaclaw25_BusyMerges.l0 : Nat → Int → List (S26) → Bool → Bool → List (S26) → Int → Int → Option (Bool)
  | 0, _, _, _, _, _, _, _ => none
  | k + 1, x1, x5, x6, x7, x19, x20, x21 => if x21 < x20 then (if 0 ≤ x21 then (if x21 < (x19.length : Int) then (if x6 = true then (almanaclaw25_BusyMerges.l0 k x1 x5 true x7 x19 x20 (wrap64 (x21 + 1))) else (if ((rd_T26 x19 x21).f0) ≤ x1 then (almanaclaw25_BusyMerges.l0 k x1 x5 (decide (x1 < ((rd_T26 x19 x21).f1))) x7 x19 x20 (wrap64 (x21 + 1))) else (almanaclaw25_BusyMerges.l0 k x1 x5 false x7 x19 x20 (wrap64 (x21 + 1))))) else (none)) else (none)) else (almanaclaw25_BusyMerges.l1 k x1 x5 x6 x7 x5 (x5.length : Int) 0)
def almanaclaw25_BusyMerges.l1 : Nat → Int → List (S26) → Bool → Bool → List (S26) → Int → Int → Option (Bool)
  | 0, _, _, _, _, _, _, _ => none
  | k + 1, x1, x5, x6, x7, x39, x40, x41 => if x41 < x40 then (if 0 ≤ x41 then (if x41 < (x39.length : Int) then (if x7 = true then (if ((rd_T26 x39 x41).f0) ≥ ((rd_T26 x39 x41).f1) then (some false) else (if x41 > 0 then (if 0 ≤ (wrap64 (x41 - 1)) then (if (wrap64 (x41 - 1)) < (x5.length : Int) then (if ((rd_T26 x5 (wrap64 (x41 - 1))).f1) ≥ ((rd_T26 x39 x41).f0) then (some false) else (almanaclaw25_BusyMerges.l1 k x1 x5 x6 true x39 x40 (wrap64 (x41 + 1)))) else (none)) else (none)) else (almanaclaw25_BusyMerges.l1 k x1 x5 x6 true x39 x40 (wrap64 (x41 + 1))))) else (if ((rd_T26 x39 x41).f0) ≤ x1 then (if ((rd_T26 x39 x41).f0) ≥ ((rd_T26 x39 x41).f1) then (some false) else (if x41 > 0 then (if 0 ≤ (wrap64 (x41 - 1)) then (if (wrap64 (x41 - 1)) < (x5.length : Int) then (if ((rd_T26 x5 (wrap64 (x41 - 1))).f1) ≥ ((rd_T26 x39 x41).f0) then (some false) else (almanaclaw25_BusyMerges.l1 k x1 x5 x6 (decide (x1 < ((rd_T26 x39 x41).f1))) x39 x40 (wrap64 (x41 + 1)))) else (none)) else (none)) else (almanaclaw25_BusyMerges.l1 k x1 x5 x6 (decide (x1 < ((rd_T26 x39 x41).f1))) x39 x40 (wrap64 (x41 + 1))))) else (if ((rd_T26 x39 x41).f0) ≥ ((rd_T26 x39 x41).f1) then (some false) else (if x41 > 0 then (if 0 ≤ (wrap64 (x41 - 1)) then (if (wrap64 (x41 - 1)) < (x5.length : Int) then (if ((rd_T26 x5 (wrap64 (x41 - 1))).f1) ≥ ((rd_T26 x39 x41).f0) then (some false) else (almanaclaw25_BusyMerges.l1 k x1 x5 x6 false x39 x40 (wrap64 (x41 + 1)))) else (none)) else (none)) else (almanaclaw25_BusyMerges.l1 k x1 x5 x6 false x39 x40 (wrap64 (x41 + 1))))))) else (none)) else (none)) else (if (x6 == x7) = true then ((almanaclaw25_awake.f).bind fun t204 => (some t204)) else (some false))
end
def almanaclaw25_BusyMerges.f (k : Nat) (l0 : List (S26)) (a1 : Int) : Option (Bool) := (busy_Merge.f k l0).bind fun t190 => ((almanacref25_Merge.f k l0).bind fun t193 => ((almanacref18_Insts.f k t190 t193).bind fun t196 => (if t196 = true then (almanaclaw25_BusyMerges.l0 k a1 t190 false false l0 (l0.length : Int) 0) else (some false))))
theorem almanaclaw25_BusyMerges.mono_l : ∀ k, (∀ y0 y1 y2 y3 y4 y5 y6, LeO (almanaclaw25_BusyMerges.l0 k y0 y1 y2 y3 y4 y5 y6) (almanaclaw25_BusyMerges.l0 (k + 1) y0 y1 y2 y3 y4 y5 y6)) ∧ (∀ y0 y1 y2 y3 y4 y5 y6, LeO (almanaclaw25_BusyMerges.l1 k y0 y1 y2 y3 y4 y5 y6) (almanaclaw25_BusyMerges.l1 (k + 1) y0 y1 y2 y3 y4 y5 y6))
  | 0 => ⟨fun _ _ _ _ _ _ _ r h => by simp [almanaclaw25_BusyMerges.l0] at h, fun _ _ _ _ _ _ _ r h => by simp [almanaclaw25_BusyMerges.l1] at h⟩
  | k + 1 => by
    obtain ⟨ih0, ih1⟩ := almanaclaw25_BusyMerges.mono_l k
    refine ⟨?_, ?_⟩
    · intro y0 y1 y2 y3 y4 y5 y6
      unfold almanaclaw25_BusyMerges.l0
      repeat' first
      | (with_reducible exact ih0 _ _ _ _ _ _ _)
      | (with_reducible exact ih1 _ _ _ _ _ _ _)
      | (with_reducible exact almanacref18_Insts.mono _ _ _)
      | (with_reducible exact almanacref25_Merge.mono _ _)
      | (with_reducible exact busy_Merge.mono _ _)
      | (with_reducible exact LeO.refl _)
      | (with_reducible exact LeO.none _)
      | (with_reducible refine LeO.ite ?_ ?_)
      | (with_reducible refine LeO.bind ?_ (fun _ => ?_))
      | exact ih0 _ _ _ _ _ _ _
      | exact ih1 _ _ _ _ _ _ _
      | exact almanacref18_Insts.mono _ _ _
      | exact almanacref25_Merge.mono _ _
      | exact busy_Merge.mono _ _
      | exact LeO.none _
      | refine LeO.ite ?_ ?_
      | refine LeO.bind ?_ (fun _ => ?_)
    · intro y0 y1 y2 y3 y4 y5 y6
      unfold almanaclaw25_BusyMerges.l1
      repeat' first
      | (with_reducible exact ih0 _ _ _ _ _ _ _)
      | (with_reducible exact ih1 _ _ _ _ _ _ _)
      | (with_reducible exact almanacref18_Insts.mono _ _ _)
      | (with_reducible exact almanacref25_Merge.mono _ _)
      | (with_reducible exact busy_Merge.mono _ _)
      | (with_reducible exact LeO.refl _)
      | (with_reducible exact LeO.none _)
      | (with_reducible refine LeO.ite ?_ ?_)
      | (with_reducible refine LeO.bind ?_ (fun _ => ?_))
      | exact ih0 _ _ _ _ _ _ _
      | exact ih1 _ _ _ _ _ _ _
      | exact almanacref18_Insts.mono _ _ _
      | exact almanacref25_Merge.mono _ _
      | exact busy_Merge.mono _ _
      | exact LeO.none _
      | refine LeO.ite ?_ ?_
      | refine LeO.bind ?_ (fun _ => ?_)
theorem almanaclaw25_BusyMerges.mono : ∀ a0 a1 k, LeO (almanaclaw25_BusyMerges.f k a0 a1) (almanaclaw25_BusyMerges.f (k + 1) a0 a1) := by
  intro a0 a1 k
  obtain ⟨ih0, ih1⟩ := almanaclaw25_BusyMerges.mono_l k
  unfold almanaclaw25_BusyMerges.f
  repeat' first
      | (with_reducible exact ih0 _ _ _ _ _ _ _)
      | (with_reducible exact ih1 _ _ _ _ _ _ _)
      | (with_reducible exact almanacref18_Insts.mono _ _ _)
      | (with_reducible exact almanacref25_Merge.mono _ _)
      | (with_reducible exact busy_Merge.mono _ _)
      | (with_reducible exact LeO.refl _)
      | (with_reducible exact LeO.none _)
      | (with_reducible refine LeO.ite ?_ ?_)
      | (with_reducible refine LeO.bind ?_ (fun _ => ?_))
      | exact ih0 _ _ _ _ _ _ _
      | exact ih1 _ _ _ _ _ _ _
      | exact almanacref18_Insts.mono _ _ _
      | exact almanacref25_Merge.mono _ _
      | exact busy_Merge.mono _ _
      | exact LeO.none _
      | refine LeO.ite ?_ ?_
      | refine LeO.bind ?_ (fun _ => ?_)
set_option maxHeartbeats 8000000 in
set_option maxRecDepth 100000 in
theorem almanaclaw25_BusyMerges.callsT (k : Nat) (A0 : Option Addr) (c0 : Nat) (l0 : List (S26)) (a1 : Int) (r : Bool) (w : World) (hr0 : Kd.C k26 w A0 l0.length l0) (hc0 : l0.length ≤ c0) (h : almanaclaw25_BusyMerges.f k l0 a1 = some r) (hr : r = true) (hTab : Tab w) :
    Calls Tryd.prog 3 #[.slice A0 l0.length c0, .int .i64 a1] w fun e w' => e = .returned (.bool r) ∧ Below w.heap.size w w' := by
  have HRT := Aside0.mk hr
  clear hr
  have HTab := Aside0.mk hTab
  clear hTab
  have hu26 := Tryd.underlying26
  have HR0 := Aside0.mk hr0
  have HC0 := Aside0.mk hc0
  clear hr0 hc0
  have HB := Aside0.mk (Below.refl w.heap.size w)
  have H : ((busy_Merge.f k l0).bind fun t190 => ((almanacref25_Merge.f k l0).bind fun t193 => ((almanacref18_Insts.f k t190 t193).bind fun t196 => (if t196 = true then (almanaclaw25_BusyMerges.l0 k a1 t190 false false l0 (l0.length : Int) 0) else (some false))))) = some r := h
  clear h
  replace H := Option.bind_eq_some_iff.mp H
  obtain ⟨t190, A30, H⟩ := H
  replace H : ((almanacref25_Merge.f k l0).bind fun t193 => ((almanacref18_Insts.f k t190 t193).bind fun t196 => (if t196 = true then (almanaclaw25_BusyMerges.l0 k a1 t190 false false l0 (l0.length : Int) 0) else (some false)))) = some r := H
  have A3 := Aside0.mk A30
  clear A30
  replace H := Option.bind_eq_some_iff.mp H
  obtain ⟨t193, A40, H⟩ := H
  replace H : ((almanacref18_Insts.f k t190 t193).bind fun t196 => (if t196 = true then (almanaclaw25_BusyMerges.l0 k a1 t190 false false l0 (l0.length : Int) 0) else (some false))) = some r := H
  have A4 := Aside0.mk A40
  clear A40
  replace H := Option.bind_eq_some_iff.mp H
  obtain ⟨t196, A50, H⟩ := H
  replace H : (if t196 = true then (almanaclaw25_BusyMerges.l0 k a1 t190 false false l0 (l0.length : Int) 0) else (some false)) = some r := H
  have A5 := Aside0.mk A50
  clear A50
  by_cases c6 : t196 = true
  · subst c6
    have H1 : (almanaclaw25_BusyMerges.l0 k a1 t190 false false l0 (l0.length : Int) 0) = some r := by rw [if_pos rfl] at H; exact H
    clear H
    have H := H1
    clear H1
    have H' := Aside0.mk H
    clear H
    go_enter Tryd.func3, Tryd.ntmps3
    go_wp2_with (first | (go_at_call 4; (with_reducible refine (busy_Merge.calls k _ _ l0 t190 _ ?side1 ?side2 A3.out).mono ?_); (case side1 => repeat (first | exact HR0.out | (with_reducible refine Kd.C_alloc ?_ _) | (with_reducible refine Kd.C_drewN ?_ _) | (with_reducible refine Kd.C_drew ?_))); (case side2 => exact HC0.out); rintro e w7 ⟨v191, rfl, ho0, hb⟩; have n0_ := Aside0.mk (Kd.R_lower ho0 (below_size (by repeat (first | (with_reducible first | exact HB.out | apply below_alloc | apply pw_below_drewN | apply below_drew1) | exact HB.out)))); have n1_ := Aside0.mk (below_step (by repeat (first | (with_reducible first | exact HB.out | apply below_alloc | apply pw_below_drewN | apply below_drew1) | exact HB.out)) hb); clear HB; have HO192 := n0_; have HB := n1_; clear n0_ n1_; (try clear hb); (try clear hb2); (try clear hk); (try clear hi); (try clear ho0)) | (go_at_call 6; (with_reducible refine (almanacref25_Merge.calls k _ _ l0 t193 _ ?side1 ?side2 A4.out).mono ?_); (case side1 => repeat (first | exact (Kd.C_below HR0.out HB.out) | (with_reducible refine Kd.C_alloc ?_ _) | (with_reducible refine Kd.C_drewN ?_ _) | (with_reducible refine Kd.C_drew ?_))); (case side2 => exact HC0.out); rintro e w8 ⟨v194, rfl, ho0, hb⟩; have n0_ := Aside0.mk (Kd.R_elder' (by (with_reducible repeat (first | apply Kd.R_alloc | apply Kd.R_drewN | apply Kd.R_drew)); exact HO192.out) (Kd.R_base ho0) hb); have n1_ := Aside0.mk (Kd.R_lower (Kd.R_new' ho0 (Kd.R_lt (by (with_reducible repeat (first | apply Kd.R_alloc | apply Kd.R_drewN | apply Kd.R_drew)); exact HO192.out))) (below_size (by repeat (first | (with_reducible first | exact HB.out | apply below_alloc | apply pw_below_drewN | apply below_drew1) | exact HB.out)))); have n2_ := Aside0.mk (below_step (by repeat (first | (with_reducible first | exact HB.out | apply below_alloc | apply pw_below_drewN | apply below_drew1) | exact HB.out)) hb); clear HO192; clear HB; have HO192 := n0_; have HO195 := n1_; have HB := n2_; clear n0_ n1_ n2_; (try clear hb); (try clear hb2); (try clear hk); (try clear hi); (try clear ho0); obtain ⟨Ao9, co9, eo9⟩ := Kd.R_slice HO192.out; subst eo9; obtain ⟨Ao10, co10, eo10⟩ := Kd.R_slice HO195.out; subst eo10) | (go_at_call 5; (with_reducible refine (almanacref18_Insts.calls k _ _ t190 _ _ t193 true _ ?side1 ?side2 ?side3 ?side4 A5.out).mono ?_); (case side1 => repeat (first | exact (Kd.R_reads' HO192.out).2.2 | (with_reducible refine Kd.C_alloc ?_ _) | (with_reducible refine Kd.C_drewN ?_ _) | (with_reducible refine Kd.C_drew ?_))); (case side2 => exact (Kd.R_reads' HO192.out).2.1); (case side3 => repeat (first | exact (Kd.R_reads' HO195.out).2.2 | (with_reducible refine Kd.C_alloc ?_ _) | (with_reducible refine Kd.C_drewN ?_ _) | (with_reducible refine Kd.C_drew ?_))); (case side4 => exact (Kd.R_reads' HO195.out).2.1); rintro e w' ⟨rfl, ⟨nd, rfl⟩⟩; (try first | exact ⟨rfl, _, World.drewN_drewN _ _ _⟩ | exact ⟨rfl, _, Eq.trans (World.drewN_drewN _ _ _) (congrArg (World.drewN _) (Nat.add_assoc _ _ _))⟩)))
    repeat (go_quiet (first | (go_at_call 4; (with_reducible refine (busy_Merge.calls k _ _ l0 t190 _ ?side1 ?side2 A3.out).mono ?_); (case side1 => repeat (first | exact HR0.out | (with_reducible refine Kd.C_alloc ?_ _) | (with_reducible refine Kd.C_drewN ?_ _) | (with_reducible refine Kd.C_drew ?_))); (case side2 => exact HC0.out); rintro e w7 ⟨v191, rfl, ho0, hb⟩; have n0_ := Aside0.mk (Kd.R_lower ho0 (below_size (by repeat (first | (with_reducible first | exact HB.out | apply below_alloc | apply pw_below_drewN | apply below_drew1) | exact HB.out)))); have n1_ := Aside0.mk (below_step (by repeat (first | (with_reducible first | exact HB.out | apply below_alloc | apply pw_below_drewN | apply below_drew1) | exact HB.out)) hb); clear HB; have HO192 := n0_; have HB := n1_; clear n0_ n1_; (try clear hb); (try clear hb2); (try clear hk); (try clear hi); (try clear ho0)) | (go_at_call 6; (with_reducible refine (almanacref25_Merge.calls k _ _ l0 t193 _ ?side1 ?side2 A4.out).mono ?_); (case side1 => repeat (first | exact (Kd.C_below HR0.out HB.out) | (with_reducible refine Kd.C_alloc ?_ _) | (with_reducible refine Kd.C_drewN ?_ _) | (with_reducible refine Kd.C_drew ?_))); (case side2 => exact HC0.out); rintro e w8 ⟨v194, rfl, ho0, hb⟩; have n0_ := Aside0.mk (Kd.R_elder' (by (with_reducible repeat (first | apply Kd.R_alloc | apply Kd.R_drewN | apply Kd.R_drew)); exact HO192.out) (Kd.R_base ho0) hb); have n1_ := Aside0.mk (Kd.R_lower (Kd.R_new' ho0 (Kd.R_lt (by (with_reducible repeat (first | apply Kd.R_alloc | apply Kd.R_drewN | apply Kd.R_drew)); exact HO192.out))) (below_size (by repeat (first | (with_reducible first | exact HB.out | apply below_alloc | apply pw_below_drewN | apply below_drew1) | exact HB.out)))); have n2_ := Aside0.mk (below_step (by repeat (first | (with_reducible first | exact HB.out | apply below_alloc | apply pw_below_drewN | apply below_drew1) | exact HB.out)) hb); clear HO192; clear HB; have HO192 := n0_; have HO195 := n1_; have HB := n2_; clear n0_ n1_ n2_; (try clear hb); (try clear hb2); (try clear hk); (try clear hi); (try clear ho0); obtain ⟨Ao9, co9, eo9⟩ := Kd.R_slice HO192.out; subst eo9; obtain ⟨Ao10, co10, eo10⟩ := Kd.R_slice HO195.out; subst eo10) | (go_at_call 5; (with_reducible refine (almanacref18_Insts.calls k _ _ t190 _ _ t193 true _ ?side1 ?side2 ?side3 ?side4 A5.out).mono ?_); (case side1 => repeat (first | exact (Kd.R_reads' HO192.out).2.2 | (with_reducible refine Kd.C_alloc ?_ _) | (with_reducible refine Kd.C_drewN ?_ _) | (with_reducible refine Kd.C_drew ?_))); (case side2 => exact (Kd.R_reads' HO192.out).2.1); (case side3 => repeat (first | exact (Kd.R_reads' HO195.out).2.2 | (with_reducible refine Kd.C_alloc ?_ _) | (with_reducible refine Kd.C_drewN ?_ _) | (with_reducible refine Kd.C_drew ?_))); (case side4 => exact (Kd.R_reads' HO195.out).2.1); rintro e w' ⟨rfl, ⟨nd, rfl⟩⟩; (try first | exact ⟨rfl, _, World.drewN_drewN _ _ _⟩ | exact ⟨rfl, _, Eq.trans (World.drewN_drewN _ _ _) (congrArg (World.drewN _) (Nat.add_assoc _ _ _))⟩))); try go_wp2_with (first | (go_at_call 4; (with_reducible refine (busy_Merge.calls k _ _ l0 t190 _ ?side1 ?side2 A3.out).mono ?_); (case side1 => repeat (first | exact HR0.out | (with_reducible refine Kd.C_alloc ?_ _) | (with_reducible refine Kd.C_drewN ?_ _) | (with_reducible refine Kd.C_drew ?_))); (case side2 => exact HC0.out); rintro e w7 ⟨v191, rfl, ho0, hb⟩; have n0_ := Aside0.mk (Kd.R_lower ho0 (below_size (by repeat (first | (with_reducible first | exact HB.out | apply below_alloc | apply pw_below_drewN | apply below_drew1) | exact HB.out)))); have n1_ := Aside0.mk (below_step (by repeat (first | (with_reducible first | exact HB.out | apply below_alloc | apply pw_below_drewN | apply below_drew1) | exact HB.out)) hb); clear HB; have HO192 := n0_; have HB := n1_; clear n0_ n1_; (try clear hb); (try clear hb2); (try clear hk); (try clear hi); (try clear ho0)) | (go_at_call 6; (with_reducible refine (almanacref25_Merge.calls k _ _ l0 t193 _ ?side1 ?side2 A4.out).mono ?_); (case side1 => repeat (first | exact (Kd.C_below HR0.out HB.out) | (with_reducible refine Kd.C_alloc ?_ _) | (with_reducible refine Kd.C_drewN ?_ _) | (with_reducible refine Kd.C_drew ?_))); (case side2 => exact HC0.out); rintro e w8 ⟨v194, rfl, ho0, hb⟩; have n0_ := Aside0.mk (Kd.R_elder' (by (with_reducible repeat (first | apply Kd.R_alloc | apply Kd.R_drewN | apply Kd.R_drew)); exact HO192.out) (Kd.R_base ho0) hb); have n1_ := Aside0.mk (Kd.R_lower (Kd.R_new' ho0 (Kd.R_lt (by (with_reducible repeat (first | apply Kd.R_alloc | apply Kd.R_drewN | apply Kd.R_drew)); exact HO192.out))) (below_size (by repeat (first | (with_reducible first | exact HB.out | apply below_alloc | apply pw_below_drewN | apply below_drew1) | exact HB.out)))); have n2_ := Aside0.mk (below_step (by repeat (first | (with_reducible first | exact HB.out | apply below_alloc | apply pw_below_drewN | apply below_drew1) | exact HB.out)) hb); clear HO192; clear HB; have HO192 := n0_; have HO195 := n1_; have HB := n2_; clear n0_ n1_ n2_; (try clear hb); (try clear hb2); (try clear hk); (try clear hi); (try clear ho0); obtain ⟨Ao9, co9, eo9⟩ := Kd.R_slice HO192.out; subst eo9; obtain ⟨Ao10, co10, eo10⟩ := Kd.R_slice HO195.out; subst eo10) | (go_at_call 5; (with_reducible refine (almanacref18_Insts.calls k _ _ t190 _ _ t193 true _ ?side1 ?side2 ?side3 ?side4 A5.out).mono ?_); (case side1 => repeat (first | exact (Kd.R_reads' HO192.out).2.2 | (with_reducible refine Kd.C_alloc ?_ _) | (with_reducible refine Kd.C_drewN ?_ _) | (with_reducible refine Kd.C_drew ?_))); (case side2 => exact (Kd.R_reads' HO192.out).2.1); (case side3 => repeat (first | exact (Kd.R_reads' HO195.out).2.2 | (with_reducible refine Kd.C_alloc ?_ _) | (with_reducible refine Kd.C_drewN ?_ _) | (with_reducible refine Kd.C_drew ?_))); (case side4 => exact (Kd.R_reads' HO195.out).2.1); rintro e w' ⟨rfl, ⟨nd, rfl⟩⟩; (try first | exact ⟨rfl, _, World.drewN_drewN _ _ _⟩ | exact ⟨rfl, _, Eq.trans (World.drewN_drewN _ _ _) (congrArg (World.drewN _) (Nat.add_assoc _ _ _))⟩))))
    go_loopg [6, 21] k (fun kq v6 v21 w' => ∃ (x6_1 : Bool) (x21_1 : Int), v6 = .bool x6_1 ∧ v21 = .int .i64 x21_1 ∧ Aside0 (almanaclaw25_BusyMerges.l0 kq a1 t190 x6_1 false l0 (l0.length : Int) x21_1 = some r) ∧ Aside0 (kq ≤ k) ∧ Aside0 (Kd.R k26 26 w' w.heap.size (fun _ => True) (.slice Ao9 t190.length co9) t190) ∧ Aside0 (Below w.heap.size w w'))
    case atStart => exact ⟨(false), (0), (by first | rfl | (simp; done) | (simp [*]; done)), (by first | rfl | (simp; done) | (simp [*]; done)), H', ⟨Nat.le_refl _⟩, ⟨by (with_reducible repeat (first | apply Kd.R_alloc | apply Kd.R_drewN | apply Kd.R_drew)); exact Kd.R_mono HO192.out (fun _ hk => trivial)⟩, ⟨by repeat (first | (with_reducible first | exact HB.out | apply below_alloc | apply pw_below_drewN | apply below_drew1) | exact HB.out)⟩⟩
    case round =>
      clear H'
      try clear p2
      try clear c3
      try clear c6
      obtain ⟨x6_1, x21_1, rfl, rfl, HA, HK1, HO_5, HB⟩ := hrel
      cases gk with
      | zero => exact absurd HA.out (by simp [almanaclaw25_BusyMerges.l0])
      | succ k1 =>
        have H := HA.out
        clear HA
        simp only [almanaclaw25_BusyMerges.l0] at H
        by_cases c11 : x21_1 < (l0.length : Int)
        · rw [if_pos c11] at H
          have c11b0 : decide (x21_1 < (l0.length : Int)) = true := decide_eq_true c11
          clear c11
          by_cases c12 : 0 ≤ x21_1
          · rw [if_pos c12] at H
            have c12b0 : decide (0 ≤ x21_1) = true := decide_eq_true c12
            clear c12
            by_cases c13 : x21_1 < (l0.length : Int)
            · rw [if_pos c13] at H
              have c13b0 : decide (x21_1 < (l0.length : Int)) = true := decide_eq_true c13
              clear c13
              by_cases c14 : x6_1 = true
              · subst c14
                have H1 : (almanaclaw25_BusyMerges.l0 k1 a1 t190 true false l0 (l0.length : Int) (wrap64 (x21_1 + 1))) = some r := by rw [if_pos rfl] at H; exact H
                clear H
                have H := H1
                clear H1
                have H' := Aside0.mk H
                clear H
                have p197 : 0 ≤ (x21_1 : Int) := of_decide_eq_true (by first | (with_reducible assumption) | assumption)
                have q197 : x21_1 < (l0.length : Int) := of_decide_eq_true (by first | (with_reducible assumption) | assumption)
                obtain ⟨ad197, e197, hx197_0, hx197_1, hx197_2⟩ := at_T26 HR0.out x21_1 p197 q197
                cases e197
                replace hx197_0 := (HB.out.cell (World.block_lt_of_cell? w _ hx197_0)).trans hx197_0
                replace hx197_1 := (HB.out.cell (World.block_lt_of_cell? w _ hx197_1)).trans hx197_1
                replace hx197_2 := (HB.out.cell (World.block_lt_of_cell? w _ hx197_2)).trans hx197_2
                replace p197 := eq_true p197
                replace q197 := eq_true q197
                go_wp2_with (first | ((with_reducible refine gate_dst (N := 9) rfl ?_); refine box_event ?hg (N := 9) ?hd (cs := #[.int .i64 0, .int .i64 0, .int .i64 0]) (t := 26) ?hr ?_; (case hd => rfl); (case hg => rfl); (case hr => first | (go_simp; done) | (go_simp; rfl)); intro gb198 hg w15 hbox hb; have n0_ := Aside0.mk (Kd.R_below (Kd.R_elderB (by (with_reducible repeat (first | apply Kd.R_alloc | apply Kd.R_drewN | apply Kd.R_drew)); exact HO_5.out) gb198 (Nat.le_of_eq hg.symm)) hb); have n1_ := Aside0.mk (below_step (by repeat (first | (with_reducible first | exact HB.out | apply below_alloc | apply pw_below_drewN | apply below_drew1) | exact HB.out)) hb); have n2_ := Aside0.mk (hbox); have n3_ := Aside0.mk ((by rw [hg]; exact (below_size (by repeat (first | (with_reducible first | exact HB.out | apply below_alloc | apply pw_below_drewN | apply below_drew1) | exact HB.out))) : w.heap.size ≤ gb198)); have n4_ := Aside0.mk ((by rw [hg]; exact (below_size (by repeat (first | (with_reducible first | exact HB.out | apply below_alloc | apply pw_below_drewN | apply below_drew1) | exact HB.out))) : w.heap.size ≤ gb198)); clear HO_5; clear HB; have HO_5 := n0_; have HB := n1_; have BK198 := n2_; have GW198 := n3_; have GE198 := n4_; clear n0_ n1_ n2_ n3_ n4_; clear hb hbox hg; have hcz16_0 : w15.cell? ⟨gb198, 0, none⟩ = some (.int .i64 0) := (blk_cell BK198.out 0).trans rfl; have hcz16_1 : w15.cell? ⟨gb198, 1, none⟩ = some (.int .i64 0) := (blk_cell BK198.out 1).trans rfl; have hcz16_2 : w15.cell? ⟨gb198, 2, none⟩ = some (.int .i64 0) := (blk_cell BK198.out 2).trans rfl; have hfz16_0 := blk_frozen BK198.out 0; have hfz16_1 := blk_frozen BK198.out 1; have hfz16_2 := blk_frozen BK198.out 2))
                repeat (go_quiet (first | ((with_reducible refine gate_dst (N := 9) rfl ?_); refine box_event ?hg (N := 9) ?hd (cs := #[.int .i64 0, .int .i64 0, .int .i64 0]) (t := 26) ?hr ?_; (case hd => rfl); (case hg => rfl); (case hr => first | (go_simp; done) | (go_simp; rfl)); intro gb198 hg w15 hbox hb; have n0_ := Aside0.mk (Kd.R_below (Kd.R_elderB (by (with_reducible repeat (first | apply Kd.R_alloc | apply Kd.R_drewN | apply Kd.R_drew)); exact HO_5.out) gb198 (Nat.le_of_eq hg.symm)) hb); have n1_ := Aside0.mk (below_step (by repeat (first | (with_reducible first | exact HB.out | apply below_alloc | apply pw_below_drewN | apply below_drew1) | exact HB.out)) hb); have n2_ := Aside0.mk (hbox); have n3_ := Aside0.mk ((by rw [hg]; exact (below_size (by repeat (first | (with_reducible first | exact HB.out | apply below_alloc | apply pw_below_drewN | apply below_drew1) | exact HB.out))) : w.heap.size ≤ gb198)); have n4_ := Aside0.mk ((by rw [hg]; exact (below_size (by repeat (first | (with_reducible first | exact HB.out | apply below_alloc | apply pw_below_drewN | apply below_drew1) | exact HB.out))) : w.heap.size ≤ gb198)); clear HO_5; clear HB; have HO_5 := n0_; have HB := n1_; have BK198 := n2_; have GW198 := n3_; have GE198 := n4_; clear n0_ n1_ n2_ n3_ n4_; clear hb hbox hg; have hcz16_0 : w15.cell? ⟨gb198, 0, none⟩ = some (.int .i64 0) := (blk_cell BK198.out 0).trans rfl; have hcz16_1 : w15.cell? ⟨gb198, 1, none⟩ = some (.int .i64 0) := (blk_cell BK198.out 1).trans rfl; have hcz16_2 : w15.cell? ⟨gb198, 2, none⟩ = some (.int .i64 0) := (blk_cell BK198.out 2).trans rfl; have hfz16_0 := blk_frozen BK198.out 0; have hfz16_1 := blk_frozen BK198.out 1; have hfz16_2 := blk_frozen BK198.out 2)); try go_wp2_with (first | ((with_reducible refine gate_dst (N := 9) rfl ?_); refine box_event ?hg (N := 9) ?hd (cs := #[.int .i64 0, .int .i64 0, .int .i64 0]) (t := 26) ?hr ?_; (case hd => rfl); (case hg => rfl); (case hr => first | (go_simp; done) | (go_simp; rfl)); intro gb198 hg w15 hbox hb; have n0_ := Aside0.mk (Kd.R_below (Kd.R_elderB (by (with_reducible repeat (first | apply Kd.R_alloc | apply Kd.R_drewN | apply Kd.R_drew)); exact HO_5.out) gb198 (Nat.le_of_eq hg.symm)) hb); have n1_ := Aside0.mk (below_step (by repeat (first | (with_reducible first | exact HB.out | apply below_alloc | apply pw_below_drewN | apply below_drew1) | exact HB.out)) hb); have n2_ := Aside0.mk (hbox); have n3_ := Aside0.mk ((by rw [hg]; exact (below_size (by repeat (first | (with_reducible first | exact HB.out | apply below_alloc | apply pw_below_drewN | apply below_drew1) | exact HB.out))) : w.heap.size ≤ gb198)); have n4_ := Aside0.mk ((by rw [hg]; exact (below_size (by repeat (first | (with_reducible first | exact HB.out | apply below_alloc | apply pw_below_drewN | apply below_drew1) | exact HB.out))) : w.heap.size ≤ gb198)); clear HO_5; clear HB; have HO_5 := n0_; have HB := n1_; have BK198 := n2_; have GW198 := n3_; have GE198 := n4_; clear n0_ n1_ n2_ n3_ n4_; clear hb hbox hg; have hcz16_0 : w15.cell? ⟨gb198, 0, none⟩ = some (.int .i64 0) := (blk_cell BK198.out 0).trans rfl; have hcz16_1 : w15.cell? ⟨gb198, 1, none⟩ = some (.int .i64 0) := (blk_cell BK198.out 1).trans rfl; have hcz16_2 : w15.cell? ⟨gb198, 2, none⟩ = some (.int .i64 0) := (blk_cell BK198.out 2).trans rfl; have hfz16_0 := blk_frozen BK198.out 0; have hfz16_1 := blk_frozen BK198.out 1; have hfz16_2 := blk_frozen BK198.out 2)))
                go_roundg k1
                case measure => have := HK1.out; omega
                case rel => exact ⟨(true), (wrap64 (x21_1 + 1)), (by first | rfl | (simp; done) | (simp [*]; done)), (by first | rfl | (simp; done) | (simp [*]; done)), H', ⟨by have := HK1.out; omega⟩, ⟨by (with_reducible repeat (first | apply Kd.R_alloc | apply Kd.R_drewN | apply Kd.R_drew)); exact Kd.R_mono (Kd.R_far (p := ⟨gb198, 2, none⟩) (Kd.R_far (p := ⟨gb198, 1, none⟩) (Kd.R_far (p := ⟨gb198, 0, none⟩) (Kd.R_mono HO_5.out (fun k_ hk => (⟨hk, hk.2⟩ : _ ∧ k_ ≠ gb198))) (fun _ hk => hk.2) (.int .i64 ((rd_T26 l0 x21_1).f0))) (fun _ hk => hk.2) (.int .i64 ((rd_T26 l0 x21_1).f1))) (fun _ hk => hk.2) (.int .i64 ((rd_T26 l0 x21_1).f2))) (fun _ hk => trivial)⟩, ⟨by repeat (first | (with_reducible first | exact HB.out | apply below_alloc | apply pw_below_drewN | apply below_drew1 | refine below_set ?_ GE198.out) | exact HB.out)⟩⟩
              · replace c14 := Bool.eq_false_iff.mpr c14
                subst c14
                have H1 : (if ((rd_T26 l0 x21_1).f0) ≤ a1 then (almanaclaw25_BusyMerges.l0 k1 a1 t190 (decide (a1 < ((rd_T26 l0 x21_1).f1))) false l0 (l0.length : Int) (wrap64 (x21_1 + 1))) else (almanaclaw25_BusyMerges.l0 k1 a1 t190 false false l0 (l0.length : Int) (wrap64 (x21_1 + 1)))) = some r := by rw [if_neg (show ¬ (false = true) by decide)] at H; exact H
                clear H
                have H := H1
                clear H1
                by_cases c17 : ((rd_T26 l0 x21_1).f0) ≤ a1
                · rw [if_pos c17] at H
                  have c17b0 : decide (((rd_T26 l0 x21_1).f0) ≤ a1) = true := decide_eq_true c17
                  clear c17
                  have H' := Aside0.mk H
                  clear H
                  have p197 : 0 ≤ (x21_1 : Int) := of_decide_eq_true (by first | (with_reducible assumption) | assumption)
                  have q197 : x21_1 < (l0.length : Int) := of_decide_eq_true (by first | (with_reducible assumption) | assumption)
                  obtain ⟨ad197, e197, hx197_0, hx197_1, hx197_2⟩ := at_T26 HR0.out x21_1 p197 q197
                  cases e197
                  replace hx197_0 := (HB.out.cell (World.block_lt_of_cell? w _ hx197_0)).trans hx197_0
                  replace hx197_1 := (HB.out.cell (World.block_lt_of_cell? w _ hx197_1)).trans hx197_1
                  replace hx197_2 := (HB.out.cell (World.block_lt_of_cell? w _ hx197_2)).trans hx197_2
                  replace p197 := eq_true p197
                  replace q197 := eq_true q197
                  go_wp2_with (first | ((with_reducible refine gate_dst (N := 9) rfl ?_); refine box_event ?hg (N := 9) ?hd (cs := #[.int .i64 0, .int .i64 0, .int .i64 0]) (t := 26) ?hr ?_; (case hd => rfl); (case hg => rfl); (case hr => first | (go_simp; done) | (go_simp; rfl)); intro gb198 hg w18 hbox hb; have n0_ := Aside0.mk (Kd.R_below (Kd.R_elderB (by (with_reducible repeat (first | apply Kd.R_alloc | apply Kd.R_drewN | apply Kd.R_drew)); exact HO_5.out) gb198 (Nat.le_of_eq hg.symm)) hb); have n1_ := Aside0.mk (below_step (by repeat (first | (with_reducible first | exact HB.out | apply below_alloc | apply pw_below_drewN | apply below_drew1) | exact HB.out)) hb); have n2_ := Aside0.mk (hbox); have n3_ := Aside0.mk ((by rw [hg]; exact (below_size (by repeat (first | (with_reducible first | exact HB.out | apply below_alloc | apply pw_below_drewN | apply below_drew1) | exact HB.out))) : w.heap.size ≤ gb198)); have n4_ := Aside0.mk ((by rw [hg]; exact (below_size (by repeat (first | (with_reducible first | exact HB.out | apply below_alloc | apply pw_below_drewN | apply below_drew1) | exact HB.out))) : w.heap.size ≤ gb198)); clear HO_5; clear HB; have HO_5 := n0_; have HB := n1_; have BK198 := n2_; have GW198 := n3_; have GE198 := n4_; clear n0_ n1_ n2_ n3_ n4_; clear hb hbox hg; have hcz19_0 : w18.cell? ⟨gb198, 0, none⟩ = some (.int .i64 0) := (blk_cell BK198.out 0).trans rfl; have hcz19_1 : w18.cell? ⟨gb198, 1, none⟩ = some (.int .i64 0) := (blk_cell BK198.out 1).trans rfl; have hcz19_2 : w18.cell? ⟨gb198, 2, none⟩ = some (.int .i64 0) := (blk_cell BK198.out 2).trans rfl; have hfz19_0 := blk_frozen BK198.out 0; have hfz19_1 := blk_frozen BK198.out 1; have hfz19_2 := blk_frozen BK198.out 2))
                  repeat (go_quiet (first | ((with_reducible refine gate_dst (N := 9) rfl ?_); refine box_event ?hg (N := 9) ?hd (cs := #[.int .i64 0, .int .i64 0, .int .i64 0]) (t := 26) ?hr ?_; (case hd => rfl); (case hg => rfl); (case hr => first | (go_simp; done) | (go_simp; rfl)); intro gb198 hg w18 hbox hb; have n0_ := Aside0.mk (Kd.R_below (Kd.R_elderB (by (with_reducible repeat (first | apply Kd.R_alloc | apply Kd.R_drewN | apply Kd.R_drew)); exact HO_5.out) gb198 (Nat.le_of_eq hg.symm)) hb); have n1_ := Aside0.mk (below_step (by repeat (first | (with_reducible first | exact HB.out | apply below_alloc | apply pw_below_drewN | apply below_drew1) | exact HB.out)) hb); have n2_ := Aside0.mk (hbox); have n3_ := Aside0.mk ((by rw [hg]; exact (below_size (by repeat (first | (with_reducible first | exact HB.out | apply below_alloc | apply pw_below_drewN | apply below_drew1) | exact HB.out))) : w.heap.size ≤ gb198)); have n4_ := Aside0.mk ((by rw [hg]; exact (below_size (by repeat (first | (with_reducible first | exact HB.out | apply below_alloc | apply pw_below_drewN | apply below_drew1) | exact HB.out))) : w.heap.size ≤ gb198)); clear HO_5; clear HB; have HO_5 := n0_; have HB := n1_; have BK198 := n2_; have GW198 := n3_; have GE198 := n4_; clear n0_ n1_ n2_ n3_ n4_; clear hb hbox hg; have hcz19_0 : w18.cell? ⟨gb198, 0, none⟩ = some (.int .i64 0) := (blk_cell BK198.out 0).trans rfl; have hcz19_1 : w18.cell? ⟨gb198, 1, none⟩ = some (.int .i64 0) := (blk_cell BK198.out 1).trans rfl; have hcz19_2 : w18.cell? ⟨gb198, 2, none⟩ = some (.int .i64 0) := (blk_cell BK198.out 2).trans rfl; have hfz19_0 := blk_frozen BK198.out 0; have hfz19_1 := blk_frozen BK198.out 1; have hfz19_2 := blk_frozen BK198.out 2)); try go_wp2_with (first | ((with_reducible refine gate_dst (N := 9) rfl ?_); refine box_event ?hg (N := 9) ?hd (cs := #[.int .i64 0, .int .i64 0, .int .i64 0]) (t := 26) ?hr ?_; (case hd => rfl); (case hg => rfl); (case hr => first | (go_simp; done) | (go_simp; rfl)); intro gb198 hg w18 hbox hb; have n0_ := Aside0.mk (Kd.R_below (Kd.R_elderB (by (with_reducible repeat (first | apply Kd.R_alloc | apply Kd.R_drewN | apply Kd.R_drew)); exact HO_5.out) gb198 (Nat.le_of_eq hg.symm)) hb); have n1_ := Aside0.mk (below_step (by repeat (first | (with_reducible first | exact HB.out | apply below_alloc | apply pw_below_drewN | apply below_drew1) | exact HB.out)) hb); have n2_ := Aside0.mk (hbox); have n3_ := Aside0.mk ((by rw [hg]; exact (below_size (by repeat (first | (with_reducible first | exact HB.out | apply below_alloc | apply pw_below_drewN | apply below_drew1) | exact HB.out))) : w.heap.size ≤ gb198)); have n4_ := Aside0.mk ((by rw [hg]; exact (below_size (by repeat (first | (with_reducible first | exact HB.out | apply below_alloc | apply pw_below_drewN | apply below_drew1) | exact HB.out))) : w.heap.size ≤ gb198)); clear HO_5; clear HB; have HO_5 := n0_; have HB := n1_; have BK198 := n2_; have GW198 := n3_; have GE198 := n4_; clear n0_ n1_ n2_ n3_ n4_; clear hb hbox hg; have hcz19_0 : w18.cell? ⟨gb198, 0, none⟩ = some (.int .i64 0) := (blk_cell BK198.out 0).trans rfl; have hcz19_1 : w18.cell? ⟨gb198, 1, none⟩ = some (.int .i64 0) := (blk_cell BK198.out 1).trans rfl; have hcz19_2 : w18.cell? ⟨gb198, 2, none⟩ = some (.int .i64 0) := (blk_cell BK198.out 2).trans rfl; have hfz19_0 := blk_frozen BK198.out 0; have hfz19_1 := blk_frozen BK198.out 1; have hfz19_2 := blk_frozen BK198.out 2)))
                  go_roundg k1
                  case measure => have := HK1.out; omega
                  case rel => exact ⟨(decide (a1 < ((rd_T26 l0 x21_1).f1))), (wrap64 (x21_1 + 1)), (by first | rfl | (simp; done) | (simp [*]; done)), (by first | rfl | (simp; done) | (simp [*]; done)), H', ⟨by have := HK1.out; omega⟩, ⟨by (with_reducible repeat (first | apply Kd.R_alloc | apply Kd.R_drewN | apply Kd.R_drew)); exact Kd.R_mono (Kd.R_far (p := ⟨gb198, 2, none⟩) (Kd.R_far (p := ⟨gb198, 1, none⟩) (Kd.R_far (p := ⟨gb198, 0, none⟩) (Kd.R_mono HO_5.out (fun k_ hk => (⟨hk, hk.2⟩ : _ ∧ k_ ≠ gb198))) (fun _ hk => hk.2) (.int .i64 ((rd_T26 l0 x21_1).f0))) (fun _ hk => hk.2) (.int .i64 ((rd_T26 l0 x21_1).f1))) (fun _ hk => hk.2) (.int .i64 ((rd_T26 l0 x21_1).f2))) (fun _ hk => trivial)⟩, ⟨by repeat (first | (with_reducible first | exact HB.out | apply below_alloc | apply pw_below_drewN | apply below_drew1 | refine below_set ?_ GE198.out) | exact HB.out)⟩⟩
                · rw [if_neg c17] at H
                  have c17b0 : decide (((rd_T26 l0 x21_1).f0) ≤ a1) = false := decide_eq_false c17
                  clear c17
                  have H' := Aside0.mk H
                  clear H
                  have p197 : 0 ≤ (x21_1 : Int) := of_decide_eq_true (by first | (with_reducible assumption) | assumption)
                  have q197 : x21_1 < (l0.length : Int) := of_decide_eq_true (by first | (with_reducible assumption) | assumption)
                  obtain ⟨ad197, e197, hx197_0, hx197_1, hx197_2⟩ := at_T26 HR0.out x21_1 p197 q197
                  cases e197
                  replace hx197_0 := (HB.out.cell (World.block_lt_of_cell? w _ hx197_0)).trans hx197_0
                  replace hx197_1 := (HB.out.cell (World.block_lt_of_cell? w _ hx197_1)).trans hx197_1
                  replace hx197_2 := (HB.out.cell (World.block_lt_of_cell? w _ hx197_2)).trans hx197_2
                  replace p197 := eq_true p197
                  replace q197 := eq_true q197
                  go_wp2_with (first | ((with_reducible refine gate_dst (N := 9) rfl ?_); refine box_event ?hg (N := 9) ?hd (cs := #[.int .i64 0, .int .i64 0, .int .i64 0]) (t := 26) ?hr ?_; (case hd => rfl); (case hg => rfl); (case hr => first | (go_simp; done) | (go_simp; rfl)); intro gb198 hg w20 hbox hb; have n0_ := Aside0.mk (Kd.R_below (Kd.R_elderB (by (with_reducible repeat (first | apply Kd.R_alloc | apply Kd.R_drewN | apply Kd.R_drew)); exact HO_5.out) gb198 (Nat.le_of_eq hg.symm)) hb); have n1_ := Aside0.mk (below_step (by repeat (first | (with_reducible first | exact HB.out | apply below_alloc | apply pw_below_drewN | apply below_drew1) | exact HB.out)) hb); have n2_ := Aside0.mk (hbox); have n3_ := Aside0.mk ((by rw [hg]; exact (below_size (by repeat (first | (with_reducible first | exact HB.out | apply below_alloc | apply pw_below_drewN | apply below_drew1) | exact HB.out))) : w.heap.size ≤ gb198)); have n4_ := Aside0.mk ((by rw [hg]; exact (below_size (by repeat (first | (with_reducible first | exact HB.out | apply below_alloc | apply pw_below_drewN | apply below_drew1) | exact HB.out))) : w.heap.size ≤ gb198)); clear HO_5; clear HB; have HO_5 := n0_; have HB := n1_; have BK198 := n2_; have GW198 := n3_; have GE198 := n4_; clear n0_ n1_ n2_ n3_ n4_; clear hb hbox hg; have hcz21_0 : w20.cell? ⟨gb198, 0, none⟩ = some (.int .i64 0) := (blk_cell BK198.out 0).trans rfl; have hcz21_1 : w20.cell? ⟨gb198, 1, none⟩ = some (.int .i64 0) := (blk_cell BK198.out 1).trans rfl; have hcz21_2 : w20.cell? ⟨gb198, 2, none⟩ = some (.int .i64 0) := (blk_cell BK198.out 2).trans rfl; have hfz21_0 := blk_frozen BK198.out 0; have hfz21_1 := blk_frozen BK198.out 1; have hfz21_2 := blk_frozen BK198.out 2))
                  repeat (go_quiet (first | ((with_reducible refine gate_dst (N := 9) rfl ?_); refine box_event ?hg (N := 9) ?hd (cs := #[.int .i64 0, .int .i64 0, .int .i64 0]) (t := 26) ?hr ?_; (case hd => rfl); (case hg => rfl); (case hr => first | (go_simp; done) | (go_simp; rfl)); intro gb198 hg w20 hbox hb; have n0_ := Aside0.mk (Kd.R_below (Kd.R_elderB (by (with_reducible repeat (first | apply Kd.R_alloc | apply Kd.R_drewN | apply Kd.R_drew)); exact HO_5.out) gb198 (Nat.le_of_eq hg.symm)) hb); have n1_ := Aside0.mk (below_step (by repeat (first | (with_reducible first | exact HB.out | apply below_alloc | apply pw_below_drewN | apply below_drew1) | exact HB.out)) hb); have n2_ := Aside0.mk (hbox); have n3_ := Aside0.mk ((by rw [hg]; exact (below_size (by repeat (first | (with_reducible first | exact HB.out | apply below_alloc | apply pw_below_drewN | apply below_drew1) | exact HB.out))) : w.heap.size ≤ gb198)); have n4_ := Aside0.mk ((by rw [hg]; exact (below_size (by repeat (first | (with_reducible first | exact HB.out | apply below_alloc | apply pw_below_drewN | apply below_drew1) | exact HB.out))) : w.heap.size ≤ gb198)); clear HO_5; clear HB; have HO_5 := n0_; have HB := n1_; have BK198 := n2_; have GW198 := n3_; have GE198 := n4_; clear n0_ n1_ n2_ n3_ n4_; clear hb hbox hg; have hcz21_0 : w20.cell? ⟨gb198, 0, none⟩ = some (.int .i64 0) := (blk_cell BK198.out 0).trans rfl; have hcz21_1 : w20.cell? ⟨gb198, 1, none⟩ = some (.int .i64 0) := (blk_cell BK198.out 1).trans rfl; have hcz21_2 : w20.cell? ⟨gb198, 2, none⟩ = some (.int .i64 0) := (blk_cell BK198.out 2).trans rfl; have hfz21_0 := blk_frozen BK198.out 0; have hfz21_1 := blk_frozen BK198.out 1; have hfz21_2 := blk_frozen BK198.out 2)); try go_wp2_with (first | ((with_reducible refine gate_dst (N := 9) rfl ?_); refine box_event ?hg (N := 9) ?hd (cs := #[.int .i64 0, .int .i64 0, .int .i64 0]) (t := 26) ?hr ?_; (case hd => rfl); (case hg => rfl); (case hr => first | (go_simp; done) | (go_simp; rfl)); intro gb198 hg w20 hbox hb; have n0_ := Aside0.mk (Kd.R_below (Kd.R_elderB (by (with_reducible repeat (first | apply Kd.R_alloc | apply Kd.R_drewN | apply Kd.R_drew)); exact HO_5.out) gb198 (Nat.le_of_eq hg.symm)) hb); have n1_ := Aside0.mk (below_step (by repeat (first | (with_reducible first | exact HB.out | apply below_alloc | apply pw_below_drewN | apply below_drew1) | exact HB.out)) hb); have n2_ := Aside0.mk (hbox); have n3_ := Aside0.mk ((by rw [hg]; exact (below_size (by repeat (first | (with_reducible first | exact HB.out | apply below_alloc | apply pw_below_drewN | apply below_drew1) | exact HB.out))) : w.heap.size ≤ gb198)); have n4_ := Aside0.mk ((by rw [hg]; exact (below_size (by repeat (first | (with_reducible first | exact HB.out | apply below_alloc | apply pw_below_drewN | apply below_drew1) | exact HB.out))) : w.heap.size ≤ gb198)); clear HO_5; clear HB; have HO_5 := n0_; have HB := n1_; have BK198 := n2_; have GW198 := n3_; have GE198 := n4_; clear n0_ n1_ n2_ n3_ n4_; clear hb hbox hg; have hcz21_0 : w20.cell? ⟨gb198, 0, none⟩ = some (.int .i64 0) := (blk_cell BK198.out 0).trans rfl; have hcz21_1 : w20.cell? ⟨gb198, 1, none⟩ = some (.int .i64 0) := (blk_cell BK198.out 1).trans rfl; have hcz21_2 : w20.cell? ⟨gb198, 2, none⟩ = some (.int .i64 0) := (blk_cell BK198.out 2).trans rfl; have hfz21_0 := blk_frozen BK198.out 0; have hfz21_1 := blk_frozen BK198.out 1; have hfz21_2 := blk_frozen BK198.out 2)))
                  go_roundg k1
                  case measure => have := HK1.out; omega
                  case rel => exact ⟨(false), (wrap64 (x21_1 + 1)), (by first | rfl | (simp; done) | (simp [*]; done)), (by first | rfl | (simp; done) | (simp [*]; done)), H', ⟨by have := HK1.out; omega⟩, ⟨by (with_reducible repeat (first | apply Kd.R_alloc | apply Kd.R_drewN | apply Kd.R_drew)); exact Kd.R_mono (Kd.R_far (p := ⟨gb198, 2, none⟩) (Kd.R_far (p := ⟨gb198, 1, none⟩) (Kd.R_far (p := ⟨gb198, 0, none⟩) (Kd.R_mono HO_5.out (fun k_ hk => (⟨hk, hk.2⟩ : _ ∧ k_ ≠ gb198))) (fun _ hk => hk.2) (.int .i64 ((rd_T26 l0 x21_1).f0))) (fun _ hk => hk.2) (.int .i64 ((rd_T26 l0 x21_1).f1))) (fun _ hk => hk.2) (.int .i64 ((rd_T26 l0 x21_1).f2))) (fun _ hk => trivial)⟩, ⟨by repeat (first | (with_reducible first | exact HB.out | apply below_alloc | apply pw_below_drewN | apply below_drew1 | refine below_set ?_ GE198.out) | exact HB.out)⟩⟩
            · rw [if_neg c13] at H
              exact absurd H (by simp)
          · rw [if_neg c12] at H
            exact absurd H (by simp)
        · rw [if_neg c11] at H
          have c11b0 : decide (x21_1 < (l0.length : Int)) = false := decide_eq_false c11
          clear c11
          have H' := Aside0.mk H
          clear H
          go_wp2
          repeat (go_quiet (fail); try go_wp2)
          go_loopg [7, 41] k1 (fun kq v7 v41 w' => ∃ (x7_2 : Bool) (x41_2 : Int), v7 = .bool x7_2 ∧ v41 = .int .i64 x41_2 ∧ Aside0 (almanaclaw25_BusyMerges.l1 kq a1 t190 x6_1 x7_2 t190 (t190.length : Int) x41_2 = some r) ∧ Aside0 (kq ≤ k1) ∧ Aside0 (Kd.R k26 26 w' w.heap.size (fun _ => True) (.slice Ao9 t190.length co9) t190) ∧ Aside0 (Kd.R k26 26 w' w.heap.size (fun _ => True) (.slice Ao9 t190.length co9) t190) ∧ Aside0 (Below w.heap.size w w'))
          case atStart => exact ⟨(false), (0), (by first | rfl | (simp; done) | (simp [*]; done)), (by first | rfl | (simp; done) | (simp [*]; done)), H', ⟨Nat.le_refl _⟩, ⟨by (with_reducible repeat (first | apply Kd.R_alloc | apply Kd.R_drewN | apply Kd.R_drew)); exact HO_5.out⟩, ⟨by (with_reducible repeat (first | apply Kd.R_alloc | apply Kd.R_drewN | apply Kd.R_drew)); exact HO_5.out⟩, ⟨by repeat (first | (with_reducible first | exact HB.out | apply below_alloc | apply pw_below_drewN | apply below_drew1) | exact HB.out)⟩⟩
          case round =>
            clear H'
            try clear c1
            try clear p1
            try clear q1
            try clear hx1
            try clear p2
            try clear c3
            try clear c6
            try clear p6
            try clear c11
            try clear c11b0
            try clear c12
            try clear c12b0
            try clear c13
            try clear c13b0
            try clear c14
            try clear c17
            try clear c17b0
            try clear p19
            try clear q19
            try clear hx19
            try clear hcz16_0
            try clear hcz16_1
            try clear hcz16_2
            try clear hcz19_0
            try clear hcz19_1
            try clear hcz19_2
            try clear hcz21_0
            try clear hcz21_1
            try clear hcz21_2
            try clear hfz16_0
            try clear hfz16_1
            try clear hfz16_2
            try clear hfz19_0
            try clear hfz19_1
            try clear hfz19_2
            try clear hfz21_0
            try clear hfz21_1
            try clear hfz21_2
            try clear hx197_0
            try clear hx197_1
            try clear hx197_2
            try clear p197
            try clear p2
            try clear q197
            obtain ⟨x7_2, x41_2, rfl, rfl, HA, HK2, HO_5, HO_39, HB⟩ := hrel
            cases gk with
            | zero => exact absurd HA.out (by simp [almanaclaw25_BusyMerges.l1])
            | succ k2 =>
              have H := HA.out
              clear HA
              simp only [almanaclaw25_BusyMerges.l1] at H
              by_cases c22 : x41_2 < (t190.length : Int)
              · rw [if_pos c22] at H
                have c22b0 : decide (x41_2 < (t190.length : Int)) = true := decide_eq_true c22
                clear c22
                by_cases c23 : 0 ≤ x41_2
                · rw [if_pos c23] at H
                  have c23b0 : decide (0 ≤ x41_2) = true := decide_eq_true c23
                  clear c23
                  by_cases c24 : x41_2 < (t190.length : Int)
                  · rw [if_pos c24] at H
                    have c24b0 : decide (x41_2 < (t190.length : Int)) = true := decide_eq_true c24
                    clear c24
                    by_cases c25 : x7_2 = true
                    · subst c25
                      have H1 : (if ((rd_T26 t190 x41_2).f0) ≥ ((rd_T26 t190 x41_2).f1) then (some false) else (if x41_2 > 0 then (if 0 ≤ (wrap64 (x41_2 - 1)) then (if (wrap64 (x41_2 - 1)) < (t190.length : Int) then (if ((rd_T26 t190 (wrap64 (x41_2 - 1))).f1) ≥ ((rd_T26 t190 x41_2).f0) then (some false) else (almanaclaw25_BusyMerges.l1 k2 a1 t190 x6_1 true t190 (t190.length : Int) (wrap64 (x41_2 + 1)))) else (none)) else (none)) else (almanaclaw25_BusyMerges.l1 k2 a1 t190 x6_1 true t190 (t190.length : Int) (wrap64 (x41_2 + 1))))) = some r := by rw [if_pos rfl] at H; exact H
                      clear H
                      have H := H1
                      clear H1
                      by_cases c26 : ((rd_T26 t190 x41_2).f0) ≥ ((rd_T26 t190 x41_2).f1)
                      · rw [if_pos c26] at H
                        have c26b0 : decide (((rd_T26 t190 x41_2).f1) ≤ ((rd_T26 t190 x41_2).f0)) = true := decide_eq_true c26
                        clear c26
                        exact absurd ((Option.some.inj H).trans HRT.out) (by decide)
                      · rw [if_neg c26] at H
                        have c26b0 : decide (((rd_T26 t190 x41_2).f1) ≤ ((rd_T26 t190 x41_2).f0)) = false := decide_eq_false c26
                        clear c26
                        by_cases c27 : x41_2 > 0
                        · rw [if_pos c27] at H
                          have c27b0 : decide (0 < x41_2) = true := decide_eq_true c27
                          clear c27
                          obtain ⟨ji28, hji28⟩ : ∃ j_ : Int, (wrap64 (x41_2 - 1)) = j_ := ⟨_, rfl⟩
                          replace H : (if 0 ≤ (ji28) then (if (ji28) < (t190.length : Int) then (if ((rd_T26 t190 (ji28)).f1) ≥ ((rd_T26 t190 x41_2).f0) then (some false) else (almanaclaw25_BusyMerges.l1 k2 a1 t190 x6_1 true t190 (t190.length : Int) (wrap64 (x41_2 + 1)))) else (none)) else (none)) = some r := by first | (rw [hji28] at H; exact H) | (simp only [hji28] at H ⊢; exact H)
                          have hji28w : (IntKind.i64.wrap (x41_2 - 1)) = ji28 := (i64_w _).trans hji28
                          by_cases c29 : 0 ≤ (ji28)
                          · rw [if_pos c29] at H
                            have c29b0 : decide (0 ≤ (ji28)) = true := decide_eq_true c29
                            clear c29
                            by_cases c30 : (ji28) < (t190.length : Int)
                            · rw [if_pos c30] at H
                              have c30b0 : decide ((ji28) < (t190.length : Int)) = true := decide_eq_true c30
                              clear c30
                              by_cases c31 : ((rd_T26 t190 (ji28)).f1) ≥ ((rd_T26 t190 x41_2).f0)
                              · rw [if_pos c31] at H
                                have c31b0 : decide (((rd_T26 t190 x41_2).f0) ≤ ((rd_T26 t190 (ji28)).f1)) = true := decide_eq_true c31
                                clear c31
                                exact absurd ((Option.some.inj H).trans HRT.out) (by decide)
                              · rw [if_neg c31] at H
                                have c31b0 : decide (((rd_T26 t190 x41_2).f0) ≤ ((rd_T26 t190 (ji28)).f1)) = false := decide_eq_false c31
                                clear c31
                                have H' := Aside0.mk H
                                clear H
                                have p199 : 0 ≤ (x41_2 : Int) := of_decide_eq_true (by first | (with_reducible assumption) | assumption)
                                have q199 : x41_2 < (t190.length : Int) := of_decide_eq_true (by first | (with_reducible assumption) | assumption)
                                obtain ⟨ad199, e199, hx199_0, hx199_1, hx199_2⟩ := at_T26 (Kd.R_reads' HO_39.out).2.2 x41_2 p199 q199
                                cases e199
                                replace p199 := eq_true p199
                                replace q199 := eq_true q199
                                go_wp2_with (first | ((with_reducible refine gate_dst (N := 11) rfl ?_); refine box_event ?hg (N := 11) ?hd (cs := #[.int .i64 0, .int .i64 0, .int .i64 0]) (t := 26) ?hr ?_; (case hd => rfl); (case hg => rfl); (case hr => first | (go_simp; done) | (go_simp; rfl)); intro gb200 hg w32 hbox hb; have n0_ := Aside0.mk (Kd.R_below (Kd.R_elderB (by (with_reducible repeat (first | apply Kd.R_alloc | apply Kd.R_drewN | apply Kd.R_drew)); exact HO_5.out) gb200 (Nat.le_of_eq hg.symm)) hb); have n1_ := Aside0.mk (Kd.R_below (Kd.R_elderB (by (with_reducible repeat (first | apply Kd.R_alloc | apply Kd.R_drewN | apply Kd.R_drew)); exact HO_39.out) gb200 (Nat.le_of_eq hg.symm)) hb); have n2_ := Aside0.mk (below_step (by repeat (first | (with_reducible first | exact HB.out | apply below_alloc | apply pw_below_drewN | apply below_drew1) | exact HB.out)) hb); have n3_ := Aside0.mk (hbox); have n4_ := Aside0.mk ((by rw [hg]; exact (below_size (by repeat (first | (with_reducible first | exact HB.out | apply below_alloc | apply pw_below_drewN | apply below_drew1) | exact HB.out))) : w.heap.size ≤ gb200)); have n5_ := Aside0.mk ((by rw [hg]; exact (below_size (by repeat (first | (with_reducible first | exact HB.out | apply below_alloc | apply pw_below_drewN | apply below_drew1) | exact HB.out))) : w.heap.size ≤ gb200)); clear HO_5; clear HO_39; clear HB; have HO_5 := n0_; have HO_39 := n1_; have HB := n2_; have BK200 := n3_; have GW200 := n4_; have GE200 := n5_; clear n0_ n1_ n2_ n3_ n4_ n5_; clear hb hbox hg; have hcz33_0 : w32.cell? ⟨gb200, 0, none⟩ = some (.int .i64 0) := (blk_cell BK200.out 0).trans rfl; have hcz33_1 : w32.cell? ⟨gb200, 1, none⟩ = some (.int .i64 0) := (blk_cell BK200.out 1).trans rfl; have hcz33_2 : w32.cell? ⟨gb200, 2, none⟩ = some (.int .i64 0) := (blk_cell BK200.out 2).trans rfl; have hfz33_0 := blk_frozen BK200.out 0; have hfz33_1 := blk_frozen BK200.out 1; have hfz33_2 := blk_frozen BK200.out 2; have p201 : 0 ≤ ((ji28) : Int) := of_decide_eq_true (by first | (with_reducible assumption) | assumption); have q201 : (ji28) < (t190.length : Int) := of_decide_eq_true (by first | (with_reducible assumption) | assumption); obtain ⟨ad201, e201, hx201_0, hx201_1, hx201_2⟩ := at_T26 (Kd.R_reads' HO_5.out).2.2 (ji28) p201 q201; obtain rfl : ad199 = ad201 := (by injection e201); have hn201_0 : ad199.block ≠ gb200 := Kd.own_blk (fun e_ => (HO_5.out.1 _ e_.symm).2 rfl); have hn201_1 : ad199.block ≠ gb200 := Kd.own_blk (fun e_ => (HO_5.out.1 _ e_.symm).2 rfl); have hn201_2 : ad199.block ≠ gb200 := Kd.own_blk (fun e_ => (HO_5.out.1 _ e_.symm).2 rfl); replace hx201_0 := (cell_far (p := ⟨gb200, 0, none⟩) (by first | (rw [add_block]; exact hn201_0) | (show (Addr.add _ _).block ≠ _; rw [add_block]; exact hn201_0) | exact hn201_0) (.int .i64 ((rd_T26 t190 x41_2).f0))).trans hx201_0; replace hx201_1 := (cell_far (p := ⟨gb200, 0, none⟩) (by first | (rw [add_block]; exact hn201_0) | (show (Addr.add _ _).block ≠ _; rw [add_block]; exact hn201_0) | exact hn201_0) (.int .i64 ((rd_T26 t190 x41_2).f0))).trans hx201_1; replace hx201_2 := (cell_far (p := ⟨gb200, 0, none⟩) (by first | (rw [add_block]; exact hn201_0) | (show (Addr.add _ _).block ≠ _; rw [add_block]; exact hn201_0) | exact hn201_0) (.int .i64 ((rd_T26 t190 x41_2).f0))).trans hx201_2; replace hx201_0 := (cell_far (p := ⟨gb200, 1, none⟩) (by first | (rw [add_block]; exact hn201_1) | (show (Addr.add _ _).block ≠ _; rw [add_block]; exact hn201_1) | exact hn201_1) (.int .i64 ((rd_T26 t190 x41_2).f1))).trans hx201_0; replace hx201_1 := (cell_far (p := ⟨gb200, 1, none⟩) (by first | (rw [add_block]; exact hn201_1) | (show (Addr.add _ _).block ≠ _; rw [add_block]; exact hn201_1) | exact hn201_1) (.int .i64 ((rd_T26 t190 x41_2).f1))).trans hx201_1; replace hx201_2 := (cell_far (p := ⟨gb200, 1, none⟩) (by first | (rw [add_block]; exact hn201_1) | (show (Addr.add _ _).block ≠ _; rw [add_block]; exact hn201_1) | exact hn201_1) (.int .i64 ((rd_T26 t190 x41_2).f1))).trans hx201_2; replace hx201_0 := (cell_far (p := ⟨gb200, 2, none⟩) (by first | (rw [add_block]; exact hn201_2) | (show (Addr.add _ _).block ≠ _; rw [add_block]; exact hn201_2) | exact hn201_2) (.int .i64 ((rd_T26 t190 x41_2).f2))).trans hx201_0; replace hx201_1 := (cell_far (p := ⟨gb200, 2, none⟩) (by first | (rw [add_block]; exact hn201_2) | (show (Addr.add _ _).block ≠ _; rw [add_block]; exact hn201_2) | exact hn201_2) (.int .i64 ((rd_T26 t190 x41_2).f2))).trans hx201_1; replace hx201_2 := (cell_far (p := ⟨gb200, 2, none⟩) (by first | (rw [add_block]; exact hn201_2) | (show (Addr.add _ _).block ≠ _; rw [add_block]; exact hn201_2) | exact hn201_2) (.int .i64 ((rd_T26 t190 x41_2).f2))).trans hx201_2; (try have hy201_0 := fun (n_ : Nat) => (show (((((w32.drewN n_).setCell ⟨gb200, 0, none⟩ (.int .i64 ((rd_T26 t190 x41_2).f0))).setCell ⟨gb200, 1, none⟩ (.int .i64 ((rd_T26 t190 x41_2).f1))).setCell ⟨gb200, 2, none⟩ (.int .i64 ((rd_T26 t190 x41_2).f2)))).cell? _ = some _ from hx201_0)); (try have hy201_1 := fun (n_ : Nat) => (show (((((w32.drewN n_).setCell ⟨gb200, 0, none⟩ (.int .i64 ((rd_T26 t190 x41_2).f0))).setCell ⟨gb200, 1, none⟩ (.int .i64 ((rd_T26 t190 x41_2).f1))).setCell ⟨gb200, 2, none⟩ (.int .i64 ((rd_T26 t190 x41_2).f2)))).cell? _ = some _ from hx201_1)); (try have hy201_2 := fun (n_ : Nat) => (show (((((w32.drewN n_).setCell ⟨gb200, 0, none⟩ (.int .i64 ((rd_T26 t190 x41_2).f0))).setCell ⟨gb200, 1, none⟩ (.int .i64 ((rd_T26 t190 x41_2).f1))).setCell ⟨gb200, 2, none⟩ (.int .i64 ((rd_T26 t190 x41_2).f2)))).cell? _ = some _ from hx201_2)); clear hn201_0; clear hn201_1; clear hn201_2; replace p201 := eq_true p201; replace q201 := eq_true q201))
                                repeat (go_quiet (first | ((with_reducible refine gate_dst (N := 11) rfl ?_); refine box_event ?hg (N := 11) ?hd (cs := #[.int .i64 0, .int .i64 0, .int .i64 0]) (t := 26) ?hr ?_; (case hd => rfl); (case hg => rfl); (case hr => first | (go_simp; done) | (go_simp; rfl)); intro gb200 hg w32 hbox hb; have n0_ := Aside0.mk (Kd.R_below (Kd.R_elderB (by (with_reducible repeat (first | apply Kd.R_alloc | apply Kd.R_drewN | apply Kd.R_drew)); exact HO_5.out) gb200 (Nat.le_of_eq hg.symm)) hb); have n1_ := Aside0.mk (Kd.R_below (Kd.R_elderB (by (with_reducible repeat (first | apply Kd.R_alloc | apply Kd.R_drewN | apply Kd.R_drew)); exact HO_39.out) gb200 (Nat.le_of_eq hg.symm)) hb); have n2_ := Aside0.mk (below_step (by repeat (first | (with_reducible first | exact HB.out | apply below_alloc | apply pw_below_drewN | apply below_drew1) | exact HB.out)) hb); have n3_ := Aside0.mk (hbox); have n4_ := Aside0.mk ((by rw [hg]; exact (below_size (by repeat (first | (with_reducible first | exact HB.out | apply below_alloc | apply pw_below_drewN | apply below_drew1) | exact HB.out))) : w.heap.size ≤ gb200)); have n5_ := Aside0.mk ((by rw [hg]; exact (below_size (by repeat (first | (with_reducible first | exact HB.out | apply below_alloc | apply pw_below_drewN | apply below_drew1) | exact HB.out))) : w.heap.size ≤ gb200)); clear HO_5; clear HO_39; clear HB; have HO_5 := n0_; have HO_39 := n1_; have HB := n2_; have BK200 := n3_; have GW200 := n4_; have GE200 := n5_; clear n0_ n1_ n2_ n3_ n4_ n5_; clear hb hbox hg; have hcz33_0 : w32.cell? ⟨gb200, 0, none⟩ = some (.int .i64 0) := (blk_cell BK200.out 0).trans rfl; have hcz33_1 : w32.cell? ⟨gb200, 1, none⟩ = some (.int .i64 0) := (blk_cell BK200.out 1).trans rfl; have hcz33_2 : w32.cell? ⟨gb200, 2, none⟩ = some (.int .i64 0) := (blk_cell BK200.out 2).trans rfl; have hfz33_0 := blk_frozen BK200.out 0; have hfz33_1 := blk_frozen BK200.out 1; have hfz33_2 := blk_frozen BK200.out 2; have p201 : 0 ≤ ((ji28) : Int) := of_decide_eq_true (by first | (with_reducible assumption) | assumption); have q201 : (ji28) < (t190.length : Int) := of_decide_eq_true (by first | (with_reducible assumption) | assumption); obtain ⟨ad201, e201, hx201_0, hx201_1, hx201_2⟩ := at_T26 (Kd.R_reads' HO_5.out).2.2 (ji28) p201 q201; obtain rfl : ad199 = ad201 := (by injection e201); have hn201_0 : ad199.block ≠ gb200 := Kd.own_blk (fun e_ => (HO_5.out.1 _ e_.symm).2 rfl); have hn201_1 : ad199.block ≠ gb200 := Kd.own_blk (fun e_ => (HO_5.out.1 _ e_.symm).2 rfl); have hn201_2 : ad199.block ≠ gb200 := Kd.own_blk (fun e_ => (HO_5.out.1 _ e_.symm).2 rfl); replace hx201_0 := (cell_far (p := ⟨gb200, 0, none⟩) (by first | (rw [add_block]; exact hn201_0) | (show (Addr.add _ _).block ≠ _; rw [add_block]; exact hn201_0) | exact hn201_0) (.int .i64 ((rd_T26 t190 x41_2).f0))).trans hx201_0; replace hx201_1 := (cell_far (p := ⟨gb200, 0, none⟩) (by first | (rw [add_block]; exact hn201_0) | (show (Addr.add _ _).block ≠ _; rw [add_block]; exact hn201_0) | exact hn201_0) (.int .i64 ((rd_T26 t190 x41_2).f0))).trans hx201_1; replace hx201_2 := (cell_far (p := ⟨gb200, 0, none⟩) (by first | (rw [add_block]; exact hn201_0) | (show (Addr.add _ _).block ≠ _; rw [add_block]; exact hn201_0) | exact hn201_0) (.int .i64 ((rd_T26 t190 x41_2).f0))).trans hx201_2; replace hx201_0 := (cell_far (p := ⟨gb200, 1, none⟩) (by first | (rw [add_block]; exact hn201_1) | (show (Addr.add _ _).block ≠ _; rw [add_block]; exact hn201_1) | exact hn201_1) (.int .i64 ((rd_T26 t190 x41_2).f1))).trans hx201_0; replace hx201_1 := (cell_far (p := ⟨gb200, 1, none⟩) (by first | (rw [add_block]; exact hn201_1) | (show (Addr.add _ _).block ≠ _; rw [add_block]; exact hn201_1) | exact hn201_1) (.int .i64 ((rd_T26 t190 x41_2).f1))).trans hx201_1; replace hx201_2 := (cell_far (p := ⟨gb200, 1, none⟩) (by first | (rw [add_block]; exact hn201_1) | (show (Addr.add _ _).block ≠ _; rw [add_block]; exact hn201_1) | exact hn201_1) (.int .i64 ((rd_T26 t190 x41_2).f1))).trans hx201_2; replace hx201_0 := (cell_far (p := ⟨gb200, 2, none⟩) (by first | (rw [add_block]; exact hn201_2) | (show (Addr.add _ _).block ≠ _; rw [add_block]; exact hn201_2) | exact hn201_2) (.int .i64 ((rd_T26 t190 x41_2).f2))).trans hx201_0; replace hx201_1 := (cell_far (p := ⟨gb200, 2, none⟩) (by first | (rw [add_block]; exact hn201_2) | (show (Addr.add _ _).block ≠ _; rw [add_block]; exact hn201_2) | exact hn201_2) (.int .i64 ((rd_T26 t190 x41_2).f2))).trans hx201_1; replace hx201_2 := (cell_far (p := ⟨gb200, 2, none⟩) (by first | (rw [add_block]; exact hn201_2) | (show (Addr.add _ _).block ≠ _; rw [add_block]; exact hn201_2) | exact hn201_2) (.int .i64 ((rd_T26 t190 x41_2).f2))).trans hx201_2; (try have hy201_0 := fun (n_ : Nat) => (show (((((w32.drewN n_).setCell ⟨gb200, 0, none⟩ (.int .i64 ((rd_T26 t190 x41_2).f0))).setCell ⟨gb200, 1, none⟩ (.int .i64 ((rd_T26 t190 x41_2).f1))).setCell ⟨gb200, 2, none⟩ (.int .i64 ((rd_T26 t190 x41_2).f2)))).cell? _ = some _ from hx201_0)); (try have hy201_1 := fun (n_ : Nat) => (show (((((w32.drewN n_).setCell ⟨gb200, 0, none⟩ (.int .i64 ((rd_T26 t190 x41_2).f0))).setCell ⟨gb200, 1, none⟩ (.int .i64 ((rd_T26 t190 x41_2).f1))).setCell ⟨gb200, 2, none⟩ (.int .i64 ((rd_T26 t190 x41_2).f2)))).cell? _ = some _ from hx201_1)); (try have hy201_2 := fun (n_ : Nat) => (show (((((w32.drewN n_).setCell ⟨gb200, 0, none⟩ (.int .i64 ((rd_T26 t190 x41_2).f0))).setCell ⟨gb200, 1, none⟩ (.int .i64 ((rd_T26 t190 x41_2).f1))).setCell ⟨gb200, 2, none⟩ (.int .i64 ((rd_T26 t190 x41_2).f2)))).cell? _ = some _ from hx201_2)); clear hn201_0; clear hn201_1; clear hn201_2; replace p201 := eq_true p201; replace q201 := eq_true q201)); try go_wp2_with (first | ((with_reducible refine gate_dst (N := 11) rfl ?_); refine box_event ?hg (N := 11) ?hd (cs := #[.int .i64 0, .int .i64 0, .int .i64 0]) (t := 26) ?hr ?_; (case hd => rfl); (case hg => rfl); (case hr => first | (go_simp; done) | (go_simp; rfl)); intro gb200 hg w32 hbox hb; have n0_ := Aside0.mk (Kd.R_below (Kd.R_elderB (by (with_reducible repeat (first | apply Kd.R_alloc | apply Kd.R_drewN | apply Kd.R_drew)); exact HO_5.out) gb200 (Nat.le_of_eq hg.symm)) hb); have n1_ := Aside0.mk (Kd.R_below (Kd.R_elderB (by (with_reducible repeat (first | apply Kd.R_alloc | apply Kd.R_drewN | apply Kd.R_drew)); exact HO_39.out) gb200 (Nat.le_of_eq hg.symm)) hb); have n2_ := Aside0.mk (below_step (by repeat (first | (with_reducible first | exact HB.out | apply below_alloc | apply pw_below_drewN | apply below_drew1) | exact HB.out)) hb); have n3_ := Aside0.mk (hbox); have n4_ := Aside0.mk ((by rw [hg]; exact (below_size (by repeat (first | (with_reducible first | exact HB.out | apply below_alloc | apply pw_below_drewN | apply below_drew1) | exact HB.out))) : w.heap.size ≤ gb200)); have n5_ := Aside0.mk ((by rw [hg]; exact (below_size (by repeat (first | (with_reducible first | exact HB.out | apply below_alloc | apply pw_below_drewN | apply below_drew1) | exact HB.out))) : w.heap.size ≤ gb200)); clear HO_5; clear HO_39; clear HB; have HO_5 := n0_; have HO_39 := n1_; have HB := n2_; have BK200 := n3_; have GW200 := n4_; have GE200 := n5_; clear n0_ n1_ n2_ n3_ n4_ n5_; clear hb hbox hg; have hcz33_0 : w32.cell? ⟨gb200, 0, none⟩ = some (.int .i64 0) := (blk_cell BK200.out 0).trans rfl; have hcz33_1 : w32.cell? ⟨gb200, 1, none⟩ = some (.int .i64 0) := (blk_cell BK200.out 1).trans rfl; have hcz33_2 : w32.cell? ⟨gb200, 2, none⟩ = some (.int .i64 0) := (blk_cell BK200.out 2).trans rfl; have hfz33_0 := blk_frozen BK200.out 0; have hfz33_1 := blk_frozen BK200.out 1; have hfz33_2 := blk_frozen BK200.out 2; have p201 : 0 ≤ ((ji28) : Int) := of_decide_eq_true (by first | (with_reducible assumption) | assumption); have q201 : (ji28) < (t190.length : Int) := of_decide_eq_true (by first | (with_reducible assumption) | assumption); obtain ⟨ad201, e201, hx201_0, hx201_1, hx201_2⟩ := at_T26 (Kd.R_reads' HO_5.out).2.2 (ji28) p201 q201; obtain rfl : ad199 = ad201 := (by injection e201); have hn201_0 : ad199.block ≠ gb200 := Kd.own_blk (fun e_ => (HO_5.out.1 _ e_.symm).2 rfl); have hn201_1 : ad199.block ≠ gb200 := Kd.own_blk (fun e_ => (HO_5.out.1 _ e_.symm).2 rfl); have hn201_2 : ad199.block ≠ gb200 := Kd.own_blk (fun e_ => (HO_5.out.1 _ e_.symm).2 rfl); replace hx201_0 := (cell_far (p := ⟨gb200, 0, none⟩) (by first | (rw [add_block]; exact hn201_0) | (show (Addr.add _ _).block ≠ _; rw [add_block]; exact hn201_0) | exact hn201_0) (.int .i64 ((rd_T26 t190 x41_2).f0))).trans hx201_0; replace hx201_1 := (cell_far (p := ⟨gb200, 0, none⟩) (by first | (rw [add_block]; exact hn201_0) | (show (Addr.add _ _).block ≠ _; rw [add_block]; exact hn201_0) | exact hn201_0) (.int .i64 ((rd_T26 t190 x41_2).f0))).trans hx201_1; replace hx201_2 := (cell_far (p := ⟨gb200, 0, none⟩) (by first | (rw [add_block]; exact hn201_0) | (show (Addr.add _ _).block ≠ _; rw [add_block]; exact hn201_0) | exact hn201_0) (.int .i64 ((rd_T26 t190 x41_2).f0))).trans hx201_2; replace hx201_0 := (cell_far (p := ⟨gb200, 1, none⟩) (by first | (rw [add_block]; exact hn201_1) | (show (Addr.add _ _).block ≠ _; rw [add_block]; exact hn201_1) | exact hn201_1) (.int .i64 ((rd_T26 t190 x41_2).f1))).trans hx201_0; replace hx201_1 := (cell_far (p := ⟨gb200, 1, none⟩) (by first | (rw [add_block]; exact hn201_1) | (show (Addr.add _ _).block ≠ _; rw [add_block]; exact hn201_1) | exact hn201_1) (.int .i64 ((rd_T26 t190 x41_2).f1))).trans hx201_1; replace hx201_2 := (cell_far (p := ⟨gb200, 1, none⟩) (by first | (rw [add_block]; exact hn201_1) | (show (Addr.add _ _).block ≠ _; rw [add_block]; exact hn201_1) | exact hn201_1) (.int .i64 ((rd_T26 t190 x41_2).f1))).trans hx201_2; replace hx201_0 := (cell_far (p := ⟨gb200, 2, none⟩) (by first | (rw [add_block]; exact hn201_2) | (show (Addr.add _ _).block ≠ _; rw [add_block]; exact hn201_2) | exact hn201_2) (.int .i64 ((rd_T26 t190 x41_2).f2))).trans hx201_0; replace hx201_1 := (cell_far (p := ⟨gb200, 2, none⟩) (by first | (rw [add_block]; exact hn201_2) | (show (Addr.add _ _).block ≠ _; rw [add_block]; exact hn201_2) | exact hn201_2) (.int .i64 ((rd_T26 t190 x41_2).f2))).trans hx201_1; replace hx201_2 := (cell_far (p := ⟨gb200, 2, none⟩) (by first | (rw [add_block]; exact hn201_2) | (show (Addr.add _ _).block ≠ _; rw [add_block]; exact hn201_2) | exact hn201_2) (.int .i64 ((rd_T26 t190 x41_2).f2))).trans hx201_2; (try have hy201_0 := fun (n_ : Nat) => (show (((((w32.drewN n_).setCell ⟨gb200, 0, none⟩ (.int .i64 ((rd_T26 t190 x41_2).f0))).setCell ⟨gb200, 1, none⟩ (.int .i64 ((rd_T26 t190 x41_2).f1))).setCell ⟨gb200, 2, none⟩ (.int .i64 ((rd_T26 t190 x41_2).f2)))).cell? _ = some _ from hx201_0)); (try have hy201_1 := fun (n_ : Nat) => (show (((((w32.drewN n_).setCell ⟨gb200, 0, none⟩ (.int .i64 ((rd_T26 t190 x41_2).f0))).setCell ⟨gb200, 1, none⟩ (.int .i64 ((rd_T26 t190 x41_2).f1))).setCell ⟨gb200, 2, none⟩ (.int .i64 ((rd_T26 t190 x41_2).f2)))).cell? _ = some _ from hx201_1)); (try have hy201_2 := fun (n_ : Nat) => (show (((((w32.drewN n_).setCell ⟨gb200, 0, none⟩ (.int .i64 ((rd_T26 t190 x41_2).f0))).setCell ⟨gb200, 1, none⟩ (.int .i64 ((rd_T26 t190 x41_2).f1))).setCell ⟨gb200, 2, none⟩ (.int .i64 ((rd_T26 t190 x41_2).f2)))).cell? _ = some _ from hx201_2)); clear hn201_0; clear hn201_1; clear hn201_2; replace p201 := eq_true p201; replace q201 := eq_true q201)))
                                go_roundg k2
                                case measure => have := HK1.out; have := HK2.out; omega
                                case rel => exact ⟨(true), (wrap64 (x41_2 + 1)), (by first | rfl | (simp; done) | (simp [*]; done)), (by first | rfl | (simp; done) | (simp [*]; done)), H', ⟨by have := HK1.out; have := HK2.out; omega⟩, ⟨by (with_reducible repeat (first | apply Kd.R_alloc | apply Kd.R_drewN | apply Kd.R_drew)); exact Kd.R_mono (Kd.R_far (p := ⟨gb200, 2, none⟩) (Kd.R_far (p := ⟨gb200, 1, none⟩) (Kd.R_far (p := ⟨gb200, 0, none⟩) (Kd.R_mono HO_5.out (fun k_ hk => (⟨hk, hk.2⟩ : _ ∧ k_ ≠ gb200))) (fun _ hk => hk.2) (.int .i64 ((rd_T26 t190 x41_2).f0))) (fun _ hk => hk.2) (.int .i64 ((rd_T26 t190 x41_2).f1))) (fun _ hk => hk.2) (.int .i64 ((rd_T26 t190 x41_2).f2))) (fun _ hk => trivial)⟩, ⟨by (with_reducible repeat (first | apply Kd.R_alloc | apply Kd.R_drewN | apply Kd.R_drew)); exact Kd.R_mono (Kd.R_far (p := ⟨gb200, 2, none⟩) (Kd.R_far (p := ⟨gb200, 1, none⟩) (Kd.R_far (p := ⟨gb200, 0, none⟩) (Kd.R_mono HO_39.out (fun k_ hk => (⟨hk, hk.2⟩ : _ ∧ k_ ≠ gb200))) (fun _ hk => hk.2) (.int .i64 ((rd_T26 t190 x41_2).f0))) (fun _ hk => hk.2) (.int .i64 ((rd_T26 t190 x41_2).f1))) (fun _ hk => hk.2) (.int .i64 ((rd_T26 t190 x41_2).f2))) (fun _ hk => trivial)⟩, ⟨by repeat (first | (with_reducible first | exact HB.out | apply below_alloc | apply pw_below_drewN | apply below_drew1 | refine below_set ?_ GE200.out) | exact HB.out)⟩⟩
                            · rw [if_neg c30] at H
                              exact absurd H (by simp)
                          · rw [if_neg c29] at H
                            exact absurd H (by simp)
                        · rw [if_neg c27] at H
                          have c27b0 : decide (0 < x41_2) = false := decide_eq_false c27
                          clear c27
                          have H' := Aside0.mk H
                          clear H
                          have p199 : 0 ≤ (x41_2 : Int) := of_decide_eq_true (by first | (with_reducible assumption) | assumption)
                          have q199 : x41_2 < (t190.length : Int) := of_decide_eq_true (by first | (with_reducible assumption) | assumption)
                          obtain ⟨ad199, e199, hx199_0, hx199_1, hx199_2⟩ := at_T26 (Kd.R_reads' HO_39.out).2.2 x41_2 p199 q199
                          cases e199
                          replace p199 := eq_true p199
                          replace q199 := eq_true q199
                          go_wp2_with (first | ((with_reducible refine gate_dst (N := 11) rfl ?_); refine box_event ?hg (N := 11) ?hd (cs := #[.int .i64 0, .int .i64 0, .int .i64 0]) (t := 26) ?hr ?_; (case hd => rfl); (case hg => rfl); (case hr => first | (go_simp; done) | (go_simp; rfl)); intro gb200 hg w34 hbox hb; have n0_ := Aside0.mk (Kd.R_below (Kd.R_elderB (by (with_reducible repeat (first | apply Kd.R_alloc | apply Kd.R_drewN | apply Kd.R_drew)); exact HO_5.out) gb200 (Nat.le_of_eq hg.symm)) hb); have n1_ := Aside0.mk (Kd.R_below (Kd.R_elderB (by (with_reducible repeat (first | apply Kd.R_alloc | apply Kd.R_drewN | apply Kd.R_drew)); exact HO_39.out) gb200 (Nat.le_of_eq hg.symm)) hb); have n2_ := Aside0.mk (below_step (by repeat (first | (with_reducible first | exact HB.out | apply below_alloc | apply pw_below_drewN | apply below_drew1) | exact HB.out)) hb); have n3_ := Aside0.mk (hbox); have n4_ := Aside0.mk ((by rw [hg]; exact (below_size (by repeat (first | (with_reducible first | exact HB.out | apply below_alloc | apply pw_below_drewN | apply below_drew1) | exact HB.out))) : w.heap.size ≤ gb200)); have n5_ := Aside0.mk ((by rw [hg]; exact (below_size (by repeat (first | (with_reducible first | exact HB.out | apply below_alloc | apply pw_below_drewN | apply below_drew1) | exact HB.out))) : w.heap.size ≤ gb200)); clear HO_5; clear HO_39; clear HB; have HO_5 := n0_; have HO_39 := n1_; have HB := n2_; have BK200 := n3_; have GW200 := n4_; have GE200 := n5_; clear n0_ n1_ n2_ n3_ n4_ n5_; clear hb hbox hg; have hcz35_0 : w34.cell? ⟨gb200, 0, none⟩ = some (.int .i64 0) := (blk_cell BK200.out 0).trans rfl; have hcz35_1 : w34.cell? ⟨gb200, 1, none⟩ = some (.int .i64 0) := (blk_cell BK200.out 1).trans rfl; have hcz35_2 : w34.cell? ⟨gb200, 2, none⟩ = some (.int .i64 0) := (blk_cell BK200.out 2).trans rfl; have hfz35_0 := blk_frozen BK200.out 0; have hfz35_1 := blk_frozen BK200.out 1; have hfz35_2 := blk_frozen BK200.out 2))
                          repeat (go_quiet (first | ((with_reducible refine gate_dst (N := 11) rfl ?_); refine box_event ?hg (N := 11) ?hd (cs := #[.int .i64 0, .int .i64 0, .int .i64 0]) (t := 26) ?hr ?_; (case hd => rfl); (case hg => rfl); (case hr => first | (go_simp; done) | (go_simp; rfl)); intro gb200 hg w34 hbox hb; have n0_ := Aside0.mk (Kd.R_below (Kd.R_elderB (by (with_reducible repeat (first | apply Kd.R_alloc | apply Kd.R_drewN | apply Kd.R_drew)); exact HO_5.out) gb200 (Nat.le_of_eq hg.symm)) hb); have n1_ := Aside0.mk (Kd.R_below (Kd.R_elderB (by (with_reducible repeat (first | apply Kd.R_alloc | apply Kd.R_drewN | apply Kd.R_drew)); exact HO_39.out) gb200 (Nat.le_of_eq hg.symm)) hb); have n2_ := Aside0.mk (below_step (by repeat (first | (with_reducible first | exact HB.out | apply below_alloc | apply pw_below_drewN | apply below_drew1) | exact HB.out)) hb); have n3_ := Aside0.mk (hbox); have n4_ := Aside0.mk ((by rw [hg]; exact (below_size (by repeat (first | (with_reducible first | exact HB.out | apply below_alloc | apply pw_below_drewN | apply below_drew1) | exact HB.out))) : w.heap.size ≤ gb200)); have n5_ := Aside0.mk ((by rw [hg]; exact (below_size (by repeat (first | (with_reducible first | exact HB.out | apply below_alloc | apply pw_below_drewN | apply below_drew1) | exact HB.out))) : w.heap.size ≤ gb200)); clear HO_5; clear HO_39; clear HB; have HO_5 := n0_; have HO_39 := n1_; have HB := n2_; have BK200 := n3_; have GW200 := n4_; have GE200 := n5_; clear n0_ n1_ n2_ n3_ n4_ n5_; clear hb hbox hg; have hcz35_0 : w34.cell? ⟨gb200, 0, none⟩ = some (.int .i64 0) := (blk_cell BK200.out 0).trans rfl; have hcz35_1 : w34.cell? ⟨gb200, 1, none⟩ = some (.int .i64 0) := (blk_cell BK200.out 1).trans rfl; have hcz35_2 : w34.cell? ⟨gb200, 2, none⟩ = some (.int .i64 0) := (blk_cell BK200.out 2).trans rfl; have hfz35_0 := blk_frozen BK200.out 0; have hfz35_1 := blk_frozen BK200.out 1; have hfz35_2 := blk_frozen BK200.out 2)); try go_wp2_with (first | ((with_reducible refine gate_dst (N := 11) rfl ?_); refine box_event ?hg (N := 11) ?hd (cs := #[.int .i64 0, .int .i64 0, .int .i64 0]) (t := 26) ?hr ?_; (case hd => rfl); (case hg => rfl); (case hr => first | (go_simp; done) | (go_simp; rfl)); intro gb200 hg w34 hbox hb; have n0_ := Aside0.mk (Kd.R_below (Kd.R_elderB (by (with_reducible repeat (first | apply Kd.R_alloc | apply Kd.R_drewN | apply Kd.R_drew)); exact HO_5.out) gb200 (Nat.le_of_eq hg.symm)) hb); have n1_ := Aside0.mk (Kd.R_below (Kd.R_elderB (by (with_reducible repeat (first | apply Kd.R_alloc | apply Kd.R_drewN | apply Kd.R_drew)); exact HO_39.out) gb200 (Nat.le_of_eq hg.symm)) hb); have n2_ := Aside0.mk (below_step (by repeat (first | (with_reducible first | exact HB.out | apply below_alloc | apply pw_below_drewN | apply below_drew1) | exact HB.out)) hb); have n3_ := Aside0.mk (hbox); have n4_ := Aside0.mk ((by rw [hg]; exact (below_size (by repeat (first | (with_reducible first | exact HB.out | apply below_alloc | apply pw_below_drewN | apply below_drew1) | exact HB.out))) : w.heap.size ≤ gb200)); have n5_ := Aside0.mk ((by rw [hg]; exact (below_size (by repeat (first | (with_reducible first | exact HB.out | apply below_alloc | apply pw_below_drewN | apply below_drew1) | exact HB.out))) : w.heap.size ≤ gb200)); clear HO_5; clear HO_39; clear HB; have HO_5 := n0_; have HO_39 := n1_; have HB := n2_; have BK200 := n3_; have GW200 := n4_; have GE200 := n5_; clear n0_ n1_ n2_ n3_ n4_ n5_; clear hb hbox hg; have hcz35_0 : w34.cell? ⟨gb200, 0, none⟩ = some (.int .i64 0) := (blk_cell BK200.out 0).trans rfl; have hcz35_1 : w34.cell? ⟨gb200, 1, none⟩ = some (.int .i64 0) := (blk_cell BK200.out 1).trans rfl; have hcz35_2 : w34.cell? ⟨gb200, 2, none⟩ = some (.int .i64 0) := (blk_cell BK200.out 2).trans rfl; have hfz35_0 := blk_frozen BK200.out 0; have hfz35_1 := blk_frozen BK200.out 1; have hfz35_2 := blk_frozen BK200.out 2)))
                          go_roundg k2
                          case measure => have := HK1.out; have := HK2.out; omega
                          case rel => exact ⟨(true), (wrap64 (x41_2 + 1)), (by first | rfl | (simp; done) | (simp [*]; done)), (by first | rfl | (simp; done) | (simp [*]; done)), H', ⟨by have := HK1.out; have := HK2.out; omega⟩, ⟨by (with_reducible repeat (first | apply Kd.R_alloc | apply Kd.R_drewN | apply Kd.R_drew)); exact Kd.R_mono (Kd.R_far (p := ⟨gb200, 2, none⟩) (Kd.R_far (p := ⟨gb200, 1, none⟩) (Kd.R_far (p := ⟨gb200, 0, none⟩) (Kd.R_mono HO_5.out (fun k_ hk => (⟨hk, hk.2⟩ : _ ∧ k_ ≠ gb200))) (fun _ hk => hk.2) (.int .i64 ((rd_T26 t190 x41_2).f0))) (fun _ hk => hk.2) (.int .i64 ((rd_T26 t190 x41_2).f1))) (fun _ hk => hk.2) (.int .i64 ((rd_T26 t190 x41_2).f2))) (fun _ hk => trivial)⟩, ⟨by (with_reducible repeat (first | apply Kd.R_alloc | apply Kd.R_drewN | apply Kd.R_drew)); exact Kd.R_mono (Kd.R_far (p := ⟨gb200, 2, none⟩) (Kd.R_far (p := ⟨gb200, 1, none⟩) (Kd.R_far (p := ⟨gb200, 0, none⟩) (Kd.R_mono HO_39.out (fun k_ hk => (⟨hk, hk.2⟩ : _ ∧ k_ ≠ gb200))) (fun _ hk => hk.2) (.int .i64 ((rd_T26 t190 x41_2).f0))) (fun _ hk => hk.2) (.int .i64 ((rd_T26 t190 x41_2).f1))) (fun _ hk => hk.2) (.int .i64 ((rd_T26 t190 x41_2).f2))) (fun _ hk => trivial)⟩, ⟨by repeat (first | (with_reducible first | exact HB.out | apply below_alloc | apply pw_below_drewN | apply below_drew1 | refine below_set ?_ GE200.out) | exact HB.out)⟩⟩
                    · replace c25 := Bool.eq_false_iff.mpr c25
                      subst c25
                      have H1 : (if ((rd_T26 t190 x41_2).f0) ≤ a1 then (if ((rd_T26 t190 x41_2).f0) ≥ ((rd_T26 t190 x41_2).f1) then (some false) else (if x41_2 > 0 then (if 0 ≤ (wrap64 (x41_2 - 1)) then (if (wrap64 (x41_2 - 1)) < (t190.length : Int) then (if ((rd_T26 t190 (wrap64 (x41_2 - 1))).f1) ≥ ((rd_T26 t190 x41_2).f0) then (some false) else (almanaclaw25_BusyMerges.l1 k2 a1 t190 x6_1 (decide (a1 < ((rd_T26 t190 x41_2).f1))) t190 (t190.length : Int) (wrap64 (x41_2 + 1)))) else (none)) else (none)) else (almanaclaw25_BusyMerges.l1 k2 a1 t190 x6_1 (decide (a1 < ((rd_T26 t190 x41_2).f1))) t190 (t190.length : Int) (wrap64 (x41_2 + 1))))) else (if ((rd_T26 t190 x41_2).f0) ≥ ((rd_T26 t190 x41_2).f1) then (some false) else (if x41_2 > 0 then (if 0 ≤ (wrap64 (x41_2 - 1)) then (if (wrap64 (x41_2 - 1)) < (t190.length : Int) then (if ((rd_T26 t190 (wrap64 (x41_2 - 1))).f1) ≥ ((rd_T26 t190 x41_2).f0) then (some false) else (almanaclaw25_BusyMerges.l1 k2 a1 t190 x6_1 false t190 (t190.length : Int) (wrap64 (x41_2 + 1)))) else (none)) else (none)) else (almanaclaw25_BusyMerges.l1 k2 a1 t190 x6_1 false t190 (t190.length : Int) (wrap64 (x41_2 + 1)))))) = some r := by rw [if_neg (show ¬ (false = true) by decide)] at H; exact H
                      clear H
                      have H := H1
                      clear H1
                      by_cases c36 : ((rd_T26 t190 x41_2).f0) ≤ a1
                      · rw [if_pos c36] at H
                        have c36b0 : decide (((rd_T26 t190 x41_2).f0) ≤ a1) = true := decide_eq_true c36
                        clear c36
                        by_cases c37 : ((rd_T26 t190 x41_2).f0) ≥ ((rd_T26 t190 x41_2).f1)
                        · rw [if_pos c37] at H
                          have c37b0 : decide (((rd_T26 t190 x41_2).f1) ≤ ((rd_T26 t190 x41_2).f0)) = true := decide_eq_true c37
                          clear c37
                          exact absurd ((Option.some.inj H).trans HRT.out) (by decide)
                        · rw [if_neg c37] at H
                          have c37b0 : decide (((rd_T26 t190 x41_2).f1) ≤ ((rd_T26 t190 x41_2).f0)) = false := decide_eq_false c37
                          clear c37
                          by_cases c38 : x41_2 > 0
                          · rw [if_pos c38] at H
                            have c38b0 : decide (0 < x41_2) = true := decide_eq_true c38
                            clear c38
                            obtain ⟨ji39, hji39⟩ : ∃ j_ : Int, (wrap64 (x41_2 - 1)) = j_ := ⟨_, rfl⟩
                            replace H : (if 0 ≤ (ji39) then (if (ji39) < (t190.length : Int) then (if ((rd_T26 t190 (ji39)).f1) ≥ ((rd_T26 t190 x41_2).f0) then (some false) else (almanaclaw25_BusyMerges.l1 k2 a1 t190 x6_1 (decide (a1 < ((rd_T26 t190 x41_2).f1))) t190 (t190.length : Int) (wrap64 (x41_2 + 1)))) else (none)) else (none)) = some r := by first | (rw [hji39] at H; exact H) | (simp only [hji39] at H ⊢; exact H)
                            have hji39w : (IntKind.i64.wrap (x41_2 - 1)) = ji39 := (i64_w _).trans hji39
                            by_cases c40 : 0 ≤ (ji39)
                            · rw [if_pos c40] at H
                              have c40b0 : decide (0 ≤ (ji39)) = true := decide_eq_true c40
                              clear c40
                              by_cases c41 : (ji39) < (t190.length : Int)
                              · rw [if_pos c41] at H
                                have c41b0 : decide ((ji39) < (t190.length : Int)) = true := decide_eq_true c41
                                clear c41
                                by_cases c42 : ((rd_T26 t190 (ji39)).f1) ≥ ((rd_T26 t190 x41_2).f0)
                                · rw [if_pos c42] at H
                                  have c42b0 : decide (((rd_T26 t190 x41_2).f0) ≤ ((rd_T26 t190 (ji39)).f1)) = true := decide_eq_true c42
                                  clear c42
                                  exact absurd ((Option.some.inj H).trans HRT.out) (by decide)
                                · rw [if_neg c42] at H
                                  have c42b0 : decide (((rd_T26 t190 x41_2).f0) ≤ ((rd_T26 t190 (ji39)).f1)) = false := decide_eq_false c42
                                  clear c42
                                  have H' := Aside0.mk H
                                  clear H
                                  have p199 : 0 ≤ (x41_2 : Int) := of_decide_eq_true (by first | (with_reducible assumption) | assumption)
                                  have q199 : x41_2 < (t190.length : Int) := of_decide_eq_true (by first | (with_reducible assumption) | assumption)
                                  obtain ⟨ad199, e199, hx199_0, hx199_1, hx199_2⟩ := at_T26 (Kd.R_reads' HO_39.out).2.2 x41_2 p199 q199
                                  cases e199
                                  replace p199 := eq_true p199
                                  replace q199 := eq_true q199
                                  go_wp2_with (first | ((with_reducible refine gate_dst (N := 11) rfl ?_); refine box_event ?hg (N := 11) ?hd (cs := #[.int .i64 0, .int .i64 0, .int .i64 0]) (t := 26) ?hr ?_; (case hd => rfl); (case hg => rfl); (case hr => first | (go_simp; done) | (go_simp; rfl)); intro gb200 hg w43 hbox hb; have n0_ := Aside0.mk (Kd.R_below (Kd.R_elderB (by (with_reducible repeat (first | apply Kd.R_alloc | apply Kd.R_drewN | apply Kd.R_drew)); exact HO_5.out) gb200 (Nat.le_of_eq hg.symm)) hb); have n1_ := Aside0.mk (Kd.R_below (Kd.R_elderB (by (with_reducible repeat (first | apply Kd.R_alloc | apply Kd.R_drewN | apply Kd.R_drew)); exact HO_39.out) gb200 (Nat.le_of_eq hg.symm)) hb); have n2_ := Aside0.mk (below_step (by repeat (first | (with_reducible first | exact HB.out | apply below_alloc | apply pw_below_drewN | apply below_drew1) | exact HB.out)) hb); have n3_ := Aside0.mk (hbox); have n4_ := Aside0.mk ((by rw [hg]; exact (below_size (by repeat (first | (with_reducible first | exact HB.out | apply below_alloc | apply pw_below_drewN | apply below_drew1) | exact HB.out))) : w.heap.size ≤ gb200)); have n5_ := Aside0.mk ((by rw [hg]; exact (below_size (by repeat (first | (with_reducible first | exact HB.out | apply below_alloc | apply pw_below_drewN | apply below_drew1) | exact HB.out))) : w.heap.size ≤ gb200)); clear HO_5; clear HO_39; clear HB; have HO_5 := n0_; have HO_39 := n1_; have HB := n2_; have BK200 := n3_; have GW200 := n4_; have GE200 := n5_; clear n0_ n1_ n2_ n3_ n4_ n5_; clear hb hbox hg; have hcz44_0 : w43.cell? ⟨gb200, 0, none⟩ = some (.int .i64 0) := (blk_cell BK200.out 0).trans rfl; have hcz44_1 : w43.cell? ⟨gb200, 1, none⟩ = some (.int .i64 0) := (blk_cell BK200.out 1).trans rfl; have hcz44_2 : w43.cell? ⟨gb200, 2, none⟩ = some (.int .i64 0) := (blk_cell BK200.out 2).trans rfl; have hfz44_0 := blk_frozen BK200.out 0; have hfz44_1 := blk_frozen BK200.out 1; have hfz44_2 := blk_frozen BK200.out 2; have p202 : 0 ≤ ((ji39) : Int) := of_decide_eq_true (by first | (with_reducible assumption) | assumption); have q202 : (ji39) < (t190.length : Int) := of_decide_eq_true (by first | (with_reducible assumption) | assumption); obtain ⟨ad202, e202, hx202_0, hx202_1, hx202_2⟩ := at_T26 (Kd.R_reads' HO_5.out).2.2 (ji39) p202 q202; obtain rfl : ad199 = ad202 := (by injection e202); have hn202_0 : ad199.block ≠ gb200 := Kd.own_blk (fun e_ => (HO_5.out.1 _ e_.symm).2 rfl); have hn202_1 : ad199.block ≠ gb200 := Kd.own_blk (fun e_ => (HO_5.out.1 _ e_.symm).2 rfl); have hn202_2 : ad199.block ≠ gb200 := Kd.own_blk (fun e_ => (HO_5.out.1 _ e_.symm).2 rfl); replace hx202_0 := (cell_far (p := ⟨gb200, 0, none⟩) (by first | (rw [add_block]; exact hn202_0) | (show (Addr.add _ _).block ≠ _; rw [add_block]; exact hn202_0) | exact hn202_0) (.int .i64 ((rd_T26 t190 x41_2).f0))).trans hx202_0; replace hx202_1 := (cell_far (p := ⟨gb200, 0, none⟩) (by first | (rw [add_block]; exact hn202_0) | (show (Addr.add _ _).block ≠ _; rw [add_block]; exact hn202_0) | exact hn202_0) (.int .i64 ((rd_T26 t190 x41_2).f0))).trans hx202_1; replace hx202_2 := (cell_far (p := ⟨gb200, 0, none⟩) (by first | (rw [add_block]; exact hn202_0) | (show (Addr.add _ _).block ≠ _; rw [add_block]; exact hn202_0) | exact hn202_0) (.int .i64 ((rd_T26 t190 x41_2).f0))).trans hx202_2; replace hx202_0 := (cell_far (p := ⟨gb200, 1, none⟩) (by first | (rw [add_block]; exact hn202_1) | (show (Addr.add _ _).block ≠ _; rw [add_block]; exact hn202_1) | exact hn202_1) (.int .i64 ((rd_T26 t190 x41_2).f1))).trans hx202_0; replace hx202_1 := (cell_far (p := ⟨gb200, 1, none⟩) (by first | (rw [add_block]; exact hn202_1) | (show (Addr.add _ _).block ≠ _; rw [add_block]; exact hn202_1) | exact hn202_1) (.int .i64 ((rd_T26 t190 x41_2).f1))).trans hx202_1; replace hx202_2 := (cell_far (p := ⟨gb200, 1, none⟩) (by first | (rw [add_block]; exact hn202_1) | (show (Addr.add _ _).block ≠ _; rw [add_block]; exact hn202_1) | exact hn202_1) (.int .i64 ((rd_T26 t190 x41_2).f1))).trans hx202_2; replace hx202_0 := (cell_far (p := ⟨gb200, 2, none⟩) (by first | (rw [add_block]; exact hn202_2) | (show (Addr.add _ _).block ≠ _; rw [add_block]; exact hn202_2) | exact hn202_2) (.int .i64 ((rd_T26 t190 x41_2).f2))).trans hx202_0; replace hx202_1 := (cell_far (p := ⟨gb200, 2, none⟩) (by first | (rw [add_block]; exact hn202_2) | (show (Addr.add _ _).block ≠ _; rw [add_block]; exact hn202_2) | exact hn202_2) (.int .i64 ((rd_T26 t190 x41_2).f2))).trans hx202_1; replace hx202_2 := (cell_far (p := ⟨gb200, 2, none⟩) (by first | (rw [add_block]; exact hn202_2) | (show (Addr.add _ _).block ≠ _; rw [add_block]; exact hn202_2) | exact hn202_2) (.int .i64 ((rd_T26 t190 x41_2).f2))).trans hx202_2; (try have hy202_0 := fun (n_ : Nat) => (show (((((w43.drewN n_).setCell ⟨gb200, 0, none⟩ (.int .i64 ((rd_T26 t190 x41_2).f0))).setCell ⟨gb200, 1, none⟩ (.int .i64 ((rd_T26 t190 x41_2).f1))).setCell ⟨gb200, 2, none⟩ (.int .i64 ((rd_T26 t190 x41_2).f2)))).cell? _ = some _ from hx202_0)); (try have hy202_1 := fun (n_ : Nat) => (show (((((w43.drewN n_).setCell ⟨gb200, 0, none⟩ (.int .i64 ((rd_T26 t190 x41_2).f0))).setCell ⟨gb200, 1, none⟩ (.int .i64 ((rd_T26 t190 x41_2).f1))).setCell ⟨gb200, 2, none⟩ (.int .i64 ((rd_T26 t190 x41_2).f2)))).cell? _ = some _ from hx202_1)); (try have hy202_2 := fun (n_ : Nat) => (show (((((w43.drewN n_).setCell ⟨gb200, 0, none⟩ (.int .i64 ((rd_T26 t190 x41_2).f0))).setCell ⟨gb200, 1, none⟩ (.int .i64 ((rd_T26 t190 x41_2).f1))).setCell ⟨gb200, 2, none⟩ (.int .i64 ((rd_T26 t190 x41_2).f2)))).cell? _ = some _ from hx202_2)); clear hn202_0; clear hn202_1; clear hn202_2; replace p202 := eq_true p202; replace q202 := eq_true q202))
                                  repeat (go_quiet (first | ((with_reducible refine gate_dst (N := 11) rfl ?_); refine box_event ?hg (N := 11) ?hd (cs := #[.int .i64 0, .int .i64 0, .int .i64 0]) (t := 26) ?hr ?_; (case hd => rfl); (case hg => rfl); (case hr => first | (go_simp; done) | (go_simp; rfl)); intro gb200 hg w43 hbox hb; have n0_ := Aside0.mk (Kd.R_below (Kd.R_elderB (by (with_reducible repeat (first | apply Kd.R_alloc | apply Kd.R_drewN | apply Kd.R_drew)); exact HO_5.out) gb200 (Nat.le_of_eq hg.symm)) hb); have n1_ := Aside0.mk (Kd.R_below (Kd.R_elderB (by (with_reducible repeat (first | apply Kd.R_alloc | apply Kd.R_drewN | apply Kd.R_drew)); exact HO_39.out) gb200 (Nat.le_of_eq hg.symm)) hb); have n2_ := Aside0.mk (below_step (by repeat (first | (with_reducible first | exact HB.out | apply below_alloc | apply pw_below_drewN | apply below_drew1) | exact HB.out)) hb); have n3_ := Aside0.mk (hbox); have n4_ := Aside0.mk ((by rw [hg]; exact (below_size (by repeat (first | (with_reducible first | exact HB.out | apply below_alloc | apply pw_below_drewN | apply below_drew1) | exact HB.out))) : w.heap.size ≤ gb200)); have n5_ := Aside0.mk ((by rw [hg]; exact (below_size (by repeat (first | (with_reducible first | exact HB.out | apply below_alloc | apply pw_below_drewN | apply below_drew1) | exact HB.out))) : w.heap.size ≤ gb200)); clear HO_5; clear HO_39; clear HB; have HO_5 := n0_; have HO_39 := n1_; have HB := n2_; have BK200 := n3_; have GW200 := n4_; have GE200 := n5_; clear n0_ n1_ n2_ n3_ n4_ n5_; clear hb hbox hg; have hcz44_0 : w43.cell? ⟨gb200, 0, none⟩ = some (.int .i64 0) := (blk_cell BK200.out 0).trans rfl; have hcz44_1 : w43.cell? ⟨gb200, 1, none⟩ = some (.int .i64 0) := (blk_cell BK200.out 1).trans rfl; have hcz44_2 : w43.cell? ⟨gb200, 2, none⟩ = some (.int .i64 0) := (blk_cell BK200.out 2).trans rfl; have hfz44_0 := blk_frozen BK200.out 0; have hfz44_1 := blk_frozen BK200.out 1; have hfz44_2 := blk_frozen BK200.out 2; have p202 : 0 ≤ ((ji39) : Int) := of_decide_eq_true (by first | (with_reducible assumption) | assumption); have q202 : (ji39) < (t190.length : Int) := of_decide_eq_true (by first | (with_reducible assumption) | assumption); obtain ⟨ad202, e202, hx202_0, hx202_1, hx202_2⟩ := at_T26 (Kd.R_reads' HO_5.out).2.2 (ji39) p202 q202; obtain rfl : ad199 = ad202 := (by injection e202); have hn202_0 : ad199.block ≠ gb200 := Kd.own_blk (fun e_ => (HO_5.out.1 _ e_.symm).2 rfl); have hn202_1 : ad199.block ≠ gb200 := Kd.own_blk (fun e_ => (HO_5.out.1 _ e_.symm).2 rfl); have hn202_2 : ad199.block ≠ gb200 := Kd.own_blk (fun e_ => (HO_5.out.1 _ e_.symm).2 rfl); replace hx202_0 := (cell_far (p := ⟨gb200, 0, none⟩) (by first | (rw [add_block]; exact hn202_0) | (show (Addr.add _ _).block ≠ _; rw [add_block]; exact hn202_0) | exact hn202_0) (.int .i64 ((rd_T26 t190 x41_2).f0))).trans hx202_0; replace hx202_1 := (cell_far (p := ⟨gb200, 0, none⟩) (by first | (rw [add_block]; exact hn202_0) | (show (Addr.add _ _).block ≠ _; rw [add_block]; exact hn202_0) | exact hn202_0) (.int .i64 ((rd_T26 t190 x41_2).f0))).trans hx202_1; replace hx202_2 := (cell_far (p := ⟨gb200, 0, none⟩) (by first | (rw [add_block]; exact hn202_0) | (show (Addr.add _ _).block ≠ _; rw [add_block]; exact hn202_0) | exact hn202_0) (.int .i64 ((rd_T26 t190 x41_2).f0))).trans hx202_2; replace hx202_0 := (cell_far (p := ⟨gb200, 1, none⟩) (by first | (rw [add_block]; exact hn202_1) | (show (Addr.add _ _).block ≠ _; rw [add_block]; exact hn202_1) | exact hn202_1) (.int .i64 ((rd_T26 t190 x41_2).f1))).trans hx202_0; replace hx202_1 := (cell_far (p := ⟨gb200, 1, none⟩) (by first | (rw [add_block]; exact hn202_1) | (show (Addr.add _ _).block ≠ _; rw [add_block]; exact hn202_1) | exact hn202_1) (.int .i64 ((rd_T26 t190 x41_2).f1))).trans hx202_1; replace hx202_2 := (cell_far (p := ⟨gb200, 1, none⟩) (by first | (rw [add_block]; exact hn202_1) | (show (Addr.add _ _).block ≠ _; rw [add_block]; exact hn202_1) | exact hn202_1) (.int .i64 ((rd_T26 t190 x41_2).f1))).trans hx202_2; replace hx202_0 := (cell_far (p := ⟨gb200, 2, none⟩) (by first | (rw [add_block]; exact hn202_2) | (show (Addr.add _ _).block ≠ _; rw [add_block]; exact hn202_2) | exact hn202_2) (.int .i64 ((rd_T26 t190 x41_2).f2))).trans hx202_0; replace hx202_1 := (cell_far (p := ⟨gb200, 2, none⟩) (by first | (rw [add_block]; exact hn202_2) | (show (Addr.add _ _).block ≠ _; rw [add_block]; exact hn202_2) | exact hn202_2) (.int .i64 ((rd_T26 t190 x41_2).f2))).trans hx202_1; replace hx202_2 := (cell_far (p := ⟨gb200, 2, none⟩) (by first | (rw [add_block]; exact hn202_2) | (show (Addr.add _ _).block ≠ _; rw [add_block]; exact hn202_2) | exact hn202_2) (.int .i64 ((rd_T26 t190 x41_2).f2))).trans hx202_2; (try have hy202_0 := fun (n_ : Nat) => (show (((((w43.drewN n_).setCell ⟨gb200, 0, none⟩ (.int .i64 ((rd_T26 t190 x41_2).f0))).setCell ⟨gb200, 1, none⟩ (.int .i64 ((rd_T26 t190 x41_2).f1))).setCell ⟨gb200, 2, none⟩ (.int .i64 ((rd_T26 t190 x41_2).f2)))).cell? _ = some _ from hx202_0)); (try have hy202_1 := fun (n_ : Nat) => (show (((((w43.drewN n_).setCell ⟨gb200, 0, none⟩ (.int .i64 ((rd_T26 t190 x41_2).f0))).setCell ⟨gb200, 1, none⟩ (.int .i64 ((rd_T26 t190 x41_2).f1))).setCell ⟨gb200, 2, none⟩ (.int .i64 ((rd_T26 t190 x41_2).f2)))).cell? _ = some _ from hx202_1)); (try have hy202_2 := fun (n_ : Nat) => (show (((((w43.drewN n_).setCell ⟨gb200, 0, none⟩ (.int .i64 ((rd_T26 t190 x41_2).f0))).setCell ⟨gb200, 1, none⟩ (.int .i64 ((rd_T26 t190 x41_2).f1))).setCell ⟨gb200, 2, none⟩ (.int .i64 ((rd_T26 t190 x41_2).f2)))).cell? _ = some _ from hx202_2)); clear hn202_0; clear hn202_1; clear hn202_2; replace p202 := eq_true p202; replace q202 := eq_true q202)); try go_wp2_with (first | ((with_reducible refine gate_dst (N := 11) rfl ?_); refine box_event ?hg (N := 11) ?hd (cs := #[.int .i64 0, .int .i64 0, .int .i64 0]) (t := 26) ?hr ?_; (case hd => rfl); (case hg => rfl); (case hr => first | (go_simp; done) | (go_simp; rfl)); intro gb200 hg w43 hbox hb; have n0_ := Aside0.mk (Kd.R_below (Kd.R_elderB (by (with_reducible repeat (first | apply Kd.R_alloc | apply Kd.R_drewN | apply Kd.R_drew)); exact HO_5.out) gb200 (Nat.le_of_eq hg.symm)) hb); have n1_ := Aside0.mk (Kd.R_below (Kd.R_elderB (by (with_reducible repeat (first | apply Kd.R_alloc | apply Kd.R_drewN | apply Kd.R_drew)); exact HO_39.out) gb200 (Nat.le_of_eq hg.symm)) hb); have n2_ := Aside0.mk (below_step (by repeat (first | (with_reducible first | exact HB.out | apply below_alloc | apply pw_below_drewN | apply below_drew1) | exact HB.out)) hb); have n3_ := Aside0.mk (hbox); have n4_ := Aside0.mk ((by rw [hg]; exact (below_size (by repeat (first | (with_reducible first | exact HB.out | apply below_alloc | apply pw_below_drewN | apply below_drew1) | exact HB.out))) : w.heap.size ≤ gb200)); have n5_ := Aside0.mk ((by rw [hg]; exact (below_size (by repeat (first | (with_reducible first | exact HB.out | apply below_alloc | apply pw_below_drewN | apply below_drew1) | exact HB.out))) : w.heap.size ≤ gb200)); clear HO_5; clear HO_39; clear HB; have HO_5 := n0_; have HO_39 := n1_; have HB := n2_; have BK200 := n3_; have GW200 := n4_; have GE200 := n5_; clear n0_ n1_ n2_ n3_ n4_ n5_; clear hb hbox hg; have hcz44_0 : w43.cell? ⟨gb200, 0, none⟩ = some (.int .i64 0) := (blk_cell BK200.out 0).trans rfl; have hcz44_1 : w43.cell? ⟨gb200, 1, none⟩ = some (.int .i64 0) := (blk_cell BK200.out 1).trans rfl; have hcz44_2 : w43.cell? ⟨gb200, 2, none⟩ = some (.int .i64 0) := (blk_cell BK200.out 2).trans rfl; have hfz44_0 := blk_frozen BK200.out 0; have hfz44_1 := blk_frozen BK200.out 1; have hfz44_2 := blk_frozen BK200.out 2; have p202 : 0 ≤ ((ji39) : Int) := of_decide_eq_true (by first | (with_reducible assumption) | assumption); have q202 : (ji39) < (t190.length : Int) := of_decide_eq_true (by first | (with_reducible assumption) | assumption); obtain ⟨ad202, e202, hx202_0, hx202_1, hx202_2⟩ := at_T26 (Kd.R_reads' HO_5.out).2.2 (ji39) p202 q202; obtain rfl : ad199 = ad202 := (by injection e202); have hn202_0 : ad199.block ≠ gb200 := Kd.own_blk (fun e_ => (HO_5.out.1 _ e_.symm).2 rfl); have hn202_1 : ad199.block ≠ gb200 := Kd.own_blk (fun e_ => (HO_5.out.1 _ e_.symm).2 rfl); have hn202_2 : ad199.block ≠ gb200 := Kd.own_blk (fun e_ => (HO_5.out.1 _ e_.symm).2 rfl); replace hx202_0 := (cell_far (p := ⟨gb200, 0, none⟩) (by first | (rw [add_block]; exact hn202_0) | (show (Addr.add _ _).block ≠ _; rw [add_block]; exact hn202_0) | exact hn202_0) (.int .i64 ((rd_T26 t190 x41_2).f0))).trans hx202_0; replace hx202_1 := (cell_far (p := ⟨gb200, 0, none⟩) (by first | (rw [add_block]; exact hn202_0) | (show (Addr.add _ _).block ≠ _; rw [add_block]; exact hn202_0) | exact hn202_0) (.int .i64 ((rd_T26 t190 x41_2).f0))).trans hx202_1; replace hx202_2 := (cell_far (p := ⟨gb200, 0, none⟩) (by first | (rw [add_block]; exact hn202_0) | (show (Addr.add _ _).block ≠ _; rw [add_block]; exact hn202_0) | exact hn202_0) (.int .i64 ((rd_T26 t190 x41_2).f0))).trans hx202_2; replace hx202_0 := (cell_far (p := ⟨gb200, 1, none⟩) (by first | (rw [add_block]; exact hn202_1) | (show (Addr.add _ _).block ≠ _; rw [add_block]; exact hn202_1) | exact hn202_1) (.int .i64 ((rd_T26 t190 x41_2).f1))).trans hx202_0; replace hx202_1 := (cell_far (p := ⟨gb200, 1, none⟩) (by first | (rw [add_block]; exact hn202_1) | (show (Addr.add _ _).block ≠ _; rw [add_block]; exact hn202_1) | exact hn202_1) (.int .i64 ((rd_T26 t190 x41_2).f1))).trans hx202_1; replace hx202_2 := (cell_far (p := ⟨gb200, 1, none⟩) (by first | (rw [add_block]; exact hn202_1) | (show (Addr.add _ _).block ≠ _; rw [add_block]; exact hn202_1) | exact hn202_1) (.int .i64 ((rd_T26 t190 x41_2).f1))).trans hx202_2; replace hx202_0 := (cell_far (p := ⟨gb200, 2, none⟩) (by first | (rw [add_block]; exact hn202_2) | (show (Addr.add _ _).block ≠ _; rw [add_block]; exact hn202_2) | exact hn202_2) (.int .i64 ((rd_T26 t190 x41_2).f2))).trans hx202_0; replace hx202_1 := (cell_far (p := ⟨gb200, 2, none⟩) (by first | (rw [add_block]; exact hn202_2) | (show (Addr.add _ _).block ≠ _; rw [add_block]; exact hn202_2) | exact hn202_2) (.int .i64 ((rd_T26 t190 x41_2).f2))).trans hx202_1; replace hx202_2 := (cell_far (p := ⟨gb200, 2, none⟩) (by first | (rw [add_block]; exact hn202_2) | (show (Addr.add _ _).block ≠ _; rw [add_block]; exact hn202_2) | exact hn202_2) (.int .i64 ((rd_T26 t190 x41_2).f2))).trans hx202_2; (try have hy202_0 := fun (n_ : Nat) => (show (((((w43.drewN n_).setCell ⟨gb200, 0, none⟩ (.int .i64 ((rd_T26 t190 x41_2).f0))).setCell ⟨gb200, 1, none⟩ (.int .i64 ((rd_T26 t190 x41_2).f1))).setCell ⟨gb200, 2, none⟩ (.int .i64 ((rd_T26 t190 x41_2).f2)))).cell? _ = some _ from hx202_0)); (try have hy202_1 := fun (n_ : Nat) => (show (((((w43.drewN n_).setCell ⟨gb200, 0, none⟩ (.int .i64 ((rd_T26 t190 x41_2).f0))).setCell ⟨gb200, 1, none⟩ (.int .i64 ((rd_T26 t190 x41_2).f1))).setCell ⟨gb200, 2, none⟩ (.int .i64 ((rd_T26 t190 x41_2).f2)))).cell? _ = some _ from hx202_1)); (try have hy202_2 := fun (n_ : Nat) => (show (((((w43.drewN n_).setCell ⟨gb200, 0, none⟩ (.int .i64 ((rd_T26 t190 x41_2).f0))).setCell ⟨gb200, 1, none⟩ (.int .i64 ((rd_T26 t190 x41_2).f1))).setCell ⟨gb200, 2, none⟩ (.int .i64 ((rd_T26 t190 x41_2).f2)))).cell? _ = some _ from hx202_2)); clear hn202_0; clear hn202_1; clear hn202_2; replace p202 := eq_true p202; replace q202 := eq_true q202)))
                                  go_roundg k2
                                  case measure => have := HK1.out; have := HK2.out; omega
                                  case rel => exact ⟨(decide (a1 < ((rd_T26 t190 x41_2).f1))), (wrap64 (x41_2 + 1)), (by first | rfl | (simp; done) | (simp [*]; done)), (by first | rfl | (simp; done) | (simp [*]; done)), H', ⟨by have := HK1.out; have := HK2.out; omega⟩, ⟨by (with_reducible repeat (first | apply Kd.R_alloc | apply Kd.R_drewN | apply Kd.R_drew)); exact Kd.R_mono (Kd.R_far (p := ⟨gb200, 2, none⟩) (Kd.R_far (p := ⟨gb200, 1, none⟩) (Kd.R_far (p := ⟨gb200, 0, none⟩) (Kd.R_mono HO_5.out (fun k_ hk => (⟨hk, hk.2⟩ : _ ∧ k_ ≠ gb200))) (fun _ hk => hk.2) (.int .i64 ((rd_T26 t190 x41_2).f0))) (fun _ hk => hk.2) (.int .i64 ((rd_T26 t190 x41_2).f1))) (fun _ hk => hk.2) (.int .i64 ((rd_T26 t190 x41_2).f2))) (fun _ hk => trivial)⟩, ⟨by (with_reducible repeat (first | apply Kd.R_alloc | apply Kd.R_drewN | apply Kd.R_drew)); exact Kd.R_mono (Kd.R_far (p := ⟨gb200, 2, none⟩) (Kd.R_far (p := ⟨gb200, 1, none⟩) (Kd.R_far (p := ⟨gb200, 0, none⟩) (Kd.R_mono HO_39.out (fun k_ hk => (⟨hk, hk.2⟩ : _ ∧ k_ ≠ gb200))) (fun _ hk => hk.2) (.int .i64 ((rd_T26 t190 x41_2).f0))) (fun _ hk => hk.2) (.int .i64 ((rd_T26 t190 x41_2).f1))) (fun _ hk => hk.2) (.int .i64 ((rd_T26 t190 x41_2).f2))) (fun _ hk => trivial)⟩, ⟨by repeat (first | (with_reducible first | exact HB.out | apply below_alloc | apply pw_below_drewN | apply below_drew1 | refine below_set ?_ GE200.out) | exact HB.out)⟩⟩
                              · rw [if_neg c41] at H
                                exact absurd H (by simp)
                            · rw [if_neg c40] at H
                              exact absurd H (by simp)
                          · rw [if_neg c38] at H
                            have c38b0 : decide (0 < x41_2) = false := decide_eq_false c38
                            clear c38
                            have H' := Aside0.mk H
                            clear H
                            have p199 : 0 ≤ (x41_2 : Int) := of_decide_eq_true (by first | (with_reducible assumption) | assumption)
                            have q199 : x41_2 < (t190.length : Int) := of_decide_eq_true (by first | (with_reducible assumption) | assumption)
                            obtain ⟨ad199, e199, hx199_0, hx199_1, hx199_2⟩ := at_T26 (Kd.R_reads' HO_39.out).2.2 x41_2 p199 q199
                            cases e199
                            replace p199 := eq_true p199
                            replace q199 := eq_true q199
                            go_wp2_with (first | ((with_reducible refine gate_dst (N := 11) rfl ?_); refine box_event ?hg (N := 11) ?hd (cs := #[.int .i64 0, .int .i64 0, .int .i64 0]) (t := 26) ?hr ?_; (case hd => rfl); (case hg => rfl); (case hr => first | (go_simp; done) | (go_simp; rfl)); intro gb200 hg w45 hbox hb; have n0_ := Aside0.mk (Kd.R_below (Kd.R_elderB (by (with_reducible repeat (first | apply Kd.R_alloc | apply Kd.R_drewN | apply Kd.R_drew)); exact HO_5.out) gb200 (Nat.le_of_eq hg.symm)) hb); have n1_ := Aside0.mk (Kd.R_below (Kd.R_elderB (by (with_reducible repeat (first | apply Kd.R_alloc | apply Kd.R_drewN | apply Kd.R_drew)); exact HO_39.out) gb200 (Nat.le_of_eq hg.symm)) hb); have n2_ := Aside0.mk (below_step (by repeat (first | (with_reducible first | exact HB.out | apply below_alloc | apply pw_below_drewN | apply below_drew1) | exact HB.out)) hb); have n3_ := Aside0.mk (hbox); have n4_ := Aside0.mk ((by rw [hg]; exact (below_size (by repeat (first | (with_reducible first | exact HB.out | apply below_alloc | apply pw_below_drewN | apply below_drew1) | exact HB.out))) : w.heap.size ≤ gb200)); have n5_ := Aside0.mk ((by rw [hg]; exact (below_size (by repeat (first | (with_reducible first | exact HB.out | apply below_alloc | apply pw_below_drewN | apply below_drew1) | exact HB.out))) : w.heap.size ≤ gb200)); clear HO_5; clear HO_39; clear HB; have HO_5 := n0_; have HO_39 := n1_; have HB := n2_; have BK200 := n3_; have GW200 := n4_; have GE200 := n5_; clear n0_ n1_ n2_ n3_ n4_ n5_; clear hb hbox hg; have hcz46_0 : w45.cell? ⟨gb200, 0, none⟩ = some (.int .i64 0) := (blk_cell BK200.out 0).trans rfl; have hcz46_1 : w45.cell? ⟨gb200, 1, none⟩ = some (.int .i64 0) := (blk_cell BK200.out 1).trans rfl; have hcz46_2 : w45.cell? ⟨gb200, 2, none⟩ = some (.int .i64 0) := (blk_cell BK200.out 2).trans rfl; have hfz46_0 := blk_frozen BK200.out 0; have hfz46_1 := blk_frozen BK200.out 1; have hfz46_2 := blk_frozen BK200.out 2))
                            repeat (go_quiet (first | ((with_reducible refine gate_dst (N := 11) rfl ?_); refine box_event ?hg (N := 11) ?hd (cs := #[.int .i64 0, .int .i64 0, .int .i64 0]) (t := 26) ?hr ?_; (case hd => rfl); (case hg => rfl); (case hr => first | (go_simp; done) | (go_simp; rfl)); intro gb200 hg w45 hbox hb; have n0_ := Aside0.mk (Kd.R_below (Kd.R_elderB (by (with_reducible repeat (first | apply Kd.R_alloc | apply Kd.R_drewN | apply Kd.R_drew)); exact HO_5.out) gb200 (Nat.le_of_eq hg.symm)) hb); have n1_ := Aside0.mk (Kd.R_below (Kd.R_elderB (by (with_reducible repeat (first | apply Kd.R_alloc | apply Kd.R_drewN | apply Kd.R_drew)); exact HO_39.out) gb200 (Nat.le_of_eq hg.symm)) hb); have n2_ := Aside0.mk (below_step (by repeat (first | (with_reducible first | exact HB.out | apply below_alloc | apply pw_below_drewN | apply below_drew1) | exact HB.out)) hb); have n3_ := Aside0.mk (hbox); have n4_ := Aside0.mk ((by rw [hg]; exact (below_size (by repeat (first | (with_reducible first | exact HB.out | apply below_alloc | apply pw_below_drewN | apply below_drew1) | exact HB.out))) : w.heap.size ≤ gb200)); have n5_ := Aside0.mk ((by rw [hg]; exact (below_size (by repeat (first | (with_reducible first | exact HB.out | apply below_alloc | apply pw_below_drewN | apply below_drew1) | exact HB.out))) : w.heap.size ≤ gb200)); clear HO_5; clear HO_39; clear HB; have HO_5 := n0_; have HO_39 := n1_; have HB := n2_; have BK200 := n3_; have GW200 := n4_; have GE200 := n5_; clear n0_ n1_ n2_ n3_ n4_ n5_; clear hb hbox hg; have hcz46_0 : w45.cell? ⟨gb200, 0, none⟩ = some (.int .i64 0) := (blk_cell BK200.out 0).trans rfl; have hcz46_1 : w45.cell? ⟨gb200, 1, none⟩ = some (.int .i64 0) := (blk_cell BK200.out 1).trans rfl; have hcz46_2 : w45.cell? ⟨gb200, 2, none⟩ = some (.int .i64 0) := (blk_cell BK200.out 2).trans rfl; have hfz46_0 := blk_frozen BK200.out 0; have hfz46_1 := blk_frozen BK200.out 1; have hfz46_2 := blk_frozen BK200.out 2)); try go_wp2_with (first | ((with_reducible refine gate_dst (N := 11) rfl ?_); refine box_event ?hg (N := 11) ?hd (cs := #[.int .i64 0, .int .i64 0, .int .i64 0]) (t := 26) ?hr ?_; (case hd => rfl); (case hg => rfl); (case hr => first | (go_simp; done) | (go_simp; rfl)); intro gb200 hg w45 hbox hb; have n0_ := Aside0.mk (Kd.R_below (Kd.R_elderB (by (with_reducible repeat (first | apply Kd.R_alloc | apply Kd.R_drewN | apply Kd.R_drew)); exact HO_5.out) gb200 (Nat.le_of_eq hg.symm)) hb); have n1_ := Aside0.mk (Kd.R_below (Kd.R_elderB (by (with_reducible repeat (first | apply Kd.R_alloc | apply Kd.R_drewN | apply Kd.R_drew)); exact HO_39.out) gb200 (Nat.le_of_eq hg.symm)) hb); have n2_ := Aside0.mk (below_step (by repeat (first | (with_reducible first | exact HB.out | apply below_alloc | apply pw_below_drewN | apply below_drew1) | exact HB.out)) hb); have n3_ := Aside0.mk (hbox); have n4_ := Aside0.mk ((by rw [hg]; exact (below_size (by repeat (first | (with_reducible first | exact HB.out | apply below_alloc | apply pw_below_drewN | apply below_drew1) | exact HB.out))) : w.heap.size ≤ gb200)); have n5_ := Aside0.mk ((by rw [hg]; exact (below_size (by repeat (first | (with_reducible first | exact HB.out | apply below_alloc | apply pw_below_drewN | apply below_drew1) | exact HB.out))) : w.heap.size ≤ gb200)); clear HO_5; clear HO_39; clear HB; have HO_5 := n0_; have HO_39 := n1_; have HB := n2_; have BK200 := n3_; have GW200 := n4_; have GE200 := n5_; clear n0_ n1_ n2_ n3_ n4_ n5_; clear hb hbox hg; have hcz46_0 : w45.cell? ⟨gb200, 0, none⟩ = some (.int .i64 0) := (blk_cell BK200.out 0).trans rfl; have hcz46_1 : w45.cell? ⟨gb200, 1, none⟩ = some (.int .i64 0) := (blk_cell BK200.out 1).trans rfl; have hcz46_2 : w45.cell? ⟨gb200, 2, none⟩ = some (.int .i64 0) := (blk_cell BK200.out 2).trans rfl; have hfz46_0 := blk_frozen BK200.out 0; have hfz46_1 := blk_frozen BK200.out 1; have hfz46_2 := blk_frozen BK200.out 2)))
                            go_roundg k2
                            case measure => have := HK1.out; have := HK2.out; omega
                            case rel => exact ⟨(decide (a1 < ((rd_T26 t190 x41_2).f1))), (wrap64 (x41_2 + 1)), (by first | rfl | (simp; done) | (simp [*]; done)), (by first | rfl | (simp; done) | (simp [*]; done)), H', ⟨by have := HK1.out; have := HK2.out; omega⟩, ⟨by (with_reducible repeat (first | apply Kd.R_alloc | apply Kd.R_drewN | apply Kd.R_drew)); exact Kd.R_mono (Kd.R_far (p := ⟨gb200, 2, none⟩) (Kd.R_far (p := ⟨gb200, 1, none⟩) (Kd.R_far (p := ⟨gb200, 0, none⟩) (Kd.R_mono HO_5.out (fun k_ hk => (⟨hk, hk.2⟩ : _ ∧ k_ ≠ gb200))) (fun _ hk => hk.2) (.int .i64 ((rd_T26 t190 x41_2).f0))) (fun _ hk => hk.2) (.int .i64 ((rd_T26 t190 x41_2).f1))) (fun _ hk => hk.2) (.int .i64 ((rd_T26 t190 x41_2).f2))) (fun _ hk => trivial)⟩, ⟨by (with_reducible repeat (first | apply Kd.R_alloc | apply Kd.R_drewN | apply Kd.R_drew)); exact Kd.R_mono (Kd.R_far (p := ⟨gb200, 2, none⟩) (Kd.R_far (p := ⟨gb200, 1, none⟩) (Kd.R_far (p := ⟨gb200, 0, none⟩) (Kd.R_mono HO_39.out (fun k_ hk => (⟨hk, hk.2⟩ : _ ∧ k_ ≠ gb200))) (fun _ hk => hk.2) (.int .i64 ((rd_T26 t190 x41_2).f0))) (fun _ hk => hk.2) (.int .i64 ((rd_T26 t190 x41_2).f1))) (fun _ hk => hk.2) (.int .i64 ((rd_T26 t190 x41_2).f2))) (fun _ hk => trivial)⟩, ⟨by repeat (first | (with_reducible first | exact HB.out | apply below_alloc | apply pw_below_drewN | apply below_drew1 | refine below_set ?_ GE200.out) | exact HB.out)⟩⟩
                      · rw [if_neg c36] at H
                        have c36b0 : decide (((rd_T26 t190 x41_2).f0) ≤ a1) = false := decide_eq_false c36
                        clear c36
                        by_cases c47 : ((rd_T26 t190 x41_2).f0) ≥ ((rd_T26 t190 x41_2).f1)
                        · rw [if_pos c47] at H
                          have c47b0 : decide (((rd_T26 t190 x41_2).f1) ≤ ((rd_T26 t190 x41_2).f0)) = true := decide_eq_true c47
                          clear c47
                          exact absurd ((Option.some.inj H).trans HRT.out) (by decide)
                        · rw [if_neg c47] at H
                          have c47b0 : decide (((rd_T26 t190 x41_2).f1) ≤ ((rd_T26 t190 x41_2).f0)) = false := decide_eq_false c47
                          clear c47
                          by_cases c48 : x41_2 > 0
                          · rw [if_pos c48] at H
                            have c48b0 : decide (0 < x41_2) = true := decide_eq_true c48
                            clear c48
                            obtain ⟨ji49, hji49⟩ : ∃ j_ : Int, (wrap64 (x41_2 - 1)) = j_ := ⟨_, rfl⟩
                            replace H : (if 0 ≤ (ji49) then (if (ji49) < (t190.length : Int) then (if ((rd_T26 t190 (ji49)).f1) ≥ ((rd_T26 t190 x41_2).f0) then (some false) else (almanaclaw25_BusyMerges.l1 k2 a1 t190 x6_1 false t190 (t190.length : Int) (wrap64 (x41_2 + 1)))) else (none)) else (none)) = some r := by first | (rw [hji49] at H; exact H) | (simp only [hji49] at H ⊢; exact H)
                            have hji49w : (IntKind.i64.wrap (x41_2 - 1)) = ji49 := (i64_w _).trans hji49
                            by_cases c50 : 0 ≤ (ji49)
                            · rw [if_pos c50] at H
                              have c50b0 : decide (0 ≤ (ji49)) = true := decide_eq_true c50
                              clear c50
                              by_cases c51 : (ji49) < (t190.length : Int)
                              · rw [if_pos c51] at H
                                have c51b0 : decide ((ji49) < (t190.length : Int)) = true := decide_eq_true c51
                                clear c51
                                by_cases c52 : ((rd_T26 t190 (ji49)).f1) ≥ ((rd_T26 t190 x41_2).f0)
                                · rw [if_pos c52] at H
                                  have c52b0 : decide (((rd_T26 t190 x41_2).f0) ≤ ((rd_T26 t190 (ji49)).f1)) = true := decide_eq_true c52
                                  clear c52
                                  exact absurd ((Option.some.inj H).trans HRT.out) (by decide)
                                · rw [if_neg c52] at H
                                  have c52b0 : decide (((rd_T26 t190 x41_2).f0) ≤ ((rd_T26 t190 (ji49)).f1)) = false := decide_eq_false c52
                                  clear c52
                                  have H' := Aside0.mk H
                                  clear H
                                  have p199 : 0 ≤ (x41_2 : Int) := of_decide_eq_true (by first | (with_reducible assumption) | assumption)
                                  have q199 : x41_2 < (t190.length : Int) := of_decide_eq_true (by first | (with_reducible assumption) | assumption)
                                  obtain ⟨ad199, e199, hx199_0, hx199_1, hx199_2⟩ := at_T26 (Kd.R_reads' HO_39.out).2.2 x41_2 p199 q199
                                  cases e199
                                  replace p199 := eq_true p199
                                  replace q199 := eq_true q199
                                  go_wp2_with (first | ((with_reducible refine gate_dst (N := 11) rfl ?_); refine box_event ?hg (N := 11) ?hd (cs := #[.int .i64 0, .int .i64 0, .int .i64 0]) (t := 26) ?hr ?_; (case hd => rfl); (case hg => rfl); (case hr => first | (go_simp; done) | (go_simp; rfl)); intro gb200 hg w53 hbox hb; have n0_ := Aside0.mk (Kd.R_below (Kd.R_elderB (by (with_reducible repeat (first | apply Kd.R_alloc | apply Kd.R_drewN | apply Kd.R_drew)); exact HO_5.out) gb200 (Nat.le_of_eq hg.symm)) hb); have n1_ := Aside0.mk (Kd.R_below (Kd.R_elderB (by (with_reducible repeat (first | apply Kd.R_alloc | apply Kd.R_drewN | apply Kd.R_drew)); exact HO_39.out) gb200 (Nat.le_of_eq hg.symm)) hb); have n2_ := Aside0.mk (below_step (by repeat (first | (with_reducible first | exact HB.out | apply below_alloc | apply pw_below_drewN | apply below_drew1) | exact HB.out)) hb); have n3_ := Aside0.mk (hbox); have n4_ := Aside0.mk ((by rw [hg]; exact (below_size (by repeat (first | (with_reducible first | exact HB.out | apply below_alloc | apply pw_below_drewN | apply below_drew1) | exact HB.out))) : w.heap.size ≤ gb200)); have n5_ := Aside0.mk ((by rw [hg]; exact (below_size (by repeat (first | (with_reducible first | exact HB.out | apply below_alloc | apply pw_below_drewN | apply below_drew1) | exact HB.out))) : w.heap.size ≤ gb200)); clear HO_5; clear HO_39; clear HB; have HO_5 := n0_; have HO_39 := n1_; have HB := n2_; have BK200 := n3_; have GW200 := n4_; have GE200 := n5_; clear n0_ n1_ n2_ n3_ n4_ n5_; clear hb hbox hg; have hcz54_0 : w53.cell? ⟨gb200, 0, none⟩ = some (.int .i64 0) := (blk_cell BK200.out 0).trans rfl; have hcz54_1 : w53.cell? ⟨gb200, 1, none⟩ = some (.int .i64 0) := (blk_cell BK200.out 1).trans rfl; have hcz54_2 : w53.cell? ⟨gb200, 2, none⟩ = some (.int .i64 0) := (blk_cell BK200.out 2).trans rfl; have hfz54_0 := blk_frozen BK200.out 0; have hfz54_1 := blk_frozen BK200.out 1; have hfz54_2 := blk_frozen BK200.out 2; have p203 : 0 ≤ ((ji49) : Int) := of_decide_eq_true (by first | (with_reducible assumption) | assumption); have q203 : (ji49) < (t190.length : Int) := of_decide_eq_true (by first | (with_reducible assumption) | assumption); obtain ⟨ad203, e203, hx203_0, hx203_1, hx203_2⟩ := at_T26 (Kd.R_reads' HO_5.out).2.2 (ji49) p203 q203; obtain rfl : ad199 = ad203 := (by injection e203); have hn203_0 : ad199.block ≠ gb200 := Kd.own_blk (fun e_ => (HO_5.out.1 _ e_.symm).2 rfl); have hn203_1 : ad199.block ≠ gb200 := Kd.own_blk (fun e_ => (HO_5.out.1 _ e_.symm).2 rfl); have hn203_2 : ad199.block ≠ gb200 := Kd.own_blk (fun e_ => (HO_5.out.1 _ e_.symm).2 rfl); replace hx203_0 := (cell_far (p := ⟨gb200, 0, none⟩) (by first | (rw [add_block]; exact hn203_0) | (show (Addr.add _ _).block ≠ _; rw [add_block]; exact hn203_0) | exact hn203_0) (.int .i64 ((rd_T26 t190 x41_2).f0))).trans hx203_0; replace hx203_1 := (cell_far (p := ⟨gb200, 0, none⟩) (by first | (rw [add_block]; exact hn203_0) | (show (Addr.add _ _).block ≠ _; rw [add_block]; exact hn203_0) | exact hn203_0) (.int .i64 ((rd_T26 t190 x41_2).f0))).trans hx203_1; replace hx203_2 := (cell_far (p := ⟨gb200, 0, none⟩) (by first | (rw [add_block]; exact hn203_0) | (show (Addr.add _ _).block ≠ _; rw [add_block]; exact hn203_0) | exact hn203_0) (.int .i64 ((rd_T26 t190 x41_2).f0))).trans hx203_2; replace hx203_0 := (cell_far (p := ⟨gb200, 1, none⟩) (by first | (rw [add_block]; exact hn203_1) | (show (Addr.add _ _).block ≠ _; rw [add_block]; exact hn203_1) | exact hn203_1) (.int .i64 ((rd_T26 t190 x41_2).f1))).trans hx203_0; replace hx203_1 := (cell_far (p := ⟨gb200, 1, none⟩) (by first | (rw [add_block]; exact hn203_1) | (show (Addr.add _ _).block ≠ _; rw [add_block]; exact hn203_1) | exact hn203_1) (.int .i64 ((rd_T26 t190 x41_2).f1))).trans hx203_1; replace hx203_2 := (cell_far (p := ⟨gb200, 1, none⟩) (by first | (rw [add_block]; exact hn203_1) | (show (Addr.add _ _).block ≠ _; rw [add_block]; exact hn203_1) | exact hn203_1) (.int .i64 ((rd_T26 t190 x41_2).f1))).trans hx203_2; replace hx203_0 := (cell_far (p := ⟨gb200, 2, none⟩) (by first | (rw [add_block]; exact hn203_2) | (show (Addr.add _ _).block ≠ _; rw [add_block]; exact hn203_2) | exact hn203_2) (.int .i64 ((rd_T26 t190 x41_2).f2))).trans hx203_0; replace hx203_1 := (cell_far (p := ⟨gb200, 2, none⟩) (by first | (rw [add_block]; exact hn203_2) | (show (Addr.add _ _).block ≠ _; rw [add_block]; exact hn203_2) | exact hn203_2) (.int .i64 ((rd_T26 t190 x41_2).f2))).trans hx203_1; replace hx203_2 := (cell_far (p := ⟨gb200, 2, none⟩) (by first | (rw [add_block]; exact hn203_2) | (show (Addr.add _ _).block ≠ _; rw [add_block]; exact hn203_2) | exact hn203_2) (.int .i64 ((rd_T26 t190 x41_2).f2))).trans hx203_2; (try have hy203_0 := fun (n_ : Nat) => (show (((((w53.drewN n_).setCell ⟨gb200, 0, none⟩ (.int .i64 ((rd_T26 t190 x41_2).f0))).setCell ⟨gb200, 1, none⟩ (.int .i64 ((rd_T26 t190 x41_2).f1))).setCell ⟨gb200, 2, none⟩ (.int .i64 ((rd_T26 t190 x41_2).f2)))).cell? _ = some _ from hx203_0)); (try have hy203_1 := fun (n_ : Nat) => (show (((((w53.drewN n_).setCell ⟨gb200, 0, none⟩ (.int .i64 ((rd_T26 t190 x41_2).f0))).setCell ⟨gb200, 1, none⟩ (.int .i64 ((rd_T26 t190 x41_2).f1))).setCell ⟨gb200, 2, none⟩ (.int .i64 ((rd_T26 t190 x41_2).f2)))).cell? _ = some _ from hx203_1)); (try have hy203_2 := fun (n_ : Nat) => (show (((((w53.drewN n_).setCell ⟨gb200, 0, none⟩ (.int .i64 ((rd_T26 t190 x41_2).f0))).setCell ⟨gb200, 1, none⟩ (.int .i64 ((rd_T26 t190 x41_2).f1))).setCell ⟨gb200, 2, none⟩ (.int .i64 ((rd_T26 t190 x41_2).f2)))).cell? _ = some _ from hx203_2)); clear hn203_0; clear hn203_1; clear hn203_2; replace p203 := eq_true p203; replace q203 := eq_true q203))
                                  repeat (go_quiet (first | ((with_reducible refine gate_dst (N := 11) rfl ?_); refine box_event ?hg (N := 11) ?hd (cs := #[.int .i64 0, .int .i64 0, .int .i64 0]) (t := 26) ?hr ?_; (case hd => rfl); (case hg => rfl); (case hr => first | (go_simp; done) | (go_simp; rfl)); intro gb200 hg w53 hbox hb; have n0_ := Aside0.mk (Kd.R_below (Kd.R_elderB (by (with_reducible repeat (first | apply Kd.R_alloc | apply Kd.R_drewN | apply Kd.R_drew)); exact HO_5.out) gb200 (Nat.le_of_eq hg.symm)) hb); have n1_ := Aside0.mk (Kd.R_below (Kd.R_elderB (by (with_reducible repeat (first | apply Kd.R_alloc | apply Kd.R_drewN | apply Kd.R_drew)); exact HO_39.out) gb200 (Nat.le_of_eq hg.symm)) hb); have n2_ := Aside0.mk (below_step (by repeat (first | (with_reducible first | exact HB.out | apply below_alloc | apply pw_below_drewN | apply below_drew1) | exact HB.out)) hb); have n3_ := Aside0.mk (hbox); have n4_ := Aside0.mk ((by rw [hg]; exact (below_size (by repeat (first | (with_reducible first | exact HB.out | apply below_alloc | apply pw_below_drewN | apply below_drew1) | exact HB.out))) : w.heap.size ≤ gb200)); have n5_ := Aside0.mk ((by rw [hg]; exact (below_size (by repeat (first | (with_reducible first | exact HB.out | apply below_alloc | apply pw_below_drewN | apply below_drew1) | exact HB.out))) : w.heap.size ≤ gb200)); clear HO_5; clear HO_39; clear HB; have HO_5 := n0_; have HO_39 := n1_; have HB := n2_; have BK200 := n3_; have GW200 := n4_; have GE200 := n5_; clear n0_ n1_ n2_ n3_ n4_ n5_; clear hb hbox hg; have hcz54_0 : w53.cell? ⟨gb200, 0, none⟩ = some (.int .i64 0) := (blk_cell BK200.out 0).trans rfl; have hcz54_1 : w53.cell? ⟨gb200, 1, none⟩ = some (.int .i64 0) := (blk_cell BK200.out 1).trans rfl; have hcz54_2 : w53.cell? ⟨gb200, 2, none⟩ = some (.int .i64 0) := (blk_cell BK200.out 2).trans rfl; have hfz54_0 := blk_frozen BK200.out 0; have hfz54_1 := blk_frozen BK200.out 1; have hfz54_2 := blk_frozen BK200.out 2; have p203 : 0 ≤ ((ji49) : Int) := of_decide_eq_true (by first | (with_reducible assumption) | assumption); have q203 : (ji49) < (t190.length : Int) := of_decide_eq_true (by first | (with_reducible assumption) | assumption); obtain ⟨ad203, e203, hx203_0, hx203_1, hx203_2⟩ := at_T26 (Kd.R_reads' HO_5.out).2.2 (ji49) p203 q203; obtain rfl : ad199 = ad203 := (by injection e203); have hn203_0 : ad199.block ≠ gb200 := Kd.own_blk (fun e_ => (HO_5.out.1 _ e_.symm).2 rfl); have hn203_1 : ad199.block ≠ gb200 := Kd.own_blk (fun e_ => (HO_5.out.1 _ e_.symm).2 rfl); have hn203_2 : ad199.block ≠ gb200 := Kd.own_blk (fun e_ => (HO_5.out.1 _ e_.symm).2 rfl); replace hx203_0 := (cell_far (p := ⟨gb200, 0, none⟩) (by first | (rw [add_block]; exact hn203_0) | (show (Addr.add _ _).block ≠ _; rw [add_block]; exact hn203_0) | exact hn203_0) (.int .i64 ((rd_T26 t190 x41_2).f0))).trans hx203_0; replace hx203_1 := (cell_far (p := ⟨gb200, 0, none⟩) (by first | (rw [add_block]; exact hn203_0) | (show (Addr.add _ _).block ≠ _; rw [add_block]; exact hn203_0) | exact hn203_0) (.int .i64 ((rd_T26 t190 x41_2).f0))).trans hx203_1; replace hx203_2 := (cell_far (p := ⟨gb200, 0, none⟩) (by first | (rw [add_block]; exact hn203_0) | (show (Addr.add _ _).block ≠ _; rw [add_block]; exact hn203_0) | exact hn203_0) (.int .i64 ((rd_T26 t190 x41_2).f0))).trans hx203_2; replace hx203_0 := (cell_far (p := ⟨gb200, 1, none⟩) (by first | (rw [add_block]; exact hn203_1) | (show (Addr.add _ _).block ≠ _; rw [add_block]; exact hn203_1) | exact hn203_1) (.int .i64 ((rd_T26 t190 x41_2).f1))).trans hx203_0; replace hx203_1 := (cell_far (p := ⟨gb200, 1, none⟩) (by first | (rw [add_block]; exact hn203_1) | (show (Addr.add _ _).block ≠ _; rw [add_block]; exact hn203_1) | exact hn203_1) (.int .i64 ((rd_T26 t190 x41_2).f1))).trans hx203_1; replace hx203_2 := (cell_far (p := ⟨gb200, 1, none⟩) (by first | (rw [add_block]; exact hn203_1) | (show (Addr.add _ _).block ≠ _; rw [add_block]; exact hn203_1) | exact hn203_1) (.int .i64 ((rd_T26 t190 x41_2).f1))).trans hx203_2; replace hx203_0 := (cell_far (p := ⟨gb200, 2, none⟩) (by first | (rw [add_block]; exact hn203_2) | (show (Addr.add _ _).block ≠ _; rw [add_block]; exact hn203_2) | exact hn203_2) (.int .i64 ((rd_T26 t190 x41_2).f2))).trans hx203_0; replace hx203_1 := (cell_far (p := ⟨gb200, 2, none⟩) (by first | (rw [add_block]; exact hn203_2) | (show (Addr.add _ _).block ≠ _; rw [add_block]; exact hn203_2) | exact hn203_2) (.int .i64 ((rd_T26 t190 x41_2).f2))).trans hx203_1; replace hx203_2 := (cell_far (p := ⟨gb200, 2, none⟩) (by first | (rw [add_block]; exact hn203_2) | (show (Addr.add _ _).block ≠ _; rw [add_block]; exact hn203_2) | exact hn203_2) (.int .i64 ((rd_T26 t190 x41_2).f2))).trans hx203_2; (try have hy203_0 := fun (n_ : Nat) => (show (((((w53.drewN n_).setCell ⟨gb200, 0, none⟩ (.int .i64 ((rd_T26 t190 x41_2).f0))).setCell ⟨gb200, 1, none⟩ (.int .i64 ((rd_T26 t190 x41_2).f1))).setCell ⟨gb200, 2, none⟩ (.int .i64 ((rd_T26 t190 x41_2).f2)))).cell? _ = some _ from hx203_0)); (try have hy203_1 := fun (n_ : Nat) => (show (((((w53.drewN n_).setCell ⟨gb200, 0, none⟩ (.int .i64 ((rd_T26 t190 x41_2).f0))).setCell ⟨gb200, 1, none⟩ (.int .i64 ((rd_T26 t190 x41_2).f1))).setCell ⟨gb200, 2, none⟩ (.int .i64 ((rd_T26 t190 x41_2).f2)))).cell? _ = some _ from hx203_1)); (try have hy203_2 := fun (n_ : Nat) => (show (((((w53.drewN n_).setCell ⟨gb200, 0, none⟩ (.int .i64 ((rd_T26 t190 x41_2).f0))).setCell ⟨gb200, 1, none⟩ (.int .i64 ((rd_T26 t190 x41_2).f1))).setCell ⟨gb200, 2, none⟩ (.int .i64 ((rd_T26 t190 x41_2).f2)))).cell? _ = some _ from hx203_2)); clear hn203_0; clear hn203_1; clear hn203_2; replace p203 := eq_true p203; replace q203 := eq_true q203)); try go_wp2_with (first | ((with_reducible refine gate_dst (N := 11) rfl ?_); refine box_event ?hg (N := 11) ?hd (cs := #[.int .i64 0, .int .i64 0, .int .i64 0]) (t := 26) ?hr ?_; (case hd => rfl); (case hg => rfl); (case hr => first | (go_simp; done) | (go_simp; rfl)); intro gb200 hg w53 hbox hb; have n0_ := Aside0.mk (Kd.R_below (Kd.R_elderB (by (with_reducible repeat (first | apply Kd.R_alloc | apply Kd.R_drewN | apply Kd.R_drew)); exact HO_5.out) gb200 (Nat.le_of_eq hg.symm)) hb); have n1_ := Aside0.mk (Kd.R_below (Kd.R_elderB (by (with_reducible repeat (first | apply Kd.R_alloc | apply Kd.R_drewN | apply Kd.R_drew)); exact HO_39.out) gb200 (Nat.le_of_eq hg.symm)) hb); have n2_ := Aside0.mk (below_step (by repeat (first | (with_reducible first | exact HB.out | apply below_alloc | apply pw_below_drewN | apply below_drew1) | exact HB.out)) hb); have n3_ := Aside0.mk (hbox); have n4_ := Aside0.mk ((by rw [hg]; exact (below_size (by repeat (first | (with_reducible first | exact HB.out | apply below_alloc | apply pw_below_drewN | apply below_drew1) | exact HB.out))) : w.heap.size ≤ gb200)); have n5_ := Aside0.mk ((by rw [hg]; exact (below_size (by repeat (first | (with_reducible first | exact HB.out | apply below_alloc | apply pw_below_drewN | apply below_drew1) | exact HB.out))) : w.heap.size ≤ gb200)); clear HO_5; clear HO_39; clear HB; have HO_5 := n0_; have HO_39 := n1_; have HB := n2_; have BK200 := n3_; have GW200 := n4_; have GE200 := n5_; clear n0_ n1_ n2_ n3_ n4_ n5_; clear hb hbox hg; have hcz54_0 : w53.cell? ⟨gb200, 0, none⟩ = some (.int .i64 0) := (blk_cell BK200.out 0).trans rfl; have hcz54_1 : w53.cell? ⟨gb200, 1, none⟩ = some (.int .i64 0) := (blk_cell BK200.out 1).trans rfl; have hcz54_2 : w53.cell? ⟨gb200, 2, none⟩ = some (.int .i64 0) := (blk_cell BK200.out 2).trans rfl; have hfz54_0 := blk_frozen BK200.out 0; have hfz54_1 := blk_frozen BK200.out 1; have hfz54_2 := blk_frozen BK200.out 2; have p203 : 0 ≤ ((ji49) : Int) := of_decide_eq_true (by first | (with_reducible assumption) | assumption); have q203 : (ji49) < (t190.length : Int) := of_decide_eq_true (by first | (with_reducible assumption) | assumption); obtain ⟨ad203, e203, hx203_0, hx203_1, hx203_2⟩ := at_T26 (Kd.R_reads' HO_5.out).2.2 (ji49) p203 q203; obtain rfl : ad199 = ad203 := (by injection e203); have hn203_0 : ad199.block ≠ gb200 := Kd.own_blk (fun e_ => (HO_5.out.1 _ e_.symm).2 rfl); have hn203_1 : ad199.block ≠ gb200 := Kd.own_blk (fun e_ => (HO_5.out.1 _ e_.symm).2 rfl); have hn203_2 : ad199.block ≠ gb200 := Kd.own_blk (fun e_ => (HO_5.out.1 _ e_.symm).2 rfl); replace hx203_0 := (cell_far (p := ⟨gb200, 0, none⟩) (by first | (rw [add_block]; exact hn203_0) | (show (Addr.add _ _).block ≠ _; rw [add_block]; exact hn203_0) | exact hn203_0) (.int .i64 ((rd_T26 t190 x41_2).f0))).trans hx203_0; replace hx203_1 := (cell_far (p := ⟨gb200, 0, none⟩) (by first | (rw [add_block]; exact hn203_0) | (show (Addr.add _ _).block ≠ _; rw [add_block]; exact hn203_0) | exact hn203_0) (.int .i64 ((rd_T26 t190 x41_2).f0))).trans hx203_1; replace hx203_2 := (cell_far (p := ⟨gb200, 0, none⟩) (by first | (rw [add_block]; exact hn203_0) | (show (Addr.add _ _).block ≠ _; rw [add_block]; exact hn203_0) | exact hn203_0) (.int .i64 ((rd_T26 t190 x41_2).f0))).trans hx203_2; replace hx203_0 := (cell_far (p := ⟨gb200, 1, none⟩) (by first | (rw [add_block]; exact hn203_1) | (show (Addr.add _ _).block ≠ _; rw [add_block]; exact hn203_1) | exact hn203_1) (.int .i64 ((rd_T26 t190 x41_2).f1))).trans hx203_0; replace hx203_1 := (cell_far (p := ⟨gb200, 1, none⟩) (by first | (rw [add_block]; exact hn203_1) | (show (Addr.add _ _).block ≠ _; rw [add_block]; exact hn203_1) | exact hn203_1) (.int .i64 ((rd_T26 t190 x41_2).f1))).trans hx203_1; replace hx203_2 := (cell_far (p := ⟨gb200, 1, none⟩) (by first | (rw [add_block]; exact hn203_1) | (show (Addr.add _ _).block ≠ _; rw [add_block]; exact hn203_1) | exact hn203_1) (.int .i64 ((rd_T26 t190 x41_2).f1))).trans hx203_2; replace hx203_0 := (cell_far (p := ⟨gb200, 2, none⟩) (by first | (rw [add_block]; exact hn203_2) | (show (Addr.add _ _).block ≠ _; rw [add_block]; exact hn203_2) | exact hn203_2) (.int .i64 ((rd_T26 t190 x41_2).f2))).trans hx203_0; replace hx203_1 := (cell_far (p := ⟨gb200, 2, none⟩) (by first | (rw [add_block]; exact hn203_2) | (show (Addr.add _ _).block ≠ _; rw [add_block]; exact hn203_2) | exact hn203_2) (.int .i64 ((rd_T26 t190 x41_2).f2))).trans hx203_1; replace hx203_2 := (cell_far (p := ⟨gb200, 2, none⟩) (by first | (rw [add_block]; exact hn203_2) | (show (Addr.add _ _).block ≠ _; rw [add_block]; exact hn203_2) | exact hn203_2) (.int .i64 ((rd_T26 t190 x41_2).f2))).trans hx203_2; (try have hy203_0 := fun (n_ : Nat) => (show (((((w53.drewN n_).setCell ⟨gb200, 0, none⟩ (.int .i64 ((rd_T26 t190 x41_2).f0))).setCell ⟨gb200, 1, none⟩ (.int .i64 ((rd_T26 t190 x41_2).f1))).setCell ⟨gb200, 2, none⟩ (.int .i64 ((rd_T26 t190 x41_2).f2)))).cell? _ = some _ from hx203_0)); (try have hy203_1 := fun (n_ : Nat) => (show (((((w53.drewN n_).setCell ⟨gb200, 0, none⟩ (.int .i64 ((rd_T26 t190 x41_2).f0))).setCell ⟨gb200, 1, none⟩ (.int .i64 ((rd_T26 t190 x41_2).f1))).setCell ⟨gb200, 2, none⟩ (.int .i64 ((rd_T26 t190 x41_2).f2)))).cell? _ = some _ from hx203_1)); (try have hy203_2 := fun (n_ : Nat) => (show (((((w53.drewN n_).setCell ⟨gb200, 0, none⟩ (.int .i64 ((rd_T26 t190 x41_2).f0))).setCell ⟨gb200, 1, none⟩ (.int .i64 ((rd_T26 t190 x41_2).f1))).setCell ⟨gb200, 2, none⟩ (.int .i64 ((rd_T26 t190 x41_2).f2)))).cell? _ = some _ from hx203_2)); clear hn203_0; clear hn203_1; clear hn203_2; replace p203 := eq_true p203; replace q203 := eq_true q203)))
                                  go_roundg k2
                                  case measure => have := HK1.out; have := HK2.out; omega
                                  case rel => exact ⟨(false), (wrap64 (x41_2 + 1)), (by first | rfl | (simp; done) | (simp [*]; done)), (by first | rfl | (simp; done) | (simp [*]; done)), H', ⟨by have := HK1.out; have := HK2.out; omega⟩, ⟨by (with_reducible repeat (first | apply Kd.R_alloc | apply Kd.R_drewN | apply Kd.R_drew)); exact Kd.R_mono (Kd.R_far (p := ⟨gb200, 2, none⟩) (Kd.R_far (p := ⟨gb200, 1, none⟩) (Kd.R_far (p := ⟨gb200, 0, none⟩) (Kd.R_mono HO_5.out (fun k_ hk => (⟨hk, hk.2⟩ : _ ∧ k_ ≠ gb200))) (fun _ hk => hk.2) (.int .i64 ((rd_T26 t190 x41_2).f0))) (fun _ hk => hk.2) (.int .i64 ((rd_T26 t190 x41_2).f1))) (fun _ hk => hk.2) (.int .i64 ((rd_T26 t190 x41_2).f2))) (fun _ hk => trivial)⟩, ⟨by (with_reducible repeat (first | apply Kd.R_alloc | apply Kd.R_drewN | apply Kd.R_drew)); exact Kd.R_mono (Kd.R_far (p := ⟨gb200, 2, none⟩) (Kd.R_far (p := ⟨gb200, 1, none⟩) (Kd.R_far (p := ⟨gb200, 0, none⟩) (Kd.R_mono HO_39.out (fun k_ hk => (⟨hk, hk.2⟩ : _ ∧ k_ ≠ gb200))) (fun _ hk => hk.2) (.int .i64 ((rd_T26 t190 x41_2).f0))) (fun _ hk => hk.2) (.int .i64 ((rd_T26 t190 x41_2).f1))) (fun _ hk => hk.2) (.int .i64 ((rd_T26 t190 x41_2).f2))) (fun _ hk => trivial)⟩, ⟨by repeat (first | (with_reducible first | exact HB.out | apply below_alloc | apply pw_below_drewN | apply below_drew1 | refine below_set ?_ GE200.out) | exact HB.out)⟩⟩
                              · rw [if_neg c51] at H
                                exact absurd H (by simp)
                            · rw [if_neg c50] at H
                              exact absurd H (by simp)
                          · rw [if_neg c48] at H
                            have c48b0 : decide (0 < x41_2) = false := decide_eq_false c48
                            clear c48
                            have H' := Aside0.mk H
                            clear H
                            have p199 : 0 ≤ (x41_2 : Int) := of_decide_eq_true (by first | (with_reducible assumption) | assumption)
                            have q199 : x41_2 < (t190.length : Int) := of_decide_eq_true (by first | (with_reducible assumption) | assumption)
                            obtain ⟨ad199, e199, hx199_0, hx199_1, hx199_2⟩ := at_T26 (Kd.R_reads' HO_39.out).2.2 x41_2 p199 q199
                            cases e199
                            replace p199 := eq_true p199
                            replace q199 := eq_true q199
                            go_wp2_with (first | ((with_reducible refine gate_dst (N := 11) rfl ?_); refine box_event ?hg (N := 11) ?hd (cs := #[.int .i64 0, .int .i64 0, .int .i64 0]) (t := 26) ?hr ?_; (case hd => rfl); (case hg => rfl); (case hr => first | (go_simp; done) | (go_simp; rfl)); intro gb200 hg w55 hbox hb; have n0_ := Aside0.mk (Kd.R_below (Kd.R_elderB (by (with_reducible repeat (first | apply Kd.R_alloc | apply Kd.R_drewN | apply Kd.R_drew)); exact HO_5.out) gb200 (Nat.le_of_eq hg.symm)) hb); have n1_ := Aside0.mk (Kd.R_below (Kd.R_elderB (by (with_reducible repeat (first | apply Kd.R_alloc | apply Kd.R_drewN | apply Kd.R_drew)); exact HO_39.out) gb200 (Nat.le_of_eq hg.symm)) hb); have n2_ := Aside0.mk (below_step (by repeat (first | (with_reducible first | exact HB.out | apply below_alloc | apply pw_below_drewN | apply below_drew1) | exact HB.out)) hb); have n3_ := Aside0.mk (hbox); have n4_ := Aside0.mk ((by rw [hg]; exact (below_size (by repeat (first | (with_reducible first | exact HB.out | apply below_alloc | apply pw_below_drewN | apply below_drew1) | exact HB.out))) : w.heap.size ≤ gb200)); have n5_ := Aside0.mk ((by rw [hg]; exact (below_size (by repeat (first | (with_reducible first | exact HB.out | apply below_alloc | apply pw_below_drewN | apply below_drew1) | exact HB.out))) : w.heap.size ≤ gb200)); clear HO_5; clear HO_39; clear HB; have HO_5 := n0_; have HO_39 := n1_; have HB := n2_; have BK200 := n3_; have GW200 := n4_; have GE200 := n5_; clear n0_ n1_ n2_ n3_ n4_ n5_; clear hb hbox hg; have hcz56_0 : w55.cell? ⟨gb200, 0, none⟩ = some (.int .i64 0) := (blk_cell BK200.out 0).trans rfl; have hcz56_1 : w55.cell? ⟨gb200, 1, none⟩ = some (.int .i64 0) := (blk_cell BK200.out 1).trans rfl; have hcz56_2 : w55.cell? ⟨gb200, 2, none⟩ = some (.int .i64 0) := (blk_cell BK200.out 2).trans rfl; have hfz56_0 := blk_frozen BK200.out 0; have hfz56_1 := blk_frozen BK200.out 1; have hfz56_2 := blk_frozen BK200.out 2))
                            repeat (go_quiet (first | ((with_reducible refine gate_dst (N := 11) rfl ?_); refine box_event ?hg (N := 11) ?hd (cs := #[.int .i64 0, .int .i64 0, .int .i64 0]) (t := 26) ?hr ?_; (case hd => rfl); (case hg => rfl); (case hr => first | (go_simp; done) | (go_simp; rfl)); intro gb200 hg w55 hbox hb; have n0_ := Aside0.mk (Kd.R_below (Kd.R_elderB (by (with_reducible repeat (first | apply Kd.R_alloc | apply Kd.R_drewN | apply Kd.R_drew)); exact HO_5.out) gb200 (Nat.le_of_eq hg.symm)) hb); have n1_ := Aside0.mk (Kd.R_below (Kd.R_elderB (by (with_reducible repeat (first | apply Kd.R_alloc | apply Kd.R_drewN | apply Kd.R_drew)); exact HO_39.out) gb200 (Nat.le_of_eq hg.symm)) hb); have n2_ := Aside0.mk (below_step (by repeat (first | (with_reducible first | exact HB.out | apply below_alloc | apply pw_below_drewN | apply below_drew1) | exact HB.out)) hb); have n3_ := Aside0.mk (hbox); have n4_ := Aside0.mk ((by rw [hg]; exact (below_size (by repeat (first | (with_reducible first | exact HB.out | apply below_alloc | apply pw_below_drewN | apply below_drew1) | exact HB.out))) : w.heap.size ≤ gb200)); have n5_ := Aside0.mk ((by rw [hg]; exact (below_size (by repeat (first | (with_reducible first | exact HB.out | apply below_alloc | apply pw_below_drewN | apply below_drew1) | exact HB.out))) : w.heap.size ≤ gb200)); clear HO_5; clear HO_39; clear HB; have HO_5 := n0_; have HO_39 := n1_; have HB := n2_; have BK200 := n3_; have GW200 := n4_; have GE200 := n5_; clear n0_ n1_ n2_ n3_ n4_ n5_; clear hb hbox hg; have hcz56_0 : w55.cell? ⟨gb200, 0, none⟩ = some (.int .i64 0) := (blk_cell BK200.out 0).trans rfl; have hcz56_1 : w55.cell? ⟨gb200, 1, none⟩ = some (.int .i64 0) := (blk_cell BK200.out 1).trans rfl; have hcz56_2 : w55.cell? ⟨gb200, 2, none⟩ = some (.int .i64 0) := (blk_cell BK200.out 2).trans rfl; have hfz56_0 := blk_frozen BK200.out 0; have hfz56_1 := blk_frozen BK200.out 1; have hfz56_2 := blk_frozen BK200.out 2)); try go_wp2_with (first | ((with_reducible refine gate_dst (N := 11) rfl ?_); refine box_event ?hg (N := 11) ?hd (cs := #[.int .i64 0, .int .i64 0, .int .i64 0]) (t := 26) ?hr ?_; (case hd => rfl); (case hg => rfl); (case hr => first | (go_simp; done) | (go_simp; rfl)); intro gb200 hg w55 hbox hb; have n0_ := Aside0.mk (Kd.R_below (Kd.R_elderB (by (with_reducible repeat (first | apply Kd.R_alloc | apply Kd.R_drewN | apply Kd.R_drew)); exact HO_5.out) gb200 (Nat.le_of_eq hg.symm)) hb); have n1_ := Aside0.mk (Kd.R_below (Kd.R_elderB (by (with_reducible repeat (first | apply Kd.R_alloc | apply Kd.R_drewN | apply Kd.R_drew)); exact HO_39.out) gb200 (Nat.le_of_eq hg.symm)) hb); have n2_ := Aside0.mk (below_step (by repeat (first | (with_reducible first | exact HB.out | apply below_alloc | apply pw_below_drewN | apply below_drew1) | exact HB.out)) hb); have n3_ := Aside0.mk (hbox); have n4_ := Aside0.mk ((by rw [hg]; exact (below_size (by repeat (first | (with_reducible first | exact HB.out | apply below_alloc | apply pw_below_drewN | apply below_drew1) | exact HB.out))) : w.heap.size ≤ gb200)); have n5_ := Aside0.mk ((by rw [hg]; exact (below_size (by repeat (first | (with_reducible first | exact HB.out | apply below_alloc | apply pw_below_drewN | apply below_drew1) | exact HB.out))) : w.heap.size ≤ gb200)); clear HO_5; clear HO_39; clear HB; have HO_5 := n0_; have HO_39 := n1_; have HB := n2_; have BK200 := n3_; have GW200 := n4_; have GE200 := n5_; clear n0_ n1_ n2_ n3_ n4_ n5_; clear hb hbox hg; have hcz56_0 : w55.cell? ⟨gb200, 0, none⟩ = some (.int .i64 0) := (blk_cell BK200.out 0).trans rfl; have hcz56_1 : w55.cell? ⟨gb200, 1, none⟩ = some (.int .i64 0) := (blk_cell BK200.out 1).trans rfl; have hcz56_2 : w55.cell? ⟨gb200, 2, none⟩ = some (.int .i64 0) := (blk_cell BK200.out 2).trans rfl; have hfz56_0 := blk_frozen BK200.out 0; have hfz56_1 := blk_frozen BK200.out 1; have hfz56_2 := blk_frozen BK200.out 2)))
                            go_roundg k2
                            case measure => have := HK1.out; have := HK2.out; omega
                            case rel => exact ⟨(false), (wrap64 (x41_2 + 1)), (by first | rfl | (simp; done) | (simp [*]; done)), (by first | rfl | (simp; done) | (simp [*]; done)), H', ⟨by have := HK1.out; have := HK2.out; omega⟩, ⟨by (with_reducible repeat (first | apply Kd.R_alloc | apply Kd.R_drewN | apply Kd.R_drew)); exact Kd.R_mono (Kd.R_far (p := ⟨gb200, 2, none⟩) (Kd.R_far (p := ⟨gb200, 1, none⟩) (Kd.R_far (p := ⟨gb200, 0, none⟩) (Kd.R_mono HO_5.out (fun k_ hk => (⟨hk, hk.2⟩ : _ ∧ k_ ≠ gb200))) (fun _ hk => hk.2) (.int .i64 ((rd_T26 t190 x41_2).f0))) (fun _ hk => hk.2) (.int .i64 ((rd_T26 t190 x41_2).f1))) (fun _ hk => hk.2) (.int .i64 ((rd_T26 t190 x41_2).f2))) (fun _ hk => trivial)⟩, ⟨by (with_reducible repeat (first | apply Kd.R_alloc | apply Kd.R_drewN | apply Kd.R_drew)); exact Kd.R_mono (Kd.R_far (p := ⟨gb200, 2, none⟩) (Kd.R_far (p := ⟨gb200, 1, none⟩) (Kd.R_far (p := ⟨gb200, 0, none⟩) (Kd.R_mono HO_39.out (fun k_ hk => (⟨hk, hk.2⟩ : _ ∧ k_ ≠ gb200))) (fun _ hk => hk.2) (.int .i64 ((rd_T26 t190 x41_2).f0))) (fun _ hk => hk.2) (.int .i64 ((rd_T26 t190 x41_2).f1))) (fun _ hk => hk.2) (.int .i64 ((rd_T26 t190 x41_2).f2))) (fun _ hk => trivial)⟩, ⟨by repeat (first | (with_reducible first | exact HB.out | apply below_alloc | apply pw_below_drewN | apply below_drew1 | refine below_set ?_ GE200.out) | exact HB.out)⟩⟩
                  · rw [if_neg c24] at H
                    exact absurd H (by simp)
                · rw [if_neg c23] at H
                  exact absurd H (by simp)
              · rw [if_neg c22] at H
                have c22b0 : decide (x41_2 < (t190.length : Int)) = false := decide_eq_false c22
                clear c22
                by_cases c57 : (x6_1 == x7_2) = true
                · rw [if_pos c57] at H
                  have c57b0 : (x6_1 == x7_2) = true := c57
                  (try (have c57b1 : decide (x6_1 = x7_2) = true := by simpa using c57))
                  (try (have c57b2 : (x6_1 == x7_2) = true := by simpa using c57))
                  clear c57
                  replace H := Option.bind_eq_some_iff.mp H
                  obtain ⟨t204, A580, H⟩ := H
                  replace H : (some t204) = some r := H
                  have A58 := Aside0.mk A580
                  clear A580
                  obtain rfl := Option.some.inj H
                  go_wp2_with (first | (go_at_call 7; (with_reducible refine (almanaclaw25_awake.calls t204 _ A58.out (HTab.out.below (by repeat (first | (with_reducible first | exact HB.out | apply below_alloc | apply pw_below_drewN | apply below_drew1) | exact HB.out)))).mono ?_); rintro e w59 ⟨rfl, hb⟩; have n0_ := Aside0.mk (Kd.R_below (by (with_reducible repeat (first | apply Kd.R_alloc | apply Kd.R_drewN | apply Kd.R_drew)); exact HO_5.out) hb); have n1_ := Aside0.mk (Kd.R_below (by (with_reducible repeat (first | apply Kd.R_alloc | apply Kd.R_drewN | apply Kd.R_drew)); exact HO_39.out) hb); have n2_ := Aside0.mk (below_step (by repeat (first | (with_reducible first | exact HB.out | apply below_alloc | apply pw_below_drewN | apply below_drew1) | exact HB.out)) hb); clear HO_5; clear HO_39; clear HB; have HO_5 := n0_; have HO_39 := n1_; have HB := n2_; clear n0_ n1_ n2_; (try clear hb); (try clear hb2); (try clear hk); (try clear hi)))
                  repeat (go_quiet (first | (go_at_call 7; (with_reducible refine (almanaclaw25_awake.calls t204 _ A58.out (HTab.out.below (by repeat (first | (with_reducible first | exact HB.out | apply below_alloc | apply pw_below_drewN | apply below_drew1) | exact HB.out)))).mono ?_); rintro e w59 ⟨rfl, hb⟩; have n0_ := Aside0.mk (Kd.R_below (by (with_reducible repeat (first | apply Kd.R_alloc | apply Kd.R_drewN | apply Kd.R_drew)); exact HO_5.out) hb); have n1_ := Aside0.mk (Kd.R_below (by (with_reducible repeat (first | apply Kd.R_alloc | apply Kd.R_drewN | apply Kd.R_drew)); exact HO_39.out) hb); have n2_ := Aside0.mk (below_step (by repeat (first | (with_reducible first | exact HB.out | apply below_alloc | apply pw_below_drewN | apply below_drew1) | exact HB.out)) hb); clear HO_5; clear HO_39; clear HB; have HO_5 := n0_; have HO_39 := n1_; have HB := n2_; clear n0_ n1_ n2_; (try clear hb); (try clear hb2); (try clear hk); (try clear hi))); try go_wp2_with (first | (go_at_call 7; (with_reducible refine (almanaclaw25_awake.calls t204 _ A58.out (HTab.out.below (by repeat (first | (with_reducible first | exact HB.out | apply below_alloc | apply pw_below_drewN | apply below_drew1) | exact HB.out)))).mono ?_); rintro e w59 ⟨rfl, hb⟩; have n0_ := Aside0.mk (Kd.R_below (by (with_reducible repeat (first | apply Kd.R_alloc | apply Kd.R_drewN | apply Kd.R_drew)); exact HO_5.out) hb); have n1_ := Aside0.mk (Kd.R_below (by (with_reducible repeat (first | apply Kd.R_alloc | apply Kd.R_drewN | apply Kd.R_drew)); exact HO_39.out) hb); have n2_ := Aside0.mk (below_step (by repeat (first | (with_reducible first | exact HB.out | apply below_alloc | apply pw_below_drewN | apply below_drew1) | exact HB.out)) hb); clear HO_5; clear HO_39; clear HB; have HO_5 := n0_; have HO_39 := n1_; have HB := n2_; clear n0_ n1_ n2_; (try clear hb); (try clear hb2); (try clear hk); (try clear hi))))
                  go_ret
                  exact ⟨by first | rfl | (simp [errW_none, errW_some] <;> rfl) | (simp [*, errW_none, errW_some] <;> rfl), by repeat (first | (with_reducible first | exact HB.out | apply below_alloc | apply pw_below_drewN | apply below_drew1) | exact HB.out)⟩
                · rw [if_neg c57] at H
                  have c57b0 : (x6_1 == x7_2) = false := by simpa using c57
                  (try (have c57b1 : decide (x6_1 = x7_2) = false := by simpa using c57))
                  (try (have c57b2 : (x6_1 == x7_2) = false := by simpa using c57))
                  (try (have c57b3 : ¬ (x6_1 = x7_2) := by simpa using c57))
                  clear c57
                  exact absurd ((Option.some.inj H).trans HRT.out) (by decide)
  · replace c6 := Bool.eq_false_iff.mpr c6
    subst c6
    have H1 : (some false) = some r := by rw [if_neg (show ¬ (false = true) by decide)] at H; exact H
    clear H
    have H := H1
    clear H1
    exact absurd ((Option.some.inj H).trans HRT.out) (by decide)

end Go.Proofs.YtdafnjlmkbffeaaDoor.PD
/- Chapter 25: the document's Merge and Insts come to what the plain ones come to. -/
namespace Go.Proofs.YtdafnjlmkbffeaaDoor.PD
open Go.RowKit Go.Proofs.YtdafnjlmkbffeaaDoorW.PrintWords Go.Proofs.YtdafnjlmkbffeaaDoorW.PrintLast Go.Proofs.YtdafnjlmkbffeaaDoorW.PrintMore
set_option linter.unusedVariables false
set_option linter.unusedSimpArgs false
theorem w64n {i : Nat} (h : i < 9223372036854775807) : wrap64 ((i : Int) + 1) = ((i + 1 : Nat) : Int) := by unfold wrap64; omega
theorem rd_at {l : List S26} {i : Nat} (h : i < l.length) : rd_T26 l (i : Int) = l[i] := by simp only [rd_T26, Int.toNat_natCast]; simp [h]
theorem ne_S (a b : S26) : (!(a.f0 == b.f0) || (!(a.f1 == b.f1) || (!(a.f2 == b.f2)))) = !decide (a = b) := by
  cases a with | mk a0 a1 a2 => cases b with | mk b0 b1 b2 =>
  by_cases h0 : a0 = b0 <;> by_cases h1 : a1 = b1 <;> by_cases h2 : a2 = b2 <;> simp [h0, h1, h2, S26.mk.injEq]
theorem drop_step {α : Type} {l : List α} {i : Nat} (h : i < l.length) : l.drop i = l[i] :: l.drop (i + 1) := List.drop_eq_getElem_cons h
theorem insts_loop (l : List S26) (hb : l.length < 5864062014805) : ∀ d i : Nat, l.length - i = d → i ≤ l.length → Ev (fun k => almanacref18_Insts.l0 k l l (i : Int)) true := by
  intro d
  induction d with
  | zero =>
    intro i hd hi
    refine Ev.step (f := fun _ => some true) (fun k => by simp only [almanacref18_Insts.l0]; rw [if_neg (by omega)]) ?_
    exact Ev.now _
  | succ d ih =>
    intro i hd hi
    have h1 : i < l.length := by omega
    refine Ev.step (f := fun k => almanacref18_Insts.l0 k l l ((i + 1 : Nat) : Int)) (fun k => by
      simp only [almanacref18_Insts.l0]
      rw [if_pos (by omega), if_pos (by omega), if_pos (by omega), rd_at h1, ne_S, w64n (by omega)]
      simp) ?_
    exact ih (i + 1) (by omega) (by omega)
theorem insts_val (l : List S26) (hb : l.length < 5864062014805) : Ev (fun k => almanacref18_Insts.f k l l) true :=
  Ev.congr (f := fun k => almanacref18_Insts.l0 k l l ((0 : Nat) : Int)) (fun k => by unfold almanacref18_Insts.f; rw [if_pos rfl]; rfl) (insts_loop l hb _ 0 rfl (Nat.zero_le _))
theorem merge_l2 (s : List S26) (hb : s.length < 5864062014805) : ∀ d i : Nat, s.length - i = d → i ≤ s.length → Ev (fun k => almanacref25_Merge.l2 k s (mergeS (s.take i)) (i : Int)) (mergeS s) := by
  intro d
  induction d with
  | zero =>
    intro i hd hi
    refine Ev.step (f := fun _ => some (mergeS s)) (fun k => by simp only [almanacref25_Merge.l2]; rw [if_neg (by omega), List.take_of_length_le (by omega)]) ?_
    exact Ev.now _
  | succ d ih =>
    intro i hd hi
    have h1 : i < s.length := by omega
    have hx := rd_at h1
    have ht : mergeS (s.take (i + 1)) = stepM (mergeS (s.take i)) s[i] := by
      unfold mergeS
      rw [List.take_add_one, List.getElem?_eq_getElem h1, List.foldl_append]
      rfl
    have hml := Nat.le_trans (mergeS_len (s.take i)) (by rw [List.length_take]; exact Nat.min_le_left _ _ : (s.take i).length ≤ i)
    have ih' := ih (i + 1) (by omega) (by omega)
    rw [ht] at ih'
    revert hml ih'
    generalize mergeS (s.take i) = o
    intro hml ih'
    refine Ev.step (f := fun k => almanacref25_Merge.l2 k s (stepM o s[i]) ((i + 1 : Nat) : Int)) (fun k => ?_) ih'
    simp only [almanacref25_Merge.l2]
    rw [if_pos (by omega), hx, w64n (by omega)]
    rcases List.eq_nil_or_concat o with rfl | ⟨q, z, rfl⟩
    · rw [if_neg (by simp), if_pos (by omega), if_pos (by simp), stepM_nil]
      rfl
    · rw [List.concat_eq_append] at *
      have hwl : wrap64 (((q ++ [z]).length : Int) - 1) = (q.length : Int) := by simp only [wrap64, List.length_append, List.length_singleton]; simp only [List.length_append, List.length_singleton] at hml; omega
      have hz : rd_T26 (q ++ [z]) (q.length : Int) = z := by simp [rd_T26]
      rw [if_pos (by simp only [List.length_append, List.length_singleton]; omega), if_pos (by omega), hwl, if_pos (by omega), if_pos (by simp; omega), hz, stepM_snoc]
      by_cases hc : s[i].f0 ≤ z.f1
      · rw [if_pos hc, if_pos hc]
        have e1 : (q ++ [z]).set ((q.length : Int)).toNat (⟨z.f0, mx z.f1 s[i].f1, z.f2⟩ : S26) = q ++ [⟨z.f0, max z.f1 s[i].f1, z.f2⟩] := by
          rw [Int.toNat_natCast, List.set_append_right _ _ (Nat.le_refl _), Nat.sub_self]
          have : mx z.f1 s[i].f1 = max z.f1 s[i].f1 := by unfold mx; split <;> omega
          rw [this]; rfl
        rw [e1]
      · rw [if_neg hc, if_neg hc, if_pos (by omega)]
end Go.Proofs.YtdafnjlmkbffeaaDoor.PD
/- Chapter 25: the document's Merge is the plain one. -/
namespace Go.Proofs.YtdafnjlmkbffeaaDoor.PD
open Go.RowKit Go.Proofs.YtdafnjlmkbffeaaDoorW.PrintWords Go.Proofs.YtdafnjlmkbffeaaDoorW.PrintLast Go.Proofs.YtdafnjlmkbffeaaDoorW.PrintMore
set_option linter.unusedVariables false
set_option linter.unusedSimpArgs false
theorem insR_all (x : S26) : ∀ A : List S26, (∀ a ∈ A, a.f0 ≤ x.f0) → insR x A = A ++ [x]
  | [], _ => rfl
  | a :: r, h => by
    unfold insR
    rw [if_neg (by have := h a (List.mem_cons_self ..); omega), insR_all x r (fun b hb => h b (List.mem_cons_of_mem _ hb))]
    rfl
theorem insR_snoc (x y : S26) : ∀ A : List S26, (A ++ [y]).Pairwise (fun a b => a.f0 ≤ b.f0) → x.f0 < y.f0 → insR x (A ++ [y]) = insR x A ++ [y]
  | [], _, h => by simp [insR, h]
  | a :: r, hs, h => by
    have hs' : (a :: (r ++ [y])).Pairwise (fun a b => a.f0 ≤ b.f0) := hs
    rw [List.pairwise_cons] at hs'
    have ih := insR_snoc x y r hs'.2 h
    show insR x (a :: (r ++ [y])) = insR x (a :: r) ++ [y]
    unfold insR
    split
    · rfl
    · rw [ih]; rfl
theorem merge_l1 (l : List S26) (x : S26) (i : Nat) (r : List S26) : ∀ (n : Nat) (A B : List S26), A.length = n → A.length + B.length < 5864062014805 → A.Pairwise (fun a b => a.f0 ≤ b.f0) → i < 5864062014805 →
    Ev (fun k => almanacref25_Merge.l0 k l (insR x A ++ B) ((i + 1 : Nat) : Int)) r → Ev (fun k => almanacref25_Merge.l1 k l (A ++ x :: B) (i : Int) (A.length : Int)) r := by
  intro n
  induction n with
  | zero =>
    intro A B hn hb hs hi H
    obtain rfl := List.eq_nil_of_length_eq_zero hn
    refine Ev.step (f := fun k => almanacref25_Merge.l0 k l ([x] ++ B) ((i + 1 : Nat) : Int)) (fun k => by
      simp only [almanacref25_Merge.l1]
      rw [if_neg (by simp), w64n (by omega)]
      rfl) H
  | succ n ih =>
    intro A B hn hb hs hi H
    rcases List.eq_nil_or_concat A with rfl | ⟨A0, y, rfl⟩
    · simp at hn
    rw [List.concat_eq_append] at *
    have hl : (A0 ++ [y]).length = A0.length + 1 := by simp
    have hLl : ((A0 ++ [y]) ++ x :: B).length = A0.length + 2 + B.length := by simp; omega
    have hw : wrap64 (((A0 ++ [y]).length : Int) - 1) = (A0.length : Int) := by rw [hl]; simp only [wrap64]; omega
    have g1 : rd_T26 ((A0 ++ [y]) ++ x :: B) ((A0 ++ [y]).length : Int) = x := by simp only [rd_T26, Int.toNat_natCast]; simp
    have g0 : rd_T26 ((A0 ++ [y]) ++ x :: B) (A0.length : Int) = y := by simp only [rd_T26, Int.toNat_natCast]; simp
    by_cases hc : x.f0 < y.f0
    · rw [insR_snoc x y A0 hs hc, List.append_assoc] at H
      have ih' := ih A0 ([y] ++ B) (by rw [hl] at hn; omega) (by rw [hl] at hb; simp; omega) (List.pairwise_append.1 hs).1 hi H
      refine Ev.step (f := fun k => almanacref25_Merge.l1 k l (A0 ++ x :: ([y] ++ B)) (i : Int) (A0.length : Int)) (fun k => by
        simp only [almanacref25_Merge.l1]
        rw [hw, g1, g0, if_pos (by rw [hl]; omega), if_pos (by omega), if_pos (by rw [hLl, hl]; omega), if_pos (by omega), if_pos (by rw [hLl]; omega), if_pos hc]
        congr 1
        rw [Int.toNat_natCast, Int.toNat_natCast, hl]
        apply List.ext_getElem?
        intro j
        simp only [List.getElem?_set, List.length_set]
        rcases Nat.lt_trichotomy j A0.length with h | h | h
        · simp [List.getElem?_append, h, show j ≠ A0.length by omega, show ¬ A0.length = j by omega, show ¬ A0.length + 1 = j by omega, show j < A0.length + 1 by omega]
        · subst h; simp
        · rcases Nat.lt_trichotomy j (A0.length + 1) with h2 | h2 | h2
          · omega
          · subst h2; simp
          · obtain ⟨d, rfl⟩ : ∃ d, j = A0.length + 2 + d := ⟨j - (A0.length + 2), by omega⟩
            simp [List.getElem?_append, show ¬ A0.length = A0.length + 2 + d by omega, show ¬ A0.length + 1 = A0.length + 2 + d by omega, show ¬ A0.length + 2 + d < A0.length by omega, show ¬ A0.length + 2 + d < A0.length + 1 by omega, show A0.length + 2 + d - A0.length = d + 2 by omega, show A0.length + 2 + d - (A0.length + 1) = d + 1 by omega]) ih'
    · have hall : ∀ a ∈ A0 ++ [y], a.f0 ≤ x.f0 := by
        intro a ha
        rcases List.mem_append.1 ha with h | h
        · have := (List.pairwise_append.1 hs).2.2 a h y (by simp); omega
        · simp at h; subst h; omega
      rw [insR_all x _ hall] at H
      refine Ev.step (f := fun k => almanacref25_Merge.l0 k l ((A0 ++ [y]) ++ x :: B) ((i + 1 : Nat) : Int)) (fun k => by
        simp only [almanacref25_Merge.l1]
        rw [hw, g1, g0, if_pos (by rw [hl]; omega), if_pos (by omega), if_pos (by rw [hLl, hl]; omega), if_pos (by omega), if_pos (by rw [hLl]; omega), if_neg hc, w64n (by omega)]) ?_
      rw [List.append_assoc] at H
      exact H
theorem live_take {l : List S26} {i : Nat} (h : i < l.length) : liveL (l.take (i + 1)) = liveL (l.take i) ++ (if deadI l[i] then [] else [l[i]]) := by
  unfold liveL
  rw [List.take_add_one, List.getElem?_eq_getElem h, List.filter_append]
  cases hd : deadI l[i] <;> simp [hd]
theorem merge_l0 (l : List S26) (hb : l.length < 5864062014805) : ∀ d i : Nat, l.length - i = d → i ≤ l.length → Ev (fun k => almanacref25_Merge.l0 k l (sortR (liveL (l.take i))) (i : Int)) (mergeL l) := by
  intro d
  induction d with
  | zero =>
    intro i hd hi
    have hlen : (sortR (liveL l)).length < 5864062014805 := by have := (sortR_perm (liveL l)).length_eq; have := live_len l; omega
    refine Ev.step (f := fun k => almanacref25_Merge.l2 k (sortR (liveL l)) (mergeS ((sortR (liveL l)).take 0)) ((0 : Nat) : Int)) (fun k => by
      simp only [almanacref25_Merge.l0]
      rw [if_neg (by omega), List.take_of_length_le (by omega)]
      rfl) ?_
    exact merge_l2 _ hlen _ 0 rfl (Nat.zero_le _)
  | succ d ih =>
    intro i hd hi
    have h1 : i < l.length := by omega
    have ih' := ih (i + 1) (by omega) (by omega)
    rw [live_take h1] at ih'
    have hls : (sortR (liveL (l.take i))).length ≤ i := by
      rw [(sortR_perm _).length_eq]
      refine Nat.le_trans (live_len _) ?_
      rw [List.length_take]; exact Nat.min_le_left _ _
    cases hdd : deadI l[i] with
    | true =>
      rw [hdd, if_pos rfl, List.append_nil] at ih'
      unfold deadI at hdd
      refine Ev.step (f := fun k => almanacref25_Merge.l0 k l (sortR (liveL (l.take i))) ((i + 1 : Nat) : Int)) (fun k => by
        simp only [almanacref25_Merge.l0]
        rw [if_pos (by omega), if_pos (by omega), rd_at h1, if_pos (of_decide_eq_true hdd), w64n (by omega)]) ih'
    | false =>
      rw [hdd, if_neg (by simp)] at ih'
      unfold deadI at hdd
      have e1 : sortR (liveL (l.take i) ++ [l[i]]) = insR l[i] (sortR (liveL (l.take i))) ++ [] := by unfold sortR; rw [List.foldl_append, List.append_nil]; rfl
      rw [e1] at ih'
      refine Ev.step (f := fun k => almanacref25_Merge.l1 k l (sortR (liveL (l.take i)) ++ l[i] :: []) (i : Int) ((sortR (liveL (l.take i))).length : Int)) (fun k => by
        simp only [almanacref25_Merge.l0]
        rw [if_pos (by omega), if_pos (by omega), rd_at h1, if_neg (of_decide_eq_false hdd), if_pos (by omega)]
        simp only [Option.bind_some]
        congr 1
        simp only [List.length_append, List.length_singleton, wrap64]
        omega) ?_
      exact merge_l1 l l[i] i (mergeL l) _ _ [] rfl (by simp; omega) (sortR_sorted _) (by omega) ih'
theorem merge_val (l : List S26) (hb : l.length < 5864062014805) : Ev (fun k => almanacref25_Merge.f k l) (mergeL l) :=
  Ev.congr (f := fun k => almanacref25_Merge.l0 k l (sortR (liveL (l.take 0))) ((0 : Nat) : Int)) (fun k => rfl) (merge_l0 l hb _ 0 rfl (Nat.zero_le _))
end Go.Proofs.YtdafnjlmkbffeaaDoor.PD
/- Chapter 25: what merging leaves touches nowhere, and covers what was covered. -/
namespace Go.Proofs.YtdafnjlmkbffeaaDoor.PD
open Go.RowKit Go.Proofs.YtdafnjlmkbffeaaDoorW.PrintWords
set_option linter.unusedVariables false
def cov (t : Int) (x : S26) : Bool := decide (x.f0 ≤ t) && decide (t < x.f1)
theorem step_inv (t : Int) (out : List S26) (x : S26) (hx : x.f0 < x.f1) (ho : ∀ y ∈ out, y.f0 < y.f1) (hp : out.Pairwise (fun a b => a.f1 < b.f0)) (hle : ∀ y ∈ out, y.f0 ≤ x.f0) :
    (∀ y ∈ stepM out x, y.f0 < y.f1) ∧ (stepM out x).Pairwise (fun a b => a.f1 < b.f0) ∧ (stepM out x).any (cov t) = (out.any (cov t) || cov t x) ∧ (∀ y ∈ stepM out x, y.f0 ≤ x.f0) := by
  rcases List.eq_nil_or_concat out with rfl | ⟨o, z, rfl⟩
  · rw [stepM_nil]
    refine ⟨fun y hy => by simp at hy; subst hy; exact hx, by simp, by simp [cov], fun y hy => by simp at hy; subst hy; exact Int.le_refl _⟩
  · rw [List.concat_eq_append] at *
    have hz := ho z (by simp)
    have hzx := hle z (by simp)
    rw [List.pairwise_append] at hp
    rw [stepM_snoc]
    split
    · rename_i hc
      refine ⟨fun y hy => ?_, ?_, ?_, fun y hy => ?_⟩
      · rcases List.mem_append.1 hy with h | h
        · exact ho y (by simp [h])
        · simp at h; subst h; simp only; omega
      · rw [List.pairwise_append]
        refine ⟨hp.1, by simp, fun a ha b hb => ?_⟩
        simp at hb
        subst hb
        exact hp.2.2 a ha z (by simp)
      · simp only [List.any_append, List.any_cons, List.any_nil, Bool.or_false, Bool.or_assoc]
        congr 1
        unfold cov
        rw [Bool.eq_iff_iff]
        simp only [Bool.or_eq_true, Bool.and_eq_true, decide_eq_true_eq]
        omega
      · rcases List.mem_append.1 hy with h | h
        · exact hle y (by simp [h])
        · simp at h; subst h; exact hzx
    · rename_i hc
      refine ⟨fun y hy => ?_, ?_, ?_, fun y hy => ?_⟩
      · rcases List.mem_append.1 hy with h | h
        · exact ho y h
        · simp at h; subst h; exact hx
      · rw [List.pairwise_append]
        refine ⟨List.pairwise_append.2 hp, by simp, fun a ha b hb => ?_⟩
        simp at hb
        subst hb
        rcases List.mem_append.1 ha with h | h
        · have h1 := hp.2.2 a h z (by simp)
          simp only; omega
        · simp at h; subst h; simp only; omega
      · simp only [List.any_append, List.any_cons, List.any_nil, Bool.or_false, cov]
      · rcases List.mem_append.1 hy with h | h
        · exact hle y h
        · simp at h; subst h; exact Int.le_refl _
theorem fold_inv (t : Int) : ∀ (s out : List S26), s.Pairwise (fun a b => a.f0 ≤ b.f0) → (∀ x ∈ s, x.f0 < x.f1) → (∀ y ∈ out, y.f0 < y.f1) → out.Pairwise (fun a b => a.f1 < b.f0) → (∀ y ∈ out, ∀ x ∈ s, y.f0 ≤ x.f0) →
    (∀ y ∈ s.foldl stepM out, y.f0 < y.f1) ∧ (s.foldl stepM out).Pairwise (fun a b => a.f1 < b.f0) ∧ (s.foldl stepM out).any (cov t) = (out.any (cov t) || s.any (cov t))
  | [], out, _, _, ho, hp, _ => ⟨ho, hp, by simp⟩
  | x :: r, out, hs, hl, ho, hp, hle => by
    rw [List.pairwise_cons] at hs
    obtain ⟨h1, h2, h3, h4⟩ := step_inv t out x (hl x (List.mem_cons_self ..)) ho hp (fun y hy => hle y hy x (List.mem_cons_self ..))
    have ih := fold_inv t r (stepM out x) hs.2 (fun z hz => hl z (List.mem_cons_of_mem _ hz)) h1 h2 (fun y hy z hz => by have a := h4 y hy; have b := hs.1 z hz; omega)
    refine ⟨ih.1, ih.2.1, ?_⟩
    show (r.foldl stepM (stepM out x)).any (cov t) = _
    rw [ih.2.2, h3, List.any_cons, Bool.or_assoc]
theorem any_perm {p : S26 → Bool} {a b : List S26} (h : a.Perm b) : a.any p = b.any p := by
  rw [Bool.eq_iff_iff, List.any_eq_true, List.any_eq_true]
  exact ⟨fun ⟨x, hx, hp⟩ => ⟨x, h.subset hx, hp⟩, fun ⟨x, hx, hp⟩ => ⟨x, h.symm.subset hx, hp⟩⟩
theorem cov_live (t : Int) (l : List S26) : (liveL l).any (cov t) = l.any (cov t) := by
  rw [Bool.eq_iff_iff, List.any_eq_true, List.any_eq_true]
  refine ⟨fun ⟨x, hx, hp⟩ => ⟨x, (List.mem_filter.1 hx).1, hp⟩, fun ⟨x, hx, hp⟩ => ⟨x, ?_, hp⟩⟩
  unfold liveL deadI
  rw [List.mem_filter]
  refine ⟨hx, ?_⟩
  unfold cov at hp
  simp at hp ⊢
  omega
theorem mergeL_ok (t : Int) (l : List S26) : (∀ y ∈ mergeL l, y.f0 < y.f1) ∧ (mergeL l).Pairwise (fun a b => a.f1 < b.f0) ∧ (mergeL l).any (cov t) = l.any (cov t) := by
  have h := fold_inv t (sortR (liveL l)) [] (sortR_sorted _) (fun x hx => live_lt ((sortR_perm _).subset hx)) (fun _ h => by cases h) List.Pairwise.nil (fun _ h => by cases h)
  refine ⟨h.1, h.2.1, ?_⟩
  show ((sortR (liveL l)).foldl stepM []).any (cov t) = _
  rw [h.2.2, List.any_nil, Bool.false_or, any_perm (sortR_perm _), cov_live]
theorem mergeL_len (l : List S26) : (mergeL l).length ≤ l.length := by
  have h1 := mergeS_len (sortR (liveL l))
  have h2 := (sortR_perm (liveL l)).length_eq
  have h3 := live_len l
  unfold mergeL
  omega
end Go.Proofs.YtdafnjlmkbffeaaDoor.PD
/- Chapter 25: the law comes to true. -/
namespace Go.Proofs.YtdafnjlmkbffeaaDoor.PD
open Go.RowKit Go.Proofs.YtdafnjlmkbffeaaDoorW.PrintWords Go.Proofs.YtdafnjlmkbffeaaDoorW.PrintLast Go.Proofs.YtdafnjlmkbffeaaDoorW.PrintMore
set_option linter.unusedVariables false
set_option linter.unusedSimpArgs false
theorem law_l0 (t : Int) (m l : List S26) (hb : l.length < 5864062014805) (r : Bool) : ∀ (d i : Nat) (a : Bool), l.length - i = d → i ≤ l.length →
    Ev (fun k => almanaclaw25_BusyMerges.l1 k t m (a || (l.drop i).any (cov t)) false m (m.length : Int) 0) r → Ev (fun k => almanaclaw25_BusyMerges.l0 k t m a false l (l.length : Int) (i : Int)) r := by
  intro d
  induction d with
  | zero =>
    intro i a hd hi H
    rw [List.drop_eq_nil_of_le (by omega), List.any_nil, Bool.or_false] at H
    exact Ev.step (f := fun k => almanaclaw25_BusyMerges.l1 k t m a false m (m.length : Int) 0) (fun k => by simp only [almanaclaw25_BusyMerges.l0]; rw [if_neg (by omega)]) H
  | succ d ih =>
    intro i a hd hi H
    have h1 : i < l.length := by omega
    rw [drop_step h1, List.any_cons, ← Bool.or_assoc] at H
    have ih' := ih (i + 1) (a || cov t l[i]) (by omega) (by omega) H
    refine Ev.step (f := fun k => almanaclaw25_BusyMerges.l0 k t m (a || cov t l[i]) false l (l.length : Int) ((i + 1 : Nat) : Int)) (fun k => ?_) ih'
    simp only [almanaclaw25_BusyMerges.l0]
    rw [if_pos (by omega), if_pos (by omega), if_pos (by omega), rd_at h1, w64n (by omega)]
    cases a with
    | true => simp
    | false =>
      by_cases h2 : l[i].f0 ≤ t
      · simp [cov, h2]
      · simp [cov, h2]
theorem law_l1 (t : Int) (m : List S26) (a : Bool) (hb : m.length < 5864062014805) (hl : ∀ y ∈ m, y.f0 < y.f1) (hp : m.Pairwise (fun a b => a.f1 < b.f0)) (haw : almanaclaw25_awake.f = some true) : ∀ (d i : Nat) (b : Bool), m.length - i = d → i ≤ m.length →
    a = (b || (m.drop i).any (cov t)) → Ev (fun k => almanaclaw25_BusyMerges.l1 k t m a b m (m.length : Int) (i : Int)) true := by
  intro d
  induction d with
  | zero =>
    intro i b hd hi H
    rw [List.drop_eq_nil_of_le (by omega), List.any_nil, Bool.or_false] at H
    subst H
    exact Ev.step (f := fun _ => some true) (fun k => by simp only [almanaclaw25_BusyMerges.l1]; rw [if_neg (by omega), if_pos (by simp), haw]; rfl) (Ev.now _)
  | succ d ih =>
    intro i b hd hi H
    have h1 : i < m.length := by omega
    rw [drop_step h1, List.any_cons, ← Bool.or_assoc] at H
    have ih' := ih (i + 1) (b || cov t m[i]) (by omega) (by omega) H
    have hli := hl m[i] (List.getElem_mem h1)
    refine Ev.step (f := fun k => almanaclaw25_BusyMerges.l1 k t m a (b || cov t m[i]) m (m.length : Int) ((i + 1 : Nat) : Int)) (fun k => ?_) ih'
    simp only [almanaclaw25_BusyMerges.l1]
    rw [if_pos (by omega), if_pos (by omega), if_pos (by omega), rd_at h1, w64n (by omega)]
    have hng : ¬ m[i].f0 ≥ m[i].f1 := by omega
    rw [if_neg hng]
    have hprev : ∀ X Y : Option Bool, (if (i : Int) > 0 then (if 0 ≤ wrap64 ((i : Int) - 1) then (if wrap64 ((i : Int) - 1) < (m.length : Int) then (if (rd_T26 m (wrap64 ((i : Int) - 1))).f1 ≥ m[i].f0 then some false else X) else none) else none) else X) = X := by
      intro X _
      by_cases h0 : (i : Int) > 0
      · have hw : wrap64 ((i : Int) - 1) = ((i - 1 : Nat) : Int) := by simp only [wrap64]; omega
        rw [if_pos h0, hw, if_pos (by omega), if_pos (by omega), rd_at (show i - 1 < m.length by omega)]
        have := List.pairwise_iff_getElem.1 hp (i - 1) i (by omega) h1 (by omega)
        rw [if_neg (by omega)]
      · rw [if_neg h0]
    simp only [hprev _ none]
    cases b with
    | true => simp
    | false =>
      by_cases h2 : m[i].f0 ≤ t
      · simp [cov, h2]
        intro h
        omega
      · simp [cov, h2]
        intro h
        omega
end Go.Proofs.YtdafnjlmkbffeaaDoor.PD
/- Chapter 25: the law is true of every row and every moment. -/
namespace Go.Proofs.YtdafnjlmkbffeaaDoor.PD
open Go.RowKit Go.Proofs.YtdafnjlmkbffeaaDoorW.PrintWords Go.Proofs.YtdafnjlmkbffeaaDoorW.PrintLast Go.Proofs.YtdafnjlmkbffeaaDoorW.PrintMore
set_option linter.unusedVariables false
theorem law_true (l : List S26) (t : Int) (hb : l.length < 5864062014805) (haw : almanaclaw25_awake.f = some true) : Ev (fun k => almanaclaw25_BusyMerges.f k l t) true := by
  obtain ⟨h1, h2, h3⟩ := mergeL_ok t l
  have hml : (mergeL l).length < 5864062014805 := by have := mergeL_len l; omega
  have e1 := law_l1 t (mergeL l) (l.any (cov t)) hml h1 h2 haw _ 0 false rfl (Nat.zero_le _) (by rw [List.drop_zero, h3, Bool.false_or])
  have e0 := law_l0 t (mergeL l) l hb true _ 0 false rfl (Nat.zero_le _) (by rw [List.drop_zero, Bool.false_or]; exact e1)
  have ei := insts_val (mergeL l) hml
  have em := merge_val l hb
  refine Ev.congr (f := fun k => (almanacref25_Merge.f k l).bind fun x => (almanacref18_Insts.f k (mergeL l) x).bind fun y => if y = true then almanaclaw25_BusyMerges.l0 k t (mergeL l) false false l (l.length : Int) 0 else some false) (fun k => by
    unfold almanaclaw25_BusyMerges.f busy_Merge.f
    rw [if_pos hb]
    rfl) ?_
  refine Ev.bind em ?_
  refine Ev.bind ei ?_
  exact e0
end Go.Proofs.YtdafnjlmkbffeaaDoor.PD
/- What a value that came in reads as, kind by kind: a datum that can be read is a value of the print's kinds, its sizes within the reach. -/
namespace Go.Proofs.YtdafnjlmkbffeaaDoor.PD
open Go.RowKit Go.Proofs.YtdafnjlmkbffeaaDoorW.PrintWords Go.Deep Go.ChangeShapes Go.WideShapes
def Op {α : Type} (P : Program) (t : TypeId) (d : Kd α) (ok : α → Prop) : Prop :=
  ∀ {H : Type} (enc : TypeId × Value → H) (w : World) (base : Nat) (spare : Nat → Bool) (held : Bool) (fuel : Nat) (cs : List Value) (x : DataW H × List MemPlace),
    DataW.trod enc P w base spare held fuel t cs = some x → (∀ n ∈ x.1.weights P t, n ≤ reachBytes) → ∃ a, d.K w a cs ∧ ok a
theorem op_int {P : Program} {t : TypeId} {k : IntKind} (ht : P.underlying t = some (.int k)) : Op P t (Kd.int k) (fun a => (Lit.int k a).wf = true) := by
  intro H enc w base spare held fuel cs x h _
  obtain ⟨n, rfl, _, hw⟩ := DataW.trod_int ht h
  exact ⟨n, rfl, hw⟩
theorem op_bool {P : Program} {t : TypeId} (ht : P.underlying t = some .bool) : Op P t Kd.bool (fun _ => True) := by
  intro H enc w base spare held fuel cs x h _
  obtain ⟨n, rfl, _⟩ := DataW.trod_bool ht h
  exact ⟨n, rfl, trivial⟩
theorem op_string {P : Program} {t : TypeId} (ht : P.underlying t = some .string) : Op P t Kd.string (fun a => a.size ≤ reachBytes) := by
  intro H enc w base spare held fuel cs x h hs
  obtain ⟨s, rfl, rfl, _⟩ := DataW.trod_string ht h
  refine ⟨s, rfl, ?_⟩
  have := hs s.data.toList.length (by simp [DataW.weights])
  rwa [data_length] at this
theorem list_of {α : Type} (Q : Nat → α → Prop) : ∀ n : Nat, (∀ i, i < n → ∃ a, Q i a) → ∃ xs : List α, xs.length = n ∧ ∀ i a, xs[i]? = some a → Q i a
  | 0, _ => ⟨[], rfl, fun i a h => by simp at h⟩
  | n + 1, h => by
    obtain ⟨xs, hl, hx⟩ := list_of Q n (fun i hi => h i (by omega))
    obtain ⟨a, ha⟩ := h n (by omega)
    refine ⟨xs ++ [a], by simp [hl], fun i b hb => ?_⟩
    rcases Nat.lt_or_ge i n with hi | hi
    · rw [List.getElem?_append_left (by omega)] at hb; exact hx i b hb
    · rw [List.getElem?_append_right (by omega)] at hb
      have hi0 : i - xs.length = 0 := by
        rcases Nat.eq_zero_or_pos (i - xs.length) with h0 | h0
        · exact h0
        · rw [List.getElem?_eq_none (by simp; omega)] at hb; cases hb
      rw [hi0] at hb
      have hin : i = n := by omega
      subst hin
      simp at hb
      subst hb
      exact ha
theorem weightsAll_mem {H : Type} {P : Program} {e : TypeId} : ∀ {ds : List (DataW H)} {d : DataW H}, d ∈ ds → ∀ n ∈ d.weights P e, n ∈ DataW.weightsAll P e ds
  | d0 :: ds, d, hd, n, hn => by
    simp only [DataW.weightsAll, List.mem_append]
    rcases List.mem_cons.1 hd with rfl | hd
    · exact .inl hn
    · exact .inr (weightsAll_mem hd n hn)
theorem op_slice {α : Type} {P : Program} {t e : TypeId} {d : Kd α} {ok : α → Prop} {B : Nat} (ht : P.underlying t = some (.slice e)) (hC : P.cellsOf e = d.sz) (hB : P.bytesOf e = B) (he : Op P e d ok) :
    Op P t (Kd.slice e d) (fun xs => xs.length * B ≤ reachBytes ∧ ∀ x ∈ xs, ok x) := by
  intro H enc w base spare held fuel cs x h hs
  rcases open_slice ht h with ⟨rfl, rfl⟩ | ⟨a, len, cap, m, n, D, Pl, rfl, hb, hl, hm, hmm, rfl, hi⟩
  · exact ⟨[], ⟨none, 0, rfl, Nat.le_refl _, rfl, Nat.zero_le _, fun hp => absurd hp (Nat.lt_irrefl _)⟩, by simp [reachBytes], by simp⟩
  · have hlm : len ≤ m := by rw [hmm]; split <;> omega
    have hel : ∀ i, i < len → ∃ b, (∃ c, c.length = d.sz ∧ d.K w b c ∧ ∀ j u, c[j]? = some u → w.cell? (a.add (i * d.sz + j)) = some u) ∧ ok b := by
      intro i hil
      obtain ⟨cs', hc, ht'⟩ := hi i (by omega)
      obtain ⟨b, hb, hok⟩ := he enc w base spare held n cs' _ ht' (fun q hq => hs q (by
        simp only [DataW.weights, ht, List.mem_cons, List.mem_append]
        exact .inr (.inl (weightsAll_mem (List.mem_map.2 ⟨i, List.mem_range.2 hil, rfl⟩) q hq))))
      obtain ⟨_, hcl, hat⟩ := World.cells?_some hc
      refine ⟨b, ⟨cs', d.K_len hb, hb, fun j u hu => ?_⟩, hok⟩
      obtain ⟨hj, rfl⟩ := List.getElem?_eq_some_iff.1 hu
      have hcell := hat j (by rw [hC, ← d.K_len hb]; exact hj)
      rw [hC] at hcell
      rw [← Go.Deep.add_add, hcell]
      exact List.getElem?_eq_getElem hj
    obtain ⟨xs, hxl, hx⟩ := list_of _ len hel
    have hw := hs ((((List.range len).map D).length + ((List.range (m - len)).map fun j => D (len + j)).length) * P.bytesOf e) (by simp [DataW.weights, ht])
    simp only [List.length_map, List.length_range] at hw
    refine ⟨xs, ⟨some a, cap, by rw [hxl], by omega, ?_⟩, ?_, fun y hy => ?_⟩
    · refine ⟨rfl, by rw [hxl]; unfold maxLen at hm; omega, fun _ => ⟨a, rfl, fun j p hp => (hx j p hp).1⟩⟩
    · rw [hxl, ← hB]
      exact Nat.le_trans (Nat.mul_le_mul_right _ (by omega)) hw
    · obtain ⟨i, hi, rfl⟩ := List.getElem_of_mem hy
      exact (hx i _ (List.getElem?_eq_getElem hi)).2
def OpF {α : Type} (P : Program) (fs : List (Nat × TypeId)) (o : Nat) (d : Kd α) (ok : α → Prop) : Prop :=
  ∀ {H : Type} (enc : TypeId × Value → H) (w : World) (base : Nat) (spare : Nat → Bool) (held : Bool) (n : Nat) (cs : List Value) (ys : List (DataW H × List MemPlace)),
    (∀ (i : Nat) (f : Nat × TypeId), fs[i]? = some f → DataW.trod enc P w base spare held n f.2 ((cs.drop f.1).take (P.cellsOf f.2)) = ys[i]?) → (∀ (i : Nat) (f : Nat × TypeId) (y : DataW H × List MemPlace), fs[i]? = some f → ys[i]? = some y → ∀ q ∈ y.1.weights P f.2, q ≤ reachBytes) → ys.length = fs.length → cs.length = o + d.sz →
    ∃ a, d.K w a (cs.drop o) ∧ ok a
theorem opF_one {α : Type} {P : Program} {t : TypeId} {d : Kd α} {ok : α → Prop} {o : Nat} (h : Op P t d ok) (hC : P.cellsOf t = d.sz) : OpF P [(o, t)] o d ok := by
  intro H enc w base spare held n cs ys hy hw hl hc
  match ys, hl with
  | [y], _ =>
    have h1 := hy 0 (o, t) rfl
    simp only [List.getElem?_cons_zero] at h1
    rw [hC, List.take_of_length_le (by rw [List.length_drop]; omega)] at h1
    exact h enc w base spare held n _ y h1 (hw 0 (o, t) y rfl rfl)
theorem opF_cons {α β : Type} {P : Program} {t : TypeId} {d : Kd α} {e : Kd β} {ok : α → Prop} {ok' : β → Prop} {o : Nat} {r : List (Nat × TypeId)} (h : Op P t d ok) (hC : P.cellsOf t = d.sz) (hr : OpF P r (o + d.sz) e ok') :
    OpF P ((o, t) :: r) o (Kd.pair d e) (fun x => ok x.1 ∧ ok' x.2) := by
  intro H enc w base spare held n cs ys hy hw hl hc
  match ys, hl with
  | y :: ys, hl =>
    have h1 := hy 0 (o, t) rfl
    simp only [List.getElem?_cons_zero] at h1
    rw [hC] at h1
    obtain ⟨a, ha, hok⟩ := h enc w base spare held n _ y h1 (hw 0 (o, t) y rfl rfl)
    have hc' : cs.length = o + d.sz + e.sz := by rw [hc]; show o + (d.sz + e.sz) = _; omega
    obtain ⟨b, hb, hok'⟩ := hr enc w base spare held n cs ys (fun i f hf => by simpa using hy (i + 1) f (by simpa using hf)) (fun i f y' hf hy' => hw (i + 1) f y' (by simpa using hf) (by simpa using hy')) (by simpa using hl) hc'
    refine ⟨(a, b), ⟨_, _, ?_, ha, hb⟩, hok, hok'⟩
    rw [← List.drop_drop, List.take_append_drop]
theorem op_struct {α : Type} {P : Program} {t : TypeId} {fs : Array Field} {L : List (Nat × TypeId)} {d : Kd α} {ok : α → Prop} (ht : P.underlying t = some (.struct fs)) (hL : fs.toList.map (fun f => (f.offset, f.type)) = L) (hC : P.cellsOf t = d.sz) (h : OpF P L 0 d ok) : Op P t d ok := by
  intro H enc w base spare held fuel cs x hx hs
  obtain ⟨ys, n, _, rfl, hlen, hyl, hf⟩ := DataW.trod_struct ht hx
  have hget : ∀ (i : Nat) (f : Nat × TypeId), L[i]? = some f → ∃ g : Field, fs[i]? = some g ∧ f = (g.offset, g.type) := by
    intro i f hi
    rw [← hL, List.getElem?_map] at hi
    obtain ⟨g, hg, rfl⟩ := Option.map_eq_some_iff.1 hi
    exact ⟨g, by simpa using hg, rfl⟩
  obtain ⟨a, ha, hok⟩ := h enc w base spare held n cs ys (fun i f hi => by
    obtain ⟨g, hg, rfl⟩ := hget i f hi
    exact hf i g hg) (fun i f y hi hy q hq => by
    obtain ⟨g, hg, rfl⟩ := hget i f hi
    refine hs q ?_
    simp only [DataW.weights, ht]
    exact DataW.weights_mem_each (j := i) (t := g.type) (d := y.1) (by rw [List.getElem?_map]; simp [hg]) (by rw [List.getElem?_map, hy]; rfl) q hq) (by rw [hyl, ← hL]; simp) (by rw [hlen, hC]; omega)
  rw [List.drop_zero] at ha
  exact ⟨a, ha, hok⟩
theorem op_iso {α β : Type} {P : Program} {t : TypeId} {d : Kd α} {ok : α → Prop} (f : β → α) (g : α → β) (hfg : ∀ a, f (g a) = a) (h : Op P t d ok) : Op P t (Kd.iso d f) (fun b => ok (f b)) := by
  intro H enc w base spare held fuel cs x hx hs
  obtain ⟨a, ha, hok⟩ := h enc w base spare held fuel cs x hx hs
  exact ⟨g a, by show d.K w (f (g a)) cs; rwa [hfg], by show ok (f (g a)); rwa [hfg]⟩
end Go.Proofs.YtdafnjlmkbffeaaDoor.PD
/- The law BusyMerges holds of every row of intervals and every moment: whatever the input, with the three tables of the library as the program's text lays them, the call returns true, and its arguments read as they did. -/
namespace Go.Proofs.YtdafnjlmkbffeaaDoor.PD
open Go.ChangeShapes Go.WideShapes Go.ChangeAt Go.RowKit Go.Proofs.YtdafnjlmkbffeaaDoorW.PrintWords
set_option linter.unusedVariables false
theorem op_inst : Op Tryd.prog 26 k26 (fun x => (Lit.int .i64 x.f0).wf = true ∧ (Lit.int .i64 x.f1).wf = true ∧ (Lit.int .i64 x.f2).wf = true) :=
  op_iso (fun x : S26 => (x.f0, x.f1, x.f2)) (fun a => ⟨a.1, a.2.1, a.2.2⟩) (fun _ => rfl)
    (op_struct (L := [(0, 2), (1, 2), (2, 2)]) Tryd.underlying26 rfl (by kernel_rfl) (opF_cons (op_int Tryd.underlying2) (by kernel_rfl) (opF_cons (op_int Tryd.underlying2) (by kernel_rfl) (opF_one (op_int Tryd.underlying2) (by kernel_rfl)))))
theorem op_insts : Op Tryd.prog 22 (Kd.slice 26 k26) (fun xs => xs.length * 24 ≤ reachBytes ∧ ∀ x ∈ xs, (Lit.int .i64 x.f0).wf = true ∧ (Lit.int .i64 x.f1).wf = true ∧ (Lit.int .i64 x.f2).wf = true) := op_slice Tryd.underlying22 (by kernel_rfl) (by kernel_rfl) op_inst
set_option maxRecDepth 100000 in
/-- A row of intervals that came in, laid open. -/
theorem open_insts {H : Type} {enc : TypeId × Value → H} {w : World} {base : Nat} {spare : Nat → Bool} {held : Bool} {r : Reach} {b0 : Nat} {v : Value} {d : DataW H} {p : List MemPlace} (hv : Value.okWide Tryd.prog w r b0 22 v) (h : DataW.Trod enc Tryd.prog w base spare held 22 v d p)
    (hs : ∀ n ∈ d.weights Tryd.prog 22, n ≤ reachBytes) : ∃ (A : Option Addr) (c : Nat) (l : List S26), v = .slice A l.length c ∧ Kd.C k26 w A l.length l ∧ l.length ≤ c ∧ l.length < 5864062014805 := by
  obtain ⟨a, n, c0, rfl⟩ := okWide_slice Tryd.underlying22 hv
  obtain ⟨fuel, hf⟩ := h
  obtain ⟨l, ⟨A, c, hcs, hc, hC⟩, hle, hal⟩ := op_insts enc w base spare held fuel _ _ hf hs
  have hcs' : [Value.slice a n c0] = [Value.slice A l.length c] := by simpa [Value.cells] using hcs
  exact ⟨A, c, l, by simpa using hcs', hC, hc, by unfold reachBytes at hle; omega⟩
theorem own : ownKnob Tryd.prog.godebug = none := by kernel_rfl
theorem laidOut : laidOutB Tryd.prog = true := by kernel_rfl
theorem weighs {H : Type} {P : Program} {ts : List TypeId} {ds : List (DataW H)} (h : (DataW.weightsEach P ts ds).all (· ≤ reachBytes) = true) {j : Nat} {t : TypeId} {d : DataW H} (ht : ts[j]? = some t) (hd : ds[j]? = some d) : ∀ n ∈ d.weights P t, n ≤ reachBytes :=
  fun n hn => by simpa using List.all_eq_true.1 h n (DataW.weights_mem_each (j := j) ht hd n hn)
open _root_.Go.Proofs.YtdafnjlmkbffeaaDoor.Rows
abbrev laidL : List (String × DataW Unit) := busyMergesRow.laid
theorem gPow : Tryd.prog.globalNamed "internal/strconv.uint64pow10" = some 0 := by kernel_rfl
/-- The row's condition tells what the walk wants of the table of powers of ten. -/
theorem tab_of {W : World} (h : laidMetH Tryd.prog laidL W) : Tab W := by
  rw [MakeChecks.laidMetH_plain _ _ _ (by kernel_rfl)] at h
  have h2 := h.filter (fun x => x.1 == "internal/strconv.uint64pow10")
  have e : laidL.filter (fun x => x.1 == "internal/strconv.uint64pow10") = [("internal/strconv.uint64pow10", Lib.tabData .u64 Lib.pow10Tab)] := by kernel_rfl
  rw [e] at h2
  exact Lib.tabIs_of_head gPow (t := 115) (e := 60) (n := 20) (by kernel_rfl) (by kernel_rfl) (by kernel_rfl) (by kernel_rfl) (by kernel_rfl) h2
set_option maxRecDepth 100000 in
theorem door_met (os : Os) (args : Array Value) : laidMetH Tryd.prog laidL ((World.doorLaid Tryd.prog 400 os).forCall (fun _ _ => 0) ⟨#[], args, []⟩).memory := by
  rw [MakeChecks.laidMetH_plain _ _ _ (by kernel_rfl)]
  exact laidMet_of_run' 8 (by kernel_rfl) (by kernel_rfl)
set_option maxRecDepth 100000 in
theorem lifted (os : Os) (started : os.Started) (H : Type) (enc : TypeId × Value → H) :
    ReturnsInHanded {} Tryd.checked os 3 .any (fun w args => (busyMergesSpec.pre enc Tryd.prog Tryd.f3 busyMergesRow.domain false w args ∧ laidMetH Tryd.prog laidL w) ∧ sizedMet enc Tryd.prog Tryd.f3 (OpenSpec.ofChange busyMergesSpec) false w args)
      (busyMergesSpec.post enc Tryd.prog Tryd.f3 false true false false) := by
  refine returnsInHanded_of_change_and (C := Tryd.checked) (X := fun w _ => laidMetH Tryd.prog laidL w) (fun _ _ _ hh h => h.of_heap hh) own started (by kernel_rfl) Tryd.func3
    (ChangeSpec.witness_shaped (enc := enc) (C := Tryd.checked) (os := os) (X := fun w _ => laidMetH Tryd.prog laidL w) false (World.doorLaid Tryd.prog 400 os) #[.slice none 0 0, .int .i64 0] 8 rfl (World.shaped_of_RefB (by kernel_rfl) (by kernel_rfl)) (by kernel_rfl) (by kernel_rfl) (by kernel_rfl) (door_met os _)) ?_
  intro W base args ds gs before hval0 hW hcnd hsz0 hL _
  have hsz : (DataW.weightsEach Tryd.prog (Tryd.f3.params.toList ++ busyMergesSpec.plain.varTypes Tryd.prog) (ds ++ gs)).all (· ≤ reachBytes) = true := hsz0
  have hval : ∀ (j : Nat) t v, Tryd.f3.params[j]? = some t → args[j]? = some v → Value.okWide Tryd.prog W .any base t v := hval0
  have hW' := hW
  obtain ⟨p, q, hA0, hV, rfl, hfz, hnd⟩ := hW
  have hA : DataW.TrodAll enc Tryd.prog W 0 (fun _ => true) true Tryd.f3.params.toList args.toList ds p := hA0
  rw [Tryd.params3] at hA hval hsz
  obtain ⟨v0, vs0, d0, ds0, p0, q0, hargs, rfl, rfl, h0, r0⟩ := trodAll_cons hA
  obtain ⟨v1, vs1, d1, ds1, p1, q1, rfl, rfl, rfl, h1, r1⟩ := trodAll_cons r0
  obtain ⟨rfl, rfl, rfl⟩ := trodAll_nil r1
  obtain rfl : args = #[v0, v1] := by cases args; simp_all
  obtain ⟨rfl, rfl⟩ := trodVars_none hV
  obtain ⟨A0, c0, l0, rfl, x0, y0, z0⟩ := open_insts (hval 0 22 v0 rfl rfl) h0 (weighs hsz (j := 0) rfl rfl)
  obtain ⟨n1, rfl, rfl, rfl, w1⟩ := open_int Tryd.underlying2 (hval 1 2 v1 rfl rfl) h1
  have k0 := h0
  have lt0 : ∀ x ∈ p0, x.block < W.heap.size := by obtain ⟨m, hm⟩ := k0; exact DataW.trod_lt m _ _ _ hm
  clear hA0 hval0 hsz0 hsz
  obtain ⟨k, hk⟩ := law_true l0 n1 z0 rfl
  refine (almanaclaw25_BusyMerges.callsT k A0 c0 l0 n1 true W x0 y0 (hk k (Nat.le_refl k)) rfl (tab_of hL)).mono fun e W' ⟨he, bel⟩ => ?_
  subst he
  exact ⟨_, rfl, _, _, _, [], _, [], hW', trodAll_mk1 (shut_bool Tryd.underlying4 _), (trodAll_cons_mk (Below.trod laidOut (by kernel_rfl) (of_decide_eq_true (by kernel_rfl)) k0 bel lt0) (trodAll_cons_mk (shut_int Tryd.underlying2 w1) trodAll_mk0)), rfl, bel.frame _, fun h => by cases h⟩
theorem busyMerges_row : busyMergesRow.holds Tryd.pinned (OpenSpec.ofChange busyMergesSpec) :=
  OpenClaim.holds_of_wide 3 Tryd.f3 rfl rfl rfl rfl rfl rfl rfl ⟨rfl, rfl, rfl, rfl, rfl⟩ rfl rfl rfl rfl rfl (by kernel_rfl) Tryd.func3 (by kernel_rfl)
    (of_decide_eq_true (by kernel_rfl)) (by unfold Func.isWrapper; first | (rw [if_pos (by decide +kernel)]; kernel_rfl) | (rw [if_neg (by decide +kernel)]; exact ⟨rfl, rfl⟩))
    (fun os started H enc _ => lifted os started H enc)
end Go.Proofs.YtdafnjlmkbffeaaDoor.PD
namespace Go.Proofs.YtdafnjlmkbffeaaDoor.PD
open _root_.Go.Proofs.YtdafnjlmkbffeaaDoor.Rows
theorem busyMerges_card : BusyMergesCardSaid :=
  Claim7.holds_tied_plain_at .later [] [.data, .data, .data] true (true, "991124a66690a5623709dd1c062c6bb20d43066b970a6544067ff292bae097f0") false
    busyMerges_row (fun _ h => by cases h) (by kernel_rfl) (fun _ h => by cases h) busyMerges_row_tie rfl ⟨rfl, rfl⟩ (by kernel_rfl) rfl
    (fun f fn hf hfn => by
      obtain rfl : f = 3 := Option.some.inj ((show Tryd.prog.funcNamed "almanac/almanaclaw25.BusyMerges" = some 3 by kernel_rfl).symm.trans hf) |>.symm
      obtain rfl : fn = Tryd.f3 := (Option.some.inj (Tryd.func3.symm.trans hfn)).symm
      exact ⟨by kernel_rfl, fun j t ht => by
        rw [Tryd.params3] at ht
        have hm : t ∈ [22, 2] := by simpa using Array.mem_of_getElem? ht
        have hall : ([22, 2].all fun u => !Tryd.prog.wantsStandIn u) = true := by kernel_rfl
        exact (show Tryd.prog.wantsStandIn t = false by simpa using List.all_eq_true.1 hall t hm)⟩)
    (by kernel_rfl)
#print axioms busyMerges_card
end Go.Proofs.YtdafnjlmkbffeaaDoor.PD
