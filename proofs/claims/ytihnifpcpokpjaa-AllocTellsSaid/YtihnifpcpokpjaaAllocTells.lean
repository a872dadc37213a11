/- The law AllocTells holds of every image, every number and every list of numbers: whatever the input, the call returns true, and its arguments read as they did. -/
import Derived.Test.YtihnifpcpokpjaaAllocTells1
import Derived.Test.YtihnifpcpokpjaaAlBase1
import Derived.Test.YtihnifpcpokpjaaAlBase
-- written by a program of this work (mk.sh, over the kit's print; stubs are proved by hand)
namespace Go.Proofs.Ytihnifpcpokpjaa.PD
open Go.RowKit Go.Proofs.YtihnifpcpokpjaaW.PrintWords Go.Proofs.YtihnifpcpokpjaaW.PrintLast Go.Proofs.YtihnifpcpokpjaaW.PrintMore
attribute [local go_sem] isSome_setCell max2_int min2_int max_two min_two max_three min_three max_four min_four   -- for this text's walks alone
set_option linter.unusedVariables false
set_option linter.unusedSimpArgs false

/-! ### alloc_Fit: function 25 -/
mutual
def alloc_Fit.j0 : Nat → List ByteArray → Int → Bool → Option (Bool)
  | 0, _, _, _ => none
  | k + 1, x0, x3, x25 => if x25 = true then (some false) else (alloc_Fit.l0 k x0 x3 0)
def alloc_Fit.l0 : Nat → List ByteArray → Int → Int → Option (Bool)
  | 0, _, _, _ => none
  | k + 1, x0, x3, x26 => if x26 < 1024 then (if 1 < (x0.length : Int) then ((alloc_bit.f (rdOf ByteArray.empty x0 1) x26).bind fun t474 => ((alloc_first.f x3).bind fun t475 => (if x26 < t475 then (if t474 = true then (if x26 ≥ x3 then (some false) else (alloc_Fit.l0 k x0 x3 (wrap64 (x26 + 1)))) else (some false)) else (if x26 ≥ x3 then (if t474 = true then (some false) else (alloc_Fit.l0 k x0 x3 (wrap64 (x26 + 1)))) else (alloc_Fit.l0 k x0 x3 (wrap64 (x26 + 1))))))) else (none)) else (some true)
end
def alloc_Fit.f (k : Nat) (l0 : List ByteArray) : Option (Bool) := if (l0.length : Int) < 8 then (alloc_Fit.j0 k l0 (l0.length : Int) true) else (if (l0.length : Int) > 512 then (alloc_Fit.j0 k l0 (l0.length : Int) true) else ((slices_ContainsFunc_string_string.f l0).bind fun t470 => (if t470 = true then (alloc_Fit.j0 k l0 (l0.length : Int) true) else (if 0 < (l0.length : Int) then ((alloc_super.f (l0.length : Int)).bind fun t472 => (alloc_Fit.j0 k l0 (l0.length : Int) ((rdOf ByteArray.empty l0 0).toList != t472.toList))) else (none)))))
theorem alloc_Fit.mono_l : ∀ k, (∀ y0 y1 y2, LeO (alloc_Fit.j0 k y0 y1 y2) (alloc_Fit.j0 (k + 1) y0 y1 y2)) ∧ (∀ y0 y1 y2, LeO (alloc_Fit.l0 k y0 y1 y2) (alloc_Fit.l0 (k + 1) y0 y1 y2))
  | 0 => ⟨fun _ _ _ r h => by simp [alloc_Fit.j0] at h, fun _ _ _ r h => by simp [alloc_Fit.l0] at h⟩
  | k + 1 => by
    obtain ⟨ih0, ih1⟩ := alloc_Fit.mono_l k
    refine ⟨?_, ?_⟩
    · intro y0 y1 y2
      unfold alloc_Fit.j0
      repeat' first
      | (with_reducible exact ih0 _ _ _)
      | (with_reducible exact ih1 _ _ _)
      | (with_reducible exact LeO.refl _)
      | (with_reducible exact LeO.none _)
      | (with_reducible refine LeO.ite ?_ ?_)
      | (with_reducible refine LeO.bind ?_ (fun _ => ?_))
      | exact ih0 _ _ _
      | exact ih1 _ _ _
      | exact LeO.none _
      | refine LeO.ite ?_ ?_
      | refine LeO.bind ?_ (fun _ => ?_)
    · intro y0 y1 y2
      unfold alloc_Fit.l0
      repeat' first
      | (with_reducible exact ih0 _ _ _)
      | (with_reducible exact ih1 _ _ _)
      | (with_reducible exact LeO.refl _)
      | (with_reducible exact LeO.none _)
      | (with_reducible refine LeO.ite ?_ ?_)
      | (with_reducible refine LeO.bind ?_ (fun _ => ?_))
      | exact ih0 _ _ _
      | exact ih1 _ _ _
      | exact LeO.none _
      | refine LeO.ite ?_ ?_
      | refine LeO.bind ?_ (fun _ => ?_)
theorem alloc_Fit.mono : ∀ a0 k, LeO (alloc_Fit.f k a0) (alloc_Fit.f (k + 1) a0) := by
  intro a0 k
  obtain ⟨ih0, ih1⟩ := alloc_Fit.mono_l k
  unfold alloc_Fit.f
  repeat' first
      | (with_reducible exact ih0 _ _ _)
      | (with_reducible exact ih1 _ _ _)
      | (with_reducible exact LeO.refl _)
      | (with_reducible exact LeO.none _)
      | (with_reducible refine LeO.ite ?_ ?_)
      | (with_reducible refine LeO.bind ?_ (fun _ => ?_))
      | exact ih0 _ _ _
      | exact ih1 _ _ _
      | exact LeO.none _
      | refine LeO.ite ?_ ?_
      | refine LeO.bind ?_ (fun _ => ?_)
def alloc_Fit.T2 : Bool × List (List Nat × List Nat) := (true, [([], []), ([0], [0]), ([1], [1]), ([2], [2]), ([3, 2], [2, 3]), ([2, 4], [2, 4]), ([5, 2], [5]), ([6], [6]), ([7, 6, 6], [6, 7]), ([6, 8], [6, 8]), ([9, 8], [9]), ([10], [10]), ([11, 10], [10, 11]), ([12, 10], [10, 12]), ([10], [10]), ([14, 10, 10], [10, 14]), ([13, 15, 10], [10, 13, 15]), ([10, 16], [10, 16])])
def alloc_Fit.B2 : List Nat := [0, 1, 3, 7, 15, 31, 63, 127, 255, 511, 1023, 2047, 4095, 8191, 2047, 18431, 65535, 131071]
theorem alloc_Fit.tab2 : rtab .any (opsOf Try.f25 2) = alloc_Fit.T2 := by kernel_rfl
theorem alloc_Fit.bits2 : waitsOk alloc_Fit.T2.2 alloc_Fit.B2 = true := by kernel_rfl
set_option maxHeartbeats 8000000 in
set_option maxRecDepth 100000 in
theorem alloc_Fit.calls (k : Nat) (A0 : Option Addr) (c0 : Nat) (l0 : List ByteArray) (r : Bool) (w : World) (hr0 : Kd.C Kd.string w A0 l0.length l0) (hc0 : l0.length ≤ c0) (h : alloc_Fit.f k l0 = some r) :
    Calls Try.prog 25 #[.slice A0 l0.length c0] w fun e w' => e = .returned (.bool r) ∧ Below w.heap.size w w' := by
  have HR0 := Aside0.mk hr0
  have HC0 := Aside0.mk hc0
  clear hr0 hc0
  have HB := Aside0.mk (Below.refl w.heap.size w)
  have H : (if (l0.length : Int) < 8 then (alloc_Fit.j0 k l0 (l0.length : Int) true) else (if (l0.length : Int) > 512 then (alloc_Fit.j0 k l0 (l0.length : Int) true) else ((slices_ContainsFunc_string_string.f l0).bind fun t470 => (if t470 = true then (alloc_Fit.j0 k l0 (l0.length : Int) true) else (if 0 < (l0.length : Int) then ((alloc_super.f (l0.length : Int)).bind fun t472 => (alloc_Fit.j0 k l0 (l0.length : Int) ((rdOf ByteArray.empty l0 0).toList != t472.toList))) else (none)))))) = some r := h
  clear h
  have HC2 := Aside0.mk H
  clear H
  go_enter Try.func25, Try.ntmps25
  go_upto_region 2 with (fail)
  go_cut [25] (fun v25 wc => ∃ (kq : Nat) (x25_1 : Bool), v25 = .bool x25_1 ∧ Aside0 (alloc_Fit.j0 kq l0 (l0.length : Int) x25_1 = some r) ∧ Aside0 (kq ≤ k) ∧ Aside0 (Below w.heap.size w wc))
  case first =>
    have H := HC2.out
    clear HC2
    by_cases c3 : (l0.length : Int) < 8
    · rw [if_pos c3] at H
      have c3b0 : decide ((l0.length : Int) < 8) = true := decide_eq_true c3
      have c3b1 : decide (l0.length < 8) = true := decide_eq_true (by omega)
      clear c3
      (first | rw [c3b0] | (simp only [i64_w, i32_w]; rw [c3b0]) | skip)
      have H' := Aside0.mk H
      clear H
      try go_wp2
      have n0_ := Aside0.mk (below_drew1 HB.out)
      clear HB
      have HB := n0_
      clear n0_
      refine start_ (n := 18) (S := fun w' => True) (ds := []) #[false, false, false, false, false, false, false, false, false, false, false, false, false, false, false, false, false, false] (by kernel_rfl) rfl rfl trivial (fun hHeld => ?_); refine with_tabW alloc_Fit.tab2 alloc_Fit.bits2 (fun HT_ HW_ => ?_)
      generalize w.drew = w4 at HB hHeld ⊢
      refine pure_ (i := 0) (N := some 8) (v := ?_) (a' := ?_) #[true, false, false, false, false, false, false, false, false, false, false, false, false, false, false, false, false, false] rfl rfl (any_of HT_.out (by kernel_rfl)) (fun _ _ _ h => h) (Or.inl ⟨by rfl, ?_⟩) ?_ ?_
      rotate_left
      · intro w'
        go_simp
        with_reducible rfl
      rotate_left
      · simp only [Act.put, List.setIfInBounds_toArray, List.set_cons_zero, List.set_cons_succ, i64_w, i32_w]
        rfl
      refine pure_ (i := 1) (N := some 9) (v := ?_) (a' := ?_) #[true, true, false, false, false, false, false, false, false, false, false, false, false, false, false, false, false, false] rfl rfl (any_of HT_.out (by kernel_rfl)) (fun _ _ _ h => h) (Or.inl ⟨by rfl, ?_⟩) ?_ ?_
      rotate_left
      · intro w'
        go_simp
        with_reducible rfl
      rotate_left
      · simp only [Act.put, List.setIfInBounds_toArray, List.set_cons_zero, List.set_cons_succ, i64_w, i32_w]
        rfl
      refine pure_ (i := 2) (N := some 10) (v := ?_) (a' := ?_) #[true, true, true, false, false, false, false, false, false, false, false, false, false, false, false, false, false, false] rfl rfl (any_of HT_.out (by kernel_rfl)) (fun _ _ _ h => h) (Or.inl ⟨by rfl, ?_⟩) ?_ ?_
      rotate_left
      · intro w'
        go_simp
        with_reducible rfl
      rotate_left
      · simp only [Act.put, List.setIfInBounds_toArray, List.set_cons_zero, List.set_cons_succ, i64_w, i32_w]
        rfl
      refine pure_ (i := 3) (N := some 11) (v := undef) (a' := ?_) #[true, true, true, true, false, false, false, false, false, false, false, false, false, false, false, false, false, false] rfl rfl (any_of HT_.out (by kernel_rfl)) (fun _ _ _ h => h) (Or.inr ⟨by rfl, rfl⟩) ?_ ?_
      rotate_left
      · simp only [Act.put, List.setIfInBounds_toArray, List.set_cons_zero, List.set_cons_succ, i64_w, i32_w]
        rfl
      refine pure_ (i := 4) (N := some 12) (v := undef) (a' := ?_) #[true, true, true, true, true, false, false, false, false, false, false, false, false, false, false, false, false, false] rfl rfl (any_of HT_.out (by kernel_rfl)) (fun _ _ _ h => h) (Or.inr ⟨by rfl, rfl⟩) ?_ ?_
      rotate_left
      · simp only [Act.put, List.setIfInBounds_toArray, List.set_cons_zero, List.set_cons_succ, i64_w, i32_w]
        rfl
      refine pure_ (i := 5) (N := some 13) (v := ?_) (a' := ?_) #[true, true, true, true, true, true, false, false, false, false, false, false, false, false, false, false, false, false] rfl rfl (any_of HT_.out (by kernel_rfl)) (fun _ _ _ h => h) (Or.inl ⟨by rfl, ?_⟩) ?_ ?_
      rotate_left
      · intro w'
        go_simp
        with_reducible rfl
      rotate_left
      · simp only [Act.put, List.setIfInBounds_toArray, List.set_cons_zero, List.set_cons_succ, i64_w, i32_w]
        rfl
      refine pure_ (i := 6) (N := some 14) (v := ?_) (a' := ?_) #[true, true, true, true, true, true, true, false, false, false, false, false, false, false, false, false, false, false] rfl rfl (any_of HT_.out (by kernel_rfl)) (fun _ _ _ h => h) (Or.inl ⟨by rfl, ?_⟩) ?_ ?_
      rotate_left
      · intro w'
        go_simp
        with_reducible rfl
      rotate_left
      · simp only [Act.put, List.setIfInBounds_toArray, List.set_cons_zero, List.set_cons_succ, i64_w, i32_w]
        rfl
      refine pure_ (i := 7) (N := some 15) (v := undef) (a' := ?_) #[true, true, true, true, true, true, true, true, false, false, false, false, false, false, false, false, false, false] rfl rfl (any_of HT_.out (by kernel_rfl)) (fun _ _ _ h => h) (Or.inr ⟨by rfl, rfl⟩) ?_ ?_
      rotate_left
      · simp only [Act.put, List.setIfInBounds_toArray, List.set_cons_zero, List.set_cons_succ, i64_w, i32_w]
        rfl
      refine pure_ (i := 8) (N := some 16) (v := undef) (a' := ?_) #[true, true, true, true, true, true, true, true, true, false, false, false, false, false, false, false, false, false] rfl rfl (any_of HT_.out (by kernel_rfl)) (fun _ _ _ h => h) (Or.inr ⟨by rfl, rfl⟩) ?_ ?_
      rotate_left
      · simp only [Act.put, List.setIfInBounds_toArray, List.set_cons_zero, List.set_cons_succ, i64_w, i32_w]
        rfl
      refine pure_ (i := 9) (N := some 17) (v := ?_) (a' := ?_) #[true, true, true, true, true, true, true, true, true, true, false, false, false, false, false, false, false, false] rfl rfl (any_of HT_.out (by kernel_rfl)) (fun _ _ _ h => h) (Or.inl ⟨by rfl, ?_⟩) ?_ ?_
      rotate_left
      · intro w'
        go_simp
        with_reducible rfl
      rotate_left
      · simp only [Act.put, List.setIfInBounds_toArray, List.set_cons_zero, List.set_cons_succ, i64_w, i32_w]
        rfl
      refine pure_ (i := 10) (N := some 18) (v := ?_) (a' := ?_) #[true, true, true, true, true, true, true, true, true, true, true, false, false, false, false, false, false, false] rfl rfl (any_of HT_.out (by kernel_rfl)) (fun _ _ _ h => h) (Or.inl ⟨by rfl, ?_⟩) ?_ ?_
      rotate_left
      · intro w'
        go_simp
        with_reducible rfl
      rotate_left
      · simp only [Act.put, List.setIfInBounds_toArray, List.set_cons_zero, List.set_cons_succ, i64_w, i32_w]
        rfl
      refine pure_ (i := 11) (N := some 19) (v := undef) (a' := ?_) #[true, true, true, true, true, true, true, true, true, true, true, true, false, false, false, false, false, false] rfl rfl (any_of HT_.out (by kernel_rfl)) (fun _ _ _ h => h) (Or.inr ⟨by rfl, rfl⟩) ?_ ?_
      rotate_left
      · simp only [Act.put, List.setIfInBounds_toArray, List.set_cons_zero, List.set_cons_succ, i64_w, i32_w]
        rfl
      refine pure_ (i := 12) (N := some 20) (v := undef) (a' := ?_) #[true, true, true, true, true, true, true, true, true, true, true, true, true, false, false, false, false, false] rfl rfl (any_of HT_.out (by kernel_rfl)) (fun _ _ _ h => h) (Or.inr ⟨by rfl, rfl⟩) ?_ ?_
      rotate_left
      · simp only [Act.put, List.setIfInBounds_toArray, List.set_cons_zero, List.set_cons_succ, i64_w, i32_w]
        rfl
      refine pure_ (i := 13) (N := some 21) (v := undef) (a' := ?_) #[true, true, true, true, true, true, true, true, true, true, true, true, true, true, false, false, false, false] rfl rfl (any_of HT_.out (by kernel_rfl)) (fun _ _ _ h => h) (Or.inr ⟨by rfl, rfl⟩) ?_ ?_
      rotate_left
      · simp only [Act.put, List.setIfInBounds_toArray, List.set_cons_zero, List.set_cons_succ, i64_w, i32_w]
        rfl
      refine pure_ (i := 14) (N := some 22) (v := undef) (a' := ?_) #[true, true, true, true, true, true, true, true, true, true, true, true, true, true, true, false, false, false] rfl rfl (any_of HT_.out (by kernel_rfl)) (fun _ _ _ h => h) (Or.inr ⟨by rfl, rfl⟩) ?_ ?_
      rotate_left
      · simp only [Act.put, List.setIfInBounds_toArray, List.set_cons_zero, List.set_cons_succ, i64_w, i32_w]
        rfl
      refine pure_ (i := 15) (N := some 23) (v := undef) (a' := ?_) #[true, true, true, true, true, true, true, true, true, true, true, true, true, true, true, true, false, false] rfl rfl (any_of HT_.out (by kernel_rfl)) (fun _ _ _ h => h) (Or.inr ⟨by rfl, rfl⟩) ?_ ?_
      rotate_left
      · simp only [Act.put, List.setIfInBounds_toArray, List.set_cons_zero, List.set_cons_succ, i64_w, i32_w]
        rfl
      refine pure_ (i := 16) (N := some 24) (v := undef) (a' := ?_) #[true, true, true, true, true, true, true, true, true, true, true, true, true, true, true, true, true, false] rfl rfl (any_of HT_.out (by kernel_rfl)) (fun _ _ _ h => h) (Or.inr ⟨by rfl, rfl⟩) ?_ ?_
      rotate_left
      · simp only [Act.put, List.setIfInBounds_toArray, List.set_cons_zero, List.set_cons_succ, i64_w, i32_w]
        rfl
      refine pure_ (i := 17) (N := some 25) (v := ?_) (a' := ?_) #[true, true, true, true, true, true, true, true, true, true, true, true, true, true, true, true, true, true] rfl rfl (any_of HT_.out (by kernel_rfl)) (fun _ _ _ h => h) (Or.inl ⟨by rfl, ?_⟩) ?_ ?_
      rotate_left
      · intro w'
        go_simp
        with_reducible rfl
      rotate_left
      · simp only [Act.put, List.setIfInBounds_toArray, List.set_cons_zero, List.set_cons_succ, i64_w, i32_w]
        rfl
      refine done_ (done_of HT_.out (by kernel_rfl)) ?_
      try go_wp2
      go_meet
      case rel => exact ⟨_, (true), (by first | rfl | (simp; done) | (simp [*]; done)), H', ⟨by first | omega | exact Nat.le_refl _⟩, ⟨by repeat (first | (with_reducible first | exact HB.out | apply below_alloc | apply pw_below_drewN | apply below_drew1) | exact HB.out)⟩⟩
    · rw [if_neg c3] at H
      have c3b0 : decide ((l0.length : Int) < 8) = false := decide_eq_false c3
      have c3b1 : decide (l0.length < 8) = false := decide_eq_false (by omega)
      clear c3
      (first | rw [c3b0] | (simp only [i64_w, i32_w]; rw [c3b0]) | skip)
      by_cases c5 : (l0.length : Int) > 512
      · rw [if_pos c5] at H
        have c5b0 : decide (512 < (l0.length : Int)) = true := decide_eq_true c5
        have c5b1 : decide (512 < l0.length) = true := decide_eq_true (by omega)
        clear c5
        have H' := Aside0.mk H
        clear H
        try go_wp2
        have n0_ := Aside0.mk (below_drew1 HB.out)
        clear HB
        have HB := n0_
        clear n0_
        refine start_ (n := 18) (S := fun w' => True) (ds := []) #[false, false, false, false, false, false, false, false, false, false, false, false, false, false, false, false, false, false] (by kernel_rfl) rfl rfl trivial (fun hHeld => ?_); refine with_tabW alloc_Fit.tab2 alloc_Fit.bits2 (fun HT_ HW_ => ?_)
        generalize w.drew = w6 at HB hHeld ⊢
        refine pure_ (i := 0) (N := some 8) (v := ?_) (a' := ?_) #[true, false, false, false, false, false, false, false, false, false, false, false, false, false, false, false, false, false] rfl rfl (any_of HT_.out (by kernel_rfl)) (fun _ _ _ h => h) (Or.inl ⟨by rfl, ?_⟩) ?_ ?_
        rotate_left
        · intro w'
          go_simp
          with_reducible rfl
        rotate_left
        · simp only [Act.put, List.setIfInBounds_toArray, List.set_cons_zero, List.set_cons_succ, i64_w, i32_w]
          rfl
        refine pure_ (i := 1) (N := some 9) (v := ?_) (a' := ?_) #[true, true, false, false, false, false, false, false, false, false, false, false, false, false, false, false, false, false] rfl rfl (any_of HT_.out (by kernel_rfl)) (fun _ _ _ h => h) (Or.inl ⟨by rfl, ?_⟩) ?_ ?_
        rotate_left
        · intro w'
          go_simp
          with_reducible rfl
        rotate_left
        · simp only [Act.put, List.setIfInBounds_toArray, List.set_cons_zero, List.set_cons_succ, i64_w, i32_w]
          rfl
        refine pure_ (i := 2) (N := some 10) (v := ?_) (a' := ?_) #[true, true, true, false, false, false, false, false, false, false, false, false, false, false, false, false, false, false] rfl rfl (any_of HT_.out (by kernel_rfl)) (fun _ _ _ h => h) (Or.inl ⟨by rfl, ?_⟩) ?_ ?_
        rotate_left
        · intro w'
          go_simp
          with_reducible rfl
        rotate_left
        · simp only [Act.put, List.setIfInBounds_toArray, List.set_cons_zero, List.set_cons_succ, i64_w, i32_w]
          rfl
        refine pure_ (i := 3) (N := some 11) (v := ?_) (a' := ?_) #[true, true, true, true, false, false, false, false, false, false, false, false, false, false, false, false, false, false] rfl rfl (any_of HT_.out (by kernel_rfl)) (fun _ _ _ h => h) (Or.inl ⟨by rfl, ?_⟩) ?_ ?_
        rotate_left
        · intro w'
          go_simp
          with_reducible rfl
        rotate_left
        · simp only [Act.put, List.setIfInBounds_toArray, List.set_cons_zero, List.set_cons_succ, i64_w, i32_w]
          rfl
        refine pure_ (i := 4) (N := some 12) (v := ?_) (a' := ?_) #[true, true, true, true, true, false, false, false, false, false, false, false, false, false, false, false, false, false] rfl rfl (any_of HT_.out (by kernel_rfl)) (fun _ _ _ h => h) (Or.inl ⟨by rfl, ?_⟩) ?_ ?_
        rotate_left
        · intro w'
          go_simp
          with_reducible rfl
        rotate_left
        · simp only [Act.put, List.setIfInBounds_toArray, List.set_cons_zero, List.set_cons_succ, i64_w, i32_w]
          rfl
        refine pure_ (i := 5) (N := some 13) (v := ?_) (a' := ?_) #[true, true, true, true, true, true, false, false, false, false, false, false, false, false, false, false, false, false] rfl rfl (any_of HT_.out (by kernel_rfl)) (fun _ _ _ h => h) (Or.inl ⟨by rfl, ?_⟩) ?_ ?_
        rotate_left
        · intro w'
          go_simp
          with_reducible rfl
        rotate_left
        · simp only [Act.put, List.setIfInBounds_toArray, List.set_cons_zero, List.set_cons_succ, i64_w, i32_w]
          rfl
        refine pure_ (i := 6) (N := some 14) (v := ?_) (a' := ?_) #[true, true, true, true, true, true, true, false, false, false, false, false, false, false, false, false, false, false] rfl rfl (any_of HT_.out (by kernel_rfl)) (fun _ _ _ h => h) (Or.inl ⟨by rfl, ?_⟩) ?_ ?_
        rotate_left
        · intro w'
          go_simp
          with_reducible rfl
        rotate_left
        · simp only [Act.put, List.setIfInBounds_toArray, List.set_cons_zero, List.set_cons_succ, i64_w, i32_w]
          rfl
        refine pure_ (i := 7) (N := some 15) (v := undef) (a' := ?_) #[true, true, true, true, true, true, true, true, false, false, false, false, false, false, false, false, false, false] rfl rfl (any_of HT_.out (by kernel_rfl)) (fun _ _ _ h => h) (Or.inr ⟨by rfl, rfl⟩) ?_ ?_
        rotate_left
        · simp only [Act.put, List.setIfInBounds_toArray, List.set_cons_zero, List.set_cons_succ, i64_w, i32_w]
          rfl
        refine pure_ (i := 8) (N := some 16) (v := undef) (a' := ?_) #[true, true, true, true, true, true, true, true, true, false, false, false, false, false, false, false, false, false] rfl rfl (any_of HT_.out (by kernel_rfl)) (fun _ _ _ h => h) (Or.inr ⟨by rfl, rfl⟩) ?_ ?_
        rotate_left
        · simp only [Act.put, List.setIfInBounds_toArray, List.set_cons_zero, List.set_cons_succ, i64_w, i32_w]
          rfl
        refine pure_ (i := 9) (N := some 17) (v := ?_) (a' := ?_) #[true, true, true, true, true, true, true, true, true, true, false, false, false, false, false, false, false, false] rfl rfl (any_of HT_.out (by kernel_rfl)) (fun _ _ _ h => h) (Or.inl ⟨by rfl, ?_⟩) ?_ ?_
        rotate_left
        · intro w'
          go_simp
          with_reducible rfl
        rotate_left
        · simp only [Act.put, List.setIfInBounds_toArray, List.set_cons_zero, List.set_cons_succ, i64_w, i32_w]
          rfl
        refine pure_ (i := 10) (N := some 18) (v := ?_) (a' := ?_) #[true, true, true, true, true, true, true, true, true, true, true, false, false, false, false, false, false, false] rfl rfl (any_of HT_.out (by kernel_rfl)) (fun _ _ _ h => h) (Or.inl ⟨by rfl, ?_⟩) ?_ ?_
        rotate_left
        · intro w'
          go_simp
          with_reducible rfl
        rotate_left
        · simp only [Act.put, List.setIfInBounds_toArray, List.set_cons_zero, List.set_cons_succ, i64_w, i32_w]
          rfl
        refine pure_ (i := 11) (N := some 19) (v := undef) (a' := ?_) #[true, true, true, true, true, true, true, true, true, true, true, true, false, false, false, false, false, false] rfl rfl (any_of HT_.out (by kernel_rfl)) (fun _ _ _ h => h) (Or.inr ⟨by rfl, rfl⟩) ?_ ?_
        rotate_left
        · simp only [Act.put, List.setIfInBounds_toArray, List.set_cons_zero, List.set_cons_succ, i64_w, i32_w]
          rfl
        refine pure_ (i := 12) (N := some 20) (v := undef) (a' := ?_) #[true, true, true, true, true, true, true, true, true, true, true, true, true, false, false, false, false, false] rfl rfl (any_of HT_.out (by kernel_rfl)) (fun _ _ _ h => h) (Or.inr ⟨by rfl, rfl⟩) ?_ ?_
        rotate_left
        · simp only [Act.put, List.setIfInBounds_toArray, List.set_cons_zero, List.set_cons_succ, i64_w, i32_w]
          rfl
        refine pure_ (i := 13) (N := some 21) (v := undef) (a' := ?_) #[true, true, true, true, true, true, true, true, true, true, true, true, true, true, false, false, false, false] rfl rfl (any_of HT_.out (by kernel_rfl)) (fun _ _ _ h => h) (Or.inr ⟨by rfl, rfl⟩) ?_ ?_
        rotate_left
        · simp only [Act.put, List.setIfInBounds_toArray, List.set_cons_zero, List.set_cons_succ, i64_w, i32_w]
          rfl
        refine pure_ (i := 14) (N := some 22) (v := undef) (a' := ?_) #[true, true, true, true, true, true, true, true, true, true, true, true, true, true, true, false, false, false] rfl rfl (any_of HT_.out (by kernel_rfl)) (fun _ _ _ h => h) (Or.inr ⟨by rfl, rfl⟩) ?_ ?_
        rotate_left
        · simp only [Act.put, List.setIfInBounds_toArray, List.set_cons_zero, List.set_cons_succ, i64_w, i32_w]
          rfl
        refine pure_ (i := 15) (N := some 23) (v := undef) (a' := ?_) #[true, true, true, true, true, true, true, true, true, true, true, true, true, true, true, true, false, false] rfl rfl (any_of HT_.out (by kernel_rfl)) (fun _ _ _ h => h) (Or.inr ⟨by rfl, rfl⟩) ?_ ?_
        rotate_left
        · simp only [Act.put, List.setIfInBounds_toArray, List.set_cons_zero, List.set_cons_succ, i64_w, i32_w]
          rfl
        refine pure_ (i := 16) (N := some 24) (v := undef) (a' := ?_) #[true, true, true, true, true, true, true, true, true, true, true, true, true, true, true, true, true, false] rfl rfl (any_of HT_.out (by kernel_rfl)) (fun _ _ _ h => h) (Or.inr ⟨by rfl, rfl⟩) ?_ ?_
        rotate_left
        · simp only [Act.put, List.setIfInBounds_toArray, List.set_cons_zero, List.set_cons_succ, i64_w, i32_w]
          rfl
        refine pure_ (i := 17) (N := some 25) (v := ?_) (a' := ?_) #[true, true, true, true, true, true, true, true, true, true, true, true, true, true, true, true, true, true] rfl rfl (any_of HT_.out (by kernel_rfl)) (fun _ _ _ h => h) (Or.inl ⟨by rfl, ?_⟩) ?_ ?_
        rotate_left
        · intro w'
          go_simp
          with_reducible rfl
        rotate_left
        · simp only [Act.put, List.setIfInBounds_toArray, List.set_cons_zero, List.set_cons_succ, i64_w, i32_w]
          rfl
        refine done_ (done_of HT_.out (by kernel_rfl)) ?_
        try go_wp2
        go_meet
        case rel => exact ⟨_, (true), (by first | rfl | (simp; done) | (simp [*]; done)), H', ⟨by first | omega | exact Nat.le_refl _⟩, ⟨by repeat (first | (with_reducible first | exact HB.out | apply below_alloc | apply pw_below_drewN | apply below_drew1) | exact HB.out)⟩⟩
      · rw [if_neg c5] at H
        have c5b0 : decide (512 < (l0.length : Int)) = false := decide_eq_false c5
        have c5b1 : decide (512 < l0.length) = false := decide_eq_false (by omega)
        clear c5
        replace H := Option.bind_eq_some_iff.mp H
        obtain ⟨t470, A70, H⟩ := H
        replace H : (if t470 = true then (alloc_Fit.j0 k l0 (l0.length : Int) true) else (if 0 < (l0.length : Int) then ((alloc_super.f (l0.length : Int)).bind fun t472 => (alloc_Fit.j0 k l0 (l0.length : Int) ((rdOf ByteArray.empty l0 0).toList != t472.toList))) else (none))) = some r := H
        have A7 := Aside0.mk A70
        clear A70
        by_cases c8 : t470 = true
        · subst c8
          have H1 : (alloc_Fit.j0 k l0 (l0.length : Int) true) = some r := by rw [if_pos rfl] at H; exact H
          clear H
          have H := H1
          clear H1
          have H' := Aside0.mk H
          clear H
          try go_wp2
          have n0_ := Aside0.mk (below_drew1 HB.out)
          clear HB
          have HB := n0_
          clear n0_
          refine start_ (n := 18) (S := fun w' => True) (ds := []) #[false, false, false, false, false, false, false, false, false, false, false, false, false, false, false, false, false, false] (by kernel_rfl) rfl rfl trivial (fun hHeld => ?_); refine with_tabW alloc_Fit.tab2 alloc_Fit.bits2 (fun HT_ HW_ => ?_)
          generalize w.drew = w9 at HB hHeld ⊢
          refine pure_ (i := 0) (N := some 8) (v := ?_) (a' := ?_) #[true, false, false, false, false, false, false, false, false, false, false, false, false, false, false, false, false, false] rfl rfl (any_of HT_.out (by kernel_rfl)) (fun _ _ _ h => h) (Or.inl ⟨by rfl, ?_⟩) ?_ ?_
          rotate_left
          · intro w'
            go_simp
            with_reducible rfl
          rotate_left
          · simp only [Act.put, List.setIfInBounds_toArray, List.set_cons_zero, List.set_cons_succ, i64_w, i32_w]
            rfl
          refine pure_ (i := 1) (N := some 9) (v := ?_) (a' := ?_) #[true, true, false, false, false, false, false, false, false, false, false, false, false, false, false, false, false, false] rfl rfl (any_of HT_.out (by kernel_rfl)) (fun _ _ _ h => h) (Or.inl ⟨by rfl, ?_⟩) ?_ ?_
          rotate_left
          · intro w'
            go_simp
            with_reducible rfl
          rotate_left
          · simp only [Act.put, List.setIfInBounds_toArray, List.set_cons_zero, List.set_cons_succ, i64_w, i32_w]
            rfl
          refine pure_ (i := 2) (N := some 10) (v := ?_) (a' := ?_) #[true, true, true, false, false, false, false, false, false, false, false, false, false, false, false, false, false, false] rfl rfl (any_of HT_.out (by kernel_rfl)) (fun _ _ _ h => h) (Or.inl ⟨by rfl, ?_⟩) ?_ ?_
          rotate_left
          · intro w'
            go_simp
            with_reducible rfl
          rotate_left
          · simp only [Act.put, List.setIfInBounds_toArray, List.set_cons_zero, List.set_cons_succ, i64_w, i32_w]
            rfl
          refine pure_ (i := 3) (N := some 11) (v := ?_) (a' := ?_) #[true, true, true, true, false, false, false, false, false, false, false, false, false, false, false, false, false, false] rfl rfl (any_of HT_.out (by kernel_rfl)) (fun _ _ _ h => h) (Or.inl ⟨by rfl, ?_⟩) ?_ ?_
          rotate_left
          · intro w'
            go_simp
            with_reducible rfl
          rotate_left
          · simp only [Act.put, List.setIfInBounds_toArray, List.set_cons_zero, List.set_cons_succ, i64_w, i32_w]
            rfl
          refine pure_ (i := 4) (N := some 12) (v := ?_) (a' := ?_) #[true, true, true, true, true, false, false, false, false, false, false, false, false, false, false, false, false, false] rfl rfl (any_of HT_.out (by kernel_rfl)) (fun _ _ _ h => h) (Or.inl ⟨by rfl, ?_⟩) ?_ ?_
          rotate_left
          · intro w'
            go_simp
            with_reducible rfl
          rotate_left
          · simp only [Act.put, List.setIfInBounds_toArray, List.set_cons_zero, List.set_cons_succ, i64_w, i32_w]
            rfl
          refine pure_ (i := 5) (N := some 13) (v := ?_) (a' := ?_) #[true, true, true, true, true, true, false, false, false, false, false, false, false, false, false, false, false, false] rfl rfl (any_of HT_.out (by kernel_rfl)) (fun _ _ _ h => h) (Or.inl ⟨by rfl, ?_⟩) ?_ ?_
          rotate_left
          · intro w'
            go_simp
            with_reducible rfl
          rotate_left
          · simp only [Act.put, List.setIfInBounds_toArray, List.set_cons_zero, List.set_cons_succ, i64_w, i32_w]
            rfl
          refine pure_ (i := 6) (N := some 14) (v := ?_) (a' := ?_) #[true, true, true, true, true, true, true, false, false, false, false, false, false, false, false, false, false, false] rfl rfl (any_of HT_.out (by kernel_rfl)) (fun _ _ _ h => h) (Or.inl ⟨by rfl, ?_⟩) ?_ ?_
          rotate_left
          · intro w'
            go_simp
            with_reducible rfl
          rotate_left
          · simp only [Act.put, List.setIfInBounds_toArray, List.set_cons_zero, List.set_cons_succ, i64_w, i32_w]
            rfl
          refine pure_ (i := 7) (N := some 15) (v := ?_) (a' := ?_) #[true, true, true, true, true, true, true, true, false, false, false, false, false, false, false, false, false, false] rfl rfl (any_of HT_.out (by kernel_rfl)) (fun _ _ _ h => h) (Or.inl ⟨by rfl, ?_⟩) ?_ ?_
          rotate_left
          · intro w'
            go_simp
            with_reducible rfl
          rotate_left
          · simp only [Act.put, List.setIfInBounds_toArray, List.set_cons_zero, List.set_cons_succ, i64_w, i32_w]
            rfl
          refine one_ (i := 8) (N := some 16) #[true, true, true, true, true, true, true, true, true, false, false, false, false, false, false, false, false, false] rfl rfl (one_of HT_.out (by kernel_rfl)) (by decide) (fun K hK => ?_)
          refine goes_ Try.func46 (by kernel_rfl) rfl #[.slice A0 l0.length c0, .func (.func 47) #[] #[]] (by rfl) rfl rfl (by (try simp only [List.map_toArray, List.map_cons, List.map_nil]); first | done | rfl | (simp only [List.length_drop, List.length_take]; rfl)) ?_
          with_reducible refine (slices_ContainsFunc_string_string.calls _ _ l0 true _ ?side1 ?side2 A7.out).mono ?_
          (case side1 => repeat (first | exact (Kd.C_below HR0.out HB.out) | (with_reducible refine Kd.C_alloc ?_ _) | (with_reducible refine Kd.C_drewN ?_ _) | (with_reducible refine Kd.C_drew ?_)))
          (case side2 => exact HC0.out)
          rintro e w10 ⟨rfl, hb⟩
          refine ⟨_, rfl, ?_⟩
          have n0_ := Aside0.mk (below_step (by repeat (first | (with_reducible first | exact HB.out | apply below_alloc | apply pw_below_drewN | apply below_drew1) | exact HB.out)) hb)
          clear HB
          have HB := n0_
          clear n0_
          (try clear hb)
          (try clear hb2)
          (try clear hk)
          (try clear hi)
          refine hK.out _ _ trivial (fun hHeld => ?_)
          clear hK K
          refine norm_ (a' := ?_) ?_ ?_
          rotate_left
          · show Act.put _ (some 16) _ = _
            simp only [Act.put, List.setIfInBounds_toArray, List.set_cons_zero, List.set_cons_succ, i64_w, i32_w]
            rfl
          refine pure_ (i := 9) (N := some 17) (v := ?_) (a' := ?_) #[true, true, true, true, true, true, true, true, true, true, false, false, false, false, false, false, false, false] rfl rfl (any_of HT_.out (by kernel_rfl)) (fun _ _ _ h => h) (Or.inl ⟨by rfl, ?_⟩) ?_ ?_
          rotate_left
          · intro w'
            go_simp
            with_reducible rfl
          rotate_left
          · simp only [Act.put, List.setIfInBounds_toArray, List.set_cons_zero, List.set_cons_succ, i64_w, i32_w]
            rfl
          refine pure_ (i := 10) (N := some 18) (v := ?_) (a' := ?_) #[true, true, true, true, true, true, true, true, true, true, true, false, false, false, false, false, false, false] rfl rfl (any_of HT_.out (by kernel_rfl)) (fun _ _ _ h => h) (Or.inl ⟨by rfl, ?_⟩) ?_ ?_
          rotate_left
          · intro w'
            go_simp
            with_reducible rfl
          rotate_left
          · simp only [Act.put, List.setIfInBounds_toArray, List.set_cons_zero, List.set_cons_succ, i64_w, i32_w]
            rfl
          refine pure_ (i := 11) (N := some 19) (v := undef) (a' := ?_) #[true, true, true, true, true, true, true, true, true, true, true, true, false, false, false, false, false, false] rfl rfl (any_of HT_.out (by kernel_rfl)) (fun _ _ _ h => h) (Or.inr ⟨by rfl, rfl⟩) ?_ ?_
          rotate_left
          · simp only [Act.put, List.setIfInBounds_toArray, List.set_cons_zero, List.set_cons_succ, i64_w, i32_w]
            rfl
          refine pure_ (i := 12) (N := some 20) (v := undef) (a' := ?_) #[true, true, true, true, true, true, true, true, true, true, true, true, true, false, false, false, false, false] rfl rfl (any_of HT_.out (by kernel_rfl)) (fun _ _ _ h => h) (Or.inr ⟨by rfl, rfl⟩) ?_ ?_
          rotate_left
          · simp only [Act.put, List.setIfInBounds_toArray, List.set_cons_zero, List.set_cons_succ, i64_w, i32_w]
            rfl
          refine pure_ (i := 13) (N := some 21) (v := undef) (a' := ?_) #[true, true, true, true, true, true, true, true, true, true, true, true, true, true, false, false, false, false] rfl rfl (any_of HT_.out (by kernel_rfl)) (fun _ _ _ h => h) (Or.inr ⟨by rfl, rfl⟩) ?_ ?_
          rotate_left
          · simp only [Act.put, List.setIfInBounds_toArray, List.set_cons_zero, List.set_cons_succ, i64_w, i32_w]
            rfl
          refine pure_ (i := 14) (N := some 22) (v := undef) (a' := ?_) #[true, true, true, true, true, true, true, true, true, true, true, true, true, true, true, false, false, false] rfl rfl (any_of HT_.out (by kernel_rfl)) (fun _ _ _ h => h) (Or.inr ⟨by rfl, rfl⟩) ?_ ?_
          rotate_left
          · simp only [Act.put, List.setIfInBounds_toArray, List.set_cons_zero, List.set_cons_succ, i64_w, i32_w]
            rfl
          refine pure_ (i := 15) (N := some 23) (v := undef) (a' := ?_) #[true, true, true, true, true, true, true, true, true, true, true, true, true, true, true, true, false, false] rfl rfl (any_of HT_.out (by kernel_rfl)) (fun _ _ _ h => h) (Or.inr ⟨by rfl, rfl⟩) ?_ ?_
          rotate_left
          · simp only [Act.put, List.setIfInBounds_toArray, List.set_cons_zero, List.set_cons_succ, i64_w, i32_w]
            rfl
          refine pure_ (i := 16) (N := some 24) (v := undef) (a' := ?_) #[true, true, true, true, true, true, true, true, true, true, true, true, true, true, true, true, true, false] rfl rfl (any_of HT_.out (by kernel_rfl)) (fun _ _ _ h => h) (Or.inr ⟨by rfl, rfl⟩) ?_ ?_
          rotate_left
          · simp only [Act.put, List.setIfInBounds_toArray, List.set_cons_zero, List.set_cons_succ, i64_w, i32_w]
            rfl
          refine pure_ (i := 17) (N := some 25) (v := ?_) (a' := ?_) #[true, true, true, true, true, true, true, true, true, true, true, true, true, true, true, true, true, true] rfl rfl (any_of HT_.out (by kernel_rfl)) (fun _ _ _ h => h) (Or.inl ⟨by rfl, ?_⟩) ?_ ?_
          rotate_left
          · intro w'
            go_simp
            with_reducible rfl
          rotate_left
          · simp only [Act.put, List.setIfInBounds_toArray, List.set_cons_zero, List.set_cons_succ, i64_w, i32_w]
            rfl
          refine done_ (done_of HT_.out (by kernel_rfl)) ?_
          try go_wp2
          go_meet
          case rel => exact ⟨_, (true), (by first | rfl | (simp; done) | (simp [*]; done)), H', ⟨by first | omega | exact Nat.le_refl _⟩, ⟨by repeat (first | (with_reducible first | exact HB.out | apply below_alloc | apply pw_below_drewN | apply below_drew1) | exact HB.out)⟩⟩
        · replace c8 := Bool.eq_false_iff.mpr c8
          subst c8
          have H1 : (if 0 < (l0.length : Int) then ((alloc_super.f (l0.length : Int)).bind fun t472 => (alloc_Fit.j0 k l0 (l0.length : Int) ((rdOf ByteArray.empty l0 0).toList != t472.toList))) else (none)) = some r := by rw [if_neg (show ¬ (false = true) by decide)] at H; exact H
          clear H
          have H := H1
          clear H1
          by_cases c11 : 0 < (l0.length : Int)
          · rw [if_pos c11] at H
            have c11b0 : decide (0 < (l0.length : Int)) = true := decide_eq_true c11
            have c11b1 : decide (0 < l0.length) = true := decide_eq_true (by omega)
            clear c11
            replace H := Option.bind_eq_some_iff.mp H
            obtain ⟨t472, A120, H⟩ := H
            replace H : (alloc_Fit.j0 k l0 (l0.length : Int) ((rdOf ByteArray.empty l0 0).toList != t472.toList)) = some r := H
            have A12 := Aside0.mk A120
            clear A120
            have H' := Aside0.mk H
            clear H
            try go_wp2
            have n0_ := Aside0.mk (below_drew1 HB.out)
            clear HB
            have HB := n0_
            clear n0_
            have p471 : 0 ≤ (0 : Int) := (by omega)
            have q471 : 0 < (l0.length : Int) := of_decide_eq_true (by first | (with_reducible assumption) | assumption)
            obtain ⟨ad471, e471, hx471_0⟩ := Kd.at_string HR0.out 0 p471 q471
            have hw471_0 := hx471_0
            (try rw [show ((0 : Int)).toNat = 0 from rfl] at hw471_0)
            (try rw [show 0 * 1 = 0 from rfl] at hw471_0)
            (try rw [Addr.add_zero'] at hw471_0)
            cases e471
            have qi471 : (0 < l0.length) = True := eq_true (by omega)
            (try rw [show ((0 : Int)).toNat = 0 from rfl] at hx471_0)
            (try rw [Addr.add_zero'] at hx471_0)
            replace hx471_0 := (HB.out.cell (World.block_lt_of_cell? w _ hx471_0)).trans hx471_0
            replace p471 := eq_true p471
            replace q471 := eq_true q471
            refine start_ (n := 18) (S := fun w' => w'.cell? ad471 = some (.string (rdOf ByteArray.empty l0 0))) (ds := []) #[false, false, false, false, false, false, false, false, false, false, false, false, false, false, false, false, false, false] (by kernel_rfl) rfl rfl (((HB.out.cell (World.block_lt_of_cell? w _ hw471_0)).trans hw471_0)) (fun hHeld => ?_); refine with_tabW alloc_Fit.tab2 alloc_Fit.bits2 (fun HT_ HW_ => ?_)
            generalize w.drew = w13 at HB hx471_0 hHeld ⊢
            refine pure_ (i := 0) (N := some 8) (v := ?_) (a' := ?_) #[true, false, false, false, false, false, false, false, false, false, false, false, false, false, false, false, false, false] rfl rfl (any_of HT_.out (by kernel_rfl)) (fun _ _ _ h => h) (Or.inl ⟨by rfl, ?_⟩) ?_ ?_
            rotate_left
            · intro w'
              go_simp
              with_reducible rfl
            rotate_left
            · simp only [Act.put, List.setIfInBounds_toArray, List.set_cons_zero, List.set_cons_succ, i64_w, i32_w]
              rfl
            refine pure_ (i := 1) (N := some 9) (v := ?_) (a' := ?_) #[true, true, false, false, false, false, false, false, false, false, false, false, false, false, false, false, false, false] rfl rfl (any_of HT_.out (by kernel_rfl)) (fun _ _ _ h => h) (Or.inl ⟨by rfl, ?_⟩) ?_ ?_
            rotate_left
            · intro w'
              go_simp
              with_reducible rfl
            rotate_left
            · simp only [Act.put, List.setIfInBounds_toArray, List.set_cons_zero, List.set_cons_succ, i64_w, i32_w]
              rfl
            refine pure_ (i := 2) (N := some 10) (v := ?_) (a' := ?_) #[true, true, true, false, false, false, false, false, false, false, false, false, false, false, false, false, false, false] rfl rfl (any_of HT_.out (by kernel_rfl)) (fun _ _ _ h => h) (Or.inl ⟨by rfl, ?_⟩) ?_ ?_
            rotate_left
            · intro w'
              go_simp
              with_reducible rfl
            rotate_left
            · simp only [Act.put, List.setIfInBounds_toArray, List.set_cons_zero, List.set_cons_succ, i64_w, i32_w]
              rfl
            refine pure_ (i := 3) (N := some 11) (v := ?_) (a' := ?_) #[true, true, true, true, false, false, false, false, false, false, false, false, false, false, false, false, false, false] rfl rfl (any_of HT_.out (by kernel_rfl)) (fun _ _ _ h => h) (Or.inl ⟨by rfl, ?_⟩) ?_ ?_
            rotate_left
            · intro w'
              go_simp
              with_reducible rfl
            rotate_left
            · simp only [Act.put, List.setIfInBounds_toArray, List.set_cons_zero, List.set_cons_succ, i64_w, i32_w]
              rfl
            refine pure_ (i := 4) (N := some 12) (v := ?_) (a' := ?_) #[true, true, true, true, true, false, false, false, false, false, false, false, false, false, false, false, false, false] rfl rfl (any_of HT_.out (by kernel_rfl)) (fun _ _ _ h => h) (Or.inl ⟨by rfl, ?_⟩) ?_ ?_
            rotate_left
            · intro w'
              go_simp
              with_reducible rfl
            rotate_left
            · simp only [Act.put, List.setIfInBounds_toArray, List.set_cons_zero, List.set_cons_succ, i64_w, i32_w]
              rfl
            refine pure_ (i := 5) (N := some 13) (v := ?_) (a' := ?_) #[true, true, true, true, true, true, false, false, false, false, false, false, false, false, false, false, false, false] rfl rfl (any_of HT_.out (by kernel_rfl)) (fun _ _ _ h => h) (Or.inl ⟨by rfl, ?_⟩) ?_ ?_
            rotate_left
            · intro w'
              go_simp
              with_reducible rfl
            rotate_left
            · simp only [Act.put, List.setIfInBounds_toArray, List.set_cons_zero, List.set_cons_succ, i64_w, i32_w]
              rfl
            refine pure_ (i := 6) (N := some 14) (v := ?_) (a' := ?_) #[true, true, true, true, true, true, true, false, false, false, false, false, false, false, false, false, false, false] rfl rfl (any_of HT_.out (by kernel_rfl)) (fun _ _ _ h => h) (Or.inl ⟨by rfl, ?_⟩) ?_ ?_
            rotate_left
            · intro w'
              go_simp
              with_reducible rfl
            rotate_left
            · simp only [Act.put, List.setIfInBounds_toArray, List.set_cons_zero, List.set_cons_succ, i64_w, i32_w]
              rfl
            refine pure_ (i := 7) (N := some 15) (v := ?_) (a' := ?_) #[true, true, true, true, true, true, true, true, false, false, false, false, false, false, false, false, false, false] rfl rfl (any_of HT_.out (by kernel_rfl)) (fun _ _ _ h => h) (Or.inl ⟨by rfl, ?_⟩) ?_ ?_
            rotate_left
            · intro w'
              go_simp
              with_reducible rfl
            rotate_left
            · simp only [Act.put, List.setIfInBounds_toArray, List.set_cons_zero, List.set_cons_succ, i64_w, i32_w]
              rfl
            refine one_ (i := 8) (N := some 16) #[true, true, true, true, true, true, true, true, true, false, false, false, false, false, false, false, false, false] rfl rfl (one_of HT_.out (by kernel_rfl)) (by decide) (fun K hK => ?_)
            refine goes_ Try.func46 (by kernel_rfl) rfl #[.slice (some ad471) l0.length c0, .func (.func 47) #[] #[]] (by rfl) rfl rfl (by (try simp only [List.map_toArray, List.map_cons, List.map_nil]); first | done | rfl | (simp only [List.length_drop, List.length_take]; rfl)) ?_
            with_reducible refine (slices_ContainsFunc_string_string.calls _ _ l0 false _ ?side1 ?side2 A7.out).mono ?_
            (case side1 => repeat (first | exact (Kd.C_below HR0.out HB.out) | (with_reducible refine Kd.C_alloc ?_ _) | (with_reducible refine Kd.C_drewN ?_ _) | (with_reducible refine Kd.C_drew ?_)))
            (case side2 => exact HC0.out)
            rintro e w14 ⟨rfl, hb⟩
            refine ⟨_, rfl, ?_⟩
            have n0_ := Aside0.mk (below_step (by repeat (first | (with_reducible first | exact HB.out | apply below_alloc | apply pw_below_drewN | apply below_drew1) | exact HB.out)) hb)
            clear HB
            have HB := n0_
            clear n0_
            (try clear hb)
            (try clear hb2)
            (try clear hk)
            (try clear hi)
            refine hK.out _ _ (((HB.out.cell (World.block_lt_of_cell? w _ hw471_0)).trans hw471_0)) (fun hHeld => ?_)
            clear hK K
            refine norm_ (a' := ?_) ?_ ?_
            rotate_left
            · show Act.put _ (some 16) _ = _
              simp only [Act.put, List.setIfInBounds_toArray, List.set_cons_zero, List.set_cons_succ, i64_w, i32_w]
              rfl
            refine pure_ (i := 9) (N := some 17) (v := ?_) (a' := ?_) #[true, true, true, true, true, true, true, true, true, true, false, false, false, false, false, false, false, false] rfl rfl (any_of HT_.out (by kernel_rfl)) (fun _ _ _ h => h) (Or.inl ⟨by rfl, ?_⟩) ?_ ?_
            rotate_left
            · intro w'
              go_simp
              with_reducible rfl
            rotate_left
            · simp only [Act.put, List.setIfInBounds_toArray, List.set_cons_zero, List.set_cons_succ, i64_w, i32_w]
              rfl
            refine pure_ (i := 10) (N := some 18) (v := ?_) (a' := ?_) #[true, true, true, true, true, true, true, true, true, true, true, false, false, false, false, false, false, false] rfl rfl (any_of HT_.out (by kernel_rfl)) (fun _ _ _ h => h) (Or.inl ⟨by rfl, ?_⟩) ?_ ?_
            rotate_left
            · intro w'
              go_simp
              with_reducible rfl
            rotate_left
            · simp only [Act.put, List.setIfInBounds_toArray, List.set_cons_zero, List.set_cons_succ, i64_w, i32_w]
              rfl
            refine pure_ (i := 11) (N := some 19) (v := ?_) (a' := ?_) #[true, true, true, true, true, true, true, true, true, true, true, true, false, false, false, false, false, false] rfl rfl (any_of HT_.out (by kernel_rfl)) (fun _ _ _ h => h) (Or.inl ⟨by rfl, ?_⟩) ?_ ?_
            rotate_left
            · intro w'
              go_simp
              with_reducible rfl
            rotate_left
            · simp only [Act.put, List.setIfInBounds_toArray, List.set_cons_zero, List.set_cons_succ, i64_w, i32_w]
              rfl
            refine pure_ (i := 12) (N := some 20) (v := ?_) (a' := ?_) #[true, true, true, true, true, true, true, true, true, true, true, true, true, false, false, false, false, false] rfl rfl (any_of HT_.out (by kernel_rfl)) (fun _ _ _ h => h) (Or.inl ⟨by rfl, ?_⟩) ?_ ?_
            rotate_left
            · intro w'
              go_simp
              with_reducible rfl
            rotate_left
            · simp only [Act.put, List.setIfInBounds_toArray, List.set_cons_zero, List.set_cons_succ, i64_w, i32_w]
              rfl
            refine pure_ (i := 14) (N := some 22) (v := ?_) (a' := ?_) #[true, true, true, true, true, true, true, true, true, true, true, true, true, false, true, false, false, false] rfl rfl (any_of HT_.out (by kernel_rfl)) (fun _ _ _ h => h) (Or.inl ⟨by rfl, ?_⟩) ?_ ?_
            rotate_left
            · intro w'
              go_simp
              with_reducible rfl
            rotate_left
            · simp only [Act.put, List.setIfInBounds_toArray, List.set_cons_zero, List.set_cons_succ, i64_w, i32_w]
              rfl
            refine take_ (i := 13) (N := some 21) (v := ?_) (a' := ?_) #[true, true, true, true, true, true, true, true, true, true, true, true, true, true, true, false, false, false] rfl rfl (take_ofW HT_.out HW_.out (by kernel_rfl)) (fun _ _ _ h => h) (Or.inl ⟨by rfl, ?_⟩) hHeld ?_ ?_
            rotate_left
            · intro w' s0
              go_simp
              with_reducible rfl
            rotate_left
            · simp only [Act.put, List.setIfInBounds_toArray, List.set_cons_zero, List.set_cons_succ, i64_w, i32_w]
              rfl
            refine one_ (i := 15) (N := some 23) #[true, true, true, true, true, true, true, true, true, true, true, true, true, true, true, true, false, false] rfl rfl (one_of HT_.out (by kernel_rfl)) (by decide) (fun K hK => ?_)
            refine goes_ Try.func44 (by kernel_rfl) rfl #[.int .i64 (l0.length : Int)] (by rfl) rfl rfl (by (try simp only [List.map_toArray, List.map_cons, List.map_nil]); first | done | rfl | (simp only [List.length_drop, List.length_take]; rfl)) ?_
            with_reducible refine (alloc_super.calls (l0.length : Int) t472 _ A12.out).mono ?_
            rintro e w15 ⟨rfl, hb⟩
            refine ⟨_, rfl, ?_⟩
            have n0_ := Aside0.mk (below_step (by repeat (first | (with_reducible first | exact HB.out | apply below_alloc | apply pw_below_drewN | apply below_drew1) | exact HB.out)) hb)
            clear HB
            have HB := n0_
            clear n0_
            (try clear hb)
            (try clear hb2)
            (try clear hk)
            (try clear hi)
            refine hK.out _ _ (((HB.out.cell (World.block_lt_of_cell? w _ hw471_0)).trans hw471_0)) (fun hHeld => ?_)
            clear hK K
            refine norm_ (a' := ?_) ?_ ?_
            rotate_left
            · show Act.put _ (some 23) _ = _
              simp only [Act.put, List.setIfInBounds_toArray, List.set_cons_zero, List.set_cons_succ, i64_w, i32_w]
              rfl
            refine pure_ (i := 16) (N := some 24) (v := ?_) (a' := ?_) #[true, true, true, true, true, true, true, true, true, true, true, true, true, true, true, true, true, false] rfl rfl (any_of HT_.out (by kernel_rfl)) (fun _ _ _ h => h) (Or.inl ⟨by rfl, ?_⟩) ?_ ?_
            rotate_left
            · intro w'
              go_simp
              with_reducible rfl
            rotate_left
            · simp only [Act.put, List.setIfInBounds_toArray, List.set_cons_zero, List.set_cons_succ, i64_w, i32_w]
              rfl
            refine pure_ (i := 17) (N := some 25) (v := ?_) (a' := ?_) #[true, true, true, true, true, true, true, true, true, true, true, true, true, true, true, true, true, true] rfl rfl (any_of HT_.out (by kernel_rfl)) (fun _ _ _ h => h) (Or.inl ⟨by rfl, ?_⟩) ?_ ?_
            rotate_left
            · intro w'
              go_simp
              with_reducible rfl
            rotate_left
            · simp only [Act.put, List.setIfInBounds_toArray, List.set_cons_zero, List.set_cons_succ, i64_w, i32_w]
              rfl
            refine done_ (done_of HT_.out (by kernel_rfl)) ?_
            try go_wp2
            go_meet
            case rel => exact ⟨_, (((rdOf ByteArray.empty l0 0).toList != t472.toList)), (by first | rfl | (simp; done) | (simp [*]; done)), H', ⟨by first | omega | exact Nat.le_refl _⟩, ⟨by repeat (first | (with_reducible first | exact HB.out | apply below_alloc | apply pw_below_drewN | apply below_drew1) | exact HB.out)⟩⟩
          · rw [if_neg c11] at H
            exact absurd H (by simp)
  case rest =>
    clear HC2
    try clear c1
    try clear p2
    try clear c3
    try clear c3b0
    try clear c3b1
    try clear c4
    try clear p4
    try clear q4
    try clear hx4
    try clear qi4
    try clear c5
    try clear c5b0
    try clear c5b1
    try clear c8
    try clear c11
    try clear c11b0
    try clear c11b1
    try clear hx471_0
    try clear p471
    try clear q471
    obtain ⟨kq, x25_1, rfl, HA, HJ1, HB⟩ := hcut
    cases kq with
    | zero => exact absurd HA.out (by simp [alloc_Fit.j0])
    | succ kj1 =>
      have H := HA.out
      clear HA
      simp only [alloc_Fit.j0] at H
      by_cases c16 : x25_1 = true
      · subst c16
        have H1 : (some false) = some r := by rw [if_pos rfl] at H; exact H
        clear H
        have H := H1
        clear H1
        obtain rfl := Option.some.inj H
        go_wp2
        go_ret
        exact ⟨by first | rfl | (simp [errW_none, errW_some] <;> rfl) | (simp [*, errW_none, errW_some] <;> rfl), by repeat (first | (with_reducible first | exact HB.out | apply below_alloc | apply pw_below_drewN | apply below_drew1) | exact HB.out)⟩
      · replace c16 := Bool.eq_false_iff.mpr c16
        subst c16
        have H1 : (alloc_Fit.l0 kj1 l0 (l0.length : Int) 0) = some r := by rw [if_neg (show ¬ (false = true) by decide)] at H; exact H
        clear H
        have H := H1
        clear H1
        have H' := Aside0.mk H
        clear H
        go_wp2
        go_loopg [26] kj1 (fun kq v26 w' => ∃ (x26_2 : Int), v26 = .int .i64 x26_2 ∧ Aside0 (alloc_Fit.l0 kq l0 (l0.length : Int) x26_2 = some r) ∧ Aside0 (kq ≤ kj1) ∧ Aside0 (Below w.heap.size w w'))
        case atStart => exact ⟨(0), (by first | rfl | (simp; done) | (simp [*]; done)), H', ⟨Nat.le_refl _⟩, ⟨by repeat (first | (with_reducible first | exact HB.out | apply below_alloc | apply pw_below_drewN | apply below_drew1) | exact HB.out)⟩⟩
        case round =>
          clear H'
          try clear c1
          try clear p2
          try clear c3
          try clear c3b0
          try clear c3b1
          try clear c4
          try clear p4
          try clear q4
          try clear hx4
          try clear qi4
          try clear c5
          try clear c5b0
          try clear c5b1
          try clear c8
          try clear c11
          try clear c11b0
          try clear c11b1
          try clear c16
          try clear hx471_0
          try clear p2
          try clear p4
          try clear p471
          try clear q4
          try clear q471
          obtain ⟨x26_2, rfl, HA, HK2, HB⟩ := hrel
          cases gk with
          | zero => exact absurd HA.out (by simp [alloc_Fit.l0])
          | succ k2 =>
            have H := HA.out
            clear HA
            simp only [alloc_Fit.l0] at H
            by_cases c17 : x26_2 < 1024
            · rw [if_pos c17] at H
              have c17b0 : decide (x26_2 < 1024) = true := decide_eq_true c17
              clear c17
              by_cases c18 : 1 < (l0.length : Int)
              · rw [if_pos c18] at H
                have c18b0 : decide (1 < (l0.length : Int)) = true := decide_eq_true c18
                have c18b1 : decide (1 < l0.length) = true := decide_eq_true (by omega)
                clear c18
                replace H := Option.bind_eq_some_iff.mp H
                obtain ⟨t474, A190, H⟩ := H
                replace H : ((alloc_first.f (l0.length : Int)).bind fun t475 => (if x26_2 < t475 then (if t474 = true then (if x26_2 ≥ (l0.length : Int) then (some false) else (alloc_Fit.l0 k2 l0 (l0.length : Int) (wrap64 (x26_2 + 1)))) else (some false)) else (if x26_2 ≥ (l0.length : Int) then (if t474 = true then (some false) else (alloc_Fit.l0 k2 l0 (l0.length : Int) (wrap64 (x26_2 + 1)))) else (alloc_Fit.l0 k2 l0 (l0.length : Int) (wrap64 (x26_2 + 1)))))) = some r := H
                have A19 := Aside0.mk A190
                clear A190
                replace H := Option.bind_eq_some_iff.mp H
                obtain ⟨t475, A200, H⟩ := H
                replace H : (if x26_2 < t475 then (if t474 = true then (if x26_2 ≥ (l0.length : Int) then (some false) else (alloc_Fit.l0 k2 l0 (l0.length : Int) (wrap64 (x26_2 + 1)))) else (some false)) else (if x26_2 ≥ (l0.length : Int) then (if t474 = true then (some false) else (alloc_Fit.l0 k2 l0 (l0.length : Int) (wrap64 (x26_2 + 1)))) else (alloc_Fit.l0 k2 l0 (l0.length : Int) (wrap64 (x26_2 + 1))))) = some r := H
                have A20 := Aside0.mk A200
                clear A200
                by_cases c21 : x26_2 < t475
                · rw [if_pos c21] at H
                  have c21b0 : decide (x26_2 < t475) = true := decide_eq_true c21
                  clear c21
                  by_cases c22 : t474 = true
                  · subst c22
                    have H1 : (if x26_2 ≥ (l0.length : Int) then (some false) else (alloc_Fit.l0 k2 l0 (l0.length : Int) (wrap64 (x26_2 + 1)))) = some r := by rw [if_pos rfl] at H; exact H
                    clear H
                    have H := H1
                    clear H1
                    by_cases c23 : x26_2 ≥ (l0.length : Int)
                    · rw [if_pos c23] at H
                      have c23b0 : decide ((l0.length : Int) ≤ x26_2) = true := decide_eq_true c23
                      clear c23
                      obtain rfl := Option.some.inj H
                      have p473 : 0 ≤ (1 : Int) := (by omega)
                      have q473 : 1 < (l0.length : Int) := of_decide_eq_true (by first | (with_reducible assumption) | assumption)
                      obtain ⟨ad473, e473, hx473_0⟩ := Kd.at_string HR0.out 1 p473 q473
                      cases e473
                      (try simp only [show (1 : Int).toNat = 1 from rfl, Nat.reduceMul, Nat.reduceEqDiff, Go.Addr.add, ↓reduceIte] at hx473_0)
                      have qi473 : (1 < l0.length) = True := eq_true (by omega)
                      (try rw [show ((1 : Int)).toNat = 1 from rfl] at hx473_0)
                      replace hx473_0 := (HB.out.cell (World.block_lt_of_cell? w _ hx473_0)).trans hx473_0
                      replace p473 := eq_true p473
                      replace q473 := eq_true q473
                      go_wp2_with (first | ((with_reducible refine gate_callee (f := 40) rfl ?_); refine goesL_ (some 33) rfl rfl Try.func40 (by kernel_rfl) rfl #[.string (rdOf ByteArray.empty l0 1), .int .i64 x26_2] rfl (by (try simp only [List.map_toArray, List.map_cons, List.map_nil]); first | done | rfl | (simp only [List.length_drop, List.length_take]; rfl)) ?_; (with_reducible refine (alloc_bit.calls (rdOf ByteArray.empty l0 1) x26_2 true _ A19.out).mono ?_); rintro e w' ⟨rfl, ⟨nd, rfl⟩⟩; refine ⟨_, rfl, ?_⟩) | ((with_reducible refine gate_callee (f := 34) rfl ?_); refine goesL_ (some 36) rfl rfl Try.func34 (by kernel_rfl) rfl #[.int .i64 (l0.length : Int)] rfl (by (try simp only [List.map_toArray, List.map_cons, List.map_nil]); first | done | rfl | (simp only [List.length_drop, List.length_take]; rfl)) ?_; (with_reducible refine (alloc_first.calls (l0.length : Int) t475 _ A20.out).mono ?_); rintro e w24 ⟨rfl, hb⟩; refine ⟨_, rfl, ?_⟩; have n0_ := Aside0.mk (below_step (by repeat (first | (with_reducible first | exact HB.out | apply below_alloc | apply pw_below_drewN | apply below_drew1) | exact HB.out)) hb); clear HB; have HB := n0_; clear n0_; (try clear hb); (try clear hb2); (try clear hk); (try clear hi)))
                      go_ret
                      exact ⟨by first | rfl | (simp [errW_none, errW_some] <;> rfl) | (simp [*, errW_none, errW_some] <;> rfl), by repeat (first | (with_reducible first | exact HB.out | apply below_alloc | apply pw_below_drewN | apply below_drew1) | exact HB.out)⟩
                    · rw [if_neg c23] at H
                      have c23b0 : decide ((l0.length : Int) ≤ x26_2) = false := decide_eq_false c23
                      clear c23
                      have H' := Aside0.mk H
                      clear H
                      have p473 : 0 ≤ (1 : Int) := (by omega)
                      have q473 : 1 < (l0.length : Int) := of_decide_eq_true (by first | (with_reducible assumption) | assumption)
                      obtain ⟨ad473, e473, hx473_0⟩ := Kd.at_string HR0.out 1 p473 q473
                      cases e473
                      (try simp only [show (1 : Int).toNat = 1 from rfl, Nat.reduceMul, Nat.reduceEqDiff, Go.Addr.add, ↓reduceIte] at hx473_0)
                      have qi473 : (1 < l0.length) = True := eq_true (by omega)
                      (try rw [show ((1 : Int)).toNat = 1 from rfl] at hx473_0)
                      replace hx473_0 := (HB.out.cell (World.block_lt_of_cell? w _ hx473_0)).trans hx473_0
                      replace p473 := eq_true p473
                      replace q473 := eq_true q473
                      go_wp2_with (first | ((with_reducible refine gate_callee (f := 40) rfl ?_); refine goesL_ (some 33) rfl rfl Try.func40 (by kernel_rfl) rfl #[.string (rdOf ByteArray.empty l0 1), .int .i64 x26_2] rfl (by (try simp only [List.map_toArray, List.map_cons, List.map_nil]); first | done | rfl | (simp only [List.length_drop, List.length_take]; rfl)) ?_; (with_reducible refine (alloc_bit.calls (rdOf ByteArray.empty l0 1) x26_2 true _ A19.out).mono ?_); rintro e w' ⟨rfl, ⟨nd, rfl⟩⟩; refine ⟨_, rfl, ?_⟩) | ((with_reducible refine gate_callee (f := 34) rfl ?_); refine goesL_ (some 36) rfl rfl Try.func34 (by kernel_rfl) rfl #[.int .i64 (l0.length : Int)] rfl (by (try simp only [List.map_toArray, List.map_cons, List.map_nil]); first | done | rfl | (simp only [List.length_drop, List.length_take]; rfl)) ?_; (with_reducible refine (alloc_first.calls (l0.length : Int) t475 _ A20.out).mono ?_); rintro e w25 ⟨rfl, hb⟩; refine ⟨_, rfl, ?_⟩; have n0_ := Aside0.mk (below_step (by repeat (first | (with_reducible first | exact HB.out | apply below_alloc | apply pw_below_drewN | apply below_drew1) | exact HB.out)) hb); clear HB; have HB := n0_; clear n0_; (try clear hb); (try clear hb2); (try clear hk); (try clear hi)))
                      go_roundg k2
                      case measure => have := HJ1.out; have := HK2.out; omega
                      case rel => exact ⟨(wrap64 (x26_2 + 1)), (by first | rfl | (simp; done) | (simp [*]; done)), H', ⟨by have := HJ1.out; have := HK2.out; omega⟩, ⟨by repeat (first | (with_reducible first | exact HB.out | apply below_alloc | apply pw_below_drewN | apply below_drew1) | exact HB.out)⟩⟩
                  · replace c22 := Bool.eq_false_iff.mpr c22
                    subst c22
                    have H1 : (some false) = some r := by rw [if_neg (show ¬ (false = true) by decide)] at H; exact H
                    clear H
                    have H := H1
                    clear H1
                    obtain rfl := Option.some.inj H
                    have p473 : 0 ≤ (1 : Int) := (by omega)
                    have q473 : 1 < (l0.length : Int) := of_decide_eq_true (by first | (with_reducible assumption) | assumption)
                    obtain ⟨ad473, e473, hx473_0⟩ := Kd.at_string HR0.out 1 p473 q473
                    cases e473
                    (try simp only [show (1 : Int).toNat = 1 from rfl, Nat.reduceMul, Nat.reduceEqDiff, Go.Addr.add, ↓reduceIte] at hx473_0)
                    have qi473 : (1 < l0.length) = True := eq_true (by omega)
                    (try rw [show ((1 : Int)).toNat = 1 from rfl] at hx473_0)
                    replace hx473_0 := (HB.out.cell (World.block_lt_of_cell? w _ hx473_0)).trans hx473_0
                    replace p473 := eq_true p473
                    replace q473 := eq_true q473
                    go_wp2_with (first | ((with_reducible refine gate_callee (f := 40) rfl ?_); refine goesL_ (some 33) rfl rfl Try.func40 (by kernel_rfl) rfl #[.string (rdOf ByteArray.empty l0 1), .int .i64 x26_2] rfl (by (try simp only [List.map_toArray, List.map_cons, List.map_nil]); first | done | rfl | (simp only [List.length_drop, List.length_take]; rfl)) ?_; (with_reducible refine (alloc_bit.calls (rdOf ByteArray.empty l0 1) x26_2 false _ A19.out).mono ?_); rintro e w' ⟨rfl, ⟨nd, rfl⟩⟩; refine ⟨_, rfl, ?_⟩) | ((with_reducible refine gate_callee (f := 34) rfl ?_); refine goesL_ (some 36) rfl rfl Try.func34 (by kernel_rfl) rfl #[.int .i64 (l0.length : Int)] rfl (by (try simp only [List.map_toArray, List.map_cons, List.map_nil]); first | done | rfl | (simp only [List.length_drop, List.length_take]; rfl)) ?_; (with_reducible refine (alloc_first.calls (l0.length : Int) t475 _ A20.out).mono ?_); rintro e w26 ⟨rfl, hb⟩; refine ⟨_, rfl, ?_⟩; have n0_ := Aside0.mk (below_step (by repeat (first | (with_reducible first | exact HB.out | apply below_alloc | apply pw_below_drewN | apply below_drew1) | exact HB.out)) hb); clear HB; have HB := n0_; clear n0_; (try clear hb); (try clear hb2); (try clear hk); (try clear hi)))
                    go_ret
                    exact ⟨by first | rfl | (simp [errW_none, errW_some] <;> rfl) | (simp [*, errW_none, errW_some] <;> rfl), by repeat (first | (with_reducible first | exact HB.out | apply below_alloc | apply pw_below_drewN | apply below_drew1) | exact HB.out)⟩
                · rw [if_neg c21] at H
                  have c21b0 : decide (x26_2 < t475) = false := decide_eq_false c21
                  clear c21
                  by_cases c27 : x26_2 ≥ (l0.length : Int)
                  · rw [if_pos c27] at H
                    have c27b0 : decide ((l0.length : Int) ≤ x26_2) = true := decide_eq_true c27
                    clear c27
                    by_cases c28 : t474 = true
                    · subst c28
                      have H1 : (some false) = some r := by rw [if_pos rfl] at H; exact H
                      clear H
                      have H := H1
                      clear H1
                      obtain rfl := Option.some.inj H
                      have p473 : 0 ≤ (1 : Int) := (by omega)
                      have q473 : 1 < (l0.length : Int) := of_decide_eq_true (by first | (with_reducible assumption) | assumption)
                      obtain ⟨ad473, e473, hx473_0⟩ := Kd.at_string HR0.out 1 p473 q473
                      cases e473
                      (try simp only [show (1 : Int).toNat = 1 from rfl, Nat.reduceMul, Nat.reduceEqDiff, Go.Addr.add, ↓reduceIte] at hx473_0)
                      have qi473 : (1 < l0.length) = True := eq_true (by omega)
                      (try rw [show ((1 : Int)).toNat = 1 from rfl] at hx473_0)
                      replace hx473_0 := (HB.out.cell (World.block_lt_of_cell? w _ hx473_0)).trans hx473_0
                      replace p473 := eq_true p473
                      replace q473 := eq_true q473
                      go_wp2_with (first | ((with_reducible refine gate_callee (f := 40) rfl ?_); refine goesL_ (some 33) rfl rfl Try.func40 (by kernel_rfl) rfl #[.string (rdOf ByteArray.empty l0 1), .int .i64 x26_2] rfl (by (try simp only [List.map_toArray, List.map_cons, List.map_nil]); first | done | rfl | (simp only [List.length_drop, List.length_take]; rfl)) ?_; (with_reducible refine (alloc_bit.calls (rdOf ByteArray.empty l0 1) x26_2 true _ A19.out).mono ?_); rintro e w' ⟨rfl, ⟨nd, rfl⟩⟩; refine ⟨_, rfl, ?_⟩) | ((with_reducible refine gate_callee (f := 34) rfl ?_); refine goesL_ (some 36) rfl rfl Try.func34 (by kernel_rfl) rfl #[.int .i64 (l0.length : Int)] rfl (by (try simp only [List.map_toArray, List.map_cons, List.map_nil]); first | done | rfl | (simp only [List.length_drop, List.length_take]; rfl)) ?_; (with_reducible refine (alloc_first.calls (l0.length : Int) t475 _ A20.out).mono ?_); rintro e w29 ⟨rfl, hb⟩; refine ⟨_, rfl, ?_⟩; have n0_ := Aside0.mk (below_step (by repeat (first | (with_reducible first | exact HB.out | apply below_alloc | apply pw_below_drewN | apply below_drew1) | exact HB.out)) hb); clear HB; have HB := n0_; clear n0_; (try clear hb); (try clear hb2); (try clear hk); (try clear hi)))
                      go_ret
                      exact ⟨by first | rfl | (simp [errW_none, errW_some] <;> rfl) | (simp [*, errW_none, errW_some] <;> rfl), by repeat (first | (with_reducible first | exact HB.out | apply below_alloc | apply pw_below_drewN | apply below_drew1) | exact HB.out)⟩
                    · replace c28 := Bool.eq_false_iff.mpr c28
                      subst c28
                      have H1 : (alloc_Fit.l0 k2 l0 (l0.length : Int) (wrap64 (x26_2 + 1))) = some r := by rw [if_neg (show ¬ (false = true) by decide)] at H; exact H
                      clear H
                      have H := H1
                      clear H1
                      have H' := Aside0.mk H
                      clear H
                      have p473 : 0 ≤ (1 : Int) := (by omega)
                      have q473 : 1 < (l0.length : Int) := of_decide_eq_true (by first | (with_reducible assumption) | assumption)
                      obtain ⟨ad473, e473, hx473_0⟩ := Kd.at_string HR0.out 1 p473 q473
                      cases e473
                      (try simp only [show (1 : Int).toNat = 1 from rfl, Nat.reduceMul, Nat.reduceEqDiff, Go.Addr.add, ↓reduceIte] at hx473_0)
                      have qi473 : (1 < l0.length) = True := eq_true (by omega)
                      (try rw [show ((1 : Int)).toNat = 1 from rfl] at hx473_0)
                      replace hx473_0 := (HB.out.cell (World.block_lt_of_cell? w _ hx473_0)).trans hx473_0
                      replace p473 := eq_true p473
                      replace q473 := eq_true q473
                      go_wp2_with (first | ((with_reducible refine gate_callee (f := 40) rfl ?_); refine goesL_ (some 33) rfl rfl Try.func40 (by kernel_rfl) rfl #[.string (rdOf ByteArray.empty l0 1), .int .i64 x26_2] rfl (by (try simp only [List.map_toArray, List.map_cons, List.map_nil]); first | done | rfl | (simp only [List.length_drop, List.length_take]; rfl)) ?_; (with_reducible refine (alloc_bit.calls (rdOf ByteArray.empty l0 1) x26_2 false _ A19.out).mono ?_); rintro e w' ⟨rfl, ⟨nd, rfl⟩⟩; refine ⟨_, rfl, ?_⟩) | ((with_reducible refine gate_callee (f := 34) rfl ?_); refine goesL_ (some 36) rfl rfl Try.func34 (by kernel_rfl) rfl #[.int .i64 (l0.length : Int)] rfl (by (try simp only [List.map_toArray, List.map_cons, List.map_nil]); first | done | rfl | (simp only [List.length_drop, List.length_take]; rfl)) ?_; (with_reducible refine (alloc_first.calls (l0.length : Int) t475 _ A20.out).mono ?_); rintro e w30 ⟨rfl, hb⟩; refine ⟨_, rfl, ?_⟩; have n0_ := Aside0.mk (below_step (by repeat (first | (with_reducible first | exact HB.out | apply below_alloc | apply pw_below_drewN | apply below_drew1) | exact HB.out)) hb); clear HB; have HB := n0_; clear n0_; (try clear hb); (try clear hb2); (try clear hk); (try clear hi)))
                      go_roundg k2
                      case measure => have := HJ1.out; have := HK2.out; omega
                      case rel => exact ⟨(wrap64 (x26_2 + 1)), (by first | rfl | (simp; done) | (simp [*]; done)), H', ⟨by have := HJ1.out; have := HK2.out; omega⟩, ⟨by repeat (first | (with_reducible first | exact HB.out | apply below_alloc | apply pw_below_drewN | apply below_drew1) | exact HB.out)⟩⟩
                  · rw [if_neg c27] at H
                    have c27b0 : decide ((l0.length : Int) ≤ x26_2) = false := decide_eq_false c27
                    clear c27
                    have H' := Aside0.mk H
                    clear H
                    have p473 : 0 ≤ (1 : Int) := (by omega)
                    have q473 : 1 < (l0.length : Int) := of_decide_eq_true (by first | (with_reducible assumption) | assumption)
                    obtain ⟨ad473, e473, hx473_0⟩ := Kd.at_string HR0.out 1 p473 q473
                    cases e473
                    (try simp only [show (1 : Int).toNat = 1 from rfl, Nat.reduceMul, Nat.reduceEqDiff, Go.Addr.add, ↓reduceIte] at hx473_0)
                    have qi473 : (1 < l0.length) = True := eq_true (by omega)
                    (try rw [show ((1 : Int)).toNat = 1 from rfl] at hx473_0)
                    replace hx473_0 := (HB.out.cell (World.block_lt_of_cell? w _ hx473_0)).trans hx473_0
                    replace p473 := eq_true p473
                    replace q473 := eq_true q473
                    go_wp2_with (first | ((with_reducible refine gate_callee (f := 40) rfl ?_); refine goesL_ (some 33) rfl rfl Try.func40 (by kernel_rfl) rfl #[.string (rdOf ByteArray.empty l0 1), .int .i64 x26_2] rfl (by (try simp only [List.map_toArray, List.map_cons, List.map_nil]); first | done | rfl | (simp only [List.length_drop, List.length_take]; rfl)) ?_; (with_reducible refine (alloc_bit.calls (rdOf ByteArray.empty l0 1) x26_2 t474 _ A19.out).mono ?_); rintro e w' ⟨rfl, ⟨nd, rfl⟩⟩; refine ⟨_, rfl, ?_⟩) | ((with_reducible refine gate_callee (f := 34) rfl ?_); refine goesL_ (some 36) rfl rfl Try.func34 (by kernel_rfl) rfl #[.int .i64 (l0.length : Int)] rfl (by (try simp only [List.map_toArray, List.map_cons, List.map_nil]); first | done | rfl | (simp only [List.length_drop, List.length_take]; rfl)) ?_; (with_reducible refine (alloc_first.calls (l0.length : Int) t475 _ A20.out).mono ?_); rintro e w31 ⟨rfl, hb⟩; refine ⟨_, rfl, ?_⟩; have n0_ := Aside0.mk (below_step (by repeat (first | (with_reducible first | exact HB.out | apply below_alloc | apply pw_below_drewN | apply below_drew1) | exact HB.out)) hb); clear HB; have HB := n0_; clear n0_; (try clear hb); (try clear hb2); (try clear hk); (try clear hi)))
                    go_roundg k2
                    case measure => have := HJ1.out; have := HK2.out; omega
                    case rel => exact ⟨(wrap64 (x26_2 + 1)), (by first | rfl | (simp; done) | (simp [*]; done)), H', ⟨by have := HJ1.out; have := HK2.out; omega⟩, ⟨by repeat (first | (with_reducible first | exact HB.out | apply below_alloc | apply pw_below_drewN | apply below_drew1) | exact HB.out)⟩⟩
              · rw [if_neg c18] at H
                exact absurd H (by simp)
            · rw [if_neg c17] at H
              have c17b0 : decide (x26_2 < 1024) = false := decide_eq_false c17
              clear c17
              obtain rfl := Option.some.inj H
              go_wp2
              go_ret
              exact ⟨by first | rfl | (simp [errW_none, errW_some] <;> rfl) | (simp [*, errW_none, errW_some] <;> rfl), by repeat (first | (with_reducible first | exact HB.out | apply below_alloc | apply pw_below_drewN | apply below_drew1) | exact HB.out)⟩

end Go.Proofs.Ytihnifpcpokpjaa.PD
/- Which images can be: the program's answer and the document's are one. -/
namespace Go.Proofs.Ytihnifpcpokpjaa.PD
open Go.RowKit Go.Proofs.YtihnifpcpokpjaaW.PrintWords Go.Proofs.YtihnifpcpokpjaaW.PrintLast Go.Proofs.YtihnifpcpokpjaaW.PrintMore
set_option linter.unusedVariables false
set_option linter.unusedSimpArgs false
/-- Is the bit what it has to be? -/
def okBit (n : Nat) (m : ByteArray) (j : Nat) : Bool := (!decide (j < firstN n) || bitB m j) && (!decide (n ≤ j) || !bitB m j)
def bitsFrom (n : Nat) (m : ByteArray) (b : Nat) : Bool := (List.range' b (1024 - b)).all (okBit n m)
def fitB (im : List ByteArray) : Bool := decide (8 ≤ im.length) && (decide (im.length ≤ 512) && (im.all (fun s => decide (s.size = 128)) && ((im.getD 0 ByteArray.empty).toList == (superB im.length).toList && bitsFrom im.length (mapOf im) 0)))
theorem bitsFrom_succ (n : Nat) (m : ByteArray) (b : Nat) (hb : b < 1024) : bitsFrom n m b = (okBit n m b && bitsFrom n m (b + 1)) := by
  unfold bitsFrom
  rw [show 1024 - b = (1024 - (b + 1)) + 1 by omega, List.range'_succ, List.all_cons]
theorem idx8 (b : Nat) (hb : b < 1024) : wrap64 (Int.tdiv (b : Int) 8) = ((b / 8 : Nat) : Int) ∧ Int.tmod (b : Int) 8 = ((b % 8 : Nat) : Int) :=
  ⟨by rw [Int.tdiv_eq_ediv_of_nonneg (by omega), w64 (by omega) (by omega)]; omega, by rw [Int.tmod_eq_emod_of_nonneg (by omega)]; omega⟩
theorem rfit_l1 (im : List ByteArray) (h1 : 8 ≤ im.length) (h2 : im.length ≤ 512) (hm : (mapOf im).size = 128) : ∀ (d k b : Nat), 1024 - b = d → b ≤ 1024 → d + 1 ≤ k → almanacref04_Fit.l1 k im (b : Int) = some (bitsFrom im.length (mapOf im) b) := by
  intro d
  induction d with
  | zero =>
    intro k b hd hb hk
    obtain ⟨k, rfl⟩ : ∃ q, k = q + 1 := ⟨k - 1, by omega⟩
    rw [almanacref04_Fit.l1, if_neg (by omega)]
    have e : b = 1024 := by omega
    subst e
    rfl
  | succ d ih =>
    intro k b hd hb hk
    obtain ⟨k, rfl⟩ : ∃ q, k = q + 1 := ⟨k - 1, by omega⟩
    obtain ⟨e1, e2⟩ := idx8 b (by omega)
    have hbit : (Int.tmod (shr .u8 (bt (mapOf im) ((b / 8 : Nat) : Int)) ((b % 8 : Nat) : Int)) 2 = 1) ↔ bitB (mapOf im) b = true := by
      rw [bt_byteN, ← beq_iff_eq, bit_mod2 _ _ (byteN_lt _ _) (by omega)]
      rfl
    rw [almanacref04_Fit.l1, if_pos (by omega), if_pos (by omega), show rdOf ByteArray.empty im 1 = mapOf im from rfl, e1, e2, if_pos (by omega), if_pos (by rw [hm]; omega), if_pos (by omega), rfirst_val im (by omega), Option.bind_some, w64s b (by omega), ih k (b + 1) (by omega) (by omega) (by omega), bitsFrom_succ _ _ b (by omega)]
    simp only [hbit]
    unfold okBit
    by_cases c1 : b < firstN im.length
    · rw [if_pos (by omega)]
      by_cases c2 : bitB (mapOf im) b = true
      · rw [if_pos c2]
        by_cases c3 : im.length ≤ b
        · rw [if_pos (by omega)]; simp [c2, c3]
        · rw [if_neg (by omega)]; simp [c2, c3]
      · rw [if_neg c2]
        simp [c1, c2]
    · rw [if_neg (by omega)]
      by_cases c3 : im.length ≤ b
      · rw [if_pos (by omega)]
        by_cases c2 : bitB (mapOf im) b = true
        · rw [if_pos c2]; simp [c2, c3]
        · rw [if_neg c2]; simp [c1, c2]
      · rw [if_neg (by omega)]; simp [c1, c3]
theorem all_drop (p : ByteArray → Bool) (im : List ByteArray) (i : Nat) (hi : i < im.length) : (im.drop i).all p = (p im[i] && (im.drop (i + 1)).all p) := by rw [List.drop_eq_getElem_cons hi, List.all_cons]
theorem map_all (im : List ByteArray) (h1 : 8 ≤ im.length) (h : im.all (fun s => decide (s.size = 128)) = true) : (mapOf im).size = 128 := by
  rw [List.all_eq_true] at h
  have := h im[1] (List.getElem_mem (by omega))
  unfold mapOf
  rw [List.getD_eq_getElem?_getD, List.getElem?_eq_getElem (by omega)]
  simpa using this
theorem rfit_l0 (im : List ByteArray) (h1 : 8 ≤ im.length) (h2 : im.length ≤ 512) : ∀ (d k i : Nat), im.length - i = d → i ≤ im.length → d + 1026 ≤ k → (∀ j (hj : j < im.length), j < i → im[j].size = 128) →
    almanacref04_Fit.l0 k im (i : Int) = some ((im.drop i).all (fun s => decide (s.size = 128)) && ((im.getD 0 ByteArray.empty).toList == (superB im.length).toList && bitsFrom im.length (mapOf im) 0)) := by
  intro d
  induction d with
  | zero =>
    intro k i hd hi hk hall
    obtain ⟨k, rfl⟩ : ∃ q, k = q + 1 := ⟨k - 1, by omega⟩
    have hm : (mapOf im).size = 128 := map_all im h1 (by rw [List.all_eq_true]; intro x hx; obtain ⟨j, hj, rfl⟩ := List.getElem_of_mem hx; simpa using hall j hj (by omega))
    rw [almanacref04_Fit.l0, if_neg (by omega), if_pos (by omega)]
    have hs : almanacref04_super.f (im.length : Int) = some (superB im.length) := by unfold almanacref04_super.f; rw [if_pos (by omega)]; rfl
    rw [hs, Option.bind_some, List.drop_of_length_le (by omega)]
    have hr : rdOf ByteArray.empty im 0 = im.getD 0 ByteArray.empty := rfl
    rw [hr]
    clear hr
    generalize im.getD 0 ByteArray.empty = x0
    by_cases c : x0.toList = (superB im.length).toList
    · rw [if_pos c]
      have hz := rfit_l1 im h1 h2 hm 1024 k 0 rfl (by omega) (by omega)
      rw [show ((0 : Nat) : Int) = 0 from rfl] at hz
      rw [hz]
      simp [c]
    · rw [if_neg c]
      simp [c]
  | succ d ih =>
    intro k i hd hi hk hall
    obtain ⟨k, rfl⟩ : ∃ q, k = q + 1 := ⟨k - 1, by omega⟩
    have hil : i < im.length := by omega
    have hr : rdOf ByteArray.empty im (i : Int) = im[i] := by simp [rdOf, hil]
    rw [almanacref04_Fit.l0, if_pos (by omega), if_pos (by omega), hr, all_drop _ im i hil]
    by_cases c : im[i].size = 128
    · rw [if_pos (by omega), w64s i (by omega), ih k (i + 1) (by omega) hil (by omega) (fun j hj hji => by
        rcases Nat.lt_or_ge j i with h | h
        · exact hall j hj h
        · obtain rfl : j = i := by omega
          exact c)]
      simp [c]
    · rw [if_neg (by omega)]
      simp [c]
theorem rfit_val (k : Nat) (im : List ByteArray) (hk : 2000 ≤ k) : almanacref04_Fit.f k im = some (fitB im) := by
  obtain ⟨k, rfl⟩ : ∃ q, k = q + 1 := ⟨k - 1, by omega⟩
  unfold almanacref04_Fit.f fitB
  by_cases h1 : 8 ≤ im.length
  · rw [if_neg (by omega), almanacref04_Fit.j0]
    by_cases h2 : im.length ≤ 512
    · rw [if_neg (by simp; omega)]
      have := rfit_l0 im h1 h2 im.length k 0 rfl (Nat.zero_le _) (by omega) (fun j _ hj => absurd hj (Nat.not_lt_zero _))
      rw [show ((0 : Nat) : Int) = 0 from rfl] at this
      rw [this]
      simp [h1, h2]
    · rw [if_pos (by simp; omega)]
      simp [h2]
  · rw [if_pos (by omega), almanacref04_Fit.j0, if_pos rfl]
    simp [h1]
theorem afit_l0 (im : List ByteArray) (h1 : 8 ≤ im.length) (h2 : im.length ≤ 512) (hm : (mapOf im).size = 128) : ∀ (d k b : Nat), 1024 - b = d → b ≤ 1024 → d + 1 ≤ k → alloc_Fit.l0 k im (im.length : Int) (b : Int) = some (bitsFrom im.length (mapOf im) b) := by
  intro d
  induction d with
  | zero =>
    intro k b hd hb hk
    obtain ⟨k, rfl⟩ : ∃ q, k = q + 1 := ⟨k - 1, by omega⟩
    rw [alloc_Fit.l0, if_neg (by omega)]
    have e : b = 1024 := by omega
    subst e
    rfl
  | succ d ih =>
    intro k b hd hb hk
    obtain ⟨k, rfl⟩ : ∃ q, k = q + 1 := ⟨k - 1, by omega⟩
    obtain ⟨e1, e2⟩ := idx8 b (by omega)
    have hbit : alloc_bit.f (mapOf im) (b : Int) = some (bitB (mapOf im) b) := by
      unfold alloc_bit.f
      rw [e1, e2, if_pos (by omega), if_pos (by rw [hm]; omega), if_pos (by omega), bt_byteN, bit_and1 _ _ (byteN_lt _ _) (by omega)]
      rfl
    rw [alloc_Fit.l0, if_pos (by omega), if_pos (by omega), show rdOf ByteArray.empty im 1 = mapOf im from rfl, hbit, Option.bind_some, first_val _ (by omega), Option.bind_some, w64s b (by omega), ih k (b + 1) (by omega) (by omega) (by omega), bitsFrom_succ _ _ b (by omega)]
    unfold okBit
    by_cases c1 : b < firstN im.length
    · rw [if_pos (by omega)]
      by_cases c2 : bitB (mapOf im) b = true
      · rw [if_pos c2]
        by_cases c3 : im.length ≤ b
        · have := (firstN_le h1).2
          omega
        · rw [if_neg (by omega)]; simp [c2, c3]
      · rw [if_neg c2]
        simp [c1, c2]
    · rw [if_neg (by omega)]
      by_cases c3 : im.length ≤ b
      · rw [if_pos (by omega)]
        by_cases c2 : bitB (mapOf im) b = true
        · rw [if_pos c2]; simp [c2, c3]
        · rw [if_neg c2]; simp [c1, c2]
      · rw [if_neg (by omega)]; simp [c1, c3]
theorem any_all (im : List ByteArray) : im.any (fun s => decide (s.size ≠ 128)) = !im.all (fun s => decide (s.size = 128)) := by
  induction im with
  | nil => rfl
  | cons x im ih => rw [List.any_cons, List.all_cons, ih]; by_cases h : x.size = 128 <;> simp [h]
theorem afit_val (k : Nat) (im : List ByteArray) (hk : 2000 ≤ k) : alloc_Fit.f k im = some (fitB im) := by
  obtain ⟨k, rfl⟩ : ∃ q, k = q + 1 := ⟨k - 1, by omega⟩
  unfold alloc_Fit.f fitB
  by_cases h1 : 8 ≤ im.length
  · rw [if_neg (by omega)]
    by_cases h2 : im.length ≤ 512
    · rw [if_neg (by omega)]
      unfold slices_ContainsFunc_string_string.f
      rw [Option.bind_some, any_all]
      by_cases h3 : im.all (fun s => decide (s.size = 128)) = true
      · rw [h3, if_neg (by simp), if_pos (by omega)]
        have hs : alloc_super.f (im.length : Int) = some (superB im.length) := by unfold alloc_super.f; rw [if_pos (by omega)]; rfl
        rw [hs, Option.bind_some, alloc_Fit.j0]
        have hr : rdOf ByteArray.empty im 0 = im.getD 0 ByteArray.empty := rfl
        rw [hr]
        clear hr
        generalize im.getD 0 ByteArray.empty = x0
        by_cases c : x0.toList = (superB im.length).toList
        · rw [if_neg (by simp [c])]
          have := afit_l0 im h1 h2 (map_all im h1 h3) 1024 k 0 rfl (by omega) (by omega)
          rw [show ((0 : Nat) : Int) = 0 from rfl] at this
          rw [this]
          simp [h1, h2, c]
        · rw [if_pos (by simp [c])]
          simp [c]
      · have h3' : im.all (fun s => decide (s.size = 128)) = false := by simpa using h3
        rw [h3', if_pos (by simp), alloc_Fit.j0, if_pos rfl]
        simp
    · rw [if_pos (by omega), alloc_Fit.j0, if_pos rfl]
      simp [h2]
  · rw [if_pos (by omega), alloc_Fit.j0, if_pos rfl]
    simp [h1]
theorem fitB_fitI (im : List ByteArray) (h : fitB im = true) : fitI im := by
  unfold fitB at h
  simp only [Bool.and_eq_true, decide_eq_true_eq] at h
  exact ⟨h.1, h.2.1, map_all im h.1 h.2.2.1⟩
end Go.Proofs.Ytihnifpcpokpjaa.PD
-- written by a program of this work (mk.sh, over the kit's print; stubs are proved by hand)
namespace Go.Proofs.Ytihnifpcpokpjaa.PD
open Go.RowKit Go.Proofs.YtihnifpcpokpjaaW.PrintWords Go.Proofs.YtihnifpcpokpjaaW.PrintLast Go.Proofs.YtihnifpcpokpjaaW.PrintMore
attribute [local go_sem] isSome_setCell max2_int min2_int max_two min_two max_three min_three max_four min_four   -- for this text's walks alone
set_option linter.unusedVariables false
set_option linter.unusedSimpArgs false

/-! ### almanaclaw04_AllocTells: function 3 -/
def almanaclaw04_AllocTells.f (k : Nat) (l0 : List ByteArray) (a1 : Int) (l2 : List Int) (a3 : Int) : Option (Bool) := (almanacref04_Fit.f k l0).bind fun t413 => (if t413 = true then ((almanacref04_Own.f l0).bind fun t415 => ((alloc_Take.f t415 a1).bind fun bt418 => ((almanacref04_Take.f k l0 a1).bind fun bt425 => ((alloc_Give.f t415 l2).bind fun bt432 => ((almanacref04_Give.f k l0 l2).bind fun bt436 => ((almanacref03_Texts.f k bt418.1 bt425.1).bind fun t440 => (if t440 = true then ((almanacref03_Ints.f k bt418.2.1 bt425.2.1).bind fun t441 => (if t441 = true then (if bt418.2.2 = bt425.2.2 then ((almanacref03_Texts.f k bt432.1 bt436.1).bind fun t442 => (if t442 = true then (if bt432.2 = bt436.2 then ((alloc_Taken.f t415 a3).bind fun t443 => ((almanacref04_Taken.f l0 a3).bind fun t444 => (if (t443 == t444) = true then ((alloc_Free.f t415).bind fun t445 => ((almanacref04_Free.f k l0).bind fun t446 => (if t445 = t446 then ((alloc_First.f t415).bind fun t447 => ((almanacref04_First.f l0).bind fun t448 => (if t447 = t448 then ((alloc_Inodes.f t415).bind fun t449 => ((almanacref04_Inodes.f l0).bind fun t450 => (if t449 = t450 then ((almanacref03_Texts.f k t415 l0).bind fun t451 => (if t451 = true then ((almanaclaw04_awake.f k).bind fun t452 => (some t452)) else (some false))) else (some false)))) else (some false)))) else (some false)))) else (some false)))) else (some false)) else (some false))) else (some false)) else (some false))) else (some false)))))))) else ((almanaclaw04_awake.f k).bind fun t414 => (some t414)))
theorem almanaclaw04_AllocTells.mono : ∀ a0 a1 a2 a3 k, LeO (almanaclaw04_AllocTells.f k a0 a1 a2 a3) (almanaclaw04_AllocTells.f (k + 1) a0 a1 a2 a3) := by
  intro a0 a1 a2 a3 k
  unfold almanaclaw04_AllocTells.f
  repeat' first
      | (with_reducible exact almanaclaw04_awake.mono _)
      | (with_reducible exact almanacref03_Ints.mono _ _ _)
      | (with_reducible exact almanacref03_Texts.mono _ _ _)
      | (with_reducible exact almanacref04_Fit.mono _ _)
      | (with_reducible exact almanacref04_Free.mono _ _)
      | (with_reducible exact almanacref04_Give.mono _ _ _)
      | (with_reducible exact almanacref04_Take.mono _ _ _)
      | (with_reducible exact LeO.refl _)
      | (with_reducible exact LeO.none _)
      | (with_reducible refine LeO.ite ?_ ?_)
      | (with_reducible refine LeO.bind ?_ (fun _ => ?_))
      | exact almanaclaw04_awake.mono _
      | exact almanacref03_Ints.mono _ _ _
      | exact almanacref03_Texts.mono _ _ _
      | exact almanacref04_Fit.mono _ _
      | exact almanacref04_Free.mono _ _
      | exact almanacref04_Give.mono _ _ _
      | exact almanacref04_Take.mono _ _ _
      | exact LeO.none _
      | refine LeO.ite ?_ ?_
      | refine LeO.bind ?_ (fun _ => ?_)
set_option maxHeartbeats 8000000 in
set_option maxRecDepth 100000 in
theorem almanaclaw04_AllocTells.callsT (k : Nat) (A0 : Option Addr) (c0 : Nat) (l0 : List ByteArray) (a1 : Int) (A2 : Option Addr) (c2 : Nat) (l2 : List Int) (a3 : Int) (r : Bool) (w : World) (hr0 : Kd.C Kd.string w A0 l0.length l0) (hc0 : l0.length ≤ c0) (hr2 : Kd.C (Kd.int .i64) w A2 l2.length l2) (hc2 : l2.length ≤ c2) (h : almanaclaw04_AllocTells.f k l0 a1 l2 a3 = some r) (hr : r = true) :
    Calls Try.prog 3 #[.slice A0 l0.length c0, .int .i64 a1, .slice A2 l2.length c2, .int .i64 a3] w fun e w' => e = .returned (.bool r) ∧ Below w.heap.size w w' := by
  have HRT := Aside0.mk hr
  clear hr
  have HR0 := Aside0.mk hr0
  have HC0 := Aside0.mk hc0
  clear hr0 hc0
  have HR2 := Aside0.mk hr2
  have HC2 := Aside0.mk hc2
  clear hr2 hc2
  have HB := Aside0.mk (Below.refl w.heap.size w)
  have H : ((almanacref04_Fit.f k l0).bind fun t413 => (if t413 = true then ((almanacref04_Own.f l0).bind fun t415 => ((alloc_Take.f t415 a1).bind fun bt418 => ((almanacref04_Take.f k l0 a1).bind fun bt425 => ((alloc_Give.f t415 l2).bind fun bt432 => ((almanacref04_Give.f k l0 l2).bind fun bt436 => ((almanacref03_Texts.f k bt418.1 bt425.1).bind fun t440 => (if t440 = true then ((almanacref03_Ints.f k bt418.2.1 bt425.2.1).bind fun t441 => (if t441 = true then (if bt418.2.2 = bt425.2.2 then ((almanacref03_Texts.f k bt432.1 bt436.1).bind fun t442 => (if t442 = true then (if bt432.2 = bt436.2 then ((alloc_Taken.f t415 a3).bind fun t443 => ((almanacref04_Taken.f l0 a3).bind fun t444 => (if (t443 == t444) = true then ((alloc_Free.f t415).bind fun t445 => ((almanacref04_Free.f k l0).bind fun t446 => (if t445 = t446 then ((alloc_First.f t415).bind fun t447 => ((almanacref04_First.f l0).bind fun t448 => (if t447 = t448 then ((alloc_Inodes.f t415).bind fun t449 => ((almanacref04_Inodes.f l0).bind fun t450 => (if t449 = t450 then ((almanacref03_Texts.f k t415 l0).bind fun t451 => (if t451 = true then ((almanaclaw04_awake.f k).bind fun t452 => (some t452)) else (some false))) else (some false)))) else (some false)))) else (some false)))) else (some false)))) else (some false)) else (some false))) else (some false)) else (some false))) else (some false)))))))) else ((almanaclaw04_awake.f k).bind fun t414 => (some t414)))) = some r := h
  clear h
  replace H := Option.bind_eq_some_iff.mp H
  obtain ⟨t413, A50, H⟩ := H
  replace H : (if t413 = true then ((almanacref04_Own.f l0).bind fun t415 => ((alloc_Take.f t415 a1).bind fun bt418 => ((almanacref04_Take.f k l0 a1).bind fun bt425 => ((alloc_Give.f t415 l2).bind fun bt432 => ((almanacref04_Give.f k l0 l2).bind fun bt436 => ((almanacref03_Texts.f k bt418.1 bt425.1).bind fun t440 => (if t440 = true then ((almanacref03_Ints.f k bt418.2.1 bt425.2.1).bind fun t441 => (if t441 = true then (if bt418.2.2 = bt425.2.2 then ((almanacref03_Texts.f k bt432.1 bt436.1).bind fun t442 => (if t442 = true then (if bt432.2 = bt436.2 then ((alloc_Taken.f t415 a3).bind fun t443 => ((almanacref04_Taken.f l0 a3).bind fun t444 => (if (t443 == t444) = true then ((alloc_Free.f t415).bind fun t445 => ((almanacref04_Free.f k l0).bind fun t446 => (if t445 = t446 then ((alloc_First.f t415).bind fun t447 => ((almanacref04_First.f l0).bind fun t448 => (if t447 = t448 then ((alloc_Inodes.f t415).bind fun t449 => ((almanacref04_Inodes.f l0).bind fun t450 => (if t449 = t450 then ((almanacref03_Texts.f k t415 l0).bind fun t451 => (if t451 = true then ((almanaclaw04_awake.f k).bind fun t452 => (some t452)) else (some false))) else (some false)))) else (some false)))) else (some false)))) else (some false)))) else (some false)) else (some false))) else (some false)) else (some false))) else (some false)))))))) else ((almanaclaw04_awake.f k).bind fun t414 => (some t414))) = some r := H
  have A5 := Aside0.mk A50
  clear A50
  by_cases c6 : t413 = true
  · subst c6
    have H1 : ((almanacref04_Own.f l0).bind fun t415 => ((alloc_Take.f t415 a1).bind fun bt418 => ((almanacref04_Take.f k l0 a1).bind fun bt425 => ((alloc_Give.f t415 l2).bind fun bt432 => ((almanacref04_Give.f k l0 l2).bind fun bt436 => ((almanacref03_Texts.f k bt418.1 bt425.1).bind fun t440 => (if t440 = true then ((almanacref03_Ints.f k bt418.2.1 bt425.2.1).bind fun t441 => (if t441 = true then (if bt418.2.2 = bt425.2.2 then ((almanacref03_Texts.f k bt432.1 bt436.1).bind fun t442 => (if t442 = true then (if bt432.2 = bt436.2 then ((alloc_Taken.f t415 a3).bind fun t443 => ((almanacref04_Taken.f l0 a3).bind fun t444 => (if (t443 == t444) = true then ((alloc_Free.f t415).bind fun t445 => ((almanacref04_Free.f k l0).bind fun t446 => (if t445 = t446 then ((alloc_First.f t415).bind fun t447 => ((almanacref04_First.f l0).bind fun t448 => (if t447 = t448 then ((alloc_Inodes.f t415).bind fun t449 => ((almanacref04_Inodes.f l0).bind fun t450 => (if t449 = t450 then ((almanacref03_Texts.f k t415 l0).bind fun t451 => (if t451 = true then ((almanaclaw04_awake.f k).bind fun t452 => (some t452)) else (some false))) else (some false)))) else (some false)))) else (some false)))) else (some false)))) else (some false)) else (some false))) else (some false)) else (some false))) else (some false)))))))) = some r := by rw [if_pos rfl] at H; exact H
    clear H
    have H := H1
    clear H1
    replace H := Option.bind_eq_some_iff.mp H
    obtain ⟨t415, A70, H⟩ := H
    replace H : ((alloc_Take.f t415 a1).bind fun bt418 => ((almanacref04_Take.f k l0 a1).bind fun bt425 => ((alloc_Give.f t415 l2).bind fun bt432 => ((almanacref04_Give.f k l0 l2).bind fun bt436 => ((almanacref03_Texts.f k bt418.1 bt425.1).bind fun t440 => (if t440 = true then ((almanacref03_Ints.f k bt418.2.1 bt425.2.1).bind fun t441 => (if t441 = true then (if bt418.2.2 = bt425.2.2 then ((almanacref03_Texts.f k bt432.1 bt436.1).bind fun t442 => (if t442 = true then (if bt432.2 = bt436.2 then ((alloc_Taken.f t415 a3).bind fun t443 => ((almanacref04_Taken.f l0 a3).bind fun t444 => (if (t443 == t444) = true then ((alloc_Free.f t415).bind fun t445 => ((almanacref04_Free.f k l0).bind fun t446 => (if t445 = t446 then ((alloc_First.f t415).bind fun t447 => ((almanacref04_First.f l0).bind fun t448 => (if t447 = t448 then ((alloc_Inodes.f t415).bind fun t449 => ((almanacref04_Inodes.f l0).bind fun t450 => (if t449 = t450 then ((almanacref03_Texts.f k t415 l0).bind fun t451 => (if t451 = true then ((almanaclaw04_awake.f k).bind fun t452 => (some t452)) else (some false))) else (some false)))) else (some false)))) else (some false)))) else (some false)))) else (some false)) else (some false))) else (some false)) else (some false))) else (some false))))))) = some r := H
    have A7 := Aside0.mk A70
    clear A70
    replace H := Option.bind_eq_some_iff.mp H
    obtain ⟨⟨t418, t419, t420⟩, A80, H⟩ := H
    replace H : ((almanacref04_Take.f k l0 a1).bind fun bt425 => ((alloc_Give.f t415 l2).bind fun bt432 => ((almanacref04_Give.f k l0 l2).bind fun bt436 => ((almanacref03_Texts.f k t418 bt425.1).bind fun t440 => (if t440 = true then ((almanacref03_Ints.f k t419 bt425.2.1).bind fun t441 => (if t441 = true then (if t420 = bt425.2.2 then ((almanacref03_Texts.f k bt432.1 bt436.1).bind fun t442 => (if t442 = true then (if bt432.2 = bt436.2 then ((alloc_Taken.f t415 a3).bind fun t443 => ((almanacref04_Taken.f l0 a3).bind fun t444 => (if (t443 == t444) = true then ((alloc_Free.f t415).bind fun t445 => ((almanacref04_Free.f k l0).bind fun t446 => (if t445 = t446 then ((alloc_First.f t415).bind fun t447 => ((almanacref04_First.f l0).bind fun t448 => (if t447 = t448 then ((alloc_Inodes.f t415).bind fun t449 => ((almanacref04_Inodes.f l0).bind fun t450 => (if t449 = t450 then ((almanacref03_Texts.f k t415 l0).bind fun t451 => (if t451 = true then ((almanaclaw04_awake.f k).bind fun t452 => (some t452)) else (some false))) else (some false)))) else (some false)))) else (some false)))) else (some false)))) else (some false)) else (some false))) else (some false)) else (some false))) else (some false)))))) = some r := H
    have A8 := Aside0.mk A80
    clear A80
    replace H := Option.bind_eq_some_iff.mp H
    obtain ⟨⟨t425, t426, t427⟩, A90, H⟩ := H
    replace H : ((alloc_Give.f t415 l2).bind fun bt432 => ((almanacref04_Give.f k l0 l2).bind fun bt436 => ((almanacref03_Texts.f k t418 t425).bind fun t440 => (if t440 = true then ((almanacref03_Ints.f k t419 t426).bind fun t441 => (if t441 = true then (if t420 = t427 then ((almanacref03_Texts.f k bt432.1 bt436.1).bind fun t442 => (if t442 = true then (if bt432.2 = bt436.2 then ((alloc_Taken.f t415 a3).bind fun t443 => ((almanacref04_Taken.f l0 a3).bind fun t444 => (if (t443 == t444) = true then ((alloc_Free.f t415).bind fun t445 => ((almanacref04_Free.f k l0).bind fun t446 => (if t445 = t446 then ((alloc_First.f t415).bind fun t447 => ((almanacref04_First.f l0).bind fun t448 => (if t447 = t448 then ((alloc_Inodes.f t415).bind fun t449 => ((almanacref04_Inodes.f l0).bind fun t450 => (if t449 = t450 then ((almanacref03_Texts.f k t415 l0).bind fun t451 => (if t451 = true then ((almanaclaw04_awake.f k).bind fun t452 => (some t452)) else (some false))) else (some false)))) else (some false)))) else (some false)))) else (some false)))) else (some false)) else (some false))) else (some false)) else (some false))) else (some false))))) = some r := H
    have A9 := Aside0.mk A90
    clear A90
    replace H := Option.bind_eq_some_iff.mp H
    obtain ⟨⟨t432, t433⟩, A100, H⟩ := H
    replace H : ((almanacref04_Give.f k l0 l2).bind fun bt436 => ((almanacref03_Texts.f k t418 t425).bind fun t440 => (if t440 = true then ((almanacref03_Ints.f k t419 t426).bind fun t441 => (if t441 = true then (if t420 = t427 then ((almanacref03_Texts.f k t432 bt436.1).bind fun t442 => (if t442 = true then (if t433 = bt436.2 then ((alloc_Taken.f t415 a3).bind fun t443 => ((almanacref04_Taken.f l0 a3).bind fun t444 => (if (t443 == t444) = true then ((alloc_Free.f t415).bind fun t445 => ((almanacref04_Free.f k l0).bind fun t446 => (if t445 = t446 then ((alloc_First.f t415).bind fun t447 => ((almanacref04_First.f l0).bind fun t448 => (if t447 = t448 then ((alloc_Inodes.f t415).bind fun t449 => ((almanacref04_Inodes.f l0).bind fun t450 => (if t449 = t450 then ((almanacref03_Texts.f k t415 l0).bind fun t451 => (if t451 = true then ((almanaclaw04_awake.f k).bind fun t452 => (some t452)) else (some false))) else (some false)))) else (some false)))) else (some false)))) else (some false)))) else (some false)) else (some false))) else (some false)) else (some false))) else (some false)))) = some r := H
    have A10 := Aside0.mk A100
    clear A100
    replace H := Option.bind_eq_some_iff.mp H
    obtain ⟨⟨t436, t437⟩, A110, H⟩ := H
    replace H : ((almanacref03_Texts.f k t418 t425).bind fun t440 => (if t440 = true then ((almanacref03_Ints.f k t419 t426).bind fun t441 => (if t441 = true then (if t420 = t427 then ((almanacref03_Texts.f k t432 t436).bind fun t442 => (if t442 = true then (if t433 = t437 then ((alloc_Taken.f t415 a3).bind fun t443 => ((almanacref04_Taken.f l0 a3).bind fun t444 => (if (t443 == t444) = true then ((alloc_Free.f t415).bind fun t445 => ((almanacref04_Free.f k l0).bind fun t446 => (if t445 = t446 then ((alloc_First.f t415).bind fun t447 => ((almanacref04_First.f l0).bind fun t448 => (if t447 = t448 then ((alloc_Inodes.f t415).bind fun t449 => ((almanacref04_Inodes.f l0).bind fun t450 => (if t449 = t450 then ((almanacref03_Texts.f k t415 l0).bind fun t451 => (if t451 = true then ((almanaclaw04_awake.f k).bind fun t452 => (some t452)) else (some false))) else (some false)))) else (some false)))) else (some false)))) else (some false)))) else (some false)) else (some false))) else (some false)) else (some false))) else (some false))) = some r := H
    have A11 := Aside0.mk A110
    clear A110
    replace H := Option.bind_eq_some_iff.mp H
    obtain ⟨t440, A120, H⟩ := H
    replace H : (if t440 = true then ((almanacref03_Ints.f k t419 t426).bind fun t441 => (if t441 = true then (if t420 = t427 then ((almanacref03_Texts.f k t432 t436).bind fun t442 => (if t442 = true then (if t433 = t437 then ((alloc_Taken.f t415 a3).bind fun t443 => ((almanacref04_Taken.f l0 a3).bind fun t444 => (if (t443 == t444) = true then ((alloc_Free.f t415).bind fun t445 => ((almanacref04_Free.f k l0).bind fun t446 => (if t445 = t446 then ((alloc_First.f t415).bind fun t447 => ((almanacref04_First.f l0).bind fun t448 => (if t447 = t448 then ((alloc_Inodes.f t415).bind fun t449 => ((almanacref04_Inodes.f l0).bind fun t450 => (if t449 = t450 then ((almanacref03_Texts.f k t415 l0).bind fun t451 => (if t451 = true then ((almanaclaw04_awake.f k).bind fun t452 => (some t452)) else (some false))) else (some false)))) else (some false)))) else (some false)))) else (some false)))) else (some false)) else (some false))) else (some false)) else (some false))) else (some false)) = some r := H
    have A12 := Aside0.mk A120
    clear A120
    by_cases c13 : t440 = true
    · subst c13
      have H1 : ((almanacref03_Ints.f k t419 t426).bind fun t441 => (if t441 = true then (if t420 = t427 then ((almanacref03_Texts.f k t432 t436).bind fun t442 => (if t442 = true then (if t433 = t437 then ((alloc_Taken.f t415 a3).bind fun t443 => ((almanacref04_Taken.f l0 a3).bind fun t444 => (if (t443 == t444) = true then ((alloc_Free.f t415).bind fun t445 => ((almanacref04_Free.f k l0).bind fun t446 => (if t445 = t446 then ((alloc_First.f t415).bind fun t447 => ((almanacref04_First.f l0).bind fun t448 => (if t447 = t448 then ((alloc_Inodes.f t415).bind fun t449 => ((almanacref04_Inodes.f l0).bind fun t450 => (if t449 = t450 then ((almanacref03_Texts.f k t415 l0).bind fun t451 => (if t451 = true then ((almanaclaw04_awake.f k).bind fun t452 => (some t452)) else (some false))) else (some false)))) else (some false)))) else (some false)))) else (some false)))) else (some false)) else (some false))) else (some false)) else (some false))) = some r := by rw [if_pos rfl] at H; exact H
      clear H
      have H := H1
      clear H1
      replace H := Option.bind_eq_some_iff.mp H
      obtain ⟨t441, A140, H⟩ := H
      replace H : (if t441 = true then (if t420 = t427 then ((almanacref03_Texts.f k t432 t436).bind fun t442 => (if t442 = true then (if t433 = t437 then ((alloc_Taken.f t415 a3).bind fun t443 => ((almanacref04_Taken.f l0 a3).bind fun t444 => (if (t443 == t444) = true then ((alloc_Free.f t415).bind fun t445 => ((almanacref04_Free.f k l0).bind fun t446 => (if t445 = t446 then ((alloc_First.f t415).bind fun t447 => ((almanacref04_First.f l0).bind fun t448 => (if t447 = t448 then ((alloc_Inodes.f t415).bind fun t449 => ((almanacref04_Inodes.f l0).bind fun t450 => (if t449 = t450 then ((almanacref03_Texts.f k t415 l0).bind fun t451 => (if t451 = true then ((almanaclaw04_awake.f k).bind fun t452 => (some t452)) else (some false))) else (some false)))) else (some false)))) else (some false)))) else (some false)))) else (some false)) else (some false))) else (some false)) else (some false)) = some r := H
      have A14 := Aside0.mk A140
      clear A140
      by_cases c15 : t441 = true
      · subst c15
        have H1 : (if t420 = t427 then ((almanacref03_Texts.f k t432 t436).bind fun t442 => (if t442 = true then (if t433 = t437 then ((alloc_Taken.f t415 a3).bind fun t443 => ((almanacref04_Taken.f l0 a3).bind fun t444 => (if (t443 == t444) = true then ((alloc_Free.f t415).bind fun t445 => ((almanacref04_Free.f k l0).bind fun t446 => (if t445 = t446 then ((alloc_First.f t415).bind fun t447 => ((almanacref04_First.f l0).bind fun t448 => (if t447 = t448 then ((alloc_Inodes.f t415).bind fun t449 => ((almanacref04_Inodes.f l0).bind fun t450 => (if t449 = t450 then ((almanacref03_Texts.f k t415 l0).bind fun t451 => (if t451 = true then ((almanaclaw04_awake.f k).bind fun t452 => (some t452)) else (some false))) else (some false)))) else (some false)))) else (some false)))) else (some false)))) else (some false)) else (some false))) else (some false)) = some r := by rw [if_pos rfl] at H; exact H
        clear H
        have H := H1
        clear H1
        by_cases c16 : t420 = t427
        · rw [if_pos c16] at H
          have c16b0 : (t420 == t427) = true := beq_iff_eq.mpr c16
          have c16b1 : (t420 != t427) = false := bne_eq_false_iff_eq.mpr c16
          clear c16
          replace H := Option.bind_eq_some_iff.mp H
          obtain ⟨t442, A170, H⟩ := H
          replace H : (if t442 = true then (if t433 = t437 then ((alloc_Taken.f t415 a3).bind fun t443 => ((almanacref04_Taken.f l0 a3).bind fun t444 => (if (t443 == t444) = true then ((alloc_Free.f t415).bind fun t445 => ((almanacref04_Free.f k l0).bind fun t446 => (if t445 = t446 then ((alloc_First.f t415).bind fun t447 => ((almanacref04_First.f l0).bind fun t448 => (if t447 = t448 then ((alloc_Inodes.f t415).bind fun t449 => ((almanacref04_Inodes.f l0).bind fun t450 => (if t449 = t450 then ((almanacref03_Texts.f k t415 l0).bind fun t451 => (if t451 = true then ((almanaclaw04_awake.f k).bind fun t452 => (some t452)) else (some false))) else (some false)))) else (some false)))) else (some false)))) else (some false)))) else (some false)) else (some false)) = some r := H
          have A17 := Aside0.mk A170
          clear A170
          by_cases c18 : t442 = true
          · subst c18
            have H1 : (if t433 = t437 then ((alloc_Taken.f t415 a3).bind fun t443 => ((almanacref04_Taken.f l0 a3).bind fun t444 => (if (t443 == t444) = true then ((alloc_Free.f t415).bind fun t445 => ((almanacref04_Free.f k l0).bind fun t446 => (if t445 = t446 then ((alloc_First.f t415).bind fun t447 => ((almanacref04_First.f l0).bind fun t448 => (if t447 = t448 then ((alloc_Inodes.f t415).bind fun t449 => ((almanacref04_Inodes.f l0).bind fun t450 => (if t449 = t450 then ((almanacref03_Texts.f k t415 l0).bind fun t451 => (if t451 = true then ((almanaclaw04_awake.f k).bind fun t452 => (some t452)) else (some false))) else (some false)))) else (some false)))) else (some false)))) else (some false)))) else (some false)) = some r := by rw [if_pos rfl] at H; exact H
            clear H
            have H := H1
            clear H1
            by_cases c19 : t433 = t437
            · rw [if_pos c19] at H
              have c19b0 : (t433 == t437) = true := beq_iff_eq.mpr c19
              have c19b1 : (t433 != t437) = false := bne_eq_false_iff_eq.mpr c19
              clear c19
              replace H := Option.bind_eq_some_iff.mp H
              obtain ⟨t443, A200, H⟩ := H
              replace H : ((almanacref04_Taken.f l0 a3).bind fun t444 => (if (t443 == t444) = true then ((alloc_Free.f t415).bind fun t445 => ((almanacref04_Free.f k l0).bind fun t446 => (if t445 = t446 then ((alloc_First.f t415).bind fun t447 => ((almanacref04_First.f l0).bind fun t448 => (if t447 = t448 then ((alloc_Inodes.f t415).bind fun t449 => ((almanacref04_Inodes.f l0).bind fun t450 => (if t449 = t450 then ((almanacref03_Texts.f k t415 l0).bind fun t451 => (if t451 = true then ((almanaclaw04_awake.f k).bind fun t452 => (some t452)) else (some false))) else (some false)))) else (some false)))) else (some false)))) else (some false))) = some r := H
              have A20 := Aside0.mk A200
              clear A200
              replace H := Option.bind_eq_some_iff.mp H
              obtain ⟨t444, A210, H⟩ := H
              replace H : (if (t443 == t444) = true then ((alloc_Free.f t415).bind fun t445 => ((almanacref04_Free.f k l0).bind fun t446 => (if t445 = t446 then ((alloc_First.f t415).bind fun t447 => ((almanacref04_First.f l0).bind fun t448 => (if t447 = t448 then ((alloc_Inodes.f t415).bind fun t449 => ((almanacref04_Inodes.f l0).bind fun t450 => (if t449 = t450 then ((almanacref03_Texts.f k t415 l0).bind fun t451 => (if t451 = true then ((almanaclaw04_awake.f k).bind fun t452 => (some t452)) else (some false))) else (some false)))) else (some false)))) else (some false)))) else (some false)) = some r := H
              have A21 := Aside0.mk A210
              clear A210
              by_cases c22 : (t443 == t444) = true
              · rw [if_pos c22] at H
                have c22b0 : (t443 == t444) = true := c22
                (try (have c22b1 : decide (t443 = t444) = true := by simpa using c22))
                (try (have c22b2 : (t443 == t444) = true := by simpa using c22))
                clear c22
                replace H := Option.bind_eq_some_iff.mp H
                obtain ⟨t445, A230, H⟩ := H
                replace H : ((almanacref04_Free.f k l0).bind fun t446 => (if t445 = t446 then ((alloc_First.f t415).bind fun t447 => ((almanacref04_First.f l0).bind fun t448 => (if t447 = t448 then ((alloc_Inodes.f t415).bind fun t449 => ((almanacref04_Inodes.f l0).bind fun t450 => (if t449 = t450 then ((almanacref03_Texts.f k t415 l0).bind fun t451 => (if t451 = true then ((almanaclaw04_awake.f k).bind fun t452 => (some t452)) else (some false))) else (some false)))) else (some false)))) else (some false))) = some r := H
                have A23 := Aside0.mk A230
                clear A230
                replace H := Option.bind_eq_some_iff.mp H
                obtain ⟨t446, A240, H⟩ := H
                replace H : (if t445 = t446 then ((alloc_First.f t415).bind fun t447 => ((almanacref04_First.f l0).bind fun t448 => (if t447 = t448 then ((alloc_Inodes.f t415).bind fun t449 => ((almanacref04_Inodes.f l0).bind fun t450 => (if t449 = t450 then ((almanacref03_Texts.f k t415 l0).bind fun t451 => (if t451 = true then ((almanaclaw04_awake.f k).bind fun t452 => (some t452)) else (some false))) else (some false)))) else (some false)))) else (some false)) = some r := H
                have A24 := Aside0.mk A240
                clear A240
                by_cases c25 : t445 = t446
                · rw [if_pos c25] at H
                  have c25b0 : (t445 == t446) = true := beq_iff_eq.mpr c25
                  have c25b1 : (t445 != t446) = false := bne_eq_false_iff_eq.mpr c25
                  clear c25
                  replace H := Option.bind_eq_some_iff.mp H
                  obtain ⟨t447, A260, H⟩ := H
                  replace H : ((almanacref04_First.f l0).bind fun t448 => (if t447 = t448 then ((alloc_Inodes.f t415).bind fun t449 => ((almanacref04_Inodes.f l0).bind fun t450 => (if t449 = t450 then ((almanacref03_Texts.f k t415 l0).bind fun t451 => (if t451 = true then ((almanaclaw04_awake.f k).bind fun t452 => (some t452)) else (some false))) else (some false)))) else (some false))) = some r := H
                  have A26 := Aside0.mk A260
                  clear A260
                  replace H := Option.bind_eq_some_iff.mp H
                  obtain ⟨t448, A270, H⟩ := H
                  replace H : (if t447 = t448 then ((alloc_Inodes.f t415).bind fun t449 => ((almanacref04_Inodes.f l0).bind fun t450 => (if t449 = t450 then ((almanacref03_Texts.f k t415 l0).bind fun t451 => (if t451 = true then ((almanaclaw04_awake.f k).bind fun t452 => (some t452)) else (some false))) else (some false)))) else (some false)) = some r := H
                  have A27 := Aside0.mk A270
                  clear A270
                  by_cases c28 : t447 = t448
                  · rw [if_pos c28] at H
                    have c28b0 : (t447 == t448) = true := beq_iff_eq.mpr c28
                    have c28b1 : (t447 != t448) = false := bne_eq_false_iff_eq.mpr c28
                    clear c28
                    replace H := Option.bind_eq_some_iff.mp H
                    obtain ⟨t449, A290, H⟩ := H
                    replace H : ((almanacref04_Inodes.f l0).bind fun t450 => (if t449 = t450 then ((almanacref03_Texts.f k t415 l0).bind fun t451 => (if t451 = true then ((almanaclaw04_awake.f k).bind fun t452 => (some t452)) else (some false))) else (some false))) = some r := H
                    have A29 := Aside0.mk A290
                    clear A290
                    replace H := Option.bind_eq_some_iff.mp H
                    obtain ⟨t450, A300, H⟩ := H
                    replace H : (if t449 = t450 then ((almanacref03_Texts.f k t415 l0).bind fun t451 => (if t451 = true then ((almanaclaw04_awake.f k).bind fun t452 => (some t452)) else (some false))) else (some false)) = some r := H
                    have A30 := Aside0.mk A300
                    clear A300
                    by_cases c31 : t449 = t450
                    · rw [if_pos c31] at H
                      have c31b0 : (t449 == t450) = true := beq_iff_eq.mpr c31
                      have c31b1 : (t449 != t450) = false := bne_eq_false_iff_eq.mpr c31
                      clear c31
                      replace H := Option.bind_eq_some_iff.mp H
                      obtain ⟨t451, A320, H⟩ := H
                      replace H : (if t451 = true then ((almanaclaw04_awake.f k).bind fun t452 => (some t452)) else (some false)) = some r := H
                      have A32 := Aside0.mk A320
                      clear A320
                      by_cases c33 : t451 = true
                      · subst c33
                        have H1 : ((almanaclaw04_awake.f k).bind fun t452 => (some t452)) = some r := by rw [if_pos rfl] at H; exact H
                        clear H
                        have H := H1
                        clear H1
                        replace H := Option.bind_eq_some_iff.mp H
                        obtain ⟨t452, A340, H⟩ := H
                        replace H : (some t452) = some r := H
                        have A34 := Aside0.mk A340
                        clear A340
                        obtain rfl := Option.some.inj H
                        go_enter Try.func3, Try.ntmps3
                        go_wp2_with (first | ((with_reducible refine gate_callee (f := 6) rfl ?_); refine goesL_ (some 21) rfl rfl Try.func6 (by kernel_rfl) rfl #[.slice A0 l0.length c0] rfl (by (try simp only [List.map_toArray, List.map_cons, List.map_nil]); first | done | rfl | (simp only [List.length_drop, List.length_take]; rfl)) ?_; (with_reducible refine (almanacref04_Fit.calls k _ _ l0 true _ ?side1 ?side2 A5.out).mono ?_); (case side1 => repeat (first | exact HR0.out | (with_reducible refine Kd.C_alloc ?_ _) | (with_reducible refine Kd.C_drewN ?_ _) | (with_reducible refine Kd.C_drew ?_))); (case side2 => exact HC0.out); rintro e w35 ⟨rfl, hb⟩; refine ⟨_, rfl, ?_⟩; have n0_ := Aside0.mk (below_step (by repeat (first | (with_reducible first | exact HB.out | apply below_alloc | apply pw_below_drewN | apply below_drew1) | exact HB.out)) hb); clear HB; have HB := n0_; clear n0_; (try clear hb); (try clear hb2); (try clear hk); (try clear hi)) | ((with_reducible refine gate_callee (f := 8) rfl ?_); refine goesL_ (some 25) rfl rfl Try.func8 (by kernel_rfl) rfl #[.slice A0 l0.length c0] rfl (by (try simp only [List.map_toArray, List.map_cons, List.map_nil]); first | done | rfl | (simp only [List.length_drop, List.length_take]; rfl)) ?_; (with_reducible refine (almanacref04_Own.calls _ _ l0 t415 _ ?side1 ?side2 A7.out).mono ?_); (case side1 => repeat (first | exact (Kd.C_below HR0.out HB.out) | (with_reducible refine Kd.C_alloc ?_ _) | (with_reducible refine Kd.C_drewN ?_ _) | (with_reducible refine Kd.C_drew ?_))); (case side2 => exact HC0.out); rintro e w36 ⟨v416, rfl, ho0, hb⟩; refine ⟨_, rfl, ?_⟩; have n0_ := Aside0.mk (Kd.R_lower ho0 (below_size (by repeat (first | (with_reducible first | exact HB.out | apply below_alloc | apply pw_below_drewN | apply below_drew1) | exact HB.out)))); have n1_ := Aside0.mk (below_step (by repeat (first | (with_reducible first | exact HB.out | apply below_alloc | apply pw_below_drewN | apply below_drew1) | exact HB.out)) hb); clear HB; have HO417 := n0_; have HB := n1_; clear n0_ n1_; (try clear hb); (try clear hb2); (try clear hk); (try clear hi); (try clear ho0); obtain ⟨Ao37, co37, eo37⟩ := Kd.R_slice HO417.out; subst eo37) | ((with_reducible refine gate_callee (f := 9) rfl ?_); refine goesL_ (some 29) rfl rfl Try.func9 (by kernel_rfl) rfl #[.slice Ao37 t415.length co37, .int .i64 a1] rfl (by (try simp only [List.map_toArray, List.map_cons, List.map_nil]); first | done | rfl | (simp only [List.length_drop, List.length_take]; rfl)) ?_; (with_reducible refine (alloc_Take.calls _ _ t415 a1 t418 t419 t420 _ ?side1 ?side2 A8.out).mono ?_); (case side1 => repeat (first | exact (Kd.R_reads' HO417.out).2.2 | (with_reducible refine Kd.C_alloc ?_ _) | (with_reducible refine Kd.C_drewN ?_ _) | (with_reducible refine Kd.C_drew ?_))); (case side2 => exact (Kd.R_reads' HO417.out).2.1); rintro e w38 ⟨v421, v423, rfl, ho0, ho1, hb⟩; refine ⟨_, rfl, ?_⟩; have n0_ := Aside0.mk (Kd.R_elder' (by (with_reducible repeat (first | apply Kd.R_alloc | apply Kd.R_drewN | apply Kd.R_drew)); exact HO417.out) (Kd.R_base ho0) hb); have n1_ := Aside0.mk (Kd.R_lower (Kd.R_new' ho0 (Kd.R_lt (by (with_reducible repeat (first | apply Kd.R_alloc | apply Kd.R_drewN | apply Kd.R_drew)); exact HO417.out))) (below_size (by repeat (first | (with_reducible first | exact HB.out | apply below_alloc | apply pw_below_drewN | apply below_drew1) | exact HB.out)))); have n2_ := Aside0.mk (Kd.R_lower ho1 (below_size (by repeat (first | (with_reducible first | exact HB.out | apply below_alloc | apply pw_below_drewN | apply below_drew1) | exact HB.out)))); have n3_ := Aside0.mk (below_step (by repeat (first | (with_reducible first | exact HB.out | apply below_alloc | apply pw_below_drewN | apply below_drew1) | exact HB.out)) hb); clear HO417; clear HB; have HO417 := n0_; have HO422 := n1_; have HO424 := n2_; have HB := n3_; clear n0_ n1_ n2_ n3_; (try clear hb); (try clear hb2); (try clear hk); (try clear hi); (try clear ho0); (try clear ho1)) | ((with_reducible refine gate_callee (f := 10) rfl ?_); refine goesL_ (some 36) rfl rfl Try.func10 (by kernel_rfl) rfl #[.slice A0 l0.length c0, .int .i64 a1] rfl (by (try simp only [List.map_toArray, List.map_cons, List.map_nil]); first | done | rfl | (simp only [List.length_drop, List.length_take]; rfl)) ?_; (with_reducible refine (almanacref04_Take.calls k _ _ l0 a1 t425 t426 t427 _ ?side1 ?side2 A9.out).mono ?_); (case side1 => repeat (first | exact (Kd.C_below HR0.out HB.out) | (with_reducible refine Kd.C_alloc ?_ _) | (with_reducible refine Kd.C_drewN ?_ _) | (with_reducible refine Kd.C_drew ?_))); (case side2 => exact HC0.out); rintro e w39 ⟨v428, v430, rfl, ho0, ho1, hb⟩; refine ⟨_, rfl, ?_⟩; have n0_ := Aside0.mk (Kd.R_elder' (by (with_reducible repeat (first | apply Kd.R_alloc | apply Kd.R_drewN | apply Kd.R_drew)); exact HO417.out) (Kd.R_base ho0) hb); have n1_ := Aside0.mk (Kd.R_elder' (by (with_reducible repeat (first | apply Kd.R_alloc | apply Kd.R_drewN | apply Kd.R_drew)); exact HO422.out) (Kd.R_base ho0) hb); have n2_ := Aside0.mk (Kd.R_elder' (by (with_reducible repeat (first | apply Kd.R_alloc | apply Kd.R_drewN | apply Kd.R_drew)); exact HO424.out) (Kd.R_base ho1) hb); have n3_ := Aside0.mk (Kd.R_lower (Kd.R_new' (Kd.R_new' ho0 (Kd.R_lt (by (with_reducible repeat (first | apply Kd.R_alloc | apply Kd.R_drewN | apply Kd.R_drew)); exact HO417.out))) (Kd.R_lt (by (with_reducible repeat (first | apply Kd.R_alloc | apply Kd.R_drewN | apply Kd.R_drew)); exact HO422.out))) (below_size (by repeat (first | (with_reducible first | exact HB.out | apply below_alloc | apply pw_below_drewN | apply below_drew1) | exact HB.out)))); have n4_ := Aside0.mk (Kd.R_lower (Kd.R_new' ho1 (Kd.R_lt (by (with_reducible repeat (first | apply Kd.R_alloc | apply Kd.R_drewN | apply Kd.R_drew)); exact HO424.out))) (below_size (by repeat (first | (with_reducible first | exact HB.out | apply below_alloc | apply pw_below_drewN | apply below_drew1) | exact HB.out)))); have n5_ := Aside0.mk (below_step (by repeat (first | (with_reducible first | exact HB.out | apply below_alloc | apply pw_below_drewN | apply below_drew1) | exact HB.out)) hb); clear HO417; clear HO422; clear HO424; clear HB; have HO417 := n0_; have HO422 := n1_; have HO424 := n2_; have HO429 := n3_; have HO431 := n4_; have HB := n5_; clear n0_ n1_ n2_ n3_ n4_ n5_; (try clear hb); (try clear hb2); (try clear hk); (try clear hi); (try clear ho0); (try clear ho1)) | ((with_reducible refine gate_callee (f := 11) rfl ?_); refine goesL_ (some 43) rfl rfl Try.func11 (by kernel_rfl) rfl #[.slice Ao37 t415.length co37, .slice A2 l2.length c2] rfl (by (try simp only [List.map_toArray, List.map_cons, List.map_nil]); first | done | rfl | (simp only [List.length_drop, List.length_take]; rfl)) ?_; (with_reducible refine (alloc_Give.calls _ _ t415 _ _ l2 t432 t433 _ ?side1 ?side2 ?side3 ?side4 A10.out).mono ?_); (case side1 => repeat (first | exact (Kd.R_reads' HO417.out).2.2 | (with_reducible refine Kd.C_alloc ?_ _) | (with_reducible refine Kd.C_drewN ?_ _) | (with_reducible refine Kd.C_drew ?_))); (case side2 => exact (Kd.R_reads' HO417.out).2.1); (case side3 => repeat (first | exact (Kd.C_below HR2.out HB.out) | (with_reducible refine Kd.C_alloc ?_ _) | (with_reducible refine Kd.C_drewN ?_ _) | (with_reducible refine Kd.C_drew ?_))); (case side4 => exact HC2.out); rintro e w40 ⟨v434, rfl, ho0, hb⟩; refine ⟨_, rfl, ?_⟩; have n0_ := Aside0.mk (Kd.R_elder' (by (with_reducible repeat (first | apply Kd.R_alloc | apply Kd.R_drewN | apply Kd.R_drew)); exact HO417.out) (Kd.R_base ho0) hb); have n1_ := Aside0.mk (Kd.R_elder' (by (with_reducible repeat (first | apply Kd.R_alloc | apply Kd.R_drewN | apply Kd.R_drew)); exact HO422.out) (Kd.R_base ho0) hb); have n2_ := Aside0.mk (Kd.R_below (by (with_reducible repeat (first | apply Kd.R_alloc | apply Kd.R_drewN | apply Kd.R_drew)); exact HO424.out) hb); have n3_ := Aside0.mk (Kd.R_elder' (by (with_reducible repeat (first | apply Kd.R_alloc | apply Kd.R_drewN | apply Kd.R_drew)); exact HO429.out) (Kd.R_base ho0) hb); have n4_ := Aside0.mk (Kd.R_below (by (with_reducible repeat (first | apply Kd.R_alloc | apply Kd.R_drewN | apply Kd.R_drew)); exact HO431.out) hb); have n5_ := Aside0.mk (Kd.R_lower (Kd.R_new' (Kd.R_new' (Kd.R_new' ho0 (Kd.R_lt (by (with_reducible repeat (first | apply Kd.R_alloc | apply Kd.R_drewN | apply Kd.R_drew)); exact HO417.out))) (Kd.R_lt (by (with_reducible repeat (first | apply Kd.R_alloc | apply Kd.R_drewN | apply Kd.R_drew)); exact HO422.out))) (Kd.R_lt (by (with_reducible repeat (first | apply Kd.R_alloc | apply Kd.R_drewN | apply Kd.R_drew)); exact HO429.out))) (below_size (by repeat (first | (with_reducible first | exact HB.out | apply below_alloc | apply pw_below_drewN | apply below_drew1) | exact HB.out)))); have n6_ := Aside0.mk (below_step (by repeat (first | (with_reducible first | exact HB.out | apply below_alloc | apply pw_below_drewN | apply below_drew1) | exact HB.out)) hb); clear HO417; clear HO422; clear HO424; clear HO429; clear HO431; clear HB; have HO417 := n0_; have HO422 := n1_; have HO424 := n2_; have HO429 := n3_; have HO431 := n4_; have HO435 := n5_; have HB := n6_; clear n0_ n1_ n2_ n3_ n4_ n5_ n6_; (try clear hb); (try clear hb2); (try clear hk); (try clear hi); (try clear ho0)) | ((with_reducible refine gate_callee (f := 12) rfl ?_); refine goesL_ (some 49) rfl rfl Try.func12 (by kernel_rfl) rfl #[.slice A0 l0.length c0, .slice A2 l2.length c2] rfl (by (try simp only [List.map_toArray, List.map_cons, List.map_nil]); first | done | rfl | (simp only [List.length_drop, List.length_take]; rfl)) ?_; (with_reducible refine (almanacref04_Give.calls k _ _ l0 _ _ l2 t436 t437 _ ?side1 ?side2 ?side3 ?side4 A11.out).mono ?_); (case side1 => repeat (first | exact (Kd.C_below HR0.out HB.out) | (with_reducible refine Kd.C_alloc ?_ _) | (with_reducible refine Kd.C_drewN ?_ _) | (with_reducible refine Kd.C_drew ?_))); (case side2 => exact HC0.out); (case side3 => repeat (first | exact (Kd.C_below HR2.out HB.out) | (with_reducible refine Kd.C_alloc ?_ _) | (with_reducible refine Kd.C_drewN ?_ _) | (with_reducible refine Kd.C_drew ?_))); (case side4 => exact HC2.out); rintro e w41 ⟨v438, rfl, ho0, hb⟩; refine ⟨_, rfl, ?_⟩; have n0_ := Aside0.mk (Kd.R_elder' (by (with_reducible repeat (first | apply Kd.R_alloc | apply Kd.R_drewN | apply Kd.R_drew)); exact HO417.out) (Kd.R_base ho0) hb); have n1_ := Aside0.mk (Kd.R_elder' (by (with_reducible repeat (first | apply Kd.R_alloc | apply Kd.R_drewN | apply Kd.R_drew)); exact HO422.out) (Kd.R_base ho0) hb); have n2_ := Aside0.mk (Kd.R_below (by (with_reducible repeat (first | apply Kd.R_alloc | apply Kd.R_drewN | apply Kd.R_drew)); exact HO424.out) hb); have n3_ := Aside0.mk (Kd.R_elder' (by (with_reducible repeat (first | apply Kd.R_alloc | apply Kd.R_drewN | apply Kd.R_drew)); exact HO429.out) (Kd.R_base ho0) hb); have n4_ := Aside0.mk (Kd.R_below (by (with_reducible repeat (first | apply Kd.R_alloc | apply Kd.R_drewN | apply Kd.R_drew)); exact HO431.out) hb); have n5_ := Aside0.mk (Kd.R_elder' (by (with_reducible repeat (first | apply Kd.R_alloc | apply Kd.R_drewN | apply Kd.R_drew)); exact HO435.out) (Kd.R_base ho0) hb); have n6_ := Aside0.mk (Kd.R_lower (Kd.R_new' (Kd.R_new' (Kd.R_new' (Kd.R_new' ho0 (Kd.R_lt (by (with_reducible repeat (first | apply Kd.R_alloc | apply Kd.R_drewN | apply Kd.R_drew)); exact HO417.out))) (Kd.R_lt (by (with_reducible repeat (first | apply Kd.R_alloc | apply Kd.R_drewN | apply Kd.R_drew)); exact HO422.out))) (Kd.R_lt (by (with_reducible repeat (first | apply Kd.R_alloc | apply Kd.R_drewN | apply Kd.R_drew)); exact HO429.out))) (Kd.R_lt (by (with_reducible repeat (first | apply Kd.R_alloc | apply Kd.R_drewN | apply Kd.R_drew)); exact HO435.out))) (below_size (by repeat (first | (with_reducible first | exact HB.out | apply below_alloc | apply pw_below_drewN | apply below_drew1) | exact HB.out)))); have n7_ := Aside0.mk (below_step (by repeat (first | (with_reducible first | exact HB.out | apply below_alloc | apply pw_below_drewN | apply below_drew1) | exact HB.out)) hb); clear HO417; clear HO422; clear HO424; clear HO429; clear HO431; clear HO435; clear HB; have HO417 := n0_; have HO422 := n1_; have HO424 := n2_; have HO429 := n3_; have HO431 := n4_; have HO435 := n5_; have HO439 := n6_; have HB := n7_; clear n0_ n1_ n2_ n3_ n4_ n5_ n6_ n7_; (try clear hb); (try clear hb2); (try clear hk); (try clear hi); (try clear ho0); obtain ⟨Ao42, co42, eo42⟩ := Kd.R_slice HO422.out; subst eo42; obtain ⟨Ao43, co43, eo43⟩ := Kd.R_slice HO429.out; subst eo43) | ((with_reducible refine gate_callee (f := 13) rfl ?_); refine goesL_ (some 54) rfl rfl Try.func13 (by kernel_rfl) rfl #[.slice Ao42 t418.length co42, .slice Ao43 t425.length co43] rfl (by (try simp only [List.map_toArray, List.map_cons, List.map_nil]); first | done | rfl | (simp only [List.length_drop, List.length_take]; rfl)) ?_; (with_reducible refine (almanacref03_Texts.calls k _ _ t418 _ _ t425 true _ ?side1 ?side2 ?side3 ?side4 A12.out).mono ?_); (case side1 => repeat (first | exact (Kd.R_reads' HO422.out).2.2 | (with_reducible refine Kd.C_alloc ?_ _) | (with_reducible refine Kd.C_drewN ?_ _) | (with_reducible refine Kd.C_drew ?_))); (case side2 => exact (Kd.R_reads' HO422.out).2.1); (case side3 => repeat (first | exact (Kd.R_reads' HO429.out).2.2 | (with_reducible refine Kd.C_alloc ?_ _) | (with_reducible refine Kd.C_drewN ?_ _) | (with_reducible refine Kd.C_drew ?_))); (case side4 => exact (Kd.R_reads' HO429.out).2.1); rintro e w44 ⟨rfl, hb⟩; refine ⟨_, rfl, ?_⟩; have n0_ := Aside0.mk (Kd.R_below (by (with_reducible repeat (first | apply Kd.R_alloc | apply Kd.R_drewN | apply Kd.R_drew)); exact HO417.out) hb); have n1_ := Aside0.mk (Kd.R_below (by (with_reducible repeat (first | apply Kd.R_alloc | apply Kd.R_drewN | apply Kd.R_drew)); exact HO422.out) hb); have n2_ := Aside0.mk (Kd.R_below (by (with_reducible repeat (first | apply Kd.R_alloc | apply Kd.R_drewN | apply Kd.R_drew)); exact HO424.out) hb); have n3_ := Aside0.mk (Kd.R_below (by (with_reducible repeat (first | apply Kd.R_alloc | apply Kd.R_drewN | apply Kd.R_drew)); exact HO429.out) hb); have n4_ := Aside0.mk (Kd.R_below (by (with_reducible repeat (first | apply Kd.R_alloc | apply Kd.R_drewN | apply Kd.R_drew)); exact HO431.out) hb); have n5_ := Aside0.mk (Kd.R_below (by (with_reducible repeat (first | apply Kd.R_alloc | apply Kd.R_drewN | apply Kd.R_drew)); exact HO435.out) hb); have n6_ := Aside0.mk (Kd.R_below (by (with_reducible repeat (first | apply Kd.R_alloc | apply Kd.R_drewN | apply Kd.R_drew)); exact HO439.out) hb); have n7_ := Aside0.mk (below_step (by repeat (first | (with_reducible first | exact HB.out | apply below_alloc | apply pw_below_drewN | apply below_drew1) | exact HB.out)) hb); clear HO417; clear HO422; clear HO424; clear HO429; clear HO431; clear HO435; clear HO439; clear HB; have HO417 := n0_; have HO422 := n1_; have HO424 := n2_; have HO429 := n3_; have HO431 := n4_; have HO435 := n5_; have HO439 := n6_; have HB := n7_; clear n0_ n1_ n2_ n3_ n4_ n5_ n6_ n7_; (try clear hb); (try clear hb2); (try clear hk); (try clear hi); obtain ⟨Ao45, co45, eo45⟩ := Kd.R_slice HO424.out; subst eo45; obtain ⟨Ao46, co46, eo46⟩ := Kd.R_slice HO431.out; subst eo46) | (go_at_call 14; (with_reducible refine (almanacref03_Ints.calls k _ _ t419 _ _ t426 true _ ?side1 ?side2 ?side3 ?side4 A14.out).mono ?_); (case side1 => repeat (first | exact (Kd.R_reads' HO424.out).2.2 | (with_reducible refine Kd.C_alloc ?_ _) | (with_reducible refine Kd.C_drewN ?_ _) | (with_reducible refine Kd.C_drew ?_))); (case side2 => exact (Kd.R_reads' HO424.out).2.1); (case side3 => repeat (first | exact (Kd.R_reads' HO431.out).2.2 | (with_reducible refine Kd.C_alloc ?_ _) | (with_reducible refine Kd.C_drewN ?_ _) | (with_reducible refine Kd.C_drew ?_))); (case side4 => exact (Kd.R_reads' HO431.out).2.1); rintro e w' ⟨rfl, ⟨nd, rfl⟩⟩; obtain ⟨Ao47, co47, eo47⟩ := Kd.R_slice HO435.out; subst eo47; obtain ⟨Ao48, co48, eo48⟩ := Kd.R_slice HO439.out; subst eo48) | (go_at_call 13; (with_reducible refine (almanacref03_Texts.calls k _ _ t432 _ _ t436 true _ ?side1 ?side2 ?side3 ?side4 A17.out).mono ?_); (case side1 => repeat (first | exact (Kd.R_reads' HO435.out).2.2 | (with_reducible refine Kd.C_alloc ?_ _) | (with_reducible refine Kd.C_drewN ?_ _) | (with_reducible refine Kd.C_drew ?_))); (case side2 => exact (Kd.R_reads' HO435.out).2.1); (case side3 => repeat (first | exact (Kd.R_reads' HO439.out).2.2 | (with_reducible refine Kd.C_alloc ?_ _) | (with_reducible refine Kd.C_drewN ?_ _) | (with_reducible refine Kd.C_drew ?_))); (case side4 => exact (Kd.R_reads' HO439.out).2.1); rintro e w49 ⟨rfl, hb⟩; have n0_ := Aside0.mk (Kd.R_below (by (with_reducible repeat (first | apply Kd.R_alloc | apply Kd.R_drewN | apply Kd.R_drew)); exact HO417.out) hb); have n1_ := Aside0.mk (Kd.R_below (by (with_reducible repeat (first | apply Kd.R_alloc | apply Kd.R_drewN | apply Kd.R_drew)); exact HO422.out) hb); have n2_ := Aside0.mk (Kd.R_below (by (with_reducible repeat (first | apply Kd.R_alloc | apply Kd.R_drewN | apply Kd.R_drew)); exact HO424.out) hb); have n3_ := Aside0.mk (Kd.R_below (by (with_reducible repeat (first | apply Kd.R_alloc | apply Kd.R_drewN | apply Kd.R_drew)); exact HO429.out) hb); have n4_ := Aside0.mk (Kd.R_below (by (with_reducible repeat (first | apply Kd.R_alloc | apply Kd.R_drewN | apply Kd.R_drew)); exact HO431.out) hb); have n5_ := Aside0.mk (Kd.R_below (by (with_reducible repeat (first | apply Kd.R_alloc | apply Kd.R_drewN | apply Kd.R_drew)); exact HO435.out) hb); have n6_ := Aside0.mk (Kd.R_below (by (with_reducible repeat (first | apply Kd.R_alloc | apply Kd.R_drewN | apply Kd.R_drew)); exact HO439.out) hb); have n7_ := Aside0.mk (below_step (by repeat (first | (with_reducible first | exact HB.out | apply below_alloc | apply pw_below_drewN | apply below_drew1) | exact HB.out)) hb); clear HO417; clear HO422; clear HO424; clear HO429; clear HO431; clear HO435; clear HO439; clear HB; have HO417 := n0_; have HO422 := n1_; have HO424 := n2_; have HO429 := n3_; have HO431 := n4_; have HO435 := n5_; have HO439 := n6_; have HB := n7_; clear n0_ n1_ n2_ n3_ n4_ n5_ n6_ n7_; (try clear hb); (try clear hb2); (try clear hk); (try clear hi)) | (go_at_call 15; (with_reducible refine (alloc_Taken.calls _ _ t415 a3 t443 _ ?side1 ?side2 A20.out).mono ?_); (case side1 => repeat (first | exact (Kd.R_reads' HO417.out).2.2 | (with_reducible refine Kd.C_alloc ?_ _) | (with_reducible refine Kd.C_drewN ?_ _) | (with_reducible refine Kd.C_drew ?_))); (case side2 => exact (Kd.R_reads' HO417.out).2.1); rintro e w' ⟨rfl, ⟨nd, rfl⟩⟩) | (go_at_call 16; (with_reducible refine (almanacref04_Taken.calls _ _ l0 a3 t444 _ ?side1 ?side2 A21.out).mono ?_); (case side1 => repeat (first | exact (Kd.C_below HR0.out (by repeat (first | (with_reducible first | exact HB.out | apply below_alloc | apply pw_below_drewN | apply below_drew1) | exact HB.out))) | (with_reducible refine Kd.C_alloc ?_ _) | (with_reducible refine Kd.C_drewN ?_ _) | (with_reducible refine Kd.C_drew ?_))); (case side2 => exact HC0.out); rintro e w' ⟨rfl, ⟨nd, rfl⟩⟩) | (go_at_call 17; (with_reducible refine (alloc_Free.calls _ _ t415 t445 _ ?side1 ?side2 A23.out).mono ?_); (case side1 => repeat (first | exact (Kd.R_reads' HO417.out).2.2 | (with_reducible refine Kd.C_alloc ?_ _) | (with_reducible refine Kd.C_drewN ?_ _) | (with_reducible refine Kd.C_drew ?_))); (case side2 => exact (Kd.R_reads' HO417.out).2.1); rintro e w50 ⟨rfl, hb⟩; have n0_ := Aside0.mk (Kd.R_below (by (with_reducible repeat (first | apply Kd.R_alloc | apply Kd.R_drewN | apply Kd.R_drew)); exact HO417.out) hb); have n1_ := Aside0.mk (Kd.R_below (by (with_reducible repeat (first | apply Kd.R_alloc | apply Kd.R_drewN | apply Kd.R_drew)); exact HO422.out) hb); have n2_ := Aside0.mk (Kd.R_below (by (with_reducible repeat (first | apply Kd.R_alloc | apply Kd.R_drewN | apply Kd.R_drew)); exact HO424.out) hb); have n3_ := Aside0.mk (Kd.R_below (by (with_reducible repeat (first | apply Kd.R_alloc | apply Kd.R_drewN | apply Kd.R_drew)); exact HO429.out) hb); have n4_ := Aside0.mk (Kd.R_below (by (with_reducible repeat (first | apply Kd.R_alloc | apply Kd.R_drewN | apply Kd.R_drew)); exact HO431.out) hb); have n5_ := Aside0.mk (Kd.R_below (by (with_reducible repeat (first | apply Kd.R_alloc | apply Kd.R_drewN | apply Kd.R_drew)); exact HO435.out) hb); have n6_ := Aside0.mk (Kd.R_below (by (with_reducible repeat (first | apply Kd.R_alloc | apply Kd.R_drewN | apply Kd.R_drew)); exact HO439.out) hb); have n7_ := Aside0.mk (below_step (by repeat (first | (with_reducible first | exact HB.out | apply below_alloc | apply pw_below_drewN | apply below_drew1) | exact HB.out)) hb); clear HO417; clear HO422; clear HO424; clear HO429; clear HO431; clear HO435; clear HO439; clear HB; have HO417 := n0_; have HO422 := n1_; have HO424 := n2_; have HO429 := n3_; have HO431 := n4_; have HO435 := n5_; have HO439 := n6_; have HB := n7_; clear n0_ n1_ n2_ n3_ n4_ n5_ n6_ n7_; (try clear hb); (try clear hb2); (try clear hk); (try clear hi)) | (go_at_call 18; (with_reducible refine (almanacref04_Free.calls k _ _ l0 t446 _ ?side1 ?side2 A24.out).mono ?_); (case side1 => repeat (first | exact (Kd.C_below HR0.out HB.out) | (with_reducible refine Kd.C_alloc ?_ _) | (with_reducible refine Kd.C_drewN ?_ _) | (with_reducible refine Kd.C_drew ?_))); (case side2 => exact HC0.out); rintro e w51 ⟨rfl, hb⟩; have n0_ := Aside0.mk (Kd.R_below (by (with_reducible repeat (first | apply Kd.R_alloc | apply Kd.R_drewN | apply Kd.R_drew)); exact HO417.out) hb); have n1_ := Aside0.mk (Kd.R_below (by (with_reducible repeat (first | apply Kd.R_alloc | apply Kd.R_drewN | apply Kd.R_drew)); exact HO422.out) hb); have n2_ := Aside0.mk (Kd.R_below (by (with_reducible repeat (first | apply Kd.R_alloc | apply Kd.R_drewN | apply Kd.R_drew)); exact HO424.out) hb); have n3_ := Aside0.mk (Kd.R_below (by (with_reducible repeat (first | apply Kd.R_alloc | apply Kd.R_drewN | apply Kd.R_drew)); exact HO429.out) hb); have n4_ := Aside0.mk (Kd.R_below (by (with_reducible repeat (first | apply Kd.R_alloc | apply Kd.R_drewN | apply Kd.R_drew)); exact HO431.out) hb); have n5_ := Aside0.mk (Kd.R_below (by (with_reducible repeat (first | apply Kd.R_alloc | apply Kd.R_drewN | apply Kd.R_drew)); exact HO435.out) hb); have n6_ := Aside0.mk (Kd.R_below (by (with_reducible repeat (first | apply Kd.R_alloc | apply Kd.R_drewN | apply Kd.R_drew)); exact HO439.out) hb); have n7_ := Aside0.mk (below_step (by repeat (first | (with_reducible first | exact HB.out | apply below_alloc | apply pw_below_drewN | apply below_drew1) | exact HB.out)) hb); clear HO417; clear HO422; clear HO424; clear HO429; clear HO431; clear HO435; clear HO439; clear HB; have HO417 := n0_; have HO422 := n1_; have HO424 := n2_; have HO429 := n3_; have HO431 := n4_; have HO435 := n5_; have HO439 := n6_; have HB := n7_; clear n0_ n1_ n2_ n3_ n4_ n5_ n6_ n7_; (try clear hb); (try clear hb2); (try clear hk); (try clear hi)) | (go_at_call 19; (with_reducible refine (alloc_First.calls _ _ t415 t447 _ ?side1 ?side2 A26.out).mono ?_); (case side1 => repeat (first | exact (Kd.R_reads' HO417.out).2.2 | (with_reducible refine Kd.C_alloc ?_ _) | (with_reducible refine Kd.C_drewN ?_ _) | (with_reducible refine Kd.C_drew ?_))); (case side2 => exact (Kd.R_reads' HO417.out).2.1); rintro e w52 ⟨rfl, hb⟩; have n0_ := Aside0.mk (Kd.R_below (by (with_reducible repeat (first | apply Kd.R_alloc | apply Kd.R_drewN | apply Kd.R_drew)); exact HO417.out) hb); have n1_ := Aside0.mk (Kd.R_below (by (with_reducible repeat (first | apply Kd.R_alloc | apply Kd.R_drewN | apply Kd.R_drew)); exact HO422.out) hb); have n2_ := Aside0.mk (Kd.R_below (by (with_reducible repeat (first | apply Kd.R_alloc | apply Kd.R_drewN | apply Kd.R_drew)); exact HO424.out) hb); have n3_ := Aside0.mk (Kd.R_below (by (with_reducible repeat (first | apply Kd.R_alloc | apply Kd.R_drewN | apply Kd.R_drew)); exact HO429.out) hb); have n4_ := Aside0.mk (Kd.R_below (by (with_reducible repeat (first | apply Kd.R_alloc | apply Kd.R_drewN | apply Kd.R_drew)); exact HO431.out) hb); have n5_ := Aside0.mk (Kd.R_below (by (with_reducible repeat (first | apply Kd.R_alloc | apply Kd.R_drewN | apply Kd.R_drew)); exact HO435.out) hb); have n6_ := Aside0.mk (Kd.R_below (by (with_reducible repeat (first | apply Kd.R_alloc | apply Kd.R_drewN | apply Kd.R_drew)); exact HO439.out) hb); have n7_ := Aside0.mk (below_step (by repeat (first | (with_reducible first | exact HB.out | apply below_alloc | apply pw_below_drewN | apply below_drew1) | exact HB.out)) hb); clear HO417; clear HO422; clear HO424; clear HO429; clear HO431; clear HO435; clear HO439; clear HB; have HO417 := n0_; have HO422 := n1_; have HO424 := n2_; have HO429 := n3_; have HO431 := n4_; have HO435 := n5_; have HO439 := n6_; have HB := n7_; clear n0_ n1_ n2_ n3_ n4_ n5_ n6_ n7_; (try clear hb); (try clear hb2); (try clear hk); (try clear hi)) | (go_at_call 20; (with_reducible refine (almanacref04_First.calls _ _ l0 t448 _ ?side1 ?side2 A27.out).mono ?_); (case side1 => repeat (first | exact (Kd.C_below HR0.out HB.out) | (with_reducible refine Kd.C_alloc ?_ _) | (with_reducible refine Kd.C_drewN ?_ _) | (with_reducible refine Kd.C_drew ?_))); (case side2 => exact HC0.out); rintro e w53 ⟨rfl, hb⟩; have n0_ := Aside0.mk (Kd.R_below (by (with_reducible repeat (first | apply Kd.R_alloc | apply Kd.R_drewN | apply Kd.R_drew)); exact HO417.out) hb); have n1_ := Aside0.mk (Kd.R_below (by (with_reducible repeat (first | apply Kd.R_alloc | apply Kd.R_drewN | apply Kd.R_drew)); exact HO422.out) hb); have n2_ := Aside0.mk (Kd.R_below (by (with_reducible repeat (first | apply Kd.R_alloc | apply Kd.R_drewN | apply Kd.R_drew)); exact HO424.out) hb); have n3_ := Aside0.mk (Kd.R_below (by (with_reducible repeat (first | apply Kd.R_alloc | apply Kd.R_drewN | apply Kd.R_drew)); exact HO429.out) hb); have n4_ := Aside0.mk (Kd.R_below (by (with_reducible repeat (first | apply Kd.R_alloc | apply Kd.R_drewN | apply Kd.R_drew)); exact HO431.out) hb); have n5_ := Aside0.mk (Kd.R_below (by (with_reducible repeat (first | apply Kd.R_alloc | apply Kd.R_drewN | apply Kd.R_drew)); exact HO435.out) hb); have n6_ := Aside0.mk (Kd.R_below (by (with_reducible repeat (first | apply Kd.R_alloc | apply Kd.R_drewN | apply Kd.R_drew)); exact HO439.out) hb); have n7_ := Aside0.mk (below_step (by repeat (first | (with_reducible first | exact HB.out | apply below_alloc | apply pw_below_drewN | apply below_drew1) | exact HB.out)) hb); clear HO417; clear HO422; clear HO424; clear HO429; clear HO431; clear HO435; clear HO439; clear HB; have HO417 := n0_; have HO422 := n1_; have HO424 := n2_; have HO429 := n3_; have HO431 := n4_; have HO435 := n5_; have HO439 := n6_; have HB := n7_; clear n0_ n1_ n2_ n3_ n4_ n5_ n6_ n7_; (try clear hb); (try clear hb2); (try clear hk); (try clear hi)) | (go_at_call 21; (with_reducible refine (alloc_Inodes.calls _ _ t415 t449 _ ?side1 ?side2 A29.out).mono ?_); (case side1 => repeat (first | exact (Kd.R_reads' HO417.out).2.2 | (with_reducible refine Kd.C_alloc ?_ _) | (with_reducible refine Kd.C_drewN ?_ _) | (with_reducible refine Kd.C_drew ?_))); (case side2 => exact (Kd.R_reads' HO417.out).2.1); rintro e w54 ⟨rfl, hb⟩; have n0_ := Aside0.mk (Kd.R_below (by (with_reducible repeat (first | apply Kd.R_alloc | apply Kd.R_drewN | apply Kd.R_drew)); exact HO417.out) hb); have n1_ := Aside0.mk (Kd.R_below (by (with_reducible repeat (first | apply Kd.R_alloc | apply Kd.R_drewN | apply Kd.R_drew)); exact HO422.out) hb); have n2_ := Aside0.mk (Kd.R_below (by (with_reducible repeat (first | apply Kd.R_alloc | apply Kd.R_drewN | apply Kd.R_drew)); exact HO424.out) hb); have n3_ := Aside0.mk (Kd.R_below (by (with_reducible repeat (first | apply Kd.R_alloc | apply Kd.R_drewN | apply Kd.R_drew)); exact HO429.out) hb); have n4_ := Aside0.mk (Kd.R_below (by (with_reducible repeat (first | apply Kd.R_alloc | apply Kd.R_drewN | apply Kd.R_drew)); exact HO431.out) hb); have n5_ := Aside0.mk (Kd.R_below (by (with_reducible repeat (first | apply Kd.R_alloc | apply Kd.R_drewN | apply Kd.R_drew)); exact HO435.out) hb); have n6_ := Aside0.mk (Kd.R_below (by (with_reducible repeat (first | apply Kd.R_alloc | apply Kd.R_drewN | apply Kd.R_drew)); exact HO439.out) hb); have n7_ := Aside0.mk (below_step (by repeat (first | (with_reducible first | exact HB.out | apply below_alloc | apply pw_below_drewN | apply below_drew1) | exact HB.out)) hb); clear HO417; clear HO422; clear HO424; clear HO429; clear HO431; clear HO435; clear HO439; clear HB; have HO417 := n0_; have HO422 := n1_; have HO424 := n2_; have HO429 := n3_; have HO431 := n4_; have HO435 := n5_; have HO439 := n6_; have HB := n7_; clear n0_ n1_ n2_ n3_ n4_ n5_ n6_ n7_; (try clear hb); (try clear hb2); (try clear hk); (try clear hi)) | (go_at_call 22; (with_reducible refine (almanacref04_Inodes.calls _ _ l0 t450 _ ?side1 ?side2 A30.out).mono ?_); (case side1 => repeat (first | exact (Kd.C_below HR0.out HB.out) | (with_reducible refine Kd.C_alloc ?_ _) | (with_reducible refine Kd.C_drewN ?_ _) | (with_reducible refine Kd.C_drew ?_))); (case side2 => exact HC0.out); rintro e w55 ⟨rfl, hb⟩; have n0_ := Aside0.mk (Kd.R_below (by (with_reducible repeat (first | apply Kd.R_alloc | apply Kd.R_drewN | apply Kd.R_drew)); exact HO417.out) hb); have n1_ := Aside0.mk (Kd.R_below (by (with_reducible repeat (first | apply Kd.R_alloc | apply Kd.R_drewN | apply Kd.R_drew)); exact HO422.out) hb); have n2_ := Aside0.mk (Kd.R_below (by (with_reducible repeat (first | apply Kd.R_alloc | apply Kd.R_drewN | apply Kd.R_drew)); exact HO424.out) hb); have n3_ := Aside0.mk (Kd.R_below (by (with_reducible repeat (first | apply Kd.R_alloc | apply Kd.R_drewN | apply Kd.R_drew)); exact HO429.out) hb); have n4_ := Aside0.mk (Kd.R_below (by (with_reducible repeat (first | apply Kd.R_alloc | apply Kd.R_drewN | apply Kd.R_drew)); exact HO431.out) hb); have n5_ := Aside0.mk (Kd.R_below (by (with_reducible repeat (first | apply Kd.R_alloc | apply Kd.R_drewN | apply Kd.R_drew)); exact HO435.out) hb); have n6_ := Aside0.mk (Kd.R_below (by (with_reducible repeat (first | apply Kd.R_alloc | apply Kd.R_drewN | apply Kd.R_drew)); exact HO439.out) hb); have n7_ := Aside0.mk (below_step (by repeat (first | (with_reducible first | exact HB.out | apply below_alloc | apply pw_below_drewN | apply below_drew1) | exact HB.out)) hb); clear HO417; clear HO422; clear HO424; clear HO429; clear HO431; clear HO435; clear HO439; clear HB; have HO417 := n0_; have HO422 := n1_; have HO424 := n2_; have HO429 := n3_; have HO431 := n4_; have HO435 := n5_; have HO439 := n6_; have HB := n7_; clear n0_ n1_ n2_ n3_ n4_ n5_ n6_ n7_; (try clear hb); (try clear hb2); (try clear hk); (try clear hi)) | (go_at_call 13; (with_reducible refine (almanacref03_Texts.calls k _ _ t415 _ _ l0 true _ ?side1 ?side2 ?side3 ?side4 A32.out).mono ?_); (case side1 => repeat (first | exact (Kd.R_reads' HO417.out).2.2 | (with_reducible refine Kd.C_alloc ?_ _) | (with_reducible refine Kd.C_drewN ?_ _) | (with_reducible refine Kd.C_drew ?_))); (case side2 => exact (Kd.R_reads' HO417.out).2.1); (case side3 => repeat (first | exact (Kd.C_below HR0.out HB.out) | (with_reducible refine Kd.C_alloc ?_ _) | (with_reducible refine Kd.C_drewN ?_ _) | (with_reducible refine Kd.C_drew ?_))); (case side4 => exact HC0.out); rintro e w56 ⟨rfl, hb⟩; have n0_ := Aside0.mk (Kd.R_below (by (with_reducible repeat (first | apply Kd.R_alloc | apply Kd.R_drewN | apply Kd.R_drew)); exact HO417.out) hb); have n1_ := Aside0.mk (Kd.R_below (by (with_reducible repeat (first | apply Kd.R_alloc | apply Kd.R_drewN | apply Kd.R_drew)); exact HO422.out) hb); have n2_ := Aside0.mk (Kd.R_below (by (with_reducible repeat (first | apply Kd.R_alloc | apply Kd.R_drewN | apply Kd.R_drew)); exact HO424.out) hb); have n3_ := Aside0.mk (Kd.R_below (by (with_reducible repeat (first | apply Kd.R_alloc | apply Kd.R_drewN | apply Kd.R_drew)); exact HO429.out) hb); have n4_ := Aside0.mk (Kd.R_below (by (with_reducible repeat (first | apply Kd.R_alloc | apply Kd.R_drewN | apply Kd.R_drew)); exact HO431.out) hb); have n5_ := Aside0.mk (Kd.R_below (by (with_reducible repeat (first | apply Kd.R_alloc | apply Kd.R_drewN | apply Kd.R_drew)); exact HO435.out) hb); have n6_ := Aside0.mk (Kd.R_below (by (with_reducible repeat (first | apply Kd.R_alloc | apply Kd.R_drewN | apply Kd.R_drew)); exact HO439.out) hb); have n7_ := Aside0.mk (below_step (by repeat (first | (with_reducible first | exact HB.out | apply below_alloc | apply pw_below_drewN | apply below_drew1) | exact HB.out)) hb); clear HO417; clear HO422; clear HO424; clear HO429; clear HO431; clear HO435; clear HO439; clear HB; have HO417 := n0_; have HO422 := n1_; have HO424 := n2_; have HO429 := n3_; have HO431 := n4_; have HO435 := n5_; have HO439 := n6_; have HB := n7_; clear n0_ n1_ n2_ n3_ n4_ n5_ n6_ n7_; (try clear hb); (try clear hb2); (try clear hk); (try clear hi)) | (go_at_call 7; (with_reducible refine (almanaclaw04_awake.calls k  t452 _ A34.out).mono ?_); rintro e w57 ⟨rfl, hb⟩; have n0_ := Aside0.mk (Kd.R_below (by (with_reducible repeat (first | apply Kd.R_alloc | apply Kd.R_drewN | apply Kd.R_drew)); exact HO417.out) hb); have n1_ := Aside0.mk (Kd.R_below (by (with_reducible repeat (first | apply Kd.R_alloc | apply Kd.R_drewN | apply Kd.R_drew)); exact HO422.out) hb); have n2_ := Aside0.mk (Kd.R_below (by (with_reducible repeat (first | apply Kd.R_alloc | apply Kd.R_drewN | apply Kd.R_drew)); exact HO424.out) hb); have n3_ := Aside0.mk (Kd.R_below (by (with_reducible repeat (first | apply Kd.R_alloc | apply Kd.R_drewN | apply Kd.R_drew)); exact HO429.out) hb); have n4_ := Aside0.mk (Kd.R_below (by (with_reducible repeat (first | apply Kd.R_alloc | apply Kd.R_drewN | apply Kd.R_drew)); exact HO431.out) hb); have n5_ := Aside0.mk (Kd.R_below (by (with_reducible repeat (first | apply Kd.R_alloc | apply Kd.R_drewN | apply Kd.R_drew)); exact HO435.out) hb); have n6_ := Aside0.mk (Kd.R_below (by (with_reducible repeat (first | apply Kd.R_alloc | apply Kd.R_drewN | apply Kd.R_drew)); exact HO439.out) hb); have n7_ := Aside0.mk (below_step (by repeat (first | (with_reducible first | exact HB.out | apply below_alloc | apply pw_below_drewN | apply below_drew1) | exact HB.out)) hb); clear HO417; clear HO422; clear HO424; clear HO429; clear HO431; clear HO435; clear HO439; clear HB; have HO417 := n0_; have HO422 := n1_; have HO424 := n2_; have HO429 := n3_; have HO431 := n4_; have HO435 := n5_; have HO439 := n6_; have HB := n7_; clear n0_ n1_ n2_ n3_ n4_ n5_ n6_ n7_; (try clear hb); (try clear hb2); (try clear hk); (try clear hi)))
                        go_ret
                        exact ⟨by first | rfl | (simp [errW_none, errW_some] <;> rfl) | (simp [*, errW_none, errW_some] <;> rfl), by repeat (first | (with_reducible first | exact HB.out | apply below_alloc | apply pw_below_drewN | apply below_drew1) | exact HB.out)⟩
                      · replace c33 := Bool.eq_false_iff.mpr c33
                        subst c33
                        have H1 : (some false) = some r := by rw [if_neg (show ¬ (false = true) by decide)] at H; exact H
                        clear H
                        have H := H1
                        clear H1
                        exact absurd ((Option.some.inj H).trans HRT.out) (by decide)
                    · rw [if_neg c31] at H
                      have c31b0 : (t449 == t450) = false := beq_eq_false_iff_ne.mpr c31
                      have c31b1 : (t449 != t450) = true := bne_iff_ne.mpr c31
                      exact absurd ((Option.some.inj H).trans HRT.out) (by decide)
                  · rw [if_neg c28] at H
                    have c28b0 : (t447 == t448) = false := beq_eq_false_iff_ne.mpr c28
                    have c28b1 : (t447 != t448) = true := bne_iff_ne.mpr c28
                    exact absurd ((Option.some.inj H).trans HRT.out) (by decide)
                · rw [if_neg c25] at H
                  have c25b0 : (t445 == t446) = false := beq_eq_false_iff_ne.mpr c25
                  have c25b1 : (t445 != t446) = true := bne_iff_ne.mpr c25
                  exact absurd ((Option.some.inj H).trans HRT.out) (by decide)
              · rw [if_neg c22] at H
                have c22b0 : (t443 == t444) = false := by simpa using c22
                (try (have c22b1 : decide (t443 = t444) = false := by simpa using c22))
                (try (have c22b2 : (t443 == t444) = false := by simpa using c22))
                (try (have c22b3 : ¬ (t443 = t444) := by simpa using c22))
                clear c22
                exact absurd ((Option.some.inj H).trans HRT.out) (by decide)
            · rw [if_neg c19] at H
              have c19b0 : (t433 == t437) = false := beq_eq_false_iff_ne.mpr c19
              have c19b1 : (t433 != t437) = true := bne_iff_ne.mpr c19
              exact absurd ((Option.some.inj H).trans HRT.out) (by decide)
          · replace c18 := Bool.eq_false_iff.mpr c18
            subst c18
            have H1 : (some false) = some r := by rw [if_neg (show ¬ (false = true) by decide)] at H; exact H
            clear H
            have H := H1
            clear H1
            exact absurd ((Option.some.inj H).trans HRT.out) (by decide)
        · rw [if_neg c16] at H
          have c16b0 : (t420 == t427) = false := beq_eq_false_iff_ne.mpr c16
          have c16b1 : (t420 != t427) = true := bne_iff_ne.mpr c16
          exact absurd ((Option.some.inj H).trans HRT.out) (by decide)
      · replace c15 := Bool.eq_false_iff.mpr c15
        subst c15
        have H1 : (some false) = some r := by rw [if_neg (show ¬ (false = true) by decide)] at H; exact H
        clear H
        have H := H1
        clear H1
        exact absurd ((Option.some.inj H).trans HRT.out) (by decide)
    · replace c13 := Bool.eq_false_iff.mpr c13
      subst c13
      have H1 : (some false) = some r := by rw [if_neg (show ¬ (false = true) by decide)] at H; exact H
      clear H
      have H := H1
      clear H1
      exact absurd ((Option.some.inj H).trans HRT.out) (by decide)
  · replace c6 := Bool.eq_false_iff.mpr c6
    subst c6
    have H1 : ((almanaclaw04_awake.f k).bind fun t414 => (some t414)) = some r := by rw [if_neg (show ¬ (false = true) by decide)] at H; exact H
    clear H
    have H := H1
    clear H1
    replace H := Option.bind_eq_some_iff.mp H
    obtain ⟨t414, A580, H⟩ := H
    replace H : (some t414) = some r := H
    have A58 := Aside0.mk A580
    clear A580
    obtain rfl := Option.some.inj H
    go_enter Try.func3, Try.ntmps3
    go_wp2_with (first | ((with_reducible refine gate_callee (f := 6) rfl ?_); refine goesL_ (some 21) rfl rfl Try.func6 (by kernel_rfl) rfl #[.slice A0 l0.length c0] rfl (by (try simp only [List.map_toArray, List.map_cons, List.map_nil]); first | done | rfl | (simp only [List.length_drop, List.length_take]; rfl)) ?_; (with_reducible refine (almanacref04_Fit.calls k _ _ l0 false _ ?side1 ?side2 A5.out).mono ?_); (case side1 => repeat (first | exact HR0.out | (with_reducible refine Kd.C_alloc ?_ _) | (with_reducible refine Kd.C_drewN ?_ _) | (with_reducible refine Kd.C_drew ?_))); (case side2 => exact HC0.out); rintro e w59 ⟨rfl, hb⟩; refine ⟨_, rfl, ?_⟩; have n0_ := Aside0.mk (below_step (by repeat (first | (with_reducible first | exact HB.out | apply below_alloc | apply pw_below_drewN | apply below_drew1) | exact HB.out)) hb); clear HB; have HB := n0_; clear n0_; (try clear hb); (try clear hb2); (try clear hk); (try clear hi)) | ((with_reducible refine gate_callee (f := 7) rfl ?_); refine goesL_ (some 23) rfl rfl Try.func7 (by kernel_rfl) rfl #[] rfl (by (try simp only [List.map_toArray, List.map_cons, List.map_nil]); first | done | rfl | (simp only [List.length_drop, List.length_take]; rfl)) ?_; (with_reducible refine (almanaclaw04_awake.calls k  t414 _ A58.out).mono ?_); rintro e w60 ⟨rfl, hb⟩; refine ⟨_, rfl, ?_⟩; have n0_ := Aside0.mk (below_step (by repeat (first | (with_reducible first | exact HB.out | apply below_alloc | apply pw_below_drewN | apply below_drew1) | exact HB.out)) hb); clear HB; have HB := n0_; clear n0_; (try clear hb); (try clear hb2); (try clear hk); (try clear hi)))
    go_ret
    exact ⟨by first | rfl | (simp [errW_none, errW_some] <;> rfl) | (simp [*, errW_none, errW_some] <;> rfl), by repeat (first | (with_reducible first | exact HB.out | apply below_alloc | apply pw_below_drewN | apply below_drew1) | exact HB.out)⟩

end Go.Proofs.Ytihnifpcpokpjaa.PD
/- The law AllocTells, in plain words. -/
namespace Go.Proofs.Ytihnifpcpokpjaa.PD
open Go.RowKit Go.Proofs.YtihnifpcpokpjaaW.PrintWords Go.Proofs.YtihnifpcpokpjaaW.PrintLast Go.Proofs.YtihnifpcpokpjaaW.PrintMore
set_option linter.unusedVariables false
set_option linter.unusedSimpArgs false
theorem awake_any (k : Nat) (h : 100 ≤ k) : almanaclaw04_awake.f k = some true := at_rounds (fun k => almanaclaw04_awake.mono k) h awake_val
theorem freeL_len (im : List ByteArray) : (freeL im).length ≤ im.length := by
  unfold freeL openFrom
  rw [List.length_map]
  refine Nat.le_trans (List.length_filter_le _ _) ?_
  rw [List.length_range']
  omega
theorem take_shape (im : List ByteArray) (n : Int) (hf : fitI im) : ∃ T, alloc_Take.f im n = some T ∧ T.1.length = im.length ∧ T.2.1.length ≤ im.length := by
  unfold alloc_Take.f
  rw [if_pos hf]
  refine ⟨_, rfl, ?_⟩
  split
  · exact ⟨rfl, Nat.zero_le _⟩
  · split
    · exact ⟨rfl, Nat.zero_le _⟩
    · exact ⟨takeB_len _ _, by rw [List.length_take]; exact Nat.le_trans (Nat.min_le_right _ _) (freeL_len im)⟩
theorem give_shape (im : List ByteArray) (l : List Int) (hf : fitI im) (hb : l.length * 8 ≤ 140737488355328) : ∃ T, alloc_Give.f im l = some T ∧ T.1.length = im.length := by
  unfold alloc_Give.f
  rw [if_pos ⟨hf, hb⟩]
  refine ⟨_, rfl, ?_⟩
  split
  · rfl
  · split
    · rfl
    · exact giveB_len _ _
theorem free_some (im : List ByteArray) (hf : fitI im) : alloc_Free.f im = some (((freeL im).length : Nat) : Int) := by unfold alloc_Free.f; rw [if_pos hf]
theorem allocTells_pure (im : List ByteArray) (n : Int) (l : List Int) (a : Int) (hl : l.length * 8 ≤ 140737488355328) : ∃ k, almanaclaw04_AllocTells.f k im n l a = some true := by
  refine ⟨2 * l.length + 6000, ?_⟩
  unfold almanaclaw04_AllocTells.f
  rw [rfit_val _ im (by omega), Option.bind_some]
  cases hfit : fitB im with
  | false =>
    rw [if_neg (by simp), awake_any _ (by omega)]
    rfl
  | true =>
    have hf := fitB_fitI im hfit
    have h2 := hf.2.1
    obtain ⟨T, hT, hT1, hT2⟩ := take_shape im n hf
    obtain ⟨G, hG, hG1⟩ := give_shape im l hf hl
    rw [if_pos rfl, own_val im (by omega), Option.bind_some, hT, Option.bind_some, rtake_val _ im hf n (by omega), hT, Option.bind_some, hG, Option.bind_some, rgive_val _ im hf l hl (by omega), hG, Option.bind_some,
      texts_self _ _ (by omega) (by omega), Option.bind_some, if_pos rfl, ints_self _ _ (by omega) (by omega), Option.bind_some, if_pos rfl, if_pos rfl, texts_self _ _ (by omega) (by omega), Option.bind_some, if_pos rfl, if_pos rfl,
      ataken_val im hf, Option.bind_some, rtaken_val im hf, Option.bind_some, if_pos (by simp), free_some im hf, Option.bind_some, rfree_val _ im hf (by omega), Option.bind_some, if_pos rfl,
      afirst_val im (by omega), Option.bind_some, rfirst_val im (by omega), Option.bind_some, if_pos rfl, inodes_some im (by omega), Option.bind_some, ← inodes_same im (by omega), inodes_some im (by omega), Option.bind_some, if_pos rfl,
      texts_self _ _ (by omega) (by omega), Option.bind_some, if_pos rfl, awake_any _ (by omega)]
    rfl
end Go.Proofs.Ytihnifpcpokpjaa.PD
namespace Go.Proofs.Ytihnifpcpokpjaa.PD
open Go.ChangeShapes Go.WideShapes Go.ChangeAt Go.RowKit Go.Proofs.YtihnifpcpokpjaaW.PrintWords
set_option linter.unusedVariables false
namespace AllocTellsRow
open _root_.Go.Proofs.Ytihnifpcpokpjaa.Rows
set_option maxRecDepth 100000 in
theorem lifted (os : Os) (started : os.Started) (H : Type) (enc : TypeId × Value → H) :
    ReturnsInHanded {} Try.checked os 3 .any (allocTellsSpec.pre6 enc Try.prog Try.f3 allocTellsRow.domain false) (allocTellsSpec.post enc Try.prog Try.f3 false true false false) := by
  refine returnsInHanded_of_change_sized (C := Try.checked) own started (by kernel_rfl) Try.func3
    (ChangeSpec.witness6 (enc := enc) (C := Try.checked) false ⟨#[], #[.slice none 0 0, .int .i64 0, .slice none 0 0, .int .i64 0], []⟩ 8 (by kernel_rfl) (by kernel_rfl) (by kernel_rfl) (by kernel_rfl)) ?_
  intro W base args ds gs before hval0 hW hcnd hsz0 _
  have hsz : (DataW.weightsEach Try.prog (Try.f3.params.toList ++ allocTellsSpec.plain.varTypes Try.prog) (ds ++ gs)).all (· ≤ reachBytes) = true := hsz0
  have hval : ∀ (j : Nat) t v, Try.f3.params[j]? = some t → args[j]? = some v → Value.okWide Try.prog W .any base t v := hval0
  have hW' := hW
  obtain ⟨p, q, hA0, hV, rfl, hfz, hnd⟩ := hW
  have hA : DataW.TrodAll enc Try.prog W 0 (fun _ => true) true Try.f3.params.toList args.toList ds p := hA0
  rw [Try.params3] at hA hval hsz
  obtain ⟨v0, vs0, d0, ds0, p0, q0, hargs, rfl, rfl, h0, r0⟩ := trodAll_cons hA
  obtain ⟨v1, vs1, d1, ds1, p1, q1, rfl, rfl, rfl, h1, r1⟩ := trodAll_cons r0
  obtain ⟨v2, vs2, d2, ds2, p2, q2, rfl, rfl, rfl, h2, r2⟩ := trodAll_cons r1
  obtain ⟨v3, vs3, d3, ds3, p3, q3, rfl, rfl, rfl, h3, r3⟩ := trodAll_cons r2
  obtain ⟨rfl, rfl, rfl⟩ := trodAll_nil r3
  obtain rfl : args = #[v0, v1, v2, v3] := by cases args; simp_all
  obtain ⟨rfl, rfl⟩ := trodVars_none hV
  obtain ⟨A0, c0, l0, rfl, x0, y0⟩ := open_strs (hval 0 22 v0 rfl rfl) h0 (weighs hsz (j := 0) rfl rfl)
  obtain ⟨n1, rfl, rfl, rfl, w1⟩ := open_int Try.underlying3 (hval 1 3 v1 rfl rfl) h1
  obtain ⟨A2, c2, l2, rfl, x2, y2, z2⟩ := open_nums (hval 2 23 v2 rfl rfl) h2 (weighs hsz (j := 2) rfl rfl)
  obtain ⟨n3, rfl, rfl, rfl, w3⟩ := open_int Try.underlying3 (hval 3 3 v3 rfl rfl) h3
  have k0 := h0
  have k2 := h2
  have lt0 : ∀ x ∈ p0, x.block < W.heap.size := by obtain ⟨m, hm⟩ := k0; exact DataW.trod_lt m _ _ _ hm
  have lt2 : ∀ x ∈ p2, x.block < W.heap.size := by obtain ⟨m, hm⟩ := k2; exact DataW.trod_lt m _ _ _ hm
  clear hA0 hval0 hsz0 hsz
  obtain ⟨k, hk⟩ := allocTells_pure l0 n1 l2 n3 z2
  refine (almanaclaw04_AllocTells.callsT k A0 c0 l0 n1 A2 c2 l2 n3 true W x0 y0 x2 y2 hk rfl).mono fun e W' ⟨he, bel⟩ => ?_
  subst he
  exact ⟨_, rfl, _, _, _, [], _, [], hW', trodAll_mk1 (shut_bool Try.underlying4 _), (trodAll_cons_mk (Below.trod laidOut (by kernel_rfl) (of_decide_eq_true (by kernel_rfl)) k0 bel lt0) (trodAll_cons_mk (shut_int Try.underlying3 w1) (trodAll_cons_mk (Below.trod laidOut (by kernel_rfl) (of_decide_eq_true (by kernel_rfl)) k2 bel lt2) (trodAll_cons_mk (shut_int Try.underlying3 w3) trodAll_mk0)))), rfl, bel.frame _, fun h => by cases h⟩
theorem over : allocTellsRow.holds Try.pinned (OpenSpec.ofChange allocTellsSpec) :=
  OpenClaim.holds_of_wide 3 Try.f3 rfl rfl rfl rfl rfl rfl rfl ⟨rfl, rfl, rfl, rfl, rfl⟩ rfl rfl rfl rfl rfl (by kernel_rfl) Try.func3 (by kernel_rfl)
    (of_decide_eq_true (by kernel_rfl)) (by unfold Func.isWrapper; first | (rw [if_pos (by decide +kernel)]; kernel_rfl) | (rw [if_neg (by decide +kernel)]; exact ⟨rfl, rfl⟩))
    (fun os started H enc _ => lifted os started H enc)
end AllocTellsRow
theorem allocTells_holds : Rows.AllocTellsSaid := AllocTellsRow.over
end Go.Proofs.Ytihnifpcpokpjaa.PD
