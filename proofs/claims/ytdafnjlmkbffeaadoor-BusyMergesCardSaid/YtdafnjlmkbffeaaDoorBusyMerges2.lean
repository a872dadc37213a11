/- Part 2 of the texts that the claim leans on: the functions' walks, and what they compute. -/
import Derived.Test.YtdafnjlmkbffeaaDoorBusyMerges1
import Derived.RangeFuncNested
import Derived.RangeFuncLeaves
import Derived.RangeFuncWrites
import Derived.RangeFuncBox
import Derived.RangeFuncCalls
import Derived.WalkKit
import Derived.WalkMore
import Derived.OwnWalkIn
import Derived.TacticsInMore
import Derived.LoopNIn
import Derived.LoopIn
import Derived.Below
import Derived.Shelf.RegionOpen
-- written by a program of this work (mk.sh, over the kit's print; stubs are proved by hand)
namespace Go.Proofs.YtdafnjlmkbffeaaDoor.PD
open Go.RowKit Go.Proofs.YtdafnjlmkbffeaaDoorW.PrintWords Go.Proofs.YtdafnjlmkbffeaaDoorW.PrintLast Go.Proofs.YtdafnjlmkbffeaaDoorW.PrintMore
attribute [local go_sem] isSome_setCell max2_int min2_int max_two min_two max_three min_three max_four min_four   -- for this text's walks alone
set_option linter.unusedVariables false
set_option linter.unusedSimpArgs false

/-! ### almanacref25_Merge: function 6 -/
mutual
def almanacref25_Merge.l0 : Nat → List (S26) → List (S26) → Int → Option ((List (S26)))
  | 0, _, _, _ => none
  | k + 1, x0, x3, x4 => if x4 < (x0.length : Int) then (if 0 ≤ x4 then (if ((rd_T26 x0 x4).f1) ≤ ((rd_T26 x0 x4).f0) then (almanacref25_Merge.l0 k x0 x3 (wrap64 (x4 + 1))) else (if x3.length < 5864062014805 then ((some (x3 ++ [(⟨(rd_T26 x0 x4).f0, (rd_T26 x0 x4).f1, (rd_T26 x0 x4).f2⟩ : S26)] : List (S26))).bind fun y131 => (almanacref25_Merge.l1 k x0 y131 x4 (wrap64 ((y131.length : Int) - 1)))) else (none))) else (none)) else (almanacref25_Merge.l2 k x3 ([] : List (S26)) 0)
def almanacref25_Merge.l1 : Nat → List (S26) → List (S26) → Int → Int → Option ((List (S26)))
  | 0, _, _, _, _ => none
  | k + 1, x0, x3, x4, x5 => if x5 > 0 then (if 0 ≤ x5 then (if x5 < (x3.length : Int) then (if 0 ≤ (wrap64 (x5 - 1)) then (if (wrap64 (x5 - 1)) < (x3.length : Int) then (if ((rd_T26 x3 x5).f0) < ((rd_T26 x3 (wrap64 (x5 - 1))).f0) then (almanacref25_Merge.l1 k x0 ((x3.set (x5 : Int).toNat (⟨(rd_T26 x3 (wrap64 (x5 - 1))).f0, (rd_T26 x3 (wrap64 (x5 - 1))).f1, (rd_T26 x3 (wrap64 (x5 - 1))).f2⟩ : S26)).set ((wrap64 (x5 - 1)) : Int).toNat (⟨(rd_T26 x3 x5).f0, (rd_T26 x3 x5).f1, (rd_T26 x3 x5).f2⟩ : S26)) x4 (wrap64 (x5 - 1))) else (almanacref25_Merge.l0 k x0 x3 (wrap64 (x4 + 1)))) else (none)) else (none)) else (none)) else (none)) else (almanacref25_Merge.l0 k x0 x3 (wrap64 (x4 + 1)))
def almanacref25_Merge.l2 : Nat → List (S26) → List (S26) → Int → Option ((List (S26)))
  | 0, _, _, _ => none
  | k + 1, x3, x6, x7 => if x7 < (x3.length : Int) then (if (x6.length : Int) > 0 then (if 0 ≤ x7 then (if 0 ≤ (wrap64 ((x6.length : Int) - 1)) then (if (wrap64 ((x6.length : Int) - 1)) < (x6.length : Int) then (if ((rd_T26 x3 x7).f0) ≤ ((rd_T26 x6 (wrap64 ((x6.length : Int) - 1))).f1) then (almanacref25_Merge.l2 k x3 (x6.set ((wrap64 ((x6.length : Int) - 1)) : Int).toNat (⟨(rd_T26 x6 (wrap64 ((x6.length : Int) - 1))).f0, mx ((rd_T26 x6 (wrap64 ((x6.length : Int) - 1))).f1) ((rd_T26 x3 x7).f1), (rd_T26 x6 (wrap64 ((x6.length : Int) - 1))).f2⟩ : S26)) (wrap64 (x7 + 1))) else (if x6.length < 5864062014805 then (almanacref25_Merge.l2 k x3 (x6 ++ [(⟨(rd_T26 x3 x7).f0, (rd_T26 x3 x7).f1, (rd_T26 x3 x7).f0⟩ : S26)]) (wrap64 (x7 + 1))) else (none))) else (none)) else (none)) else (none)) else (if 0 ≤ x7 then (if x6.length < 5864062014805 then (almanacref25_Merge.l2 k x3 (x6 ++ [(⟨(rd_T26 x3 x7).f0, (rd_T26 x3 x7).f1, (rd_T26 x3 x7).f0⟩ : S26)]) (wrap64 (x7 + 1))) else (none)) else (none))) else (some x6)
end
def almanacref25_Merge.f (k : Nat) (l0 : List (S26)) : Option ((List (S26))) := almanacref25_Merge.l0 k l0 ([] : List (S26)) 0
theorem almanacref25_Merge.mono_l : ∀ k, (∀ y0 y1 y2, LeO (almanacref25_Merge.l0 k y0 y1 y2) (almanacref25_Merge.l0 (k + 1) y0 y1 y2)) ∧ (∀ y0 y1 y2 y3, LeO (almanacref25_Merge.l1 k y0 y1 y2 y3) (almanacref25_Merge.l1 (k + 1) y0 y1 y2 y3)) ∧ (∀ y0 y1 y2, LeO (almanacref25_Merge.l2 k y0 y1 y2) (almanacref25_Merge.l2 (k + 1) y0 y1 y2))
  | 0 => ⟨fun _ _ _ r h => by simp [almanacref25_Merge.l0] at h, fun _ _ _ _ r h => by simp [almanacref25_Merge.l1] at h, fun _ _ _ r h => by simp [almanacref25_Merge.l2] at h⟩
  | k + 1 => by
    obtain ⟨ih0, ih1, ih2⟩ := almanacref25_Merge.mono_l k
    refine ⟨?_, ?_, ?_⟩
    · intro y0 y1 y2
      unfold almanacref25_Merge.l0
      repeat' first
      | (with_reducible exact ih0 _ _ _)
      | (with_reducible exact ih1 _ _ _ _)
      | (with_reducible exact ih2 _ _ _)
      | (with_reducible exact LeO.refl _)
      | (with_reducible exact LeO.none _)
      | (with_reducible refine LeO.ite ?_ ?_)
      | (with_reducible refine LeO.bind ?_ (fun _ => ?_))
      | exact ih0 _ _ _
      | exact ih1 _ _ _ _
      | exact ih2 _ _ _
      | exact LeO.none _
      | refine LeO.ite ?_ ?_
      | refine LeO.bind ?_ (fun _ => ?_)
    · intro y0 y1 y2 y3
      unfold almanacref25_Merge.l1
      repeat' first
      | (with_reducible exact ih0 _ _ _)
      | (with_reducible exact ih1 _ _ _ _)
      | (with_reducible exact ih2 _ _ _)
      | (with_reducible exact LeO.refl _)
      | (with_reducible exact LeO.none _)
      | (with_reducible refine LeO.ite ?_ ?_)
      | (with_reducible refine LeO.bind ?_ (fun _ => ?_))
      | exact ih0 _ _ _
      | exact ih1 _ _ _ _
      | exact ih2 _ _ _
      | exact LeO.none _
      | refine LeO.ite ?_ ?_
      | refine LeO.bind ?_ (fun _ => ?_)
    · intro y0 y1 y2
      unfold almanacref25_Merge.l2
      repeat' first
      | (with_reducible exact ih0 _ _ _)
      | (with_reducible exact ih1 _ _ _ _)
      | (with_reducible exact ih2 _ _ _)
      | (with_reducible exact LeO.refl _)
      | (with_reducible exact LeO.none _)
      | (with_reducible refine LeO.ite ?_ ?_)
      | (with_reducible refine LeO.bind ?_ (fun _ => ?_))
      | exact ih0 _ _ _
      | exact ih1 _ _ _ _
      | exact ih2 _ _ _
      | exact LeO.none _
      | refine LeO.ite ?_ ?_
      | refine LeO.bind ?_ (fun _ => ?_)
theorem almanacref25_Merge.mono : ∀ a0 k, LeO (almanacref25_Merge.f k a0) (almanacref25_Merge.f (k + 1) a0) := by
  intro a0 k
  obtain ⟨ih0, ih1, ih2⟩ := almanacref25_Merge.mono_l k
  unfold almanacref25_Merge.f
  repeat' first
      | (with_reducible exact ih0 _ _ _)
      | (with_reducible exact ih1 _ _ _ _)
      | (with_reducible exact ih2 _ _ _)
      | (with_reducible exact LeO.refl _)
      | (with_reducible exact LeO.none _)
      | (with_reducible refine LeO.ite ?_ ?_)
      | (with_reducible refine LeO.bind ?_ (fun _ => ?_))
      | exact ih0 _ _ _
      | exact ih1 _ _ _ _
      | exact ih2 _ _ _
      | exact LeO.none _
      | refine LeO.ite ?_ ?_
      | refine LeO.bind ?_ (fun _ => ?_)
def almanacref25_Merge.T5 : Bool × List (List Nat × List Nat) := (true, [([], []), ([], []), ([0, 1], [0, 1]), ([2], [2]), ([3], [3]), ([], []), ([], []), ([5, 6], [5, 6]), ([7], [7]), ([8], [8]), ([4, 9], [4, 9])])
def almanacref25_Merge.B5 : List Nat := [0, 0, 3, 7, 15, 0, 0, 96, 224, 480, 1023]
theorem almanacref25_Merge.tab5 : rtab .any (opsOf Tryd.f6 5) = almanacref25_Merge.T5 := by kernel_rfl
theorem almanacref25_Merge.bits5 : waitsOk almanacref25_Merge.T5.2 almanacref25_Merge.B5 = true := by kernel_rfl
def almanacref25_Merge.T8 : Bool × List (List Nat × List Nat) := (true, [([], []), ([0], [0]), ([1], [1]), ([2], [2]), ([2], [2]), ([3, 4, 2], [2, 3, 4]), ([5, 2], [2, 5]), ([6, 2], [2, 6]), ([2], [2]), ([2], [2]), ([9, 2], [2, 9]), ([8, 10, 2], [2, 8, 10]), ([11, 2], [2, 11]), ([12, 2], [2, 12]), ([7, 13, 2], [2, 7, 13]), ([2, 14], [2, 14])])
def almanacref25_Merge.B8 : List Nat := [0, 1, 3, 7, 7, 31, 63, 127, 7, 7, 519, 1799, 3847, 7943, 16383, 32767]
theorem almanacref25_Merge.tab8 : rtab .any (opsOf Tryd.f6 8) = almanacref25_Merge.T8 := by kernel_rfl
theorem almanacref25_Merge.bits8 : waitsOk almanacref25_Merge.T8.2 almanacref25_Merge.B8 = true := by kernel_rfl
def almanacref25_Merge.T10 : Bool × List (List Nat × List Nat) := (true, [([], []), ([], []), ([], []), ([], []), ([3], [3]), ([], []), ([], []), ([6], [6]), ([5, 7], [5, 7]), ([8], [8]), ([], []), ([], []), ([10, 11], [10, 11]), ([12], [12]), ([0, 1, 0, 1, 5, 6, 7, 8, 9, 13], [0, 1]), ([14, 9, 0, 1, 5, 6, 7, 8, 9, 13], [9, 14]), ([2, 4, 0, 1, 2, 3, 4, 5, 6, 7, 8, 9, 10, 11, 12, 13, 14, 15], [2, 4]), ([16, 13, 15, 0, 1, 2, 3, 4, 5, 6, 7, 8, 9, 10, 11, 12, 13, 14, 15], [13, 16])])
def almanacref25_Merge.B10 : List Nat := [0, 0, 0, 0, 8, 0, 0, 64, 224, 480, 0, 0, 3072, 7168, 16355, 32739, 65535, 131071]
theorem almanacref25_Merge.tab10 : rtab .any (opsOf Tryd.f6 10) = almanacref25_Merge.T10 := by kernel_rfl
theorem almanacref25_Merge.bits10 : waitsOk almanacref25_Merge.T10.2 almanacref25_Merge.B10 = true := by kernel_rfl
def almanacref25_Merge.T16 : Bool × List (List Nat × List Nat) := (true, [([], []), ([0], [0]), ([1], [1]), ([2], [2]), ([2], [2]), ([3, 4, 2], [2, 3, 4]), ([5, 2], [2, 5]), ([6, 2], [2, 6]), ([2], [2]), ([2], [2]), ([9, 2], [2, 9]), ([8, 10, 2], [2, 8, 10]), ([11, 2], [2, 11]), ([12, 2], [2, 12]), ([7, 13, 2], [2, 7, 13]), ([2, 14], [2, 14])])
def almanacref25_Merge.B16 : List Nat := [0, 1, 3, 7, 7, 31, 63, 127, 7, 7, 519, 1799, 3847, 7943, 16383, 32767]
theorem almanacref25_Merge.tab16 : rtab .any (opsOf Tryd.f6 16) = almanacref25_Merge.T16 := by kernel_rfl
theorem almanacref25_Merge.bits16 : waitsOk almanacref25_Merge.T16.2 almanacref25_Merge.B16 = true := by kernel_rfl
def almanacref25_Merge.T17 : Bool × List (List Nat × List Nat) := (true, [([], []), ([], []), ([1], [1]), ([], []), ([], []), ([4], [4]), ([3, 5], [3, 5]), ([6], [6]), ([7], [7]), ([], []), ([], []), ([9, 10], [9, 10]), ([11], [11]), ([12], [12]), ([8, 13], [8, 13]), ([0, 2, 0, 1, 2, 3, 4, 5, 6, 7, 8, 9, 10, 11, 12, 13, 14], [0, 2]), ([15, 0, 1, 2, 3, 4, 5, 6, 7, 8, 9, 10, 11, 12, 13, 14], [15]), ([16, 14, 0, 1, 2, 3, 4, 5, 6, 7, 8, 9, 10, 11, 12, 13, 14], [14, 16])])
def almanacref25_Merge.B17 : List Nat := [0, 0, 2, 0, 0, 16, 56, 120, 248, 0, 0, 1536, 3584, 7680, 16376, 32767, 65535, 131071]
theorem almanacref25_Merge.tab17 : rtab .any (opsOf Tryd.f6 17) = almanacref25_Merge.T17 := by kernel_rfl
theorem almanacref25_Merge.bits17 : waitsOk almanacref25_Merge.T17.2 almanacref25_Merge.B17 = true := by kernel_rfl
def almanacref25_Merge.T18 : Bool × List (List Nat × List Nat) := (true, [([], []), ([], []), ([], []), ([1, 2], [1, 2]), ([3], [3]), ([4], [4]), ([], []), ([], []), ([6, 7], [6, 7]), ([8], [8]), ([9], [9]), ([], []), ([], []), ([11, 12], [11, 12]), ([13], [13]), ([14], [14]), ([5, 10, 15], [5, 10, 15]), ([16], [16]), ([0, 17], [0, 17]), ([18, 18, 0, 1, 2, 3, 4, 5, 6, 7, 8, 9, 10, 11, 12, 13, 14, 15, 16, 17, 18], [0, 18])])
def almanacref25_Merge.B18 : List Nat := [0, 0, 0, 6, 14, 30, 0, 0, 192, 448, 960, 0, 0, 6144, 14336, 30720, 65534, 131070, 262143, 524287]
theorem almanacref25_Merge.tab18 : rtab .any (opsOf Tryd.f6 18) = almanacref25_Merge.T18 := by kernel_rfl
theorem almanacref25_Merge.bits18 : waitsOk almanacref25_Merge.T18.2 almanacref25_Merge.B18 = true := by kernel_rfl
set_option maxHeartbeats 8000000 in
set_option maxRecDepth 100000 in
theorem almanacref25_Merge.calls (k : Nat) (A0 : Option Addr) (c0 : Nat) (l0 : List (S26)) (r : List (S26)) (w : World) (hr0 : Kd.C k26 w A0 l0.length l0) (hc0 : l0.length ≤ c0) (h : almanacref25_Merge.f k l0 = some r) :
    Calls Tryd.prog 6 #[.slice A0 l0.length c0] w fun e w' => ∃ v0_ : Value, e = .returned (v0_) ∧ Kd.R k26 26 w' w.heap.size (fun _ => True) v0_ r ∧ Below w.heap.size w w' := by
  have hu26 := Tryd.underlying26
  have HR0 := Aside0.mk hr0
  have HC0 := Aside0.mk hc0
  clear hr0 hc0
  have HB := Aside0.mk (Below.refl w.heap.size w)
  have H : (almanacref25_Merge.l0 k l0 ([] : List (S26)) 0) = some r := h
  clear h
  have H' := Aside0.mk H
  clear H
  go_enter Tryd.func6, Tryd.ntmps6
  go_wp2
  go_loopg [3, 4] k (fun kq v3 v4 w' => ∃ (x3_1 : List (S26)) (x4_1 : Int), v4 = .int .i64 x4_1 ∧ Aside0 (almanacref25_Merge.l0 kq l0 x3_1 x4_1 = some r) ∧ Aside0 (kq ≤ k) ∧ Aside0 (Kd.R k26 26 w' w.heap.size (fun _ => True) v3 x3_1) ∧ Aside0 (Below w.heap.size w w'))
  case atStart => exact ⟨(([] : List (S26))), (0), (by first | rfl | (simp; done) | (simp [*]; done)), H', ⟨Nat.le_refl _⟩, ⟨by first | exact Kd.R_nil _ _ _ _ _ | exact Kd.N_nil _ _ _ _ _ | exact Kd.V_nil _ _ _ _ _ | exact Kd.Q_nil _ _ _ _ _ | exact Kd.S_nil _ _ _ _ _⟩, ⟨by repeat (first | (with_reducible first | exact HB.out | apply below_alloc | apply pw_below_drewN | apply below_drew1) | exact HB.out)⟩⟩
  case round =>
    clear H'
    obtain ⟨x3_1, x4_1, rfl, HA, HK1, HO_3, HB⟩ := hrel
    cases gk with
    | zero => exact absurd HA.out (by simp [almanacref25_Merge.l0])
    | succ k1 =>
      have H := HA.out
      clear HA
      simp only [almanacref25_Merge.l0] at H
      by_cases c2 : x4_1 < (l0.length : Int)
      · rw [if_pos c2] at H
        have c2b0 : decide (x4_1 < (l0.length : Int)) = true := decide_eq_true c2
        clear c2
        by_cases c3 : 0 ≤ x4_1
        · rw [if_pos c3] at H
          have c3b0 : decide (0 ≤ x4_1) = true := decide_eq_true c3
          clear c3
          by_cases c4 : ((rd_T26 l0 x4_1).f1) ≤ ((rd_T26 l0 x4_1).f0)
          · rw [if_pos c4] at H
            have c4b0 : decide (((rd_T26 l0 x4_1).f1) ≤ ((rd_T26 l0 x4_1).f0)) = true := decide_eq_true c4
            clear c4
            have H' := Aside0.mk H
            clear H
            try go_wp2
            have n0_ := Aside0.mk (Kd.R_drew HO_3.out)
            have n1_ := Aside0.mk (below_drew1 HB.out)
            clear HO_3
            clear HB
            have HO_3 := n0_
            have HB := n1_
            clear n0_ n1_
            have p128 : 0 ≤ (x4_1 : Int) := of_decide_eq_true (by first | (with_reducible assumption) | assumption)
            have q128 : x4_1 < (l0.length : Int) := of_decide_eq_true (by first | (with_reducible assumption) | assumption)
            obtain ⟨ad128, e128, hx128_0, hx128_1, hx128_2⟩ := at_T26 HR0.out x4_1 p128 q128
            have hw128_2 := hx128_2
            have hw128_1 := hx128_1
            have hw128_0 := hx128_0
            cases e128
            replace hx128_0 := (HB.out.cell (World.block_lt_of_cell? w _ hx128_0)).trans hx128_0
            replace hx128_1 := (HB.out.cell (World.block_lt_of_cell? w _ hx128_1)).trans hx128_1
            replace hx128_2 := (HB.out.cell (World.block_lt_of_cell? w _ hx128_2)).trans hx128_2
            replace p128 := eq_true p128
            replace q128 := eq_true q128
            have p129 : 0 ≤ (x4_1 : Int) := of_decide_eq_true (by first | (with_reducible assumption) | assumption)
            have q129 : x4_1 < (l0.length : Int) := of_decide_eq_true (by first | (with_reducible assumption) | assumption)
            obtain ⟨ad129, e129, hx129_0, hx129_1, hx129_2⟩ := at_T26 HR0.out x4_1 p129 q129
            have hw129_2 := hx129_2
            have hw129_1 := hx129_1
            have hw129_0 := hx129_0
            obtain rfl : ad128 = ad129 := (by injection e129)
            replace hx129_0 := (HB.out.cell (World.block_lt_of_cell? w _ hx129_0)).trans hx129_0
            replace hx129_1 := (HB.out.cell (World.block_lt_of_cell? w _ hx129_1)).trans hx129_1
            replace hx129_2 := (HB.out.cell (World.block_lt_of_cell? w _ hx129_2)).trans hx129_2
            replace p129 := eq_true p129
            replace q129 := eq_true q129
            refine start_ (n := 11) (S := fun w' => w'.cell? (ad128.add ((x4_1).toNat * 3)) = some (.int .i64 ((rd_T26 l0 x4_1).f0)) ∧ w'.cell? ⟨(ad128.add ((x4_1).toNat * 3)).block, (ad128.add ((x4_1).toNat * 3)).off + 1, none⟩ = some (.int .i64 ((rd_T26 l0 x4_1).f1)) ∧ w'.cell? ⟨(ad128.add ((x4_1).toNat * 3)).block, (ad128.add ((x4_1).toNat * 3)).off + 2, none⟩ = some (.int .i64 ((rd_T26 l0 x4_1).f2)) ∧ w'.cell? (ad128.add ((x4_1).toNat * 3)) = some (.int .i64 ((rd_T26 l0 x4_1).f0)) ∧ w'.cell? ⟨(ad128.add ((x4_1).toNat * 3)).block, (ad128.add ((x4_1).toNat * 3)).off + 1, none⟩ = some (.int .i64 ((rd_T26 l0 x4_1).f1)) ∧ w'.cell? ⟨(ad128.add ((x4_1).toNat * 3)).block, (ad128.add ((x4_1).toNat * 3)).off + 2, none⟩ = some (.int .i64 ((rd_T26 l0 x4_1).f2))) (ds := []) #[false, false, false, false, false, false, false, false, false, false, false] (by kernel_rfl) rfl rfl ⟨((HB.out.cell (World.block_lt_of_cell? w _ hw128_0)).trans hw128_0), ((HB.out.cell (World.block_lt_of_cell? w _ hw128_1)).trans hw128_1), ((HB.out.cell (World.block_lt_of_cell? w _ hw128_2)).trans hw128_2), ((HB.out.cell (World.block_lt_of_cell? w _ hw129_0)).trans hw129_0), ((HB.out.cell (World.block_lt_of_cell? w _ hw129_1)).trans hw129_1), ((HB.out.cell (World.block_lt_of_cell? w _ hw129_2)).trans hw129_2)⟩ (fun hHeld => ?_); refine with_tabW almanacref25_Merge.tab5 almanacref25_Merge.bits5 (fun HT_ HW_ => ?_)
            generalize wr.drew = w5 at HO_3 HB hx128_0 hx128_1 hx128_2 hx129_0 hx129_1 hx129_2 hHeld ⊢
            refine pure_ (i := 0) (N := some 15) (v := ?_) (a' := ?_) #[true, false, false, false, false, false, false, false, false, false, false] rfl rfl (any_of HT_.out (by kernel_rfl)) (fun _ _ _ h => h) (Or.inl ⟨by rfl, ?_⟩) ?_ ?_
            rotate_left
            · intro w'
              go_simp
              with_reducible rfl
            rotate_left
            · simp only [Act.put, List.setIfInBounds_toArray, List.set_cons_zero, List.set_cons_succ, i64_w, i32_w]
              rfl
            refine pure_ (i := 1) (N := some 16) (v := ?_) (a' := ?_) #[true, true, false, false, false, false, false, false, false, false, false] rfl rfl (any_of HT_.out (by kernel_rfl)) (fun _ _ _ h => h) (Or.inl ⟨by rfl, ?_⟩) ?_ ?_
            rotate_left
            · intro w'
              go_simp
              with_reducible rfl
            rotate_left
            · simp only [Act.put, List.setIfInBounds_toArray, List.set_cons_zero, List.set_cons_succ, i64_w, i32_w]
              rfl
            refine pure_ (i := 2) (N := some 17) (v := ?_) (a' := ?_) #[true, true, true, false, false, false, false, false, false, false, false] rfl rfl (any_of HT_.out (by kernel_rfl)) (fun _ _ _ h => h) (Or.inl ⟨by rfl, ?_⟩) ?_ ?_
            rotate_left
            · intro w'
              go_simp
              with_reducible rfl
            rotate_left
            · simp only [Act.put, List.setIfInBounds_toArray, List.set_cons_zero, List.set_cons_succ, i64_w, i32_w]
              rfl
            refine pure_ (i := 3) (N := some 18) (v := ?_) (a' := ?_) #[true, true, true, true, false, false, false, false, false, false, false] rfl rfl (any_of HT_.out (by kernel_rfl)) (fun _ _ _ h => h) (Or.inl ⟨by rfl, ?_⟩) ?_ ?_
            rotate_left
            · intro w'
              go_simp
              with_reducible rfl
            rotate_left
            · simp only [Act.put, List.setIfInBounds_toArray, List.set_cons_zero, List.set_cons_succ, i64_w, i32_w]
              rfl
            refine pure_ (i := 5) (N := some 20) (v := ?_) (a' := ?_) #[true, true, true, true, false, true, false, false, false, false, false] rfl rfl (any_of HT_.out (by kernel_rfl)) (fun _ _ _ h => h) (Or.inl ⟨by rfl, ?_⟩) ?_ ?_
            rotate_left
            · intro w'
              go_simp
              with_reducible rfl
            rotate_left
            · simp only [Act.put, List.setIfInBounds_toArray, List.set_cons_zero, List.set_cons_succ, i64_w, i32_w]
              rfl
            refine pure_ (i := 6) (N := some 21) (v := ?_) (a' := ?_) #[true, true, true, true, false, true, true, false, false, false, false] rfl rfl (any_of HT_.out (by kernel_rfl)) (fun _ _ _ h => h) (Or.inl ⟨by rfl, ?_⟩) ?_ ?_
            rotate_left
            · intro w'
              go_simp
              with_reducible rfl
            rotate_left
            · simp only [Act.put, List.setIfInBounds_toArray, List.set_cons_zero, List.set_cons_succ, i64_w, i32_w]
              rfl
            refine pure_ (i := 7) (N := some 22) (v := ?_) (a' := ?_) #[true, true, true, true, false, true, true, true, false, false, false] rfl rfl (any_of HT_.out (by kernel_rfl)) (fun _ _ _ h => h) (Or.inl ⟨by rfl, ?_⟩) ?_ ?_
            rotate_left
            · intro w'
              go_simp
              with_reducible rfl
            rotate_left
            · simp only [Act.put, List.setIfInBounds_toArray, List.set_cons_zero, List.set_cons_succ, i64_w, i32_w]
              rfl
            refine pure_ (i := 8) (N := some 23) (v := ?_) (a' := ?_) #[true, true, true, true, false, true, true, true, true, false, false] rfl rfl (any_of HT_.out (by kernel_rfl)) (fun _ _ _ h => h) (Or.inl ⟨by rfl, ?_⟩) ?_ ?_
            rotate_left
            · intro w'
              go_simp
              with_reducible rfl
            rotate_left
            · simp only [Act.put, List.setIfInBounds_toArray, List.set_cons_zero, List.set_cons_succ, i64_w, i32_w]
              rfl
            refine take_ (i := 4) (N := some 19) (v := ?_) (a' := ?_) #[true, true, true, true, true, true, true, true, true, false, false] rfl rfl (take_ofW HT_.out HW_.out (by kernel_rfl)) (fun _ _ _ h => h) (Or.inl ⟨by rfl, ?_⟩) hHeld ?_ ?_
            rotate_left
            · rintro w' ⟨s0, s1, s2, s3, s4, s5⟩
              go_simp
              with_reducible rfl
            rotate_left
            · simp only [Act.put, List.setIfInBounds_toArray, List.set_cons_zero, List.set_cons_succ, i64_w, i32_w]
              rfl
            refine take_ (i := 9) (N := some 24) (v := ?_) (a' := ?_) #[true, true, true, true, true, true, true, true, true, true, false] rfl rfl (take_ofW HT_.out HW_.out (by kernel_rfl)) (fun _ _ _ h => h) (Or.inl ⟨by rfl, ?_⟩) hHeld ?_ ?_
            rotate_left
            · rintro w' ⟨s0, s1, s2, s3, s4, s5⟩
              go_simp
              with_reducible rfl
            rotate_left
            · simp only [Act.put, List.setIfInBounds_toArray, List.set_cons_zero, List.set_cons_succ, i64_w, i32_w]
              rfl
            refine pure_ (i := 10) (N := some 25) (v := ?_) (a' := ?_) #[true, true, true, true, true, true, true, true, true, true, true] rfl rfl (any_of HT_.out (by kernel_rfl)) (fun _ _ _ h => h) (Or.inl ⟨by rfl, ?_⟩) ?_ ?_
            rotate_left
            · intro w'
              go_simp
              with_reducible rfl
            rotate_left
            · simp only [Act.put, List.setIfInBounds_toArray, List.set_cons_zero, List.set_cons_succ, i64_w, i32_w]
              rfl
            refine done_ (done_of HT_.out (by kernel_rfl)) ?_
            try go_wp2
            go_roundg k1
            case measure => have := HK1.out; omega
            case rel => exact ⟨(x3_1), (wrap64 (x4_1 + 1)), (by first | rfl | (simp; done) | (simp [*]; done)), H', ⟨by have := HK1.out; omega⟩, ⟨by (with_reducible repeat (first | apply Kd.R_alloc | apply Kd.R_drewN | apply Kd.R_drew)); exact HO_3.out⟩, ⟨by repeat (first | (with_reducible first | exact HB.out | apply below_alloc | apply pw_below_drewN | apply below_drew1) | exact HB.out)⟩⟩
          · rw [if_neg c4] at H
            have c4b0 : decide (((rd_T26 l0 x4_1).f1) ≤ ((rd_T26 l0 x4_1).f0)) = false := decide_eq_false c4
            clear c4
            by_cases c6 : x3_1.length < 5864062014805
            · rw [if_pos c6] at H
              have LMc6 := Aside0.mk c6
              clear c6
              obtain ⟨y131, hy131⟩ : ∃ y_ : List (S26), y_ = (x3_1 ++ [(⟨(rd_T26 l0 x4_1).f0, (rd_T26 l0 x4_1).f1, (rd_T26 l0 x4_1).f2⟩ : S26)]) := ⟨_, rfl⟩
              replace H : (almanacref25_Merge.l1 k1 l0 y131 x4_1 (wrap64 ((y131.length : Int) - 1))) = some r := by first | (rw [hy131]; with_reducible exact H) | (have H2_ := (Option.bind_some _ _).symm.trans H; rw [hy131]; with_reducible exact H2_) | (have H2_ := (Option.bind_some _ _).symm.trans H; with_reducible exact H2_) | with_reducible exact H | (rw [hy131]; exact H) | exact H
              have Ny131 := Aside0.mk hy131
              clear hy131
              have H' := Aside0.mk H
              clear H
              try go_wp2
              have n0_ := Aside0.mk (Kd.R_drew HO_3.out)
              have n1_ := Aside0.mk (below_drew1 HB.out)
              clear HO_3
              clear HB
              have HO_3 := n0_
              have HB := n1_
              clear n0_ n1_
              have p128 : 0 ≤ (x4_1 : Int) := of_decide_eq_true (by first | (with_reducible assumption) | assumption)
              have q128 : x4_1 < (l0.length : Int) := of_decide_eq_true (by first | (with_reducible assumption) | assumption)
              obtain ⟨ad128, e128, hx128_0, hx128_1, hx128_2⟩ := at_T26 HR0.out x4_1 p128 q128
              have hw128_2 := hx128_2
              have hw128_1 := hx128_1
              have hw128_0 := hx128_0
              cases e128
              replace hx128_0 := (HB.out.cell (World.block_lt_of_cell? w _ hx128_0)).trans hx128_0
              replace hx128_1 := (HB.out.cell (World.block_lt_of_cell? w _ hx128_1)).trans hx128_1
              replace hx128_2 := (HB.out.cell (World.block_lt_of_cell? w _ hx128_2)).trans hx128_2
              replace p128 := eq_true p128
              replace q128 := eq_true q128
              have p129 : 0 ≤ (x4_1 : Int) := of_decide_eq_true (by first | (with_reducible assumption) | assumption)
              have q129 : x4_1 < (l0.length : Int) := of_decide_eq_true (by first | (with_reducible assumption) | assumption)
              obtain ⟨ad129, e129, hx129_0, hx129_1, hx129_2⟩ := at_T26 HR0.out x4_1 p129 q129
              have hw129_2 := hx129_2
              have hw129_1 := hx129_1
              have hw129_0 := hx129_0
              obtain rfl : ad128 = ad129 := (by injection e129)
              replace hx129_0 := (HB.out.cell (World.block_lt_of_cell? w _ hx129_0)).trans hx129_0
              replace hx129_1 := (HB.out.cell (World.block_lt_of_cell? w _ hx129_1)).trans hx129_1
              replace hx129_2 := (HB.out.cell (World.block_lt_of_cell? w _ hx129_2)).trans hx129_2
              replace p129 := eq_true p129
              replace q129 := eq_true q129
              refine start_ (n := 11) (S := fun w' => w'.cell? (ad128.add ((x4_1).toNat * 3)) = some (.int .i64 ((rd_T26 l0 x4_1).f0)) ∧ w'.cell? ⟨(ad128.add ((x4_1).toNat * 3)).block, (ad128.add ((x4_1).toNat * 3)).off + 1, none⟩ = some (.int .i64 ((rd_T26 l0 x4_1).f1)) ∧ w'.cell? ⟨(ad128.add ((x4_1).toNat * 3)).block, (ad128.add ((x4_1).toNat * 3)).off + 2, none⟩ = some (.int .i64 ((rd_T26 l0 x4_1).f2)) ∧ w'.cell? (ad128.add ((x4_1).toNat * 3)) = some (.int .i64 ((rd_T26 l0 x4_1).f0)) ∧ w'.cell? ⟨(ad128.add ((x4_1).toNat * 3)).block, (ad128.add ((x4_1).toNat * 3)).off + 1, none⟩ = some (.int .i64 ((rd_T26 l0 x4_1).f1)) ∧ w'.cell? ⟨(ad128.add ((x4_1).toNat * 3)).block, (ad128.add ((x4_1).toNat * 3)).off + 2, none⟩ = some (.int .i64 ((rd_T26 l0 x4_1).f2))) (ds := []) #[false, false, false, false, false, false, false, false, false, false, false] (by kernel_rfl) rfl rfl ⟨((HB.out.cell (World.block_lt_of_cell? w _ hw128_0)).trans hw128_0), ((HB.out.cell (World.block_lt_of_cell? w _ hw128_1)).trans hw128_1), ((HB.out.cell (World.block_lt_of_cell? w _ hw128_2)).trans hw128_2), ((HB.out.cell (World.block_lt_of_cell? w _ hw129_0)).trans hw129_0), ((HB.out.cell (World.block_lt_of_cell? w _ hw129_1)).trans hw129_1), ((HB.out.cell (World.block_lt_of_cell? w _ hw129_2)).trans hw129_2)⟩ (fun hHeld => ?_); refine with_tabW almanacref25_Merge.tab5 almanacref25_Merge.bits5 (fun HT_ HW_ => ?_)
              generalize wr.drew = w7 at HO_3 HB hx128_0 hx128_1 hx128_2 hx129_0 hx129_1 hx129_2 hHeld ⊢
              refine pure_ (i := 0) (N := some 15) (v := ?_) (a' := ?_) #[true, false, false, false, false, false, false, false, false, false, false] rfl rfl (any_of HT_.out (by kernel_rfl)) (fun _ _ _ h => h) (Or.inl ⟨by rfl, ?_⟩) ?_ ?_
              rotate_left
              · intro w'
                go_simp
                with_reducible rfl
              rotate_left
              · simp only [Act.put, List.setIfInBounds_toArray, List.set_cons_zero, List.set_cons_succ, i64_w, i32_w]
                rfl
              refine pure_ (i := 1) (N := some 16) (v := ?_) (a' := ?_) #[true, true, false, false, false, false, false, false, false, false, false] rfl rfl (any_of HT_.out (by kernel_rfl)) (fun _ _ _ h => h) (Or.inl ⟨by rfl, ?_⟩) ?_ ?_
              rotate_left
              · intro w'
                go_simp
                with_reducible rfl
              rotate_left
              · simp only [Act.put, List.setIfInBounds_toArray, List.set_cons_zero, List.set_cons_succ, i64_w, i32_w]
                rfl
              refine pure_ (i := 2) (N := some 17) (v := ?_) (a' := ?_) #[true, true, true, false, false, false, false, false, false, false, false] rfl rfl (any_of HT_.out (by kernel_rfl)) (fun _ _ _ h => h) (Or.inl ⟨by rfl, ?_⟩) ?_ ?_
              rotate_left
              · intro w'
                go_simp
                with_reducible rfl
              rotate_left
              · simp only [Act.put, List.setIfInBounds_toArray, List.set_cons_zero, List.set_cons_succ, i64_w, i32_w]
                rfl
              refine pure_ (i := 3) (N := some 18) (v := ?_) (a' := ?_) #[true, true, true, true, false, false, false, false, false, false, false] rfl rfl (any_of HT_.out (by kernel_rfl)) (fun _ _ _ h => h) (Or.inl ⟨by rfl, ?_⟩) ?_ ?_
              rotate_left
              · intro w'
                go_simp
                with_reducible rfl
              rotate_left
              · simp only [Act.put, List.setIfInBounds_toArray, List.set_cons_zero, List.set_cons_succ, i64_w, i32_w]
                rfl
              refine pure_ (i := 5) (N := some 20) (v := ?_) (a' := ?_) #[true, true, true, true, false, true, false, false, false, false, false] rfl rfl (any_of HT_.out (by kernel_rfl)) (fun _ _ _ h => h) (Or.inl ⟨by rfl, ?_⟩) ?_ ?_
              rotate_left
              · intro w'
                go_simp
                with_reducible rfl
              rotate_left
              · simp only [Act.put, List.setIfInBounds_toArray, List.set_cons_zero, List.set_cons_succ, i64_w, i32_w]
                rfl
              refine pure_ (i := 6) (N := some 21) (v := ?_) (a' := ?_) #[true, true, true, true, false, true, true, false, false, false, false] rfl rfl (any_of HT_.out (by kernel_rfl)) (fun _ _ _ h => h) (Or.inl ⟨by rfl, ?_⟩) ?_ ?_
              rotate_left
              · intro w'
                go_simp
                with_reducible rfl
              rotate_left
              · simp only [Act.put, List.setIfInBounds_toArray, List.set_cons_zero, List.set_cons_succ, i64_w, i32_w]
                rfl
              refine pure_ (i := 7) (N := some 22) (v := ?_) (a' := ?_) #[true, true, true, true, false, true, true, true, false, false, false] rfl rfl (any_of HT_.out (by kernel_rfl)) (fun _ _ _ h => h) (Or.inl ⟨by rfl, ?_⟩) ?_ ?_
              rotate_left
              · intro w'
                go_simp
                with_reducible rfl
              rotate_left
              · simp only [Act.put, List.setIfInBounds_toArray, List.set_cons_zero, List.set_cons_succ, i64_w, i32_w]
                rfl
              refine pure_ (i := 8) (N := some 23) (v := ?_) (a' := ?_) #[true, true, true, true, false, true, true, true, true, false, false] rfl rfl (any_of HT_.out (by kernel_rfl)) (fun _ _ _ h => h) (Or.inl ⟨by rfl, ?_⟩) ?_ ?_
              rotate_left
              · intro w'
                go_simp
                with_reducible rfl
              rotate_left
              · simp only [Act.put, List.setIfInBounds_toArray, List.set_cons_zero, List.set_cons_succ, i64_w, i32_w]
                rfl
              refine take_ (i := 4) (N := some 19) (v := ?_) (a' := ?_) #[true, true, true, true, true, true, true, true, true, false, false] rfl rfl (take_ofW HT_.out HW_.out (by kernel_rfl)) (fun _ _ _ h => h) (Or.inl ⟨by rfl, ?_⟩) hHeld ?_ ?_
              rotate_left
              · rintro w' ⟨s0, s1, s2, s3, s4, s5⟩
                go_simp
                with_reducible rfl
              rotate_left
              · simp only [Act.put, List.setIfInBounds_toArray, List.set_cons_zero, List.set_cons_succ, i64_w, i32_w]
                rfl
              refine take_ (i := 9) (N := some 24) (v := ?_) (a' := ?_) #[true, true, true, true, true, true, true, true, true, true, false] rfl rfl (take_ofW HT_.out HW_.out (by kernel_rfl)) (fun _ _ _ h => h) (Or.inl ⟨by rfl, ?_⟩) hHeld ?_ ?_
              rotate_left
              · rintro w' ⟨s0, s1, s2, s3, s4, s5⟩
                go_simp
                with_reducible rfl
              rotate_left
              · simp only [Act.put, List.setIfInBounds_toArray, List.set_cons_zero, List.set_cons_succ, i64_w, i32_w]
                rfl
              refine pure_ (i := 10) (N := some 25) (v := ?_) (a' := ?_) #[true, true, true, true, true, true, true, true, true, true, true] rfl rfl (any_of HT_.out (by kernel_rfl)) (fun _ _ _ h => h) (Or.inl ⟨by rfl, ?_⟩) ?_ ?_
              rotate_left
              · intro w'
                go_simp
                with_reducible rfl
              rotate_left
              · simp only [Act.put, List.setIfInBounds_toArray, List.set_cons_zero, List.set_cons_succ, i64_w, i32_w]
                rfl
              refine done_ (done_of HT_.out (by kernel_rfl)) ?_
              have p130 : 0 ≤ (x4_1 : Int) := of_decide_eq_true (by first | (with_reducible assumption) | assumption)
              have q130 : x4_1 < (l0.length : Int) := of_decide_eq_true (by first | (with_reducible assumption) | assumption)
              obtain ⟨ad130, e130, hx130_0, hx130_1, hx130_2⟩ := at_T26 HR0.out x4_1 p130 q130
              obtain rfl : ad128 = ad130 := (by injection e130)
              replace hx130_0 := (HB.out.cell (World.block_lt_of_cell? w _ hx130_0)).trans hx130_0
              replace hx130_1 := (HB.out.cell (World.block_lt_of_cell? w _ hx130_1)).trans hx130_1
              replace hx130_2 := (HB.out.cell (World.block_lt_of_cell? w _ hx130_2)).trans hx130_2
              replace p130 := eq_true p130
              replace q130 := eq_true q130
              try go_wp2_with (first | ((with_reducible refine gate_builtin (b := .append) (xs := #[.tmp 26, .tmp 31]) rfl ?_); at_builtin; refine Kd.R_append k26 (w0 := w) w.heap.size rfl (.tmp 26) (.tmp 31) 22 26 (.agg #[(.int .i64 0), (.int .i64 0), (.int .i64 0)]) 24 rfl Tryd.underlying22 info26 rfl (by decide) (by omega) u3 x3_1 (⟨(rd_T26 l0 x4_1).f0, (rd_T26 l0 x4_1).f1, (rd_T26 l0 x4_1).f2⟩ : S26) [.int .i64 ((rd_T26 l0 x4_1).f0), .int .i64 ((rd_T26 l0 x4_1).f1), .int .i64 ((rd_T26 l0 x4_1).f2)] (fun _ => True) (fun _ => False) rfl rfl ?aP (fun _ hk => hk.elim) ?aF ?aO ?aB ?aS ?aL ?_; (case aP => exact k26_mkM _ _ _ (⟨(rd_T26 l0 x4_1).f0, (rd_T26 l0 x4_1).f1, (rd_T26 l0 x4_1).f2⟩ : S26)); (case aB => exact (by repeat (first | (with_reducible first | exact HB.out | apply below_alloc | apply pw_below_drewN | apply below_drew1) | exact HB.out))); (case aF => exact (fun _ _ => trivial)); (case aO => exact (by (with_reducible repeat (first | apply Kd.R_alloc | apply Kd.R_drewN | apply Kd.R_drew)); exact HO_3.out)); (case aS => exact (below_size (by repeat (first | (with_reducible first | exact HB.out | apply below_alloc | apply pw_below_drewN | apply below_drew1) | exact HB.out)))); (case aL => have := LMc6.out; omega); intro v132 w8 ho hb hg hat; rw [← Ny131.out] at ho; have n0_ := Aside0.mk (hb); have n1_ := Aside0.mk (ho); clear HB; clear HO_3; have HB := n0_; have HO133 := n1_; clear n0_ n1_; clear ho hb hg hat; obtain ⟨Ao9, co9, eo9⟩ := Kd.R_slice HO133.out; subst eo9))
              go_loopg [5] k1 (fun kq v5 w' => ∃ (x3_2 : List (S26)) (x5_2 : Int), v5 = .int .i64 x5_2 ∧ Aside0 (almanacref25_Merge.l1 kq l0 x3_2 x4_1 x5_2 = some r) ∧ Aside0 (kq ≤ k1) ∧ Aside0 (Kd.R k26 26 w' w.heap.size (fun _ => True) (.slice Ao9 y131.length co9) x3_2) ∧ Aside0 (Below w.heap.size w w'))
              case atStart => exact ⟨(y131), (wrap64 ((y131.length : Int) - 1)), (by first | rfl | (simp; done) | (simp [*]; done)), H', ⟨Nat.le_refl _⟩, ⟨by (with_reducible repeat (first | apply Kd.R_alloc | apply Kd.R_drewN | apply Kd.R_drew)); exact HO133.out⟩, ⟨by repeat (first | (with_reducible first | exact HB.out | apply below_alloc | apply pw_below_drewN | apply below_drew1) | exact HB.out)⟩⟩
              case round =>
                clear H'
                try clear p1
                try clear q1
                try clear hx1
                try clear c2
                try clear c2b0
                try clear p2
                try clear c3
                try clear c3b0
                try clear c4
                try clear c4b0
                try clear c6
                try clear p6
                try clear hx128_0
                try clear hx128_1
                try clear hx128_2
                try clear hx129_0
                try clear hx129_1
                try clear hx129_2
                try clear hx130_0
                try clear hx130_1
                try clear hx130_2
                try clear p128
                try clear p129
                try clear p130
                try clear q128
                try clear q129
                try clear q130
                obtain ⟨x3_2, x5_2, rfl, HA, HK2, HO_3, HB⟩ := hrel
                have hl3_2 := (Kd.R_reads' HO_3.out).1
                rw [hl3_2] at HO_3
                (try simp only [hl3_2])
                cases gk with
                | zero => exact absurd HA.out (by simp [almanacref25_Merge.l1])
                | succ k2 =>
                  have H := HA.out
                  clear HA
                  simp only [almanacref25_Merge.l1] at H
                  by_cases c10 : x5_2 > 0
                  · rw [if_pos c10] at H
                    have c10b0 : decide (0 < x5_2) = true := decide_eq_true c10
                    clear c10
                    by_cases c11 : 0 ≤ x5_2
                    · rw [if_pos c11] at H
                      have c11b0 : decide (0 ≤ x5_2) = true := decide_eq_true c11
                      clear c11
                      by_cases c12 : x5_2 < (x3_2.length : Int)
                      · rw [if_pos c12] at H
                        have c12b0 : decide (x5_2 < (x3_2.length : Int)) = true := decide_eq_true c12
                        clear c12
                        obtain ⟨ji13, hji13⟩ : ∃ j_ : Int, (wrap64 (x5_2 - 1)) = j_ := ⟨_, rfl⟩
                        replace H : (if 0 ≤ (ji13) then (if (ji13) < (x3_2.length : Int) then (if ((rd_T26 x3_2 x5_2).f0) < ((rd_T26 x3_2 (ji13)).f0) then (almanacref25_Merge.l1 k2 l0 ((x3_2.set (x5_2 : Int).toNat (⟨(rd_T26 x3_2 (ji13)).f0, (rd_T26 x3_2 (ji13)).f1, (rd_T26 x3_2 (ji13)).f2⟩ : S26)).set ((ji13) : Int).toNat (⟨(rd_T26 x3_2 x5_2).f0, (rd_T26 x3_2 x5_2).f1, (rd_T26 x3_2 x5_2).f2⟩ : S26)) x4_1 ji13) else (almanacref25_Merge.l0 k2 l0 x3_2 (wrap64 (x4_1 + 1)))) else (none)) else (none)) = some r := by first | (rw [hji13] at H; exact H) | (simp only [hji13] at H ⊢; exact H)
                        have hji13w : (IntKind.i64.wrap (x5_2 - 1)) = ji13 := (i64_w _).trans hji13
                        by_cases c14 : 0 ≤ (ji13)
                        · rw [if_pos c14] at H
                          have c14b0 : decide (0 ≤ (ji13)) = true := decide_eq_true c14
                          clear c14
                          by_cases c15 : (ji13) < (x3_2.length : Int)
                          · rw [if_pos c15] at H
                            have c15b0 : decide ((ji13) < (x3_2.length : Int)) = true := decide_eq_true c15
                            clear c15
                            by_cases c16 : ((rd_T26 x3_2 x5_2).f0) < ((rd_T26 x3_2 (ji13)).f0)
                            · rw [if_pos c16] at H
                              have c16b0 : decide (((rd_T26 x3_2 x5_2).f0) < ((rd_T26 x3_2 (ji13)).f0)) = true := decide_eq_true c16
                              clear c16
                              obtain ⟨y138, hy138⟩ : ∃ y_ : List (S26), y_ = (x3_2.set (x5_2 : Int).toNat (⟨(rd_T26 x3_2 (ji13)).f0, (rd_T26 x3_2 (ji13)).f1, (rd_T26 x3_2 (ji13)).f2⟩ : S26)) := ⟨_, rfl⟩
                              replace H : (almanacref25_Merge.l1 k2 l0 (y138.set ((ji13) : Int).toNat (⟨(rd_T26 x3_2 x5_2).f0, (rd_T26 x3_2 x5_2).f1, (rd_T26 x3_2 x5_2).f2⟩ : S26)) x4_1 ji13) = some r := by first | (rw [hy138]; with_reducible exact H) | (have H2_ := (Option.bind_some _ _).symm.trans H; rw [hy138]; with_reducible exact H2_) | (have H2_ := (Option.bind_some _ _).symm.trans H; with_reducible exact H2_) | with_reducible exact H | (rw [hy138]; exact H) | exact H
                              have Ny138 := Aside0.mk hy138
                              clear hy138
                              obtain ⟨y139, hy139⟩ : ∃ y_ : List (S26), y_ = (y138.set ((ji13) : Int).toNat (⟨(rd_T26 x3_2 x5_2).f0, (rd_T26 x3_2 x5_2).f1, (rd_T26 x3_2 x5_2).f2⟩ : S26)) := ⟨_, rfl⟩
                              replace H : (almanacref25_Merge.l1 k2 l0 y139 x4_1 ji13) = some r := by first | (rw [hy139]; with_reducible exact H) | (have H2_ := (Option.bind_some _ _).symm.trans H; rw [hy139]; with_reducible exact H2_) | (have H2_ := (Option.bind_some _ _).symm.trans H; with_reducible exact H2_) | with_reducible exact H | (rw [hy139]; exact H) | exact H
                              have Ny139 := Aside0.mk hy139
                              clear hy139
                              have H' := Aside0.mk H
                              clear H
                              try go_wp2
                              have n0_ := Aside0.mk (Kd.R_drew HO_3.out)
                              have n1_ := Aside0.mk (below_drew1 HB.out)
                              clear HO_3
                              clear HB
                              have HO_3 := n0_
                              have HB := n1_
                              clear n0_ n1_
                              have p134 : 0 ≤ (x5_2 : Int) := of_decide_eq_true (by first | (with_reducible assumption) | assumption)
                              have q134 : x5_2 < (x3_2.length : Int) := of_decide_eq_true (by first | (with_reducible assumption) | assumption)
                              obtain ⟨ad134, e134, hx134_0, hx134_1, hx134_2⟩ := at_T26 (Kd.R_reads' HO_3.out).2.2 x5_2 p134 q134
                              cases e134
                              replace p134 := eq_true p134
                              replace q134 := eq_true q134
                              have p135 : 0 ≤ ((ji13) : Int) := of_decide_eq_true (by first | (with_reducible assumption) | assumption)
                              have q135 : (ji13) < (x3_2.length : Int) := of_decide_eq_true (by first | (with_reducible assumption) | assumption)
                              obtain ⟨ad135, e135, hx135_0, hx135_1, hx135_2⟩ := at_T26 (Kd.R_reads' HO_3.out).2.2 (ji13) p135 q135
                              obtain rfl : ad134 = ad135 := (by injection e135)
                              replace p135 := eq_true p135
                              replace q135 := eq_true q135
                              refine start_ (n := 16) (S := fun w' => w'.cell? (ad134.add ((x5_2).toNat * 3)) = some (.int .i64 ((rd_T26 x3_2 x5_2).f0)) ∧ w'.cell? ⟨(ad134.add ((x5_2).toNat * 3)).block, (ad134.add ((x5_2).toNat * 3)).off + 1, none⟩ = some (.int .i64 ((rd_T26 x3_2 x5_2).f1)) ∧ w'.cell? ⟨(ad134.add ((x5_2).toNat * 3)).block, (ad134.add ((x5_2).toNat * 3)).off + 2, none⟩ = some (.int .i64 ((rd_T26 x3_2 x5_2).f2)) ∧ w'.cell? (ad134.add (((ji13)).toNat * 3)) = some (.int .i64 ((rd_T26 x3_2 (ji13)).f0)) ∧ w'.cell? ⟨(ad134.add (((ji13)).toNat * 3)).block, (ad134.add (((ji13)).toNat * 3)).off + 1, none⟩ = some (.int .i64 ((rd_T26 x3_2 (ji13)).f1)) ∧ w'.cell? ⟨(ad134.add (((ji13)).toNat * 3)).block, (ad134.add (((ji13)).toNat * 3)).off + 2, none⟩ = some (.int .i64 ((rd_T26 x3_2 (ji13)).f2))) (ds := []) #[false, false, false, false, false, false, false, false, false, false, false, false, false, false, false, false] (by kernel_rfl) rfl rfl ⟨hx134_0, hx134_1, hx134_2, hx135_0, hx135_1, hx135_2⟩ (fun hHeld => ?_); refine with_tabW almanacref25_Merge.tab8 almanacref25_Merge.bits8 (fun HT_ HW_ => ?_)
                              generalize wr.drew = w19 at HO_3 HB hx134_0 hx134_1 hx134_2 hx135_0 hx135_1 hx135_2 hHeld ⊢
                              refine pure_ (i := 0) (N := some 36) (v := ?_) (a' := ?_) #[true, false, false, false, false, false, false, false, false, false, false, false, false, false, false, false] rfl rfl (any_of HT_.out (by kernel_rfl)) (fun _ _ _ h => h) (Or.inl ⟨by rfl, ?_⟩) ?_ ?_
                              rotate_left
                              · intro w'
                                go_simp
                                with_reducible rfl
                              rotate_left
                              · simp only [Act.put, List.setIfInBounds_toArray, List.set_cons_zero, List.set_cons_succ, i64_w, i32_w]
                                rfl
                              refine pure_ (i := 1) (N := some 37) (v := ?_) (a' := ?_) #[true, true, false, false, false, false, false, false, false, false, false, false, false, false, false, false] rfl rfl (any_of HT_.out (by kernel_rfl)) (fun _ _ _ h => h) (Or.inl ⟨by rfl, ?_⟩) ?_ ?_
                              rotate_left
                              · intro w'
                                go_simp
                                with_reducible rfl
                              rotate_left
                              · simp only [Act.put, List.setIfInBounds_toArray, List.set_cons_zero, List.set_cons_succ, i64_w, i32_w]
                                rfl
                              refine pure_ (i := 2) (N := some 38) (v := ?_) (a' := ?_) #[true, true, true, false, false, false, false, false, false, false, false, false, false, false, false, false] rfl rfl (any_of HT_.out (by kernel_rfl)) (fun _ _ _ h => h) (Or.inl ⟨by rfl, ?_⟩) ?_ ?_
                              rotate_left
                              · intro w'
                                go_simp
                                with_reducible rfl
                              rotate_left
                              · simp only [Act.put, List.setIfInBounds_toArray, List.set_cons_zero, List.set_cons_succ, i64_w, i32_w]
                                rfl
                              refine pure_ (i := 3) (N := some 39) (v := ?_) (a' := ?_) #[true, true, true, true, false, false, false, false, false, false, false, false, false, false, false, false] rfl rfl (any_of HT_.out (by kernel_rfl)) (fun _ _ _ h => h) (Or.inl ⟨by rfl, ?_⟩) ?_ ?_
                              rotate_left
                              · intro w'
                                go_simp
                                with_reducible rfl
                              rotate_left
                              · simp only [Act.put, List.setIfInBounds_toArray, List.set_cons_zero, List.set_cons_succ, i64_w, i32_w]
                                rfl
                              refine pure_ (i := 4) (N := some 40) (v := ?_) (a' := ?_) #[true, true, true, true, true, false, false, false, false, false, false, false, false, false, false, false] rfl rfl (any_of HT_.out (by kernel_rfl)) (fun _ _ _ h => h) (Or.inl ⟨by rfl, ?_⟩) ?_ ?_
                              rotate_left
                              · intro w'
                                go_simp
                                with_reducible rfl
                              rotate_left
                              · simp only [Act.put, List.setIfInBounds_toArray, List.set_cons_zero, List.set_cons_succ, i64_w, i32_w]
                                rfl
                              refine pure_ (i := 5) (N := some 41) (v := ?_) (a' := ?_) #[true, true, true, true, true, true, false, false, false, false, false, false, false, false, false, false] rfl rfl (any_of HT_.out (by kernel_rfl)) (fun _ _ _ h => h) (Or.inl ⟨by rfl, ?_⟩) ?_ ?_
                              rotate_left
                              · intro w'
                                go_simp
                                with_reducible rfl
                              rotate_left
                              · simp only [Act.put, List.setIfInBounds_toArray, List.set_cons_zero, List.set_cons_succ, i64_w, i32_w]
                                rfl
                              refine pure_ (i := 6) (N := some 42) (v := ?_) (a' := ?_) #[true, true, true, true, true, true, true, false, false, false, false, false, false, false, false, false] rfl rfl (any_of HT_.out (by kernel_rfl)) (fun _ _ _ h => h) (Or.inl ⟨by rfl, ?_⟩) ?_ ?_
                              rotate_left
                              · intro w'
                                go_simp
                                with_reducible rfl
                              rotate_left
                              · simp only [Act.put, List.setIfInBounds_toArray, List.set_cons_zero, List.set_cons_succ, i64_w, i32_w]
                                rfl
                              refine pure_ (i := 8) (N := some 44) (v := ?_) (a' := ?_) #[true, true, true, true, true, true, true, false, true, false, false, false, false, false, false, false] rfl rfl (any_of HT_.out (by kernel_rfl)) (fun _ _ _ h => h) (Or.inl ⟨by rfl, ?_⟩) ?_ ?_
                              rotate_left
                              · intro w'
                                go_simp
                                with_reducible rfl
                              rotate_left
                              · simp only [Act.put, List.setIfInBounds_toArray, List.set_cons_zero, List.set_cons_succ, i64_w, i32_w]
                                rfl
                              refine pure_ (i := 9) (N := some 45) (v := ?_) (a' := ?_) #[true, true, true, true, true, true, true, false, true, true, false, false, false, false, false, false] rfl rfl (any_of HT_.out (by kernel_rfl)) (fun _ _ _ h => h) (Or.inl ⟨by rfl, ?_⟩) ?_ ?_
                              rotate_left
                              · intro w'
                                go_simp
                                with_reducible rfl
                              rotate_left
                              · simp only [Act.put, List.setIfInBounds_toArray, List.set_cons_zero, List.set_cons_succ, i64_w, i32_w]
                                rfl
                              refine pure_ (i := 10) (N := some 46) (v := ?_) (a' := ?_) #[true, true, true, true, true, true, true, false, true, true, true, false, false, false, false, false] rfl rfl (any_of HT_.out (by kernel_rfl)) (fun _ _ _ h => h) (Or.inl ⟨by rfl, ?_⟩) ?_ ?_
                              rotate_left
                              · intro w'
                                go_simp
                                with_reducible rfl
                              rotate_left
                              · simp only [Act.put, List.setIfInBounds_toArray, List.set_cons_zero, List.set_cons_succ, i64_w, i32_w]
                                rfl
                              refine pure_ (i := 11) (N := some 47) (v := ?_) (a' := ?_) #[true, true, true, true, true, true, true, false, true, true, true, true, false, false, false, false] rfl rfl (any_of HT_.out (by kernel_rfl)) (fun _ _ _ h => h) (Or.inl ⟨by rfl, ?_⟩) ?_ ?_
                              rotate_left
                              · intro w'
                                go_simp
                                with_reducible rfl
                              rotate_left
                              · simp only [Act.put, List.setIfInBounds_toArray, List.set_cons_zero, List.set_cons_succ, i64_w, i32_w]
                                rfl
                              refine pure_ (i := 12) (N := some 48) (v := ?_) (a' := ?_) #[true, true, true, true, true, true, true, false, true, true, true, true, true, false, false, false] rfl rfl (any_of HT_.out (by kernel_rfl)) (fun _ _ _ h => h) (Or.inl ⟨by rfl, ?_⟩) ?_ ?_
                              rotate_left
                              · intro w'
                                go_simp
                                with_reducible rfl
                              rotate_left
                              · simp only [Act.put, List.setIfInBounds_toArray, List.set_cons_zero, List.set_cons_succ, i64_w, i32_w]
                                rfl
                              refine take_ (i := 7) (N := some 43) (v := ?_) (a' := ?_) #[true, true, true, true, true, true, true, true, true, true, true, true, true, false, false, false] rfl rfl (take_ofW HT_.out HW_.out (by kernel_rfl)) (fun _ _ _ h => h) (Or.inl ⟨by rfl, ?_⟩) hHeld ?_ ?_
                              rotate_left
                              · rintro w' ⟨s0, s1, s2, s3, s4, s5⟩
                                go_simp
                                with_reducible rfl
                              rotate_left
                              · simp only [Act.put, List.setIfInBounds_toArray, List.set_cons_zero, List.set_cons_succ, i64_w, i32_w]
                                rfl
                              refine take_ (i := 13) (N := some 49) (v := ?_) (a' := ?_) #[true, true, true, true, true, true, true, true, true, true, true, true, true, true, false, false] rfl rfl (take_ofW HT_.out HW_.out (by kernel_rfl)) (fun _ _ _ h => h) (Or.inl ⟨by rfl, ?_⟩) hHeld ?_ ?_
                              rotate_left
                              · rintro w' ⟨s0, s1, s2, s3, s4, s5⟩
                                go_simp
                                with_reducible rfl
                              rotate_left
                              · simp only [Act.put, List.setIfInBounds_toArray, List.set_cons_zero, List.set_cons_succ, i64_w, i32_w]
                                rfl
                              refine pure_ (i := 14) (N := some 50) (v := ?_) (a' := ?_) #[true, true, true, true, true, true, true, true, true, true, true, true, true, true, true, false] rfl rfl (any_of HT_.out (by kernel_rfl)) (fun _ _ _ h => h) (Or.inl ⟨by rfl, ?_⟩) ?_ ?_
                              rotate_left
                              · intro w'
                                go_simp
                                with_reducible rfl
                              rotate_left
                              · simp only [Act.put, List.setIfInBounds_toArray, List.set_cons_zero, List.set_cons_succ, i64_w, i32_w]
                                rfl
                              refine pure_ (i := 15) (N := some 51) (v := ?_) (a' := ?_) #[true, true, true, true, true, true, true, true, true, true, true, true, true, true, true, true] rfl rfl (any_of HT_.out (by kernel_rfl)) (fun _ _ _ h => h) (Or.inl ⟨by rfl, ?_⟩) ?_ ?_
                              rotate_left
                              · intro w'
                                go_simp
                                with_reducible rfl
                              rotate_left
                              · simp only [Act.put, List.setIfInBounds_toArray, List.set_cons_zero, List.set_cons_succ, i64_w, i32_w]
                                rfl
                              refine done_ (done_of HT_.out (by kernel_rfl)) ?_
                              try go_wp2
                              have n0_ := Aside0.mk (Kd.R_drew HO_3.out)
                              have n1_ := Aside0.mk (below_drew1 HB.out)
                              clear HO_3
                              clear HB
                              have HO_3 := n0_
                              have HB := n1_
                              clear n0_ n1_
                              have p136 : 0 ≤ ((ji13) : Int) := of_decide_eq_true (by first | (with_reducible assumption) | assumption)
                              have q136 : (ji13) < (x3_2.length : Int) := of_decide_eq_true (by first | (with_reducible assumption) | assumption)
                              obtain ⟨ad136, e136, hx136_0, hx136_1, hx136_2⟩ := at_T26 (Kd.R_reads' HO_3.out).2.2 (ji13) p136 q136
                              obtain rfl : ad134 = ad136 := (by injection e136)
                              replace p136 := eq_true p136
                              replace q136 := eq_true q136
                              have p137 : 0 ≤ (x5_2 : Int) := of_decide_eq_true (by first | (with_reducible assumption) | assumption)
                              have q137 : x5_2 < (x3_2.length : Int) := of_decide_eq_true (by first | (with_reducible assumption) | assumption)
                              obtain ⟨ad137, e137, hx137_0, hx137_1, hx137_2⟩ := at_T26 (Kd.R_reads' HO_3.out).2.2 x5_2 p137 q137
                              obtain rfl : ad134 = ad137 := (by injection e137)
                              replace p137 := eq_true p137
                              replace q137 := eq_true q137
                              have p17 : 0 ≤ (x5_2 : Int) := of_decide_eq_true (by first | (with_reducible assumption) | assumption)
                              have q17 : (x5_2 : Int) < ((x3_2.length : Int) : Int) := of_decide_eq_true (by first | (with_reducible assumption) | assumption)
                              obtain ⟨go17, co17, eo17, gb17, gl17, cl17, HG17⟩ := Kd.R_form HO_3.out (by omega)
                              (first | cases eo17 | (injection eo17 with ea_ en_ ec_; (first | subst ea_ | (injection ea_ with ea_; subst ea_)); subst ec_; clear en_))
                              have GB17 := Aside0.mk gb17
                              have GG17 := Aside0.mk HG17
                              clear gb17 gl17 HG17
                              (first | simp only [add_plain] at hx134_0 | skip)
                              (first | simp only [add_plain] at hx134_1 | skip)
                              (first | simp only [add_plain] at hx134_2 | skip)
                              (first | simp only [add_plain] at hx135_0 | skip)
                              (first | simp only [add_plain] at hx135_1 | skip)
                              (first | simp only [add_plain] at hx135_2 | skip)
                              (first | simp only [add_plain] at hx136_0 | skip)
                              (first | simp only [add_plain] at hx136_1 | skip)
                              (first | simp only [add_plain] at hx136_2 | skip)
                              (first | simp only [add_plain] at hx137_0 | skip)
                              (first | simp only [add_plain] at hx137_1 | skip)
                              (first | simp only [add_plain] at hx137_2 | skip)
                              obtain ⟨ce17, hcl17, hM17, hcc17, hfr17⟩ := Kd.R_elem HO_3.out z26 (x5_2 : Int) p17 q17
                              obtain rfl := k26_openM hM17
                              have hx17_0 : World.cell? _ ⟨go17, (x5_2 : Int).toNat * 3, none⟩ = some (.int .i64 ((rd_T26 x3_2 x5_2).f0)) := hcc17 0 _ rfl
                              have hx17_1 : World.cell? _ ⟨go17, (x5_2 : Int).toNat * 3 + 1, none⟩ = some (.int .i64 ((rd_T26 x3_2 x5_2).f1)) := hcc17 1 _ rfl
                              have hx17_2 : World.cell? _ ⟨go17, (x5_2 : Int).toNat * 3 + 2, none⟩ = some (.int .i64 ((rd_T26 x3_2 x5_2).f2)) := hcc17 2 _ rfl
                              have hf17_0 : World.frozen? _ ⟨go17, (x5_2 : Int).toNat * 3, none⟩ = false := hfr17 0
                              have hf17_1 : World.frozen? _ ⟨go17, (x5_2 : Int).toNat * 3 + 1, none⟩ = false := hfr17 1
                              have hf17_2 : World.frozen? _ ⟨go17, (x5_2 : Int).toNat * 3 + 2, none⟩ = false := hfr17 2
                              clear hcl17 hcc17 hfr17 hM17
                              replace p17 := eq_true p17
                              replace q17 := eq_true q17
                              obtain ⟨ce21, hcl21, hM21, hcc21, hfr21⟩ := Kd.R_elem HO_3.out z26 (x5_2 : Int) (of_decide_eq_true (by first | (with_reducible assumption) | assumption)) (by have h_ : (x5_2 : Int) < ((x3_2.length : Int) : Int) := of_decide_eq_true (by first | (with_reducible assumption) | assumption); first | exact h_ | (have e_ := (Kd.R_reads' HO_3.out).1; omega) | simpa using h_)
                              obtain rfl := k26_openM hM21
                              have HP21 := (Kd.R_seg HO_3.out (x5_2 : Int) (of_decide_eq_true (by first | (with_reducible assumption) | assumption)) (by have h_ : (x5_2 : Int) < ((x3_2.length : Int) : Int) := of_decide_eq_true (by first | (with_reducible assumption) | assumption); first | exact h_ | (have e_ := (Kd.R_reads' HO_3.out).1; omega) | simpa using h_) (seg := [.int .i64 ((rd_T26 x3_2 (ji13)).f0), .int .i64 ((rd_T26 x3_2 (ji13)).f1), .int .i64 ((rd_T26 x3_2 (ji13)).f2)]) (j := 0) hcl21 hcc21 (show 3 ≤ 3 from by decide) (x' := (⟨(rd_T26 x3_2 (ji13)).f0, (rd_T26 x3_2 (ji13)).f1, (rd_T26 x3_2 (ji13)).f2⟩ : S26)) (k26_mkM _ _ _ (⟨(rd_T26 x3_2 (ji13)).f0, (rd_T26 x3_2 (ji13)).f1, (rd_T26 x3_2 (ji13)).f2⟩ : S26) ) (fun _ hk => hk)).1
                              rw [← Ny138.out] at HP21
                              have HQ21 := Aside0.mk HP21
                              clear hcl21 hcc21 hfr21 hM21 HP21
                              have p18 : 0 ≤ ((ji13) : Int) := of_decide_eq_true (by first | (with_reducible assumption) | assumption)
                              have q18 : ((ji13) : Int) < ((x3_2.length : Int) : Int) := of_decide_eq_true (by first | (with_reducible assumption) | assumption)
                              obtain ⟨ce18, hcl18, hM18, hcc18, hfr18⟩ := Kd.R_elem HQ21.out z26 ((ji13) : Int) p18 q18
                              obtain rfl := k26_openM hM18
                              have hx18_0 : World.cell? _ ⟨go17, ((ji13) : Int).toNat * 3, none⟩ = some (.int .i64 ((rd_T26 y138 (ji13)).f0)) := hcc18 0 _ rfl
                              have hx18_1 : World.cell? _ ⟨go17, ((ji13) : Int).toNat * 3 + 1, none⟩ = some (.int .i64 ((rd_T26 y138 (ji13)).f1)) := hcc18 1 _ rfl
                              have hx18_2 : World.cell? _ ⟨go17, ((ji13) : Int).toNat * 3 + 2, none⟩ = some (.int .i64 ((rd_T26 y138 (ji13)).f2)) := hcc18 2 _ rfl
                              have hf18_0 : World.frozen? _ ⟨go17, ((ji13) : Int).toNat * 3, none⟩ = false := hfr18 0
                              have hf18_1 : World.frozen? _ ⟨go17, ((ji13) : Int).toNat * 3 + 1, none⟩ = false := hfr18 1
                              have hf18_2 : World.frozen? _ ⟨go17, ((ji13) : Int).toNat * 3 + 2, none⟩ = false := hfr18 2
                              clear hcl18 hcc18 hfr18 hM18
                              replace p18 := eq_true p18
                              replace q18 := eq_true q18
                              obtain ⟨ce22, hcl22, hM22, hcc22, hfr22⟩ := Kd.R_elem HQ21.out z26 ((ji13) : Int) (of_decide_eq_true (by first | (with_reducible assumption) | assumption)) (by have h_ : ((ji13) : Int) < ((x3_2.length : Int) : Int) := of_decide_eq_true (by first | (with_reducible assumption) | assumption); first | exact h_ | (have e_ := (Kd.R_reads' HO_3.out).1; omega) | simpa using h_)
                              obtain rfl := k26_openM hM22
                              have HP22 := (Kd.R_seg HQ21.out ((ji13) : Int) (of_decide_eq_true (by first | (with_reducible assumption) | assumption)) (by have h_ : ((ji13) : Int) < ((x3_2.length : Int) : Int) := of_decide_eq_true (by first | (with_reducible assumption) | assumption); first | exact h_ | (have e_ := (Kd.R_reads' HO_3.out).1; omega) | simpa using h_) (seg := [.int .i64 ((rd_T26 x3_2 x5_2).f0), .int .i64 ((rd_T26 x3_2 x5_2).f1), .int .i64 ((rd_T26 x3_2 x5_2).f2)]) (j := 0) hcl22 hcc22 (show 3 ≤ 3 from by decide) (x' := (⟨(rd_T26 x3_2 x5_2).f0, (rd_T26 x3_2 x5_2).f1, (rd_T26 x3_2 x5_2).f2⟩ : S26)) (k26_mkM _ _ _ (⟨(rd_T26 x3_2 x5_2).f0, (rd_T26 x3_2 x5_2).f1, (rd_T26 x3_2 x5_2).f2⟩ : S26) ) (fun _ hk => hk)).1
                              rw [← Ny139.out] at HP22
                              have HQ22 := Aside0.mk HP22
                              clear hcl22 hcc22 hfr22 hM22 HP22
                              have hne_ : ¬ ((x5_2 : Int).toNat = (ji13 : Int).toNat) := by have h1_ : 0 ≤ (ji13 : Int) := of_decide_eq_true (by assumption); have h2_ : 0 ≤ (x5_2 : Int) := of_decide_eq_true (by assumption); have h3_ := hji13; simp only [wrap64] at h3_; omega
                              have hne2_ : ¬ ((ji13 : Int).toNat = (x5_2 : Int).toNat) := fun e => hne_ e.symm
                              refine start_ (n := 18) (S := fun w' => w'.cell? ⟨go17, (((ji13)).toNat * 3), none⟩ = some (.int .i64 ((rd_T26 x3_2 (ji13)).f0)) ∧ w'.cell? ⟨go17, (((ji13)).toNat * 3) + 1, none⟩ = some (.int .i64 ((rd_T26 x3_2 (ji13)).f1)) ∧ w'.cell? ⟨go17, (((ji13)).toNat * 3) + 2, none⟩ = some (.int .i64 ((rd_T26 x3_2 (ji13)).f2)) ∧ w'.cell? ⟨go17, ((x5_2).toNat * 3), none⟩ = some (.int .i64 ((rd_T26 x3_2 x5_2).f0)) ∧ w'.cell? ⟨go17, ((x5_2).toNat * 3) + 1, none⟩ = some (.int .i64 ((rd_T26 x3_2 x5_2).f1)) ∧ w'.cell? ⟨go17, ((x5_2).toNat * 3) + 2, none⟩ = some (.int .i64 ((rd_T26 x3_2 x5_2).f2))) (ds := [15, 17]) #[false, false, false, false, false, false, false, false, false, false, false, false, false, false, false, false, false, false] (by kernel_rfl) rfl rfl ⟨hx136_0, hx136_1, hx136_2, hx137_0, hx137_1, hx137_2⟩ (fun hHeld => ?_); refine with_tabW almanacref25_Merge.tab10 almanacref25_Merge.bits10 (fun HT_ HW_ => ?_)
                              generalize w19.drew = w20 at HO_3 HB GG17 HQ21 HQ22 hf17_0 hf17_1 hf17_2 hf18_0 hf18_1 hf18_2 hx134_0 hx134_1 hx134_2 hx135_0 hx135_1 hx135_2 hx136_0 hx136_1 hx136_2 hx137_0 hx137_1 hx137_2 hx17_0 hx17_1 hx17_2 hx18_0 hx18_1 hx18_2 hHeld ⊢
                              obtain ⟨_, _, _, _, hfrz_⟩ := Kd.R_elem HO_3.out z26 (ji13 : Int) (of_decide_eq_true (by assumption)) (of_decide_eq_true (by assumption))
                              have hz0_ : World.frozen? _ ⟨go17, (ji13 : Int).toNat * 3, none⟩ = false := hfrz_ 0
                              have hz1_ : World.frozen? _ ⟨go17, (ji13 : Int).toNat * 3 + 1, none⟩ = false := hfrz_ 1
                              have hz2_ : World.frozen? _ ⟨go17, (ji13 : Int).toNat * 3 + 2, none⟩ = false := hfrz_ 2
                              clear hfrz_
                              refine pure_ (i := 0) (N := some 54) (v := ?_) (a' := ?_) #[true, false, false, false, false, false, false, false, false, false, false, false, false, false, false, false, false, false] rfl rfl (any_of HT_.out (by kernel_rfl)) (fun _ _ _ h => h) (Or.inl ⟨by rfl, ?_⟩) ?_ ?_
                              rotate_left
                              · intro w'
                                go_simp
                                with_reducible rfl
                              rotate_left
                              · simp only [Act.put, List.setIfInBounds_toArray, List.set_cons_zero, List.set_cons_succ, i64_w, i32_w]
                                rfl
                              refine pure_ (i := 1) (N := some 55) (v := ?_) (a' := ?_) #[true, true, false, false, false, false, false, false, false, false, false, false, false, false, false, false, false, false] rfl rfl (any_of HT_.out (by kernel_rfl)) (fun _ _ _ h => h) (Or.inl ⟨by rfl, ?_⟩) ?_ ?_
                              rotate_left
                              · intro w'
                                go_simp
                                with_reducible rfl
                              rotate_left
                              · simp only [Act.put, List.setIfInBounds_toArray, List.set_cons_zero, List.set_cons_succ, i64_w, i32_w]
                                rfl
                              refine pure_ (i := 2) (N := some 56) (v := ?_) (a' := ?_) #[true, true, true, false, false, false, false, false, false, false, false, false, false, false, false, false, false, false] rfl rfl (any_of HT_.out (by kernel_rfl)) (fun _ _ _ h => h) (Or.inl ⟨by rfl, ?_⟩) ?_ ?_
                              rotate_left
                              · intro w'
                                go_simp
                                with_reducible rfl
                              rotate_left
                              · simp only [Act.put, List.setIfInBounds_toArray, List.set_cons_zero, List.set_cons_succ, i64_w, i32_w]
                                rfl
                              refine pure_ (i := 3) (N := some 57) (v := ?_) (a' := ?_) #[true, true, true, true, false, false, false, false, false, false, false, false, false, false, false, false, false, false] rfl rfl (any_of HT_.out (by kernel_rfl)) (fun _ _ _ h => h) (Or.inl ⟨by rfl, ?_⟩) ?_ ?_
                              rotate_left
                              · intro w'
                                go_simp
                                with_reducible rfl
                              rotate_left
                              · simp only [Act.put, List.setIfInBounds_toArray, List.set_cons_zero, List.set_cons_succ, i64_w, i32_w]
                                rfl
                              refine pure_ (i := 4) (N := some 58) (v := ?_) (a' := ?_) #[true, true, true, true, true, false, false, false, false, false, false, false, false, false, false, false, false, false] rfl rfl (any_of HT_.out (by kernel_rfl)) (fun _ _ _ h => h) (Or.inl ⟨by rfl, ?_⟩) ?_ ?_
                              rotate_left
                              · intro w'
                                go_simp
                                with_reducible rfl
                              rotate_left
                              · simp only [Act.put, List.setIfInBounds_toArray, List.set_cons_zero, List.set_cons_succ, i64_w, i32_w]
                                rfl
                              refine pure_ (i := 5) (N := some 59) (v := ?_) (a' := ?_) #[true, true, true, true, true, true, false, false, false, false, false, false, false, false, false, false, false, false] rfl rfl (any_of HT_.out (by kernel_rfl)) (fun _ _ _ h => h) (Or.inl ⟨by rfl, ?_⟩) ?_ ?_
                              rotate_left
                              · intro w'
                                go_simp
                                with_reducible rfl
                              rotate_left
                              · simp only [Act.put, List.setIfInBounds_toArray, List.set_cons_zero, List.set_cons_succ, i64_w, i32_w]
                                rfl
                              refine pure_ (i := 6) (N := some 60) (v := ?_) (a' := ?_) #[true, true, true, true, true, true, true, false, false, false, false, false, false, false, false, false, false, false] rfl rfl (any_of HT_.out (by kernel_rfl)) (fun _ _ _ h => h) (Or.inl ⟨by rfl, ?_⟩) ?_ ?_
                              rotate_left
                              · intro w'
                                go_simp
                                with_reducible rfl
                              rotate_left
                              · simp only [Act.put, List.setIfInBounds_toArray, List.set_cons_zero, List.set_cons_succ, i64_w, i32_w]
                                rfl
                              refine pure_ (i := 7) (N := some 61) (v := ?_) (a' := ?_) #[true, true, true, true, true, true, true, true, false, false, false, false, false, false, false, false, false, false] rfl rfl (any_of HT_.out (by kernel_rfl)) (fun _ _ _ h => h) (Or.inl ⟨by rfl, ?_⟩) ?_ ?_
                              rotate_left
                              · intro w'
                                go_simp
                                with_reducible rfl
                              rotate_left
                              · simp only [Act.put, List.setIfInBounds_toArray, List.set_cons_zero, List.set_cons_succ, i64_w, i32_w]
                                rfl
                              refine pure_ (i := 8) (N := some 62) (v := ?_) (a' := ?_) #[true, true, true, true, true, true, true, true, true, false, false, false, false, false, false, false, false, false] rfl rfl (any_of HT_.out (by kernel_rfl)) (fun _ _ _ h => h) (Or.inl ⟨by rfl, ?_⟩) ?_ ?_
                              rotate_left
                              · intro w'
                                go_simp
                                with_reducible rfl
                              rotate_left
                              · simp only [Act.put, List.setIfInBounds_toArray, List.set_cons_zero, List.set_cons_succ, i64_w, i32_w]
                                rfl
                              refine pure_ (i := 10) (N := some 64) (v := ?_) (a' := ?_) #[true, true, true, true, true, true, true, true, true, false, true, false, false, false, false, false, false, false] rfl rfl (any_of HT_.out (by kernel_rfl)) (fun _ _ _ h => h) (Or.inl ⟨by rfl, ?_⟩) ?_ ?_
                              rotate_left
                              · intro w'
                                go_simp
                                with_reducible rfl
                              rotate_left
                              · simp only [Act.put, List.setIfInBounds_toArray, List.set_cons_zero, List.set_cons_succ, i64_w, i32_w]
                                rfl
                              refine pure_ (i := 11) (N := some 65) (v := ?_) (a' := ?_) #[true, true, true, true, true, true, true, true, true, false, true, true, false, false, false, false, false, false] rfl rfl (any_of HT_.out (by kernel_rfl)) (fun _ _ _ h => h) (Or.inl ⟨by rfl, ?_⟩) ?_ ?_
                              rotate_left
                              · intro w'
                                go_simp
                                with_reducible rfl
                              rotate_left
                              · simp only [Act.put, List.setIfInBounds_toArray, List.set_cons_zero, List.set_cons_succ, i64_w, i32_w]
                                rfl
                              refine pure_ (i := 12) (N := some 66) (v := ?_) (a' := ?_) #[true, true, true, true, true, true, true, true, true, false, true, true, true, false, false, false, false, false] rfl rfl (any_of HT_.out (by kernel_rfl)) (fun _ _ _ h => h) (Or.inl ⟨by rfl, ?_⟩) ?_ ?_
                              rotate_left
                              · intro w'
                                go_simp
                                with_reducible rfl
                              rotate_left
                              · simp only [Act.put, List.setIfInBounds_toArray, List.set_cons_zero, List.set_cons_succ, i64_w, i32_w]
                                rfl
                              refine take_ (i := 9) (N := some 63) (v := ?_) (a' := ?_) #[true, true, true, true, true, true, true, true, true, true, true, true, true, false, false, false, false, false] rfl rfl (take_ofW HT_.out HW_.out (by kernel_rfl)) (fun _ _ _ h => h) (Or.inl ⟨by rfl, ?_⟩) hHeld ?_ ?_
                              rotate_left
                              · rintro w' ⟨s0, s1, s2, s3, s4, s5⟩
                                go_simp
                                with_reducible rfl
                              rotate_left
                              · simp only [Act.put, List.setIfInBounds_toArray, List.set_cons_zero, List.set_cons_succ, i64_w, i32_w]
                                rfl
                              refine take_ (i := 13) (N := some 67) (v := ?_) (a' := ?_) #[true, true, true, true, true, true, true, true, true, true, true, true, true, true, false, false, false, false] rfl rfl (take_ofW HT_.out HW_.out (by kernel_rfl)) (fun _ _ _ h => h) (Or.inl ⟨by rfl, ?_⟩) hHeld ?_ ?_
                              rotate_left
                              · rintro w' ⟨s0, s1, s2, s3, s4, s5⟩
                                go_simp
                                with_reducible rfl
                              rotate_left
                              · simp only [Act.put, List.setIfInBounds_toArray, List.set_cons_zero, List.set_cons_succ, i64_w, i32_w]
                                rfl
                              refine pure_ (i := 14) (N := some 68) (v := ?_) (a' := ?_) #[true, true, true, true, true, true, true, true, true, true, true, true, true, true, true, false, false, false] rfl rfl (any_of HT_.out (by kernel_rfl)) (fun _ _ _ h => h) (Or.inl ⟨by rfl, ?_⟩) ?_ ?_
                              rotate_left
                              · intro w'
                                go_simp
                                with_reducible rfl
                              rotate_left
                              · simp only [Act.put, List.setIfInBounds_toArray, List.set_cons_zero, List.set_cons_succ, i64_w, i32_w]
                                rfl
                              refine last_ (i := 15) (N := none) #[true, true, true, true, true, true, true, true, true, true, true, true, true, true, true, true, false, false] rfl rfl (one_of HT_.out (by kernel_rfl)) (by decide) (fun K hK => ?_)
                              refine skip_ (w1 := ?_) (by rfl) rfl ?_ ?_
                              rotate_left
                              · go_simp
                                rfl
                              refine hK.out _ _ ?_
                              clear hK K
                              refine pure_ (i := 16) (N := some 69) (v := ?_) (a' := ?_) #[true, true, true, true, true, true, true, true, true, true, true, true, true, true, true, true, true, false] rfl rfl (any_of HT_.out (by kernel_rfl)) (fun _ _ _ h => h) (Or.inl ⟨by rfl, ?_⟩) ?_ ?_
                              rotate_left
                              · intro w'
                                go_simp
                                with_reducible rfl
                              rotate_left
                              · simp only [Act.put, List.setIfInBounds_toArray, List.set_cons_zero, List.set_cons_succ, i64_w, i32_w]
                                rfl
                              refine last_ (i := 17) (N := none) #[true, true, true, true, true, true, true, true, true, true, true, true, true, true, true, true, true, true] rfl rfl (one_of HT_.out (by kernel_rfl)) (by decide) (fun K hK => ?_)
                              refine skip_ (w1 := ?_) (by rfl) rfl ?_ ?_
                              rotate_left
                              · go_simp
                                rfl
                              refine hK.out _ _ ?_
                              clear hK K
                              refine done_ (done_of HT_.out (by kernel_rfl)) ?_
                              try go_wp2
                              (try simp only [← hl3_2])
                              go_roundg k2
                              case measure => have := HK1.out; have := HK2.out; omega
                              case rel => exact ⟨(y139), (ji13), (by first | rfl | (simp; done) | (simp only [← hji13] <;> (first | rfl | simp)) | (simp [*]; done)), H', ⟨by have := HK1.out; have := HK2.out; omega⟩, ⟨by (try simp only [hl3_2]); (with_reducible repeat (first | apply Kd.R_alloc | apply Kd.R_drewN | apply Kd.R_drew)); exact HQ22.out⟩, ⟨by repeat (first | (with_reducible first | exact HB.out | apply below_alloc | apply pw_below_drewN | apply below_drew1 | refine below_set ?_ GB17.out | refine below_set ?_ GB17.out | refine below_set ?_ GB17.out | refine below_set ?_ GB17.out | refine below_set ?_ GB17.out | refine below_set ?_ GB17.out) | exact HB.out)⟩⟩
                            · rw [if_neg c16] at H
                              have c16b0 : decide (((rd_T26 x3_2 x5_2).f0) < ((rd_T26 x3_2 (ji13)).f0)) = false := decide_eq_false c16
                              clear c16
                              have H' := Aside0.mk H
                              clear H
                              try go_wp2
                              have n0_ := Aside0.mk (Kd.R_drew HO_3.out)
                              have n1_ := Aside0.mk (below_drew1 HB.out)
                              clear HO_3
                              clear HB
                              have HO_3 := n0_
                              have HB := n1_
                              clear n0_ n1_
                              have p134 : 0 ≤ (x5_2 : Int) := of_decide_eq_true (by first | (with_reducible assumption) | assumption)
                              have q134 : x5_2 < (x3_2.length : Int) := of_decide_eq_true (by first | (with_reducible assumption) | assumption)
                              obtain ⟨ad134, e134, hx134_0, hx134_1, hx134_2⟩ := at_T26 (Kd.R_reads' HO_3.out).2.2 x5_2 p134 q134
                              cases e134
                              replace p134 := eq_true p134
                              replace q134 := eq_true q134
                              have p135 : 0 ≤ ((ji13) : Int) := of_decide_eq_true (by first | (with_reducible assumption) | assumption)
                              have q135 : (ji13) < (x3_2.length : Int) := of_decide_eq_true (by first | (with_reducible assumption) | assumption)
                              obtain ⟨ad135, e135, hx135_0, hx135_1, hx135_2⟩ := at_T26 (Kd.R_reads' HO_3.out).2.2 (ji13) p135 q135
                              obtain rfl : ad134 = ad135 := (by injection e135)
                              replace p135 := eq_true p135
                              replace q135 := eq_true q135
                              refine start_ (n := 16) (S := fun w' => w'.cell? (ad134.add ((x5_2).toNat * 3)) = some (.int .i64 ((rd_T26 x3_2 x5_2).f0)) ∧ w'.cell? ⟨(ad134.add ((x5_2).toNat * 3)).block, (ad134.add ((x5_2).toNat * 3)).off + 1, none⟩ = some (.int .i64 ((rd_T26 x3_2 x5_2).f1)) ∧ w'.cell? ⟨(ad134.add ((x5_2).toNat * 3)).block, (ad134.add ((x5_2).toNat * 3)).off + 2, none⟩ = some (.int .i64 ((rd_T26 x3_2 x5_2).f2)) ∧ w'.cell? (ad134.add (((ji13)).toNat * 3)) = some (.int .i64 ((rd_T26 x3_2 (ji13)).f0)) ∧ w'.cell? ⟨(ad134.add (((ji13)).toNat * 3)).block, (ad134.add (((ji13)).toNat * 3)).off + 1, none⟩ = some (.int .i64 ((rd_T26 x3_2 (ji13)).f1)) ∧ w'.cell? ⟨(ad134.add (((ji13)).toNat * 3)).block, (ad134.add (((ji13)).toNat * 3)).off + 2, none⟩ = some (.int .i64 ((rd_T26 x3_2 (ji13)).f2))) (ds := []) #[false, false, false, false, false, false, false, false, false, false, false, false, false, false, false, false] (by kernel_rfl) rfl rfl ⟨hx134_0, hx134_1, hx134_2, hx135_0, hx135_1, hx135_2⟩ (fun hHeld => ?_); refine with_tabW almanacref25_Merge.tab8 almanacref25_Merge.bits8 (fun HT_ HW_ => ?_)
                              generalize wr.drew = w23 at HO_3 HB hx134_0 hx134_1 hx134_2 hx135_0 hx135_1 hx135_2 hHeld ⊢
                              refine pure_ (i := 0) (N := some 36) (v := ?_) (a' := ?_) #[true, false, false, false, false, false, false, false, false, false, false, false, false, false, false, false] rfl rfl (any_of HT_.out (by kernel_rfl)) (fun _ _ _ h => h) (Or.inl ⟨by rfl, ?_⟩) ?_ ?_
                              rotate_left
                              · intro w'
                                go_simp
                                with_reducible rfl
                              rotate_left
                              · simp only [Act.put, List.setIfInBounds_toArray, List.set_cons_zero, List.set_cons_succ, i64_w, i32_w]
                                rfl
                              refine pure_ (i := 1) (N := some 37) (v := ?_) (a' := ?_) #[true, true, false, false, false, false, false, false, false, false, false, false, false, false, false, false] rfl rfl (any_of HT_.out (by kernel_rfl)) (fun _ _ _ h => h) (Or.inl ⟨by rfl, ?_⟩) ?_ ?_
                              rotate_left
                              · intro w'
                                go_simp
                                with_reducible rfl
                              rotate_left
                              · simp only [Act.put, List.setIfInBounds_toArray, List.set_cons_zero, List.set_cons_succ, i64_w, i32_w]
                                rfl
                              refine pure_ (i := 2) (N := some 38) (v := ?_) (a' := ?_) #[true, true, true, false, false, false, false, false, false, false, false, false, false, false, false, false] rfl rfl (any_of HT_.out (by kernel_rfl)) (fun _ _ _ h => h) (Or.inl ⟨by rfl, ?_⟩) ?_ ?_
                              rotate_left
                              · intro w'
                                go_simp
                                with_reducible rfl
                              rotate_left
                              · simp only [Act.put, List.setIfInBounds_toArray, List.set_cons_zero, List.set_cons_succ, i64_w, i32_w]
                                rfl
                              refine pure_ (i := 3) (N := some 39) (v := ?_) (a' := ?_) #[true, true, true, true, false, false, false, false, false, false, false, false, false, false, false, false] rfl rfl (any_of HT_.out (by kernel_rfl)) (fun _ _ _ h => h) (Or.inl ⟨by rfl, ?_⟩) ?_ ?_
                              rotate_left
                              · intro w'
                                go_simp
                                with_reducible rfl
                              rotate_left
                              · simp only [Act.put, List.setIfInBounds_toArray, List.set_cons_zero, List.set_cons_succ, i64_w, i32_w]
                                rfl
                              refine pure_ (i := 4) (N := some 40) (v := ?_) (a' := ?_) #[true, true, true, true, true, false, false, false, false, false, false, false, false, false, false, false] rfl rfl (any_of HT_.out (by kernel_rfl)) (fun _ _ _ h => h) (Or.inl ⟨by rfl, ?_⟩) ?_ ?_
                              rotate_left
                              · intro w'
                                go_simp
                                with_reducible rfl
                              rotate_left
                              · simp only [Act.put, List.setIfInBounds_toArray, List.set_cons_zero, List.set_cons_succ, i64_w, i32_w]
                                rfl
                              refine pure_ (i := 5) (N := some 41) (v := ?_) (a' := ?_) #[true, true, true, true, true, true, false, false, false, false, false, false, false, false, false, false] rfl rfl (any_of HT_.out (by kernel_rfl)) (fun _ _ _ h => h) (Or.inl ⟨by rfl, ?_⟩) ?_ ?_
                              rotate_left
                              · intro w'
                                go_simp
                                with_reducible rfl
                              rotate_left
                              · simp only [Act.put, List.setIfInBounds_toArray, List.set_cons_zero, List.set_cons_succ, i64_w, i32_w]
                                rfl
                              refine pure_ (i := 6) (N := some 42) (v := ?_) (a' := ?_) #[true, true, true, true, true, true, true, false, false, false, false, false, false, false, false, false] rfl rfl (any_of HT_.out (by kernel_rfl)) (fun _ _ _ h => h) (Or.inl ⟨by rfl, ?_⟩) ?_ ?_
                              rotate_left
                              · intro w'
                                go_simp
                                with_reducible rfl
                              rotate_left
                              · simp only [Act.put, List.setIfInBounds_toArray, List.set_cons_zero, List.set_cons_succ, i64_w, i32_w]
                                rfl
                              refine pure_ (i := 8) (N := some 44) (v := ?_) (a' := ?_) #[true, true, true, true, true, true, true, false, true, false, false, false, false, false, false, false] rfl rfl (any_of HT_.out (by kernel_rfl)) (fun _ _ _ h => h) (Or.inl ⟨by rfl, ?_⟩) ?_ ?_
                              rotate_left
                              · intro w'
                                go_simp
                                with_reducible rfl
                              rotate_left
                              · simp only [Act.put, List.setIfInBounds_toArray, List.set_cons_zero, List.set_cons_succ, i64_w, i32_w]
                                rfl
                              refine pure_ (i := 9) (N := some 45) (v := ?_) (a' := ?_) #[true, true, true, true, true, true, true, false, true, true, false, false, false, false, false, false] rfl rfl (any_of HT_.out (by kernel_rfl)) (fun _ _ _ h => h) (Or.inl ⟨by rfl, ?_⟩) ?_ ?_
                              rotate_left
                              · intro w'
                                go_simp
                                with_reducible rfl
                              rotate_left
                              · simp only [Act.put, List.setIfInBounds_toArray, List.set_cons_zero, List.set_cons_succ, i64_w, i32_w]
                                rfl
                              refine pure_ (i := 10) (N := some 46) (v := ?_) (a' := ?_) #[true, true, true, true, true, true, true, false, true, true, true, false, false, false, false, false] rfl rfl (any_of HT_.out (by kernel_rfl)) (fun _ _ _ h => h) (Or.inl ⟨by rfl, ?_⟩) ?_ ?_
                              rotate_left
                              · intro w'
                                go_simp
                                with_reducible rfl
                              rotate_left
                              · simp only [Act.put, List.setIfInBounds_toArray, List.set_cons_zero, List.set_cons_succ, i64_w, i32_w]
                                rfl
                              refine pure_ (i := 11) (N := some 47) (v := ?_) (a' := ?_) #[true, true, true, true, true, true, true, false, true, true, true, true, false, false, false, false] rfl rfl (any_of HT_.out (by kernel_rfl)) (fun _ _ _ h => h) (Or.inl ⟨by rfl, ?_⟩) ?_ ?_
                              rotate_left
                              · intro w'
                                go_simp
                                with_reducible rfl
                              rotate_left
                              · simp only [Act.put, List.setIfInBounds_toArray, List.set_cons_zero, List.set_cons_succ, i64_w, i32_w]
                                rfl
                              refine pure_ (i := 12) (N := some 48) (v := ?_) (a' := ?_) #[true, true, true, true, true, true, true, false, true, true, true, true, true, false, false, false] rfl rfl (any_of HT_.out (by kernel_rfl)) (fun _ _ _ h => h) (Or.inl ⟨by rfl, ?_⟩) ?_ ?_
                              rotate_left
                              · intro w'
                                go_simp
                                with_reducible rfl
                              rotate_left
                              · simp only [Act.put, List.setIfInBounds_toArray, List.set_cons_zero, List.set_cons_succ, i64_w, i32_w]
                                rfl
                              refine take_ (i := 7) (N := some 43) (v := ?_) (a' := ?_) #[true, true, true, true, true, true, true, true, true, true, true, true, true, false, false, false] rfl rfl (take_ofW HT_.out HW_.out (by kernel_rfl)) (fun _ _ _ h => h) (Or.inl ⟨by rfl, ?_⟩) hHeld ?_ ?_
                              rotate_left
                              · rintro w' ⟨s0, s1, s2, s3, s4, s5⟩
                                go_simp
                                with_reducible rfl
                              rotate_left
                              · simp only [Act.put, List.setIfInBounds_toArray, List.set_cons_zero, List.set_cons_succ, i64_w, i32_w]
                                rfl
                              refine take_ (i := 13) (N := some 49) (v := ?_) (a' := ?_) #[true, true, true, true, true, true, true, true, true, true, true, true, true, true, false, false] rfl rfl (take_ofW HT_.out HW_.out (by kernel_rfl)) (fun _ _ _ h => h) (Or.inl ⟨by rfl, ?_⟩) hHeld ?_ ?_
                              rotate_left
                              · rintro w' ⟨s0, s1, s2, s3, s4, s5⟩
                                go_simp
                                with_reducible rfl
                              rotate_left
                              · simp only [Act.put, List.setIfInBounds_toArray, List.set_cons_zero, List.set_cons_succ, i64_w, i32_w]
                                rfl
                              refine pure_ (i := 14) (N := some 50) (v := ?_) (a' := ?_) #[true, true, true, true, true, true, true, true, true, true, true, true, true, true, true, false] rfl rfl (any_of HT_.out (by kernel_rfl)) (fun _ _ _ h => h) (Or.inl ⟨by rfl, ?_⟩) ?_ ?_
                              rotate_left
                              · intro w'
                                go_simp
                                with_reducible rfl
                              rotate_left
                              · simp only [Act.put, List.setIfInBounds_toArray, List.set_cons_zero, List.set_cons_succ, i64_w, i32_w]
                                rfl
                              refine pure_ (i := 15) (N := some 51) (v := ?_) (a' := ?_) #[true, true, true, true, true, true, true, true, true, true, true, true, true, true, true, true] rfl rfl (any_of HT_.out (by kernel_rfl)) (fun _ _ _ h => h) (Or.inl ⟨by rfl, ?_⟩) ?_ ?_
                              rotate_left
                              · intro w'
                                go_simp
                                with_reducible rfl
                              rotate_left
                              · simp only [Act.put, List.setIfInBounds_toArray, List.set_cons_zero, List.set_cons_succ, i64_w, i32_w]
                                rfl
                              refine done_ (done_of HT_.out (by kernel_rfl)) ?_
                              try go_wp2
                              (try simp only [← hl3_2])
                              go_roundg k2
                              case measure => have := HK1.out; have := HK2.out; omega
                              case rel => exact ⟨(x3_2), (wrap64 (x4_1 + 1)), (by first | rfl | (simp; done) | (simp [*]; done)), H', ⟨by have := HK1.out; have := HK2.out; omega⟩, ⟨by (try simp only [hl3_2]); (with_reducible repeat (first | apply Kd.R_alloc | apply Kd.R_drewN | apply Kd.R_drew)); exact HO_3.out⟩, ⟨by repeat (first | (with_reducible first | exact HB.out | apply below_alloc | apply pw_below_drewN | apply below_drew1) | exact HB.out)⟩⟩
                          · rw [if_neg c15] at H
                            exact absurd H (by simp)
                        · rw [if_neg c14] at H
                          exact absurd H (by simp)
                      · rw [if_neg c12] at H
                        exact absurd H (by simp)
                    · rw [if_neg c11] at H
                      exact absurd H (by simp)
                  · rw [if_neg c10] at H
                    have c10b0 : decide (0 < x5_2) = false := decide_eq_false c10
                    clear c10
                    have H' := Aside0.mk H
                    clear H
                    try go_wp2
                    have n0_ := Aside0.mk (Kd.R_drew HO_3.out)
                    have n1_ := Aside0.mk (below_drew1 HB.out)
                    clear HO_3
                    clear HB
                    have HO_3 := n0_
                    have HB := n1_
                    clear n0_ n1_
                    refine start_ (n := 16) (S := fun w' => True) (ds := []) #[false, false, false, false, false, false, false, false, false, false, false, false, false, false, false, false] (by kernel_rfl) rfl rfl trivial (fun hHeld => ?_); refine with_tabW almanacref25_Merge.tab8 almanacref25_Merge.bits8 (fun HT_ HW_ => ?_)
                    generalize wr.drew = w24 at HO_3 HB hHeld ⊢
                    refine pure_ (i := 0) (N := some 36) (v := ?_) (a' := ?_) #[true, false, false, false, false, false, false, false, false, false, false, false, false, false, false, false] rfl rfl (any_of HT_.out (by kernel_rfl)) (fun _ _ _ h => h) (Or.inl ⟨by rfl, ?_⟩) ?_ ?_
                    rotate_left
                    · intro w'
                      go_simp
                      with_reducible rfl
                    rotate_left
                    · simp only [Act.put, List.setIfInBounds_toArray, List.set_cons_zero, List.set_cons_succ, i64_w, i32_w]
                      rfl
                    refine pure_ (i := 1) (N := some 37) (v := ?_) (a' := ?_) #[true, true, false, false, false, false, false, false, false, false, false, false, false, false, false, false] rfl rfl (any_of HT_.out (by kernel_rfl)) (fun _ _ _ h => h) (Or.inl ⟨by rfl, ?_⟩) ?_ ?_
                    rotate_left
                    · intro w'
                      go_simp
                      with_reducible rfl
                    rotate_left
                    · simp only [Act.put, List.setIfInBounds_toArray, List.set_cons_zero, List.set_cons_succ, i64_w, i32_w]
                      rfl
                    refine pure_ (i := 2) (N := some 38) (v := ?_) (a' := ?_) #[true, true, true, false, false, false, false, false, false, false, false, false, false, false, false, false] rfl rfl (any_of HT_.out (by kernel_rfl)) (fun _ _ _ h => h) (Or.inl ⟨by rfl, ?_⟩) ?_ ?_
                    rotate_left
                    · intro w'
                      go_simp
                      with_reducible rfl
                    rotate_left
                    · simp only [Act.put, List.setIfInBounds_toArray, List.set_cons_zero, List.set_cons_succ, i64_w, i32_w]
                      rfl
                    refine pure_ (i := 3) (N := some 39) (v := undef) (a' := ?_) #[true, true, true, true, false, false, false, false, false, false, false, false, false, false, false, false] rfl rfl (any_of HT_.out (by kernel_rfl)) (fun _ _ _ h => h) (Or.inr ⟨by rfl, rfl⟩) ?_ ?_
                    rotate_left
                    · simp only [Act.put, List.setIfInBounds_toArray, List.set_cons_zero, List.set_cons_succ, i64_w, i32_w]
                      rfl
                    refine pure_ (i := 4) (N := some 40) (v := undef) (a' := ?_) #[true, true, true, true, true, false, false, false, false, false, false, false, false, false, false, false] rfl rfl (any_of HT_.out (by kernel_rfl)) (fun _ _ _ h => h) (Or.inr ⟨by rfl, rfl⟩) ?_ ?_
                    rotate_left
                    · simp only [Act.put, List.setIfInBounds_toArray, List.set_cons_zero, List.set_cons_succ, i64_w, i32_w]
                      rfl
                    refine pure_ (i := 5) (N := some 41) (v := undef) (a' := ?_) #[true, true, true, true, true, true, false, false, false, false, false, false, false, false, false, false] rfl rfl (any_of HT_.out (by kernel_rfl)) (fun _ _ _ h => h) (Or.inr ⟨by rfl, rfl⟩) ?_ ?_
                    rotate_left
                    · simp only [Act.put, List.setIfInBounds_toArray, List.set_cons_zero, List.set_cons_succ, i64_w, i32_w]
                      rfl
                    refine pure_ (i := 6) (N := some 42) (v := undef) (a' := ?_) #[true, true, true, true, true, true, true, false, false, false, false, false, false, false, false, false] rfl rfl (any_of HT_.out (by kernel_rfl)) (fun _ _ _ h => h) (Or.inr ⟨by rfl, rfl⟩) ?_ ?_
                    rotate_left
                    · simp only [Act.put, List.setIfInBounds_toArray, List.set_cons_zero, List.set_cons_succ, i64_w, i32_w]
                      rfl
                    refine pure_ (i := 7) (N := some 43) (v := undef) (a' := ?_) #[true, true, true, true, true, true, true, true, false, false, false, false, false, false, false, false] rfl rfl (any_of HT_.out (by kernel_rfl)) (fun _ _ _ h => h) (Or.inr ⟨by rfl, rfl⟩) ?_ ?_
                    rotate_left
                    · simp only [Act.put, List.setIfInBounds_toArray, List.set_cons_zero, List.set_cons_succ, i64_w, i32_w]
                      rfl
                    refine pure_ (i := 8) (N := some 44) (v := undef) (a' := ?_) #[true, true, true, true, true, true, true, true, true, false, false, false, false, false, false, false] rfl rfl (any_of HT_.out (by kernel_rfl)) (fun _ _ _ h => h) (Or.inr ⟨by rfl, rfl⟩) ?_ ?_
                    rotate_left
                    · simp only [Act.put, List.setIfInBounds_toArray, List.set_cons_zero, List.set_cons_succ, i64_w, i32_w]
                      rfl
                    refine pure_ (i := 9) (N := some 45) (v := undef) (a' := ?_) #[true, true, true, true, true, true, true, true, true, true, false, false, false, false, false, false] rfl rfl (any_of HT_.out (by kernel_rfl)) (fun _ _ _ h => h) (Or.inr ⟨by rfl, rfl⟩) ?_ ?_
                    rotate_left
                    · simp only [Act.put, List.setIfInBounds_toArray, List.set_cons_zero, List.set_cons_succ, i64_w, i32_w]
                      rfl
                    refine pure_ (i := 10) (N := some 46) (v := undef) (a' := ?_) #[true, true, true, true, true, true, true, true, true, true, true, false, false, false, false, false] rfl rfl (any_of HT_.out (by kernel_rfl)) (fun _ _ _ h => h) (Or.inr ⟨by rfl, rfl⟩) ?_ ?_
                    rotate_left
                    · simp only [Act.put, List.setIfInBounds_toArray, List.set_cons_zero, List.set_cons_succ, i64_w, i32_w]
                      rfl
                    refine pure_ (i := 11) (N := some 47) (v := undef) (a' := ?_) #[true, true, true, true, true, true, true, true, true, true, true, true, false, false, false, false] rfl rfl (any_of HT_.out (by kernel_rfl)) (fun _ _ _ h => h) (Or.inr ⟨by rfl, rfl⟩) ?_ ?_
                    rotate_left
                    · simp only [Act.put, List.setIfInBounds_toArray, List.set_cons_zero, List.set_cons_succ, i64_w, i32_w]
                      rfl
                    refine pure_ (i := 12) (N := some 48) (v := undef) (a' := ?_) #[true, true, true, true, true, true, true, true, true, true, true, true, true, false, false, false] rfl rfl (any_of HT_.out (by kernel_rfl)) (fun _ _ _ h => h) (Or.inr ⟨by rfl, rfl⟩) ?_ ?_
                    rotate_left
                    · simp only [Act.put, List.setIfInBounds_toArray, List.set_cons_zero, List.set_cons_succ, i64_w, i32_w]
                      rfl
                    refine pure_ (i := 13) (N := some 49) (v := undef) (a' := ?_) #[true, true, true, true, true, true, true, true, true, true, true, true, true, true, false, false] rfl rfl (any_of HT_.out (by kernel_rfl)) (fun _ _ _ h => h) (Or.inr ⟨by rfl, rfl⟩) ?_ ?_
                    rotate_left
                    · simp only [Act.put, List.setIfInBounds_toArray, List.set_cons_zero, List.set_cons_succ, i64_w, i32_w]
                      rfl
                    refine pure_ (i := 14) (N := some 50) (v := undef) (a' := ?_) #[true, true, true, true, true, true, true, true, true, true, true, true, true, true, true, false] rfl rfl (any_of HT_.out (by kernel_rfl)) (fun _ _ _ h => h) (Or.inr ⟨by rfl, rfl⟩) ?_ ?_
                    rotate_left
                    · simp only [Act.put, List.setIfInBounds_toArray, List.set_cons_zero, List.set_cons_succ, i64_w, i32_w]
                      rfl
                    refine pure_ (i := 15) (N := some 51) (v := ?_) (a' := ?_) #[true, true, true, true, true, true, true, true, true, true, true, true, true, true, true, true] rfl rfl (any_of HT_.out (by kernel_rfl)) (fun _ _ _ h => h) (Or.inl ⟨by rfl, ?_⟩) ?_ ?_
                    rotate_left
                    · intro w'
                      go_simp
                      with_reducible rfl
                    rotate_left
                    · simp only [Act.put, List.setIfInBounds_toArray, List.set_cons_zero, List.set_cons_succ, i64_w, i32_w]
                      rfl
                    refine done_ (done_of HT_.out (by kernel_rfl)) ?_
                    try go_wp2
                    (try simp only [← hl3_2])
                    go_roundg k2
                    case measure => have := HK1.out; have := HK2.out; omega
                    case rel => exact ⟨(x3_2), (wrap64 (x4_1 + 1)), (by first | rfl | (simp; done) | (simp [*]; done)), H', ⟨by have := HK1.out; have := HK2.out; omega⟩, ⟨by (try simp only [hl3_2]); (with_reducible repeat (first | apply Kd.R_alloc | apply Kd.R_drewN | apply Kd.R_drew)); exact HO_3.out⟩, ⟨by repeat (first | (with_reducible first | exact HB.out | apply below_alloc | apply pw_below_drewN | apply below_drew1) | exact HB.out)⟩⟩
            · rw [if_neg c6] at H
              exact absurd H (by simp)
        · rw [if_neg c3] at H
          exact absurd H (by simp)
      · rw [if_neg c2] at H
        have c2b0 : decide (x4_1 < (l0.length : Int)) = false := decide_eq_false c2
        clear c2
        have H' := Aside0.mk H
        clear H
        go_wp2
        go_loopg [6, 7] k1 (fun kq v6 v7 w' => ∃ (x3_2 : List (S26)) (x6_2 : List (S26)) (x7_2 : Int), v7 = .int .i64 x7_2 ∧ Aside0 (almanacref25_Merge.l2 kq x3_2 x6_2 x7_2 = some r) ∧ Aside0 (kq ≤ k1) ∧ Aside0 (Kd.R k26 26 w' w.heap.size (fun k_ => some k_ ≠ (v6 : Value).ownBlock) u3 x3_2) ∧ Aside0 (Kd.R k26 26 w' w.heap.size (fun k_ => some k_ ≠ (u3 : Value).ownBlock) v6 x6_2) ∧ Aside0 (Below w.heap.size w w'))
        case atStart => exact ⟨(x3_1), (([] : List (S26))), (0), (by first | rfl | (simp; done) | (simp [*]; done)), H', ⟨Nat.le_refl _⟩, ⟨by (with_reducible repeat (first | apply Kd.R_alloc | apply Kd.R_drewN | apply Kd.R_drew)); exact Kd.R_mono HO_3.out (fun _ hk => (by simp [Value.ownBlock]))⟩, ⟨by first | exact Kd.R_nil _ _ _ _ _ | exact Kd.N_nil _ _ _ _ _ | exact Kd.V_nil _ _ _ _ _ | exact Kd.Q_nil _ _ _ _ _ | exact Kd.S_nil _ _ _ _ _⟩, ⟨by repeat (first | (with_reducible first | exact HB.out | apply below_alloc | apply pw_below_drewN | apply below_drew1) | exact HB.out)⟩⟩
        case round =>
          clear H'
          try clear c1
          try clear p1
          try clear q1
          try clear hx1
          try clear hf1
          try clear c2
          try clear c2b0
          try clear p2
          try clear c3
          try clear c6
          try clear p6
          try clear c10
          try clear c10b0
          try clear c11
          try clear c12
          try clear p13
          try clear q13
          try clear hx13
          try clear c14
          try clear c15
          try clear c16
          try clear c16b0
          try clear c17
          try clear p17
          try clear q17
          try clear hx17
          try clear hf17
          try clear c18
          try clear p18
          try clear q18
          try clear hx18
          try clear hf18
          try clear c21
          try clear c22
          try clear hx134_0
          try clear hx134_1
          try clear hx134_2
          try clear hx135_0
          try clear hx135_1
          try clear hx135_2
          try clear hx136_0
          try clear hx136_1
          try clear hx136_2
          try clear hx137_0
          try clear hx137_1
          try clear hx137_2
          try clear hx17_0
          try clear hx17_1
          try clear hx17_2
          try clear hx18_0
          try clear hx18_1
          try clear hx18_2
          try clear p134
          try clear p135
          try clear p136
          try clear p137
          try clear p17
          try clear p18
          try clear q134
          try clear q135
          try clear q136
          try clear q137
          try clear q17
          try clear q18
          obtain ⟨x3_2, x6_2, x7_2, rfl, HA, HK2, HO_3, HO_6, HB⟩ := hrel
          cases gk with
          | zero => exact absurd HA.out (by simp [almanacref25_Merge.l2])
          | succ k2 =>
            have H := HA.out
            clear HA
            simp only [almanacref25_Merge.l2] at H
            by_cases c25 : x7_2 < (x3_2.length : Int)
            · rw [if_pos c25] at H
              have c25b0 : decide (x7_2 < (x3_2.length : Int)) = true := decide_eq_true c25
              clear c25
              by_cases c26 : (x6_2.length : Int) > 0
              · rw [if_pos c26] at H
                have c26b0 : decide (0 < (x6_2.length : Int)) = true := decide_eq_true c26
                have c26b1 : decide (0 < x6_2.length) = true := decide_eq_true (by omega)
                clear c26
                by_cases c27 : 0 ≤ x7_2
                · rw [if_pos c27] at H
                  have c27b0 : decide (0 ≤ x7_2) = true := decide_eq_true c27
                  clear c27
                  obtain ⟨ji28, hji28⟩ : ∃ j_ : Int, (wrap64 ((x6_2.length : Int) - 1)) = j_ := ⟨_, rfl⟩
                  replace H : (if 0 ≤ (ji28) then (if (ji28) < (x6_2.length : Int) then (if ((rd_T26 x3_2 x7_2).f0) ≤ ((rd_T26 x6_2 (ji28)).f1) then (almanacref25_Merge.l2 k2 x3_2 (x6_2.set ((ji28) : Int).toNat (⟨(rd_T26 x6_2 (ji28)).f0, mx ((rd_T26 x6_2 (ji28)).f1) ((rd_T26 x3_2 x7_2).f1), (rd_T26 x6_2 (ji28)).f2⟩ : S26)) (wrap64 (x7_2 + 1))) else (if x6_2.length < 5864062014805 then (almanacref25_Merge.l2 k2 x3_2 (x6_2 ++ [(⟨(rd_T26 x3_2 x7_2).f0, (rd_T26 x3_2 x7_2).f1, (rd_T26 x3_2 x7_2).f0⟩ : S26)]) (wrap64 (x7_2 + 1))) else (none))) else (none)) else (none)) = some r := by first | (rw [hji28] at H; exact H) | (simp only [hji28] at H ⊢; exact H)
                  have hji28w : (IntKind.i64.wrap ((x6_2.length : Int) - 1)) = ji28 := (i64_w _).trans hji28
                  by_cases c29 : 0 ≤ (ji28)
                  · rw [if_pos c29] at H
                    have c29b0 : decide (0 ≤ (ji28)) = true := decide_eq_true c29
                    clear c29
                    by_cases c30 : (ji28) < (x6_2.length : Int)
                    · rw [if_pos c30] at H
                      have c30b0 : decide ((ji28) < (x6_2.length : Int)) = true := decide_eq_true c30
                      clear c30
                      by_cases c31 : ((rd_T26 x3_2 x7_2).f0) ≤ ((rd_T26 x6_2 (ji28)).f1)
                      · rw [if_pos c31] at H
                        have c31b0 : decide (((rd_T26 x3_2 x7_2).f0) ≤ ((rd_T26 x6_2 (ji28)).f1)) = true := decide_eq_true c31
                        clear c31
                        obtain ⟨ji32, hji32⟩ : ∃ j_ : Int, (mx ((rd_T26 x6_2 (ji28)).f1) ((rd_T26 x3_2 x7_2).f1)) = j_ := ⟨_, rfl⟩
                        replace H : (almanacref25_Merge.l2 k2 x3_2 (x6_2.set ((ji28) : Int).toNat (⟨(rd_T26 x6_2 (ji28)).f0, ji32, (rd_T26 x6_2 (ji28)).f2⟩ : S26)) (wrap64 (x7_2 + 1))) = some r := by first | (rw [hji32] at H; exact H) | (simp only [hji32] at H ⊢; exact H)
                        have hji32_ : (if ((rd_T26 x6_2 (ji28)).f1) < ((rd_T26 x3_2 x7_2).f1) then ((rd_T26 x3_2 x7_2).f1) else ((rd_T26 x6_2 (ji28)).f1)) = ji32 := hji32
                        obtain ⟨y144, hy144⟩ : ∃ y_ : List (S26), y_ = (x6_2.set ((ji28) : Int).toNat (⟨(rd_T26 x6_2 (ji28)).f0, ji32, (rd_T26 x6_2 (ji28)).f2⟩ : S26)) := ⟨_, rfl⟩
                        replace H : (almanacref25_Merge.l2 k2 x3_2 y144 (wrap64 (x7_2 + 1))) = some r := by first | (rw [hy144]; with_reducible exact H) | (have H2_ := (Option.bind_some _ _).symm.trans H; rw [hy144]; with_reducible exact H2_) | (have H2_ := (Option.bind_some _ _).symm.trans H; with_reducible exact H2_) | with_reducible exact H | (rw [hy144]; exact H) | exact H
                        have Ny144 := Aside0.mk hy144
                        clear hy144
                        have H' := Aside0.mk H
                        clear H
                        obtain ⟨Ao34, co34, eo34⟩ := Kd.R_slice HO_3.out
                        subst eo34
                        obtain ⟨Ao35, co35, eo35⟩ := Kd.R_slice HO_6.out
                        subst eo35
                        try go_wp2
                        have n0_ := Aside0.mk (Kd.R_drew HO_3.out)
                        have n1_ := Aside0.mk (Kd.R_drew HO_6.out)
                        have n2_ := Aside0.mk (below_drew1 HB.out)
                        clear HO_3
                        clear HO_6
                        clear HB
                        have HO_3 := n0_
                        have HO_6 := n1_
                        have HB := n2_
                        clear n0_ n1_ n2_
                        have p140 : 0 ≤ (x7_2 : Int) := of_decide_eq_true (by first | (with_reducible assumption) | assumption)
                        have q140 : x7_2 < (x3_2.length : Int) := of_decide_eq_true (by first | (with_reducible assumption) | assumption)
                        obtain ⟨ad140, e140, hx140_0, hx140_1, hx140_2⟩ := at_T26 (Kd.R_reads' HO_3.out).2.2 x7_2 p140 q140
                        cases e140
                        replace p140 := eq_true p140
                        replace q140 := eq_true q140
                        have p141 : 0 ≤ ((ji28) : Int) := of_decide_eq_true (by first | (with_reducible assumption) | assumption)
                        have q141 : (ji28) < (x6_2.length : Int) := of_decide_eq_true (by first | (with_reducible assumption) | assumption)
                        obtain ⟨ad141, e141, hx141_0, hx141_1, hx141_2⟩ := at_T26 (Kd.R_reads' HO_6.out).2.2 (ji28) p141 q141
                        cases e141
                        replace p141 := eq_true p141
                        replace q141 := eq_true q141
                        refine start_ (n := 16) (S := fun w' => w'.cell? (ad140.add ((x7_2).toNat * 3)) = some (.int .i64 ((rd_T26 x3_2 x7_2).f0)) ∧ w'.cell? ⟨(ad140.add ((x7_2).toNat * 3)).block, (ad140.add ((x7_2).toNat * 3)).off + 1, none⟩ = some (.int .i64 ((rd_T26 x3_2 x7_2).f1)) ∧ w'.cell? ⟨(ad140.add ((x7_2).toNat * 3)).block, (ad140.add ((x7_2).toNat * 3)).off + 2, none⟩ = some (.int .i64 ((rd_T26 x3_2 x7_2).f2)) ∧ w'.cell? (ad141.add (((ji28)).toNat * 3)) = some (.int .i64 ((rd_T26 x6_2 (ji28)).f0)) ∧ w'.cell? ⟨(ad141.add (((ji28)).toNat * 3)).block, (ad141.add (((ji28)).toNat * 3)).off + 1, none⟩ = some (.int .i64 ((rd_T26 x6_2 (ji28)).f1)) ∧ w'.cell? ⟨(ad141.add (((ji28)).toNat * 3)).block, (ad141.add (((ji28)).toNat * 3)).off + 2, none⟩ = some (.int .i64 ((rd_T26 x6_2 (ji28)).f2))) (ds := []) #[false, false, false, false, false, false, false, false, false, false, false, false, false, false, false, false] (by kernel_rfl) rfl rfl ⟨hx140_0, hx140_1, hx140_2, hx141_0, hx141_1, hx141_2⟩ (fun hHeld => ?_); refine with_tabW almanacref25_Merge.tab16 almanacref25_Merge.bits16 (fun HT_ HW_ => ?_)
                        generalize wr.drew = w36 at HO_3 HO_6 HB hx140_0 hx140_1 hx140_2 hx141_0 hx141_1 hx141_2 hHeld ⊢
                        refine pure_ (i := 0) (N := some 78) (v := ?_) (a' := ?_) #[true, false, false, false, false, false, false, false, false, false, false, false, false, false, false, false] rfl rfl (any_of HT_.out (by kernel_rfl)) (fun _ _ _ h => h) (Or.inl ⟨by rfl, ?_⟩) ?_ ?_
                        rotate_left
                        · intro w'
                          go_simp
                          with_reducible rfl
                        rotate_left
                        · simp only [Act.put, List.setIfInBounds_toArray, List.set_cons_zero, List.set_cons_succ, i64_w, i32_w]
                          rfl
                        refine pure_ (i := 1) (N := some 79) (v := ?_) (a' := ?_) #[true, true, false, false, false, false, false, false, false, false, false, false, false, false, false, false] rfl rfl (any_of HT_.out (by kernel_rfl)) (fun _ _ _ h => h) (Or.inl ⟨by rfl, ?_⟩) ?_ ?_
                        rotate_left
                        · intro w'
                          go_simp
                          with_reducible rfl
                        rotate_left
                        · simp only [Act.put, List.setIfInBounds_toArray, List.set_cons_zero, List.set_cons_succ, i64_w, i32_w]
                          rfl
                        refine pure_ (i := 2) (N := some 80) (v := ?_) (a' := ?_) #[true, true, true, false, false, false, false, false, false, false, false, false, false, false, false, false] rfl rfl (any_of HT_.out (by kernel_rfl)) (fun _ _ _ h => h) (Or.inl ⟨by rfl, ?_⟩) ?_ ?_
                        rotate_left
                        · intro w'
                          go_simp
                          with_reducible rfl
                        rotate_left
                        · simp only [Act.put, List.setIfInBounds_toArray, List.set_cons_zero, List.set_cons_succ, i64_w, i32_w]
                          rfl
                        refine pure_ (i := 3) (N := some 81) (v := ?_) (a' := ?_) #[true, true, true, true, false, false, false, false, false, false, false, false, false, false, false, false] rfl rfl (any_of HT_.out (by kernel_rfl)) (fun _ _ _ h => h) (Or.inl ⟨by rfl, ?_⟩) ?_ ?_
                        rotate_left
                        · intro w'
                          go_simp
                          with_reducible rfl
                        rotate_left
                        · simp only [Act.put, List.setIfInBounds_toArray, List.set_cons_zero, List.set_cons_succ, i64_w, i32_w]
                          rfl
                        refine pure_ (i := 4) (N := some 82) (v := ?_) (a' := ?_) #[true, true, true, true, true, false, false, false, false, false, false, false, false, false, false, false] rfl rfl (any_of HT_.out (by kernel_rfl)) (fun _ _ _ h => h) (Or.inl ⟨by rfl, ?_⟩) ?_ ?_
                        rotate_left
                        · intro w'
                          go_simp
                          with_reducible rfl
                        rotate_left
                        · simp only [Act.put, List.setIfInBounds_toArray, List.set_cons_zero, List.set_cons_succ, i64_w, i32_w]
                          rfl
                        refine pure_ (i := 5) (N := some 83) (v := ?_) (a' := ?_) #[true, true, true, true, true, true, false, false, false, false, false, false, false, false, false, false] rfl rfl (any_of HT_.out (by kernel_rfl)) (fun _ _ _ h => h) (Or.inl ⟨by rfl, ?_⟩) ?_ ?_
                        rotate_left
                        · intro w'
                          go_simp
                          with_reducible rfl
                        rotate_left
                        · simp only [Act.put, List.setIfInBounds_toArray, List.set_cons_zero, List.set_cons_succ, i64_w, i32_w]
                          rfl
                        refine pure_ (i := 6) (N := some 84) (v := ?_) (a' := ?_) #[true, true, true, true, true, true, true, false, false, false, false, false, false, false, false, false] rfl rfl (any_of HT_.out (by kernel_rfl)) (fun _ _ _ h => h) (Or.inl ⟨by rfl, ?_⟩) ?_ ?_
                        rotate_left
                        · intro w'
                          go_simp
                          with_reducible rfl
                        rotate_left
                        · simp only [Act.put, List.setIfInBounds_toArray, List.set_cons_zero, List.set_cons_succ, i64_w, i32_w]
                          rfl
                        refine pure_ (i := 8) (N := some 86) (v := ?_) (a' := ?_) #[true, true, true, true, true, true, true, false, true, false, false, false, false, false, false, false] rfl rfl (any_of HT_.out (by kernel_rfl)) (fun _ _ _ h => h) (Or.inl ⟨by rfl, ?_⟩) ?_ ?_
                        rotate_left
                        · intro w'
                          go_simp
                          with_reducible rfl
                        rotate_left
                        · simp only [Act.put, List.setIfInBounds_toArray, List.set_cons_zero, List.set_cons_succ, i64_w, i32_w]
                          rfl
                        refine pure_ (i := 9) (N := some 87) (v := ?_) (a' := ?_) #[true, true, true, true, true, true, true, false, true, true, false, false, false, false, false, false] rfl rfl (any_of HT_.out (by kernel_rfl)) (fun _ _ _ h => h) (Or.inl ⟨by rfl, ?_⟩) ?_ ?_
                        rotate_left
                        · intro w'
                          go_simp
                          with_reducible rfl
                        rotate_left
                        · simp only [Act.put, List.setIfInBounds_toArray, List.set_cons_zero, List.set_cons_succ, i64_w, i32_w]
                          rfl
                        refine pure_ (i := 10) (N := some 88) (v := ?_) (a' := ?_) #[true, true, true, true, true, true, true, false, true, true, true, false, false, false, false, false] rfl rfl (any_of HT_.out (by kernel_rfl)) (fun _ _ _ h => h) (Or.inl ⟨by rfl, ?_⟩) ?_ ?_
                        rotate_left
                        · intro w'
                          go_simp
                          with_reducible rfl
                        rotate_left
                        · simp only [Act.put, List.setIfInBounds_toArray, List.set_cons_zero, List.set_cons_succ, i64_w, i32_w]
                          rfl
                        refine pure_ (i := 11) (N := some 89) (v := ?_) (a' := ?_) #[true, true, true, true, true, true, true, false, true, true, true, true, false, false, false, false] rfl rfl (any_of HT_.out (by kernel_rfl)) (fun _ _ _ h => h) (Or.inl ⟨by rfl, ?_⟩) ?_ ?_
                        rotate_left
                        · intro w'
                          go_simp
                          with_reducible rfl
                        rotate_left
                        · simp only [Act.put, List.setIfInBounds_toArray, List.set_cons_zero, List.set_cons_succ, i64_w, i32_w]
                          rfl
                        refine pure_ (i := 12) (N := some 90) (v := ?_) (a' := ?_) #[true, true, true, true, true, true, true, false, true, true, true, true, true, false, false, false] rfl rfl (any_of HT_.out (by kernel_rfl)) (fun _ _ _ h => h) (Or.inl ⟨by rfl, ?_⟩) ?_ ?_
                        rotate_left
                        · intro w'
                          go_simp
                          with_reducible rfl
                        rotate_left
                        · simp only [Act.put, List.setIfInBounds_toArray, List.set_cons_zero, List.set_cons_succ, i64_w, i32_w]
                          rfl
                        refine take_ (i := 7) (N := some 85) (v := ?_) (a' := ?_) #[true, true, true, true, true, true, true, true, true, true, true, true, true, false, false, false] rfl rfl (take_ofW HT_.out HW_.out (by kernel_rfl)) (fun _ _ _ h => h) (Or.inl ⟨by rfl, ?_⟩) hHeld ?_ ?_
                        rotate_left
                        · rintro w' ⟨s0, s1, s2, s3, s4, s5⟩
                          go_simp
                          with_reducible rfl
                        rotate_left
                        · simp only [Act.put, List.setIfInBounds_toArray, List.set_cons_zero, List.set_cons_succ, i64_w, i32_w]
                          rfl
                        refine take_ (i := 13) (N := some 91) (v := ?_) (a' := ?_) #[true, true, true, true, true, true, true, true, true, true, true, true, true, true, false, false] rfl rfl (take_ofW HT_.out HW_.out (by kernel_rfl)) (fun _ _ _ h => h) (Or.inl ⟨by rfl, ?_⟩) hHeld ?_ ?_
                        rotate_left
                        · rintro w' ⟨s0, s1, s2, s3, s4, s5⟩
                          go_simp
                          with_reducible rfl
                        rotate_left
                        · simp only [Act.put, List.setIfInBounds_toArray, List.set_cons_zero, List.set_cons_succ, i64_w, i32_w]
                          rfl
                        refine pure_ (i := 14) (N := some 92) (v := ?_) (a' := ?_) #[true, true, true, true, true, true, true, true, true, true, true, true, true, true, true, false] rfl rfl (any_of HT_.out (by kernel_rfl)) (fun _ _ _ h => h) (Or.inl ⟨by rfl, ?_⟩) ?_ ?_
                        rotate_left
                        · intro w'
                          go_simp
                          with_reducible rfl
                        rotate_left
                        · simp only [Act.put, List.setIfInBounds_toArray, List.set_cons_zero, List.set_cons_succ, i64_w, i32_w]
                          rfl
                        refine pure_ (i := 15) (N := some 93) (v := ?_) (a' := ?_) #[true, true, true, true, true, true, true, true, true, true, true, true, true, true, true, true] rfl rfl (any_of HT_.out (by kernel_rfl)) (fun _ _ _ h => h) (Or.inl ⟨by rfl, ?_⟩) ?_ ?_
                        rotate_left
                        · intro w'
                          go_simp
                          with_reducible rfl
                        rotate_left
                        · simp only [Act.put, List.setIfInBounds_toArray, List.set_cons_zero, List.set_cons_succ, i64_w, i32_w]
                          rfl
                        refine done_ (done_of HT_.out (by kernel_rfl)) ?_
                        try go_wp2
                        have n0_ := Aside0.mk (Kd.R_drew HO_3.out)
                        have n1_ := Aside0.mk (Kd.R_drew HO_6.out)
                        have n2_ := Aside0.mk (below_drew1 HB.out)
                        clear HO_3
                        clear HO_6
                        clear HB
                        have HO_3 := n0_
                        have HO_6 := n1_
                        have HB := n2_
                        clear n0_ n1_ n2_
                        have p142 : 0 ≤ ((ji28) : Int) := of_decide_eq_true (by first | (with_reducible assumption) | assumption)
                        have q142 : (ji28) < (x6_2.length : Int) := of_decide_eq_true (by first | (with_reducible assumption) | assumption)
                        obtain ⟨ad142, e142, hx142_0, hx142_1, hx142_2⟩ := at_T26 (Kd.R_reads' HO_6.out).2.2 (ji28) p142 q142
                        obtain rfl : ad141 = ad142 := (by injection e142)
                        replace p142 := eq_true p142
                        replace q142 := eq_true q142
                        have p143 : 0 ≤ (x7_2 : Int) := of_decide_eq_true (by first | (with_reducible assumption) | assumption)
                        have q143 : x7_2 < (x3_2.length : Int) := of_decide_eq_true (by first | (with_reducible assumption) | assumption)
                        obtain ⟨ad143, e143, hx143_0, hx143_1, hx143_2⟩ := at_T26 (Kd.R_reads' HO_3.out).2.2 x7_2 p143 q143
                        obtain rfl : ad140 = ad143 := (by injection e143)
                        replace p143 := eq_true p143
                        replace q143 := eq_true q143
                        have p33 : 0 ≤ ((ji28) : Int) := of_decide_eq_true (by first | (with_reducible assumption) | assumption)
                        have q33 : ((ji28) : Int) < ((x6_2.length : Int) : Int) := of_decide_eq_true (by first | (with_reducible assumption) | assumption)
                        obtain ⟨go33, co33, eo33, gb33, gl33, cl33, HG33⟩ := Kd.R_form HO_6.out (by omega)
                        (first | cases eo33 | (injection eo33 with ea_ en_ ec_; (first | subst ea_ | (injection ea_ with ea_; subst ea_)); subst ec_; clear en_))
                        have GB33 := Aside0.mk gb33
                        have GG33 := Aside0.mk HG33
                        clear gb33 gl33 HG33
                        (first | simp only [add_plain] at hx141_0 | skip)
                        (first | simp only [add_plain] at hx141_1 | skip)
                        (first | simp only [add_plain] at hx141_2 | skip)
                        (first | simp only [add_plain] at hx142_0 | skip)
                        (first | simp only [add_plain] at hx142_1 | skip)
                        (first | simp only [add_plain] at hx142_2 | skip)
                        obtain ⟨ce33, hcl33, hM33, hcc33, hfr33⟩ := Kd.R_elem HO_6.out z26 ((ji28) : Int) p33 q33
                        obtain rfl := k26_openM hM33
                        have hx33_0 : World.cell? _ ⟨go33, ((ji28) : Int).toNat * 3, none⟩ = some (.int .i64 ((rd_T26 x6_2 (ji28)).f0)) := hcc33 0 _ rfl
                        have hx33_1 : World.cell? _ ⟨go33, ((ji28) : Int).toNat * 3 + 1, none⟩ = some (.int .i64 ((rd_T26 x6_2 (ji28)).f1)) := hcc33 1 _ rfl
                        have hx33_2 : World.cell? _ ⟨go33, ((ji28) : Int).toNat * 3 + 2, none⟩ = some (.int .i64 ((rd_T26 x6_2 (ji28)).f2)) := hcc33 2 _ rfl
                        have hf33_0 : World.frozen? _ ⟨go33, ((ji28) : Int).toNat * 3, none⟩ = false := hfr33 0
                        have hf33_1 : World.frozen? _ ⟨go33, ((ji28) : Int).toNat * 3 + 1, none⟩ = false := hfr33 1
                        have hf33_2 : World.frozen? _ ⟨go33, ((ji28) : Int).toNat * 3 + 2, none⟩ = false := hfr33 2
                        clear hcl33 hcc33 hfr33 hM33
                        replace p33 := eq_true p33
                        replace q33 := eq_true q33
                        obtain ⟨ce38, hcl38, hM38, hcc38, hfr38⟩ := Kd.R_elem HO_6.out z26 ((ji28) : Int) (of_decide_eq_true (by first | (with_reducible assumption) | assumption)) (by have h_ : ((ji28) : Int) < ((x6_2.length : Int) : Int) := of_decide_eq_true (by first | (with_reducible assumption) | assumption); first | exact h_ | (have e_ := (Kd.R_reads' HO_6.out).1; omega) | simpa using h_)
                        obtain rfl := k26_openM hM38
                        have HP38 := (Kd.R_seg HO_6.out ((ji28) : Int) (of_decide_eq_true (by first | (with_reducible assumption) | assumption)) (by have h_ : ((ji28) : Int) < ((x6_2.length : Int) : Int) := of_decide_eq_true (by first | (with_reducible assumption) | assumption); first | exact h_ | (have e_ := (Kd.R_reads' HO_6.out).1; omega) | simpa using h_) (seg := [.int .i64 ji32]) (j := 1) hcl38 hcc38 (show 2 ≤ 3 from by decide) (x' := (⟨(rd_T26 x6_2 (ji28)).f0, ji32, (rd_T26 x6_2 (ji28)).f2⟩ : S26)) (k26_mkM _ _ _ (⟨(rd_T26 x6_2 (ji28)).f0, ji32, (rd_T26 x6_2 (ji28)).f2⟩ : S26) ) (fun _ hk => hk)).1
                        rw [← Ny144.out] at HP38
                        have HQ38 := Aside0.mk HP38
                        clear hcl38 hcc38 hfr38 hM38 HP38
                        refine start_ (n := 18) (S := fun w' => w'.cell? ⟨go33, (((ji28)).toNat * 3), none⟩ = some (.int .i64 ((rd_T26 x6_2 (ji28)).f0)) ∧ w'.cell? ⟨go33, (((ji28)).toNat * 3) + 1, none⟩ = some (.int .i64 ((rd_T26 x6_2 (ji28)).f1)) ∧ w'.cell? ⟨go33, (((ji28)).toNat * 3) + 2, none⟩ = some (.int .i64 ((rd_T26 x6_2 (ji28)).f2)) ∧ w'.cell? (ad140.add ((x7_2).toNat * 3)) = some (.int .i64 ((rd_T26 x3_2 x7_2).f0)) ∧ w'.cell? ⟨(ad140.add ((x7_2).toNat * 3)).block, (ad140.add ((x7_2).toNat * 3)).off + 1, none⟩ = some (.int .i64 ((rd_T26 x3_2 x7_2).f1)) ∧ w'.cell? ⟨(ad140.add ((x7_2).toNat * 3)).block, (ad140.add ((x7_2).toNat * 3)).off + 2, none⟩ = some (.int .i64 ((rd_T26 x3_2 x7_2).f2))) (ds := [17]) #[false, false, false, false, false, false, false, false, false, false, false, false, false, false, false, false, false, false] (by kernel_rfl) rfl rfl ⟨hx142_0, hx142_1, hx142_2, hx143_0, hx143_1, hx143_2⟩ (fun hHeld => ?_); refine with_tabW almanacref25_Merge.tab17 almanacref25_Merge.bits17 (fun HT_ HW_ => ?_)
                        generalize w36.drew = w37 at HO_3 HO_6 HB GG33 HQ38 hf33_0 hf33_1 hf33_2 hx141_0 hx141_1 hx141_2 hx142_0 hx142_1 hx142_2 hx143_0 hx143_1 hx143_2 hx33_0 hx33_1 hx33_2 hHeld ⊢
                        refine pure_ (i := 0) (N := some 94) (v := ?_) (a' := ?_) #[true, false, false, false, false, false, false, false, false, false, false, false, false, false, false, false, false, false] rfl rfl (any_of HT_.out (by kernel_rfl)) (fun _ _ _ h => h) (Or.inl ⟨by rfl, ?_⟩) ?_ ?_
                        rotate_left
                        · intro w'
                          go_simp
                          with_reducible rfl
                        rotate_left
                        · simp only [Act.put, List.setIfInBounds_toArray, List.set_cons_zero, List.set_cons_succ, i64_w, i32_w]
                          rfl
                        refine pure_ (i := 1) (N := some 95) (v := ?_) (a' := ?_) #[true, true, false, false, false, false, false, false, false, false, false, false, false, false, false, false, false, false] rfl rfl (any_of HT_.out (by kernel_rfl)) (fun _ _ _ h => h) (Or.inl ⟨by rfl, ?_⟩) ?_ ?_
                        rotate_left
                        · intro w'
                          go_simp
                          with_reducible rfl
                        rotate_left
                        · simp only [Act.put, List.setIfInBounds_toArray, List.set_cons_zero, List.set_cons_succ, i64_w, i32_w]
                          rfl
                        refine pure_ (i := 2) (N := some 96) (v := ?_) (a' := ?_) #[true, true, true, false, false, false, false, false, false, false, false, false, false, false, false, false, false, false] rfl rfl (any_of HT_.out (by kernel_rfl)) (fun _ _ _ h => h) (Or.inl ⟨by rfl, ?_⟩) ?_ ?_
                        rotate_left
                        · intro w'
                          go_simp
                          with_reducible rfl
                        rotate_left
                        · simp only [Act.put, List.setIfInBounds_toArray, List.set_cons_zero, List.set_cons_succ, i64_w, i32_w]
                          rfl
                        refine pure_ (i := 3) (N := some 97) (v := ?_) (a' := ?_) #[true, true, true, true, false, false, false, false, false, false, false, false, false, false, false, false, false, false] rfl rfl (any_of HT_.out (by kernel_rfl)) (fun _ _ _ h => h) (Or.inl ⟨by rfl, ?_⟩) ?_ ?_
                        rotate_left
                        · intro w'
                          go_simp
                          with_reducible rfl
                        rotate_left
                        · simp only [Act.put, List.setIfInBounds_toArray, List.set_cons_zero, List.set_cons_succ, i64_w, i32_w]
                          rfl
                        refine pure_ (i := 4) (N := some 98) (v := ?_) (a' := ?_) #[true, true, true, true, true, false, false, false, false, false, false, false, false, false, false, false, false, false] rfl rfl (any_of HT_.out (by kernel_rfl)) (fun _ _ _ h => h) (Or.inl ⟨by rfl, ?_⟩) ?_ ?_
                        rotate_left
                        · intro w'
                          go_simp
                          with_reducible rfl
                        rotate_left
                        · simp only [Act.put, List.setIfInBounds_toArray, List.set_cons_zero, List.set_cons_succ, i64_w, i32_w]
                          rfl
                        refine pure_ (i := 5) (N := some 99) (v := ?_) (a' := ?_) #[true, true, true, true, true, true, false, false, false, false, false, false, false, false, false, false, false, false] rfl rfl (any_of HT_.out (by kernel_rfl)) (fun _ _ _ h => h) (Or.inl ⟨by rfl, ?_⟩) ?_ ?_
                        rotate_left
                        · intro w'
                          go_simp
                          with_reducible rfl
                        rotate_left
                        · simp only [Act.put, List.setIfInBounds_toArray, List.set_cons_zero, List.set_cons_succ, i64_w, i32_w]
                          rfl
                        refine pure_ (i := 6) (N := some 100) (v := ?_) (a' := ?_) #[true, true, true, true, true, true, true, false, false, false, false, false, false, false, false, false, false, false] rfl rfl (any_of HT_.out (by kernel_rfl)) (fun _ _ _ h => h) (Or.inl ⟨by rfl, ?_⟩) ?_ ?_
                        rotate_left
                        · intro w'
                          go_simp
                          with_reducible rfl
                        rotate_left
                        · simp only [Act.put, List.setIfInBounds_toArray, List.set_cons_zero, List.set_cons_succ, i64_w, i32_w]
                          rfl
                        refine pure_ (i := 7) (N := some 101) (v := ?_) (a' := ?_) #[true, true, true, true, true, true, true, true, false, false, false, false, false, false, false, false, false, false] rfl rfl (any_of HT_.out (by kernel_rfl)) (fun _ _ _ h => h) (Or.inl ⟨by rfl, ?_⟩) ?_ ?_
                        rotate_left
                        · intro w'
                          go_simp
                          with_reducible rfl
                        rotate_left
                        · simp only [Act.put, List.setIfInBounds_toArray, List.set_cons_zero, List.set_cons_succ, i64_w, i32_w]
                          rfl
                        refine pure_ (i := 9) (N := some 103) (v := ?_) (a' := ?_) #[true, true, true, true, true, true, true, true, false, true, false, false, false, false, false, false, false, false] rfl rfl (any_of HT_.out (by kernel_rfl)) (fun _ _ _ h => h) (Or.inl ⟨by rfl, ?_⟩) ?_ ?_
                        rotate_left
                        · intro w'
                          go_simp
                          with_reducible rfl
                        rotate_left
                        · simp only [Act.put, List.setIfInBounds_toArray, List.set_cons_zero, List.set_cons_succ, i64_w, i32_w]
                          rfl
                        refine pure_ (i := 10) (N := some 104) (v := ?_) (a' := ?_) #[true, true, true, true, true, true, true, true, false, true, true, false, false, false, false, false, false, false] rfl rfl (any_of HT_.out (by kernel_rfl)) (fun _ _ _ h => h) (Or.inl ⟨by rfl, ?_⟩) ?_ ?_
                        rotate_left
                        · intro w'
                          go_simp
                          with_reducible rfl
                        rotate_left
                        · simp only [Act.put, List.setIfInBounds_toArray, List.set_cons_zero, List.set_cons_succ, i64_w, i32_w]
                          rfl
                        refine pure_ (i := 11) (N := some 105) (v := ?_) (a' := ?_) #[true, true, true, true, true, true, true, true, false, true, true, true, false, false, false, false, false, false] rfl rfl (any_of HT_.out (by kernel_rfl)) (fun _ _ _ h => h) (Or.inl ⟨by rfl, ?_⟩) ?_ ?_
                        rotate_left
                        · intro w'
                          go_simp
                          with_reducible rfl
                        rotate_left
                        · simp only [Act.put, List.setIfInBounds_toArray, List.set_cons_zero, List.set_cons_succ, i64_w, i32_w]
                          rfl
                        refine pure_ (i := 12) (N := some 106) (v := ?_) (a' := ?_) #[true, true, true, true, true, true, true, true, false, true, true, true, true, false, false, false, false, false] rfl rfl (any_of HT_.out (by kernel_rfl)) (fun _ _ _ h => h) (Or.inl ⟨by rfl, ?_⟩) ?_ ?_
                        rotate_left
                        · intro w'
                          go_simp
                          with_reducible rfl
                        rotate_left
                        · simp only [Act.put, List.setIfInBounds_toArray, List.set_cons_zero, List.set_cons_succ, i64_w, i32_w]
                          rfl
                        refine take_ (i := 8) (N := some 102) (v := ?_) (a' := ?_) #[true, true, true, true, true, true, true, true, true, true, true, true, true, false, false, false, false, false] rfl rfl (take_ofW HT_.out HW_.out (by kernel_rfl)) (fun _ _ _ h => h) (Or.inl ⟨by rfl, ?_⟩) hHeld ?_ ?_
                        rotate_left
                        · rintro w' ⟨s0, s1, s2, s3, s4, s5⟩
                          go_simp
                          with_reducible rfl
                        rotate_left
                        · simp only [Act.put, List.setIfInBounds_toArray, List.set_cons_zero, List.set_cons_succ, i64_w, i32_w]
                          rfl
                        refine take_ (i := 13) (N := some 107) (v := ?_) (a' := ?_) #[true, true, true, true, true, true, true, true, true, true, true, true, true, true, false, false, false, false] rfl rfl (take_ofW HT_.out HW_.out (by kernel_rfl)) (fun _ _ _ h => h) (Or.inl ⟨by rfl, ?_⟩) hHeld ?_ ?_
                        rotate_left
                        · rintro w' ⟨s0, s1, s2, s3, s4, s5⟩
                          go_simp
                          with_reducible rfl
                        rotate_left
                        · simp only [Act.put, List.setIfInBounds_toArray, List.set_cons_zero, List.set_cons_succ, i64_w, i32_w]
                          rfl
                        refine pure_ (i := 14) (N := some 108) (v := ?_) (a' := ?_) #[true, true, true, true, true, true, true, true, true, true, true, true, true, true, true, false, false, false] rfl rfl (any_of HT_.out (by kernel_rfl)) (fun _ _ _ h => h) (Or.inl ⟨by rfl, ?_⟩) ?_ ?_
                        rotate_left
                        · intro w'
                          go_simp
                          with_reducible rfl
                        rotate_left
                        · simp only [Act.put, List.setIfInBounds_toArray, List.set_cons_zero, List.set_cons_succ, i64_w, i32_w]
                          rfl
                        refine pure_ (i := 15) (N := some 109) (v := ?_) (a' := ?_) #[true, true, true, true, true, true, true, true, true, true, true, true, true, true, true, true, false, false] rfl rfl (any_of HT_.out (by kernel_rfl)) (fun _ _ _ h => h) (Or.inl ⟨by rfl, ?_⟩) ?_ ?_
                        rotate_left
                        · intro w'
                          go_simp
                          with_reducible rfl
                        rotate_left
                        · simp only [Act.put, List.setIfInBounds_toArray, List.set_cons_zero, List.set_cons_succ, i64_w, i32_w]
                          rfl
                        refine pure_ (i := 16) (N := some 110) (v := ?_) (a' := ?_) #[true, true, true, true, true, true, true, true, true, true, true, true, true, true, true, true, true, false] rfl rfl (any_of HT_.out (by kernel_rfl)) (fun _ _ _ h => h) (Or.inl ⟨by rfl, ?_⟩) ?_ ?_
                        rotate_left
                        · intro w'
                          go_simp
                          with_reducible rfl
                        rotate_left
                        · simp only [Act.put, List.setIfInBounds_toArray, List.set_cons_zero, List.set_cons_succ, i64_w, i32_w]
                          rfl
                        refine last_ (i := 17) (N := none) #[true, true, true, true, true, true, true, true, true, true, true, true, true, true, true, true, true, true] rfl rfl (one_of HT_.out (by kernel_rfl)) (by decide) (fun K hK => ?_)
                        refine skip_ (w1 := ?_) (by rfl) rfl ?_ ?_
                        rotate_left
                        · go_simp
                          rfl
                        refine hK.out _ _ ?_
                        clear hK K
                        refine done_ (done_of HT_.out (by kernel_rfl)) ?_
                        try go_wp2
                        go_roundg k2
                        case measure => have := HK1.out; have := HK2.out; omega
                        case rel => exact ⟨(x3_2), (y144), (wrap64 (x7_2 + 1)), (by first | rfl | (simp; done) | (simp [*]; done)), H', ⟨by have := HK1.out; have := HK2.out; omega⟩, ⟨by (with_reducible repeat (first | apply Kd.R_alloc | apply Kd.R_drewN | apply Kd.R_drew)); exact Kd.R_mono (Kd.R_far (p := ⟨go33, ((ji28) : Int).toNat * 3 + 1, none⟩) (Kd.R_mono HO_3.out (fun k_ hk => (⟨hk, fun e_ => hk (by rw [e_]; rfl)⟩ : _ ∧ k_ ≠ go33))) (fun _ hk => hk.2) (.int .i64 ji32)) (fun _ hk => hk.1)⟩, ⟨by (with_reducible repeat (first | apply Kd.R_alloc | apply Kd.R_drewN | apply Kd.R_drew)); exact HQ38.out⟩, ⟨by repeat (first | (with_reducible first | exact HB.out | apply below_alloc | apply pw_below_drewN | apply below_drew1 | refine below_set ?_ GB33.out) | exact HB.out)⟩⟩
                      · rw [if_neg c31] at H
                        have c31b0 : decide (((rd_T26 x3_2 x7_2).f0) ≤ ((rd_T26 x6_2 (ji28)).f1)) = false := decide_eq_false c31
                        clear c31
                        by_cases c39 : x6_2.length < 5864062014805
                        · rw [if_pos c39] at H
                          have LMc39 := Aside0.mk c39
                          clear c39
                          obtain ⟨y148, hy148⟩ : ∃ y_ : List (S26), y_ = (x6_2 ++ [(⟨(rd_T26 x3_2 x7_2).f0, (rd_T26 x3_2 x7_2).f1, (rd_T26 x3_2 x7_2).f0⟩ : S26)]) := ⟨_, rfl⟩
                          replace H : (almanacref25_Merge.l2 k2 x3_2 y148 (wrap64 (x7_2 + 1))) = some r := by first | (rw [hy148]; with_reducible exact H) | (have H2_ := (Option.bind_some _ _).symm.trans H; rw [hy148]; with_reducible exact H2_) | (have H2_ := (Option.bind_some _ _).symm.trans H; with_reducible exact H2_) | with_reducible exact H | (rw [hy148]; exact H) | exact H
                          have Ny148 := Aside0.mk hy148
                          clear hy148
                          have H' := Aside0.mk H
                          clear H
                          obtain ⟨Ao40, co40, eo40⟩ := Kd.R_slice HO_3.out
                          subst eo40
                          obtain ⟨Ao41, co41, eo41⟩ := Kd.R_slice HO_6.out
                          subst eo41
                          try go_wp2
                          have n0_ := Aside0.mk (Kd.R_drew HO_3.out)
                          have n1_ := Aside0.mk (Kd.R_drew HO_6.out)
                          have n2_ := Aside0.mk (below_drew1 HB.out)
                          clear HO_3
                          clear HO_6
                          clear HB
                          have HO_3 := n0_
                          have HO_6 := n1_
                          have HB := n2_
                          clear n0_ n1_ n2_
                          have p140 : 0 ≤ (x7_2 : Int) := of_decide_eq_true (by first | (with_reducible assumption) | assumption)
                          have q140 : x7_2 < (x3_2.length : Int) := of_decide_eq_true (by first | (with_reducible assumption) | assumption)
                          obtain ⟨ad140, e140, hx140_0, hx140_1, hx140_2⟩ := at_T26 (Kd.R_reads' HO_3.out).2.2 x7_2 p140 q140
                          cases e140
                          replace p140 := eq_true p140
                          replace q140 := eq_true q140
                          have p141 : 0 ≤ ((ji28) : Int) := of_decide_eq_true (by first | (with_reducible assumption) | assumption)
                          have q141 : (ji28) < (x6_2.length : Int) := of_decide_eq_true (by first | (with_reducible assumption) | assumption)
                          obtain ⟨ad141, e141, hx141_0, hx141_1, hx141_2⟩ := at_T26 (Kd.R_reads' HO_6.out).2.2 (ji28) p141 q141
                          cases e141
                          replace p141 := eq_true p141
                          replace q141 := eq_true q141
                          refine start_ (n := 16) (S := fun w' => w'.cell? (ad140.add ((x7_2).toNat * 3)) = some (.int .i64 ((rd_T26 x3_2 x7_2).f0)) ∧ w'.cell? ⟨(ad140.add ((x7_2).toNat * 3)).block, (ad140.add ((x7_2).toNat * 3)).off + 1, none⟩ = some (.int .i64 ((rd_T26 x3_2 x7_2).f1)) ∧ w'.cell? ⟨(ad140.add ((x7_2).toNat * 3)).block, (ad140.add ((x7_2).toNat * 3)).off + 2, none⟩ = some (.int .i64 ((rd_T26 x3_2 x7_2).f2)) ∧ w'.cell? (ad141.add (((ji28)).toNat * 3)) = some (.int .i64 ((rd_T26 x6_2 (ji28)).f0)) ∧ w'.cell? ⟨(ad141.add (((ji28)).toNat * 3)).block, (ad141.add (((ji28)).toNat * 3)).off + 1, none⟩ = some (.int .i64 ((rd_T26 x6_2 (ji28)).f1)) ∧ w'.cell? ⟨(ad141.add (((ji28)).toNat * 3)).block, (ad141.add (((ji28)).toNat * 3)).off + 2, none⟩ = some (.int .i64 ((rd_T26 x6_2 (ji28)).f2))) (ds := []) #[false, false, false, false, false, false, false, false, false, false, false, false, false, false, false, false] (by kernel_rfl) rfl rfl ⟨hx140_0, hx140_1, hx140_2, hx141_0, hx141_1, hx141_2⟩ (fun hHeld => ?_); refine with_tabW almanacref25_Merge.tab16 almanacref25_Merge.bits16 (fun HT_ HW_ => ?_)
                          generalize wr.drew = w42 at HO_3 HO_6 HB hx140_0 hx140_1 hx140_2 hx141_0 hx141_1 hx141_2 hHeld ⊢
                          refine pure_ (i := 0) (N := some 78) (v := ?_) (a' := ?_) #[true, false, false, false, false, false, false, false, false, false, false, false, false, false, false, false] rfl rfl (any_of HT_.out (by kernel_rfl)) (fun _ _ _ h => h) (Or.inl ⟨by rfl, ?_⟩) ?_ ?_
                          rotate_left
                          · intro w'
                            go_simp
                            with_reducible rfl
                          rotate_left
                          · simp only [Act.put, List.setIfInBounds_toArray, List.set_cons_zero, List.set_cons_succ, i64_w, i32_w]
                            rfl
                          refine pure_ (i := 1) (N := some 79) (v := ?_) (a' := ?_) #[true, true, false, false, false, false, false, false, false, false, false, false, false, false, false, false] rfl rfl (any_of HT_.out (by kernel_rfl)) (fun _ _ _ h => h) (Or.inl ⟨by rfl, ?_⟩) ?_ ?_
                          rotate_left
                          · intro w'
                            go_simp
                            with_reducible rfl
                          rotate_left
                          · simp only [Act.put, List.setIfInBounds_toArray, List.set_cons_zero, List.set_cons_succ, i64_w, i32_w]
                            rfl
                          refine pure_ (i := 2) (N := some 80) (v := ?_) (a' := ?_) #[true, true, true, false, false, false, false, false, false, false, false, false, false, false, false, false] rfl rfl (any_of HT_.out (by kernel_rfl)) (fun _ _ _ h => h) (Or.inl ⟨by rfl, ?_⟩) ?_ ?_
                          rotate_left
                          · intro w'
                            go_simp
                            with_reducible rfl
                          rotate_left
                          · simp only [Act.put, List.setIfInBounds_toArray, List.set_cons_zero, List.set_cons_succ, i64_w, i32_w]
                            rfl
                          refine pure_ (i := 3) (N := some 81) (v := ?_) (a' := ?_) #[true, true, true, true, false, false, false, false, false, false, false, false, false, false, false, false] rfl rfl (any_of HT_.out (by kernel_rfl)) (fun _ _ _ h => h) (Or.inl ⟨by rfl, ?_⟩) ?_ ?_
                          rotate_left
                          · intro w'
                            go_simp
                            with_reducible rfl
                          rotate_left
                          · simp only [Act.put, List.setIfInBounds_toArray, List.set_cons_zero, List.set_cons_succ, i64_w, i32_w]
                            rfl
                          refine pure_ (i := 4) (N := some 82) (v := ?_) (a' := ?_) #[true, true, true, true, true, false, false, false, false, false, false, false, false, false, false, false] rfl rfl (any_of HT_.out (by kernel_rfl)) (fun _ _ _ h => h) (Or.inl ⟨by rfl, ?_⟩) ?_ ?_
                          rotate_left
                          · intro w'
                            go_simp
                            with_reducible rfl
                          rotate_left
                          · simp only [Act.put, List.setIfInBounds_toArray, List.set_cons_zero, List.set_cons_succ, i64_w, i32_w]
                            rfl
                          refine pure_ (i := 5) (N := some 83) (v := ?_) (a' := ?_) #[true, true, true, true, true, true, false, false, false, false, false, false, false, false, false, false] rfl rfl (any_of HT_.out (by kernel_rfl)) (fun _ _ _ h => h) (Or.inl ⟨by rfl, ?_⟩) ?_ ?_
                          rotate_left
                          · intro w'
                            go_simp
                            with_reducible rfl
                          rotate_left
                          · simp only [Act.put, List.setIfInBounds_toArray, List.set_cons_zero, List.set_cons_succ, i64_w, i32_w]
                            rfl
                          refine pure_ (i := 6) (N := some 84) (v := ?_) (a' := ?_) #[true, true, true, true, true, true, true, false, false, false, false, false, false, false, false, false] rfl rfl (any_of HT_.out (by kernel_rfl)) (fun _ _ _ h => h) (Or.inl ⟨by rfl, ?_⟩) ?_ ?_
                          rotate_left
                          · intro w'
                            go_simp
                            with_reducible rfl
                          rotate_left
                          · simp only [Act.put, List.setIfInBounds_toArray, List.set_cons_zero, List.set_cons_succ, i64_w, i32_w]
                            rfl
                          refine pure_ (i := 8) (N := some 86) (v := ?_) (a' := ?_) #[true, true, true, true, true, true, true, false, true, false, false, false, false, false, false, false] rfl rfl (any_of HT_.out (by kernel_rfl)) (fun _ _ _ h => h) (Or.inl ⟨by rfl, ?_⟩) ?_ ?_
                          rotate_left
                          · intro w'
                            go_simp
                            with_reducible rfl
                          rotate_left
                          · simp only [Act.put, List.setIfInBounds_toArray, List.set_cons_zero, List.set_cons_succ, i64_w, i32_w]
                            rfl
                          refine pure_ (i := 9) (N := some 87) (v := ?_) (a' := ?_) #[true, true, true, true, true, true, true, false, true, true, false, false, false, false, false, false] rfl rfl (any_of HT_.out (by kernel_rfl)) (fun _ _ _ h => h) (Or.inl ⟨by rfl, ?_⟩) ?_ ?_
                          rotate_left
                          · intro w'
                            go_simp
                            with_reducible rfl
                          rotate_left
                          · simp only [Act.put, List.setIfInBounds_toArray, List.set_cons_zero, List.set_cons_succ, i64_w, i32_w]
                            rfl
                          refine pure_ (i := 10) (N := some 88) (v := ?_) (a' := ?_) #[true, true, true, true, true, true, true, false, true, true, true, false, false, false, false, false] rfl rfl (any_of HT_.out (by kernel_rfl)) (fun _ _ _ h => h) (Or.inl ⟨by rfl, ?_⟩) ?_ ?_
                          rotate_left
                          · intro w'
                            go_simp
                            with_reducible rfl
                          rotate_left
                          · simp only [Act.put, List.setIfInBounds_toArray, List.set_cons_zero, List.set_cons_succ, i64_w, i32_w]
                            rfl
                          refine pure_ (i := 11) (N := some 89) (v := ?_) (a' := ?_) #[true, true, true, true, true, true, true, false, true, true, true, true, false, false, false, false] rfl rfl (any_of HT_.out (by kernel_rfl)) (fun _ _ _ h => h) (Or.inl ⟨by rfl, ?_⟩) ?_ ?_
                          rotate_left
                          · intro w'
                            go_simp
                            with_reducible rfl
                          rotate_left
                          · simp only [Act.put, List.setIfInBounds_toArray, List.set_cons_zero, List.set_cons_succ, i64_w, i32_w]
                            rfl
                          refine pure_ (i := 12) (N := some 90) (v := ?_) (a' := ?_) #[true, true, true, true, true, true, true, false, true, true, true, true, true, false, false, false] rfl rfl (any_of HT_.out (by kernel_rfl)) (fun _ _ _ h => h) (Or.inl ⟨by rfl, ?_⟩) ?_ ?_
                          rotate_left
                          · intro w'
                            go_simp
                            with_reducible rfl
                          rotate_left
                          · simp only [Act.put, List.setIfInBounds_toArray, List.set_cons_zero, List.set_cons_succ, i64_w, i32_w]
                            rfl
                          refine take_ (i := 7) (N := some 85) (v := ?_) (a' := ?_) #[true, true, true, true, true, true, true, true, true, true, true, true, true, false, false, false] rfl rfl (take_ofW HT_.out HW_.out (by kernel_rfl)) (fun _ _ _ h => h) (Or.inl ⟨by rfl, ?_⟩) hHeld ?_ ?_
                          rotate_left
                          · rintro w' ⟨s0, s1, s2, s3, s4, s5⟩
                            go_simp
                            with_reducible rfl
                          rotate_left
                          · simp only [Act.put, List.setIfInBounds_toArray, List.set_cons_zero, List.set_cons_succ, i64_w, i32_w]
                            rfl
                          refine take_ (i := 13) (N := some 91) (v := ?_) (a' := ?_) #[true, true, true, true, true, true, true, true, true, true, true, true, true, true, false, false] rfl rfl (take_ofW HT_.out HW_.out (by kernel_rfl)) (fun _ _ _ h => h) (Or.inl ⟨by rfl, ?_⟩) hHeld ?_ ?_
                          rotate_left
                          · rintro w' ⟨s0, s1, s2, s3, s4, s5⟩
                            go_simp
                            with_reducible rfl
                          rotate_left
                          · simp only [Act.put, List.setIfInBounds_toArray, List.set_cons_zero, List.set_cons_succ, i64_w, i32_w]
                            rfl
                          refine pure_ (i := 14) (N := some 92) (v := ?_) (a' := ?_) #[true, true, true, true, true, true, true, true, true, true, true, true, true, true, true, false] rfl rfl (any_of HT_.out (by kernel_rfl)) (fun _ _ _ h => h) (Or.inl ⟨by rfl, ?_⟩) ?_ ?_
                          rotate_left
                          · intro w'
                            go_simp
                            with_reducible rfl
                          rotate_left
                          · simp only [Act.put, List.setIfInBounds_toArray, List.set_cons_zero, List.set_cons_succ, i64_w, i32_w]
                            rfl
                          refine pure_ (i := 15) (N := some 93) (v := ?_) (a' := ?_) #[true, true, true, true, true, true, true, true, true, true, true, true, true, true, true, true] rfl rfl (any_of HT_.out (by kernel_rfl)) (fun _ _ _ h => h) (Or.inl ⟨by rfl, ?_⟩) ?_ ?_
                          rotate_left
                          · intro w'
                            go_simp
                            with_reducible rfl
                          rotate_left
                          · simp only [Act.put, List.setIfInBounds_toArray, List.set_cons_zero, List.set_cons_succ, i64_w, i32_w]
                            rfl
                          refine done_ (done_of HT_.out (by kernel_rfl)) ?_
                          try go_wp2
                          have n0_ := Aside0.mk (Kd.R_drew HO_3.out)
                          have n1_ := Aside0.mk (Kd.R_drew HO_6.out)
                          have n2_ := Aside0.mk (below_drew1 HB.out)
                          clear HO_3
                          clear HO_6
                          clear HB
                          have HO_3 := n0_
                          have HO_6 := n1_
                          have HB := n2_
                          clear n0_ n1_ n2_
                          have p145 : 0 ≤ (x7_2 : Int) := of_decide_eq_true (by first | (with_reducible assumption) | assumption)
                          have q145 : x7_2 < (x3_2.length : Int) := of_decide_eq_true (by first | (with_reducible assumption) | assumption)
                          obtain ⟨ad145, e145, hx145_0, hx145_1, hx145_2⟩ := at_T26 (Kd.R_reads' HO_3.out).2.2 x7_2 p145 q145
                          obtain rfl : ad140 = ad145 := (by injection e145)
                          replace p145 := eq_true p145
                          replace q145 := eq_true q145
                          have p146 : 0 ≤ (x7_2 : Int) := of_decide_eq_true (by first | (with_reducible assumption) | assumption)
                          have q146 : x7_2 < (x3_2.length : Int) := of_decide_eq_true (by first | (with_reducible assumption) | assumption)
                          obtain ⟨ad146, e146, hx146_0, hx146_1, hx146_2⟩ := at_T26 (Kd.R_reads' HO_3.out).2.2 x7_2 p146 q146
                          obtain rfl : ad140 = ad146 := (by injection e146)
                          replace p146 := eq_true p146
                          replace q146 := eq_true q146
                          have p147 : 0 ≤ (x7_2 : Int) := of_decide_eq_true (by first | (with_reducible assumption) | assumption)
                          have q147 : x7_2 < (x3_2.length : Int) := of_decide_eq_true (by first | (with_reducible assumption) | assumption)
                          obtain ⟨ad147, e147, hx147_0, hx147_1, hx147_2⟩ := at_T26 (Kd.R_reads' HO_3.out).2.2 x7_2 p147 q147
                          obtain rfl : ad140 = ad147 := (by injection e147)
                          replace p147 := eq_true p147
                          replace q147 := eq_true q147
                          refine start_ (n := 20) (S := fun w' => w'.cell? (ad140.add ((x7_2).toNat * 3)) = some (.int .i64 ((rd_T26 x3_2 x7_2).f0)) ∧ w'.cell? ⟨(ad140.add ((x7_2).toNat * 3)).block, (ad140.add ((x7_2).toNat * 3)).off + 1, none⟩ = some (.int .i64 ((rd_T26 x3_2 x7_2).f1)) ∧ w'.cell? ⟨(ad140.add ((x7_2).toNat * 3)).block, (ad140.add ((x7_2).toNat * 3)).off + 2, none⟩ = some (.int .i64 ((rd_T26 x3_2 x7_2).f2)) ∧ w'.cell? (ad140.add ((x7_2).toNat * 3)) = some (.int .i64 ((rd_T26 x3_2 x7_2).f0)) ∧ w'.cell? ⟨(ad140.add ((x7_2).toNat * 3)).block, (ad140.add ((x7_2).toNat * 3)).off + 1, none⟩ = some (.int .i64 ((rd_T26 x3_2 x7_2).f1)) ∧ w'.cell? ⟨(ad140.add ((x7_2).toNat * 3)).block, (ad140.add ((x7_2).toNat * 3)).off + 2, none⟩ = some (.int .i64 ((rd_T26 x3_2 x7_2).f2)) ∧ w'.cell? (ad140.add ((x7_2).toNat * 3)) = some (.int .i64 ((rd_T26 x3_2 x7_2).f0)) ∧ w'.cell? ⟨(ad140.add ((x7_2).toNat * 3)).block, (ad140.add ((x7_2).toNat * 3)).off + 1, none⟩ = some (.int .i64 ((rd_T26 x3_2 x7_2).f1)) ∧ w'.cell? ⟨(ad140.add ((x7_2).toNat * 3)).block, (ad140.add ((x7_2).toNat * 3)).off + 2, none⟩ = some (.int .i64 ((rd_T26 x3_2 x7_2).f2))) (ds := [17, 18]) #[false, false, false, false, false, false, false, false, false, false, false, false, false, false, false, false, false, false, false, false] (by kernel_rfl) rfl rfl ⟨hx145_0, hx145_1, hx145_2, hx146_0, hx146_1, hx146_2, hx147_0, hx147_1, hx147_2⟩ (fun hHeld => ?_); refine with_tabW almanacref25_Merge.tab18 almanacref25_Merge.bits18 (fun HT_ HW_ => ?_)
                          generalize w42.drew = w43 at HO_3 HO_6 HB hx145_0 hx145_1 hx145_2 hx146_0 hx146_1 hx146_2 hx147_0 hx147_1 hx147_2 hHeld ⊢
                          refine pure_ (i := 0) (N := some 111) (v := ?_) (a' := ?_) #[true, false, false, false, false, false, false, false, false, false, false, false, false, false, false, false, false, false, false, false] rfl rfl (any_of HT_.out (by kernel_rfl)) (fun _ _ _ h => h) (Or.inl ⟨by rfl, ?_⟩) ?_ ?_
                          rotate_left
                          · intro w'
                            go_simp
                            with_reducible rfl
                          rotate_left
                          · simp only [Act.put, List.setIfInBounds_toArray, List.set_cons_zero, List.set_cons_succ, i64_w, i32_w]
                            rfl
                          refine pure_ (i := 1) (N := some 112) (v := ?_) (a' := ?_) #[true, true, false, false, false, false, false, false, false, false, false, false, false, false, false, false, false, false, false, false] rfl rfl (any_of HT_.out (by kernel_rfl)) (fun _ _ _ h => h) (Or.inl ⟨by rfl, ?_⟩) ?_ ?_
                          rotate_left
                          · intro w'
                            go_simp
                            with_reducible rfl
                          rotate_left
                          · simp only [Act.put, List.setIfInBounds_toArray, List.set_cons_zero, List.set_cons_succ, i64_w, i32_w]
                            rfl
                          refine pure_ (i := 2) (N := some 113) (v := ?_) (a' := ?_) #[true, true, true, false, false, false, false, false, false, false, false, false, false, false, false, false, false, false, false, false] rfl rfl (any_of HT_.out (by kernel_rfl)) (fun _ _ _ h => h) (Or.inl ⟨by rfl, ?_⟩) ?_ ?_
                          rotate_left
                          · intro w'
                            go_simp
                            with_reducible rfl
                          rotate_left
                          · simp only [Act.put, List.setIfInBounds_toArray, List.set_cons_zero, List.set_cons_succ, i64_w, i32_w]
                            rfl
                          refine pure_ (i := 3) (N := some 114) (v := ?_) (a' := ?_) #[true, true, true, true, false, false, false, false, false, false, false, false, false, false, false, false, false, false, false, false] rfl rfl (any_of HT_.out (by kernel_rfl)) (fun _ _ _ h => h) (Or.inl ⟨by rfl, ?_⟩) ?_ ?_
                          rotate_left
                          · intro w'
                            go_simp
                            with_reducible rfl
                          rotate_left
                          · simp only [Act.put, List.setIfInBounds_toArray, List.set_cons_zero, List.set_cons_succ, i64_w, i32_w]
                            rfl
                          refine pure_ (i := 4) (N := some 115) (v := ?_) (a' := ?_) #[true, true, true, true, true, false, false, false, false, false, false, false, false, false, false, false, false, false, false, false] rfl rfl (any_of HT_.out (by kernel_rfl)) (fun _ _ _ h => h) (Or.inl ⟨by rfl, ?_⟩) ?_ ?_
                          rotate_left
                          · intro w'
                            go_simp
                            with_reducible rfl
                          rotate_left
                          · simp only [Act.put, List.setIfInBounds_toArray, List.set_cons_zero, List.set_cons_succ, i64_w, i32_w]
                            rfl
                          refine pure_ (i := 6) (N := some 117) (v := ?_) (a' := ?_) #[true, true, true, true, true, false, true, false, false, false, false, false, false, false, false, false, false, false, false, false] rfl rfl (any_of HT_.out (by kernel_rfl)) (fun _ _ _ h => h) (Or.inl ⟨by rfl, ?_⟩) ?_ ?_
                          rotate_left
                          · intro w'
                            go_simp
                            with_reducible rfl
                          rotate_left
                          · simp only [Act.put, List.setIfInBounds_toArray, List.set_cons_zero, List.set_cons_succ, i64_w, i32_w]
                            rfl
                          refine pure_ (i := 7) (N := some 118) (v := ?_) (a' := ?_) #[true, true, true, true, true, false, true, true, false, false, false, false, false, false, false, false, false, false, false, false] rfl rfl (any_of HT_.out (by kernel_rfl)) (fun _ _ _ h => h) (Or.inl ⟨by rfl, ?_⟩) ?_ ?_
                          rotate_left
                          · intro w'
                            go_simp
                            with_reducible rfl
                          rotate_left
                          · simp only [Act.put, List.setIfInBounds_toArray, List.set_cons_zero, List.set_cons_succ, i64_w, i32_w]
                            rfl
                          refine pure_ (i := 8) (N := some 119) (v := ?_) (a' := ?_) #[true, true, true, true, true, false, true, true, true, false, false, false, false, false, false, false, false, false, false, false] rfl rfl (any_of HT_.out (by kernel_rfl)) (fun _ _ _ h => h) (Or.inl ⟨by rfl, ?_⟩) ?_ ?_
                          rotate_left
                          · intro w'
                            go_simp
                            with_reducible rfl
                          rotate_left
                          · simp only [Act.put, List.setIfInBounds_toArray, List.set_cons_zero, List.set_cons_succ, i64_w, i32_w]
                            rfl
                          refine pure_ (i := 9) (N := some 120) (v := ?_) (a' := ?_) #[true, true, true, true, true, false, true, true, true, true, false, false, false, false, false, false, false, false, false, false] rfl rfl (any_of HT_.out (by kernel_rfl)) (fun _ _ _ h => h) (Or.inl ⟨by rfl, ?_⟩) ?_ ?_
                          rotate_left
                          · intro w'
                            go_simp
                            with_reducible rfl
                          rotate_left
                          · simp only [Act.put, List.setIfInBounds_toArray, List.set_cons_zero, List.set_cons_succ, i64_w, i32_w]
                            rfl
                          refine pure_ (i := 11) (N := some 122) (v := ?_) (a' := ?_) #[true, true, true, true, true, false, true, true, true, true, false, true, false, false, false, false, false, false, false, false] rfl rfl (any_of HT_.out (by kernel_rfl)) (fun _ _ _ h => h) (Or.inl ⟨by rfl, ?_⟩) ?_ ?_
                          rotate_left
                          · intro w'
                            go_simp
                            with_reducible rfl
                          rotate_left
                          · simp only [Act.put, List.setIfInBounds_toArray, List.set_cons_zero, List.set_cons_succ, i64_w, i32_w]
                            rfl
                          refine pure_ (i := 12) (N := some 123) (v := ?_) (a' := ?_) #[true, true, true, true, true, false, true, true, true, true, false, true, true, false, false, false, false, false, false, false] rfl rfl (any_of HT_.out (by kernel_rfl)) (fun _ _ _ h => h) (Or.inl ⟨by rfl, ?_⟩) ?_ ?_
                          rotate_left
                          · intro w'
                            go_simp
                            with_reducible rfl
                          rotate_left
                          · simp only [Act.put, List.setIfInBounds_toArray, List.set_cons_zero, List.set_cons_succ, i64_w, i32_w]
                            rfl
                          refine pure_ (i := 13) (N := some 124) (v := ?_) (a' := ?_) #[true, true, true, true, true, false, true, true, true, true, false, true, true, true, false, false, false, false, false, false] rfl rfl (any_of HT_.out (by kernel_rfl)) (fun _ _ _ h => h) (Or.inl ⟨by rfl, ?_⟩) ?_ ?_
                          rotate_left
                          · intro w'
                            go_simp
                            with_reducible rfl
                          rotate_left
                          · simp only [Act.put, List.setIfInBounds_toArray, List.set_cons_zero, List.set_cons_succ, i64_w, i32_w]
                            rfl
                          refine pure_ (i := 14) (N := some 125) (v := ?_) (a' := ?_) #[true, true, true, true, true, false, true, true, true, true, false, true, true, true, true, false, false, false, false, false] rfl rfl (any_of HT_.out (by kernel_rfl)) (fun _ _ _ h => h) (Or.inl ⟨by rfl, ?_⟩) ?_ ?_
                          rotate_left
                          · intro w'
                            go_simp
                            with_reducible rfl
                          rotate_left
                          · simp only [Act.put, List.setIfInBounds_toArray, List.set_cons_zero, List.set_cons_succ, i64_w, i32_w]
                            rfl
                          refine take_ (i := 5) (N := some 116) (v := ?_) (a' := ?_) #[true, true, true, true, true, true, true, true, true, true, false, true, true, true, true, false, false, false, false, false] rfl rfl (take_ofW HT_.out HW_.out (by kernel_rfl)) (fun _ _ _ h => h) (Or.inl ⟨by rfl, ?_⟩) hHeld ?_ ?_
                          rotate_left
                          · rintro w' ⟨s0, s1, s2, s3, s4, s5, s6, s7, s8⟩
                            go_simp
                            with_reducible rfl
                          rotate_left
                          · simp only [Act.put, List.setIfInBounds_toArray, List.set_cons_zero, List.set_cons_succ, i64_w, i32_w]
                            rfl
                          refine take_ (i := 10) (N := some 121) (v := ?_) (a' := ?_) #[true, true, true, true, true, true, true, true, true, true, true, true, true, true, true, false, false, false, false, false] rfl rfl (take_ofW HT_.out HW_.out (by kernel_rfl)) (fun _ _ _ h => h) (Or.inl ⟨by rfl, ?_⟩) hHeld ?_ ?_
                          rotate_left
                          · rintro w' ⟨s0, s1, s2, s3, s4, s5, s6, s7, s8⟩
                            go_simp
                            with_reducible rfl
                          rotate_left
                          · simp only [Act.put, List.setIfInBounds_toArray, List.set_cons_zero, List.set_cons_succ, i64_w, i32_w]
                            rfl
                          refine take_ (i := 15) (N := some 126) (v := ?_) (a' := ?_) #[true, true, true, true, true, true, true, true, true, true, true, true, true, true, true, true, false, false, false, false] rfl rfl (take_ofW HT_.out HW_.out (by kernel_rfl)) (fun _ _ _ h => h) (Or.inl ⟨by rfl, ?_⟩) hHeld ?_ ?_
                          rotate_left
                          · rintro w' ⟨s0, s1, s2, s3, s4, s5, s6, s7, s8⟩
                            go_simp
                            with_reducible rfl
                          rotate_left
                          · simp only [Act.put, List.setIfInBounds_toArray, List.set_cons_zero, List.set_cons_succ, i64_w, i32_w]
                            rfl
                          refine pure_ (i := 16) (N := some 127) (v := ?_) (a' := ?_) #[true, true, true, true, true, true, true, true, true, true, true, true, true, true, true, true, true, false, false, false] rfl rfl (any_of HT_.out (by kernel_rfl)) (fun _ _ _ h => h) (Or.inl ⟨by rfl, ?_⟩) ?_ ?_
                          rotate_left
                          · intro w'
                            go_simp
                            with_reducible rfl
                          rotate_left
                          · simp only [Act.put, List.setIfInBounds_toArray, List.set_cons_zero, List.set_cons_succ, i64_w, i32_w]
                            rfl
                          refine last_ (i := 17) (N := some 128) #[true, true, true, true, true, true, true, true, true, true, true, true, true, true, true, true, true, true, false, false] rfl rfl (one_of HT_.out (by kernel_rfl)) (by decide) (fun K hK => ?_)
                          refine value_ (w1 := ?_) (v := ?_) (by rfl) rfl ?_ ?_
                          rotate_left 2
                          · go_simp
                            constructor
                            · rfl
                            · rfl
                          refine hK.out _ _ ?_
                          clear hK K
                          refine norm_ (a' := ?_) ?_ ?_
                          rotate_left
                          · show Act.put _ (some 128) _ = _
                            simp only [Act.put, List.setIfInBounds_toArray, List.set_cons_zero, List.set_cons_succ, i64_w, i32_w]
                            rfl
                          refine last_ (i := 18) (N := some 129) #[true, true, true, true, true, true, true, true, true, true, true, true, true, true, true, true, true, true, true, false] rfl rfl (one_of HT_.out (by kernel_rfl)) (by decide) (fun K hK => ?_)
                          refine Kd.R_append_step k26 (w0 := w) w.heap.size (by rfl) (.tmp 111) (.tmp 128) 22 26 (.agg #[(.int .i64 0), (.int .i64 0), (.int .i64 0)]) 24 rfl Tryd.underlying22 info26 rfl (by decide) (by omega) (.slice (some ad141) x6_2.length co41) x6_2 (⟨(rd_T26 x3_2 x7_2).f0, (rd_T26 x3_2 x7_2).f1, (rd_T26 x3_2 x7_2).f0⟩ : S26) [.int .i64 ((rd_T26 x3_2 x7_2).f0), .int .i64 ((rd_T26 x3_2 x7_2).f1), .int .i64 ((rd_T26 x3_2 x7_2).f0)] (fun k_ => some k_ ≠ (.slice (some ad140) x3_2.length co40 : Value).ownBlock) (fun _ => False) rfl rfl ?aP (fun _ hk => hk.elim) ?aF ?aO ?aB ?aS ?aL ?_
                          (case aP => exact k26_mkM _ _ _ (⟨(rd_T26 x3_2 x7_2).f0, (rd_T26 x3_2 x7_2).f1, (rd_T26 x3_2 x7_2).f0⟩ : S26))
                          (case aB => exact (by repeat (first | (with_reducible first | exact HB.out | apply below_alloc | apply pw_below_drewN | apply below_drew1) | exact HB.out)))
                          (case aF => exact (fun k_ hk => Kd.fresh' (Kd.R_lt (by (with_reducible repeat (first | apply Kd.R_alloc | apply Kd.R_drewN | apply Kd.R_drew)); exact HO_3.out)) k_ hk))
                          (case aO => exact (by (with_reducible repeat (first | apply Kd.R_alloc | apply Kd.R_drewN | apply Kd.R_drew)); exact HO_6.out))
                          (case aS => exact (below_size (by repeat (first | (with_reducible first | exact HB.out | apply below_alloc | apply pw_below_drewN | apply below_drew1) | exact HB.out))))
                          (case aL => have := LMc39.out; omega)
                          intro v149 w44 ho hb hg hat
                          rw [← Ny148.out] at ho
                          have n0_ := Aside0.mk (Kd.R_after (ok := (fun _ => True)) (by (with_reducible repeat (first | apply Kd.R_alloc | apply Kd.R_drewN | apply Kd.R_drew)); exact Kd.R_mono HO_3.out (fun _ hk => ⟨trivial, hk⟩)) hg hat)
                          have n1_ := Aside0.mk (hb)
                          have n2_ := Aside0.mk (ho)
                          clear HO_3
                          clear HB
                          clear HO_6
                          have HO_3 := n0_
                          have HB := n1_
                          have HO150 := n2_
                          clear n0_ n1_ n2_
                          clear ho hb hg hat
                          refine hK.out _ _ ?_
                          clear hK K
                          refine norm_ (a' := ?_) ?_ ?_
                          rotate_left
                          · show Act.put _ (some 129) _ = _
                            simp only [Act.put, List.setIfInBounds_toArray, List.set_cons_zero, List.set_cons_succ, i64_w, i32_w]
                            rfl
                          refine pure_ (i := 19) (N := some 6) (v := ?_) (a' := ?_) #[true, true, true, true, true, true, true, true, true, true, true, true, true, true, true, true, true, true, true, true] rfl rfl (any_of HT_.out (by kernel_rfl)) (fun _ _ _ h => h) (Or.inl ⟨by rfl, ?_⟩) ?_ ?_
                          rotate_left
                          · intro w'
                            go_simp
                            with_reducible rfl
                          rotate_left
                          · simp only [Act.put, List.setIfInBounds_toArray, List.set_cons_zero, List.set_cons_succ, i64_w, i32_w]
                            rfl
                          refine done_ (done_of HT_.out (by kernel_rfl)) ?_
                          try go_wp2
                          go_roundg k2
                          case measure => have := HK1.out; have := HK2.out; omega
                          case rel => exact ⟨(x3_2), (y148), (wrap64 (x7_2 + 1)), (by first | rfl | (simp; done) | (simp [*]; done)), H', ⟨by have := HK1.out; have := HK2.out; omega⟩, ⟨by (with_reducible repeat (first | apply Kd.R_alloc | apply Kd.R_drewN | apply Kd.R_drew)); exact Kd.R_mono HO_3.out (fun _ hk => hk.2)⟩, ⟨by (with_reducible repeat (first | apply Kd.R_alloc | apply Kd.R_drewN | apply Kd.R_drew)); exact HO150.out⟩, ⟨by repeat (first | (with_reducible first | exact HB.out | apply below_alloc | apply pw_below_drewN | apply below_drew1) | exact HB.out)⟩⟩
                        · rw [if_neg c39] at H
                          exact absurd H (by simp)
                    · rw [if_neg c30] at H
                      exact absurd H (by simp)
                  · rw [if_neg c29] at H
                    exact absurd H (by simp)
                · rw [if_neg c27] at H
                  exact absurd H (by simp)
              · rw [if_neg c26] at H
                have c26b0 : decide (0 < (x6_2.length : Int)) = false := decide_eq_false c26
                have c26b1 : decide (0 < x6_2.length) = false := decide_eq_false (by omega)
                clear c26
                by_cases c45 : 0 ≤ x7_2
                · rw [if_pos c45] at H
                  have c45b0 : decide (0 ≤ x7_2) = true := decide_eq_true c45
                  clear c45
                  by_cases c46 : x6_2.length < 5864062014805
                  · rw [if_pos c46] at H
                    have LMc46 := Aside0.mk c46
                    clear c46
                    obtain ⟨y154, hy154⟩ : ∃ y_ : List (S26), y_ = (x6_2 ++ [(⟨(rd_T26 x3_2 x7_2).f0, (rd_T26 x3_2 x7_2).f1, (rd_T26 x3_2 x7_2).f0⟩ : S26)]) := ⟨_, rfl⟩
                    replace H : (almanacref25_Merge.l2 k2 x3_2 y154 (wrap64 (x7_2 + 1))) = some r := by first | (rw [hy154]; with_reducible exact H) | (have H2_ := (Option.bind_some _ _).symm.trans H; rw [hy154]; with_reducible exact H2_) | (have H2_ := (Option.bind_some _ _).symm.trans H; with_reducible exact H2_) | with_reducible exact H | (rw [hy154]; exact H) | exact H
                    have Ny154 := Aside0.mk hy154
                    clear hy154
                    have H' := Aside0.mk H
                    clear H
                    obtain ⟨Ao47, co47, eo47⟩ := Kd.R_slice HO_3.out
                    subst eo47
                    obtain ⟨Ao48, co48, eo48⟩ := Kd.R_slice HO_6.out
                    subst eo48
                    try go_wp2
                    have n0_ := Aside0.mk (Kd.R_drew HO_3.out)
                    have n1_ := Aside0.mk (Kd.R_drew HO_6.out)
                    have n2_ := Aside0.mk (below_drew1 HB.out)
                    clear HO_3
                    clear HO_6
                    clear HB
                    have HO_3 := n0_
                    have HO_6 := n1_
                    have HB := n2_
                    clear n0_ n1_ n2_
                    refine start_ (n := 16) (S := fun w' => True) (ds := []) #[false, false, false, false, false, false, false, false, false, false, false, false, false, false, false, false] (by kernel_rfl) rfl rfl trivial (fun hHeld => ?_); refine with_tabW almanacref25_Merge.tab16 almanacref25_Merge.bits16 (fun HT_ HW_ => ?_)
                    generalize wr.drew = w49 at HO_3 HO_6 HB hHeld ⊢
                    refine pure_ (i := 0) (N := some 78) (v := ?_) (a' := ?_) #[true, false, false, false, false, false, false, false, false, false, false, false, false, false, false, false] rfl rfl (any_of HT_.out (by kernel_rfl)) (fun _ _ _ h => h) (Or.inl ⟨by rfl, ?_⟩) ?_ ?_
                    rotate_left
                    · intro w'
                      go_simp
                      with_reducible rfl
                    rotate_left
                    · simp only [Act.put, List.setIfInBounds_toArray, List.set_cons_zero, List.set_cons_succ, i64_w, i32_w]
                      rfl
                    refine pure_ (i := 1) (N := some 79) (v := ?_) (a' := ?_) #[true, true, false, false, false, false, false, false, false, false, false, false, false, false, false, false] rfl rfl (any_of HT_.out (by kernel_rfl)) (fun _ _ _ h => h) (Or.inl ⟨by rfl, ?_⟩) ?_ ?_
                    rotate_left
                    · intro w'
                      go_simp
                      with_reducible rfl
                    rotate_left
                    · simp only [Act.put, List.setIfInBounds_toArray, List.set_cons_zero, List.set_cons_succ, i64_w, i32_w]
                      rfl
                    refine pure_ (i := 2) (N := some 80) (v := ?_) (a' := ?_) #[true, true, true, false, false, false, false, false, false, false, false, false, false, false, false, false] rfl rfl (any_of HT_.out (by kernel_rfl)) (fun _ _ _ h => h) (Or.inl ⟨by rfl, ?_⟩) ?_ ?_
                    rotate_left
                    · intro w'
                      go_simp
                      with_reducible rfl
                    rotate_left
                    · simp only [Act.put, List.setIfInBounds_toArray, List.set_cons_zero, List.set_cons_succ, i64_w, i32_w]
                      rfl
                    refine pure_ (i := 3) (N := some 81) (v := undef) (a' := ?_) #[true, true, true, true, false, false, false, false, false, false, false, false, false, false, false, false] rfl rfl (any_of HT_.out (by kernel_rfl)) (fun _ _ _ h => h) (Or.inr ⟨by rfl, rfl⟩) ?_ ?_
                    rotate_left
                    · simp only [Act.put, List.setIfInBounds_toArray, List.set_cons_zero, List.set_cons_succ, i64_w, i32_w]
                      rfl
                    refine pure_ (i := 4) (N := some 82) (v := undef) (a' := ?_) #[true, true, true, true, true, false, false, false, false, false, false, false, false, false, false, false] rfl rfl (any_of HT_.out (by kernel_rfl)) (fun _ _ _ h => h) (Or.inr ⟨by rfl, rfl⟩) ?_ ?_
                    rotate_left
                    · simp only [Act.put, List.setIfInBounds_toArray, List.set_cons_zero, List.set_cons_succ, i64_w, i32_w]
                      rfl
                    refine pure_ (i := 5) (N := some 83) (v := undef) (a' := ?_) #[true, true, true, true, true, true, false, false, false, false, false, false, false, false, false, false] rfl rfl (any_of HT_.out (by kernel_rfl)) (fun _ _ _ h => h) (Or.inr ⟨by rfl, rfl⟩) ?_ ?_
                    rotate_left
                    · simp only [Act.put, List.setIfInBounds_toArray, List.set_cons_zero, List.set_cons_succ, i64_w, i32_w]
                      rfl
                    refine pure_ (i := 6) (N := some 84) (v := undef) (a' := ?_) #[true, true, true, true, true, true, true, false, false, false, false, false, false, false, false, false] rfl rfl (any_of HT_.out (by kernel_rfl)) (fun _ _ _ h => h) (Or.inr ⟨by rfl, rfl⟩) ?_ ?_
                    rotate_left
                    · simp only [Act.put, List.setIfInBounds_toArray, List.set_cons_zero, List.set_cons_succ, i64_w, i32_w]
                      rfl
                    refine pure_ (i := 7) (N := some 85) (v := undef) (a' := ?_) #[true, true, true, true, true, true, true, true, false, false, false, false, false, false, false, false] rfl rfl (any_of HT_.out (by kernel_rfl)) (fun _ _ _ h => h) (Or.inr ⟨by rfl, rfl⟩) ?_ ?_
                    rotate_left
                    · simp only [Act.put, List.setIfInBounds_toArray, List.set_cons_zero, List.set_cons_succ, i64_w, i32_w]
                      rfl
                    refine pure_ (i := 8) (N := some 86) (v := undef) (a' := ?_) #[true, true, true, true, true, true, true, true, true, false, false, false, false, false, false, false] rfl rfl (any_of HT_.out (by kernel_rfl)) (fun _ _ _ h => h) (Or.inr ⟨by rfl, rfl⟩) ?_ ?_
                    rotate_left
                    · simp only [Act.put, List.setIfInBounds_toArray, List.set_cons_zero, List.set_cons_succ, i64_w, i32_w]
                      rfl
                    refine pure_ (i := 9) (N := some 87) (v := undef) (a' := ?_) #[true, true, true, true, true, true, true, true, true, true, false, false, false, false, false, false] rfl rfl (any_of HT_.out (by kernel_rfl)) (fun _ _ _ h => h) (Or.inr ⟨by rfl, rfl⟩) ?_ ?_
                    rotate_left
                    · simp only [Act.put, List.setIfInBounds_toArray, List.set_cons_zero, List.set_cons_succ, i64_w, i32_w]
                      rfl
                    refine pure_ (i := 10) (N := some 88) (v := undef) (a' := ?_) #[true, true, true, true, true, true, true, true, true, true, true, false, false, false, false, false] rfl rfl (any_of HT_.out (by kernel_rfl)) (fun _ _ _ h => h) (Or.inr ⟨by rfl, rfl⟩) ?_ ?_
                    rotate_left
                    · simp only [Act.put, List.setIfInBounds_toArray, List.set_cons_zero, List.set_cons_succ, i64_w, i32_w]
                      rfl
                    refine pure_ (i := 11) (N := some 89) (v := undef) (a' := ?_) #[true, true, true, true, true, true, true, true, true, true, true, true, false, false, false, false] rfl rfl (any_of HT_.out (by kernel_rfl)) (fun _ _ _ h => h) (Or.inr ⟨by rfl, rfl⟩) ?_ ?_
                    rotate_left
                    · simp only [Act.put, List.setIfInBounds_toArray, List.set_cons_zero, List.set_cons_succ, i64_w, i32_w]
                      rfl
                    refine pure_ (i := 12) (N := some 90) (v := undef) (a' := ?_) #[true, true, true, true, true, true, true, true, true, true, true, true, true, false, false, false] rfl rfl (any_of HT_.out (by kernel_rfl)) (fun _ _ _ h => h) (Or.inr ⟨by rfl, rfl⟩) ?_ ?_
                    rotate_left
                    · simp only [Act.put, List.setIfInBounds_toArray, List.set_cons_zero, List.set_cons_succ, i64_w, i32_w]
                      rfl
                    refine pure_ (i := 13) (N := some 91) (v := undef) (a' := ?_) #[true, true, true, true, true, true, true, true, true, true, true, true, true, true, false, false] rfl rfl (any_of HT_.out (by kernel_rfl)) (fun _ _ _ h => h) (Or.inr ⟨by rfl, rfl⟩) ?_ ?_
                    rotate_left
                    · simp only [Act.put, List.setIfInBounds_toArray, List.set_cons_zero, List.set_cons_succ, i64_w, i32_w]
                      rfl
                    refine pure_ (i := 14) (N := some 92) (v := undef) (a' := ?_) #[true, true, true, true, true, true, true, true, true, true, true, true, true, true, true, false] rfl rfl (any_of HT_.out (by kernel_rfl)) (fun _ _ _ h => h) (Or.inr ⟨by rfl, rfl⟩) ?_ ?_
                    rotate_left
                    · simp only [Act.put, List.setIfInBounds_toArray, List.set_cons_zero, List.set_cons_succ, i64_w, i32_w]
                      rfl
                    refine pure_ (i := 15) (N := some 93) (v := ?_) (a' := ?_) #[true, true, true, true, true, true, true, true, true, true, true, true, true, true, true, true] rfl rfl (any_of HT_.out (by kernel_rfl)) (fun _ _ _ h => h) (Or.inl ⟨by rfl, ?_⟩) ?_ ?_
                    rotate_left
                    · intro w'
                      go_simp
                      with_reducible rfl
                    rotate_left
                    · simp only [Act.put, List.setIfInBounds_toArray, List.set_cons_zero, List.set_cons_succ, i64_w, i32_w]
                      rfl
                    refine done_ (done_of HT_.out (by kernel_rfl)) ?_
                    try go_wp2
                    have n0_ := Aside0.mk (Kd.R_drew HO_3.out)
                    have n1_ := Aside0.mk (Kd.R_drew HO_6.out)
                    have n2_ := Aside0.mk (below_drew1 HB.out)
                    clear HO_3
                    clear HO_6
                    clear HB
                    have HO_3 := n0_
                    have HO_6 := n1_
                    have HB := n2_
                    clear n0_ n1_ n2_
                    have p151 : 0 ≤ (x7_2 : Int) := of_decide_eq_true (by first | (with_reducible assumption) | assumption)
                    have q151 : x7_2 < (x3_2.length : Int) := of_decide_eq_true (by first | (with_reducible assumption) | assumption)
                    obtain ⟨ad151, e151, hx151_0, hx151_1, hx151_2⟩ := at_T26 (Kd.R_reads' HO_3.out).2.2 x7_2 p151 q151
                    cases e151
                    replace p151 := eq_true p151
                    replace q151 := eq_true q151
                    have p152 : 0 ≤ (x7_2 : Int) := of_decide_eq_true (by first | (with_reducible assumption) | assumption)
                    have q152 : x7_2 < (x3_2.length : Int) := of_decide_eq_true (by first | (with_reducible assumption) | assumption)
                    obtain ⟨ad152, e152, hx152_0, hx152_1, hx152_2⟩ := at_T26 (Kd.R_reads' HO_3.out).2.2 x7_2 p152 q152
                    obtain rfl : ad151 = ad152 := (by injection e152)
                    replace p152 := eq_true p152
                    replace q152 := eq_true q152
                    have p153 : 0 ≤ (x7_2 : Int) := of_decide_eq_true (by first | (with_reducible assumption) | assumption)
                    have q153 : x7_2 < (x3_2.length : Int) := of_decide_eq_true (by first | (with_reducible assumption) | assumption)
                    obtain ⟨ad153, e153, hx153_0, hx153_1, hx153_2⟩ := at_T26 (Kd.R_reads' HO_3.out).2.2 x7_2 p153 q153
                    obtain rfl : ad151 = ad153 := (by injection e153)
                    replace p153 := eq_true p153
                    replace q153 := eq_true q153
                    refine start_ (n := 20) (S := fun w' => w'.cell? (ad151.add ((x7_2).toNat * 3)) = some (.int .i64 ((rd_T26 x3_2 x7_2).f0)) ∧ w'.cell? ⟨(ad151.add ((x7_2).toNat * 3)).block, (ad151.add ((x7_2).toNat * 3)).off + 1, none⟩ = some (.int .i64 ((rd_T26 x3_2 x7_2).f1)) ∧ w'.cell? ⟨(ad151.add ((x7_2).toNat * 3)).block, (ad151.add ((x7_2).toNat * 3)).off + 2, none⟩ = some (.int .i64 ((rd_T26 x3_2 x7_2).f2)) ∧ w'.cell? (ad151.add ((x7_2).toNat * 3)) = some (.int .i64 ((rd_T26 x3_2 x7_2).f0)) ∧ w'.cell? ⟨(ad151.add ((x7_2).toNat * 3)).block, (ad151.add ((x7_2).toNat * 3)).off + 1, none⟩ = some (.int .i64 ((rd_T26 x3_2 x7_2).f1)) ∧ w'.cell? ⟨(ad151.add ((x7_2).toNat * 3)).block, (ad151.add ((x7_2).toNat * 3)).off + 2, none⟩ = some (.int .i64 ((rd_T26 x3_2 x7_2).f2)) ∧ w'.cell? (ad151.add ((x7_2).toNat * 3)) = some (.int .i64 ((rd_T26 x3_2 x7_2).f0)) ∧ w'.cell? ⟨(ad151.add ((x7_2).toNat * 3)).block, (ad151.add ((x7_2).toNat * 3)).off + 1, none⟩ = some (.int .i64 ((rd_T26 x3_2 x7_2).f1)) ∧ w'.cell? ⟨(ad151.add ((x7_2).toNat * 3)).block, (ad151.add ((x7_2).toNat * 3)).off + 2, none⟩ = some (.int .i64 ((rd_T26 x3_2 x7_2).f2))) (ds := [17, 18]) #[false, false, false, false, false, false, false, false, false, false, false, false, false, false, false, false, false, false, false, false] (by kernel_rfl) rfl rfl ⟨hx151_0, hx151_1, hx151_2, hx152_0, hx152_1, hx152_2, hx153_0, hx153_1, hx153_2⟩ (fun hHeld => ?_); refine with_tabW almanacref25_Merge.tab18 almanacref25_Merge.bits18 (fun HT_ HW_ => ?_)
                    generalize w49.drew = w50 at HO_3 HO_6 HB hx151_0 hx151_1 hx151_2 hx152_0 hx152_1 hx152_2 hx153_0 hx153_1 hx153_2 hHeld ⊢
                    refine pure_ (i := 0) (N := some 111) (v := ?_) (a' := ?_) #[true, false, false, false, false, false, false, false, false, false, false, false, false, false, false, false, false, false, false, false] rfl rfl (any_of HT_.out (by kernel_rfl)) (fun _ _ _ h => h) (Or.inl ⟨by rfl, ?_⟩) ?_ ?_
                    rotate_left
                    · intro w'
                      go_simp
                      with_reducible rfl
                    rotate_left
                    · simp only [Act.put, List.setIfInBounds_toArray, List.set_cons_zero, List.set_cons_succ, i64_w, i32_w]
                      rfl
                    refine pure_ (i := 1) (N := some 112) (v := ?_) (a' := ?_) #[true, true, false, false, false, false, false, false, false, false, false, false, false, false, false, false, false, false, false, false] rfl rfl (any_of HT_.out (by kernel_rfl)) (fun _ _ _ h => h) (Or.inl ⟨by rfl, ?_⟩) ?_ ?_
                    rotate_left
                    · intro w'
                      go_simp
                      with_reducible rfl
                    rotate_left
                    · simp only [Act.put, List.setIfInBounds_toArray, List.set_cons_zero, List.set_cons_succ, i64_w, i32_w]
                      rfl
                    refine pure_ (i := 2) (N := some 113) (v := ?_) (a' := ?_) #[true, true, true, false, false, false, false, false, false, false, false, false, false, false, false, false, false, false, false, false] rfl rfl (any_of HT_.out (by kernel_rfl)) (fun _ _ _ h => h) (Or.inl ⟨by rfl, ?_⟩) ?_ ?_
                    rotate_left
                    · intro w'
                      go_simp
                      with_reducible rfl
                    rotate_left
                    · simp only [Act.put, List.setIfInBounds_toArray, List.set_cons_zero, List.set_cons_succ, i64_w, i32_w]
                      rfl
                    refine pure_ (i := 3) (N := some 114) (v := ?_) (a' := ?_) #[true, true, true, true, false, false, false, false, false, false, false, false, false, false, false, false, false, false, false, false] rfl rfl (any_of HT_.out (by kernel_rfl)) (fun _ _ _ h => h) (Or.inl ⟨by rfl, ?_⟩) ?_ ?_
                    rotate_left
                    · intro w'
                      go_simp
                      with_reducible rfl
                    rotate_left
                    · simp only [Act.put, List.setIfInBounds_toArray, List.set_cons_zero, List.set_cons_succ, i64_w, i32_w]
                      rfl
                    refine pure_ (i := 4) (N := some 115) (v := ?_) (a' := ?_) #[true, true, true, true, true, false, false, false, false, false, false, false, false, false, false, false, false, false, false, false] rfl rfl (any_of HT_.out (by kernel_rfl)) (fun _ _ _ h => h) (Or.inl ⟨by rfl, ?_⟩) ?_ ?_
                    rotate_left
                    · intro w'
                      go_simp
                      with_reducible rfl
                    rotate_left
                    · simp only [Act.put, List.setIfInBounds_toArray, List.set_cons_zero, List.set_cons_succ, i64_w, i32_w]
                      rfl
                    refine pure_ (i := 6) (N := some 117) (v := ?_) (a' := ?_) #[true, true, true, true, true, false, true, false, false, false, false, false, false, false, false, false, false, false, false, false] rfl rfl (any_of HT_.out (by kernel_rfl)) (fun _ _ _ h => h) (Or.inl ⟨by rfl, ?_⟩) ?_ ?_
                    rotate_left
                    · intro w'
                      go_simp
                      with_reducible rfl
                    rotate_left
                    · simp only [Act.put, List.setIfInBounds_toArray, List.set_cons_zero, List.set_cons_succ, i64_w, i32_w]
                      rfl
                    refine pure_ (i := 7) (N := some 118) (v := ?_) (a' := ?_) #[true, true, true, true, true, false, true, true, false, false, false, false, false, false, false, false, false, false, false, false] rfl rfl (any_of HT_.out (by kernel_rfl)) (fun _ _ _ h => h) (Or.inl ⟨by rfl, ?_⟩) ?_ ?_
                    rotate_left
                    · intro w'
                      go_simp
                      with_reducible rfl
                    rotate_left
                    · simp only [Act.put, List.setIfInBounds_toArray, List.set_cons_zero, List.set_cons_succ, i64_w, i32_w]
                      rfl
                    refine pure_ (i := 8) (N := some 119) (v := ?_) (a' := ?_) #[true, true, true, true, true, false, true, true, true, false, false, false, false, false, false, false, false, false, false, false] rfl rfl (any_of HT_.out (by kernel_rfl)) (fun _ _ _ h => h) (Or.inl ⟨by rfl, ?_⟩) ?_ ?_
                    rotate_left
                    · intro w'
                      go_simp
                      with_reducible rfl
                    rotate_left
                    · simp only [Act.put, List.setIfInBounds_toArray, List.set_cons_zero, List.set_cons_succ, i64_w, i32_w]
                      rfl
                    refine pure_ (i := 9) (N := some 120) (v := ?_) (a' := ?_) #[true, true, true, true, true, false, true, true, true, true, false, false, false, false, false, false, false, false, false, false] rfl rfl (any_of HT_.out (by kernel_rfl)) (fun _ _ _ h => h) (Or.inl ⟨by rfl, ?_⟩) ?_ ?_
                    rotate_left
                    · intro w'
                      go_simp
                      with_reducible rfl
                    rotate_left
                    · simp only [Act.put, List.setIfInBounds_toArray, List.set_cons_zero, List.set_cons_succ, i64_w, i32_w]
                      rfl
                    refine pure_ (i := 11) (N := some 122) (v := ?_) (a' := ?_) #[true, true, true, true, true, false, true, true, true, true, false, true, false, false, false, false, false, false, false, false] rfl rfl (any_of HT_.out (by kernel_rfl)) (fun _ _ _ h => h) (Or.inl ⟨by rfl, ?_⟩) ?_ ?_
                    rotate_left
                    · intro w'
                      go_simp
                      with_reducible rfl
                    rotate_left
                    · simp only [Act.put, List.setIfInBounds_toArray, List.set_cons_zero, List.set_cons_succ, i64_w, i32_w]
                      rfl
                    refine pure_ (i := 12) (N := some 123) (v := ?_) (a' := ?_) #[true, true, true, true, true, false, true, true, true, true, false, true, true, false, false, false, false, false, false, false] rfl rfl (any_of HT_.out (by kernel_rfl)) (fun _ _ _ h => h) (Or.inl ⟨by rfl, ?_⟩) ?_ ?_
                    rotate_left
                    · intro w'
                      go_simp
                      with_reducible rfl
                    rotate_left
                    · simp only [Act.put, List.setIfInBounds_toArray, List.set_cons_zero, List.set_cons_succ, i64_w, i32_w]
                      rfl
                    refine pure_ (i := 13) (N := some 124) (v := ?_) (a' := ?_) #[true, true, true, true, true, false, true, true, true, true, false, true, true, true, false, false, false, false, false, false] rfl rfl (any_of HT_.out (by kernel_rfl)) (fun _ _ _ h => h) (Or.inl ⟨by rfl, ?_⟩) ?_ ?_
                    rotate_left
                    · intro w'
                      go_simp
                      with_reducible rfl
                    rotate_left
                    · simp only [Act.put, List.setIfInBounds_toArray, List.set_cons_zero, List.set_cons_succ, i64_w, i32_w]
                      rfl
                    refine pure_ (i := 14) (N := some 125) (v := ?_) (a' := ?_) #[true, true, true, true, true, false, true, true, true, true, false, true, true, true, true, false, false, false, false, false] rfl rfl (any_of HT_.out (by kernel_rfl)) (fun _ _ _ h => h) (Or.inl ⟨by rfl, ?_⟩) ?_ ?_
                    rotate_left
                    · intro w'
                      go_simp
                      with_reducible rfl
                    rotate_left
                    · simp only [Act.put, List.setIfInBounds_toArray, List.set_cons_zero, List.set_cons_succ, i64_w, i32_w]
                      rfl
                    refine take_ (i := 5) (N := some 116) (v := ?_) (a' := ?_) #[true, true, true, true, true, true, true, true, true, true, false, true, true, true, true, false, false, false, false, false] rfl rfl (take_ofW HT_.out HW_.out (by kernel_rfl)) (fun _ _ _ h => h) (Or.inl ⟨by rfl, ?_⟩) hHeld ?_ ?_
                    rotate_left
                    · rintro w' ⟨s0, s1, s2, s3, s4, s5, s6, s7, s8⟩
                      go_simp
                      with_reducible rfl
                    rotate_left
                    · simp only [Act.put, List.setIfInBounds_toArray, List.set_cons_zero, List.set_cons_succ, i64_w, i32_w]
                      rfl
                    refine take_ (i := 10) (N := some 121) (v := ?_) (a' := ?_) #[true, true, true, true, true, true, true, true, true, true, true, true, true, true, true, false, false, false, false, false] rfl rfl (take_ofW HT_.out HW_.out (by kernel_rfl)) (fun _ _ _ h => h) (Or.inl ⟨by rfl, ?_⟩) hHeld ?_ ?_
                    rotate_left
                    · rintro w' ⟨s0, s1, s2, s3, s4, s5, s6, s7, s8⟩
                      go_simp
                      with_reducible rfl
                    rotate_left
                    · simp only [Act.put, List.setIfInBounds_toArray, List.set_cons_zero, List.set_cons_succ, i64_w, i32_w]
                      rfl
                    refine take_ (i := 15) (N := some 126) (v := ?_) (a' := ?_) #[true, true, true, true, true, true, true, true, true, true, true, true, true, true, true, true, false, false, false, false] rfl rfl (take_ofW HT_.out HW_.out (by kernel_rfl)) (fun _ _ _ h => h) (Or.inl ⟨by rfl, ?_⟩) hHeld ?_ ?_
                    rotate_left
                    · rintro w' ⟨s0, s1, s2, s3, s4, s5, s6, s7, s8⟩
                      go_simp
                      with_reducible rfl
                    rotate_left
                    · simp only [Act.put, List.setIfInBounds_toArray, List.set_cons_zero, List.set_cons_succ, i64_w, i32_w]
                      rfl
                    refine pure_ (i := 16) (N := some 127) (v := ?_) (a' := ?_) #[true, true, true, true, true, true, true, true, true, true, true, true, true, true, true, true, true, false, false, false] rfl rfl (any_of HT_.out (by kernel_rfl)) (fun _ _ _ h => h) (Or.inl ⟨by rfl, ?_⟩) ?_ ?_
                    rotate_left
                    · intro w'
                      go_simp
                      with_reducible rfl
                    rotate_left
                    · simp only [Act.put, List.setIfInBounds_toArray, List.set_cons_zero, List.set_cons_succ, i64_w, i32_w]
                      rfl
                    refine last_ (i := 17) (N := some 128) #[true, true, true, true, true, true, true, true, true, true, true, true, true, true, true, true, true, true, false, false] rfl rfl (one_of HT_.out (by kernel_rfl)) (by decide) (fun K hK => ?_)
                    refine value_ (w1 := ?_) (v := ?_) (by rfl) rfl ?_ ?_
                    rotate_left 2
                    · go_simp
                      constructor
                      · rfl
                      · rfl
                    refine hK.out _ _ ?_
                    clear hK K
                    refine norm_ (a' := ?_) ?_ ?_
                    rotate_left
                    · show Act.put _ (some 128) _ = _
                      simp only [Act.put, List.setIfInBounds_toArray, List.set_cons_zero, List.set_cons_succ, i64_w, i32_w]
                      rfl
                    refine last_ (i := 18) (N := some 129) #[true, true, true, true, true, true, true, true, true, true, true, true, true, true, true, true, true, true, true, false] rfl rfl (one_of HT_.out (by kernel_rfl)) (by decide) (fun K hK => ?_)
                    refine Kd.R_append_step k26 (w0 := w) w.heap.size (by rfl) (.tmp 111) (.tmp 128) 22 26 (.agg #[(.int .i64 0), (.int .i64 0), (.int .i64 0)]) 24 rfl Tryd.underlying22 info26 rfl (by decide) (by omega) (.slice Ao48 x6_2.length co48) x6_2 (⟨(rd_T26 x3_2 x7_2).f0, (rd_T26 x3_2 x7_2).f1, (rd_T26 x3_2 x7_2).f0⟩ : S26) [.int .i64 ((rd_T26 x3_2 x7_2).f0), .int .i64 ((rd_T26 x3_2 x7_2).f1), .int .i64 ((rd_T26 x3_2 x7_2).f0)] (fun k_ => some k_ ≠ (.slice (some ad151) x3_2.length co47 : Value).ownBlock) (fun _ => False) rfl rfl ?aP (fun _ hk => hk.elim) ?aF ?aO ?aB ?aS ?aL ?_
                    (case aP => exact k26_mkM _ _ _ (⟨(rd_T26 x3_2 x7_2).f0, (rd_T26 x3_2 x7_2).f1, (rd_T26 x3_2 x7_2).f0⟩ : S26))
                    (case aB => exact (by repeat (first | (with_reducible first | exact HB.out | apply below_alloc | apply pw_below_drewN | apply below_drew1) | exact HB.out)))
                    (case aF => exact (fun k_ hk => Kd.fresh' (Kd.R_lt (by (with_reducible repeat (first | apply Kd.R_alloc | apply Kd.R_drewN | apply Kd.R_drew)); exact HO_3.out)) k_ hk))
                    (case aO => exact (by (with_reducible repeat (first | apply Kd.R_alloc | apply Kd.R_drewN | apply Kd.R_drew)); exact HO_6.out))
                    (case aS => exact (below_size (by repeat (first | (with_reducible first | exact HB.out | apply below_alloc | apply pw_below_drewN | apply below_drew1) | exact HB.out))))
                    (case aL => have := LMc46.out; omega)
                    intro v155 w51 ho hb hg hat
                    rw [← Ny154.out] at ho
                    have n0_ := Aside0.mk (Kd.R_after (ok := (fun _ => True)) (by (with_reducible repeat (first | apply Kd.R_alloc | apply Kd.R_drewN | apply Kd.R_drew)); exact Kd.R_mono HO_3.out (fun _ hk => ⟨trivial, hk⟩)) hg hat)
                    have n1_ := Aside0.mk (hb)
                    have n2_ := Aside0.mk (ho)
                    clear HO_3
                    clear HB
                    clear HO_6
                    have HO_3 := n0_
                    have HB := n1_
                    have HO156 := n2_
                    clear n0_ n1_ n2_
                    clear ho hb hg hat
                    refine hK.out _ _ ?_
                    clear hK K
                    refine norm_ (a' := ?_) ?_ ?_
                    rotate_left
                    · show Act.put _ (some 129) _ = _
                      simp only [Act.put, List.setIfInBounds_toArray, List.set_cons_zero, List.set_cons_succ, i64_w, i32_w]
                      rfl
                    refine pure_ (i := 19) (N := some 6) (v := ?_) (a' := ?_) #[true, true, true, true, true, true, true, true, true, true, true, true, true, true, true, true, true, true, true, true] rfl rfl (any_of HT_.out (by kernel_rfl)) (fun _ _ _ h => h) (Or.inl ⟨by rfl, ?_⟩) ?_ ?_
                    rotate_left
                    · intro w'
                      go_simp
                      with_reducible rfl
                    rotate_left
                    · simp only [Act.put, List.setIfInBounds_toArray, List.set_cons_zero, List.set_cons_succ, i64_w, i32_w]
                      rfl
                    refine done_ (done_of HT_.out (by kernel_rfl)) ?_
                    try go_wp2
                    go_roundg k2
                    case measure => have := HK1.out; have := HK2.out; omega
                    case rel => exact ⟨(x3_2), (y154), (wrap64 (x7_2 + 1)), (by first | rfl | (simp; done) | (simp [*]; done)), H', ⟨by have := HK1.out; have := HK2.out; omega⟩, ⟨by (with_reducible repeat (first | apply Kd.R_alloc | apply Kd.R_drewN | apply Kd.R_drew)); exact Kd.R_mono HO_3.out (fun _ hk => hk.2)⟩, ⟨by (with_reducible repeat (first | apply Kd.R_alloc | apply Kd.R_drewN | apply Kd.R_drew)); exact HO156.out⟩, ⟨by repeat (first | (with_reducible first | exact HB.out | apply below_alloc | apply pw_below_drewN | apply below_drew1) | exact HB.out)⟩⟩
                  · rw [if_neg c46] at H
                    exact absurd H (by simp)
                · rw [if_neg c45] at H
                  exact absurd H (by simp)
            · rw [if_neg c25] at H
              have c25b0 : decide (x7_2 < (x3_2.length : Int)) = false := decide_eq_false c25
              clear c25
              obtain rfl := Option.some.inj H
              obtain ⟨Ao52, co52, eo52⟩ := Kd.R_slice HO_3.out
              subst eo52
              go_wp2
              go_ret
              exact ⟨_, by first | rfl | (simp [errW_none, errW_some] <;> rfl) | (simp [*, errW_none, errW_some] <;> rfl), by (with_reducible repeat (first | apply Kd.R_alloc | apply Kd.R_drewN | apply Kd.R_drew)); exact Kd.R_mono HO_6.out (fun _ hk => trivial), by repeat (first | (with_reducible first | exact HB.out | apply below_alloc | apply pw_below_drewN | apply below_drew1) | exact HB.out)⟩

end Go.Proofs.YtdafnjlmkbffeaaDoor.PD
/- A range over an iterator that may turn cells of its own between two rounds (a captured variable), and may call its rounds from within a loop of its own: the contract of such an iterator, and the walk of a loop over it. -/
namespace Go.Proofs.YtdafnjlmkbffeaaDoor.PD
open Go.RowKit
set_option linter.unusedVariables false
theorem kf_mono {B B' : Nat} {X Y : World} (h : KeepsFrom B X Y) (hB : B ≤ B') : KeepsFrom B' X Y := ⟨h.size, fun i o hi ho hc => h.same i o (by omega) ho hc⟩
theorem kf_put {B l : Nat} (W : World) (o : Obj) (h : l < B) : KeepsFrom B W (W.putObj l o) := ⟨by simp, fun i o' hi ho _ => (World.putObj_heap_other (by omega)).trans ho⟩
theorem kf_below {B : Nat} {X Y : World} (h : Below X.heap.size X Y) : KeepsFrom B X Y := ⟨h.size, fun i o _ ho _ => (h.block i (Array.getElem?_eq_some_iff.1 ho).1).trans ho⟩
theorem below_put {n₀ l : Nat} {W : World} (o : Obj) (h : n₀ ≤ l) : Below n₀ W (W.putObj l o) := ⟨rfl, rfl, rfl, by simp, fun k hk => World.putObj_heap_other (by omega)⟩
/-- Whatever the iterator may do between two rounds leaves J: it lays blocks, turns blocks of Z, and what from B on is no cells. -/
def OwnZ {β : Type} (Z : Nat → Prop) (B : Nat) (J : β → World → Prop) : Prop :=
  ∀ s X Y row, J s X → X.grownBy Y row → (∀ r, row = some r → Z r ∨ (B ≤ r ∧ ∃ o : Obj, X.heap[r]? = some o ∧ o.isCells = false)) → J s Y
theorem OwnZ.putObj {β : Type} {Z : Nat → Prop} {B : Nat} {I : β → World → Prop} (h : OwnZ Z B I) {s : β} {W : World} {l : Nat} {o : Obj} (o' : Obj) (hs : I s W) (hB : B ≤ l) (hl : W.heap[l]? = some o) (ho : o.isCells = false) : I s (W.putObj l o') :=
  h s W _ (some l) hs (grownBy_putObj' W l o') (fun r e => by cases e; exact .inr ⟨hB, o, hl, ho⟩)
theorem OwnZ.below {β : Type} {Z : Nat → Prop} {B : Nat} {I : β → World → Prop} (h : OwnZ Z B I) {s : β} {W W' : World} (hs : I s W) (hb : Below W.heap.size W W') : I s W' :=
  h s W W' none hs ⟨hb.os, hb.tape, hb.output, hb.size, fun k hk _ => hb.block k hk⟩ (fun r e => by cases e)
theorem ownZ_heap {β : Type} {Z : Nat → Prop} {B k : Nat} (o : β → Obj) (h : k < B) (hz : ¬ Z k) : OwnZ Z B (fun s W => W.heap[k]? = some (o s)) :=
  fun s X Y row hs hg hr => (hg.block k (Array.getElem?_eq_some_iff.1 hs).1 (fun e => by
    rcases hr k e.symm with h1 | h1
    · exact hz h1
    · have := h1.1; omega)).trans hs
theorem OwnZ.and {β : Type} {Z : Nat → Prop} {B : Nat} {I J : β → World → Prop} (h : OwnZ Z B I) (k : OwnZ Z B J) : OwnZ Z B (fun s W => I s W ∧ J s W) := fun s X Y row hs hg hr => ⟨h s X Y row hs.1 hg hr, k s X Y row hs.2 hg hr⟩
/-- What a round leaves alone: the blocks of Z. -/
def SameZ (Z : Nat → Prop) (X Y : World) : Prop := ∀ b, Z b → Y.heap[b]? = X.heap[b]?
theorem SameZ.trans {Z : Nat → Prop} {X Y W : World} (h : SameZ Z X Y) (k : SameZ Z Y W) : SameZ Z X W := fun b hb => (k b hb).trans (h b hb)
theorem sameZ_put {Z : Nat → Prop} {W : World} {l : Nat} (o : Obj) (hz : ¬ Z l) : SameZ Z W (W.putObj l o) := fun b hb => World.putObj_heap_other (fun e => hz (by rw [← e]; exact hb))
def SeqZ {α : Type} (P : Program) (g : Nat) (lb : Array Value) (encs : α → Array Value) (n₀ : Nat) (Z : Nat → Prop) (xs : List α) (w : World) : Prop :=
  ∀ (l : Nat) (J Jx : List α → World → Prop) (W : World), Below w.heap.size w W → OwnZ Z W.heap.size J → OwnZ Z W.heap.size Jx →
    (∀ pre x W1, J pre W1 → pre ++ [x] <+: xs → YieldAt Fence.wide 50 P l (encs x) W1 fun e W' => ((e = .returned (.bool true) ∧ J (pre ++ [x]) W') ∨ (e = .returned (.bool false) ∧ Jx (pre ++ [x]) W')) ∧ Below n₀ W1 W' ∧ SameZ Z W1 W' ∧ KeepsFrom W.heap.size W1 W') →
    J [] W → Calls P g (#[.func (.yield l) #[] #[]] ++ lb) W fun e W' => (∃ v, e = .returned v) ∧ (J xs W' ∨ ∃ pre, pre <+: xs ∧ Jx pre W')
/-- How a round's body may be left. -/
def zPost {α : Type} (B n₀ : Nat) (Z : Nat → Prop) (I : List α → World → Prop) (Ix : Code → List α → World → Prop) (xs : List α) (W : World) : Exit → Act → World → Prop
  | .normal, _, W' => KeepsFrom B W W' ∧ Below n₀ W W' ∧ SameZ Z W W' ∧ I xs W'
  | .ret, _, W' => KeepsFrom B W W' ∧ Below n₀ W W' ∧ SameZ Z W W' ∧ Ix .ret xs W'
  | .exit id, _, W' => KeepsFrom B W W' ∧ Below n₀ W W' ∧ SameZ Z W W' ∧ Ix (.exit id) xs W'
  | .goto t, _, W' => KeepsFrom B W W' ∧ Below n₀ W W' ∧ SameZ Z W W' ∧ Ix (.goto t) xs W'
  | .panic _, _, _ => False
  | .outgrown, _, _ => False
theorem range_z {α : Type} {n : Nat} {P : Program} {g : Operand} {ps : Array Tmp} {assign body : Code} {Q : Exit → Act → World → Prop} {a : Act} {w : World}
    {gf : Nat} {lb : Array Value} (hg : a.eval g = .func (.func gf) #[] lb) (eg : ∀ args w, (callFunc gf args).run P w = .ok (.enter gf args) w)
    {encs : α → Array Value} {n₀ : Nat} {xs : List α} (hn : n₀ ≤ w.heap.size) {Z : Nat → Prop} (hZ : ∀ b, Z b → b < w.heap.size) (hseq : SeqZ P gf lb encs n₀ Z xs w) (hps : ∀ x, (encs x).size = ps.size)
    (I : List α → World → Prop) (Ix : Code → List α → World → Prop) (hI : OwnZ Z w.heap.size I) (hIx : ∀ c, OwnZ Z w.heap.size (Ix c)) (h0 : I [] w)
    (Ax : α → Act → World → Prop) (hAx : ∀ x a', OwnZ Z w.heap.size (fun (_ : Unit) W => Ax x a' W))
    (hassign : ∀ (l : Nat) (pre : List α) (x : α) (W : World) (K : Act → World → Prop), I pre W → pre ++ [x] <+: xs → w.heap.size ≤ W.heap.size → (∀ a' W', KeepsFrom w.heap.size W W' → Below n₀ W W' → SameZ Z W W' → I pre W' → Ax x a' W' → K a' W') →
      assign.wpIn (Fence.wide.inRound l) 50 P (Exit.then K (fun _ _ _ => False)) { tmps := (ps.zip (encs x)).foldl (fun t (p, v) => t.setIfInBounds p v) a.tmps, defers := [] } W)
    (hbody : ∀ (l : Nat) (pre : List α) (x : α) (a' : Act) (W : World), I pre W → pre ++ [x] <+: xs → w.heap.size ≤ W.heap.size → Ax x a' W → body.wpIn (Fence.wide.inRound l) 50 P (zPost w.heap.size n₀ Z I Ix (pre ++ [x]) W) a' W)
    (hdone : ∀ (D : Nat) (W : World), w.heap.size ≤ D → I xs W → W.heap[D]? = some (.deferred (some [])) → Q .normal { a with defers := { target := .collected D, args := #[] } :: a.defers } W)
    (hstop : ∀ (D : Nat) (c : Code) (pre : List α) (W : World), w.heap.size ≤ D → pre <+: xs → Ix c pre W → W.heap[D]? = some (.deferred (some [])) → c.wpIn Fence.wide n P Q { a with defers := { target := .collected D, args := #[] } :: a.defers } W) :
    (Code.rangeFunc g ps assign body).wpIn Fence.wide n P Q a w := by
  refine wpIn_rangeFunc fun fn hfn => ?_
  let rec' : LoopState → Option Code → Loop := fun st pe => { state := st, pending := pe, fn, tmps := a.tmps, params := ps, assign, body, defers := w.heap.size }
  obtain ⟨rec, hrec⟩ : ∃ rec, rec = rec' := ⟨_, rfl⟩
  obtain ⟨V, hV⟩ : ∃ V, (w.alloc (.deferred (some []))).alloc (.loop (rec .ready none)) = V := ⟨_, rfl⟩
  have hbV : Below w.heap.size w V := by rw [← hV]; exact ((Below.refl _ w).alloc (Nat.le_refl _) _).alloc (by simp) _
  have hsV : V.heap.size = w.heap.size + 2 := by rw [← hV]; simp
  have hLV : V.heap[w.heap.size + 1]? = some (.loop (rec .ready none)) := by
    rw [← hV]; have := World.alloc_heap_new (w.alloc (.deferred (some []))) (.loop (rec .ready none)); rwa [World.size_alloc] at this
  have hDV : V.heap[w.heap.size]? = some (.deferred (some [])) := by
    rw [← hV]; exact (Below.heap_alloc _ _ _ (by simp)).trans (World.alloc_heap_new w _)
  refine ⟨w.heap.size + 1, [{ target := .collected w.heap.size, args := #[] }], V, { target := .fn (.func gf) lb, args := #[.func (.yield (w.heap.size + 1)) #[] #[]] }, V, gf,
    #[.func (.yield (w.heap.size + 1)) #[] #[]] ++ lb, V, ?_, ?_, fun _ _ => trivial, ?_, fun h => (by cases h), ?_⟩
  · rw [← hV, hrec]; exact run_enterLoop_outer _ _ _ _ _
  · simp only [resolve, hg]
    simp [go_sem]
  · simp [invoke, go_sem, eg]
  refine callsIn_wide.2 ((hseq (w.heap.size + 1)
    (fun pre W => I pre W ∧ W.heap[w.heap.size + 1]? = some (.loop (rec .ready none)) ∧ W.heap[w.heap.size]? = some (.deferred (some [])) ∧ w.heap.size + 2 ≤ W.heap.size)
    (fun pre W => ∃ c, Ix c pre W ∧ W.heap[w.heap.size + 1]? = some (.loop (rec .done (some c))) ∧ W.heap[w.heap.size]? = some (.deferred (some [])) ∧ w.heap.size + 2 ≤ W.heap.size)
    V hbV ?_ ?_ ?_ ⟨hI.below h0 hbV, hLV, hDV, by omega⟩).mono ?_)
  · intro s X Y row ⟨h1, h2, h3, h4⟩ hg' hr
    exact ⟨hI s X Y row h1 hg' (fun r e => (hr r e).imp id (fun h => ⟨by have := h.1; omega, h.2⟩)), ownZ_heap (Z := Z) (B := V.heap.size) (fun _ : List α => .loop (rec .ready none)) (by omega) (fun h => by have := hZ _ h; omega) s X Y row h2 hg' hr,
      ownZ_heap (Z := Z) (B := V.heap.size) (fun _ : List α => .deferred (some [])) (by omega) (fun h => by have := hZ _ h; omega) s X Y row h3 hg' hr, Nat.le_trans h4 hg'.size⟩
  · intro s X Y row ⟨c, h1, h2, h3, h4⟩ hg' hr
    exact ⟨c, hIx c s X Y row h1 hg' (fun r e => (hr r e).imp id (fun h => ⟨by have := h.1; omega, h.2⟩)), ownZ_heap (Z := Z) (B := V.heap.size) (fun _ : List α => .loop (rec .done (some c))) (by omega) (fun h => by have := hZ _ h; omega) s X Y row h2 hg' hr,
      ownZ_heap (Z := Z) (B := V.heap.size) (fun _ : List α => .deferred (some [])) (by omega) (fun h => by have := hZ _ h; omega) s X Y row h3 hg' hr, Nat.le_trans h4 hg'.size⟩
  · -- one round
    rintro pre x W ⟨hi, hl, hd, hs⟩ hpx
    have hy := run_yield (P := P) (args := encs x) hl (by rw [hrec]; exact hps x)
    rw [hrec] at hy
    refine ⟨fn, _, assign, body, hy, roundIn_of_wpIn trivial (hassign _ pre x W _ hi hpx (by omega) fun a' Wa hab hbl hsz hia hax => ?_)⟩
    clear hy
    have hl1 : Wa.heap[w.heap.size + 1]? = some (.loop (rec .ready none)) := hab.same _ _ (by omega) hl rfl
    have hd1 : Wa.heap[w.heap.size]? = some (.deferred (some [])) := hab.same _ _ (Nat.le_refl _) hd rfl
    have hs1 := Nat.le_trans hs hab.size
    refine ⟨_, run_beginRound hl1 (by rw [hrec]), ?_⟩
    obtain ⟨Wb, hWb⟩ : ∃ Wb, Wa.putObj (w.heap.size + 1) (.loop { rec .ready none with state := .busy }) = Wb := ⟨_, rfl⟩
    have hl2 : Wb.heap[w.heap.size + 1]? = some (.loop { rec .ready none with state := .busy }) := by rw [← hWb]; exact World.putObj_heap_same (by omega)
    have hd2 : Wb.heap[w.heap.size]? = some (.deferred (some [])) := by rw [← hWb]; exact (World.putObj_heap_other (by omega)).trans hd1
    have hi2 : I pre Wb := by rw [← hWb]; exact OwnZ.putObj hI _ hia (by omega) hl1 rfl
    have hx2 : Ax x a' Wb := by rw [← hWb]; exact OwnZ.putObj (hAx x a') (s := ()) _ hax (by omega) hl1 rfl
    have hs2 : w.heap.size + 2 ≤ Wb.heap.size := by rw [← hWb]; simpa using hs1
    have hab2 : KeepsFrom (w.heap.size + 2) W Wb := (kf_mono hab (by omega)).trans (by rw [← hWb]; exact kf_put _ _ (by omega))
    have hbl2 : Below n₀ W Wb := hbl.trans (by rw [← hWb]; exact below_put _ (by omega))
    have hsz2 : SameZ Z W Wb := hsz.trans (by rw [← hWb]; exact sameZ_put _ (fun h => by have := hZ _ h; omega))
    rw [hWb]
    refine wpIn_mono (hbody _ pre x a' Wb hi2 hpx (by omega) hx2) ?_
    have fin : ∀ (jump : Option Code) (W3 : World), KeepsFrom w.heap.size Wb W3 → Below n₀ Wb W3 → SameZ Z Wb W3 → ∃ W4, (Instr.endRound (w.heap.size + 1) jump).run P W3 = .ok (.bool jump.isNone) W4 ∧
        W4.heap[w.heap.size + 1]? = some (.loop (rec (if jump.isNone then .ready else .done) jump)) ∧ W4.heap[w.heap.size]? = some (.deferred (some [])) ∧ w.heap.size + 2 ≤ W4.heap.size ∧
        Below n₀ W W4 ∧ SameZ Z W W4 ∧ KeepsFrom V.heap.size W W4 ∧ (∀ {β : Type} {K : β → World → Prop} {s : β}, OwnZ Z w.heap.size K → K s W3 → K s W4) := by
      intro jump W3 ha hb hz3
      have hl3 : W3.heap[w.heap.size + 1]? = some (.loop { rec .ready none with state := .busy }) := ha.same _ _ (by omega) hl2 rfl
      have hd3 : W3.heap[w.heap.size]? = some (.deferred (some [])) := ha.same _ _ (Nat.le_refl _) hd2 rfl
      have hs3 := Nat.le_trans hs2 ha.size
      have he := run_endRound (P := P) jump hl3
      refine ⟨_, he, ?_, (World.putObj_heap_other (by omega)).trans hd3, by simpa using hs3, hbl2.trans (hb.trans (below_put _ (by omega))), hsz2.trans (hz3.trans (sameZ_put _ (fun h => by have := hZ _ h; omega))),
        kf_mono ((hab2.trans (kf_mono ha (by omega))).trans (kf_put _ _ (by omega))) (by omega), fun hK hs => OwnZ.putObj hK _ hs (by omega) hl3 rfl⟩
      rw [World.putObj_heap_same (by omega), hrec]
    rintro e a3 W3 hp
    cases e with
    | normal =>
      obtain ⟨ha, hb, hz3, hi3⟩ := hp
      obtain ⟨W4, hr, h1, h2, h3, h4, h45, h5, h6⟩ := fin none W3 ha hb hz3
      exact ⟨_, _, hr, .inl ⟨rfl, h6 hI hi3, h1, h2, h3⟩, h4, h45, h5⟩
    | ret =>
      obtain ⟨ha, hb, hz3, hi3⟩ := hp
      obtain ⟨W4, hr, h1, h2, h3, h4, h45, h5, h6⟩ := fin (some .ret) W3 ha hb hz3
      exact ⟨_, _, hr, .inr ⟨rfl, .ret, h6 (hIx _) hi3, h1, h2, h3⟩, h4, h45, h5⟩
    | exit id =>
      obtain ⟨ha, hb, hz3, hi3⟩ := hp
      obtain ⟨W4, hr, h1, h2, h3, h4, h45, h5, h6⟩ := fin (some (.exit id)) W3 ha hb hz3
      exact ⟨_, _, hr, .inr ⟨rfl, .exit id, h6 (hIx _) hi3, h1, h2, h3⟩, h4, h45, h5⟩
    | goto t =>
      obtain ⟨ha, hb, hz3, hi3⟩ := hp
      obtain ⟨W4, hr, h1, h2, h3, h4, h45, h5, h6⟩ := fin (some (.goto t)) W3 ha hb hz3
      exact ⟨_, _, hr, .inr ⟨rfl, .goto t, h6 (hIx _) hi3, h1, h2, h3⟩, h4, h45, h5⟩
    | panic ch => exact hp.elim
    | outgrown => exact hp.elim
  · -- behind the iterator
    rintro e W2 ⟨⟨v, rfl⟩, ⟨hi, hl, hd, hs⟩ | ⟨pre, hpre, c, hi, hl, hd, hs⟩⟩
    · exact ⟨none, _, by have := run_endLoop (P := P) hl (by rw [hrec]; simp [rec']); rw [hrec] at this; exact this, hdone _ _ (Nat.le_refl _) (OwnZ.putObj hI _ hi (by omega) hl rfl) ((World.putObj_heap_other (by omega)).trans hd)⟩
    · exact ⟨some c, _, by have := run_endLoop (P := P) hl (by rw [hrec]; simp [rec']); rw [hrec] at this; exact this, hstop _ c pre _ (Nat.le_refl _) hpre (OwnZ.putObj (hIx c) _ hi (by omega) hl rfl) ((World.putObj_heap_other (by omega)).trans hd)⟩
end Go.Proofs.YtdafnjlmkbffeaaDoor.PD
/- date.leap, lengths, and the months' iterator, in the year 1970. -/
namespace Go.Proofs.YtdafnjlmkbffeaaDoor.PD
open Go.RowKit Go.Proofs.YtdafnjlmkbffeaaDoorW.PrintWords Go.Proofs.YtdafnjlmkbffeaaDoorW.PrintLast Go.Proofs.YtdafnjlmkbffeaaDoorW.PrintMore
attribute [local go_sem] isSome_setCell
set_option linter.unusedVariables false
set_option linter.unusedSimpArgs false
def len70 : Array Value := #[.int .i64 31, .int .i64 28, .int .i64 31, .int .i64 30, .int .i64 31, .int .i64 30, .int .i64 31, .int .i64 31, .int .i64 30, .int .i64 31, .int .i64 30, .int .i64 31]
set_option maxHeartbeats 4000000 in
set_option maxRecDepth 100000 in
theorem leap70 (w : World) : Calls Tryd.prog 59 #[.int .i64 1970] w fun e w' => e = .returned (.bool false) ∧ w' = w := by
  go_enter Tryd.func59, Tryd.ntmps59
  go_wp2
  go_ret
  exact ⟨rfl, rfl⟩
set_option maxHeartbeats 4000000 in
set_option maxRecDepth 100000 in
theorem lengths70 (w : World) : Calls Tryd.prog 51 #[.int .i64 1970] w fun e w' => e = .returned (.agg len70) ∧ Below w.heap.size w w' := by
  have HB := Aside0.mk (Below.refl w.heap.size w)
  go_enter Tryd.func51, Tryd.ntmps51
  go_wp2_with (go_at_call 59; refine (leap70 _).mono ?_; rintro e w' ⟨rfl, rfl⟩)
  refine bodyPost_ret (results_cell_row rfl _ _ w.heap.size 86 len70 (0, 0) _ rfl ?blk Tryd.underlying86 rfl (by kernel_rfl)) rfl ?_
  case blk => exact blk_alloc (heap_alloc_new w _) _
  exact ⟨rfl, below_alloc (below_alloc (Below.refl _ _) _) _⟩
/-- The months of 1970: each one's number and length. -/
def mon70 : List (Int × Int) := [(1, 31), (2, 28), (3, 31), (4, 30), (5, 31), (6, 30), (7, 31), (8, 31), (9, 30), (10, 31), (11, 30), (12, 31)]
theorem wide_fn (f : FuncId) : Fence.wide.fn f = True := rfl
theorem wide_depth : Fence.wide.depth = none := rfl
attribute [local go_sem] Oper.semAt_some wide_fn wide_depth
theorem mon70_len : mon70.length = 12 := rfl
set_option maxRecDepth 100000 in
set_option maxHeartbeats 1600000 in
theorem index70 (m : Nat) (hm : m < mon70.length) (w : World) : (Instr.index 86 (.agg len70) (.int .i64 (m : Int))).run Tryd.prog w = .ok (.int .i64 mon70[m].2) w := by
  have : ∀ m : Fin 12, (Instr.index 86 (.agg len70) (.int .i64 (m.val : Int))).run Tryd.prog w = .ok (.int .i64 (mon70[m.val]'m.isLt).2) w := by
    intro m
    match m with
    | ⟨0, _⟩ => go_simp; rfl
    | ⟨1, _⟩ => go_simp; rfl
    | ⟨2, _⟩ => go_simp; rfl
    | ⟨3, _⟩ => go_simp; rfl
    | ⟨4, _⟩ => go_simp; rfl
    | ⟨5, _⟩ => go_simp; rfl
    | ⟨6, _⟩ => go_simp; rfl
    | ⟨7, _⟩ => go_simp; rfl
    | ⟨8, _⟩ => go_simp; rfl
    | ⟨9, _⟩ => go_simp; rfl
    | ⟨10, _⟩ => go_simp; rfl
    | ⟨11, _⟩ => go_simp; rfl
  exact this ⟨m, hm⟩
theorem mon70_fst (m : Nat) (hm : m < mon70.length) : mon70[m].1 = (m : Int) + 1 := by
  have : ∀ m : Fin 12, (mon70[m.val]'m.isLt).1 = (m.val : Int) + 1 := by decide
  exact this ⟨m, hm⟩
set_option maxRecDepth 100000 in
set_option maxHeartbeats 4000000 in
theorem months_in (l Bn n₀ : Nat) (J Jx : List (Int × Int) → World → Prop) (W : World) (hJ : OwnZ (fun _ => False) W.heap.size J)
    (hY : ∀ pre x W1, J pre W1 → pre ++ [x] <+: mon70 → YieldAt Fence.wide 50 Tryd.prog l #[.int .i64 x.1, .int .i64 x.2] W1 fun e W' => ((e = .returned (.bool true) ∧ J (pre ++ [x]) W') ∨ (e = .returned (.bool false) ∧ Jx (pre ++ [x]) W')) ∧ Below n₀ W1 W' ∧ SameZ (fun _ => False) W1 W' ∧ KeepsFrom W.heap.size W1 W')
    (hBn : W.heap[Bn]? = some (.cells #[.int .i64 1970] 3 (0, 0))) (h0 : J [] W) :
    CallsIn Fence.wide 51 Tryd.prog 50 #[.func (.yield l) #[] #[], .pointer (some ⟨Bn, 0, none⟩)] W fun e W' => (∃ v, e = .returned v) ∧ (J mon70 W' ∨ ∃ pre, pre <+: mon70 ∧ Jx pre W') := by
  refine callsIn_of_wp Tryd.func50 rfl trivial ?_ rfl
  simp only [Tryd.ntmps50, List.size_toArray, List.length_cons, List.length_nil, Nat.reduceAdd, Nat.reduceSub, Array.replicate_succ, Array.replicate_zero, List.push_toArray, List.append_toArray, List.nil_append, List.cons_append]
  have HY := Aside0.mk hY
  have HJ := Aside0.mk hJ
  have H0 := Aside0.mk h0
  have hc : W.cell? ⟨Bn, 0, none⟩ = some (.int .i64 1970) := (blk_cell hBn 0).trans rfl
  clear hY hJ h0 hBn
  gi_wp2_with (gi_at_call 51; refine (callsIn_wide.2 (lengths70 _)).mono ?_; rintro e W2 ⟨rfl, hb2⟩)
  have H2 := Aside0.mk (HJ.out.below H0.out hb2)
  clear hb2 hc
  gi_loopw [7] (fun v wr => ∃ m : Nat, v = .int .i64 (m : Int) ∧ m ≤ 12 ∧ Aside0 (J (mon70.take m) wr)) (fun v _ => 12 - (intOf v).toNat)
  case atStart => exact ⟨0, rfl, Nat.zero_le _, H2⟩
  case round =>
    obtain ⟨m, rfl, hm, HJ1⟩ := hrel
    by_cases hlt : m < 12
    · have hlt0 : decide ((m : Int) < 12) = true := decide_eq_true (by omega)
      have hlt2 : m < mon70.length := hlt
      have hix := index70 m hlt2
      have hfst := mon70_fst m hlt2
      obtain ⟨x, hx⟩ : ∃ x, x = mon70[m] := ⟨_, rfl⟩
      simp only [← hx] at hix hfst
      have hpx : mon70.take m ++ [x] = mon70.take (m + 1) := by rw [hx]; exact List.take_append_getElem hlt2
      have HPX := Aside0.mk hpx
      obtain ⟨fn, tmps, assign, body, hy, hRd⟩ := HY.out (mon70.take m) x wr HJ1.out (by rw [hpx]; exact List.take_prefix _ _)
      rw [hfst] at hy
      have HRr := Aside0.mk hRd
      clear hRd hpx hx
      gi_wp2
      refine HRr.out.mono ?_
      rintro e W4 ⟨⟨rfl, hJ4⟩ | ⟨rfl, hJx4⟩, hb4, hz4, hab4⟩
      · gi_wp2
        refine ⟨⟨m + 1, by simp, by omega, ⟨by rw [← HPX.out]; exact hJ4⟩⟩, ?_⟩
        show 12 - ((m : Int) + 1).toNat < 12 - (m : Int).toNat
        omega
      · gi_wp2
        refine bodyPost_ret (results_none rfl _ _ _) rfl ?_
        exact ⟨⟨_, rfl⟩, .inr ⟨_, by rw [HPX.out]; exact List.take_prefix _ _, hJx4⟩⟩
    · have hlt0 : decide ((m : Int) < 12) = false := decide_eq_false (by omega)
      obtain rfl : m = 12 := by omega
      gi_wp2
      refine bodyPost_end (results_none rfl _ _ _) rfl ?_
      exact ⟨⟨_, rfl⟩, .inl HJ1.out⟩
end Go.Proofs.YtdafnjlmkbffeaaDoor.PD
-- written by a program of this work (mk.sh, over the kit's print; stubs are proved by hand)
namespace Go.Proofs.YtdafnjlmkbffeaaDoor.PD
open Go.RowKit Go.Proofs.YtdafnjlmkbffeaaDoorW.PrintWords Go.Proofs.YtdafnjlmkbffeaaDoorW.PrintLast Go.Proofs.YtdafnjlmkbffeaaDoorW.PrintMore
attribute [local go_sem] isSome_setCell max2_int min2_int max_two min_two max_three min_three max_four min_four   -- for this text's walks alone
set_option linter.unusedVariables false
set_option linter.unusedSimpArgs false

/-! ### date_begins: function 46 -/
def date_begins.f (a0 : Int) : Option (Int) := some (wrap64 ((wrap64 ((wrap64 ((wrap64 ((-719162) + (wrap64 (365 * (wrap64 (a0 - 1)))))) + (wrap64 (Int.tdiv (wrap64 (a0 - 1)) 4)))) - (wrap64 (Int.tdiv (wrap64 (a0 - 1)) 100)))) + (wrap64 (Int.tdiv (wrap64 (a0 - 1)) 400))))
set_option maxHeartbeats 8000000 in
set_option maxRecDepth 100000 in
theorem date_begins.calls (a0 : Int) (r : Int) (w : World) (h : date_begins.f a0 = some r) :
    Calls Tryd.prog 46 #[.int .i64 a0] w fun e w' => e = .returned (.int .i64 r) ∧ Drawn0 w w' := by
  have H : (some (wrap64 ((wrap64 ((wrap64 ((wrap64 ((-719162) + (wrap64 (365 * (wrap64 (a0 - 1)))))) + (wrap64 (Int.tdiv (wrap64 (a0 - 1)) 4)))) - (wrap64 (Int.tdiv (wrap64 (a0 - 1)) 100)))) + (wrap64 (Int.tdiv (wrap64 (a0 - 1)) 400))))) = some r := h
  clear h
  obtain rfl := Option.some.inj H
  go_enter Tryd.func46, Tryd.ntmps46
  go_wp2
  go_ret
  exact ⟨by first | rfl | (simp; done) | (simp [*]; done), by repeat (first | exact Drawn0.refl _ | apply Drawn0.step)⟩

end Go.Proofs.YtdafnjlmkbffeaaDoor.PD
/- date.Civil at the day 0. -/
namespace Go.Proofs.YtdafnjlmkbffeaaDoor.PD
open Go.RowKit Go.Shelf Go.Proofs.YtdafnjlmkbffeaaDoorW.PrintWords Go.Proofs.YtdafnjlmkbffeaaDoorW.PrintLast Go.Proofs.YtdafnjlmkbffeaaDoorW.PrintMore
attribute [local go_sem] isSome_setCell Oper.semAt_some wide_fn wide_depth
set_option linter.unusedVariables false
set_option linter.unusedSimpArgs false
theorem months_made (n : Nat) (a : Int) (w : World) :
    CallsIn Fence.wide n Tryd.prog 47 #[.int .i64 a] w fun e w' => e = .returned (.func (.func 50) #[] #[.pointer (some ⟨w.heap.size, 0, none⟩)]) ∧ w' = w.alloc (.cells #[.int .i64 a] 3) := by
  refine callsIn_of_wp Tryd.func47 rfl trivial ?_ rfl
  simp only [Tryd.ntmps47, List.size_toArray, List.length_cons, List.length_nil, Nat.reduceAdd, Nat.reduceSub, Array.replicate_succ, Array.replicate_zero, List.push_toArray, List.append_toArray, List.nil_append, List.cons_append]
  gi_wp2
  go_ret
  exact ⟨rfl, rfl⟩
theorem begins_c {n : Nat} (y v : Int) (h : date_begins.f y = some v) (w : World) : CallsIn Fence.wide n Tryd.prog 46 #[.int .i64 y] w fun e w' => e = .returned (.int .i64 v) ∧ Drawn0 w w' := callsIn_wide.2 (date_begins.calls y v w h)
theorem bg69 : date_begins.f 1969 = some (-365) := by decide +kernel
theorem bg70 : date_begins.f 1970 = some 0 := by decide +kernel
theorem bg71 : date_begins.f 1971 = some 365 := by decide +kernel
theorem months_z (n₀ Bn : Nat) (w : World) (hlt : Bn < w.heap.size) (hBn : w.heap[Bn]? = some (.cells #[.int .i64 1970] 3 (0, 0))) :
    SeqZ Tryd.prog 50 #[.pointer (some ⟨Bn, 0, none⟩)] (fun x : Int × Int => #[.int .i64 x.1, .int .i64 x.2]) n₀ (fun _ => False) mon70 w := fun l J Jx W hW hJ hJx hY h0 =>
  (callsIn_wide (n := 51)).1 (months_in l Bn n₀ J Jx W hJ hY ((hW.block Bn hlt).trans hBn) h0)
theorem results43 (tmps : Array Value) (w : World) (a b c d : Nat) (y m n : Int) (o : Bool) (h2 : tmps.getD 2 undef = .pointer (some ⟨a, 0, none⟩)) (h3 : tmps.getD 3 undef = .pointer (some ⟨b, 0, none⟩)) (h4 : tmps.getD 4 undef = .pointer (some ⟨c, 0, none⟩)) (h5 : tmps.getD 5 undef = .pointer (some ⟨d, 0, none⟩))
    (c2 : w.cell? ⟨a, 0, none⟩ = some (.int .i64 y)) (c3 : w.cell? ⟨b, 0, none⟩ = some (.int .i64 m)) (c4 : w.cell? ⟨c, 0, none⟩ = some (.int .i64 n)) (c5 : w.cell? ⟨d, 0, none⟩ = some (.bool o)) :
    (results Tryd.f43 tmps).run Tryd.prog w = .ok (.tuple #[.int .i64 y, .int .i64 m, .int .i64 n, .bool o]) w := by
  unfold results
  rw [show Tryd.f43.results = [ResultVar.cell 2 3, .cell 3 3, .cell 4 3, .cell 5 4].toArray from rfl, List.mapM_toArray]
  simp only [Sem.run_bind, Sem.run_map, List.mapM_cons, List.mapM_nil, h2, h3, h4, h5]
  simp [asAddr, loadVar, go_sem, c2, c3, c4, c5, Tryd.underlying3, Tryd.underlying4]
/-- The blocks of Civil's variables: its four results, the year, what is left. -/
def Civ (w : World) (S : Nat) (y m n : Int) (o : Bool) (W : World) : Prop :=
  ((((((W.heap[S]? = some (.cells #[.int .i64 y] 3 (0, 0)) ∧ W.heap[S + 1]? = some (.cells #[.int .i64 m] 3 (0, 0))) ∧ W.heap[S + 2]? = some (.cells #[.int .i64 n] 3 (0, 0))) ∧ W.heap[S + 3]? = some (.cells #[.bool o] 4 (0, 0))) ∧ W.heap[S + 4]? = some (.cells #[.int .i64 1970] 3 (0, 0))) ∧ W.heap[S + 5]? = some (.cells #[.int .i64 0] 3 (0, 0))) ∧ Below w.heap.size w W)
theorem civ_own {β : Type} (w : World) (S B : Nat) (hS : w.heap.size = S) (hB : S + 6 ≤ B) (y m n : Int) (o : Bool) (p : β → Prop) : OwnZ (fun _ => False) B (fun (s : β) W => p s ∧ Civ w S y m n o W) := by
  rintro s X Y row ⟨hp, ⟨⟨⟨⟨⟨h1, h2⟩, h3⟩, h4⟩, h5⟩, h6⟩, h7⟩ hg hr
  have hrow : ∀ r, row = some r → B ≤ r := fun r e => by
    rcases hr r e with h | h
    · exact h.elim
    · exact h.1
  have key : ∀ k o', k < S + 6 → X.heap[k]? = some o' → Y.heap[k]? = some o' := fun k o' hk h => (hg.block k (Array.getElem?_eq_some_iff.1 h).1 (fun e => by have := hrow k e.symm; omega)).trans h
  exact ⟨hp, ⟨⟨⟨⟨⟨⟨key _ _ (by omega) h1, key _ _ (by omega) h2⟩, key _ _ (by omega) h3⟩, key _ _ (by omega) h4⟩, key _ _ (by omega) h5⟩, key _ _ (by omega) h6⟩, h7.grown hg h7.size (fun k e => by have := hrow k e; omega)⟩⟩
theorem civ_end (w W : World) (S B : Nat) (hS : w.heap.size = S) (hB : S + 6 ≤ B)
    (h : W.heap[S]? = some (.cells #[.int .i64 0] 3 (0, 0)) ∧ W.heap[S + 1]? = some (.cells #[.int .i64 0] 3 (0, 0)) ∧ W.heap[S + 2]? = some (.cells #[.int .i64 0] 3 (0, 0)) ∧ W.heap[S + 3]? = some (.cells #[.bool false] 4 (0, 0)) ∧ W.heap[S + 4]? = some (.cells #[.int .i64 1970] 3 (0, 0)) ∧ W.heap[S + 5]? = some (.cells #[.int .i64 0] 3 (0, 0)) ∧ Below w.heap.size w W) :
    KeepsFrom B W ((((W.setCell ⟨S, 0, none⟩ (.int .i64 1970)).setCell ⟨S + 1, 0, none⟩ (.int .i64 1)).setCell ⟨S + 2, 0, none⟩ (.int .i64 (IntKind.i64.wrap 1))).setCell ⟨S + 3, 0, none⟩ (.bool true)).drew ∧
    Below w.heap.size W ((((W.setCell ⟨S, 0, none⟩ (.int .i64 1970)).setCell ⟨S + 1, 0, none⟩ (.int .i64 1)).setCell ⟨S + 2, 0, none⟩ (.int .i64 (IntKind.i64.wrap 1))).setCell ⟨S + 3, 0, none⟩ (.bool true)).drew ∧
    SameZ (fun _ => False) W ((((W.setCell ⟨S, 0, none⟩ (.int .i64 1970)).setCell ⟨S + 1, 0, none⟩ (.int .i64 1)).setCell ⟨S + 2, 0, none⟩ (.int .i64 (IntKind.i64.wrap 1))).setCell ⟨S + 3, 0, none⟩ (.bool true)).drew ∧
    Code.ret = Code.ret ∧ Civ w S 1970 1 1 true ((((W.setCell ⟨S, 0, none⟩ (.int .i64 1970)).setCell ⟨S + 1, 0, none⟩ (.int .i64 1)).setCell ⟨S + 2, 0, none⟩ (.int .i64 (IntKind.i64.wrap 1))).setCell ⟨S + 3, 0, none⟩ (.bool true)).drew := by
  obtain ⟨h0, h1, h2, h3, h4, h5, h6⟩ := h
  rw [show IntKind.i64.wrap 1 = 1 by decide]
  obtain ⟨X, hX⟩ : ∃ X, ((((W.setCell ⟨S, 0, none⟩ (.int .i64 1970)).setCell ⟨S + 1, 0, none⟩ (.int .i64 1)).setCell ⟨S + 2, 0, none⟩ (.int .i64 1)).setCell ⟨S + 3, 0, none⟩ (.bool true)) = X := ⟨_, rfl⟩
  have far : ∀ k, k ≠ S → k ≠ S + 1 → k ≠ S + 2 → k ≠ S + 3 → X.heap[k]? = W.heap[k]? := fun k n0 n1 n2 n3 => by
    rw [← hX]
    exact (Below.heap_setCell _ _ _ k n3).trans ((Below.heap_setCell _ _ _ k n2).trans ((Below.heap_setCell _ _ _ k n1).trans (Below.heap_setCell _ _ _ k n0)))
  have s0 : X.heap[S]? = some (.cells #[.int .i64 1970] 3 (0, 0)) := by
    rw [← hX]
    exact (Below.heap_setCell _ _ _ S (by show S ≠ S + 3; omega)).trans ((Below.heap_setCell _ _ _ S (by show S ≠ S + 2; omega)).trans ((Below.heap_setCell _ _ _ S (by show S ≠ S + 1; omega)).trans (blk_set h0 0 _)))
  have s1 : X.heap[S + 1]? = some (.cells #[.int .i64 1] 3 (0, 0)) := by
    rw [← hX]
    exact (Below.heap_setCell _ _ _ _ (by show S + 1 ≠ S + 3; omega)).trans ((Below.heap_setCell _ _ _ _ (by show S + 1 ≠ S + 2; omega)).trans (blk_set ((Below.heap_setCell _ _ _ _ (by show S + 1 ≠ S; omega)).trans h1) 0 _))
  have s2 : X.heap[S + 2]? = some (.cells #[.int .i64 1] 3 (0, 0)) := by
    rw [← hX]
    exact (Below.heap_setCell _ _ _ _ (by show S + 2 ≠ S + 3; omega)).trans (blk_set ((Below.heap_setCell _ _ _ _ (by show S + 2 ≠ S + 1; omega)).trans ((Below.heap_setCell _ _ _ _ (by show S + 2 ≠ S; omega)).trans h2)) 0 _)
  have s3 : X.heap[S + 3]? = some (.cells #[.bool true] 4 (0, 0)) := by
    rw [← hX]
    exact blk_set ((Below.heap_setCell _ _ _ _ (by show S + 3 ≠ S + 2; omega)).trans ((Below.heap_setCell _ _ _ _ (by show S + 3 ≠ S + 1; omega)).trans ((Below.heap_setCell _ _ _ _ (by show S + 3 ≠ S; omega)).trans h3))) 0 _
  have hsz : W.heap.size = X.heap.size := by rw [← hX]; simp [World.setCell]
  have hbl : Below w.heap.size W X := ⟨by rw [← hX]; rfl, by rw [← hX]; rfl, by rw [← hX]; rfl, Nat.le_of_eq hsz, fun k hk => far k (by omega) (by omega) (by omega) (by omega)⟩
  have hdr : Below w.heap.size W X.drew := ⟨hbl.os, hbl.tape, hbl.output, hbl.size, fun k hk => hbl.block k hk⟩
  rw [hX]
  refine ⟨⟨Nat.le_of_eq hsz, fun i o hi ho _ => (far i (by omega) (by omega) (by omega) (by omega)).trans ho⟩, hdr, fun _ hb => hb.elim, rfl, ⟨⟨⟨⟨⟨⟨s0, s1⟩, s2⟩, s3⟩, (far _ (by omega) (by omega) (by omega) (by omega)).trans h4⟩, (far _ (by omega) (by omega) (by omega) (by omega)).trans h5⟩, h6.trans hdr⟩⟩
set_option maxRecDepth 100000 in
set_option maxHeartbeats 8000000 in
theorem civil0 (w : World) : Calls Tryd.prog 43 #[.int .i64 0] w fun e w' => e = .returned (.tuple #[.int .i64 1970, .int .i64 1, .int .i64 1, .bool true]) ∧ Below w.heap.size w w' := by
  refine (callsIn_wide (n := 51)).1 ?_
  refine callsIn_of_wp_marks Tryd.func43 rfl trivial ?_ rfl
  simp only [Tryd.ntmps43, List.size_toArray, List.length_cons, List.length_nil, Nat.reduceAdd, Nat.reduceSub, Array.replicate_succ, Array.replicate_zero, List.push_toArray, List.append_toArray, List.nil_append, List.cons_append]
  gi_wp2
  have hV : ∃ V : World, V = (((((w.alloc (.cells #[.int .i64 0] 3)).alloc (.cells #[.int .i64 0] 3)).alloc (.cells #[.int .i64 0] 3)).alloc (.cells #[.bool false] 4)).alloc (.cells #[.int .i64 1969] 3)) := ⟨_, rfl⟩
  obtain ⟨V, hV⟩ := hV
  obtain ⟨S, hS⟩ : ∃ S, w.heap.size = S := ⟨_, rfl⟩
  have hz : V.heap.size = S + 5 := by rw [hV]; simp [hS]
  have hb : Below w.heap.size w V := by rw [hV]; exact below_alloc (below_alloc (below_alloc (below_alloc (below_alloc (Below.refl _ _) _) _) _) _) _
  have q0 : V.heap[S]? = some (.cells #[.int .i64 0] 3 (0, 0)) := by rw [hV, ← hS]; exact blk_alloc (blk_alloc (blk_alloc (blk_alloc (heap_alloc_new w _) _) _) _) _
  have q1 : V.heap[S + 1]? = some (.cells #[.int .i64 0] 3 (0, 0)) := by
    have := heap_alloc_new (w.alloc (.cells #[.int .i64 0] 3)) (.cells #[.int .i64 0] 3)
    rw [World.size_alloc, hS] at this
    rw [hV]; exact blk_alloc (blk_alloc (blk_alloc this _) _) _
  have q2 : V.heap[S + 2]? = some (.cells #[.int .i64 0] 3 (0, 0)) := by
    have := heap_alloc_new ((w.alloc (.cells #[.int .i64 0] 3)).alloc (.cells #[.int .i64 0] 3)) (.cells #[.int .i64 0] 3)
    rw [World.size_alloc, World.size_alloc, hS] at this
    rw [hV]; exact blk_alloc (blk_alloc this _) _
  have q3 : V.heap[S + 3]? = some (.cells #[.bool false] 4 (0, 0)) := by
    have := heap_alloc_new (((w.alloc (.cells #[.int .i64 0] 3)).alloc (.cells #[.int .i64 0] 3)).alloc (.cells #[.int .i64 0] 3)) (.cells #[.bool false] 4)
    rw [World.size_alloc, World.size_alloc, World.size_alloc, hS] at this
    rw [hV]; exact blk_alloc this _
  have q4 : V.heap[S + 4]? = some (.cells #[.int .i64 1969] 3 (0, 0)) := by
    have := heap_alloc_new ((((w.alloc (.cells #[.int .i64 0] 3)).alloc (.cells #[.int .i64 0] 3)).alloc (.cells #[.int .i64 0] 3)).alloc (.cells #[.bool false] 4)) (.cells #[.int .i64 1969] 3)
    rw [World.size_alloc, World.size_alloc, World.size_alloc, World.size_alloc, hS] at this
    rw [hV]; exact this
  rw [← hV]
  have e1 : w.heap.size + 1 = S + 1 := by omega
  have e2 : w.heap.size + 1 + 1 = S + 2 := by omega
  have e3 : w.heap.size + 1 + 1 + 1 = S + 3 := by omega
  have e4 : w.heap.size + 1 + 1 + 1 + 1 = S + 4 := by omega
  try rw [e4]
  try rw [e3]
  try rw [e2]
  try rw [e1]
  try rw [hS]
  clear hV e1 e2 e3 e4
  have HQ0 := Aside0.mk q0
  have HQ1 := Aside0.mk q1
  have HQ2 := Aside0.mk q2
  have HQ3 := Aside0.mk q3
  have HQ4 := Aside0.mk q4
  have HBV := Aside0.mk hb
  clear q0 q1 q2 q3 hb
  have hc : V.cell? ⟨S + 4, 0, none⟩ = some (.int .i64 1969) := (blk_cell q4 0).trans rfl
  clear q4
  refine wpIn_loop_rounds 1 ?_
  rw [roundsIn_succ]
  gi_wp2_with (gi_at_call 46; refine (begins_c _ _ bg69 _).mono ?_; rintro e w' ⟨rfl, ⟨nd, rfl⟩⟩)
  have hp1 : (V.drewN nd).heap = V.heap := rfl
  have hb1 : Below w.heap.size w (V.drewN nd) := by apply pw_below_drewN; exact HBV.out
  revert hp1 hb1
  generalize V.drewN nd = V1
  intro hp1 hb1
  have r4 : V1.heap[S + 4]? = some (.cells #[.int .i64 1969] 3 (0, 0)) := by rw [hp1]; exact HQ4.out
  have hc1 : V1.cell? ⟨S + 4, 0, none⟩ = some (.int .i64 1969) := (blk_cell r4 0).trans rfl
  have hf1 := blk_frozen r4 0
  have HB1 := Aside0.mk hb1
  have HP1 := Aside0.mk hp1
  clear hb1 hp1 hc HBV
  have R4 := Aside0.mk r4
  clear r4
  refine wpIn_loop_rounds 2 ?_
  rw [roundsIn_succ]
  gi_wp2_with (gi_at_call 46; refine (begins_c _ _ bg70 _).mono ?_; rintro e w' ⟨rfl, ⟨nd2, rfl⟩⟩)
  rw [roundsIn_succ]
  have hz2 : ((V1.drewN nd2).setCell ⟨S + 4, 0, none⟩ (.int .i64 1970)).heap.size = S + 5 := by rw [← hz, ← HP1.out]; simp [World.setCell, World.drewN]
  have r4 : ((V1.drewN nd2).setCell ⟨S + 4, 0, none⟩ (.int .i64 1970)).heap[S + 4]? = some (.cells #[.int .i64 1970] 3 (0, 0)) := by
    have h1 : (V1.drewN nd2).heap[S + 4]? = some (.cells #[.int .i64 1969] 3 (0, 0)) := R4.out
    exact blk_set h1 0 _
  have hfar : ∀ k, k < S + 4 → ((V1.drewN nd2).setCell ⟨S + 4, 0, none⟩ (.int .i64 1970)).heap[k]? = V.heap[k]? := fun k hk => (Below.heap_setCell (V1.drewN nd2) ⟨S + 4, 0, none⟩ _ k (by show k ≠ S + 4; omega)).trans (by rw [← HP1.out]; rfl)
  have hb2 : Below w.heap.size w ((V1.drewN nd2).setCell ⟨S + 4, 0, none⟩ (.int .i64 1970)) := by
    refine below_set ?_ (by show w.heap.size ≤ S + 4; omega)
    apply pw_below_drewN
    exact HB1.out
  revert hz2 r4 hfar hb2
  generalize (V1.drewN nd2).setCell ⟨S + 4, 0, none⟩ (.int .i64 1970) = V2
  intro hz2 r4 hfar hb2
  have q0 : V2.heap[S]? = some (.cells #[.int .i64 0] 3 (0, 0)) := (hfar _ (by omega)).trans HQ0.out
  have q1 : V2.heap[S + 1]? = some (.cells #[.int .i64 0] 3 (0, 0)) := (hfar _ (by omega)).trans HQ1.out
  have q2 : V2.heap[S + 2]? = some (.cells #[.int .i64 0] 3 (0, 0)) := (hfar _ (by omega)).trans HQ2.out
  have q3 : V2.heap[S + 3]? = some (.cells #[.bool false] 4 (0, 0)) := (hfar _ (by omega)).trans HQ3.out
  clear hfar HQ0 HQ1 HQ2 HQ3 HQ4 HB1 R4 hc1 hf1 HP1 hz
  have hc : V2.cell? ⟨S + 4, 0, none⟩ = some (.int .i64 1970) := (blk_cell r4 0).trans rfl
  have HQ0 := Aside0.mk q0
  have HQ1 := Aside0.mk q1
  have HQ2 := Aside0.mk q2
  have HQ3 := Aside0.mk q3
  have HQ4 := Aside0.mk r4
  have HBV := Aside0.mk hb2
  clear q0 q1 q2 q3 r4 hb2
  gi_wp2
  gi_at_call 46
  with_reducible refine (begins_c 1971 365 bg71 V2).mono ?_
  rintro e V3 ⟨rfl, hd⟩
  have hp3 : V3.heap = V2.heap := (by obtain ⟨nd, rfl⟩ := hd; rfl)
  have hb3 : Below w.heap.size w V3 := (by obtain ⟨nd, rfl⟩ := hd; apply pw_below_drewN; exact HBV.out)
  have hc3 : V3.cell? ⟨S + 4, 0, none⟩ = some (.int .i64 1970) := (blk_cell (by rw [hp3]; exact HQ4.out) 0).trans rfl
  have HP3 := Aside0.mk hp3
  have HB3 := Aside0.mk hb3
  clear hp3 hb3 hd
  gi_wp2
  gi_at_call 46
  with_reducible refine (begins_c 1970 0 bg70 V3).mono ?_
  rintro e V4 ⟨rfl, hd⟩
  have hp4 : V4.heap = V2.heap := (by obtain ⟨nd, rfl⟩ := hd; exact HP3.out)
  have hb4 : Below w.heap.size w V4 := (by obtain ⟨nd, rfl⟩ := hd; apply pw_below_drewN; exact HB3.out)
  have hc4 : V4.cell? ⟨S + 4, 0, none⟩ = some (.int .i64 1970) := (blk_cell (by rw [hp4]; exact HQ4.out) 0).trans rfl
  have hz4 : V4.heap.size = S + 5 := by rw [hp4]; exact hz2
  have HP4 := Aside0.mk hp4
  have HB4 := Aside0.mk hb4
  clear hp4 hb4 hd hc3 HB3 HP3
  gi_wp2
  gi_at_call 47
  with_reducible refine (months_made _ _ _).mono ?_
  rintro e w' ⟨rfl, rfl⟩
  gi_wp2
  have q0 : ((V4.alloc (.cells #[.int .i64 0] 3)).alloc (.cells #[.int .i64 1970] 3)).heap[S]? = some (.cells #[.int .i64 0] 3 (0, 0)) := blk_alloc (blk_alloc (by rw [HP4.out]; exact HQ0.out) _) _
  have q1 : ((V4.alloc (.cells #[.int .i64 0] 3)).alloc (.cells #[.int .i64 1970] 3)).heap[S + 1]? = some (.cells #[.int .i64 0] 3 (0, 0)) := blk_alloc (blk_alloc (by rw [HP4.out]; exact HQ1.out) _) _
  have q2 : ((V4.alloc (.cells #[.int .i64 0] 3)).alloc (.cells #[.int .i64 1970] 3)).heap[S + 2]? = some (.cells #[.int .i64 0] 3 (0, 0)) := blk_alloc (blk_alloc (by rw [HP4.out]; exact HQ2.out) _) _
  have q3 : ((V4.alloc (.cells #[.int .i64 0] 3)).alloc (.cells #[.int .i64 1970] 3)).heap[S + 3]? = some (.cells #[.bool false] 4 (0, 0)) := blk_alloc (blk_alloc (by rw [HP4.out]; exact HQ3.out) _) _
  have q4 : ((V4.alloc (.cells #[.int .i64 0] 3)).alloc (.cells #[.int .i64 1970] 3)).heap[S + 4]? = some (.cells #[.int .i64 1970] 3 (0, 0)) := blk_alloc (blk_alloc (by rw [HP4.out]; exact HQ4.out) _) _
  have q5 : ((V4.alloc (.cells #[.int .i64 0] 3)).alloc (.cells #[.int .i64 1970] 3)).heap[S + 5]? = some (.cells #[.int .i64 0] 3 (0, 0)) := by
    have := heap_alloc_new V4 (.cells #[.int .i64 0] 3)
    rw [hz4] at this
    exact blk_alloc this _
  have q6 : ((V4.alloc (.cells #[.int .i64 0] 3)).alloc (.cells #[.int .i64 1970] 3)).heap[S + 5 + 1]? = some (.cells #[.int .i64 1970] 3 (0, 0)) := by
    have := heap_alloc_new (V4.alloc (.cells #[.int .i64 0] 3)) (.cells #[.int .i64 1970] 3)
    rwa [World.size_alloc, hz4] at this
  have hz5 : ((V4.alloc (.cells #[.int .i64 0] 3)).alloc (.cells #[.int .i64 1970] 3)).heap.size = S + 7 := by simp [hz4]
  have hb5 : Below w.heap.size w ((V4.alloc (.cells #[.int .i64 0] 3)).alloc (.cells #[.int .i64 1970] 3)) := below_alloc (below_alloc HB4.out _) _
  revert q0 q1 q2 q3 q4 q5 q6 hz5 hb5
  generalize (V4.alloc (.cells #[.int .i64 0] 3)).alloc (.cells #[.int .i64 1970] 3) = V5
  intro q0 q1 q2 q3 q4 q5 q6 hz5 hb5
  clear HQ0 HQ1 HQ2 HQ3 HQ4 HP4 HB4 hc4 hz4 hz2
  have hw5 : w.heap.size ≤ V5.heap.size := by omega
  have hCiv : Civ w S 0 0 0 false V5 := ⟨⟨⟨⟨⟨⟨q0, q1⟩, q2⟩, q3⟩, q4⟩, q5⟩, hb5⟩
  clear q0 q1 q2 q3 q4 q5
  refine range_z (n₀ := w.heap.size) (Z := fun _ => False) (gf := 50) (lb := #[.pointer (some ⟨S + 5 + 1, 0, none⟩)]) rfl (enters_of Tryd.func50 (by kernel_rfl) rfl) hw5 (fun b hb => hb.elim)
    (months_z w.heap.size (S + 5 + 1) V5 (by omega) q6) (fun _ => rfl) (fun pre W => pre = [] ∧ Civ w S 0 0 0 false W) (fun c pre W => c = .ret ∧ Civ w S 1970 1 1 true W)
    (civ_own w S _ hS (by omega) 0 0 0 false (fun pre => pre = [])) (fun c => civ_own w S _ hS (by omega) 1970 1 1 true (fun _ => c = .ret)) ⟨rfl, hCiv⟩
    (fun x a' _ => a' = { tmps := #[.int .i64 0, undef, .pointer (some ⟨S, 0, none⟩), .pointer (some ⟨S + 1, 0, none⟩), .pointer (some ⟨S + 2, 0, none⟩), .pointer (some ⟨S + 3, 0, none⟩), .pointer (some ⟨S + 4, 0, none⟩), .pointer (some ⟨S + 5, 0, none⟩), .int .i64 x.1, .int .i64 x.2, .int .i64 0, .bool false, .bool false, .int .i64 0, .bool false, .bool false, .int .i64 0, .int .i64 719162, .int .i64 287664800, .int .i64 1968, .int .i64 1969, .int .i64 1969, .int .i64 (-365), .int .i64 0, .bool false, undef, undef, .int .i64 1970, .int .i64 1971, .int .i64 365, .int .i64 0, .bool false, .int .i64 1969, .int .i64 1970, .int .i64 0, .int .i64 1970, .int .i64 0, .int .i64 0, .int .i64 1970, .func (.func 50) #[] #[.pointer (some ⟨S + 5 + 1, 0, none⟩)], .int .i64 x.1, .int .i64 x.2, undef, undef, undef, undef, undef, undef, undef, undef, undef, undef], defers := [] }) (fun _ _ _ _ _ _ hs _ _ => hs) ?assign ?body ?done ?stop
  case assign =>
    intro l pre x W K hI hpx hW hK
    gi_wp2
    refine hK _ _ (KeepsFrom.refl _ _) (Below.refl _ _) (fun _ _ => rfl) hI (by simp)
  case body =>
    rintro l pre x a' W ⟨rfl, ⟨⟨⟨⟨⟨h0, h1⟩, h2⟩, h3⟩, h4⟩, h5⟩, h6⟩ hpx hWs rfl
    have hx : x = (1, 31) := by simpa [mon70] using hpx
    subst hx
    have c4 : W.cell? ⟨S + 4, 0, none⟩ = some (.int .i64 1970) := (blk_cell h4 0).trans rfl
    have c5 : W.cell? ⟨S + 5, 0, none⟩ = some (.int .i64 0) := (blk_cell h5 0).trans rfl
    have c0 : W.cell? ⟨S, 0, none⟩ = some (.int .i64 0) := (blk_cell h0 0).trans rfl
    have c1 : W.cell? ⟨S + 1, 0, none⟩ = some (.int .i64 0) := (blk_cell h1 0).trans rfl
    have c2 : W.cell? ⟨S + 2, 0, none⟩ = some (.int .i64 0) := (blk_cell h2 0).trans rfl
    have c3 : W.cell? ⟨S + 3, 0, none⟩ = some (.bool false) := (blk_cell h3 0).trans rfl
    have f0 := blk_frozen h0 0
    have f1 := blk_frozen h1 0
    have f2 := blk_frozen h2 0
    have f3 := blk_frozen h3 0
    clear hpx
    have HH := Aside0.mk (And.intro h0 (And.intro h1 (And.intro h2 (And.intro h3 (And.intro h4 (And.intro h5 h6))))))
    clear h0 h1 h2 h3 h4 h5 h6
    gi_wp2
    have mixed : Tryd.prog.follows .mixedOrders = true := by kernel_rfl
    gi_region_o
    all_goals gi_wp2
    all_goals exact civ_end w W S _ hS (by omega) HH.out
  case done =>
    rintro D W hD ⟨hI, _⟩ hK
    cases hI
  case stop =>
    rintro D c pre W hD hpre ⟨rfl, ⟨⟨⟨⟨⟨h0, h1⟩, h2⟩, h3⟩, h4⟩, h5⟩, h6⟩ hK
    gi_wp2
    refine ⟨by simp, .inl ⟨_, _, rfl, run_takeDeferred hK, ?_⟩⟩
    have hp : ∀ k, k < S + 6 → (W.putObj D (.deferred none)).heap[k]? = W.heap[k]? := fun k hk => World.putObj_heap_other (by omega)
    have c0 := (blk_cell ((hp S (by omega)).trans h0) 0).trans rfl
    have c1 := (blk_cell ((hp (S + 1) (by omega)).trans h1) 0).trans rfl
    have c2 := (blk_cell ((hp (S + 2) (by omega)).trans h2) 0).trans rfl
    have c3 := (blk_cell ((hp (S + 3) (by omega)).trans h3) 0).trans rfl
    exact ⟨_, results43 _ _ S (S + 1) (S + 2) (S + 3) 1970 1 1 true rfl rfl rfl rfl c0 c1 c2 c3, rfl, h6.trans (below_put _ (by omega))⟩
end Go.Proofs.YtdafnjlmkbffeaaDoor.PD
/- date.padded: a number's digits, with noughts ahead. -/
namespace Go.Proofs.YtdafnjlmkbffeaaDoor.PD
open Go.RowKit Go.Shelf Go.Sort Go.Proofs.YtdafnjlmkbffeaaDoorW.PrintWords Go.Proofs.YtdafnjlmkbffeaaDoorW.PrintLast Go.Proofs.YtdafnjlmkbffeaaDoorW.PrintMore
attribute [local go_sem] isSome_setCell max2_int min2_int max_two min_two
set_option linter.unusedVariables false
set_option linter.unusedSimpArgs false
/-- The table of FormatInt reads as it was laid. -/
def Tab (w : World) : Prop := Lib.TabIs Tryd.prog w "internal/strconv.uint64pow10" .u64 Lib.pow10Tab
theorem Tab.below {w w' : World} (h : Tab w) (hb : Below w.heap.size w w') : Tab w' := by
  unfold Tab Lib.TabIs World.var? at *
  rw [show Tryd.prog.globalNamed "internal/strconv.uint64pow10" = some 0 by kernel_rfl] at *
  simp only [Option.bind_some, Option.bind_eq_bind] at *
  have hlt : 0 < w.heap.size := by
    rcases Nat.eq_zero_or_pos w.heap.size with h0 | h0
    · rw [Array.getElem?_eq_none (by omega)] at h
      cases h
    · exact h0
  rw [hb.block 0 hlt]
  exact h
theorem grow_below (w : World) (k : Nat) (os : Array Obj) : Below w.heap.size w (grow (w.drewN k) os) := ⟨rfl, rfl, rfl, by simp [grow, World.drewN], fun i hi => heap_grow_old _ _ hi⟩
def digB (n : Int) : ByteArray := ⟨(Lib.itoa n).toArray⟩
theorem fmt_calls (n : Int) (w : World) (h0 : -9223372036854775808 ≤ n) (h1 : n ≤ 9223372036854775807) (ht : Tab w) :
    Calls Tryd.prog 48 #[.int .i64 n, .int .i64 10] w fun e w' => e = .returned (.string (digB n)) ∧ Below w.heap.size w w' := by
  refine (Tryd.strconv_FormatInt_10 n h0 h1 w ht).mono ?_
  rintro e w' ⟨rfl, k, os, rfl⟩
  exact ⟨rfl, grow_below w k os⟩
def oB (c : Nat) : ByteArray := ⟨(Lib.repeatL [48] c).toArray⟩
theorem oB_size (c : Nat) : (oB c).size = c := by
  show (Lib.repeatL [48] c).toArray.size = c
  simp [Lib.repeatL_length]
theorem oo_calls (c : Nat) (w : World) (hc : c ≤ 1000) : Calls Tryd.prog 49 #[.string ⟨#[48]⟩, .int .i64 (c : Int)] w fun e w' => e = .returned (.string (oB c)) ∧ Below w.heap.size w w' :=
  Tryd.strings_Repeat ⟨#[48]⟩ c w (by omega) (by show 1 * c ≤ _; omega)
def padB (n : Int) (width : Nat) : ByteArray := oB (width - (digB n).size) ++ digB n
set_option maxRecDepth 100000 in
set_option maxHeartbeats 1600000 in
theorem padded_calls (n : Int) (width : Nat) (w : World) (h0 : -9223372036854775808 ≤ n) (h1 : n ≤ 9223372036854775807) (hw : width ≤ 1000) (hl : (digB n).size ≤ 1000) (ht : Tab w) :
    Calls Tryd.prog 44 #[.int .i64 n, .int .i64 (width : Int)] w fun e w' => e = .returned (.string (padB n width)) ∧ Below w.heap.size w w' := by
  have HF := Aside0.mk (fmt_calls n w h0 h1 ht)
  clear ht
  unfold padB
  obtain ⟨s, hs⟩ : ∃ s, digB n = s := ⟨_, rfl⟩
  rw [hs] at HF hl ⊢
  clear hs
  have hwr : IntKind.i64.wrap ((width : Int) - (s.size : Int)) = (width : Int) - (s.size : Int) := by rw [i64_w]; simp only [wrap64]; omega
  by_cases hc : s.size < width
  · have HR : Aside0 (∀ W, Calls Tryd.prog 49 #[.string ⟨#[48]⟩, .int .i64 ((width : Int) - (s.size : Int))] W fun e w' => e = .returned (.string (oB (width - s.size))) ∧ Below W.heap.size W w') := ⟨fun W => by
      rw [show ((width : Int) - (s.size : Int)) = ((width - s.size : Nat) : Int) by omega]
      exact oo_calls _ W (by omega)⟩
    have hsz := oB_size (width - s.size)
    obtain ⟨z, hz⟩ : ∃ z, oB (width - s.size) = z := ⟨_, rfl⟩
    rw [hz] at HR hsz ⊢
    have hlt := eq_false (show ¬ 9223372036854775807 < z.size + s.size by omega)
    clear hsz
    clear hz
    go_enter Tryd.func44, Tryd.ntmps44
    go_wp2_with (first | (go_at_call 48; refine HF.out.mono ?_; rintro e w2 ⟨rfl, hb2⟩; have HB2 := Aside0.mk hb2; clear hb2) | (go_at_call 49; refine (HR.out _).mono ?_; rintro e w3 ⟨rfl, hb3⟩; have HB3 := Aside0.mk (HB2.out.trans (hb3.mono HB2.out.size)); clear hb3))
    go_ret
    exact ⟨rfl, HB3.out⟩
  · have HR : Aside0 (∀ W, Calls Tryd.prog 49 #[.string ⟨#[48]⟩, .int .i64 0] W fun e w' => e = .returned (.string (oB (width - s.size))) ∧ Below W.heap.size W w') := ⟨fun W => by
      rw [show width - s.size = 0 by omega]
      exact oo_calls 0 W (by omega)⟩
    have hsz := oB_size (width - s.size)
    obtain ⟨z, hz⟩ : ∃ z, oB (width - s.size) = z := ⟨_, rfl⟩
    rw [hz] at HR hsz ⊢
    have hlt := eq_false (show ¬ 9223372036854775807 < z.size + s.size by omega)
    clear hsz
    clear hz
    go_enter Tryd.func44, Tryd.ntmps44
    go_wp2_with (first | (go_at_call 48; refine HF.out.mono ?_; rintro e w2 ⟨rfl, hb2⟩; have HB2 := Aside0.mk hb2; clear hb2) | (go_at_call 49; refine (HR.out _).mono ?_; rintro e w3 ⟨rfl, hb3⟩; have HB3 := Aside0.mk (HB2.out.trans (hb3.mono HB2.out.size)); clear hb3))
    go_ret
    exact ⟨rfl, HB3.out⟩
end Go.Proofs.YtdafnjlmkbffeaaDoor.PD
/- date.Day at the day 0, date.clock in the first seconds. -/
namespace Go.Proofs.YtdafnjlmkbffeaaDoor.PD
open Go.RowKit Go.Shelf Go.Proofs.YtdafnjlmkbffeaaDoorW.PrintWords Go.Proofs.YtdafnjlmkbffeaaDoorW.PrintLast Go.Proofs.YtdafnjlmkbffeaaDoorW.PrintMore
attribute [local go_sem] isSome_setCell max2_int min2_int max_two min_two
set_option linter.unusedVariables false
set_option linter.unusedSimpArgs false
theorem sz1970 : (padB 1970 4).size = 4 := by decide +kernel
theorem sz1 : (padB 1 2).size = 2 := by decide +kernel
theorem pad1970 (w : World) (ht : Tab w) : Calls Tryd.prog 44 #[.int .i64 1970, .int .i64 4] w fun e w' => e = .returned (.string (padB 1970 4)) ∧ Below w.heap.size w w' :=
  padded_calls 1970 4 w (by omega) (by omega) (by omega) (by decide +kernel) ht
theorem pad1 (w : World) (ht : Tab w) : Calls Tryd.prog 44 #[.int .i64 1, .int .i64 2] w fun e w' => e = .returned (.string (padB 1 2)) ∧ Below w.heap.size w w' :=
  padded_calls 1 2 w (by omega) (by omega) (by omega) (by decide +kernel) ht
set_option maxRecDepth 100000 in
set_option maxHeartbeats 1600000 in
theorem day0 (w : World) (ht : Tab w) : Calls Tryd.prog 38 #[.int .i64 0] w fun e w' => (∃ s : ByteArray, e = .returned (.string s) ∧ s.size ≤ 1000) ∧ Below w.heap.size w w' := by
  have HT := Aside0.mk ht
  clear ht
  obtain ⟨a, ha⟩ : ∃ a, padB 1970 4 = a := ⟨_, rfl⟩
  obtain ⟨b, hb⟩ : ∃ b, padB 1 2 = b := ⟨_, rfl⟩
  have hsa : a.size = 4 := by rw [← ha]; exact sz1970
  have hsb : b.size = 2 := by rw [← hb]; exact sz1
  have HA := Aside0.mk (fun W h => (ha ▸ pad1970 W h : Calls Tryd.prog 44 #[.int .i64 1970, .int .i64 4] W fun e w' => e = .returned (.string a) ∧ Below W.heap.size W w'))
  have HBB := Aside0.mk (fun W h => (hb ▸ pad1 W h : Calls Tryd.prog 44 #[.int .i64 1, .int .i64 2] W fun e w' => e = .returned (.string b) ∧ Below W.heap.size W w'))
  have l1 := eq_false (show ¬ 9223372036854775807 < a.size + b.size by omega)
  have l2 := eq_false (show ¬ 9223372036854775807 < (a ++ b).size + b.size by rw [ByteArray.size_append]; omega)
  have l3 := eq_false (show ¬ 9223372036854775807 < a.size + b.size + b.size by omega)
  clear ha hb
  go_enter Tryd.func38, Tryd.ntmps38
  go_wp2_with (first
    | (go_at_call 43; refine (civil0 w).mono ?_; rintro e w1 ⟨rfl, hb1⟩; have HB1 := Aside0.mk hb1; have HT1 := Aside0.mk (HT.out.below hb1); clear hb1)
    | (go_at_call 44; with_reducible refine (HA.out w1 HT1.out).mono ?_; rintro e w2 ⟨rfl, hb2⟩; have HB2 := Aside0.mk (HB1.out.trans (hb2.mono HB1.out.size)); have HT2 := Aside0.mk (HT1.out.below hb2); clear hb2)
    | (go_at_call 44; with_reducible refine (HBB.out w2 HT2.out).mono ?_; rintro e w3 ⟨rfl, hb3⟩; have HB3 := Aside0.mk (HB2.out.trans (hb3.mono HB2.out.size)); have HT3 := Aside0.mk (HT2.out.below hb3); clear hb3)
    | (go_at_call 44; with_reducible refine (HBB.out w3 HT3.out).mono ?_; rintro e w4 ⟨rfl, hb4⟩; have HB4 := Aside0.mk (HB3.out.trans (hb4.mono HB3.out.size)); clear hb4))
  go_ret
  exact ⟨⟨_, rfl, by simp only [ByteArray.size_append]; omega⟩, HB4.out⟩
end Go.Proofs.YtdafnjlmkbffeaaDoor.PD
-- written by a program of this work (mk.sh, over the kit's print; stubs are proved by hand)
namespace Go.Proofs.YtdafnjlmkbffeaaDoor.PD
open Go.RowKit Go.Proofs.YtdafnjlmkbffeaaDoorW.PrintWords Go.Proofs.YtdafnjlmkbffeaaDoorW.PrintLast Go.Proofs.YtdafnjlmkbffeaaDoorW.PrintMore
attribute [local go_sem] isSome_setCell max2_int min2_int max_two min_two max_three min_three max_four min_four   -- for this text's walks alone
set_option linter.unusedVariables false
set_option linter.unusedSimpArgs false

/-! ### date_truth: function 42 -/
def date_truth.f (a0 : Bool) : Option (Int) := if a0 = true then (some 1) else (some 0)
set_option maxHeartbeats 8000000 in
set_option maxRecDepth 100000 in
theorem date_truth.calls (a0 : Bool) (r : Int) (w : World) (h : date_truth.f a0 = some r) :
    Calls Tryd.prog 42 #[.bool a0] w fun e w' => e = .returned (.int .i64 r) ∧ Drawn0 w w' := by
  have H : (if a0 = true then (some 1) else (some 0)) = some r := h
  clear h
  by_cases c2 : a0 = true
  · subst c2
    have H1 : (some 1) = some r := by rw [if_pos rfl] at H; exact H
    clear H
    have H := H1
    clear H1
    obtain rfl := Option.some.inj H
    go_enter Tryd.func42, Tryd.ntmps42
    go_wp2
    go_ret
    exact ⟨by first | rfl | (simp; done) | (simp [*]; done), by repeat (first | exact Drawn0.refl _ | apply Drawn0.step)⟩
  · replace c2 := Bool.eq_false_iff.mpr c2
    subst c2
    have H1 : (some 0) = some r := by rw [if_neg (show ¬ (false = true) by decide)] at H; exact H
    clear H
    have H := H1
    clear H1
    obtain rfl := Option.some.inj H
    go_enter Tryd.func42, Tryd.ntmps42
    go_wp2
    go_ret
    exact ⟨by first | rfl | (simp; done) | (simp [*]; done), by repeat (first | exact Drawn0.refl _ | apply Drawn0.step)⟩

end Go.Proofs.YtdafnjlmkbffeaaDoor.PD
-- written by a program of this work (mk.sh, over the kit's print; stubs are proved by hand)
namespace Go.Proofs.YtdafnjlmkbffeaaDoor.PD
open Go.RowKit Go.Proofs.YtdafnjlmkbffeaaDoorW.PrintWords Go.Proofs.YtdafnjlmkbffeaaDoorW.PrintLast Go.Proofs.YtdafnjlmkbffeaaDoorW.PrintMore
attribute [local go_sem] isSome_setCell max2_int min2_int max_two min_two max_three min_three max_four min_four   -- for this text's walks alone
set_option linter.unusedVariables false
set_option linter.unusedSimpArgs false

/-! ### date_Parts: function 37 -/
def date_Parts.f (a0 : Int) : Option (Int × Int) := (date_truth.f (decide ((Int.tmod a0 86400) < 0))).bind fun t157 => (some (wrap64 ((wrap64 (Int.tdiv a0 86400)) - t157), Int.tmod (wrap64 ((Int.tmod a0 86400) + 86400)) 86400))
set_option maxHeartbeats 8000000 in
set_option maxRecDepth 100000 in
theorem date_Parts.calls (a0 : Int) (r1 : Int) (r2 : Int) (w : World) (h : date_Parts.f a0 = some (r1, r2)) :
    Calls Tryd.prog 37 #[.int .i64 a0] w fun e w' => e = .returned (.tuple #[.int .i64 r1, .int .i64 r2]) ∧ Drawn0 w w' := by
  have H : ((date_truth.f (decide ((Int.tmod a0 86400) < 0))).bind fun t157 => (some (wrap64 ((wrap64 (Int.tdiv a0 86400)) - t157), Int.tmod (wrap64 ((Int.tmod a0 86400) + 86400)) 86400))) = some (r1, r2) := h
  clear h
  replace H := Option.bind_eq_some_iff.mp H
  obtain ⟨t157, A20, H⟩ := H
  replace H : (some (wrap64 ((wrap64 (Int.tdiv a0 86400)) - t157), Int.tmod (wrap64 ((Int.tmod a0 86400) + 86400)) 86400)) = some (r1, r2) := H
  have A2 := Aside0.mk A20
  clear A20
  simp only [Option.some.injEq, Prod.mk.injEq] at H
  obtain ⟨rfl, rfl⟩ := H
  go_enter Tryd.func37, Tryd.ntmps37
  go_wp2_with (first | ((with_reducible refine gate_callee (f := 42) rfl ?_); refine goesL_ (some 14) rfl rfl Tryd.func42 (by kernel_rfl) rfl #[.bool (decide ((Int.tmod a0 86400) < 0))] rfl (by (try simp only [List.map_toArray, List.map_cons, List.map_nil]); first | done | rfl | (simp only [List.length_drop, List.length_take]; rfl)) ?_; (with_reducible refine (date_truth.calls (decide ((Int.tmod a0 86400) < 0)) t157 _ A2.out).mono ?_); rintro e w' ⟨rfl, ⟨nd, rfl⟩⟩; refine ⟨_, rfl, ?_⟩))
  go_ret2
  exact ⟨by first | rfl | (simp; done) | (simp [*]; done), by repeat (first | exact Drawn0.refl _ | apply Drawn0.step)⟩

end Go.Proofs.YtdafnjlmkbffeaaDoor.PD
-- written by a program of this work (mk.sh, over the kit's print; stubs are proved by hand)
namespace Go.Proofs.YtdafnjlmkbffeaaDoor.PD
open Go.RowKit Go.Proofs.YtdafnjlmkbffeaaDoorW.PrintWords Go.Proofs.YtdafnjlmkbffeaaDoorW.PrintLast Go.Proofs.YtdafnjlmkbffeaaDoorW.PrintMore
attribute [local go_sem] isSome_setCell max2_int min2_int max_two min_two max_three min_three max_four min_four   -- for this text's walks alone
set_option linter.unusedVariables false
set_option linter.unusedSimpArgs false

/-! ### date_In: function 39 -/
def date_In.f (a0 : Int) : Option (Bool) := if a0 ≥ (-62135596800) then (some (decide (a0 ≤ 253402300799))) else (some false)
set_option maxHeartbeats 8000000 in
set_option maxRecDepth 100000 in
theorem date_In.calls (a0 : Int) (r : Bool) (w : World) (h : date_In.f a0 = some r) :
    Calls Tryd.prog 39 #[.int .i64 a0] w fun e w' => e = .returned (.bool r) ∧ Drawn0 w w' := by
  have H : (if a0 ≥ (-62135596800) then (some (decide (a0 ≤ 253402300799))) else (some false)) = some r := h
  clear h
  by_cases c2 : a0 ≥ (-62135596800)
  · rw [if_pos c2] at H
    have c2b0 : decide ((-62135596800) ≤ a0) = true := decide_eq_true c2
    clear c2
    obtain rfl := Option.some.inj H
    go_enter Tryd.func39, Tryd.ntmps39
    go_wp2
    go_ret
    exact ⟨by first | rfl | (simp; done) | (simp [*]; done), by repeat (first | exact Drawn0.refl _ | apply Drawn0.step)⟩
  · rw [if_neg c2] at H
    have c2b0 : decide ((-62135596800) ≤ a0) = false := decide_eq_false c2
    clear c2
    obtain rfl := Option.some.inj H
    go_enter Tryd.func39, Tryd.ntmps39
    go_wp2
    go_ret
    exact ⟨by first | rfl | (simp; done) | (simp [*]; done), by repeat (first | exact Drawn0.refl _ | apply Drawn0.step)⟩

end Go.Proofs.YtdafnjlmkbffeaaDoor.PD
