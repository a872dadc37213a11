/- Part 3 of the texts that the claim leans on: the functions' walks, and what they compute. -/
import Derived.Test.YtmajmolbjiahlaaGreatDoorZoneKnows2
import Derived.Lib.ConvBytes
import Derived.Lib.Strings
import Derived.Laws.IdiomStrings
namespace Go.Proofs.YtmajmolbjiahlaaGreatDoor.PD
open Go.RowKit Go.Proofs.YtmajmolbjiahlaaGreatDoorW.PrintWords Go.Proofs.YtmajmolbjiahlaaGreatDoorW.PrintLast Go.Proofs.YtmajmolbjiahlaaGreatDoorW.PrintMore
attribute [local go_sem] isSome_setCell max2_int min2_int max_two min_two max_three min_three max_four min_four
set_option linter.unusedVariables false
set_option linter.unusedSimpArgs false
def almanacref10_Length.j0 : Nat → Int → Int → Bool → Option (Int)
  | 0, _, _, _ => none
  | k + 1, x0, x1, x18 => if x18 = true then (some 0) else (if x1 = 2 then ((almanacref10_leap.f x0).bind fun t137 => (if t137 = true then (some 29) else (some 28))) else (if x1 = 4 then (some 30) else (if x1 = 6 then (some 30) else (if x1 = 9 then (some 30) else (if x1 = 11 then (some 30) else (some 31))))))
def almanacref10_Length.f (k : Nat) (a0 : Int) (a1 : Int) : Option (Int) := if a0 < 1 then (almanacref10_Length.j0 k a0 a1 true) else (if a0 > 9999 then (almanacref10_Length.j0 k a0 a1 true) else (if a1 < 1 then (almanacref10_Length.j0 k a0 a1 true) else (almanacref10_Length.j0 k a0 a1 (decide (a1 > 12)))))
theorem almanacref10_Length.mono_l : ∀ k, (∀ y0 y1 y2, LeO (almanacref10_Length.j0 k y0 y1 y2) (almanacref10_Length.j0 (k + 1) y0 y1 y2))
  | 0 => fun _ _ _ r h => by simp [almanacref10_Length.j0] at h
  | k + 1 => by
    have ih0 := almanacref10_Length.mono_l k
    · intro y0 y1 y2
      unfold almanacref10_Length.j0
      repeat' first
      | (with_reducible exact ih0 _ _ _)
      | (with_reducible exact LeO.refl _)
      | (with_reducible exact LeO.none _)
      | (with_reducible refine LeO.ite ?_ ?_)
      | (with_reducible refine LeO.bind ?_ (fun _ => ?_))
      | exact ih0 _ _ _
      | exact LeO.none _
      | refine LeO.ite ?_ ?_
      | refine LeO.bind ?_ (fun _ => ?_)
theorem almanacref10_Length.mono : ∀ a0 a1 k, LeO (almanacref10_Length.f k a0 a1) (almanacref10_Length.f (k + 1) a0 a1) := by
  intro a0 a1 k
  have ih0 := almanacref10_Length.mono_l k
  unfold almanacref10_Length.f
  repeat' first
      | (with_reducible exact ih0 _ _ _)
      | (with_reducible exact LeO.refl _)
      | (with_reducible exact LeO.none _)
      | (with_reducible refine LeO.ite ?_ ?_)
      | (with_reducible refine LeO.bind ?_ (fun _ => ?_))
      | exact ih0 _ _ _
      | exact LeO.none _
      | refine LeO.ite ?_ ?_
      | refine LeO.bind ?_ (fun _ => ?_)
set_option maxHeartbeats 8000000 in
set_option maxRecDepth 100000 in
theorem almanacref10_Length.calls (k : Nat) (a0 : Int) (a1 : Int) (r : Int) (w : World) (h : almanacref10_Length.f k a0 a1 = some r) :
    Calls Tryz.prog 66 #[.int .i64 a0, .int .i64 a1] w fun e w' => e = .returned (.int .i64 r) ∧ Drawn0 w w' := by
  have H : (if a0 < 1 then (almanacref10_Length.j0 k a0 a1 true) else (if a0 > 9999 then (almanacref10_Length.j0 k a0 a1 true) else (if a1 < 1 then (almanacref10_Length.j0 k a0 a1 true) else (almanacref10_Length.j0 k a0 a1 (decide (a1 > 12)))))) = some r := h
  clear h
  have HC3 := Aside0.mk H
  clear H
  go_enter Tryz.func66, Tryz.ntmps66
  go_upto_region 1 with (fail)
  go_cut [18] (fun v18 wc => ∃ (kq : Nat) (x18_2 : Bool), v18 = .bool x18_2 ∧ Aside0 (almanacref10_Length.j0 kq a0 a1 x18_2 = some r) ∧ Aside0 (kq ≤ k) ∧ Drawn0 w wc)
  case first =>
    have H := HC3.out
    clear HC3
    by_cases c4 : a0 < 1
    · rw [if_pos c4] at H
      have c4b0 : decide (a0 < 1) = true := decide_eq_true c4
      clear c4
      (first | rw [c4b0] | (simp only [i64_w, i32_w]; rw [c4b0]) | skip)
      have H' := Aside0.mk H
      clear H
      go_wp2
      go_meet
      case rel => exact ⟨_, (true), (by first | rfl | (simp; done) | (simp [*]; done)), H', ⟨by first | omega | exact Nat.le_refl _⟩, by repeat (first | exact Drawn0.refl _ | apply Drawn0.step)⟩
    · rw [if_neg c4] at H
      have c4b0 : decide (a0 < 1) = false := decide_eq_false c4
      clear c4
      (first | rw [c4b0] | (simp only [i64_w, i32_w]; rw [c4b0]) | skip)
      by_cases c5 : a0 > 9999
      · rw [if_pos c5] at H
        have c5b0 : decide (9999 < a0) = true := decide_eq_true c5
        clear c5
        have H' := Aside0.mk H
        clear H
        go_wp2
        go_meet
        case rel => exact ⟨_, (true), (by first | rfl | (simp; done) | (simp [*]; done)), H', ⟨by first | omega | exact Nat.le_refl _⟩, by repeat (first | exact Drawn0.refl _ | apply Drawn0.step)⟩
      · rw [if_neg c5] at H
        have c5b0 : decide (9999 < a0) = false := decide_eq_false c5
        clear c5
        by_cases c6 : a1 < 1
        · rw [if_pos c6] at H
          have c6b0 : decide (a1 < 1) = true := decide_eq_true c6
          clear c6
          have H' := Aside0.mk H
          clear H
          go_wp2
          go_meet
          case rel => exact ⟨_, (true), (by first | rfl | (simp; done) | (simp [*]; done)), H', ⟨by first | omega | exact Nat.le_refl _⟩, by repeat (first | exact Drawn0.refl _ | apply Drawn0.step)⟩
        · rw [if_neg c6] at H
          have c6b0 : decide (a1 < 1) = false := decide_eq_false c6
          clear c6
          have H' := Aside0.mk H
          clear H
          go_wp2
          go_meet
          case rel => exact ⟨_, (decide (a1 > 12)), (by first | rfl | (simp; done) | (simp [*]; done)), H', ⟨by first | omega | exact Nat.le_refl _⟩, by repeat (first | exact Drawn0.refl _ | apply Drawn0.step)⟩
  case rest =>
    clear HC3
    try clear p2
    try clear c4
    try clear c4b0
    try clear c5
    try clear c5b0
    try clear c6
    try clear c6b0
    obtain ⟨kq, x18_2, rfl, HA, HJ2, ⟨mc2, rfl⟩⟩ := hcut
    cases kq with
    | zero => exact absurd HA.out (by simp [almanacref10_Length.j0])
    | succ kj2 =>
      have H := HA.out
      clear HA
      simp only [almanacref10_Length.j0] at H
      by_cases c7 : x18_2 = true
      · subst c7
        have H1 : (some 0) = some r := by rw [if_pos rfl] at H; exact H
        clear H
        have H := H1
        clear H1
        obtain rfl := Option.some.inj H
        go_wp2
        go_ret
        exact ⟨by first | rfl | (simp; done) | (simp [*]; done), by repeat (first | exact Drawn0.refl _ | apply Drawn0.step)⟩
      · replace c7 := Bool.eq_false_iff.mpr c7
        subst c7
        have H1 : (if a1 = 2 then ((almanacref10_leap.f a0).bind fun t137 => (if t137 = true then (some 29) else (some 28))) else (if a1 = 4 then (some 30) else (if a1 = 6 then (some 30) else (if a1 = 9 then (some 30) else (if a1 = 11 then (some 30) else (some 31)))))) = some r := by rw [if_neg (show ¬ (false = true) by decide)] at H; exact H
        clear H
        have H := H1
        clear H1
        by_cases c8 : a1 = 2
        · rw [if_pos c8] at H
          have c8b0 : (a1 == 2) = true := beq_iff_eq.mpr c8
          have c8b1 : (a1 != 2) = false := bne_eq_false_iff_eq.mpr c8
          clear c8
          replace H := Option.bind_eq_some_iff.mp H
          obtain ⟨t137, A90, H⟩ := H
          replace H : (if t137 = true then (some 29) else (some 28)) = some r := H
          have A9 := Aside0.mk A90
          clear A90
          by_cases c10 : t137 = true
          · subst c10
            have H1 : (some 29) = some r := by rw [if_pos rfl] at H; exact H
            clear H
            have H := H1
            clear H1
            obtain rfl := Option.some.inj H
            go_wp2_with (first | ((with_reducible refine gate_callee (f := 88) rfl ?_); refine goesL_ (some 23) rfl rfl Tryz.func88 (by kernel_rfl) rfl #[.int .i64 a0] rfl (by (try simp only [List.map_toArray, List.map_cons, List.map_nil]); first | done | rfl | (simp only [List.length_drop, List.length_take]; rfl)) ?_; (with_reducible refine (almanacref10_leap.calls a0 true _ A9.out).mono ?_); rintro e w' ⟨rfl, ⟨nd, rfl⟩⟩; refine ⟨_, rfl, ?_⟩))
            go_ret
            exact ⟨by first | rfl | (simp; done) | (simp [*]; done), by repeat (first | exact Drawn0.refl _ | apply Drawn0.step)⟩
          · replace c10 := Bool.eq_false_iff.mpr c10
            subst c10
            have H1 : (some 28) = some r := by rw [if_neg (show ¬ (false = true) by decide)] at H; exact H
            clear H
            have H := H1
            clear H1
            obtain rfl := Option.some.inj H
            go_wp2_with (first | ((with_reducible refine gate_callee (f := 88) rfl ?_); refine goesL_ (some 23) rfl rfl Tryz.func88 (by kernel_rfl) rfl #[.int .i64 a0] rfl (by (try simp only [List.map_toArray, List.map_cons, List.map_nil]); first | done | rfl | (simp only [List.length_drop, List.length_take]; rfl)) ?_; (with_reducible refine (almanacref10_leap.calls a0 false _ A9.out).mono ?_); rintro e w' ⟨rfl, ⟨nd, rfl⟩⟩; refine ⟨_, rfl, ?_⟩))
            go_ret
            exact ⟨by first | rfl | (simp; done) | (simp [*]; done), by repeat (first | exact Drawn0.refl _ | apply Drawn0.step)⟩
        · rw [if_neg c8] at H
          have c8b0 : (a1 == 2) = false := beq_eq_false_iff_ne.mpr c8
          have c8b1 : (a1 != 2) = true := bne_iff_ne.mpr c8
          by_cases c11 : a1 = 4
          · rw [if_pos c11] at H
            have c11b0 : (a1 == 4) = true := beq_iff_eq.mpr c11
            have c11b1 : (a1 != 4) = false := bne_eq_false_iff_eq.mpr c11
            clear c11
            obtain rfl := Option.some.inj H
            go_wp2
            go_ret
            exact ⟨by first | rfl | (simp; done) | (simp [*]; done), by repeat (first | exact Drawn0.refl _ | apply Drawn0.step)⟩
          · rw [if_neg c11] at H
            have c11b0 : (a1 == 4) = false := beq_eq_false_iff_ne.mpr c11
            have c11b1 : (a1 != 4) = true := bne_iff_ne.mpr c11
            by_cases c12 : a1 = 6
            · rw [if_pos c12] at H
              have c12b0 : (a1 == 6) = true := beq_iff_eq.mpr c12
              have c12b1 : (a1 != 6) = false := bne_eq_false_iff_eq.mpr c12
              clear c12
              obtain rfl := Option.some.inj H
              go_wp2
              go_ret
              exact ⟨by first | rfl | (simp; done) | (simp [*]; done), by repeat (first | exact Drawn0.refl _ | apply Drawn0.step)⟩
            · rw [if_neg c12] at H
              have c12b0 : (a1 == 6) = false := beq_eq_false_iff_ne.mpr c12
              have c12b1 : (a1 != 6) = true := bne_iff_ne.mpr c12
              by_cases c13 : a1 = 9
              · rw [if_pos c13] at H
                have c13b0 : (a1 == 9) = true := beq_iff_eq.mpr c13
                have c13b1 : (a1 != 9) = false := bne_eq_false_iff_eq.mpr c13
                clear c13
                obtain rfl := Option.some.inj H
                go_wp2
                go_ret
                exact ⟨by first | rfl | (simp; done) | (simp [*]; done), by repeat (first | exact Drawn0.refl _ | apply Drawn0.step)⟩
              · rw [if_neg c13] at H
                have c13b0 : (a1 == 9) = false := beq_eq_false_iff_ne.mpr c13
                have c13b1 : (a1 != 9) = true := bne_iff_ne.mpr c13
                by_cases c14 : a1 = 11
                · rw [if_pos c14] at H
                  have c14b0 : (a1 == 11) = true := beq_iff_eq.mpr c14
                  have c14b1 : (a1 != 11) = false := bne_eq_false_iff_eq.mpr c14
                  clear c14
                  obtain rfl := Option.some.inj H
                  go_wp2
                  go_ret
                  exact ⟨by first | rfl | (simp; done) | (simp [*]; done), by repeat (first | exact Drawn0.refl _ | apply Drawn0.step)⟩
                · rw [if_neg c14] at H
                  have c14b0 : (a1 == 11) = false := beq_eq_false_iff_ne.mpr c14
                  have c14b1 : (a1 != 11) = true := bne_iff_ne.mpr c14
                  obtain rfl := Option.some.inj H
                  go_wp2
                  go_ret
                  exact ⟨by first | rfl | (simp; done) | (simp [*]; done), by repeat (first | exact Drawn0.refl _ | apply Drawn0.step)⟩
end Go.Proofs.YtmajmolbjiahlaaGreatDoor.PD
namespace Go.Proofs.YtmajmolbjiahlaaGreatDoor.PD
open Go.RowKit Go.Proofs.YtmajmolbjiahlaaGreatDoorW.PrintWords Go.Proofs.YtmajmolbjiahlaaGreatDoorW.PrintLast Go.Proofs.YtmajmolbjiahlaaGreatDoorW.PrintMore
attribute [local go_sem] isSome_setCell max2_int min2_int max_two min_two max_three min_three max_four min_four
set_option linter.unusedVariables false
set_option linter.unusedSimpArgs false
mutual
def almanacref10_Days.j0 : Nat → Int → Int → Int → Bool → Option (Int × Bool)
  | 0, _, _, _, _ => none
  | k + 1, x0, x1, x2, x18 => if x18 = true then (some (0, false)) else ((almanacref10_ahead.f x0).bind fun t144 => (almanacref10_Days.l0 k x0 x1 x2 t144 1))
def almanacref10_Days.l0 : Nat → Int → Int → Int → Int → Int → Option (Int × Bool)
  | 0, _, _, _, _, _ => none
  | k + 1, x0, x1, x2, x8, x9 => if x9 < x1 then ((almanacref10_Length.f k x0 x9).bind fun t145 => (almanacref10_Days.l0 k x0 x1 x2 (wrap64 (x8 + t145)) (wrap64 (x9 + 1)))) else (some (wrap64 ((wrap64 ((-719162) + x8)) + (wrap64 (x2 - 1))), true))
end
def almanacref10_Days.f (k : Nat) (a0 : Int) (a1 : Int) (a2 : Int) : Option (Int × Bool) := if a2 < 1 then (almanacref10_Days.j0 k a0 a1 a2 true) else ((almanacref10_Length.f k a0 a1).bind fun t143 => (almanacref10_Days.j0 k a0 a1 a2 (decide (a2 > t143))))
theorem almanacref10_Days.mono_l : ∀ k, (∀ y0 y1 y2 y3, LeO (almanacref10_Days.j0 k y0 y1 y2 y3) (almanacref10_Days.j0 (k + 1) y0 y1 y2 y3)) ∧ (∀ y0 y1 y2 y3 y4, LeO (almanacref10_Days.l0 k y0 y1 y2 y3 y4) (almanacref10_Days.l0 (k + 1) y0 y1 y2 y3 y4))
  | 0 => ⟨fun _ _ _ _ r h => by simp [almanacref10_Days.j0] at h, fun _ _ _ _ _ r h => by simp [almanacref10_Days.l0] at h⟩
  | k + 1 => by
    obtain ⟨ih0, ih1⟩ := almanacref10_Days.mono_l k
    refine ⟨?_, ?_⟩
    · intro y0 y1 y2 y3
      unfold almanacref10_Days.j0
      repeat' first
      | (with_reducible exact ih0 _ _ _ _)
      | (with_reducible exact ih1 _ _ _ _ _)
      | (with_reducible exact almanacref10_Length.mono _ _ _)
      | (with_reducible exact LeO.refl _)
      | (with_reducible exact LeO.none _)
      | (with_reducible refine LeO.ite ?_ ?_)
      | (with_reducible refine LeO.bind ?_ (fun _ => ?_))
      | exact ih0 _ _ _ _
      | exact ih1 _ _ _ _ _
      | exact almanacref10_Length.mono _ _ _
      | exact LeO.none _
      | refine LeO.ite ?_ ?_
      | refine LeO.bind ?_ (fun _ => ?_)
    · intro y0 y1 y2 y3 y4
      unfold almanacref10_Days.l0
      repeat' first
      | (with_reducible exact ih0 _ _ _ _)
      | (with_reducible exact ih1 _ _ _ _ _)
      | (with_reducible exact almanacref10_Length.mono _ _ _)
      | (with_reducible exact LeO.refl _)
      | (with_reducible exact LeO.none _)
      | (with_reducible refine LeO.ite ?_ ?_)
      | (with_reducible refine LeO.bind ?_ (fun _ => ?_))
      | exact ih0 _ _ _ _
      | exact ih1 _ _ _ _ _
      | exact almanacref10_Length.mono _ _ _
      | exact LeO.none _
      | refine LeO.ite ?_ ?_
      | refine LeO.bind ?_ (fun _ => ?_)
theorem almanacref10_Days.mono : ∀ a0 a1 a2 k, LeO (almanacref10_Days.f k a0 a1 a2) (almanacref10_Days.f (k + 1) a0 a1 a2) := by
  intro a0 a1 a2 k
  obtain ⟨ih0, ih1⟩ := almanacref10_Days.mono_l k
  unfold almanacref10_Days.f
  repeat' first
      | (with_reducible exact ih0 _ _ _ _)
      | (with_reducible exact ih1 _ _ _ _ _)
      | (with_reducible exact almanacref10_Length.mono _ _ _)
      | (with_reducible exact LeO.refl _)
      | (with_reducible exact LeO.none _)
      | (with_reducible refine LeO.ite ?_ ?_)
      | (with_reducible refine LeO.bind ?_ (fun _ => ?_))
      | exact ih0 _ _ _ _
      | exact ih1 _ _ _ _ _
      | exact almanacref10_Length.mono _ _ _
      | exact LeO.none _
      | refine LeO.ite ?_ ?_
      | refine LeO.bind ?_ (fun _ => ?_)
set_option maxHeartbeats 8000000 in
set_option maxRecDepth 100000 in
theorem almanacref10_Days.calls (k : Nat) (a0 : Int) (a1 : Int) (a2 : Int) (r1 : Int) (r2 : Bool) (w : World) (h : almanacref10_Days.f k a0 a1 a2 = some (r1, r2)) :
    Calls Tryz.prog 67 #[.int .i64 a0, .int .i64 a1, .int .i64 a2] w fun e w' => e = .returned (.tuple #[.int .i64 r1, .bool r2]) ∧ Drawn0 w w' := by
  have H : (if a2 < 1 then (almanacref10_Days.j0 k a0 a1 a2 true) else ((almanacref10_Length.f k a0 a1).bind fun t143 => (almanacref10_Days.j0 k a0 a1 a2 (decide (a2 > t143))))) = some (r1, r2) := h
  clear h
  have HC4 := Aside0.mk H
  clear H
  go_enter Tryz.func67, Tryz.ntmps67
  go_upto_region 1 with (fail)
  go_cut [18] (fun v18 wc => ∃ (kq : Nat) (x18_3 : Bool), v18 = .bool x18_3 ∧ Aside0 (almanacref10_Days.j0 kq a0 a1 a2 x18_3 = some (r1, r2)) ∧ Aside0 (kq ≤ k) ∧ Drawn0 w wc)
  case first =>
    have H := HC4.out
    clear HC4
    by_cases c5 : a2 < 1
    · rw [if_pos c5] at H
      have c5b0 : decide (a2 < 1) = true := decide_eq_true c5
      clear c5
      (first | rw [c5b0] | (simp only [i64_w, i32_w]; rw [c5b0]) | skip)
      have H' := Aside0.mk H
      clear H
      go_wp2
      go_meet
      case rel => exact ⟨_, (true), (by first | rfl | (simp; done) | (simp [*]; done)), H', ⟨by first | omega | exact Nat.le_refl _⟩, by repeat (first | exact Drawn0.refl _ | apply Drawn0.step)⟩
    · rw [if_neg c5] at H
      have c5b0 : decide (a2 < 1) = false := decide_eq_false c5
      clear c5
      (first | rw [c5b0] | (simp only [i64_w, i32_w]; rw [c5b0]) | skip)
      replace H := Option.bind_eq_some_iff.mp H
      obtain ⟨t143, A60, H⟩ := H
      replace H : (almanacref10_Days.j0 k a0 a1 a2 (decide (a2 > t143))) = some (r1, r2) := H
      have A6 := Aside0.mk A60
      clear A60
      have H' := Aside0.mk H
      clear H
      go_wp2_with (first | (go_at_call 66; (with_reducible refine (almanacref10_Length.calls k a0 a1 t143 _ A6.out).mono ?_); rintro e w' ⟨rfl, ⟨nd, rfl⟩⟩))
      go_meet
      case rel => exact ⟨_, (decide (a2 > t143)), (by first | rfl | (simp; done) | (simp [*]; done)), H', ⟨by first | omega | exact Nat.le_refl _⟩, by repeat (first | exact Drawn0.refl _ | apply Drawn0.step)⟩
  case rest =>
    clear HC4
    try clear p2
    try clear c5
    try clear c5b0
    try clear c6
    obtain ⟨kq, x18_3, rfl, HA, HJ3, ⟨mc3, rfl⟩⟩ := hcut
    cases kq with
    | zero => exact absurd HA.out (by simp [almanacref10_Days.j0])
    | succ kj3 =>
      have H := HA.out
      clear HA
      simp only [almanacref10_Days.j0] at H
      by_cases c7 : x18_3 = true
      · subst c7
        have H1 : (some (0, false)) = some (r1, r2) := by rw [if_pos rfl] at H; exact H
        clear H
        have H := H1
        clear H1
        simp only [Option.some.injEq, Prod.mk.injEq] at H
        obtain ⟨rfl, rfl⟩ := H
        go_wp2
        go_ret2
        exact ⟨by first | rfl | (simp; done) | (simp [*]; done), by repeat (first | exact Drawn0.refl _ | apply Drawn0.step)⟩
      · replace c7 := Bool.eq_false_iff.mpr c7
        subst c7
        have H1 : ((almanacref10_ahead.f a0).bind fun t144 => (almanacref10_Days.l0 kj3 a0 a1 a2 t144 1)) = some (r1, r2) := by rw [if_neg (show ¬ (false = true) by decide)] at H; exact H
        clear H
        have H := H1
        clear H1
        replace H := Option.bind_eq_some_iff.mp H
        obtain ⟨t144, A80, H⟩ := H
        replace H : (almanacref10_Days.l0 kj3 a0 a1 a2 t144 1) = some (r1, r2) := H
        have A8 := Aside0.mk A80
        clear A80
        have H' := Aside0.mk H
        clear H
        go_wp2_with (first | ((with_reducible refine gate_callee (f := 65) rfl ?_); refine goesL_ (some 20) rfl rfl Tryz.func65 (by kernel_rfl) rfl #[.int .i64 a0] rfl (by (try simp only [List.map_toArray, List.map_cons, List.map_nil]); first | done | rfl | (simp only [List.length_drop, List.length_take]; rfl)) ?_; (with_reducible refine (almanacref10_ahead.calls a0 t144 _ A8.out).mono ?_); rintro e w' ⟨rfl, ⟨nd, rfl⟩⟩; refine ⟨_, rfl, ?_⟩))
        go_loopg [8, 9] kj3 (fun kq v8 v9 w' => ∃ (x8_2 : Int) (x9_2 : Int), v8 = .int .i64 x8_2 ∧ v9 = .int .i64 x9_2 ∧ Aside0 (almanacref10_Days.l0 kq a0 a1 a2 x8_2 x9_2 = some (r1, r2)) ∧ Aside0 (kq ≤ kj3) ∧ Drawn0 w w')
        case atStart => exact ⟨(t144), (1), (by first | rfl | (simp; done) | (simp [*]; done)), (by first | rfl | (simp; done) | (simp [*]; done)), H', ⟨Nat.le_refl _⟩, by repeat (first | exact Drawn0.refl _ | apply Drawn0.step)⟩
        case round =>
          clear H'
          try clear p2
          try clear c3
          try clear c5
          try clear c5b0
          try clear c6
          try clear c7
          try clear p2
          obtain ⟨x8_2, x9_2, rfl, rfl, HA, HK2, ⟨m2, rfl⟩⟩ := hrel
          cases gk with
          | zero => exact absurd HA.out (by simp [almanacref10_Days.l0])
          | succ k2 =>
            have H := HA.out
            clear HA
            simp only [almanacref10_Days.l0] at H
            by_cases c9 : x9_2 < a1
            · rw [if_pos c9] at H
              have c9b0 : decide (x9_2 < a1) = true := decide_eq_true c9
              clear c9
              replace H := Option.bind_eq_some_iff.mp H
              obtain ⟨t145, A100, H⟩ := H
              replace H : (almanacref10_Days.l0 k2 a0 a1 a2 (wrap64 (x8_2 + t145)) (wrap64 (x9_2 + 1))) = some (r1, r2) := H
              have A10 := Aside0.mk A100
              clear A100
              have H' := Aside0.mk H
              clear H
              go_wp2_with (first | ((with_reducible refine gate_callee (f := 66) rfl ?_); refine goesL_ (some 29) rfl rfl Tryz.func66 (by kernel_rfl) rfl #[.int .i64 a0, .int .i64 x9_2] rfl (by (try simp only [List.map_toArray, List.map_cons, List.map_nil]); first | done | rfl | (simp only [List.length_drop, List.length_take]; rfl)) ?_; (with_reducible refine (almanacref10_Length.calls k2 a0 x9_2 t145 _ A10.out).mono ?_); rintro e w' ⟨rfl, ⟨nd, rfl⟩⟩; refine ⟨_, rfl, ?_⟩))
              go_roundg k2
              case measure => have := HJ3.out; have := HK2.out; omega
              case rel => exact ⟨(wrap64 (x8_2 + t145)), (wrap64 (x9_2 + 1)), (by first | rfl | (simp; done) | (simp [*]; done)), (by first | rfl | (simp; done) | (simp [*]; done)), H', ⟨by have := HJ3.out; have := HK2.out; omega⟩, by repeat (first | exact Drawn0.refl _ | apply Drawn0.step)⟩
            · rw [if_neg c9] at H
              have c9b0 : decide (x9_2 < a1) = false := decide_eq_false c9
              clear c9
              simp only [Option.some.injEq, Prod.mk.injEq] at H
              obtain ⟨rfl, rfl⟩ := H
              go_wp2
              go_ret2
              exact ⟨by first | rfl | (simp; done) | (simp [*]; done), by repeat (first | exact Drawn0.refl _ | apply Drawn0.step)⟩
end Go.Proofs.YtmajmolbjiahlaaGreatDoor.PD
namespace Go.Proofs.YtmajmolbjiahlaaGreatDoor.PD
open Go.RowKit Go.Proofs.YtmajmolbjiahlaaGreatDoorW.PrintWords Go.Proofs.YtmajmolbjiahlaaGreatDoorW.PrintLast Go.Proofs.YtmajmolbjiahlaaGreatDoorW.PrintMore
set_option linter.unusedVariables false
set_option linter.unusedSimpArgs false
theorem w64n {i : Nat} (h : i < 9223372036854775807) : wrap64 ((i : Int) + 1) = ((i + 1 : Nat) : Int) := by unfold wrap64; omega
end Go.Proofs.YtmajmolbjiahlaaGreatDoor.PD
namespace Go.Proofs.YtmajmolbjiahlaaGreatDoor.PD
open Go.RowKit Go.Proofs.YtmajmolbjiahlaaGreatDoorW.PrintWords Go.Proofs.YtmajmolbjiahlaaGreatDoorW.PrintLast Go.Proofs.YtmajmolbjiahlaaGreatDoorW.PrintMore
attribute [local go_sem] isSome_setCell max2_int min2_int max_two min_two max_three min_three max_four min_four
set_option linter.unusedVariables false
set_option linter.unusedSimpArgs false
def almanacref10_In.f (a0 : Int) : Option (Bool) := if a0 ≥ (-62135596800) then (some (decide (a0 ≤ 253402300799))) else (some false)
set_option maxHeartbeats 8000000 in
set_option maxRecDepth 100000 in
theorem almanacref10_In.calls (a0 : Int) (r : Bool) (w : World) (h : almanacref10_In.f a0 = some r) :
    Calls Tryz.prog 26 #[.int .i64 a0] w fun e w' => e = .returned (.bool r) ∧ Drawn0 w w' := by
  have H : (if a0 ≥ (-62135596800) then (some (decide (a0 ≤ 253402300799))) else (some false)) = some r := h
  clear h
  by_cases c2 : a0 ≥ (-62135596800)
  · rw [if_pos c2] at H
    have c2b0 : decide ((-62135596800) ≤ a0) = true := decide_eq_true c2
    clear c2
    obtain rfl := Option.some.inj H
    go_enter Tryz.func26, Tryz.ntmps26
    go_wp2
    go_ret
    exact ⟨by first | rfl | (simp; done) | (simp [*]; done), by repeat (first | exact Drawn0.refl _ | apply Drawn0.step)⟩
  · rw [if_neg c2] at H
    have c2b0 : decide ((-62135596800) ≤ a0) = false := decide_eq_false c2
    clear c2
    obtain rfl := Option.some.inj H
    go_enter Tryz.func26, Tryz.ntmps26
    go_wp2
    go_ret
    exact ⟨by first | rfl | (simp; done) | (simp [*]; done), by repeat (first | exact Drawn0.refl _ | apply Drawn0.step)⟩
end Go.Proofs.YtmajmolbjiahlaaGreatDoor.PD
namespace Go.Proofs.YtmajmolbjiahlaaGreatDoor.PD
open Go.RowKit Go.Proofs.YtmajmolbjiahlaaGreatDoorW.PrintWords Go.Proofs.YtmajmolbjiahlaaGreatDoorW.PrintLast Go.Proofs.YtmajmolbjiahlaaGreatDoorW.PrintMore
attribute [local go_sem] isSome_setCell max2_int min2_int max_two min_two max_three min_three max_four min_four
set_option linter.unusedVariables false
set_option linter.unusedSimpArgs false
def almanacref16_less.f (a0 : Int) : Option (Bool) := if a0 > (-86400) then (some (decide (a0 < 86400))) else (some false)
set_option maxHeartbeats 8000000 in
set_option maxRecDepth 100000 in
theorem almanacref16_less.calls (a0 : Int) (r : Bool) (w : World) (h : almanacref16_less.f a0 = some r) :
    Calls Tryz.prog 32 #[.int .i64 a0] w fun e w' => e = .returned (.bool r) ∧ Drawn0 w w' := by
  have H : (if a0 > (-86400) then (some (decide (a0 < 86400))) else (some false)) = some r := h
  clear h
  by_cases c2 : a0 > (-86400)
  · rw [if_pos c2] at H
    have c2b0 : decide ((-86400) < a0) = true := decide_eq_true c2
    clear c2
    obtain rfl := Option.some.inj H
    go_enter Tryz.func32, Tryz.ntmps32
    go_wp2
    go_ret
    exact ⟨by first | rfl | (simp; done) | (simp [*]; done), by repeat (first | exact Drawn0.refl _ | apply Drawn0.step)⟩
  · rw [if_neg c2] at H
    have c2b0 : decide ((-86400) < a0) = false := decide_eq_false c2
    clear c2
    obtain rfl := Option.some.inj H
    go_enter Tryz.func32, Tryz.ntmps32
    go_wp2
    go_ret
    exact ⟨by first | rfl | (simp; done) | (simp [*]; done), by repeat (first | exact Drawn0.refl _ | apply Drawn0.step)⟩
end Go.Proofs.YtmajmolbjiahlaaGreatDoor.PD
namespace Go.Proofs.YtmajmolbjiahlaaGreatDoor.PD
open Go.RowKit Go.Proofs.YtmajmolbjiahlaaGreatDoorW.PrintWords Go.Proofs.YtmajmolbjiahlaaGreatDoorW.PrintLast Go.Proofs.YtmajmolbjiahlaaGreatDoorW.PrintMore
attribute [local go_sem] isSome_setCell max2_int min2_int max_two min_two max_three min_three max_four min_four
set_option linter.unusedVariables false
set_option linter.unusedSimpArgs false
def almanacref16_nth.f (a0_0 : Int) (a0_1 : Int) : Option (Bool) := if a0_0 = 0 then (some false) else (if a0_0 ≥ (-5) then (if a0_0 ≤ 5 then (if a0_1 ≥ 0 then (some (decide (a0_1 ≤ 6))) else (some false)) else (some false)) else (some false))
set_option maxHeartbeats 8000000 in
set_option maxRecDepth 100000 in
theorem almanacref16_nth.calls (a0_0 : Int) (a0_1 : Int) (r : Bool) (w : World) (h : almanacref16_nth.f a0_0 a0_1 = some r) :
    Calls Tryz.prog 33 #[.agg #[.int .i64 a0_0, .int .i64 a0_1]] w fun e w' => e = .returned (.bool r) ∧ Below w.heap.size w w' := by
  have hu30 := Tryz.underlying30
  have HB := Aside0.mk (Below.refl w.heap.size w)
  have H : (if a0_0 = 0 then (some false) else (if a0_0 ≥ (-5) then (if a0_0 ≤ 5 then (if a0_1 ≥ 0 then (some (decide (a0_1 ≤ 6))) else (some false)) else (some false)) else (some false))) = some r := h
  clear h
  by_cases c2 : a0_0 = 0
  · rw [if_pos c2] at H
    have c2b0 : (a0_0 == 0) = true := beq_iff_eq.mpr c2
    have c2b1 : (a0_0 != 0) = false := bne_eq_false_iff_eq.mpr c2
    clear c2
    obtain rfl := Option.some.inj H
    go_enter Tryz.func33, Tryz.ntmps33
    go_wp2_with (first | ((with_reducible refine gate_dst (N := 1) rfl ?_); refine box_event ?hg (N := 1) ?hd (cs := #[.int .i64 a0_0, .int .i64 a0_1]) (t := 30) ?hr ?_; (case hd => rfl); (case hg => rfl); (case hr => first | (go_simp; done) | (go_simp; rfl)); intro gb129 hg w3 hbox hb; have n0_ := Aside0.mk (below_step (by repeat (first | (with_reducible first | exact HB.out | apply below_alloc | apply pw_below_drewN | apply below_drew1) | exact HB.out)) hb); have n1_ := Aside0.mk (hbox); have n2_ := Aside0.mk ((by rw [hg]; exact (below_size (by repeat (first | (with_reducible first | exact HB.out | apply below_alloc | apply pw_below_drewN | apply below_drew1) | exact HB.out))) : w.heap.size ≤ gb129)); have n3_ := Aside0.mk ((by rw [hg]; exact (below_size (by repeat (first | (with_reducible first | exact HB.out | apply below_alloc | apply pw_below_drewN | apply below_drew1) | exact HB.out))) : w.heap.size ≤ gb129)); clear HB; have HB := n0_; have BK129 := n1_; have GW129 := n2_; have GE129 := n3_; clear n0_ n1_ n2_ n3_; clear hb hbox hg; have hcz4_0 : w3.cell? ⟨gb129, 0, none⟩ = some (.int .i64 a0_0) := (blk_cell BK129.out 0).trans rfl; have hcz4_1 : w3.cell? ⟨gb129, 1, none⟩ = some (.int .i64 a0_1) := (blk_cell BK129.out 1).trans rfl; have hfz4_0 := blk_frozen BK129.out 0; have hfz4_1 := blk_frozen BK129.out 1))
    go_ret
    exact ⟨by first | rfl | (simp [errW_none, errW_some] <;> rfl) | (simp [*, errW_none, errW_some] <;> rfl), by repeat (first | (with_reducible first | exact HB.out | apply below_alloc | apply pw_below_drewN | apply below_drew1 | refine below_set ?_ GE129.out) | exact HB.out)⟩
  · rw [if_neg c2] at H
    have c2b0 : (a0_0 == 0) = false := beq_eq_false_iff_ne.mpr c2
    have c2b1 : (a0_0 != 0) = true := bne_iff_ne.mpr c2
    by_cases c5 : a0_0 ≥ (-5)
    · rw [if_pos c5] at H
      have c5b0 : decide ((-5) ≤ a0_0) = true := decide_eq_true c5
      clear c5
      by_cases c6 : a0_0 ≤ 5
      · rw [if_pos c6] at H
        have c6b0 : decide (a0_0 ≤ 5) = true := decide_eq_true c6
        clear c6
        by_cases c7 : a0_1 ≥ 0
        · rw [if_pos c7] at H
          have c7b0 : decide (0 ≤ a0_1) = true := decide_eq_true c7
          clear c7
          obtain rfl := Option.some.inj H
          go_enter Tryz.func33, Tryz.ntmps33
          go_wp2_with (first | ((with_reducible refine gate_dst (N := 1) rfl ?_); refine box_event ?hg (N := 1) ?hd (cs := #[.int .i64 a0_0, .int .i64 a0_1]) (t := 30) ?hr ?_; (case hd => rfl); (case hg => rfl); (case hr => first | (go_simp; done) | (go_simp; rfl)); intro gb129 hg w8 hbox hb; have n0_ := Aside0.mk (below_step (by repeat (first | (with_reducible first | exact HB.out | apply below_alloc | apply pw_below_drewN | apply below_drew1) | exact HB.out)) hb); have n1_ := Aside0.mk (hbox); have n2_ := Aside0.mk ((by rw [hg]; exact (below_size (by repeat (first | (with_reducible first | exact HB.out | apply below_alloc | apply pw_below_drewN | apply below_drew1) | exact HB.out))) : w.heap.size ≤ gb129)); have n3_ := Aside0.mk ((by rw [hg]; exact (below_size (by repeat (first | (with_reducible first | exact HB.out | apply below_alloc | apply pw_below_drewN | apply below_drew1) | exact HB.out))) : w.heap.size ≤ gb129)); clear HB; have HB := n0_; have BK129 := n1_; have GW129 := n2_; have GE129 := n3_; clear n0_ n1_ n2_ n3_; clear hb hbox hg; have hcz9_0 : w8.cell? ⟨gb129, 0, none⟩ = some (.int .i64 a0_0) := (blk_cell BK129.out 0).trans rfl; have hcz9_1 : w8.cell? ⟨gb129, 1, none⟩ = some (.int .i64 a0_1) := (blk_cell BK129.out 1).trans rfl; have hfz9_0 := blk_frozen BK129.out 0; have hfz9_1 := blk_frozen BK129.out 1))
          go_ret
          exact ⟨by first | rfl | (simp [errW_none, errW_some] <;> rfl) | (simp [*, errW_none, errW_some] <;> rfl), by repeat (first | (with_reducible first | exact HB.out | apply below_alloc | apply pw_below_drewN | apply below_drew1 | refine below_set ?_ GE129.out) | exact HB.out)⟩
        · rw [if_neg c7] at H
          have c7b0 : decide (0 ≤ a0_1) = false := decide_eq_false c7
          clear c7
          obtain rfl := Option.some.inj H
          go_enter Tryz.func33, Tryz.ntmps33
          go_wp2_with (first | ((with_reducible refine gate_dst (N := 1) rfl ?_); refine box_event ?hg (N := 1) ?hd (cs := #[.int .i64 a0_0, .int .i64 a0_1]) (t := 30) ?hr ?_; (case hd => rfl); (case hg => rfl); (case hr => first | (go_simp; done) | (go_simp; rfl)); intro gb129 hg w10 hbox hb; have n0_ := Aside0.mk (below_step (by repeat (first | (with_reducible first | exact HB.out | apply below_alloc | apply pw_below_drewN | apply below_drew1) | exact HB.out)) hb); have n1_ := Aside0.mk (hbox); have n2_ := Aside0.mk ((by rw [hg]; exact (below_size (by repeat (first | (with_reducible first | exact HB.out | apply below_alloc | apply pw_below_drewN | apply below_drew1) | exact HB.out))) : w.heap.size ≤ gb129)); have n3_ := Aside0.mk ((by rw [hg]; exact (below_size (by repeat (first | (with_reducible first | exact HB.out | apply below_alloc | apply pw_below_drewN | apply below_drew1) | exact HB.out))) : w.heap.size ≤ gb129)); clear HB; have HB := n0_; have BK129 := n1_; have GW129 := n2_; have GE129 := n3_; clear n0_ n1_ n2_ n3_; clear hb hbox hg; have hcz11_0 : w10.cell? ⟨gb129, 0, none⟩ = some (.int .i64 a0_0) := (blk_cell BK129.out 0).trans rfl; have hcz11_1 : w10.cell? ⟨gb129, 1, none⟩ = some (.int .i64 a0_1) := (blk_cell BK129.out 1).trans rfl; have hfz11_0 := blk_frozen BK129.out 0; have hfz11_1 := blk_frozen BK129.out 1))
          go_ret
          exact ⟨by first | rfl | (simp [errW_none, errW_some] <;> rfl) | (simp [*, errW_none, errW_some] <;> rfl), by repeat (first | (with_reducible first | exact HB.out | apply below_alloc | apply pw_below_drewN | apply below_drew1 | refine below_set ?_ GE129.out) | exact HB.out)⟩
      · rw [if_neg c6] at H
        have c6b0 : decide (a0_0 ≤ 5) = false := decide_eq_false c6
        clear c6
        obtain rfl := Option.some.inj H
        go_enter Tryz.func33, Tryz.ntmps33
        go_wp2_with (first | ((with_reducible refine gate_dst (N := 1) rfl ?_); refine box_event ?hg (N := 1) ?hd (cs := #[.int .i64 a0_0, .int .i64 a0_1]) (t := 30) ?hr ?_; (case hd => rfl); (case hg => rfl); (case hr => first | (go_simp; done) | (go_simp; rfl)); intro gb129 hg w12 hbox hb; have n0_ := Aside0.mk (below_step (by repeat (first | (with_reducible first | exact HB.out | apply below_alloc | apply pw_below_drewN | apply below_drew1) | exact HB.out)) hb); have n1_ := Aside0.mk (hbox); have n2_ := Aside0.mk ((by rw [hg]; exact (below_size (by repeat (first | (with_reducible first | exact HB.out | apply below_alloc | apply pw_below_drewN | apply below_drew1) | exact HB.out))) : w.heap.size ≤ gb129)); have n3_ := Aside0.mk ((by rw [hg]; exact (below_size (by repeat (first | (with_reducible first | exact HB.out | apply below_alloc | apply pw_below_drewN | apply below_drew1) | exact HB.out))) : w.heap.size ≤ gb129)); clear HB; have HB := n0_; have BK129 := n1_; have GW129 := n2_; have GE129 := n3_; clear n0_ n1_ n2_ n3_; clear hb hbox hg; have hcz13_0 : w12.cell? ⟨gb129, 0, none⟩ = some (.int .i64 a0_0) := (blk_cell BK129.out 0).trans rfl; have hcz13_1 : w12.cell? ⟨gb129, 1, none⟩ = some (.int .i64 a0_1) := (blk_cell BK129.out 1).trans rfl; have hfz13_0 := blk_frozen BK129.out 0; have hfz13_1 := blk_frozen BK129.out 1))
        go_ret
        exact ⟨by first | rfl | (simp [errW_none, errW_some] <;> rfl) | (simp [*, errW_none, errW_some] <;> rfl), by repeat (first | (with_reducible first | exact HB.out | apply below_alloc | apply pw_below_drewN | apply below_drew1 | refine below_set ?_ GE129.out) | exact HB.out)⟩
    · rw [if_neg c5] at H
      have c5b0 : decide ((-5) ≤ a0_0) = false := decide_eq_false c5
      clear c5
      obtain rfl := Option.some.inj H
      go_enter Tryz.func33, Tryz.ntmps33
      go_wp2_with (first | ((with_reducible refine gate_dst (N := 1) rfl ?_); refine box_event ?hg (N := 1) ?hd (cs := #[.int .i64 a0_0, .int .i64 a0_1]) (t := 30) ?hr ?_; (case hd => rfl); (case hg => rfl); (case hr => first | (go_simp; done) | (go_simp; rfl)); intro gb129 hg w14 hbox hb; have n0_ := Aside0.mk (below_step (by repeat (first | (with_reducible first | exact HB.out | apply below_alloc | apply pw_below_drewN | apply below_drew1) | exact HB.out)) hb); have n1_ := Aside0.mk (hbox); have n2_ := Aside0.mk ((by rw [hg]; exact (below_size (by repeat (first | (with_reducible first | exact HB.out | apply below_alloc | apply pw_below_drewN | apply below_drew1) | exact HB.out))) : w.heap.size ≤ gb129)); have n3_ := Aside0.mk ((by rw [hg]; exact (below_size (by repeat (first | (with_reducible first | exact HB.out | apply below_alloc | apply pw_below_drewN | apply below_drew1) | exact HB.out))) : w.heap.size ≤ gb129)); clear HB; have HB := n0_; have BK129 := n1_; have GW129 := n2_; have GE129 := n3_; clear n0_ n1_ n2_ n3_; clear hb hbox hg; have hcz15_0 : w14.cell? ⟨gb129, 0, none⟩ = some (.int .i64 a0_0) := (blk_cell BK129.out 0).trans rfl; have hcz15_1 : w14.cell? ⟨gb129, 1, none⟩ = some (.int .i64 a0_1) := (blk_cell BK129.out 1).trans rfl; have hfz15_0 := blk_frozen BK129.out 0; have hfz15_1 := blk_frozen BK129.out 1))
      go_ret
      exact ⟨by first | rfl | (simp [errW_none, errW_some] <;> rfl) | (simp [*, errW_none, errW_some] <;> rfl), by repeat (first | (with_reducible first | exact HB.out | apply below_alloc | apply pw_below_drewN | apply below_drew1 | refine below_set ?_ GE129.out) | exact HB.out)⟩
end Go.Proofs.YtmajmolbjiahlaaGreatDoor.PD
namespace Go.Proofs.YtmajmolbjiahlaaGreatDoor.PD
open Go.RowKit Go.Proofs.YtmajmolbjiahlaaGreatDoorW.PrintWords Go.Proofs.YtmajmolbjiahlaaGreatDoorW.PrintLast Go.Proofs.YtmajmolbjiahlaaGreatDoorW.PrintMore
attribute [local go_sem] isSome_setCell max2_int min2_int max_two min_two max_three min_three max_four min_four
set_option linter.unusedVariables false
set_option linter.unusedSimpArgs false
attribute [local go_sem high] eqA30
mutual
def almanacref16_Fit.l0 : Nat → Int → ByteArray → List (S32) → Option (Bool)
  | 0, _, _, _ => none
  | k + 1, x3, x131000, x131001 => if x3 < (x131001.length : Int) then (if 0 ≤ x3 then ((almanacref16_less.f ((rd_T32 x131001 x3).f1)).bind fun t133 => (if t133 = true then ((almanacref16_less.f ((rd_T32 x131001 x3).f2)).bind fun t134 => (if t134 = true then ((almanacref10_In.f ((rd_T32 x131001 x3).f0)).bind fun t135 => (almanacref16_Fit.j1 k x3 (!t135) x131000 x131001 ((rd_T32 x131001 x3).f0) ((rd_T32 x131001 x3).f1) ((rd_T32 x131001 x3).f2) ((rd_T32 x131001 x3).f3) ((rd_T32 x131001 x3).f4) ((rd_T32 x131001 x3).f5.f0) ((rd_T32 x131001 x3).f5.f1))) else (almanacref16_Fit.j1 k x3 true x131000 x131001 ((rd_T32 x131001 x3).f0) ((rd_T32 x131001 x3).f1) ((rd_T32 x131001 x3).f2) ((rd_T32 x131001 x3).f3) ((rd_T32 x131001 x3).f4) ((rd_T32 x131001 x3).f5.f0) ((rd_T32 x131001 x3).f5.f1)))) else (almanacref16_Fit.j1 k x3 true x131000 x131001 ((rd_T32 x131001 x3).f0) ((rd_T32 x131001 x3).f1) ((rd_T32 x131001 x3).f2) ((rd_T32 x131001 x3).f3) ((rd_T32 x131001 x3).f4) ((rd_T32 x131001 x3).f5.f0) ((rd_T32 x131001 x3).f5.f1)))) else (none)) else (some (decide ((x131001.length : Int) ≤ 16)))
def almanacref16_Fit.j1 : Nat → Int → Bool → ByteArray → List (S32) → Int → Int → Int → Bool → Int → Int → Int → Option (Bool)
  | 0, _, _, _, _, _, _, _, _, _, _, _ => none
  | k + 1, x3, x32, x131000, x131001, x133000, x133001, x133002, x133003, x133004, x133005, x133006 => if x32 = true then (some false) else (if x133003 = true then (if x133004 < 1 then (some false) else (if x133004 > 12 then (some false) else ((almanacref16_nth.f x133005 x133006).bind fun t136 => (if t136 = true then (almanacref16_Fit.l0 k (wrap64 (x3 + 1)) x131000 x131001) else (some false))))) else (if x133004 = 0 then (if (!(x133005 == 0) || (!(x133006 == 0))) = true then (some false) else (almanacref16_Fit.l0 k (wrap64 (x3 + 1)) x131000 x131001)) else (some false)))
end
def almanacref16_Fit.f (k : Nat) (a0_0 : ByteArray) (l0_1 : List (S32)) : Option (Bool) := almanacref16_Fit.l0 k 0 a0_0 l0_1
set_option maxHeartbeats 8000000 in
set_option maxRecDepth 100000 in
theorem almanacref16_Fit.calls (k : Nat) (a0_0 : ByteArray) (A0_1 : Option Addr) (c0_1 : Nat) (l0_1 : List (S32)) (r : Bool) (w : World) (hr0_1 : Kd.C k32 w A0_1 l0_1.length l0_1) (hc0_1 : l0_1.length ≤ c0_1) (h : almanacref16_Fit.f k a0_0 l0_1 = some r) :
    Calls Tryz.prog 13 #[.agg #[.string a0_0, .slice A0_1 l0_1.length c0_1]] w fun e w' => e = .returned (.bool r) ∧ Below w.heap.size w w' := by
  have hu24 := Tryz.underlying24
  have hu32 := Tryz.underlying32
  have hu30 := Tryz.underlying30
  have HR0_1 := Aside0.mk hr0_1
  have HC0_1 := Aside0.mk hc0_1
  clear hr0_1 hc0_1
  have HB := Aside0.mk (Below.refl w.heap.size w)
  have H : (almanacref16_Fit.l0 k 0 a0_0 l0_1) = some r := h
  clear h
  have H' := Aside0.mk H
  clear H
  go_enter Tryz.func13, Tryz.ntmps13
  go_wp2_with (first | ((with_reducible refine gate_dst (N := 1) rfl ?_); refine box_event ?hg (N := 1) ?hd (cs := #[.string a0_0, .slice A0_1 l0_1.length c0_1]) (t := 24) ?hr ?_; (case hd => rfl); (case hg => rfl); (case hr => first | (go_simp; done) | (go_simp; rfl)); intro gb130 hg w2 hbox hb; have n0_ := Aside0.mk (below_step (by repeat (first | (with_reducible first | exact HB.out | apply below_alloc | apply pw_below_drewN | apply below_drew1) | exact HB.out)) hb); have n1_ := Aside0.mk (hbox); have n2_ := Aside0.mk ((by rw [hg]; exact (below_size (by repeat (first | (with_reducible first | exact HB.out | apply below_alloc | apply pw_below_drewN | apply below_drew1) | exact HB.out))) : w.heap.size ≤ gb130)); have n3_ := Aside0.mk ((by rw [hg]; exact (below_size (by repeat (first | (with_reducible first | exact HB.out | apply below_alloc | apply pw_below_drewN | apply below_drew1) | exact HB.out))) : w.heap.size ≤ gb130)); clear HB; have HB := n0_; have BK130 := n1_; have GW130 := n2_; have GE130 := n3_; clear n0_ n1_ n2_ n3_; clear hb hbox hg))
  go_loopg [3] k (fun kq v3 w' => ∃ (x3_1 : Int), v3 = .int .i64 x3_1 ∧ Aside0 (almanacref16_Fit.l0 kq x3_1 a0_0 l0_1 = some r) ∧ Aside0 (kq ≤ k) ∧ Aside0 (w'.heap[gb130]? = some (.cells #[.string a0_0, (.slice A0_1 l0_1.length c0_1)] 24 (0, 0))) ∧ Aside0 (Below w.heap.size w w'))
  case atStart => exact ⟨(0), (by first | rfl | (simp; done) | (simp [*]; done)), H', ⟨Nat.le_refl _⟩, ⟨by (with_reducible repeat (first | refine blk_drewN ?_ _ | refine blk_drew ?_ | refine blk_alloc ?_ _)); exact BK130.out⟩, ⟨by repeat (first | (with_reducible first | exact HB.out | apply below_alloc | apply pw_below_drewN | apply below_drew1 | refine below_set ?_ GE130.out) | exact HB.out)⟩⟩
  case round =>
    clear H'
    try clear c1
    try clear p2
    obtain ⟨x3_1, rfl, HA, HK1, BK130, HB⟩ := hrel
    cases gk with
    | zero => exact absurd HA.out (by simp [almanacref16_Fit.l0])
    | succ k1 =>
      have H := HA.out
      clear HA
      simp only [almanacref16_Fit.l0] at H
      by_cases c3 : x3_1 < (l0_1.length : Int)
      · rw [if_pos c3] at H
        have c3b0 : decide (x3_1 < (l0_1.length : Int)) = true := decide_eq_true c3
        clear c3
        by_cases c4 : 0 ≤ x3_1
        · rw [if_pos c4] at H
          have c4b0 : decide (0 ≤ x3_1) = true := decide_eq_true c4
          clear c4
          have HC5 := Aside0.mk H
          clear H
          have hcz6_0 : wr.cell? ⟨gb130, 0, none⟩ = some (.string a0_0) := (blk_cell BK130.out 0).trans rfl
          have hcz6_1 : wr.cell? ⟨gb130, 1, none⟩ = some (.slice A0_1 l0_1.length c0_1) := (blk_cell BK130.out 1).trans rfl
          have hfz6_0 := blk_frozen BK130.out 0
          have hfz6_1 := blk_frozen BK130.out 1
          have p131 : 0 ≤ (x3_1 : Int) := of_decide_eq_true (by first | (with_reducible assumption) | assumption)
          have q131 : x3_1 < (l0_1.length : Int) := of_decide_eq_true (by first | (with_reducible assumption) | assumption)
          obtain ⟨ad131, e131, hx131_0, hx131_1, hx131_2, hx131_3, hx131_4, hx131_5, hx131_6⟩ := at_T32 HR0_1.out x3_1 p131 q131
          cases e131
          replace hx131_0 := (HB.out.cell (World.block_lt_of_cell? w _ hx131_0)).trans hx131_0
          replace hx131_1 := (HB.out.cell (World.block_lt_of_cell? w _ hx131_1)).trans hx131_1
          replace hx131_2 := (HB.out.cell (World.block_lt_of_cell? w _ hx131_2)).trans hx131_2
          replace hx131_3 := (HB.out.cell (World.block_lt_of_cell? w _ hx131_3)).trans hx131_3
          replace hx131_4 := (HB.out.cell (World.block_lt_of_cell? w _ hx131_4)).trans hx131_4
          replace hx131_5 := (HB.out.cell (World.block_lt_of_cell? w _ hx131_5)).trans hx131_5
          replace hx131_6 := (HB.out.cell (World.block_lt_of_cell? w _ hx131_6)).trans hx131_6
          replace p131 := eq_true p131
          replace q131 := eq_true q131
          go_upto_region 5 with (first | ((with_reducible refine gate_dst (N := 4) rfl ?_); refine box_event ?hg (N := 4) ?hd (cs := #[.int .i64 0, .int .i64 0, .int .i64 0, .bool false, .int .i64 0, .int .i64 0, .int .i64 0]) (t := 32) ?hr ?_; (case hd => rfl); (case hg => rfl); (case hr => first | (go_simp; done) | (go_simp; rfl)); intro gb132 hg w7 hbox hb; have n0_ := Aside0.mk (blk_below (g := gb130) (o := .cells #[.string a0_0, .slice (some ad131) l0_1.length c0_1] 24 (0, 0)) (by (with_reducible repeat (first | refine blk_drewN ?_ _ | refine blk_drew ?_ | refine blk_alloc ?_ _)); exact BK130.out) hb); have n1_ := Aside0.mk (below_step (by repeat (first | (with_reducible first | exact HB.out | apply below_alloc | apply pw_below_drewN | apply below_drew1 | refine below_set ?_ GE130.out) | exact HB.out)) hb); have n2_ := Aside0.mk (hbox); have n3_ := Aside0.mk ((by rw [hg]; exact (below_size (by repeat (first | (with_reducible first | exact HB.out | apply below_alloc | apply pw_below_drewN | apply below_drew1 | refine below_set ?_ GE130.out) | exact HB.out))) : w.heap.size ≤ gb132)); have n4_ := Aside0.mk ((by rw [hg]; exact (below_size (by repeat (first | (with_reducible first | exact HB.out | apply below_alloc | apply pw_below_drewN | apply below_drew1 | refine below_set ?_ GE130.out) | exact HB.out))) : w.heap.size ≤ gb132)); have n5_ := Aside0.mk ((by rw [hg]; exact Nat.ne_of_lt (blk_lt (g := gb130) (o := .cells #[.string a0_0, .slice (some ad131) l0_1.length c0_1] 24 (0, 0)) (by (with_reducible repeat (first | refine blk_drewN ?_ _ | refine blk_drew ?_ | refine blk_alloc ?_ _)); exact BK130.out)) : gb130 ≠ gb132)); have n6_ := Aside0.mk ((by rw [hg]; exact Nat.ne_of_gt (blk_lt (g := gb130) (o := .cells #[.string a0_0, .slice (some ad131) l0_1.length c0_1] 24 (0, 0)) (by (with_reducible repeat (first | refine blk_drewN ?_ _ | refine blk_drew ?_ | refine blk_alloc ?_ _)); exact BK130.out)) : gb132 ≠ gb130)); clear BK130; clear HB; have BK130 := n0_; have HB := n1_; have BK132 := n2_; have GW132 := n3_; have GE132 := n4_; have NB130_132 := n5_; have NB132_130 := n6_; clear n0_ n1_ n2_ n3_ n4_ n5_ n6_; clear hb hbox hg; have hnb8 := NB132_130.out; have hnc8 := NB130_132.out; have hcz9_0 : w7.cell? ⟨gb132, 0, none⟩ = some (.int .i64 0) := (blk_cell BK132.out 0).trans rfl; have hcz9_1 : w7.cell? ⟨gb132, 1, none⟩ = some (.int .i64 0) := (blk_cell BK132.out 1).trans rfl; have hcz9_2 : w7.cell? ⟨gb132, 2, none⟩ = some (.int .i64 0) := (blk_cell BK132.out 2).trans rfl; have hcz9_3 : w7.cell? ⟨gb132, 3, none⟩ = some (.bool false) := (blk_cell BK132.out 3).trans rfl; have hcz9_4 : w7.cell? ⟨gb132, 4, none⟩ = some (.int .i64 0) := (blk_cell BK132.out 4).trans rfl; have hcz9_5 : w7.cell? ⟨gb132, 5, none⟩ = some (.int .i64 0) := (blk_cell BK132.out 5).trans rfl; have hcz9_6 : w7.cell? ⟨gb132, 6, none⟩ = some (.int .i64 0) := (blk_cell BK132.out 6).trans rfl; have hfz9_0 := blk_frozen BK132.out 0; have hfz9_1 := blk_frozen BK132.out 1; have hfz9_2 := blk_frozen BK132.out 2; have hfz9_3 := blk_frozen BK132.out 3; have hfz9_4 := blk_frozen BK132.out 4; have hfz9_5 := blk_frozen BK132.out 5; have hfz9_6 := blk_frozen BK132.out 6))
          (try simp only [Act.put, List.setIfInBounds_toArray, List.set_cons_zero, List.set_cons_succ])
          go_cut [32] (fun v32 wc => ∃ (kq : Nat) (x32_4 : Bool), v32 = .bool x32_4 ∧ Aside0 (almanacref16_Fit.j1 kq x3_1 x32_4 a0_0 l0_1 ((rd_T32 l0_1 x3_1).f0) ((rd_T32 l0_1 x3_1).f1) ((rd_T32 l0_1 x3_1).f2) ((rd_T32 l0_1 x3_1).f3) ((rd_T32 l0_1 x3_1).f4) ((rd_T32 l0_1 x3_1).f5.f0) ((rd_T32 l0_1 x3_1).f5.f1) = some r) ∧ Aside0 (kq ≤ k1) ∧ Aside0 (wc.heap[gb130]? = some (.cells #[.string a0_0, (.slice (some ad131) l0_1.length c0_1)] 24 (0, 0))) ∧ Aside0 (wc.heap[gb132]? = some (.cells #[.int .i64 ((rd_T32 l0_1 x3_1).f0), .int .i64 ((rd_T32 l0_1 x3_1).f1), .int .i64 ((rd_T32 l0_1 x3_1).f2), .bool ((rd_T32 l0_1 x3_1).f3), .int .i64 ((rd_T32 l0_1 x3_1).f4), .int .i64 ((rd_T32 l0_1 x3_1).f5.f0), .int .i64 ((rd_T32 l0_1 x3_1).f5.f1)] 32 (0, 0))) ∧ Aside0 (Below w.heap.size w wc))
          case first =>
            have H := HC5.out
            clear HC5
            replace H := Option.bind_eq_some_iff.mp H
            obtain ⟨t133, A100, H⟩ := H
            replace H : (if t133 = true then ((almanacref16_less.f ((rd_T32 l0_1 x3_1).f2)).bind fun t134 => (if t134 = true then ((almanacref10_In.f ((rd_T32 l0_1 x3_1).f0)).bind fun t135 => (almanacref16_Fit.j1 k1 x3_1 (!t135) a0_0 l0_1 ((rd_T32 l0_1 x3_1).f0) ((rd_T32 l0_1 x3_1).f1) ((rd_T32 l0_1 x3_1).f2) ((rd_T32 l0_1 x3_1).f3) ((rd_T32 l0_1 x3_1).f4) ((rd_T32 l0_1 x3_1).f5.f0) ((rd_T32 l0_1 x3_1).f5.f1))) else (almanacref16_Fit.j1 k1 x3_1 true a0_0 l0_1 ((rd_T32 l0_1 x3_1).f0) ((rd_T32 l0_1 x3_1).f1) ((rd_T32 l0_1 x3_1).f2) ((rd_T32 l0_1 x3_1).f3) ((rd_T32 l0_1 x3_1).f4) ((rd_T32 l0_1 x3_1).f5.f0) ((rd_T32 l0_1 x3_1).f5.f1)))) else (almanacref16_Fit.j1 k1 x3_1 true a0_0 l0_1 ((rd_T32 l0_1 x3_1).f0) ((rd_T32 l0_1 x3_1).f1) ((rd_T32 l0_1 x3_1).f2) ((rd_T32 l0_1 x3_1).f3) ((rd_T32 l0_1 x3_1).f4) ((rd_T32 l0_1 x3_1).f5.f0) ((rd_T32 l0_1 x3_1).f5.f1))) = some r := H
            have A10 := Aside0.mk A100
            clear A100
            by_cases c11 : t133 = true
            · subst c11
              have H1 : ((almanacref16_less.f ((rd_T32 l0_1 x3_1).f2)).bind fun t134 => (if t134 = true then ((almanacref10_In.f ((rd_T32 l0_1 x3_1).f0)).bind fun t135 => (almanacref16_Fit.j1 k1 x3_1 (!t135) a0_0 l0_1 ((rd_T32 l0_1 x3_1).f0) ((rd_T32 l0_1 x3_1).f1) ((rd_T32 l0_1 x3_1).f2) ((rd_T32 l0_1 x3_1).f3) ((rd_T32 l0_1 x3_1).f4) ((rd_T32 l0_1 x3_1).f5.f0) ((rd_T32 l0_1 x3_1).f5.f1))) else (almanacref16_Fit.j1 k1 x3_1 true a0_0 l0_1 ((rd_T32 l0_1 x3_1).f0) ((rd_T32 l0_1 x3_1).f1) ((rd_T32 l0_1 x3_1).f2) ((rd_T32 l0_1 x3_1).f3) ((rd_T32 l0_1 x3_1).f4) ((rd_T32 l0_1 x3_1).f5.f0) ((rd_T32 l0_1 x3_1).f5.f1)))) = some r := by rw [if_pos rfl] at H; exact H
              clear H
              have H := H1
              clear H1
              replace H := Option.bind_eq_some_iff.mp H
              obtain ⟨t134, A120, H⟩ := H
              replace H : (if t134 = true then ((almanacref10_In.f ((rd_T32 l0_1 x3_1).f0)).bind fun t135 => (almanacref16_Fit.j1 k1 x3_1 (!t135) a0_0 l0_1 ((rd_T32 l0_1 x3_1).f0) ((rd_T32 l0_1 x3_1).f1) ((rd_T32 l0_1 x3_1).f2) ((rd_T32 l0_1 x3_1).f3) ((rd_T32 l0_1 x3_1).f4) ((rd_T32 l0_1 x3_1).f5.f0) ((rd_T32 l0_1 x3_1).f5.f1))) else (almanacref16_Fit.j1 k1 x3_1 true a0_0 l0_1 ((rd_T32 l0_1 x3_1).f0) ((rd_T32 l0_1 x3_1).f1) ((rd_T32 l0_1 x3_1).f2) ((rd_T32 l0_1 x3_1).f3) ((rd_T32 l0_1 x3_1).f4) ((rd_T32 l0_1 x3_1).f5.f0) ((rd_T32 l0_1 x3_1).f5.f1))) = some r := H
              have A12 := Aside0.mk A120
              clear A120
              by_cases c13 : t134 = true
              · subst c13
                have H1 : ((almanacref10_In.f ((rd_T32 l0_1 x3_1).f0)).bind fun t135 => (almanacref16_Fit.j1 k1 x3_1 (!t135) a0_0 l0_1 ((rd_T32 l0_1 x3_1).f0) ((rd_T32 l0_1 x3_1).f1) ((rd_T32 l0_1 x3_1).f2) ((rd_T32 l0_1 x3_1).f3) ((rd_T32 l0_1 x3_1).f4) ((rd_T32 l0_1 x3_1).f5.f0) ((rd_T32 l0_1 x3_1).f5.f1))) = some r := by rw [if_pos rfl] at H; exact H
                clear H
                have H := H1
                clear H1
                replace H := Option.bind_eq_some_iff.mp H
                obtain ⟨t135, A140, H⟩ := H
                replace H : (almanacref16_Fit.j1 k1 x3_1 (!t135) a0_0 l0_1 ((rd_T32 l0_1 x3_1).f0) ((rd_T32 l0_1 x3_1).f1) ((rd_T32 l0_1 x3_1).f2) ((rd_T32 l0_1 x3_1).f3) ((rd_T32 l0_1 x3_1).f4) ((rd_T32 l0_1 x3_1).f5.f0) ((rd_T32 l0_1 x3_1).f5.f1)) = some r := H
                have A14 := Aside0.mk A140
                clear A140
                have H' := Aside0.mk H
                clear H
                have hnb15 := NB132_130.out
                have hnc15 := NB130_132.out
                have hcz16_0 : w7.cell? ⟨gb132, 0, none⟩ = some (.int .i64 0) := (blk_cell BK132.out 0).trans rfl
                have hcz16_1 : w7.cell? ⟨gb132, 1, none⟩ = some (.int .i64 0) := (blk_cell BK132.out 1).trans rfl
                have hcz16_2 : w7.cell? ⟨gb132, 2, none⟩ = some (.int .i64 0) := (blk_cell BK132.out 2).trans rfl
                have hcz16_3 : w7.cell? ⟨gb132, 3, none⟩ = some (.bool false) := (blk_cell BK132.out 3).trans rfl
                have hcz16_4 : w7.cell? ⟨gb132, 4, none⟩ = some (.int .i64 0) := (blk_cell BK132.out 4).trans rfl
                have hcz16_5 : w7.cell? ⟨gb132, 5, none⟩ = some (.int .i64 0) := (blk_cell BK132.out 5).trans rfl
                have hcz16_6 : w7.cell? ⟨gb132, 6, none⟩ = some (.int .i64 0) := (blk_cell BK132.out 6).trans rfl
                have hfz16_0 := blk_frozen BK132.out 0
                have hfz16_1 := blk_frozen BK132.out 1
                have hfz16_2 := blk_frozen BK132.out 2
                have hfz16_3 := blk_frozen BK132.out 3
                have hfz16_4 := blk_frozen BK132.out 4
                have hfz16_5 := blk_frozen BK132.out 5
                have hfz16_6 := blk_frozen BK132.out 6
                go_wp2_with (first | ((with_reducible refine gate_callee (f := 32) rfl ?_); refine goesL_ (some 19) rfl rfl Tryz.func32 (by kernel_rfl) rfl #[.int .i64 ((rd_T32 l0_1 x3_1).f1)] rfl (by (try simp only [List.map_toArray, List.map_cons, List.map_nil]); first | done | rfl | (simp only [List.length_drop, List.length_take]; rfl)) ?_; (with_reducible refine (almanacref16_less.calls ((rd_T32 l0_1 x3_1).f1) true _ A10.out).mono ?_); rintro e w' ⟨rfl, ⟨nd, rfl⟩⟩; refine ⟨_, rfl, ?_⟩) | (go_at_call 32; (with_reducible refine (almanacref16_less.calls ((rd_T32 l0_1 x3_1).f2) true _ A12.out).mono ?_); rintro e w' ⟨rfl, ⟨nd, rfl⟩⟩) | (go_at_call 26; (with_reducible refine (almanacref10_In.calls ((rd_T32 l0_1 x3_1).f0) t135 _ A14.out).mono ?_); rintro e w' ⟨rfl, ⟨nd, rfl⟩⟩))
                go_meet
                case rel => exact ⟨_, (!t135), (by first | rfl | (simp; done) | (simp [*]; done)), H', ⟨by have := HK1.out; first | omega | exact Nat.le_refl _⟩, ⟨by (with_reducible repeat (first | refine blk_drewN ?_ _ | refine blk_drew ?_ | refine blk_alloc ?_ _)); refine blk_far ?_ NB130_132.out _; (with_reducible repeat (first | refine blk_drewN ?_ _ | refine blk_drew ?_ | refine blk_alloc ?_ _)); refine blk_far ?_ NB130_132.out _; (with_reducible repeat (first | refine blk_drewN ?_ _ | refine blk_drew ?_ | refine blk_alloc ?_ _)); refine blk_far ?_ NB130_132.out _; (with_reducible repeat (first | refine blk_drewN ?_ _ | refine blk_drew ?_ | refine blk_alloc ?_ _)); refine blk_far ?_ NB130_132.out _; (with_reducible repeat (first | refine blk_drewN ?_ _ | refine blk_drew ?_ | refine blk_alloc ?_ _)); refine blk_far ?_ NB130_132.out _; (with_reducible repeat (first | refine blk_drewN ?_ _ | refine blk_drew ?_ | refine blk_alloc ?_ _)); refine blk_far ?_ NB130_132.out _; (with_reducible repeat (first | refine blk_drewN ?_ _ | refine blk_drew ?_ | refine blk_alloc ?_ _)); refine blk_far ?_ NB130_132.out _; (with_reducible repeat (first | refine blk_drewN ?_ _ | refine blk_drew ?_ | refine blk_alloc ?_ _)); exact BK130.out⟩, ⟨by (with_reducible repeat (first | refine blk_drewN ?_ _ | refine blk_drew ?_ | refine blk_alloc ?_ _)); refine blk_put (cs := #[.int .i64 ((rd_T32 l0_1 x3_1).f0), .int .i64 ((rd_T32 l0_1 x3_1).f1), .int .i64 ((rd_T32 l0_1 x3_1).f2), .bool ((rd_T32 l0_1 x3_1).f3), .int .i64 ((rd_T32 l0_1 x3_1).f4), .int .i64 ((rd_T32 l0_1 x3_1).f5.f0), .int .i64 0]) ?_ 6 _ rfl; (with_reducible repeat (first | refine blk_drewN ?_ _ | refine blk_drew ?_ | refine blk_alloc ?_ _)); refine blk_put (cs := #[.int .i64 ((rd_T32 l0_1 x3_1).f0), .int .i64 ((rd_T32 l0_1 x3_1).f1), .int .i64 ((rd_T32 l0_1 x3_1).f2), .bool ((rd_T32 l0_1 x3_1).f3), .int .i64 ((rd_T32 l0_1 x3_1).f4), .int .i64 0, .int .i64 0]) ?_ 5 _ rfl; (with_reducible repeat (first | refine blk_drewN ?_ _ | refine blk_drew ?_ | refine blk_alloc ?_ _)); refine blk_put (cs := #[.int .i64 ((rd_T32 l0_1 x3_1).f0), .int .i64 ((rd_T32 l0_1 x3_1).f1), .int .i64 ((rd_T32 l0_1 x3_1).f2), .bool ((rd_T32 l0_1 x3_1).f3), .int .i64 0, .int .i64 0, .int .i64 0]) ?_ 4 _ rfl; (with_reducible repeat (first | refine blk_drewN ?_ _ | refine blk_drew ?_ | refine blk_alloc ?_ _)); refine blk_put (cs := #[.int .i64 ((rd_T32 l0_1 x3_1).f0), .int .i64 ((rd_T32 l0_1 x3_1).f1), .int .i64 ((rd_T32 l0_1 x3_1).f2), .bool false, .int .i64 0, .int .i64 0, .int .i64 0]) ?_ 3 _ rfl; (with_reducible repeat (first | refine blk_drewN ?_ _ | refine blk_drew ?_ | refine blk_alloc ?_ _)); refine blk_put (cs := #[.int .i64 ((rd_T32 l0_1 x3_1).f0), .int .i64 ((rd_T32 l0_1 x3_1).f1), .int .i64 0, .bool false, .int .i64 0, .int .i64 0, .int .i64 0]) ?_ 2 _ rfl; (with_reducible repeat (first | refine blk_drewN ?_ _ | refine blk_drew ?_ | refine blk_alloc ?_ _)); refine blk_put (cs := #[.int .i64 ((rd_T32 l0_1 x3_1).f0), .int .i64 0, .int .i64 0, .bool false, .int .i64 0, .int .i64 0, .int .i64 0]) ?_ 1 _ rfl; (with_reducible repeat (first | refine blk_drewN ?_ _ | refine blk_drew ?_ | refine blk_alloc ?_ _)); refine blk_put (cs := #[.int .i64 0, .int .i64 0, .int .i64 0, .bool false, .int .i64 0, .int .i64 0, .int .i64 0]) ?_ 0 _ rfl; (with_reducible repeat (first | refine blk_drewN ?_ _ | refine blk_drew ?_ | refine blk_alloc ?_ _)); exact BK132.out⟩, ⟨by repeat (first | (with_reducible first | exact HB.out | apply below_alloc | apply pw_below_drewN | apply below_drew1 | refine below_set ?_ GE130.out | refine below_set ?_ GE132.out) | exact HB.out)⟩⟩
              · replace c13 := Bool.eq_false_iff.mpr c13
                subst c13
                have H1 : (almanacref16_Fit.j1 k1 x3_1 true a0_0 l0_1 ((rd_T32 l0_1 x3_1).f0) ((rd_T32 l0_1 x3_1).f1) ((rd_T32 l0_1 x3_1).f2) ((rd_T32 l0_1 x3_1).f3) ((rd_T32 l0_1 x3_1).f4) ((rd_T32 l0_1 x3_1).f5.f0) ((rd_T32 l0_1 x3_1).f5.f1)) = some r := by rw [if_neg (show ¬ (false = true) by decide)] at H; exact H
                clear H
                have H := H1
                clear H1
                have H' := Aside0.mk H
                clear H
                have hnb17 := NB132_130.out
                have hnc17 := NB130_132.out
                have hcz18_0 : w7.cell? ⟨gb132, 0, none⟩ = some (.int .i64 0) := (blk_cell BK132.out 0).trans rfl
                have hcz18_1 : w7.cell? ⟨gb132, 1, none⟩ = some (.int .i64 0) := (blk_cell BK132.out 1).trans rfl
                have hcz18_2 : w7.cell? ⟨gb132, 2, none⟩ = some (.int .i64 0) := (blk_cell BK132.out 2).trans rfl
                have hcz18_3 : w7.cell? ⟨gb132, 3, none⟩ = some (.bool false) := (blk_cell BK132.out 3).trans rfl
                have hcz18_4 : w7.cell? ⟨gb132, 4, none⟩ = some (.int .i64 0) := (blk_cell BK132.out 4).trans rfl
                have hcz18_5 : w7.cell? ⟨gb132, 5, none⟩ = some (.int .i64 0) := (blk_cell BK132.out 5).trans rfl
                have hcz18_6 : w7.cell? ⟨gb132, 6, none⟩ = some (.int .i64 0) := (blk_cell BK132.out 6).trans rfl
                have hfz18_0 := blk_frozen BK132.out 0
                have hfz18_1 := blk_frozen BK132.out 1
                have hfz18_2 := blk_frozen BK132.out 2
                have hfz18_3 := blk_frozen BK132.out 3
                have hfz18_4 := blk_frozen BK132.out 4
                have hfz18_5 := blk_frozen BK132.out 5
                have hfz18_6 := blk_frozen BK132.out 6
                go_wp2_with (first | ((with_reducible refine gate_callee (f := 32) rfl ?_); refine goesL_ (some 19) rfl rfl Tryz.func32 (by kernel_rfl) rfl #[.int .i64 ((rd_T32 l0_1 x3_1).f1)] rfl (by (try simp only [List.map_toArray, List.map_cons, List.map_nil]); first | done | rfl | (simp only [List.length_drop, List.length_take]; rfl)) ?_; (with_reducible refine (almanacref16_less.calls ((rd_T32 l0_1 x3_1).f1) true _ A10.out).mono ?_); rintro e w' ⟨rfl, ⟨nd, rfl⟩⟩; refine ⟨_, rfl, ?_⟩) | (go_at_call 32; (with_reducible refine (almanacref16_less.calls ((rd_T32 l0_1 x3_1).f2) false _ A12.out).mono ?_); rintro e w' ⟨rfl, ⟨nd, rfl⟩⟩))
                go_meet
                case rel => exact ⟨_, (true), (by first | rfl | (simp; done) | (simp [*]; done)), H', ⟨by have := HK1.out; first | omega | exact Nat.le_refl _⟩, ⟨by (with_reducible repeat (first | refine blk_drewN ?_ _ | refine blk_drew ?_ | refine blk_alloc ?_ _)); refine blk_far ?_ NB130_132.out _; (with_reducible repeat (first | refine blk_drewN ?_ _ | refine blk_drew ?_ | refine blk_alloc ?_ _)); refine blk_far ?_ NB130_132.out _; (with_reducible repeat (first | refine blk_drewN ?_ _ | refine blk_drew ?_ | refine blk_alloc ?_ _)); refine blk_far ?_ NB130_132.out _; (with_reducible repeat (first | refine blk_drewN ?_ _ | refine blk_drew ?_ | refine blk_alloc ?_ _)); refine blk_far ?_ NB130_132.out _; (with_reducible repeat (first | refine blk_drewN ?_ _ | refine blk_drew ?_ | refine blk_alloc ?_ _)); refine blk_far ?_ NB130_132.out _; (with_reducible repeat (first | refine blk_drewN ?_ _ | refine blk_drew ?_ | refine blk_alloc ?_ _)); refine blk_far ?_ NB130_132.out _; (with_reducible repeat (first | refine blk_drewN ?_ _ | refine blk_drew ?_ | refine blk_alloc ?_ _)); refine blk_far ?_ NB130_132.out _; (with_reducible repeat (first | refine blk_drewN ?_ _ | refine blk_drew ?_ | refine blk_alloc ?_ _)); exact BK130.out⟩, ⟨by (with_reducible repeat (first | refine blk_drewN ?_ _ | refine blk_drew ?_ | refine blk_alloc ?_ _)); refine blk_put (cs := #[.int .i64 ((rd_T32 l0_1 x3_1).f0), .int .i64 ((rd_T32 l0_1 x3_1).f1), .int .i64 ((rd_T32 l0_1 x3_1).f2), .bool ((rd_T32 l0_1 x3_1).f3), .int .i64 ((rd_T32 l0_1 x3_1).f4), .int .i64 ((rd_T32 l0_1 x3_1).f5.f0), .int .i64 0]) ?_ 6 _ rfl; (with_reducible repeat (first | refine blk_drewN ?_ _ | refine blk_drew ?_ | refine blk_alloc ?_ _)); refine blk_put (cs := #[.int .i64 ((rd_T32 l0_1 x3_1).f0), .int .i64 ((rd_T32 l0_1 x3_1).f1), .int .i64 ((rd_T32 l0_1 x3_1).f2), .bool ((rd_T32 l0_1 x3_1).f3), .int .i64 ((rd_T32 l0_1 x3_1).f4), .int .i64 0, .int .i64 0]) ?_ 5 _ rfl; (with_reducible repeat (first | refine blk_drewN ?_ _ | refine blk_drew ?_ | refine blk_alloc ?_ _)); refine blk_put (cs := #[.int .i64 ((rd_T32 l0_1 x3_1).f0), .int .i64 ((rd_T32 l0_1 x3_1).f1), .int .i64 ((rd_T32 l0_1 x3_1).f2), .bool ((rd_T32 l0_1 x3_1).f3), .int .i64 0, .int .i64 0, .int .i64 0]) ?_ 4 _ rfl; (with_reducible repeat (first | refine blk_drewN ?_ _ | refine blk_drew ?_ | refine blk_alloc ?_ _)); refine blk_put (cs := #[.int .i64 ((rd_T32 l0_1 x3_1).f0), .int .i64 ((rd_T32 l0_1 x3_1).f1), .int .i64 ((rd_T32 l0_1 x3_1).f2), .bool false, .int .i64 0, .int .i64 0, .int .i64 0]) ?_ 3 _ rfl; (with_reducible repeat (first | refine blk_drewN ?_ _ | refine blk_drew ?_ | refine blk_alloc ?_ _)); refine blk_put (cs := #[.int .i64 ((rd_T32 l0_1 x3_1).f0), .int .i64 ((rd_T32 l0_1 x3_1).f1), .int .i64 0, .bool false, .int .i64 0, .int .i64 0, .int .i64 0]) ?_ 2 _ rfl; (with_reducible repeat (first | refine blk_drewN ?_ _ | refine blk_drew ?_ | refine blk_alloc ?_ _)); refine blk_put (cs := #[.int .i64 ((rd_T32 l0_1 x3_1).f0), .int .i64 0, .int .i64 0, .bool false, .int .i64 0, .int .i64 0, .int .i64 0]) ?_ 1 _ rfl; (with_reducible repeat (first | refine blk_drewN ?_ _ | refine blk_drew ?_ | refine blk_alloc ?_ _)); refine blk_put (cs := #[.int .i64 0, .int .i64 0, .int .i64 0, .bool false, .int .i64 0, .int .i64 0, .int .i64 0]) ?_ 0 _ rfl; (with_reducible repeat (first | refine blk_drewN ?_ _ | refine blk_drew ?_ | refine blk_alloc ?_ _)); exact BK132.out⟩, ⟨by repeat (first | (with_reducible first | exact HB.out | apply below_alloc | apply pw_below_drewN | apply below_drew1 | refine below_set ?_ GE130.out | refine below_set ?_ GE132.out) | exact HB.out)⟩⟩
            · replace c11 := Bool.eq_false_iff.mpr c11
              subst c11
              have H1 : (almanacref16_Fit.j1 k1 x3_1 true a0_0 l0_1 ((rd_T32 l0_1 x3_1).f0) ((rd_T32 l0_1 x3_1).f1) ((rd_T32 l0_1 x3_1).f2) ((rd_T32 l0_1 x3_1).f3) ((rd_T32 l0_1 x3_1).f4) ((rd_T32 l0_1 x3_1).f5.f0) ((rd_T32 l0_1 x3_1).f5.f1)) = some r := by rw [if_neg (show ¬ (false = true) by decide)] at H; exact H
              clear H
              have H := H1
              clear H1
              have H' := Aside0.mk H
              clear H
              have hnb19 := NB132_130.out
              have hnc19 := NB130_132.out
              have hcz20_0 : w7.cell? ⟨gb132, 0, none⟩ = some (.int .i64 0) := (blk_cell BK132.out 0).trans rfl
              have hcz20_1 : w7.cell? ⟨gb132, 1, none⟩ = some (.int .i64 0) := (blk_cell BK132.out 1).trans rfl
              have hcz20_2 : w7.cell? ⟨gb132, 2, none⟩ = some (.int .i64 0) := (blk_cell BK132.out 2).trans rfl
              have hcz20_3 : w7.cell? ⟨gb132, 3, none⟩ = some (.bool false) := (blk_cell BK132.out 3).trans rfl
              have hcz20_4 : w7.cell? ⟨gb132, 4, none⟩ = some (.int .i64 0) := (blk_cell BK132.out 4).trans rfl
              have hcz20_5 : w7.cell? ⟨gb132, 5, none⟩ = some (.int .i64 0) := (blk_cell BK132.out 5).trans rfl
              have hcz20_6 : w7.cell? ⟨gb132, 6, none⟩ = some (.int .i64 0) := (blk_cell BK132.out 6).trans rfl
              have hfz20_0 := blk_frozen BK132.out 0
              have hfz20_1 := blk_frozen BK132.out 1
              have hfz20_2 := blk_frozen BK132.out 2
              have hfz20_3 := blk_frozen BK132.out 3
              have hfz20_4 := blk_frozen BK132.out 4
              have hfz20_5 := blk_frozen BK132.out 5
              have hfz20_6 := blk_frozen BK132.out 6
              go_wp2_with (first | ((with_reducible refine gate_callee (f := 32) rfl ?_); refine goesL_ (some 19) rfl rfl Tryz.func32 (by kernel_rfl) rfl #[.int .i64 ((rd_T32 l0_1 x3_1).f1)] rfl (by (try simp only [List.map_toArray, List.map_cons, List.map_nil]); first | done | rfl | (simp only [List.length_drop, List.length_take]; rfl)) ?_; (with_reducible refine (almanacref16_less.calls ((rd_T32 l0_1 x3_1).f1) false _ A10.out).mono ?_); rintro e w' ⟨rfl, ⟨nd, rfl⟩⟩; refine ⟨_, rfl, ?_⟩))
              go_meet
              case rel => exact ⟨_, (true), (by first | rfl | (simp; done) | (simp [*]; done)), H', ⟨by have := HK1.out; first | omega | exact Nat.le_refl _⟩, ⟨by (with_reducible repeat (first | refine blk_drewN ?_ _ | refine blk_drew ?_ | refine blk_alloc ?_ _)); refine blk_far ?_ NB130_132.out _; (with_reducible repeat (first | refine blk_drewN ?_ _ | refine blk_drew ?_ | refine blk_alloc ?_ _)); refine blk_far ?_ NB130_132.out _; (with_reducible repeat (first | refine blk_drewN ?_ _ | refine blk_drew ?_ | refine blk_alloc ?_ _)); refine blk_far ?_ NB130_132.out _; (with_reducible repeat (first | refine blk_drewN ?_ _ | refine blk_drew ?_ | refine blk_alloc ?_ _)); refine blk_far ?_ NB130_132.out _; (with_reducible repeat (first | refine blk_drewN ?_ _ | refine blk_drew ?_ | refine blk_alloc ?_ _)); refine blk_far ?_ NB130_132.out _; (with_reducible repeat (first | refine blk_drewN ?_ _ | refine blk_drew ?_ | refine blk_alloc ?_ _)); refine blk_far ?_ NB130_132.out _; (with_reducible repeat (first | refine blk_drewN ?_ _ | refine blk_drew ?_ | refine blk_alloc ?_ _)); refine blk_far ?_ NB130_132.out _; (with_reducible repeat (first | refine blk_drewN ?_ _ | refine blk_drew ?_ | refine blk_alloc ?_ _)); exact BK130.out⟩, ⟨by (with_reducible repeat (first | refine blk_drewN ?_ _ | refine blk_drew ?_ | refine blk_alloc ?_ _)); refine blk_put (cs := #[.int .i64 ((rd_T32 l0_1 x3_1).f0), .int .i64 ((rd_T32 l0_1 x3_1).f1), .int .i64 ((rd_T32 l0_1 x3_1).f2), .bool ((rd_T32 l0_1 x3_1).f3), .int .i64 ((rd_T32 l0_1 x3_1).f4), .int .i64 ((rd_T32 l0_1 x3_1).f5.f0), .int .i64 0]) ?_ 6 _ rfl; (with_reducible repeat (first | refine blk_drewN ?_ _ | refine blk_drew ?_ | refine blk_alloc ?_ _)); refine blk_put (cs := #[.int .i64 ((rd_T32 l0_1 x3_1).f0), .int .i64 ((rd_T32 l0_1 x3_1).f1), .int .i64 ((rd_T32 l0_1 x3_1).f2), .bool ((rd_T32 l0_1 x3_1).f3), .int .i64 ((rd_T32 l0_1 x3_1).f4), .int .i64 0, .int .i64 0]) ?_ 5 _ rfl; (with_reducible repeat (first | refine blk_drewN ?_ _ | refine blk_drew ?_ | refine blk_alloc ?_ _)); refine blk_put (cs := #[.int .i64 ((rd_T32 l0_1 x3_1).f0), .int .i64 ((rd_T32 l0_1 x3_1).f1), .int .i64 ((rd_T32 l0_1 x3_1).f2), .bool ((rd_T32 l0_1 x3_1).f3), .int .i64 0, .int .i64 0, .int .i64 0]) ?_ 4 _ rfl; (with_reducible repeat (first | refine blk_drewN ?_ _ | refine blk_drew ?_ | refine blk_alloc ?_ _)); refine blk_put (cs := #[.int .i64 ((rd_T32 l0_1 x3_1).f0), .int .i64 ((rd_T32 l0_1 x3_1).f1), .int .i64 ((rd_T32 l0_1 x3_1).f2), .bool false, .int .i64 0, .int .i64 0, .int .i64 0]) ?_ 3 _ rfl; (with_reducible repeat (first | refine blk_drewN ?_ _ | refine blk_drew ?_ | refine blk_alloc ?_ _)); refine blk_put (cs := #[.int .i64 ((rd_T32 l0_1 x3_1).f0), .int .i64 ((rd_T32 l0_1 x3_1).f1), .int .i64 0, .bool false, .int .i64 0, .int .i64 0, .int .i64 0]) ?_ 2 _ rfl; (with_reducible repeat (first | refine blk_drewN ?_ _ | refine blk_drew ?_ | refine blk_alloc ?_ _)); refine blk_put (cs := #[.int .i64 ((rd_T32 l0_1 x3_1).f0), .int .i64 0, .int .i64 0, .bool false, .int .i64 0, .int .i64 0, .int .i64 0]) ?_ 1 _ rfl; (with_reducible repeat (first | refine blk_drewN ?_ _ | refine blk_drew ?_ | refine blk_alloc ?_ _)); refine blk_put (cs := #[.int .i64 0, .int .i64 0, .int .i64 0, .bool false, .int .i64 0, .int .i64 0, .int .i64 0]) ?_ 0 _ rfl; (with_reducible repeat (first | refine blk_drewN ?_ _ | refine blk_drew ?_ | refine blk_alloc ?_ _)); exact BK132.out⟩, ⟨by repeat (first | (with_reducible first | exact HB.out | apply below_alloc | apply pw_below_drewN | apply below_drew1 | refine below_set ?_ GE130.out | refine below_set ?_ GE132.out) | exact HB.out)⟩⟩
          case rest =>
            clear HC5
            try clear c1
            try clear p1
            try clear q1
            try clear hx1
            try clear p2
            try clear c3
            try clear c3b0
            try clear c4
            try clear c4b0
            try clear c8
            try clear c11
            try clear c13
            try clear p13
            try clear q13
            try clear hx13
            try clear c15
            try clear c17
            try clear c19
            try clear hcz16_0
            try clear hcz16_1
            try clear hcz16_2
            try clear hcz16_3
            try clear hcz16_4
            try clear hcz16_5
            try clear hcz16_6
            try clear hcz18_0
            try clear hcz18_1
            try clear hcz18_2
            try clear hcz18_3
            try clear hcz18_4
            try clear hcz18_5
            try clear hcz18_6
            try clear hcz20_0
            try clear hcz20_1
            try clear hcz20_2
            try clear hcz20_3
            try clear hcz20_4
            try clear hcz20_5
            try clear hcz20_6
            try clear hcz6_0
            try clear hcz6_1
            try clear hcz9_0
            try clear hcz9_1
            try clear hcz9_2
            try clear hcz9_3
            try clear hcz9_4
            try clear hcz9_5
            try clear hcz9_6
            try clear hfz16_0
            try clear hfz16_1
            try clear hfz16_2
            try clear hfz16_3
            try clear hfz16_4
            try clear hfz16_5
            try clear hfz16_6
            try clear hfz18_0
            try clear hfz18_1
            try clear hfz18_2
            try clear hfz18_3
            try clear hfz18_4
            try clear hfz18_5
            try clear hfz18_6
            try clear hfz20_0
            try clear hfz20_1
            try clear hfz20_2
            try clear hfz20_3
            try clear hfz20_4
            try clear hfz20_5
            try clear hfz20_6
            try clear hfz6_0
            try clear hfz6_1
            try clear hfz9_0
            try clear hfz9_1
            try clear hfz9_2
            try clear hfz9_3
            try clear hfz9_4
            try clear hfz9_5
            try clear hfz9_6
            try clear hx131_0
            try clear hx131_1
            try clear hx131_2
            try clear hx131_3
            try clear hx131_4
            try clear hx131_5
            try clear hx131_6
            try clear p131
            try clear p2
            try clear q131
            obtain ⟨kq, x32_4, rfl, HA, HJ4, BK130, BK132, HB⟩ := hcut
            cases kq with
            | zero => exact absurd HA.out (by simp [almanacref16_Fit.j1])
            | succ kj4 =>
              have H := HA.out
              clear HA
              simp only [almanacref16_Fit.j1] at H
              by_cases c21 : x32_4 = true
              · subst c21
                have H1 : (some false) = some r := by rw [if_pos rfl] at H; exact H
                clear H
                have H := H1
                clear H1
                obtain rfl := Option.some.inj H
                go_wp2
                go_ret
                exact ⟨by first | rfl | (simp [errW_none, errW_some] <;> rfl) | (simp [*, errW_none, errW_some] <;> rfl), by repeat (first | (with_reducible first | exact HB.out | apply below_alloc | apply pw_below_drewN | apply below_drew1 | refine below_set ?_ GE130.out | refine below_set ?_ GE132.out) | exact HB.out)⟩
              · replace c21 := Bool.eq_false_iff.mpr c21
                subst c21
                have H1 : (if ((rd_T32 l0_1 x3_1).f3) = true then (if ((rd_T32 l0_1 x3_1).f4) < 1 then (some false) else (if ((rd_T32 l0_1 x3_1).f4) > 12 then (some false) else ((almanacref16_nth.f ((rd_T32 l0_1 x3_1).f5.f0) ((rd_T32 l0_1 x3_1).f5.f1)).bind fun t136 => (if t136 = true then (almanacref16_Fit.l0 kj4 (wrap64 (x3_1 + 1)) a0_0 l0_1) else (some false))))) else (if ((rd_T32 l0_1 x3_1).f4) = 0 then (if (!(((rd_T32 l0_1 x3_1).f5.f0) == 0) || (!(((rd_T32 l0_1 x3_1).f5.f1) == 0))) = true then (some false) else (almanacref16_Fit.l0 kj4 (wrap64 (x3_1 + 1)) a0_0 l0_1)) else (some false))) = some r := by rw [if_neg (show ¬ (false = true) by decide)] at H; exact H
                clear H
                have H := H1
                clear H1
                by_cases c22 : ((rd_T32 l0_1 x3_1).f3) = true
                · rw [if_pos c22] at H
                  have c22b0 : ((rd_T32 l0_1 x3_1).f3) = true := c22
                  clear c22
                  by_cases c23 : ((rd_T32 l0_1 x3_1).f4) < 1
                  · rw [if_pos c23] at H
                    have c23b0 : decide (((rd_T32 l0_1 x3_1).f4) < 1) = true := decide_eq_true c23
                    clear c23
                    obtain rfl := Option.some.inj H
                    have hnb24 := NB132_130.out
                    have hnc24 := NB130_132.out
                    have hcz25_0 : wc.cell? ⟨gb132, 0, none⟩ = some (.int .i64 ((rd_T32 l0_1 x3_1).f0)) := (blk_cell BK132.out 0).trans rfl
                    have hcz25_1 : wc.cell? ⟨gb132, 1, none⟩ = some (.int .i64 ((rd_T32 l0_1 x3_1).f1)) := (blk_cell BK132.out 1).trans rfl
                    have hcz25_2 : wc.cell? ⟨gb132, 2, none⟩ = some (.int .i64 ((rd_T32 l0_1 x3_1).f2)) := (blk_cell BK132.out 2).trans rfl
                    have hcz25_3 : wc.cell? ⟨gb132, 3, none⟩ = some (.bool ((rd_T32 l0_1 x3_1).f3)) := (blk_cell BK132.out 3).trans rfl
                    have hcz25_4 : wc.cell? ⟨gb132, 4, none⟩ = some (.int .i64 ((rd_T32 l0_1 x3_1).f4)) := (blk_cell BK132.out 4).trans rfl
                    have hcz25_5 : wc.cell? ⟨gb132, 5, none⟩ = some (.int .i64 ((rd_T32 l0_1 x3_1).f5.f0)) := (blk_cell BK132.out 5).trans rfl
                    have hcz25_6 : wc.cell? ⟨gb132, 6, none⟩ = some (.int .i64 ((rd_T32 l0_1 x3_1).f5.f1)) := (blk_cell BK132.out 6).trans rfl
                    have hfz25_0 := blk_frozen BK132.out 0
                    have hfz25_1 := blk_frozen BK132.out 1
                    have hfz25_2 := blk_frozen BK132.out 2
                    have hfz25_3 := blk_frozen BK132.out 3
                    have hfz25_4 := blk_frozen BK132.out 4
                    have hfz25_5 := blk_frozen BK132.out 5
                    have hfz25_6 := blk_frozen BK132.out 6
                    go_wp2
                    go_ret
                    exact ⟨by first | rfl | (simp [errW_none, errW_some] <;> rfl) | (simp [*, errW_none, errW_some] <;> rfl), by repeat (first | (with_reducible first | exact HB.out | apply below_alloc | apply pw_below_drewN | apply below_drew1 | refine below_set ?_ GE130.out | refine below_set ?_ GE132.out) | exact HB.out)⟩
                  · rw [if_neg c23] at H
                    have c23b0 : decide (((rd_T32 l0_1 x3_1).f4) < 1) = false := decide_eq_false c23
                    clear c23
                    by_cases c26 : ((rd_T32 l0_1 x3_1).f4) > 12
                    · rw [if_pos c26] at H
                      have c26b0 : decide (12 < ((rd_T32 l0_1 x3_1).f4)) = true := decide_eq_true c26
                      clear c26
                      obtain rfl := Option.some.inj H
                      have hnb27 := NB132_130.out
                      have hnc27 := NB130_132.out
                      have hcz28_0 : wc.cell? ⟨gb132, 0, none⟩ = some (.int .i64 ((rd_T32 l0_1 x3_1).f0)) := (blk_cell BK132.out 0).trans rfl
                      have hcz28_1 : wc.cell? ⟨gb132, 1, none⟩ = some (.int .i64 ((rd_T32 l0_1 x3_1).f1)) := (blk_cell BK132.out 1).trans rfl
                      have hcz28_2 : wc.cell? ⟨gb132, 2, none⟩ = some (.int .i64 ((rd_T32 l0_1 x3_1).f2)) := (blk_cell BK132.out 2).trans rfl
                      have hcz28_3 : wc.cell? ⟨gb132, 3, none⟩ = some (.bool ((rd_T32 l0_1 x3_1).f3)) := (blk_cell BK132.out 3).trans rfl
                      have hcz28_4 : wc.cell? ⟨gb132, 4, none⟩ = some (.int .i64 ((rd_T32 l0_1 x3_1).f4)) := (blk_cell BK132.out 4).trans rfl
                      have hcz28_5 : wc.cell? ⟨gb132, 5, none⟩ = some (.int .i64 ((rd_T32 l0_1 x3_1).f5.f0)) := (blk_cell BK132.out 5).trans rfl
                      have hcz28_6 : wc.cell? ⟨gb132, 6, none⟩ = some (.int .i64 ((rd_T32 l0_1 x3_1).f5.f1)) := (blk_cell BK132.out 6).trans rfl
                      have hfz28_0 := blk_frozen BK132.out 0
                      have hfz28_1 := blk_frozen BK132.out 1
                      have hfz28_2 := blk_frozen BK132.out 2
                      have hfz28_3 := blk_frozen BK132.out 3
                      have hfz28_4 := blk_frozen BK132.out 4
                      have hfz28_5 := blk_frozen BK132.out 5
                      have hfz28_6 := blk_frozen BK132.out 6
                      go_wp2
                      go_ret
                      exact ⟨by first | rfl | (simp [errW_none, errW_some] <;> rfl) | (simp [*, errW_none, errW_some] <;> rfl), by repeat (first | (with_reducible first | exact HB.out | apply below_alloc | apply pw_below_drewN | apply below_drew1 | refine below_set ?_ GE130.out | refine below_set ?_ GE132.out) | exact HB.out)⟩
                    · rw [if_neg c26] at H
                      have c26b0 : decide (12 < ((rd_T32 l0_1 x3_1).f4)) = false := decide_eq_false c26
                      clear c26
                      replace H := Option.bind_eq_some_iff.mp H
                      obtain ⟨t136, A290, H⟩ := H
                      replace H : (if t136 = true then (almanacref16_Fit.l0 kj4 (wrap64 (x3_1 + 1)) a0_0 l0_1) else (some false)) = some r := H
                      have A29 := Aside0.mk A290
                      clear A290
                      by_cases c30 : t136 = true
                      · subst c30
                        have H1 : (almanacref16_Fit.l0 kj4 (wrap64 (x3_1 + 1)) a0_0 l0_1) = some r := by rw [if_pos rfl] at H; exact H
                        clear H
                        have H := H1
                        clear H1
                        have H' := Aside0.mk H
                        clear H
                        have hnb31 := NB132_130.out
                        have hnc31 := NB130_132.out
                        have hcz32_0 : wc.cell? ⟨gb132, 0, none⟩ = some (.int .i64 ((rd_T32 l0_1 x3_1).f0)) := (blk_cell BK132.out 0).trans rfl
                        have hcz32_1 : wc.cell? ⟨gb132, 1, none⟩ = some (.int .i64 ((rd_T32 l0_1 x3_1).f1)) := (blk_cell BK132.out 1).trans rfl
                        have hcz32_2 : wc.cell? ⟨gb132, 2, none⟩ = some (.int .i64 ((rd_T32 l0_1 x3_1).f2)) := (blk_cell BK132.out 2).trans rfl
                        have hcz32_3 : wc.cell? ⟨gb132, 3, none⟩ = some (.bool ((rd_T32 l0_1 x3_1).f3)) := (blk_cell BK132.out 3).trans rfl
                        have hcz32_4 : wc.cell? ⟨gb132, 4, none⟩ = some (.int .i64 ((rd_T32 l0_1 x3_1).f4)) := (blk_cell BK132.out 4).trans rfl
                        have hcz32_5 : wc.cell? ⟨gb132, 5, none⟩ = some (.int .i64 ((rd_T32 l0_1 x3_1).f5.f0)) := (blk_cell BK132.out 5).trans rfl
                        have hcz32_6 : wc.cell? ⟨gb132, 6, none⟩ = some (.int .i64 ((rd_T32 l0_1 x3_1).f5.f1)) := (blk_cell BK132.out 6).trans rfl
                        have hfz32_0 := blk_frozen BK132.out 0
                        have hfz32_1 := blk_frozen BK132.out 1
                        have hfz32_2 := blk_frozen BK132.out 2
                        have hfz32_3 := blk_frozen BK132.out 3
                        have hfz32_4 := blk_frozen BK132.out 4
                        have hfz32_5 := blk_frozen BK132.out 5
                        have hfz32_6 := blk_frozen BK132.out 6
                        go_wp2_with (first | (go_at_call 33; (with_reducible refine (almanacref16_nth.calls ((rd_T32 l0_1 x3_1).f5.f0) ((rd_T32 l0_1 x3_1).f5.f1) true _ A29.out).mono ?_); rintro e w33 ⟨rfl, hb⟩; have n0_ := Aside0.mk (blk_below (g := gb130) (o := .cells #[.string a0_0, .slice (some ad131) l0_1.length c0_1] 24 (0, 0)) (by (with_reducible repeat (first | refine blk_drewN ?_ _ | refine blk_drew ?_ | refine blk_alloc ?_ _)); exact BK130.out) hb); have n1_ := Aside0.mk (blk_below (g := gb132) (o := .cells #[.int .i64 ((rd_T32 l0_1 x3_1).f0), .int .i64 ((rd_T32 l0_1 x3_1).f1), .int .i64 ((rd_T32 l0_1 x3_1).f2), .bool ((rd_T32 l0_1 x3_1).f3), .int .i64 ((rd_T32 l0_1 x3_1).f4), .int .i64 ((rd_T32 l0_1 x3_1).f5.f0), .int .i64 ((rd_T32 l0_1 x3_1).f5.f1)] 32 (0, 0)) (by (with_reducible repeat (first | refine blk_drewN ?_ _ | refine blk_drew ?_ | refine blk_alloc ?_ _)); exact BK132.out) hb); have n2_ := Aside0.mk (below_step (by repeat (first | (with_reducible first | exact HB.out | apply below_alloc | apply pw_below_drewN | apply below_drew1 | refine below_set ?_ GE130.out | refine below_set ?_ GE132.out) | exact HB.out)) hb); clear BK130; clear BK132; clear HB; have BK130 := n0_; have BK132 := n1_; have HB := n2_; clear n0_ n1_ n2_; (try clear hb); (try clear hb2); (try clear hk); (try clear hi); have hcz34_0 : w33.cell? ⟨gb132, 0, none⟩ = some (.int .i64 ((rd_T32 l0_1 x3_1).f0)) := (blk_cell BK132.out 0).trans rfl; have hcz34_1 : w33.cell? ⟨gb132, 1, none⟩ = some (.int .i64 ((rd_T32 l0_1 x3_1).f1)) := (blk_cell BK132.out 1).trans rfl; have hcz34_2 : w33.cell? ⟨gb132, 2, none⟩ = some (.int .i64 ((rd_T32 l0_1 x3_1).f2)) := (blk_cell BK132.out 2).trans rfl; have hcz34_3 : w33.cell? ⟨gb132, 3, none⟩ = some (.bool ((rd_T32 l0_1 x3_1).f3)) := (blk_cell BK132.out 3).trans rfl; have hcz34_4 : w33.cell? ⟨gb132, 4, none⟩ = some (.int .i64 ((rd_T32 l0_1 x3_1).f4)) := (blk_cell BK132.out 4).trans rfl; have hcz34_5 : w33.cell? ⟨gb132, 5, none⟩ = some (.int .i64 ((rd_T32 l0_1 x3_1).f5.f0)) := (blk_cell BK132.out 5).trans rfl; have hcz34_6 : w33.cell? ⟨gb132, 6, none⟩ = some (.int .i64 ((rd_T32 l0_1 x3_1).f5.f1)) := (blk_cell BK132.out 6).trans rfl; have hfz34_0 := blk_frozen BK132.out 0; have hfz34_1 := blk_frozen BK132.out 1; have hfz34_2 := blk_frozen BK132.out 2; have hfz34_3 := blk_frozen BK132.out 3; have hfz34_4 := blk_frozen BK132.out 4; have hfz34_5 := blk_frozen BK132.out 5; have hfz34_6 := blk_frozen BK132.out 6))
                        go_roundg kj4
                        case measure => have := HK1.out; have := HJ4.out; omega
                        case rel => exact ⟨(wrap64 (x3_1 + 1)), (by first | rfl | (simp; done) | (simp [*]; done)), H', ⟨by have := HK1.out; have := HJ4.out; omega⟩, ⟨by (with_reducible repeat (first | refine blk_drewN ?_ _ | refine blk_drew ?_ | refine blk_alloc ?_ _)); exact BK130.out⟩, ⟨by repeat (first | (with_reducible first | exact HB.out | apply below_alloc | apply pw_below_drewN | apply below_drew1 | refine below_set ?_ GE130.out | refine below_set ?_ GE132.out) | exact HB.out)⟩⟩
                      · replace c30 := Bool.eq_false_iff.mpr c30
                        subst c30
                        have H1 : (some false) = some r := by rw [if_neg (show ¬ (false = true) by decide)] at H; exact H
                        clear H
                        have H := H1
                        clear H1
                        obtain rfl := Option.some.inj H
                        have hnb35 := NB132_130.out
                        have hnc35 := NB130_132.out
                        have hcz36_0 : wc.cell? ⟨gb132, 0, none⟩ = some (.int .i64 ((rd_T32 l0_1 x3_1).f0)) := (blk_cell BK132.out 0).trans rfl
                        have hcz36_1 : wc.cell? ⟨gb132, 1, none⟩ = some (.int .i64 ((rd_T32 l0_1 x3_1).f1)) := (blk_cell BK132.out 1).trans rfl
                        have hcz36_2 : wc.cell? ⟨gb132, 2, none⟩ = some (.int .i64 ((rd_T32 l0_1 x3_1).f2)) := (blk_cell BK132.out 2).trans rfl
                        have hcz36_3 : wc.cell? ⟨gb132, 3, none⟩ = some (.bool ((rd_T32 l0_1 x3_1).f3)) := (blk_cell BK132.out 3).trans rfl
                        have hcz36_4 : wc.cell? ⟨gb132, 4, none⟩ = some (.int .i64 ((rd_T32 l0_1 x3_1).f4)) := (blk_cell BK132.out 4).trans rfl
                        have hcz36_5 : wc.cell? ⟨gb132, 5, none⟩ = some (.int .i64 ((rd_T32 l0_1 x3_1).f5.f0)) := (blk_cell BK132.out 5).trans rfl
                        have hcz36_6 : wc.cell? ⟨gb132, 6, none⟩ = some (.int .i64 ((rd_T32 l0_1 x3_1).f5.f1)) := (blk_cell BK132.out 6).trans rfl
                        have hfz36_0 := blk_frozen BK132.out 0
                        have hfz36_1 := blk_frozen BK132.out 1
                        have hfz36_2 := blk_frozen BK132.out 2
                        have hfz36_3 := blk_frozen BK132.out 3
                        have hfz36_4 := blk_frozen BK132.out 4
                        have hfz36_5 := blk_frozen BK132.out 5
                        have hfz36_6 := blk_frozen BK132.out 6
                        go_wp2_with (first | (go_at_call 33; (with_reducible refine (almanacref16_nth.calls ((rd_T32 l0_1 x3_1).f5.f0) ((rd_T32 l0_1 x3_1).f5.f1) false _ A29.out).mono ?_); rintro e w37 ⟨rfl, hb⟩; have n0_ := Aside0.mk (blk_below (g := gb130) (o := .cells #[.string a0_0, .slice (some ad131) l0_1.length c0_1] 24 (0, 0)) (by (with_reducible repeat (first | refine blk_drewN ?_ _ | refine blk_drew ?_ | refine blk_alloc ?_ _)); exact BK130.out) hb); have n1_ := Aside0.mk (blk_below (g := gb132) (o := .cells #[.int .i64 ((rd_T32 l0_1 x3_1).f0), .int .i64 ((rd_T32 l0_1 x3_1).f1), .int .i64 ((rd_T32 l0_1 x3_1).f2), .bool ((rd_T32 l0_1 x3_1).f3), .int .i64 ((rd_T32 l0_1 x3_1).f4), .int .i64 ((rd_T32 l0_1 x3_1).f5.f0), .int .i64 ((rd_T32 l0_1 x3_1).f5.f1)] 32 (0, 0)) (by (with_reducible repeat (first | refine blk_drewN ?_ _ | refine blk_drew ?_ | refine blk_alloc ?_ _)); exact BK132.out) hb); have n2_ := Aside0.mk (below_step (by repeat (first | (with_reducible first | exact HB.out | apply below_alloc | apply pw_below_drewN | apply below_drew1 | refine below_set ?_ GE130.out | refine below_set ?_ GE132.out) | exact HB.out)) hb); clear BK130; clear BK132; clear HB; have BK130 := n0_; have BK132 := n1_; have HB := n2_; clear n0_ n1_ n2_; (try clear hb); (try clear hb2); (try clear hk); (try clear hi)))
                        go_ret
                        exact ⟨by first | rfl | (simp [errW_none, errW_some] <;> rfl) | (simp [*, errW_none, errW_some] <;> rfl), by repeat (first | (with_reducible first | exact HB.out | apply below_alloc | apply pw_below_drewN | apply below_drew1 | refine below_set ?_ GE130.out | refine below_set ?_ GE132.out) | exact HB.out)⟩
                · rw [if_neg c22] at H
                  have c22b0 : ((rd_T32 l0_1 x3_1).f3) = false := by simpa using c22
                  clear c22
                  by_cases c38 : ((rd_T32 l0_1 x3_1).f4) = 0
                  · rw [if_pos c38] at H
                    have c38b0 : (((rd_T32 l0_1 x3_1).f4) == 0) = true := beq_iff_eq.mpr c38
                    have c38b1 : (((rd_T32 l0_1 x3_1).f4) != 0) = false := bne_eq_false_iff_eq.mpr c38
                    clear c38
                    by_cases c39 : (!(((rd_T32 l0_1 x3_1).f5.f0) == 0) || (!(((rd_T32 l0_1 x3_1).f5.f1) == 0))) = true
                    · rw [if_pos c39] at H
                      have c39b0 : (!(((rd_T32 l0_1 x3_1).f5.f0) == 0) || (!(((rd_T32 l0_1 x3_1).f5.f1) == 0))) = true := c39
                      clear c39
                      obtain rfl := Option.some.inj H
                      have hnb40 := NB132_130.out
                      have hnc40 := NB130_132.out
                      have hcz41_0 : wc.cell? ⟨gb132, 0, none⟩ = some (.int .i64 ((rd_T32 l0_1 x3_1).f0)) := (blk_cell BK132.out 0).trans rfl
                      have hcz41_1 : wc.cell? ⟨gb132, 1, none⟩ = some (.int .i64 ((rd_T32 l0_1 x3_1).f1)) := (blk_cell BK132.out 1).trans rfl
                      have hcz41_2 : wc.cell? ⟨gb132, 2, none⟩ = some (.int .i64 ((rd_T32 l0_1 x3_1).f2)) := (blk_cell BK132.out 2).trans rfl
                      have hcz41_3 : wc.cell? ⟨gb132, 3, none⟩ = some (.bool ((rd_T32 l0_1 x3_1).f3)) := (blk_cell BK132.out 3).trans rfl
                      have hcz41_4 : wc.cell? ⟨gb132, 4, none⟩ = some (.int .i64 ((rd_T32 l0_1 x3_1).f4)) := (blk_cell BK132.out 4).trans rfl
                      have hcz41_5 : wc.cell? ⟨gb132, 5, none⟩ = some (.int .i64 ((rd_T32 l0_1 x3_1).f5.f0)) := (blk_cell BK132.out 5).trans rfl
                      have hcz41_6 : wc.cell? ⟨gb132, 6, none⟩ = some (.int .i64 ((rd_T32 l0_1 x3_1).f5.f1)) := (blk_cell BK132.out 6).trans rfl
                      have hfz41_0 := blk_frozen BK132.out 0
                      have hfz41_1 := blk_frozen BK132.out 1
                      have hfz41_2 := blk_frozen BK132.out 2
                      have hfz41_3 := blk_frozen BK132.out 3
                      have hfz41_4 := blk_frozen BK132.out 4
                      have hfz41_5 := blk_frozen BK132.out 5
                      have hfz41_6 := blk_frozen BK132.out 6
                      go_wp2
                      go_ret
                      exact ⟨by first | rfl | (simp [errW_none, errW_some] <;> rfl) | (simp [*, errW_none, errW_some] <;> rfl), by repeat (first | (with_reducible first | exact HB.out | apply below_alloc | apply pw_below_drewN | apply below_drew1 | refine below_set ?_ GE130.out | refine below_set ?_ GE132.out) | exact HB.out)⟩
                    · rw [if_neg c39] at H
                      have c39b0 : (!(((rd_T32 l0_1 x3_1).f5.f0) == 0) || (!(((rd_T32 l0_1 x3_1).f5.f1) == 0))) = false := by simpa using c39
                      clear c39
                      have H' := Aside0.mk H
                      clear H
                      have hnb42 := NB132_130.out
                      have hnc42 := NB130_132.out
                      have hcz43_0 : wc.cell? ⟨gb132, 0, none⟩ = some (.int .i64 ((rd_T32 l0_1 x3_1).f0)) := (blk_cell BK132.out 0).trans rfl
                      have hcz43_1 : wc.cell? ⟨gb132, 1, none⟩ = some (.int .i64 ((rd_T32 l0_1 x3_1).f1)) := (blk_cell BK132.out 1).trans rfl
                      have hcz43_2 : wc.cell? ⟨gb132, 2, none⟩ = some (.int .i64 ((rd_T32 l0_1 x3_1).f2)) := (blk_cell BK132.out 2).trans rfl
                      have hcz43_3 : wc.cell? ⟨gb132, 3, none⟩ = some (.bool ((rd_T32 l0_1 x3_1).f3)) := (blk_cell BK132.out 3).trans rfl
                      have hcz43_4 : wc.cell? ⟨gb132, 4, none⟩ = some (.int .i64 ((rd_T32 l0_1 x3_1).f4)) := (blk_cell BK132.out 4).trans rfl
                      have hcz43_5 : wc.cell? ⟨gb132, 5, none⟩ = some (.int .i64 ((rd_T32 l0_1 x3_1).f5.f0)) := (blk_cell BK132.out 5).trans rfl
                      have hcz43_6 : wc.cell? ⟨gb132, 6, none⟩ = some (.int .i64 ((rd_T32 l0_1 x3_1).f5.f1)) := (blk_cell BK132.out 6).trans rfl
                      have hfz43_0 := blk_frozen BK132.out 0
                      have hfz43_1 := blk_frozen BK132.out 1
                      have hfz43_2 := blk_frozen BK132.out 2
                      have hfz43_3 := blk_frozen BK132.out 3
                      have hfz43_4 := blk_frozen BK132.out 4
                      have hfz43_5 := blk_frozen BK132.out 5
                      have hfz43_6 := blk_frozen BK132.out 6
                      go_wp2
                      go_roundg kj4
                      case measure => have := HK1.out; have := HJ4.out; omega
                      case rel => exact ⟨(wrap64 (x3_1 + 1)), (by first | rfl | (simp; done) | (simp [*]; done)), H', ⟨by have := HK1.out; have := HJ4.out; omega⟩, ⟨by (with_reducible repeat (first | refine blk_drewN ?_ _ | refine blk_drew ?_ | refine blk_alloc ?_ _)); exact BK130.out⟩, ⟨by repeat (first | (with_reducible first | exact HB.out | apply below_alloc | apply pw_below_drewN | apply below_drew1 | refine below_set ?_ GE130.out | refine below_set ?_ GE132.out) | exact HB.out)⟩⟩
                  · rw [if_neg c38] at H
                    have c38b0 : (((rd_T32 l0_1 x3_1).f4) == 0) = false := beq_eq_false_iff_ne.mpr c38
                    have c38b1 : (((rd_T32 l0_1 x3_1).f4) != 0) = true := bne_iff_ne.mpr c38
                    obtain rfl := Option.some.inj H
                    have hnb44 := NB132_130.out
                    have hnc44 := NB130_132.out
                    have hcz45_0 : wc.cell? ⟨gb132, 0, none⟩ = some (.int .i64 ((rd_T32 l0_1 x3_1).f0)) := (blk_cell BK132.out 0).trans rfl
                    have hcz45_1 : wc.cell? ⟨gb132, 1, none⟩ = some (.int .i64 ((rd_T32 l0_1 x3_1).f1)) := (blk_cell BK132.out 1).trans rfl
                    have hcz45_2 : wc.cell? ⟨gb132, 2, none⟩ = some (.int .i64 ((rd_T32 l0_1 x3_1).f2)) := (blk_cell BK132.out 2).trans rfl
                    have hcz45_3 : wc.cell? ⟨gb132, 3, none⟩ = some (.bool ((rd_T32 l0_1 x3_1).f3)) := (blk_cell BK132.out 3).trans rfl
                    have hcz45_4 : wc.cell? ⟨gb132, 4, none⟩ = some (.int .i64 ((rd_T32 l0_1 x3_1).f4)) := (blk_cell BK132.out 4).trans rfl
                    have hcz45_5 : wc.cell? ⟨gb132, 5, none⟩ = some (.int .i64 ((rd_T32 l0_1 x3_1).f5.f0)) := (blk_cell BK132.out 5).trans rfl
                    have hcz45_6 : wc.cell? ⟨gb132, 6, none⟩ = some (.int .i64 ((rd_T32 l0_1 x3_1).f5.f1)) := (blk_cell BK132.out 6).trans rfl
                    have hfz45_0 := blk_frozen BK132.out 0
                    have hfz45_1 := blk_frozen BK132.out 1
                    have hfz45_2 := blk_frozen BK132.out 2
                    have hfz45_3 := blk_frozen BK132.out 3
                    have hfz45_4 := blk_frozen BK132.out 4
                    have hfz45_5 := blk_frozen BK132.out 5
                    have hfz45_6 := blk_frozen BK132.out 6
                    go_wp2
                    go_ret
                    exact ⟨by first | rfl | (simp [errW_none, errW_some] <;> rfl) | (simp [*, errW_none, errW_some] <;> rfl), by repeat (first | (with_reducible first | exact HB.out | apply below_alloc | apply pw_below_drewN | apply below_drew1 | refine below_set ?_ GE130.out | refine below_set ?_ GE132.out) | exact HB.out)⟩
        · rw [if_neg c4] at H
          exact absurd H (by simp)
      · rw [if_neg c3] at H
        have c3b0 : decide (x3_1 < (l0_1.length : Int)) = false := decide_eq_false c3
        clear c3
        obtain rfl := Option.some.inj H
        have hcz46_0 : wr.cell? ⟨gb130, 0, none⟩ = some (.string a0_0) := (blk_cell BK130.out 0).trans rfl
        have hcz46_1 : wr.cell? ⟨gb130, 1, none⟩ = some (.slice A0_1 l0_1.length c0_1) := (blk_cell BK130.out 1).trans rfl
        have hfz46_0 := blk_frozen BK130.out 0
        have hfz46_1 := blk_frozen BK130.out 1
        go_wp2
        go_ret
        exact ⟨by first | rfl | (simp [errW_none, errW_some] <;> rfl) | (simp [*, errW_none, errW_some] <;> rfl), by repeat (first | (with_reducible first | exact HB.out | apply below_alloc | apply pw_below_drewN | apply below_drew1 | refine below_set ?_ GE130.out) | exact HB.out)⟩
end Go.Proofs.YtmajmolbjiahlaaGreatDoor.PD
namespace Go.Proofs.YtmajmolbjiahlaaGreatDoor.PD
open Go.RowKit Go.Proofs.YtmajmolbjiahlaaGreatDoorW.PrintWords Go.Proofs.YtmajmolbjiahlaaGreatDoorW.PrintLast Go.Proofs.YtmajmolbjiahlaaGreatDoorW.PrintMore
set_option linter.unusedVariables false
set_option linter.unusedSimpArgs false
theorem lessR (a : Int) : almanacref16_less.f a = some (winO a 86400) := by
  unfold almanacref16_less.f winO
  by_cases h : -86400 < a
  · have h' : a > -86400 := h
    simp [h']
  · have h' : ¬ a > -86400 := h
    simp [h, h']
theorem inR (a : Int) : almanacref10_In.f a = some (inO a) := by
  unfold inO almanacref10_In.f
  by_cases h : a ≥ -62135596800
  · have h' : -62135596800 ≤ a := h
    simp [h, h']
  · have h' : ¬ -62135596800 ≤ a := h
    simp [h']
theorem nthOk (a b : Int) : almanacref16_nth.f a b = some (numO a b) := by
  unfold almanacref16_nth.f numO
  by_cases h0 : a = 0
  · simp [h0]
  · by_cases h1 : -5 ≤ a
    · by_cases h2 : a ≤ 5
      · have e1 : -6 < a := by omega
        have e2 : a < 6 := by omega
        have g1 : a ≥ -5 := h1
        by_cases h3 : 0 ≤ b
        · have g2 : b ≥ 0 := h3
          simp [h0, h2, e1, e2, h3, g1]
        · have g2 : ¬ b ≥ 0 := h3
          simp [h0, h2, e1, e2, h3, g1]
      · have e2 : ¬ a < 6 := by omega
        simp [h0, h2, e2]
    · have e1 : ¬ -6 < a := by omega
      have g1 : ¬ a ≥ -5 := h1
      simp [h0, e1, g1]
theorem rd_atO {l : List S32} {i : Nat} (h : i < l.length) : rd_T32 l (i : Int) = l[i] := by simp only [rd_T32, Int.toNat_natCast]; simp [h]
theorem fit_step (nm : ByteArray) (l : List S32) (hb : l.length < 4398046511104) (i : Nat) (hi : i < l.length) (k : Nat) :
    almanacref16_Fit.l0 (k + 2) (i : Int) nm l = if fitO l[i] = true then almanacref16_Fit.l0 k ((i + 1 : Nat) : Int) nm l else some false := by
  obtain ⟨o, ho⟩ : ∃ o, l[i] = o := ⟨_, rfl⟩
  have hw : Aside0 (wrap64 ((i : Int) + 1) = ((i + 1 : Nat) : Int)) := ⟨w64n (by omega)⟩
  have hj : ∀ b : Bool, almanacref16_Fit.j1 (k + 1) (i : Int) b nm l o.f0 o.f1 o.f2 o.f3 o.f4 o.f5.f0 o.f5.f1 = if b = true then some false else if againO o = true then almanacref16_Fit.l0 k ((i + 1 : Nat) : Int) nm l else some false := by
    intro b
    simp only [almanacref16_Fit.j1]
    rw [hw.out, nthOk]
    cases b with
    | true => rfl
    | false =>
      rw [if_neg (show ¬ (false = true) by simp), if_neg (show ¬ (false = true) by simp)]
      unfold againO
      by_cases h3 : o.f3 = true
      · rw [if_pos h3, if_pos h3]
        by_cases h1 : o.f4 < 1
        · rw [if_pos h1, if_neg (by simp; omega)]
        · by_cases h2 : o.f4 > 12
          · rw [if_neg h1, if_pos h2, if_neg (by simp; omega)]
          · rw [if_neg h1, if_neg h2, Option.bind_some, decide_eq_true (show 1 ≤ o.f4 by omega), decide_eq_true (show o.f4 ≤ 12 by omega)]
            rfl
      · rw [if_neg h3, if_neg h3]
        by_cases h4 : o.f4 = 0
        · rw [if_pos h4, decide_eq_true h4]
          have e : ∀ a b : Int, (a == b) = decide (a = b) := fun a b => by rw [Bool.eq_iff_iff]; simp
          rw [e, e]
          cases decide (o.f5.f0 = 0) <;> cases decide (o.f5.f1 = 0) <;> rfl
        · rw [if_neg h4, decide_eq_false h4]
          rfl
  simp only [almanacref16_Fit.l0]
  rw [if_pos (by omega), if_pos (by omega), rd_atO hi, ho, lessR, lessR, inR]
  simp only [Option.bind_some, hj]
  unfold fitO
  cases winO o.f1 86400 <;> cases winO o.f2 86400 <;> cases inO o.f0 <;> cases againO o <;> simp
theorem Ev.skip {α : Type} {g f : Nat → Option α} {r : α} (h : ∀ k, g (k + 2) = f k) (hf : Ev f r) : Ev g r := by
  obtain ⟨K, hK⟩ := hf
  exact ⟨K + 2, fun k hk => by obtain ⟨j, rfl⟩ : ∃ j, k = j + 2 := ⟨k - 2, by omega⟩; rw [h]; exact hK j (by omega)⟩
theorem fit_loop (nm : ByteArray) (l : List S32) (hb : l.length < 4398046511104) : ∀ d i : Nat, l.length - i = d → i ≤ l.length → Ev (fun k => almanacref16_Fit.l0 k (i : Int) nm l) (decide (l.length ≤ 16) && (l.drop i).all fitO) := by
  intro d
  induction d with
  | zero =>
    intro i hd hi
    rw [List.drop_eq_nil_of_le (by omega), List.all_nil, Bool.and_true]
    refine Ev.step (f := fun _ => some (decide (l.length ≤ 16))) (fun k => by
      simp only [almanacref16_Fit.l0]
      rw [if_neg (by omega)]
      refine congrArg some ?_
      rw [Bool.eq_iff_iff, decide_eq_true_iff, decide_eq_true_iff]
      omega) (Ev.now _)
  | succ d ih =>
    intro i hd hi
    have h1 : i < l.length := by omega
    rw [List.drop_eq_getElem_cons h1, List.all_cons]
    refine Ev.skip (fun k => fit_step nm l hb i h1 k) ?_
    by_cases h : fitO l[i] = true
    · rw [h, Bool.true_and]
      exact Ev.congr (fun k => if_pos rfl) (ih (i + 1) (by omega) (by omega))
    · have h' : fitO l[i] = false := by simpa using h
      rw [h', Bool.false_and, Bool.and_false]
      exact Ev.congr (fun k => if_neg (by simp)) (Ev.now _)
theorem fitZ_all (l : List S32) : fitZ l = (decide (l.length ≤ 16) && l.all fitO) := by
  unfold fitZ
  congr 1
  rw [Bool.eq_iff_iff]
  simp
theorem fitR (nm : ByteArray) (l : List S32) (hb : l.length < 4398046511104) : Ev (fun k => almanacref16_Fit.f k nm l) (fitZ l) := by
  rw [fitZ_all]
  exact Ev.congr (fun k => rfl) (fit_loop nm l hb _ 0 rfl (Nat.zero_le _))
end Go.Proofs.YtmajmolbjiahlaaGreatDoor.PD
namespace Go.Proofs.YtmajmolbjiahlaaGreatDoor.PD
open Go.RowKit Go.Proofs.YtmajmolbjiahlaaGreatDoorW.PrintWords Go.Proofs.YtmajmolbjiahlaaGreatDoorW.PrintLast Go.Proofs.YtmajmolbjiahlaaGreatDoorW.PrintMore
attribute [local go_sem] isSome_setCell
set_option linter.unusedVariables false
set_option linter.unusedSimpArgs false
def byteN (s : ByteArray) (i : Nat) : Nat := (s.data.getD i 0).toNat
theorem bytesW_cell (w : World) (s : ByteArray) (j : Nat) (hj : j < s.size) : (Lib.bytesWorld w 5 s).cell? ⟨w.heap.size, j, none⟩ = some (.int .u8 (byteN s j : Nat)) := by
  rw [Lib.bytesWorld_cell w 5 s j hj]
  simp [byteN, List.getD_eq_getElem?_getD, Array.getD_eq_getD_getElem?]
def dgt (b : Nat) : Bool := decide (48 ≤ b) && decide (b ≤ 57)
def numGo (s : ByteArray) : Nat → Nat → Int → Option Int
  | 0, _, n => some n
  | d + 1, i, n => if dgt (byteN s i) = true then numGo s d (i + 1) (n * 10 + ((byteN s i : Int) - 48)) else none
def numS (s : ByteArray) (most : Int) : Int × Bool :=
  if s.size = 0 ∨ 18 < s.size then (0, false) else match numGo s s.size 0 0 with
    | none => (0, false)
    | some n => if n > most then (0, false) else (n, true)
theorem byteN_lt (s : ByteArray) (i : Nat) : byteN s i < 256 := by
  unfold byteN
  exact UInt8.toNat_lt _
theorem isEmpty_of (a : ByteArray) (h : a.size = 0) : a.toList.isEmpty = true := by
  have h' : a.data.size = 0 := h
  rw [ByteArray.toList_eq, List.isEmpty_iff, Array.toList_eq_nil_iff]
  exact Array.size_eq_zero_iff.1 h'
theorem isEmpty_not (a : ByteArray) (h : ¬ a.size = 0) : a.toList.isEmpty = false := by
  cases hh : a.toList.isEmpty with
  | false => rfl
  | true =>
    rw [ByteArray.toList_eq, List.isEmpty_iff, Array.toList_eq_nil_iff] at hh
    exact absurd (show a.data.size = 0 by rw [hh]; rfl) h
theorem num_bad (s : ByteArray) (most : Int) (hz : s.size ≠ 0) {g : Option Int} {d : Bool} (h : numGo s s.size 0 0 = if d = true then g else none) (hd : d = false) : numS s most = (0, false) := by
  unfold numS
  split
  · rfl
  · rw [h, hd]; rfl
theorem pow10_le (i : Nat) (h : i ≤ 17) : (10 : Int) ^ i ≤ 100000000000000000 := by
  have : ∀ i : Fin 18, (10 : Int) ^ i.val ≤ 100000000000000000 := by decide
  exact this ⟨i, by omega⟩
def text_Number.f (a0 : ByteArray) (a1 : Int) : Option (Int × Bool) := some (numS a0 a1)
set_option maxRecDepth 100000 in
set_option maxHeartbeats 4000000 in
theorem text_Number.calls (a0 : ByteArray) (a1 : Int) (r1 : Int) (r2 : Bool) (w : World) (h : text_Number.f a0 a1 = some (r1, r2)) :
    Calls Tryz.prog 80 #[.string a0, .int .i64 a1] w fun e w' => e = .returned (.tuple #[.int .i64 r1, .bool r2]) ∧ Below w.heap.size w w' := by
  have h' : numS a0 a1 = (r1, r2) := Option.some.inj h
  clear h
  have hcv := fun W => Lib.run_convert_string_bytes (P := Tryz.prog) W 9 111 5 a0 Tryz.underlying9 Tryz.underlying111 Tryz.underlying5
  have hB1 : Below w.heap.size w (Lib.bytesWorld w 5 a0) := ⟨rfl, rfl, rfl, by rw [Lib.bytesWorld_size]; exact Nat.le_succ _, fun k hk => Lib.bytesWorld_at_old w 5 a0 k hk⟩
  have HB := Aside0.mk hB1
  have HCL := Aside0.mk (fun j hj => bytesW_cell w a0 j hj)
  clear hB1
  have H := Aside0.mk h'
  clear h'
  have HP := Aside0.mk pow10_le
  go_enter Tryz.func80, Tryz.ntmps80
  go_wp2
  clear hcv
  go_loopw [6, 12] (fun v6 v12 wr => ∃ (i : Nat) (n : Int), v6 = .int .i64 n ∧ v12 = .int .i64 (i : Int) ∧ i ≤ a0.size ∧ Aside0 (0 ≤ n ∧ n < (10 : Int) ^ i) ∧ Aside0 (a0.size ≤ 18 ∨ i = 0) ∧ Aside0 (numGo a0 (a0.size - i) i n = numGo a0 a0.size 0 0) ∧ wr = Lib.bytesWorld w 5 a0) (fun _ v12 _ => a0.size - (intOf v12).toNat)
  case atStart => exact ⟨0, 0, rfl, rfl, Nat.zero_le _, ⟨by omega, by decide⟩, ⟨.inr rfl⟩, ⟨by rw [Nat.sub_zero]⟩, rfl⟩
  case round =>
    obtain ⟨i, n, rfl, rfl, hi, HNB, H18, HG, rfl⟩ := hrel
    by_cases hlt : i < a0.size
    · have hlt0 : decide ((i : Int) < (a0.size : Int)) = true := decide_eq_true (by omega)
      have hc := HCL.out i hlt
      have hb := byteN_lt a0 i
      have hstep : numGo a0 (a0.size - i) i n = if dgt (byteN a0 i) = true then numGo a0 (a0.size - (i + 1)) (i + 1) (n * 10 + ((byteN a0 i : Int) - 48)) else none := by
        rw [show a0.size - i = (a0.size - (i + 1)) + 1 by omega]
        rfl
      rw [HG.out] at hstep
      obtain ⟨b, hbb⟩ : ∃ b, byteN a0 i = b := ⟨_, rfl⟩
      rw [hbb] at hc hb hstep
      clear hbb
      by_cases h1 : b < 48
      · have e1 : decide ((b : Int) < 48) = true := decide_eq_true (by omega)
        have hr := num_bad a0 a1 (by omega) hstep (by unfold dgt; rw [decide_eq_false (by omega)]; simp)
        rw [H.out] at hr
        obtain ⟨rfl, rfl⟩ := Prod.mk.inj hr
        go_wp2
        go_ret2
        exact ⟨rfl, HB.out⟩
      · have e1 : decide ((b : Int) < 48) = false := decide_eq_false (by omega)
        by_cases h2 : 57 < b
        · have e2 : decide (57 < (b : Int)) = true := decide_eq_true (by omega)
          have hr := num_bad a0 a1 (by omega) hstep (by unfold dgt; rw [decide_eq_false (show ¬ b ≤ 57 by omega)]; simp)
          rw [H.out] at hr
          obtain ⟨rfl, rfl⟩ := Prod.mk.inj hr
          go_wp2
          go_ret2
          exact ⟨rfl, HB.out⟩
        · have e2 : decide (57 < (b : Int)) = false := decide_eq_false (by omega)
          by_cases h3 : 18 < a0.size
          · have e3 : decide (18 < (a0.size : Int)) = true := decide_eq_true (by omega)
            have hr : numS a0 a1 = (0, false) := by unfold numS; rw [if_pos (.inr h3)]
            rw [H.out] at hr
            obtain ⟨rfl, rfl⟩ := Prod.mk.inj hr
            go_wp2
            go_ret2
            exact ⟨rfl, HB.out⟩
          · have e3 : decide (18 < (a0.size : Int)) = false := decide_eq_false (by omega)
            have hp := HP.out i (by omega)
            have hn := HNB.out
            have w1 : IntKind.u8.wrap ((b : Int) - 48) = (b : Int) - 48 := by simp only [IntKind.wrap, IntKind.bits]; simp; omega
            have w2 : IntKind.i64.wrap (n * 10) = n * 10 := by rw [i64_w]; simp only [wrap64]; omega
            have w3 : IntKind.i64.wrap ((b : Int) - 48) = (b : Int) - 48 := by rw [i64_w]; simp only [wrap64]; omega
            have w4 : IntKind.i64.wrap (n * 10 + ((b : Int) - 48)) = n * 10 + ((b : Int) - 48) := by rw [i64_w]; simp only [wrap64]; omega
            go_wp2
            go_roundw
            case rel =>
              refine ⟨i + 1, n * 10 + ((b : Int) - 48), rfl, by simp, hlt, ⟨by omega, by rw [Int.pow_succ]; omega⟩, ⟨.inl (by omega)⟩, ⟨?_⟩, trivial⟩
              rw [hstep, if_pos (by unfold dgt; rw [decide_eq_true (by omega), decide_eq_true (by omega)]; rfl)]
            case measure => show a0.size - (((i : Int) + 1)).toNat < a0.size - ((i : Int)).toNat; omega
    · have hlt0 : decide ((i : Int) < (a0.size : Int)) = false := decide_eq_false (by omega)
      obtain rfl : i = a0.size := by omega
      have hg := HG.out
      rw [Nat.sub_self] at hg
      by_cases hz : a0.size = 0
      · have eE : a0.toList.isEmpty = true := isEmpty_of a0 hz
        have hr : numS a0 a1 = (0, false) := by unfold numS; rw [if_pos (.inl hz)]
        rw [H.out] at hr
        obtain ⟨rfl, rfl⟩ := Prod.mk.inj hr
        go_wp2
        go_ret2
        exact ⟨rfl, HB.out⟩
      · have eE : a0.toList.isEmpty = false := isEmpty_not a0 hz
        have hr : numS a0 a1 = if n > a1 then (0, false) else (n, true) := by
          unfold numS
          rw [if_neg (by have := H18.out; omega), ← hg]
          rfl
        rw [H.out] at hr
        by_cases h4 : a1 < n
        · have e4 : decide (a1 < n) = true := decide_eq_true h4
          rw [if_pos h4] at hr
          obtain ⟨rfl, rfl⟩ := Prod.mk.inj hr
          go_wp2
          go_ret2
          exact ⟨rfl, HB.out⟩
        · have e4 : decide (a1 < n) = false := decide_eq_false h4
          rw [if_neg h4] at hr
          obtain ⟨rfl, rfl⟩ := Prod.mk.inj hr
          go_wp2
          go_ret2
          exact ⟨rfl, HB.out⟩
end Go.Proofs.YtmajmolbjiahlaaGreatDoor.PD
namespace Go.Proofs.YtmajmolbjiahlaaGreatDoor.PD
open Go.RowKit Go.Proofs.YtmajmolbjiahlaaGreatDoorW.PrintWords Go.Proofs.YtmajmolbjiahlaaGreatDoorW.PrintLast Go.Proofs.YtmajmolbjiahlaaGreatDoorW.PrintMore
attribute [local go_sem] isSome_setCell max2_int min2_int max_two min_two max_three min_three max_four min_four
set_option linter.unusedVariables false
set_option linter.unusedSimpArgs false
def date_field.f (a0 : ByteArray) (a1 : Int) (a2 : Int) : Option (Int) := if 0 ≤ a1 then (if a1 ≤ (wrap64 (a1 + a2)) then (if (wrap64 (a1 + a2)) ≤ (a0.size : Int) then ((text_Number.f (a0.extract (a1 : Int).toNat ((wrap64 (a1 + a2)) : Int).toNat) 9999).bind fun bt221 => (if bt221.2 = true then (some bt221.1) else (some (-1)))) else (none)) else (none)) else (none)
set_option maxHeartbeats 8000000 in
set_option maxRecDepth 100000 in
theorem date_field.calls (a0 : ByteArray) (a1 : Int) (a2 : Int) (r : Int) (w : World) (h : date_field.f a0 a1 a2 = some r) :
    Calls Tryz.prog 51 #[.string a0, .int .i64 a1, .int .i64 a2] w fun e w' => e = .returned (.int .i64 r) ∧ Below w.heap.size w w' := by
  have HB := Aside0.mk (Below.refl w.heap.size w)
  have H : (if 0 ≤ a1 then (if a1 ≤ (wrap64 (a1 + a2)) then (if (wrap64 (a1 + a2)) ≤ (a0.size : Int) then ((text_Number.f (a0.extract (a1 : Int).toNat ((wrap64 (a1 + a2)) : Int).toNat) 9999).bind fun bt221 => (if bt221.2 = true then (some bt221.1) else (some (-1)))) else (none)) else (none)) else (none)) = some r := h
  clear h
  by_cases c4 : 0 ≤ a1
  · rw [if_pos c4] at H
    have c4b0 := eq_true c4
    have c4b1 : decide (0 ≤ a1) = true := decide_eq_true c4
    clear c4
    by_cases c5 : a1 ≤ (wrap64 (a1 + a2))
    · rw [if_pos c5] at H
      have c5b0 := eq_true c5
      have c5b1 : decide (a1 ≤ (wrap64 (a1 + a2))) = true := decide_eq_true c5
      by_cases c6 : (wrap64 (a1 + a2)) ≤ (a0.size : Int)
      · rw [if_pos c6] at H
        have c6b0 := eq_true c6
        have c6b1 : decide ((wrap64 (a1 + a2)) ≤ (a0.size : Int)) = true := decide_eq_true c6
        replace H := Option.bind_eq_some_iff.mp H
        obtain ⟨⟨t221, t222⟩, A70, H⟩ := H
        replace H : (if t222 = true then (some t221) else (some (-1))) = some r := H
        have A7 := Aside0.mk A70
        clear A70
        by_cases c8 : t222 = true
        · subst c8
          have H1 : (some t221) = some r := by rw [if_pos rfl] at H; exact H
          clear H
          have H := H1
          clear H1
          obtain rfl := Option.some.inj H
          go_enter Tryz.func51, Tryz.ntmps51
          go_wp2_with (first | ((with_reducible refine gate_callee (f := 80) rfl ?_); refine goesL_ (some 16) rfl rfl Tryz.func80 (by kernel_rfl) rfl #[.string (a0.extract (a1 : Int).toNat ((wrap64 (a1 + a2)) : Int).toNat), .int .i64 9999] rfl (by (try simp only [List.map_toArray, List.map_cons, List.map_nil]); first | done | rfl | (simp only [List.length_drop, List.length_take]; rfl)) ?_; (with_reducible refine (text_Number.calls (a0.extract (a1 : Int).toNat ((wrap64 (a1 + a2)) : Int).toNat) 9999 t221 true _ A7.out).mono ?_); rintro e w9 ⟨rfl, hb⟩; refine ⟨_, rfl, ?_⟩; have n0_ := Aside0.mk (below_step (by repeat (first | (with_reducible first | exact HB.out | apply below_alloc | apply pw_below_drewN | apply below_drew1) | exact HB.out)) hb); clear HB; have HB := n0_; clear n0_; (try clear hb); (try clear hb2); (try clear hk); (try clear hi)))
          go_ret
          exact ⟨by first | rfl | (simp [errW_none, errW_some] <;> rfl) | (simp [*, errW_none, errW_some] <;> rfl), by repeat (first | (with_reducible first | exact HB.out | apply below_alloc | apply pw_below_drewN | apply below_drew1) | exact HB.out)⟩
        · replace c8 := Bool.eq_false_iff.mpr c8
          subst c8
          have H1 : (some (-1)) = some r := by rw [if_neg (show ¬ (false = true) by decide)] at H; exact H
          clear H
          have H := H1
          clear H1
          obtain rfl := Option.some.inj H
          go_enter Tryz.func51, Tryz.ntmps51
          go_wp2_with (first | ((with_reducible refine gate_callee (f := 80) rfl ?_); refine goesL_ (some 16) rfl rfl Tryz.func80 (by kernel_rfl) rfl #[.string (a0.extract (a1 : Int).toNat ((wrap64 (a1 + a2)) : Int).toNat), .int .i64 9999] rfl (by (try simp only [List.map_toArray, List.map_cons, List.map_nil]); first | done | rfl | (simp only [List.length_drop, List.length_take]; rfl)) ?_; (with_reducible refine (text_Number.calls (a0.extract (a1 : Int).toNat ((wrap64 (a1 + a2)) : Int).toNat) 9999 t221 false _ A7.out).mono ?_); rintro e w10 ⟨rfl, hb⟩; refine ⟨_, rfl, ?_⟩; have n0_ := Aside0.mk (below_step (by repeat (first | (with_reducible first | exact HB.out | apply below_alloc | apply pw_below_drewN | apply below_drew1) | exact HB.out)) hb); clear HB; have HB := n0_; clear n0_; (try clear hb); (try clear hb2); (try clear hk); (try clear hi)))
          go_ret
          exact ⟨by first | rfl | (simp [errW_none, errW_some] <;> rfl) | (simp [*, errW_none, errW_some] <;> rfl), by repeat (first | (with_reducible first | exact HB.out | apply below_alloc | apply pw_below_drewN | apply below_drew1) | exact HB.out)⟩
      · rw [if_neg c6] at H
        exact absurd H (by simp)
    · rw [if_neg c5] at H
      exact absurd H (by simp)
  · rw [if_neg c4] at H
    exact absurd H (by simp)
end Go.Proofs.YtmajmolbjiahlaaGreatDoor.PD
namespace Go.Proofs.YtmajmolbjiahlaaGreatDoor.PD
open Go.RowKit Go.Proofs.YtmajmolbjiahlaaGreatDoorW.PrintWords Go.Proofs.YtmajmolbjiahlaaGreatDoorW.PrintLast Go.Proofs.YtmajmolbjiahlaaGreatDoorW.PrintMore
attribute [local go_sem] isSome_setCell max2_int min2_int max_two min_two max_three min_three max_four min_four
set_option linter.unusedVariables false
set_option linter.unusedSimpArgs false
def date_ReadDay.f (a0 : ByteArray) : Option (Int × Int) := if (a0.size : Int) = 8 then ((date_field.f a0 0 4).bind fun t229 => ((date_field.f a0 4 2).bind fun t230 => ((date_field.f a0 6 2).bind fun t231 => ((date_Days.f t229 t230 t231).bind fun bt232 => (if bt232.2 = true then (some (bt232.1, 0)) else (some (0, 10))))))) else (some (0, 10))
set_option maxHeartbeats 8000000 in
set_option maxRecDepth 100000 in
theorem date_ReadDay.calls (a0 : ByteArray) (r1 : Int) (r2 : Int) (w : World) (h : date_ReadDay.f a0 = some (r1, r2)) :
    Calls Tryz.prog 50 #[.string a0] w fun e w' => e = .returned (.tuple #[.int .i64 r1, .int .i64 r2]) ∧ Below w.heap.size w w' := by
  have HB := Aside0.mk (Below.refl w.heap.size w)
  have H : (if (a0.size : Int) = 8 then ((date_field.f a0 0 4).bind fun t229 => ((date_field.f a0 4 2).bind fun t230 => ((date_field.f a0 6 2).bind fun t231 => ((date_Days.f t229 t230 t231).bind fun bt232 => (if bt232.2 = true then (some (bt232.1, 0)) else (some (0, 10))))))) else (some (0, 10))) = some (r1, r2) := h
  clear h
  by_cases c2 : (a0.size : Int) = 8
  · rw [if_pos c2] at H
    have c2b0 : ((a0.size : Int) == 8) = true := beq_iff_eq.mpr c2
    have c2b1 : ((a0.size : Int) != 8) = false := bne_eq_false_iff_eq.mpr c2
    clear c2
    replace H := Option.bind_eq_some_iff.mp H
    obtain ⟨t229, A30, H⟩ := H
    replace H : ((date_field.f a0 4 2).bind fun t230 => ((date_field.f a0 6 2).bind fun t231 => ((date_Days.f t229 t230 t231).bind fun bt232 => (if bt232.2 = true then (some (bt232.1, 0)) else (some (0, 10)))))) = some (r1, r2) := H
    have A3 := Aside0.mk A30
    clear A30
    replace H := Option.bind_eq_some_iff.mp H
    obtain ⟨t230, A40, H⟩ := H
    replace H : ((date_field.f a0 6 2).bind fun t231 => ((date_Days.f t229 t230 t231).bind fun bt232 => (if bt232.2 = true then (some (bt232.1, 0)) else (some (0, 10))))) = some (r1, r2) := H
    have A4 := Aside0.mk A40
    clear A40
    replace H := Option.bind_eq_some_iff.mp H
    obtain ⟨t231, A50, H⟩ := H
    replace H : ((date_Days.f t229 t230 t231).bind fun bt232 => (if bt232.2 = true then (some (bt232.1, 0)) else (some (0, 10)))) = some (r1, r2) := H
    have A5 := Aside0.mk A50
    clear A50
    replace H := Option.bind_eq_some_iff.mp H
    obtain ⟨⟨t232, t233⟩, A60, H⟩ := H
    replace H : (if t233 = true then (some (t232, 0)) else (some (0, 10))) = some (r1, r2) := H
    have A6 := Aside0.mk A60
    clear A60
    by_cases c7 : t233 = true
    · subst c7
      have H1 : (some (t232, 0)) = some (r1, r2) := by rw [if_pos rfl] at H; exact H
      clear H
      have H := H1
      clear H1
      simp only [Option.some.injEq, Prod.mk.injEq] at H
      obtain ⟨rfl, rfl⟩ := H
      go_enter Tryz.func50, Tryz.ntmps50
      go_wp2_with (first | ((with_reducible refine gate_callee (f := 51) rfl ?_); refine goesL_ (some 11) rfl rfl Tryz.func51 (by kernel_rfl) rfl #[.string a0, .int .i64 0, .int .i64 4] rfl (by (try simp only [List.map_toArray, List.map_cons, List.map_nil]); first | done | rfl | (simp only [List.length_drop, List.length_take]; rfl)) ?_; (with_reducible refine (date_field.calls a0 0 4 t229 _ A3.out).mono ?_); rintro e w8 ⟨rfl, hb⟩; refine ⟨_, rfl, ?_⟩; have n0_ := Aside0.mk (below_step (by repeat (first | (with_reducible first | exact HB.out | apply below_alloc | apply pw_below_drewN | apply below_drew1) | exact HB.out)) hb); clear HB; have HB := n0_; clear n0_; (try clear hb); (try clear hb2); (try clear hk); (try clear hi)) | ((with_reducible refine gate_callee (f := 51) rfl ?_); refine goesL_ (some 13) rfl rfl Tryz.func51 (by kernel_rfl) rfl #[.string a0, .int .i64 4, .int .i64 2] rfl (by (try simp only [List.map_toArray, List.map_cons, List.map_nil]); first | done | rfl | (simp only [List.length_drop, List.length_take]; rfl)) ?_; (with_reducible refine (date_field.calls a0 4 2 t230 _ A4.out).mono ?_); rintro e w9 ⟨rfl, hb⟩; refine ⟨_, rfl, ?_⟩; have n0_ := Aside0.mk (below_step (by repeat (first | (with_reducible first | exact HB.out | apply below_alloc | apply pw_below_drewN | apply below_drew1) | exact HB.out)) hb); clear HB; have HB := n0_; clear n0_; (try clear hb); (try clear hb2); (try clear hk); (try clear hi)) | ((with_reducible refine gate_callee (f := 51) rfl ?_); refine goesL_ (some 15) rfl rfl Tryz.func51 (by kernel_rfl) rfl #[.string a0, .int .i64 6, .int .i64 2] rfl (by (try simp only [List.map_toArray, List.map_cons, List.map_nil]); first | done | rfl | (simp only [List.length_drop, List.length_take]; rfl)) ?_; (with_reducible refine (date_field.calls a0 6 2 t231 _ A5.out).mono ?_); rintro e w10 ⟨rfl, hb⟩; refine ⟨_, rfl, ?_⟩; have n0_ := Aside0.mk (below_step (by repeat (first | (with_reducible first | exact HB.out | apply below_alloc | apply pw_below_drewN | apply below_drew1) | exact HB.out)) hb); clear HB; have HB := n0_; clear n0_; (try clear hb); (try clear hb2); (try clear hk); (try clear hi)) | ((with_reducible refine gate_callee (f := 79) rfl ?_); refine goesL_ (some 16) rfl rfl Tryz.func79 (by kernel_rfl) rfl #[.int .i64 t229, .int .i64 t230, .int .i64 t231] rfl (by (try simp only [List.map_toArray, List.map_cons, List.map_nil]); first | done | rfl | (simp only [List.length_drop, List.length_take]; rfl)) ?_; (with_reducible refine (date_Days.calls t229 t230 t231 t232 true _ A6.out).mono ?_); rintro e w11 ⟨rfl, hb⟩; refine ⟨_, rfl, ?_⟩; have n0_ := Aside0.mk (below_step (by repeat (first | (with_reducible first | exact HB.out | apply below_alloc | apply pw_below_drewN | apply below_drew1) | exact HB.out)) hb); clear HB; have HB := n0_; clear n0_; (try clear hb); (try clear hb2); (try clear hk); (try clear hi)))
      go_ret2
      exact ⟨by first | rfl | (simp [errW_none, errW_some] <;> rfl) | (simp [*, errW_none, errW_some] <;> rfl), by repeat (first | (with_reducible first | exact HB.out | apply below_alloc | apply pw_below_drewN | apply below_drew1) | exact HB.out)⟩
    · replace c7 := Bool.eq_false_iff.mpr c7
      subst c7
      have H1 : (some (0, 10)) = some (r1, r2) := by rw [if_neg (show ¬ (false = true) by decide)] at H; exact H
      clear H
      have H := H1
      clear H1
      simp only [Option.some.injEq, Prod.mk.injEq] at H
      obtain ⟨rfl, rfl⟩ := H
      go_enter Tryz.func50, Tryz.ntmps50
      go_wp2_with (first | ((with_reducible refine gate_callee (f := 51) rfl ?_); refine goesL_ (some 11) rfl rfl Tryz.func51 (by kernel_rfl) rfl #[.string a0, .int .i64 0, .int .i64 4] rfl (by (try simp only [List.map_toArray, List.map_cons, List.map_nil]); first | done | rfl | (simp only [List.length_drop, List.length_take]; rfl)) ?_; (with_reducible refine (date_field.calls a0 0 4 t229 _ A3.out).mono ?_); rintro e w12 ⟨rfl, hb⟩; refine ⟨_, rfl, ?_⟩; have n0_ := Aside0.mk (below_step (by repeat (first | (with_reducible first | exact HB.out | apply below_alloc | apply pw_below_drewN | apply below_drew1) | exact HB.out)) hb); clear HB; have HB := n0_; clear n0_; (try clear hb); (try clear hb2); (try clear hk); (try clear hi)) | ((with_reducible refine gate_callee (f := 51) rfl ?_); refine goesL_ (some 13) rfl rfl Tryz.func51 (by kernel_rfl) rfl #[.string a0, .int .i64 4, .int .i64 2] rfl (by (try simp only [List.map_toArray, List.map_cons, List.map_nil]); first | done | rfl | (simp only [List.length_drop, List.length_take]; rfl)) ?_; (with_reducible refine (date_field.calls a0 4 2 t230 _ A4.out).mono ?_); rintro e w13 ⟨rfl, hb⟩; refine ⟨_, rfl, ?_⟩; have n0_ := Aside0.mk (below_step (by repeat (first | (with_reducible first | exact HB.out | apply below_alloc | apply pw_below_drewN | apply below_drew1) | exact HB.out)) hb); clear HB; have HB := n0_; clear n0_; (try clear hb); (try clear hb2); (try clear hk); (try clear hi)) | ((with_reducible refine gate_callee (f := 51) rfl ?_); refine goesL_ (some 15) rfl rfl Tryz.func51 (by kernel_rfl) rfl #[.string a0, .int .i64 6, .int .i64 2] rfl (by (try simp only [List.map_toArray, List.map_cons, List.map_nil]); first | done | rfl | (simp only [List.length_drop, List.length_take]; rfl)) ?_; (with_reducible refine (date_field.calls a0 6 2 t231 _ A5.out).mono ?_); rintro e w14 ⟨rfl, hb⟩; refine ⟨_, rfl, ?_⟩; have n0_ := Aside0.mk (below_step (by repeat (first | (with_reducible first | exact HB.out | apply below_alloc | apply pw_below_drewN | apply below_drew1) | exact HB.out)) hb); clear HB; have HB := n0_; clear n0_; (try clear hb); (try clear hb2); (try clear hk); (try clear hi)) | ((with_reducible refine gate_callee (f := 79) rfl ?_); refine goesL_ (some 16) rfl rfl Tryz.func79 (by kernel_rfl) rfl #[.int .i64 t229, .int .i64 t230, .int .i64 t231] rfl (by (try simp only [List.map_toArray, List.map_cons, List.map_nil]); first | done | rfl | (simp only [List.length_drop, List.length_take]; rfl)) ?_; (with_reducible refine (date_Days.calls t229 t230 t231 t232 false _ A6.out).mono ?_); rintro e w15 ⟨rfl, hb⟩; refine ⟨_, rfl, ?_⟩; have n0_ := Aside0.mk (below_step (by repeat (first | (with_reducible first | exact HB.out | apply below_alloc | apply pw_below_drewN | apply below_drew1) | exact HB.out)) hb); clear HB; have HB := n0_; clear n0_; (try clear hb); (try clear hb2); (try clear hk); (try clear hi)))
      go_ret2
      exact ⟨by first | rfl | (simp [errW_none, errW_some] <;> rfl) | (simp [*, errW_none, errW_some] <;> rfl), by repeat (first | (with_reducible first | exact HB.out | apply below_alloc | apply pw_below_drewN | apply below_drew1) | exact HB.out)⟩
  · rw [if_neg c2] at H
    have c2b0 : ((a0.size : Int) == 8) = false := beq_eq_false_iff_ne.mpr c2
    have c2b1 : ((a0.size : Int) != 8) = true := bne_iff_ne.mpr c2
    simp only [Option.some.injEq, Prod.mk.injEq] at H
    obtain ⟨rfl, rfl⟩ := H
    go_enter Tryz.func50, Tryz.ntmps50
    go_wp2
    go_ret2
    exact ⟨by first | rfl | (simp [errW_none, errW_some] <;> rfl) | (simp [*, errW_none, errW_some] <;> rfl), by repeat (first | (with_reducible first | exact HB.out | apply below_alloc | apply pw_below_drewN | apply below_drew1) | exact HB.out)⟩
end Go.Proofs.YtmajmolbjiahlaaGreatDoor.PD
namespace Go.Proofs.YtmajmolbjiahlaaGreatDoor.PD
open Go.RowKit Go.Proofs.YtmajmolbjiahlaaGreatDoorW.PrintWords Go.Proofs.YtmajmolbjiahlaaGreatDoorW.PrintLast Go.Proofs.YtmajmolbjiahlaaGreatDoorW.PrintMore
attribute [local go_sem] isSome_setCell max2_int min2_int max_two min_two max_three min_three max_four min_four
set_option linter.unusedVariables false
set_option linter.unusedSimpArgs false
def date_Day.f (a0 : Int) : Option (ByteArray) := (date_Civil.f a0).bind fun bt259 => (if bt259.2.2.2 = true then ((date_padded.f bt259.1 4).bind fun t263 => ((date_padded.f bt259.2.1 2).bind fun t264 => (if t263.size + t264.size ≤ 9223372036854775807 then ((date_padded.f bt259.2.2.1 2).bind fun t265 => (if (t263 ++ t264).size + t265.size ≤ 9223372036854775807 then (some ((t263 ++ t264) ++ t265)) else (none))) else (none)))) else (some (⟨#[]⟩ : ByteArray)))
set_option maxHeartbeats 8000000 in
set_option maxRecDepth 100000 in
theorem date_Day.calls (a0 : Int) (r : ByteArray) (w : World) (h : date_Day.f a0 = some r) (hTab : Tab w) :
    Calls Tryz.prog 81 #[.int .i64 a0] w fun e w' => e = .returned (.string r) ∧ Below w.heap.size w w' := by
  have HTab := Aside0.mk hTab
  clear hTab
  have HB := Aside0.mk (Below.refl w.heap.size w)
  have H : ((date_Civil.f a0).bind fun bt259 => (if bt259.2.2.2 = true then ((date_padded.f bt259.1 4).bind fun t263 => ((date_padded.f bt259.2.1 2).bind fun t264 => (if t263.size + t264.size ≤ 9223372036854775807 then ((date_padded.f bt259.2.2.1 2).bind fun t265 => (if (t263 ++ t264).size + t265.size ≤ 9223372036854775807 then (some ((t263 ++ t264) ++ t265)) else (none))) else (none)))) else (some (⟨#[]⟩ : ByteArray)))) = some r := h
  clear h
  replace H := Option.bind_eq_some_iff.mp H
  obtain ⟨⟨t259, t260, t261, t262⟩, A20, H⟩ := H
  replace H : (if t262 = true then ((date_padded.f t259 4).bind fun t263 => ((date_padded.f t260 2).bind fun t264 => (if t263.size + t264.size ≤ 9223372036854775807 then ((date_padded.f t261 2).bind fun t265 => (if (t263 ++ t264).size + t265.size ≤ 9223372036854775807 then (some ((t263 ++ t264) ++ t265)) else (none))) else (none)))) else (some (⟨#[]⟩ : ByteArray))) = some r := H
  have A2 := Aside0.mk A20
  clear A20
  by_cases c3 : t262 = true
  · subst c3
    have H1 : ((date_padded.f t259 4).bind fun t263 => ((date_padded.f t260 2).bind fun t264 => (if t263.size + t264.size ≤ 9223372036854775807 then ((date_padded.f t261 2).bind fun t265 => (if (t263 ++ t264).size + t265.size ≤ 9223372036854775807 then (some ((t263 ++ t264) ++ t265)) else (none))) else (none)))) = some r := by rw [if_pos rfl] at H; exact H
    clear H
    have H := H1
    clear H1
    replace H := Option.bind_eq_some_iff.mp H
    obtain ⟨t263, A40, H⟩ := H
    replace H : ((date_padded.f t260 2).bind fun t264 => (if t263.size + t264.size ≤ 9223372036854775807 then ((date_padded.f t261 2).bind fun t265 => (if (t263 ++ t264).size + t265.size ≤ 9223372036854775807 then (some ((t263 ++ t264) ++ t265)) else (none))) else (none))) = some r := H
    have A4 := Aside0.mk A40
    clear A40
    replace H := Option.bind_eq_some_iff.mp H
    obtain ⟨t264, A50, H⟩ := H
    replace H : (if t263.size + t264.size ≤ 9223372036854775807 then ((date_padded.f t261 2).bind fun t265 => (if (t263 ++ t264).size + t265.size ≤ 9223372036854775807 then (some ((t263 ++ t264) ++ t265)) else (none))) else (none)) = some r := H
    have A5 := Aside0.mk A50
    clear A50
    by_cases c6 : t263.size + t264.size ≤ 9223372036854775807
    · rw [if_pos c6] at H
      have c6b0 := eq_true c6
      have c6b1 : decide (t263.size + t264.size ≤ 9223372036854775807) = true := decide_eq_true c6
      try have c6b2 : (9223372036854775807 < t263.size + t264.size) = False := eq_false (Nat.not_lt.2 c6)
      replace H := Option.bind_eq_some_iff.mp H
      obtain ⟨t265, A70, H⟩ := H
      replace H : (if (t263 ++ t264).size + t265.size ≤ 9223372036854775807 then (some ((t263 ++ t264) ++ t265)) else (none)) = some r := H
      have A7 := Aside0.mk A70
      clear A70
      by_cases c8 : (t263 ++ t264).size + t265.size ≤ 9223372036854775807
      · rw [if_pos c8] at H
        have c8b0 := eq_true c8
        have c8b1 : decide ((t263 ++ t264).size + t265.size ≤ 9223372036854775807) = true := decide_eq_true c8
        try have c8b2 : (9223372036854775807 < (t263 ++ t264).size + t265.size) = False := eq_false (Nat.not_lt.2 c8)
        try have c8b3 : (9223372036854775807 < t263.size + t264.size + t265.size) = False := eq_false (Nat.not_lt.2 (by have h_ := c8; simp only [ByteArray.size_append] at h_; exact h_))
        obtain rfl := Option.some.inj H
        go_enter Tryz.func81, Tryz.ntmps81
        go_wp2_with (first | ((with_reducible refine gate_callee (f := 43) rfl ?_); refine goesL_ (some 9) rfl rfl Tryz.func43 (by kernel_rfl) rfl #[.int .i64 a0] rfl (by (try simp only [List.map_toArray, List.map_cons, List.map_nil]); first | done | rfl | (simp only [List.length_drop, List.length_take]; rfl)) ?_; (with_reducible refine (date_Civil.calls a0 t259 t260 t261 true _ A2.out).mono ?_); rintro e w9 ⟨rfl, hb⟩; refine ⟨_, rfl, ?_⟩; have n0_ := Aside0.mk (below_step (by repeat (first | (with_reducible first | exact HB.out | apply below_alloc | apply pw_below_drewN | apply below_drew1) | exact HB.out)) hb); clear HB; have HB := n0_; clear n0_; (try clear hb); (try clear hb2); (try clear hk); (try clear hi)) | ((with_reducible refine gate_callee (f := 95) rfl ?_); refine goesL_ (some 17) rfl rfl Tryz.func95 (by kernel_rfl) rfl #[.int .i64 t259, .int .i64 4] rfl (by (try simp only [List.map_toArray, List.map_cons, List.map_nil]); first | done | rfl | (simp only [List.length_drop, List.length_take]; rfl)) ?_; (with_reducible refine (date_padded.calls t259 4 t263 _ A4.out (HTab.out.below (by repeat (first | (with_reducible first | exact HB.out | apply below_alloc | apply pw_below_drewN | apply below_drew1) | exact HB.out)))).mono ?_); rintro e w10 ⟨rfl, hb⟩; refine ⟨_, rfl, ?_⟩; have n0_ := Aside0.mk (below_step (by repeat (first | (with_reducible first | exact HB.out | apply below_alloc | apply pw_below_drewN | apply below_drew1) | exact HB.out)) hb); clear HB; have HB := n0_; clear n0_; (try clear hb); (try clear hb2); (try clear hk); (try clear hi)) | ((with_reducible refine gate_callee (f := 95) rfl ?_); refine goesL_ (some 19) rfl rfl Tryz.func95 (by kernel_rfl) rfl #[.int .i64 t260, .int .i64 2] rfl (by (try simp only [List.map_toArray, List.map_cons, List.map_nil]); first | done | rfl | (simp only [List.length_drop, List.length_take]; rfl)) ?_; (with_reducible refine (date_padded.calls t260 2 t264 _ A5.out (HTab.out.below (by repeat (first | (with_reducible first | exact HB.out | apply below_alloc | apply pw_below_drewN | apply below_drew1) | exact HB.out)))).mono ?_); rintro e w11 ⟨rfl, hb⟩; refine ⟨_, rfl, ?_⟩; have n0_ := Aside0.mk (below_step (by repeat (first | (with_reducible first | exact HB.out | apply below_alloc | apply pw_below_drewN | apply below_drew1) | exact HB.out)) hb); clear HB; have HB := n0_; clear n0_; (try clear hb); (try clear hb2); (try clear hk); (try clear hi)) | ((with_reducible refine gate_callee (f := 95) rfl ?_); refine goesL_ (some 22) rfl rfl Tryz.func95 (by kernel_rfl) rfl #[.int .i64 t261, .int .i64 2] rfl (by (try simp only [List.map_toArray, List.map_cons, List.map_nil]); first | done | rfl | (simp only [List.length_drop, List.length_take]; rfl)) ?_; (with_reducible refine (date_padded.calls t261 2 t265 _ A7.out (HTab.out.below (by repeat (first | (with_reducible first | exact HB.out | apply below_alloc | apply pw_below_drewN | apply below_drew1) | exact HB.out)))).mono ?_); rintro e w12 ⟨rfl, hb⟩; refine ⟨_, rfl, ?_⟩; have n0_ := Aside0.mk (below_step (by repeat (first | (with_reducible first | exact HB.out | apply below_alloc | apply pw_below_drewN | apply below_drew1) | exact HB.out)) hb); clear HB; have HB := n0_; clear n0_; (try clear hb); (try clear hb2); (try clear hk); (try clear hi)))
        go_ret
        exact ⟨by first | rfl | (simp [errW_none, errW_some] <;> rfl) | (simp [*, errW_none, errW_some] <;> rfl), by repeat (first | (with_reducible first | exact HB.out | apply below_alloc | apply pw_below_drewN | apply below_drew1) | exact HB.out)⟩
      · rw [if_neg c8] at H
        exact absurd H (by simp)
    · rw [if_neg c6] at H
      exact absurd H (by simp)
  · replace c3 := Bool.eq_false_iff.mpr c3
    subst c3
    have H1 : (some (⟨#[]⟩ : ByteArray)) = some r := by rw [if_neg (show ¬ (false = true) by decide)] at H; exact H
    clear H
    have H := H1
    clear H1
    obtain rfl := Option.some.inj H
    go_enter Tryz.func81, Tryz.ntmps81
    go_wp2_with (first | ((with_reducible refine gate_callee (f := 43) rfl ?_); refine goesL_ (some 9) rfl rfl Tryz.func43 (by kernel_rfl) rfl #[.int .i64 a0] rfl (by (try simp only [List.map_toArray, List.map_cons, List.map_nil]); first | done | rfl | (simp only [List.length_drop, List.length_take]; rfl)) ?_; (with_reducible refine (date_Civil.calls a0 t259 t260 t261 false _ A2.out).mono ?_); rintro e w13 ⟨rfl, hb⟩; refine ⟨_, rfl, ?_⟩; have n0_ := Aside0.mk (below_step (by repeat (first | (with_reducible first | exact HB.out | apply below_alloc | apply pw_below_drewN | apply below_drew1) | exact HB.out)) hb); clear HB; have HB := n0_; clear n0_; (try clear hb); (try clear hb2); (try clear hk); (try clear hi)))
    go_ret
    exact ⟨by first | rfl | (simp [errW_none, errW_some] <;> rfl) | (simp [*, errW_none, errW_some] <;> rfl), by repeat (first | (with_reducible first | exact HB.out | apply below_alloc | apply pw_below_drewN | apply below_drew1) | exact HB.out)⟩
end Go.Proofs.YtmajmolbjiahlaaGreatDoor.PD
namespace Go.Proofs.YtmajmolbjiahlaaGreatDoor.PD
open Go.RowKit Go.Proofs.YtmajmolbjiahlaaGreatDoorW.PrintWords Go.Proofs.YtmajmolbjiahlaaGreatDoorW.PrintLast Go.Proofs.YtmajmolbjiahlaaGreatDoorW.PrintMore
attribute [local go_sem] isSome_setCell max2_int min2_int max_two min_two max_three min_three max_four min_four
set_option linter.unusedVariables false
set_option linter.unusedSimpArgs false
def date_clock.f (a0 : Int) (a1 : ByteArray) : Option (ByteArray) := (date_padded.f (wrap64 (Int.tdiv a0 3600)) 2).bind fun t266 => (if t266.size + a1.size ≤ 9223372036854775807 then ((date_padded.f (Int.tmod (wrap64 (Int.tdiv a0 60)) 60) 2).bind fun t267 => (if (t266 ++ a1).size + t267.size ≤ 9223372036854775807 then (if ((t266 ++ a1) ++ t267).size + a1.size ≤ 9223372036854775807 then ((date_padded.f (Int.tmod a0 60) 2).bind fun t268 => (if (((t266 ++ a1) ++ t267) ++ a1).size + t268.size ≤ 9223372036854775807 then (some ((((t266 ++ a1) ++ t267) ++ a1) ++ t268)) else (none))) else (none)) else (none))) else (none))
set_option maxHeartbeats 8000000 in
set_option maxRecDepth 100000 in
theorem date_clock.calls (a0 : Int) (a1 : ByteArray) (r : ByteArray) (w : World) (h : date_clock.f a0 a1 = some r) (hTab : Tab w) :
    Calls Tryz.prog 82 #[.int .i64 a0, .string a1] w fun e w' => e = .returned (.string r) ∧ Below w.heap.size w w' := by
  have HTab := Aside0.mk hTab
  clear hTab
  have HB := Aside0.mk (Below.refl w.heap.size w)
  have H : ((date_padded.f (wrap64 (Int.tdiv a0 3600)) 2).bind fun t266 => (if t266.size + a1.size ≤ 9223372036854775807 then ((date_padded.f (Int.tmod (wrap64 (Int.tdiv a0 60)) 60) 2).bind fun t267 => (if (t266 ++ a1).size + t267.size ≤ 9223372036854775807 then (if ((t266 ++ a1) ++ t267).size + a1.size ≤ 9223372036854775807 then ((date_padded.f (Int.tmod a0 60) 2).bind fun t268 => (if (((t266 ++ a1) ++ t267) ++ a1).size + t268.size ≤ 9223372036854775807 then (some ((((t266 ++ a1) ++ t267) ++ a1) ++ t268)) else (none))) else (none)) else (none))) else (none))) = some r := h
  clear h
  replace H := Option.bind_eq_some_iff.mp H
  obtain ⟨t266, A30, H⟩ := H
  replace H : (if t266.size + a1.size ≤ 9223372036854775807 then ((date_padded.f (Int.tmod (wrap64 (Int.tdiv a0 60)) 60) 2).bind fun t267 => (if (t266 ++ a1).size + t267.size ≤ 9223372036854775807 then (if ((t266 ++ a1) ++ t267).size + a1.size ≤ 9223372036854775807 then ((date_padded.f (Int.tmod a0 60) 2).bind fun t268 => (if (((t266 ++ a1) ++ t267) ++ a1).size + t268.size ≤ 9223372036854775807 then (some ((((t266 ++ a1) ++ t267) ++ a1) ++ t268)) else (none))) else (none)) else (none))) else (none)) = some r := H
  have A3 := Aside0.mk A30
  clear A30
  by_cases c4 : t266.size + a1.size ≤ 9223372036854775807
  · rw [if_pos c4] at H
    have c4b0 := eq_true c4
    have c4b1 : decide (t266.size + a1.size ≤ 9223372036854775807) = true := decide_eq_true c4
    try have c4b2 : (9223372036854775807 < t266.size + a1.size) = False := eq_false (Nat.not_lt.2 c4)
    replace H := Option.bind_eq_some_iff.mp H
    obtain ⟨t267, A50, H⟩ := H
    replace H : (if (t266 ++ a1).size + t267.size ≤ 9223372036854775807 then (if ((t266 ++ a1) ++ t267).size + a1.size ≤ 9223372036854775807 then ((date_padded.f (Int.tmod a0 60) 2).bind fun t268 => (if (((t266 ++ a1) ++ t267) ++ a1).size + t268.size ≤ 9223372036854775807 then (some ((((t266 ++ a1) ++ t267) ++ a1) ++ t268)) else (none))) else (none)) else (none)) = some r := H
    have A5 := Aside0.mk A50
    clear A50
    by_cases c6 : (t266 ++ a1).size + t267.size ≤ 9223372036854775807
    · rw [if_pos c6] at H
      have c6b0 := eq_true c6
      have c6b1 : decide ((t266 ++ a1).size + t267.size ≤ 9223372036854775807) = true := decide_eq_true c6
      try have c6b2 : (9223372036854775807 < (t266 ++ a1).size + t267.size) = False := eq_false (Nat.not_lt.2 c6)
      try have c6b3 : (9223372036854775807 < t266.size + a1.size + t267.size) = False := eq_false (Nat.not_lt.2 (by have h_ := c6; simp only [ByteArray.size_append] at h_; exact h_))
      by_cases c7 : ((t266 ++ a1) ++ t267).size + a1.size ≤ 9223372036854775807
      · rw [if_pos c7] at H
        have c7b0 := eq_true c7
        have c7b1 : decide (((t266 ++ a1) ++ t267).size + a1.size ≤ 9223372036854775807) = true := decide_eq_true c7
        try have c7b2 : (9223372036854775807 < ((t266 ++ a1) ++ t267).size + a1.size) = False := eq_false (Nat.not_lt.2 c7)
        try have c7b3 : (9223372036854775807 < t266.size + a1.size + t267.size + a1.size) = False := eq_false (Nat.not_lt.2 (by have h_ := c7; simp only [ByteArray.size_append] at h_; exact h_))
        replace H := Option.bind_eq_some_iff.mp H
        obtain ⟨t268, A80, H⟩ := H
        replace H : (if (((t266 ++ a1) ++ t267) ++ a1).size + t268.size ≤ 9223372036854775807 then (some ((((t266 ++ a1) ++ t267) ++ a1) ++ t268)) else (none)) = some r := H
        have A8 := Aside0.mk A80
        clear A80
        by_cases c9 : (((t266 ++ a1) ++ t267) ++ a1).size + t268.size ≤ 9223372036854775807
        · rw [if_pos c9] at H
          have c9b0 := eq_true c9
          have c9b1 : decide ((((t266 ++ a1) ++ t267) ++ a1).size + t268.size ≤ 9223372036854775807) = true := decide_eq_true c9
          try have c9b2 : (9223372036854775807 < (((t266 ++ a1) ++ t267) ++ a1).size + t268.size) = False := eq_false (Nat.not_lt.2 c9)
          try have c9b3 : (9223372036854775807 < t266.size + a1.size + t267.size + a1.size + t268.size) = False := eq_false (Nat.not_lt.2 (by have h_ := c9; simp only [ByteArray.size_append] at h_; exact h_))
          obtain rfl := Option.some.inj H
          go_enter Tryz.func82, Tryz.ntmps82
          go_wp2_with (first | ((with_reducible refine gate_callee (f := 95) rfl ?_); refine goesL_ (some 7) rfl rfl Tryz.func95 (by kernel_rfl) rfl #[.int .i64 (wrap64 (Int.tdiv a0 3600)), .int .i64 2] rfl (by (try simp only [List.map_toArray, List.map_cons, List.map_nil]); first | done | rfl | (simp only [List.length_drop, List.length_take]; rfl)) ?_; (with_reducible refine (date_padded.calls (wrap64 (Int.tdiv a0 3600)) 2 t266 _ A3.out (HTab.out.below (by repeat (first | (with_reducible first | exact HB.out | apply below_alloc | apply pw_below_drewN | apply below_drew1) | exact HB.out)))).mono ?_); rintro e w10 ⟨rfl, hb⟩; refine ⟨_, rfl, ?_⟩; have n0_ := Aside0.mk (below_step (by repeat (first | (with_reducible first | exact HB.out | apply below_alloc | apply pw_below_drewN | apply below_drew1) | exact HB.out)) hb); clear HB; have HB := n0_; clear n0_; (try clear hb); (try clear hb2); (try clear hk); (try clear hi)) | ((with_reducible refine gate_callee (f := 95) rfl ?_); refine goesL_ (some 13) rfl rfl Tryz.func95 (by kernel_rfl) rfl #[.int .i64 (Int.tmod (wrap64 (Int.tdiv a0 60)) 60), .int .i64 2] rfl (by (try simp only [List.map_toArray, List.map_cons, List.map_nil]); first | done | rfl | (simp only [List.length_drop, List.length_take]; rfl)) ?_; (with_reducible refine (date_padded.calls (Int.tmod (wrap64 (Int.tdiv a0 60)) 60) 2 t267 _ A5.out (HTab.out.below (by repeat (first | (with_reducible first | exact HB.out | apply below_alloc | apply pw_below_drewN | apply below_drew1) | exact HB.out)))).mono ?_); rintro e w11 ⟨rfl, hb⟩; refine ⟨_, rfl, ?_⟩; have n0_ := Aside0.mk (below_step (by repeat (first | (with_reducible first | exact HB.out | apply below_alloc | apply pw_below_drewN | apply below_drew1) | exact HB.out)) hb); clear HB; have HB := n0_; clear n0_; (try clear hb); (try clear hb2); (try clear hk); (try clear hi)) | ((with_reducible refine gate_callee (f := 95) rfl ?_); refine goesL_ (some 19) rfl rfl Tryz.func95 (by kernel_rfl) rfl #[.int .i64 (Int.tmod a0 60), .int .i64 2] rfl (by (try simp only [List.map_toArray, List.map_cons, List.map_nil]); first | done | rfl | (simp only [List.length_drop, List.length_take]; rfl)) ?_; (with_reducible refine (date_padded.calls (Int.tmod a0 60) 2 t268 _ A8.out (HTab.out.below (by repeat (first | (with_reducible first | exact HB.out | apply below_alloc | apply pw_below_drewN | apply below_drew1) | exact HB.out)))).mono ?_); rintro e w12 ⟨rfl, hb⟩; refine ⟨_, rfl, ?_⟩; have n0_ := Aside0.mk (below_step (by repeat (first | (with_reducible first | exact HB.out | apply below_alloc | apply pw_below_drewN | apply below_drew1) | exact HB.out)) hb); clear HB; have HB := n0_; clear n0_; (try clear hb); (try clear hb2); (try clear hk); (try clear hi)))
          go_ret
          exact ⟨by first | rfl | (simp [errW_none, errW_some] <;> rfl) | (simp [*, errW_none, errW_some] <;> rfl), by repeat (first | (with_reducible first | exact HB.out | apply below_alloc | apply pw_below_drewN | apply below_drew1) | exact HB.out)⟩
        · rw [if_neg c9] at H
          exact absurd H (by simp)
      · rw [if_neg c7] at H
        exact absurd H (by simp)
    · rw [if_neg c6] at H
      exact absurd H (by simp)
  · rw [if_neg c4] at H
    exact absurd H (by simp)
end Go.Proofs.YtmajmolbjiahlaaGreatDoor.PD
namespace Go.Proofs.YtmajmolbjiahlaaGreatDoor.PD
open Go.RowKit Go.Proofs.YtmajmolbjiahlaaGreatDoorW.PrintWords Go.Proofs.YtmajmolbjiahlaaGreatDoorW.PrintLast Go.Proofs.YtmajmolbjiahlaaGreatDoorW.PrintMore
attribute [local go_sem] isSome_setCell max2_int min2_int max_two min_two max_three min_three max_four min_four
set_option linter.unusedVariables false
set_option linter.unusedSimpArgs false
def date_Stamp.f (a0 : Int) : Option (ByteArray) := (date_In.f a0).bind fun t269 => (if t269 = true then ((date_Parts.f a0).bind fun bt270 => ((date_Day.f bt270.1).bind fun t272 => (if t272.size + 1 ≤ 9223372036854775807 then ((date_clock.f bt270.2 (⟨#[]⟩ : ByteArray)).bind fun t273 => (if (t272 ++ (⟨#[84]⟩ : ByteArray)).size + t273.size ≤ 9223372036854775807 then (some ((t272 ++ (⟨#[84]⟩ : ByteArray)) ++ t273)) else (none))) else (none)))) else (some (⟨#[]⟩ : ByteArray)))
set_option maxHeartbeats 8000000 in
set_option maxRecDepth 100000 in
theorem date_Stamp.calls (a0 : Int) (r : ByteArray) (w : World) (h : date_Stamp.f a0 = some r) (hTab : Tab w) :
    Calls Tryz.prog 52 #[.int .i64 a0] w fun e w' => e = .returned (.string r) ∧ Below w.heap.size w w' := by
  have HTab := Aside0.mk hTab
  clear hTab
  have HB := Aside0.mk (Below.refl w.heap.size w)
  have H : ((date_In.f a0).bind fun t269 => (if t269 = true then ((date_Parts.f a0).bind fun bt270 => ((date_Day.f bt270.1).bind fun t272 => (if t272.size + 1 ≤ 9223372036854775807 then ((date_clock.f bt270.2 (⟨#[]⟩ : ByteArray)).bind fun t273 => (if (t272 ++ (⟨#[84]⟩ : ByteArray)).size + t273.size ≤ 9223372036854775807 then (some ((t272 ++ (⟨#[84]⟩ : ByteArray)) ++ t273)) else (none))) else (none)))) else (some (⟨#[]⟩ : ByteArray)))) = some r := h
  clear h
  replace H := Option.bind_eq_some_iff.mp H
  obtain ⟨t269, A20, H⟩ := H
  replace H : (if t269 = true then ((date_Parts.f a0).bind fun bt270 => ((date_Day.f bt270.1).bind fun t272 => (if t272.size + 1 ≤ 9223372036854775807 then ((date_clock.f bt270.2 (⟨#[]⟩ : ByteArray)).bind fun t273 => (if (t272 ++ (⟨#[84]⟩ : ByteArray)).size + t273.size ≤ 9223372036854775807 then (some ((t272 ++ (⟨#[84]⟩ : ByteArray)) ++ t273)) else (none))) else (none)))) else (some (⟨#[]⟩ : ByteArray))) = some r := H
  have A2 := Aside0.mk A20
  clear A20
  by_cases c3 : t269 = true
  · subst c3
    have H1 : ((date_Parts.f a0).bind fun bt270 => ((date_Day.f bt270.1).bind fun t272 => (if t272.size + 1 ≤ 9223372036854775807 then ((date_clock.f bt270.2 (⟨#[]⟩ : ByteArray)).bind fun t273 => (if (t272 ++ (⟨#[84]⟩ : ByteArray)).size + t273.size ≤ 9223372036854775807 then (some ((t272 ++ (⟨#[84]⟩ : ByteArray)) ++ t273)) else (none))) else (none)))) = some r := by rw [if_pos rfl] at H; exact H
    clear H
    have H := H1
    clear H1
    replace H := Option.bind_eq_some_iff.mp H
    obtain ⟨⟨t270, t271⟩, A40, H⟩ := H
    replace H : ((date_Day.f t270).bind fun t272 => (if t272.size + 1 ≤ 9223372036854775807 then ((date_clock.f t271 (⟨#[]⟩ : ByteArray)).bind fun t273 => (if (t272 ++ (⟨#[84]⟩ : ByteArray)).size + t273.size ≤ 9223372036854775807 then (some ((t272 ++ (⟨#[84]⟩ : ByteArray)) ++ t273)) else (none))) else (none))) = some r := H
    have A4 := Aside0.mk A40
    clear A40
    replace H := Option.bind_eq_some_iff.mp H
    obtain ⟨t272, A50, H⟩ := H
    replace H : (if t272.size + 1 ≤ 9223372036854775807 then ((date_clock.f t271 (⟨#[]⟩ : ByteArray)).bind fun t273 => (if (t272 ++ (⟨#[84]⟩ : ByteArray)).size + t273.size ≤ 9223372036854775807 then (some ((t272 ++ (⟨#[84]⟩ : ByteArray)) ++ t273)) else (none))) else (none)) = some r := H
    have A5 := Aside0.mk A50
    clear A50
    by_cases c6 : t272.size + 1 ≤ 9223372036854775807
    · rw [if_pos c6] at H
      have c6b0 := eq_true c6
      have c6b1 : decide (t272.size + 1 ≤ 9223372036854775807) = true := decide_eq_true c6
      try have c6b2 : (9223372036854775807 < t272.size + 1) = False := eq_false (Nat.not_lt.2 c6)
      replace H := Option.bind_eq_some_iff.mp H
      obtain ⟨t273, A70, H⟩ := H
      replace H : (if (t272 ++ (⟨#[84]⟩ : ByteArray)).size + t273.size ≤ 9223372036854775807 then (some ((t272 ++ (⟨#[84]⟩ : ByteArray)) ++ t273)) else (none)) = some r := H
      have A7 := Aside0.mk A70
      clear A70
      by_cases c8 : (t272 ++ (⟨#[84]⟩ : ByteArray)).size + t273.size ≤ 9223372036854775807
      · rw [if_pos c8] at H
        have c8b0 := eq_true c8
        have c8b1 : decide ((t272 ++ (⟨#[84]⟩ : ByteArray)).size + t273.size ≤ 9223372036854775807) = true := decide_eq_true c8
        try have c8b2 : (9223372036854775807 < (t272 ++ (⟨#[84]⟩ : ByteArray)).size + t273.size) = False := eq_false (Nat.not_lt.2 c8)
        try have c8b3 : (9223372036854775807 < t272.size + 1 + t273.size) = False := eq_false (Nat.not_lt.2 (by have h_ := c8; simp only [ByteArray.size_append] at h_; exact h_))
        obtain rfl := Option.some.inj H
        go_enter Tryz.func52, Tryz.ntmps52
        go_wp2_with (first | ((with_reducible refine gate_callee (f := 22) rfl ?_); refine goesL_ (some 6) rfl rfl Tryz.func22 (by kernel_rfl) rfl #[.int .i64 a0] rfl (by (try simp only [List.map_toArray, List.map_cons, List.map_nil]); first | done | rfl | (simp only [List.length_drop, List.length_take]; rfl)) ?_; (with_reducible refine (date_In.calls a0 true _ A2.out).mono ?_); rintro e w' ⟨rfl, ⟨nd, rfl⟩⟩; refine ⟨_, rfl, ?_⟩) | ((with_reducible refine gate_callee (f := 42) rfl ?_); refine goesL_ (some 10) rfl rfl Tryz.func42 (by kernel_rfl) rfl #[.int .i64 a0] rfl (by (try simp only [List.map_toArray, List.map_cons, List.map_nil]); first | done | rfl | (simp only [List.length_drop, List.length_take]; rfl)) ?_; (with_reducible refine (date_Parts.calls a0 t270 t271 _ A4.out).mono ?_); rintro e w' ⟨rfl, ⟨nd, rfl⟩⟩; refine ⟨_, rfl, ?_⟩) | ((with_reducible refine gate_callee (f := 81) rfl ?_); refine goesL_ (some 14) rfl rfl Tryz.func81 (by kernel_rfl) rfl #[.int .i64 t270] rfl (by (try simp only [List.map_toArray, List.map_cons, List.map_nil]); first | done | rfl | (simp only [List.length_drop, List.length_take]; rfl)) ?_; (with_reducible refine (date_Day.calls t270 t272 _ A5.out (HTab.out.below (by repeat (first | (with_reducible first | exact HB.out | apply below_alloc | apply pw_below_drewN | apply below_drew1) | exact HB.out)))).mono ?_); rintro e w9 ⟨rfl, hb⟩; refine ⟨_, rfl, ?_⟩; have n0_ := Aside0.mk (below_step (by repeat (first | (with_reducible first | exact HB.out | apply below_alloc | apply pw_below_drewN | apply below_drew1) | exact HB.out)) hb); clear HB; have HB := n0_; clear n0_; (try clear hb); (try clear hb2); (try clear hk); (try clear hi)) | ((with_reducible refine gate_callee (f := 82) rfl ?_); refine goesL_ (some 17) rfl rfl Tryz.func82 (by kernel_rfl) rfl #[.int .i64 t271, .string (⟨#[]⟩ : ByteArray)] rfl (by (try simp only [List.map_toArray, List.map_cons, List.map_nil]); first | done | rfl | (simp only [List.length_drop, List.length_take]; rfl)) ?_; (with_reducible refine (date_clock.calls t271 (⟨#[]⟩ : ByteArray) t273 _ A7.out (HTab.out.below (by repeat (first | (with_reducible first | exact HB.out | apply below_alloc | apply pw_below_drewN | apply below_drew1) | exact HB.out)))).mono ?_); rintro e w10 ⟨rfl, hb⟩; refine ⟨_, rfl, ?_⟩; have n0_ := Aside0.mk (below_step (by repeat (first | (with_reducible first | exact HB.out | apply below_alloc | apply pw_below_drewN | apply below_drew1) | exact HB.out)) hb); clear HB; have HB := n0_; clear n0_; (try clear hb); (try clear hb2); (try clear hk); (try clear hi)))
        go_ret
        exact ⟨by first | rfl | (simp [errW_none, errW_some] <;> rfl) | (simp [*, errW_none, errW_some] <;> rfl), by repeat (first | (with_reducible first | exact HB.out | apply below_alloc | apply pw_below_drewN | apply below_drew1) | exact HB.out)⟩
      · rw [if_neg c8] at H
        exact absurd H (by simp)
    · rw [if_neg c6] at H
      exact absurd H (by simp)
  · replace c3 := Bool.eq_false_iff.mpr c3
    subst c3
    have H1 : (some (⟨#[]⟩ : ByteArray)) = some r := by rw [if_neg (show ¬ (false = true) by decide)] at H; exact H
    clear H
    have H := H1
    clear H1
    obtain rfl := Option.some.inj H
    go_enter Tryz.func52, Tryz.ntmps52
    go_wp2_with (first | ((with_reducible refine gate_callee (f := 22) rfl ?_); refine goesL_ (some 6) rfl rfl Tryz.func22 (by kernel_rfl) rfl #[.int .i64 a0] rfl (by (try simp only [List.map_toArray, List.map_cons, List.map_nil]); first | done | rfl | (simp only [List.length_drop, List.length_take]; rfl)) ?_; (with_reducible refine (date_In.calls a0 false _ A2.out).mono ?_); rintro e w' ⟨rfl, ⟨nd, rfl⟩⟩; refine ⟨_, rfl, ?_⟩))
    go_ret
    exact ⟨by first | rfl | (simp [errW_none, errW_some] <;> rfl) | (simp [*, errW_none, errW_some] <;> rfl), by repeat (first | (with_reducible first | exact HB.out | apply below_alloc | apply pw_below_drewN | apply below_drew1) | exact HB.out)⟩
end Go.Proofs.YtmajmolbjiahlaaGreatDoor.PD
namespace Go.Proofs.YtmajmolbjiahlaaGreatDoor.PD
open Go.RowKit Go.Proofs.YtmajmolbjiahlaaGreatDoorW.PrintWords Go.Proofs.YtmajmolbjiahlaaGreatDoorW.PrintLast Go.Proofs.YtmajmolbjiahlaaGreatDoorW.PrintMore
attribute [local go_sem] isSome_setCell max2_int min2_int max_two min_two max_three min_three max_four min_four
set_option linter.unusedVariables false
set_option linter.unusedSimpArgs false
def date_ReadStamp.f (a0 : ByteArray) : Option (Int × Int) := if (a0.size : Int) = 15 then (if 0 ≤ 8 then (if 8 ≤ (a0.size : Int) then ((date_ReadDay.f (a0.extract 0 8)).bind fun bt274 => ((date_field.f a0 9 2).bind fun t276 => ((date_field.f a0 11 2).bind fun t277 => ((date_field.f a0 13 2).bind fun t278 => (if bt274.2 = 0 then ((date_Stamp.f (wrap64 ((wrap64 ((wrap64 ((wrap64 (bt274.1 * 86400)) + (wrap64 (t276 * 3600)))) + (wrap64 (t277 * 60)))) + t278))).bind fun t279 => (if t279.toList = a0.toList then (some (wrap64 ((wrap64 ((wrap64 ((wrap64 (bt274.1 * 86400)) + (wrap64 (t276 * 3600)))) + (wrap64 (t277 * 60)))) + t278), 0)) else (some (0, 10)))) else (some (0, 10))))))) else (none)) else (none)) else (some (0, 10))
set_option maxHeartbeats 8000000 in
set_option maxRecDepth 100000 in
theorem date_ReadStamp.calls (a0 : ByteArray) (r1 : Int) (r2 : Int) (w : World) (h : date_ReadStamp.f a0 = some (r1, r2)) (hTab : Tab w) :
    Calls Tryz.prog 31 #[.string a0] w fun e w' => e = .returned (.tuple #[.int .i64 r1, .int .i64 r2]) ∧ Below w.heap.size w w' := by
  have HTab := Aside0.mk hTab
  clear hTab
  have HB := Aside0.mk (Below.refl w.heap.size w)
  have H : (if (a0.size : Int) = 15 then (if 0 ≤ 8 then (if 8 ≤ (a0.size : Int) then ((date_ReadDay.f (a0.extract 0 8)).bind fun bt274 => ((date_field.f a0 9 2).bind fun t276 => ((date_field.f a0 11 2).bind fun t277 => ((date_field.f a0 13 2).bind fun t278 => (if bt274.2 = 0 then ((date_Stamp.f (wrap64 ((wrap64 ((wrap64 ((wrap64 (bt274.1 * 86400)) + (wrap64 (t276 * 3600)))) + (wrap64 (t277 * 60)))) + t278))).bind fun t279 => (if t279.toList = a0.toList then (some (wrap64 ((wrap64 ((wrap64 ((wrap64 (bt274.1 * 86400)) + (wrap64 (t276 * 3600)))) + (wrap64 (t277 * 60)))) + t278), 0)) else (some (0, 10)))) else (some (0, 10))))))) else (none)) else (none)) else (some (0, 10))) = some (r1, r2) := h
  clear h
  by_cases c2 : (a0.size : Int) = 15
  · rw [if_pos c2] at H
    have c2b0 : ((a0.size : Int) == 15) = true := beq_iff_eq.mpr c2
    have c2b1 : ((a0.size : Int) != 15) = false := bne_eq_false_iff_eq.mpr c2
    clear c2
    by_cases c3 : 0 ≤ 8
    · rw [if_pos c3] at H
      have c3b0 := eq_true c3
      have c3b1 : decide (0 ≤ 8) = true := decide_eq_true c3
      clear c3
      by_cases c4 : 8 ≤ (a0.size : Int)
      · rw [if_pos c4] at H
        have c4b0 := eq_true c4
        have c4b1 : decide (8 ≤ (a0.size : Int)) = true := decide_eq_true c4
        clear c4
        replace H := Option.bind_eq_some_iff.mp H
        obtain ⟨⟨t274, t275⟩, A50, H⟩ := H
        replace H : ((date_field.f a0 9 2).bind fun t276 => ((date_field.f a0 11 2).bind fun t277 => ((date_field.f a0 13 2).bind fun t278 => (if t275 = 0 then ((date_Stamp.f (wrap64 ((wrap64 ((wrap64 ((wrap64 (t274 * 86400)) + (wrap64 (t276 * 3600)))) + (wrap64 (t277 * 60)))) + t278))).bind fun t279 => (if t279.toList = a0.toList then (some (wrap64 ((wrap64 ((wrap64 ((wrap64 (t274 * 86400)) + (wrap64 (t276 * 3600)))) + (wrap64 (t277 * 60)))) + t278), 0)) else (some (0, 10)))) else (some (0, 10)))))) = some (r1, r2) := H
        have A5 := Aside0.mk A50
        clear A50
        replace H := Option.bind_eq_some_iff.mp H
        obtain ⟨t276, A60, H⟩ := H
        replace H : ((date_field.f a0 11 2).bind fun t277 => ((date_field.f a0 13 2).bind fun t278 => (if t275 = 0 then ((date_Stamp.f (wrap64 ((wrap64 ((wrap64 ((wrap64 (t274 * 86400)) + (wrap64 (t276 * 3600)))) + (wrap64 (t277 * 60)))) + t278))).bind fun t279 => (if t279.toList = a0.toList then (some (wrap64 ((wrap64 ((wrap64 ((wrap64 (t274 * 86400)) + (wrap64 (t276 * 3600)))) + (wrap64 (t277 * 60)))) + t278), 0)) else (some (0, 10)))) else (some (0, 10))))) = some (r1, r2) := H
        have A6 := Aside0.mk A60
        clear A60
        replace H := Option.bind_eq_some_iff.mp H
        obtain ⟨t277, A70, H⟩ := H
        replace H : ((date_field.f a0 13 2).bind fun t278 => (if t275 = 0 then ((date_Stamp.f (wrap64 ((wrap64 ((wrap64 ((wrap64 (t274 * 86400)) + (wrap64 (t276 * 3600)))) + (wrap64 (t277 * 60)))) + t278))).bind fun t279 => (if t279.toList = a0.toList then (some (wrap64 ((wrap64 ((wrap64 ((wrap64 (t274 * 86400)) + (wrap64 (t276 * 3600)))) + (wrap64 (t277 * 60)))) + t278), 0)) else (some (0, 10)))) else (some (0, 10)))) = some (r1, r2) := H
        have A7 := Aside0.mk A70
        clear A70
        replace H := Option.bind_eq_some_iff.mp H
        obtain ⟨t278, A80, H⟩ := H
        replace H : (if t275 = 0 then ((date_Stamp.f (wrap64 ((wrap64 ((wrap64 ((wrap64 (t274 * 86400)) + (wrap64 (t276 * 3600)))) + (wrap64 (t277 * 60)))) + t278))).bind fun t279 => (if t279.toList = a0.toList then (some (wrap64 ((wrap64 ((wrap64 ((wrap64 (t274 * 86400)) + (wrap64 (t276 * 3600)))) + (wrap64 (t277 * 60)))) + t278), 0)) else (some (0, 10)))) else (some (0, 10))) = some (r1, r2) := H
        have A8 := Aside0.mk A80
        clear A80
        by_cases c9 : t275 = 0
        · rw [if_pos c9] at H
          have c9b0 : (t275 == 0) = true := beq_iff_eq.mpr c9
          have c9b1 : (t275 != 0) = false := bne_eq_false_iff_eq.mpr c9
          clear c9
          replace H := Option.bind_eq_some_iff.mp H
          obtain ⟨t279, A100, H⟩ := H
          replace H : (if t279.toList = a0.toList then (some (wrap64 ((wrap64 ((wrap64 ((wrap64 (t274 * 86400)) + (wrap64 (t276 * 3600)))) + (wrap64 (t277 * 60)))) + t278), 0)) else (some (0, 10))) = some (r1, r2) := H
          have A10 := Aside0.mk A100
          clear A100
          by_cases c11 : t279.toList = a0.toList
          · rw [if_pos c11] at H
            have c11b0 : (t279.toList == a0.toList) = true := beq_iff_eq.mpr c11
            have c11b1 : (t279.toList != a0.toList) = false := bne_eq_false_iff_eq.mpr c11
            clear c11
            simp only [Option.some.injEq, Prod.mk.injEq] at H
            obtain ⟨rfl, rfl⟩ := H
            go_enter Tryz.func31, Tryz.ntmps31
            go_wp2_with (first | ((with_reducible refine gate_callee (f := 50) rfl ?_); refine goesL_ (some 13) rfl rfl Tryz.func50 (by kernel_rfl) rfl #[.string (a0.extract 0 8)] rfl (by (try simp only [List.map_toArray, List.map_cons, List.map_nil]); first | done | rfl | (simp only [List.length_drop, List.length_take]; rfl)) ?_; (with_reducible refine (date_ReadDay.calls (a0.extract 0 8) t274 t275 _ A5.out).mono ?_); rintro e w12 ⟨rfl, hb⟩; refine ⟨_, rfl, ?_⟩; have n0_ := Aside0.mk (below_step (by repeat (first | (with_reducible first | exact HB.out | apply below_alloc | apply pw_below_drewN | apply below_drew1) | exact HB.out)) hb); clear HB; have HB := n0_; clear n0_; (try clear hb); (try clear hb2); (try clear hk); (try clear hi)) | ((with_reducible refine gate_callee (f := 51) rfl ?_); refine goesL_ (some 19) rfl rfl Tryz.func51 (by kernel_rfl) rfl #[.string a0, .int .i64 9, .int .i64 2] rfl (by (try simp only [List.map_toArray, List.map_cons, List.map_nil]); first | done | rfl | (simp only [List.length_drop, List.length_take]; rfl)) ?_; (with_reducible refine (date_field.calls a0 9 2 t276 _ A6.out).mono ?_); rintro e w13 ⟨rfl, hb⟩; refine ⟨_, rfl, ?_⟩; have n0_ := Aside0.mk (below_step (by repeat (first | (with_reducible first | exact HB.out | apply below_alloc | apply pw_below_drewN | apply below_drew1) | exact HB.out)) hb); clear HB; have HB := n0_; clear n0_; (try clear hb); (try clear hb2); (try clear hk); (try clear hi)) | ((with_reducible refine gate_callee (f := 51) rfl ?_); refine goesL_ (some 23) rfl rfl Tryz.func51 (by kernel_rfl) rfl #[.string a0, .int .i64 11, .int .i64 2] rfl (by (try simp only [List.map_toArray, List.map_cons, List.map_nil]); first | done | rfl | (simp only [List.length_drop, List.length_take]; rfl)) ?_; (with_reducible refine (date_field.calls a0 11 2 t277 _ A7.out).mono ?_); rintro e w14 ⟨rfl, hb⟩; refine ⟨_, rfl, ?_⟩; have n0_ := Aside0.mk (below_step (by repeat (first | (with_reducible first | exact HB.out | apply below_alloc | apply pw_below_drewN | apply below_drew1) | exact HB.out)) hb); clear HB; have HB := n0_; clear n0_; (try clear hb); (try clear hb2); (try clear hk); (try clear hi)) | ((with_reducible refine gate_callee (f := 51) rfl ?_); refine goesL_ (some 27) rfl rfl Tryz.func51 (by kernel_rfl) rfl #[.string a0, .int .i64 13, .int .i64 2] rfl (by (try simp only [List.map_toArray, List.map_cons, List.map_nil]); first | done | rfl | (simp only [List.length_drop, List.length_take]; rfl)) ?_; (with_reducible refine (date_field.calls a0 13 2 t278 _ A8.out).mono ?_); rintro e w15 ⟨rfl, hb⟩; refine ⟨_, rfl, ?_⟩; have n0_ := Aside0.mk (below_step (by repeat (first | (with_reducible first | exact HB.out | apply below_alloc | apply pw_below_drewN | apply below_drew1) | exact HB.out)) hb); clear HB; have HB := n0_; clear n0_; (try clear hb); (try clear hb2); (try clear hk); (try clear hi)) | (go_at_call 52; (with_reducible refine (date_Stamp.calls (wrap64 ((wrap64 ((wrap64 ((wrap64 (t274 * 86400)) + (wrap64 (t276 * 3600)))) + (wrap64 (t277 * 60)))) + t278)) t279 _ A10.out (HTab.out.below (by repeat (first | (with_reducible first | exact HB.out | apply below_alloc | apply pw_below_drewN | apply below_drew1) | exact HB.out)))).mono ?_); rintro e w16 ⟨rfl, hb⟩; have n0_ := Aside0.mk (below_step (by repeat (first | (with_reducible first | exact HB.out | apply below_alloc | apply pw_below_drewN | apply below_drew1) | exact HB.out)) hb); clear HB; have HB := n0_; clear n0_; (try clear hb); (try clear hb2); (try clear hk); (try clear hi)))
            go_ret2
            exact ⟨by first | rfl | (simp [errW_none, errW_some] <;> rfl) | (simp [*, errW_none, errW_some] <;> rfl), by repeat (first | (with_reducible first | exact HB.out | apply below_alloc | apply pw_below_drewN | apply below_drew1) | exact HB.out)⟩
          · rw [if_neg c11] at H
            have c11b0 : (t279.toList == a0.toList) = false := beq_eq_false_iff_ne.mpr c11
            have c11b1 : (t279.toList != a0.toList) = true := bne_iff_ne.mpr c11
            simp only [Option.some.injEq, Prod.mk.injEq] at H
            obtain ⟨rfl, rfl⟩ := H
            go_enter Tryz.func31, Tryz.ntmps31
            go_wp2_with (first | ((with_reducible refine gate_callee (f := 50) rfl ?_); refine goesL_ (some 13) rfl rfl Tryz.func50 (by kernel_rfl) rfl #[.string (a0.extract 0 8)] rfl (by (try simp only [List.map_toArray, List.map_cons, List.map_nil]); first | done | rfl | (simp only [List.length_drop, List.length_take]; rfl)) ?_; (with_reducible refine (date_ReadDay.calls (a0.extract 0 8) t274 t275 _ A5.out).mono ?_); rintro e w17 ⟨rfl, hb⟩; refine ⟨_, rfl, ?_⟩; have n0_ := Aside0.mk (below_step (by repeat (first | (with_reducible first | exact HB.out | apply below_alloc | apply pw_below_drewN | apply below_drew1) | exact HB.out)) hb); clear HB; have HB := n0_; clear n0_; (try clear hb); (try clear hb2); (try clear hk); (try clear hi)) | ((with_reducible refine gate_callee (f := 51) rfl ?_); refine goesL_ (some 19) rfl rfl Tryz.func51 (by kernel_rfl) rfl #[.string a0, .int .i64 9, .int .i64 2] rfl (by (try simp only [List.map_toArray, List.map_cons, List.map_nil]); first | done | rfl | (simp only [List.length_drop, List.length_take]; rfl)) ?_; (with_reducible refine (date_field.calls a0 9 2 t276 _ A6.out).mono ?_); rintro e w18 ⟨rfl, hb⟩; refine ⟨_, rfl, ?_⟩; have n0_ := Aside0.mk (below_step (by repeat (first | (with_reducible first | exact HB.out | apply below_alloc | apply pw_below_drewN | apply below_drew1) | exact HB.out)) hb); clear HB; have HB := n0_; clear n0_; (try clear hb); (try clear hb2); (try clear hk); (try clear hi)) | ((with_reducible refine gate_callee (f := 51) rfl ?_); refine goesL_ (some 23) rfl rfl Tryz.func51 (by kernel_rfl) rfl #[.string a0, .int .i64 11, .int .i64 2] rfl (by (try simp only [List.map_toArray, List.map_cons, List.map_nil]); first | done | rfl | (simp only [List.length_drop, List.length_take]; rfl)) ?_; (with_reducible refine (date_field.calls a0 11 2 t277 _ A7.out).mono ?_); rintro e w19 ⟨rfl, hb⟩; refine ⟨_, rfl, ?_⟩; have n0_ := Aside0.mk (below_step (by repeat (first | (with_reducible first | exact HB.out | apply below_alloc | apply pw_below_drewN | apply below_drew1) | exact HB.out)) hb); clear HB; have HB := n0_; clear n0_; (try clear hb); (try clear hb2); (try clear hk); (try clear hi)) | ((with_reducible refine gate_callee (f := 51) rfl ?_); refine goesL_ (some 27) rfl rfl Tryz.func51 (by kernel_rfl) rfl #[.string a0, .int .i64 13, .int .i64 2] rfl (by (try simp only [List.map_toArray, List.map_cons, List.map_nil]); first | done | rfl | (simp only [List.length_drop, List.length_take]; rfl)) ?_; (with_reducible refine (date_field.calls a0 13 2 t278 _ A8.out).mono ?_); rintro e w20 ⟨rfl, hb⟩; refine ⟨_, rfl, ?_⟩; have n0_ := Aside0.mk (below_step (by repeat (first | (with_reducible first | exact HB.out | apply below_alloc | apply pw_below_drewN | apply below_drew1) | exact HB.out)) hb); clear HB; have HB := n0_; clear n0_; (try clear hb); (try clear hb2); (try clear hk); (try clear hi)) | (go_at_call 52; (with_reducible refine (date_Stamp.calls (wrap64 ((wrap64 ((wrap64 ((wrap64 (t274 * 86400)) + (wrap64 (t276 * 3600)))) + (wrap64 (t277 * 60)))) + t278)) t279 _ A10.out (HTab.out.below (by repeat (first | (with_reducible first | exact HB.out | apply below_alloc | apply pw_below_drewN | apply below_drew1) | exact HB.out)))).mono ?_); rintro e w21 ⟨rfl, hb⟩; have n0_ := Aside0.mk (below_step (by repeat (first | (with_reducible first | exact HB.out | apply below_alloc | apply pw_below_drewN | apply below_drew1) | exact HB.out)) hb); clear HB; have HB := n0_; clear n0_; (try clear hb); (try clear hb2); (try clear hk); (try clear hi)))
            go_ret2
            exact ⟨by first | rfl | (simp [errW_none, errW_some] <;> rfl) | (simp [*, errW_none, errW_some] <;> rfl), by repeat (first | (with_reducible first | exact HB.out | apply below_alloc | apply pw_below_drewN | apply below_drew1) | exact HB.out)⟩
        · rw [if_neg c9] at H
          have c9b0 : (t275 == 0) = false := beq_eq_false_iff_ne.mpr c9
          have c9b1 : (t275 != 0) = true := bne_iff_ne.mpr c9
          simp only [Option.some.injEq, Prod.mk.injEq] at H
          obtain ⟨rfl, rfl⟩ := H
          go_enter Tryz.func31, Tryz.ntmps31
          go_wp2_with (first | ((with_reducible refine gate_callee (f := 50) rfl ?_); refine goesL_ (some 13) rfl rfl Tryz.func50 (by kernel_rfl) rfl #[.string (a0.extract 0 8)] rfl (by (try simp only [List.map_toArray, List.map_cons, List.map_nil]); first | done | rfl | (simp only [List.length_drop, List.length_take]; rfl)) ?_; (with_reducible refine (date_ReadDay.calls (a0.extract 0 8) t274 t275 _ A5.out).mono ?_); rintro e w22 ⟨rfl, hb⟩; refine ⟨_, rfl, ?_⟩; have n0_ := Aside0.mk (below_step (by repeat (first | (with_reducible first | exact HB.out | apply below_alloc | apply pw_below_drewN | apply below_drew1) | exact HB.out)) hb); clear HB; have HB := n0_; clear n0_; (try clear hb); (try clear hb2); (try clear hk); (try clear hi)) | ((with_reducible refine gate_callee (f := 51) rfl ?_); refine goesL_ (some 19) rfl rfl Tryz.func51 (by kernel_rfl) rfl #[.string a0, .int .i64 9, .int .i64 2] rfl (by (try simp only [List.map_toArray, List.map_cons, List.map_nil]); first | done | rfl | (simp only [List.length_drop, List.length_take]; rfl)) ?_; (with_reducible refine (date_field.calls a0 9 2 t276 _ A6.out).mono ?_); rintro e w23 ⟨rfl, hb⟩; refine ⟨_, rfl, ?_⟩; have n0_ := Aside0.mk (below_step (by repeat (first | (with_reducible first | exact HB.out | apply below_alloc | apply pw_below_drewN | apply below_drew1) | exact HB.out)) hb); clear HB; have HB := n0_; clear n0_; (try clear hb); (try clear hb2); (try clear hk); (try clear hi)) | ((with_reducible refine gate_callee (f := 51) rfl ?_); refine goesL_ (some 23) rfl rfl Tryz.func51 (by kernel_rfl) rfl #[.string a0, .int .i64 11, .int .i64 2] rfl (by (try simp only [List.map_toArray, List.map_cons, List.map_nil]); first | done | rfl | (simp only [List.length_drop, List.length_take]; rfl)) ?_; (with_reducible refine (date_field.calls a0 11 2 t277 _ A7.out).mono ?_); rintro e w24 ⟨rfl, hb⟩; refine ⟨_, rfl, ?_⟩; have n0_ := Aside0.mk (below_step (by repeat (first | (with_reducible first | exact HB.out | apply below_alloc | apply pw_below_drewN | apply below_drew1) | exact HB.out)) hb); clear HB; have HB := n0_; clear n0_; (try clear hb); (try clear hb2); (try clear hk); (try clear hi)) | ((with_reducible refine gate_callee (f := 51) rfl ?_); refine goesL_ (some 27) rfl rfl Tryz.func51 (by kernel_rfl) rfl #[.string a0, .int .i64 13, .int .i64 2] rfl (by (try simp only [List.map_toArray, List.map_cons, List.map_nil]); first | done | rfl | (simp only [List.length_drop, List.length_take]; rfl)) ?_; (with_reducible refine (date_field.calls a0 13 2 t278 _ A8.out).mono ?_); rintro e w25 ⟨rfl, hb⟩; refine ⟨_, rfl, ?_⟩; have n0_ := Aside0.mk (below_step (by repeat (first | (with_reducible first | exact HB.out | apply below_alloc | apply pw_below_drewN | apply below_drew1) | exact HB.out)) hb); clear HB; have HB := n0_; clear n0_; (try clear hb); (try clear hb2); (try clear hk); (try clear hi)))
          go_ret2
          exact ⟨by first | rfl | (simp [errW_none, errW_some] <;> rfl) | (simp [*, errW_none, errW_some] <;> rfl), by repeat (first | (with_reducible first | exact HB.out | apply below_alloc | apply pw_below_drewN | apply below_drew1) | exact HB.out)⟩
      · rw [if_neg c4] at H
        exact absurd H (by simp)
    · rw [if_neg c3] at H
      exact absurd H (by simp)
  · rw [if_neg c2] at H
    have c2b0 : ((a0.size : Int) == 15) = false := beq_eq_false_iff_ne.mpr c2
    have c2b1 : ((a0.size : Int) != 15) = true := bne_iff_ne.mpr c2
    simp only [Option.some.injEq, Prod.mk.injEq] at H
    obtain ⟨rfl, rfl⟩ := H
    go_enter Tryz.func31, Tryz.ntmps31
    go_wp2
    go_ret2
    exact ⟨by first | rfl | (simp [errW_none, errW_some] <;> rfl) | (simp [*, errW_none, errW_some] <;> rfl), by repeat (first | (with_reducible first | exact HB.out | apply below_alloc | apply pw_below_drewN | apply below_drew1) | exact HB.out)⟩
end Go.Proofs.YtmajmolbjiahlaaGreatDoor.PD
namespace Go.Proofs.YtmajmolbjiahlaaGreatDoor.PD
open Go.RowKit Go.Proofs.YtmajmolbjiahlaaGreatDoorW.PrintWords Go.Proofs.YtmajmolbjiahlaaGreatDoorW.PrintLast Go.Proofs.YtmajmolbjiahlaaGreatDoorW.PrintMore
attribute [local go_sem] isSome_setCell max2_int min2_int max_two min_two max_three min_three max_four min_four
set_option linter.unusedVariables false
set_option linter.unusedSimpArgs false
def zone_stamp.f (a0 : ByteArray) : Option (Int) := (date_ReadStamp.f a0).bind fun bt280 => (some bt280.1)
set_option maxHeartbeats 8000000 in
set_option maxRecDepth 100000 in
theorem zone_stamp.calls (a0 : ByteArray) (r : Int) (w : World) (h : zone_stamp.f a0 = some r) (hTab : Tab w) :
    Calls Tryz.prog 54 #[.string a0] w fun e w' => e = .returned (.int .i64 r) ∧ Below w.heap.size w w' := by
  have HTab := Aside0.mk hTab
  clear hTab
  have HB := Aside0.mk (Below.refl w.heap.size w)
  have H : ((date_ReadStamp.f a0).bind fun bt280 => (some bt280.1)) = some r := h
  clear h
  replace H := Option.bind_eq_some_iff.mp H
  obtain ⟨⟨t280, t281⟩, A20, H⟩ := H
  replace H : (some t280) = some r := H
  have A2 := Aside0.mk A20
  clear A20
  obtain rfl := Option.some.inj H
  go_enter Tryz.func54, Tryz.ntmps54
  go_wp2_with (first | ((with_reducible refine gate_callee (f := 31) rfl ?_); refine goesL_ (some 7) rfl rfl Tryz.func31 (by kernel_rfl) rfl #[.string a0] rfl (by (try simp only [List.map_toArray, List.map_cons, List.map_nil]); first | done | rfl | (simp only [List.length_drop, List.length_take]; rfl)) ?_; (with_reducible refine (date_ReadStamp.calls a0 t280 t281 _ A2.out (HTab.out.below (by repeat (first | (with_reducible first | exact HB.out | apply below_alloc | apply pw_below_drewN | apply below_drew1) | exact HB.out)))).mono ?_); rintro e w3 ⟨rfl, hb⟩; refine ⟨_, rfl, ?_⟩; have n0_ := Aside0.mk (below_step (by repeat (first | (with_reducible first | exact HB.out | apply below_alloc | apply pw_below_drewN | apply below_drew1) | exact HB.out)) hb); clear HB; have HB := n0_; clear n0_; (try clear hb); (try clear hb2); (try clear hk); (try clear hi)))
  go_ret
  exact ⟨by first | rfl | (simp [errW_none, errW_some] <;> rfl) | (simp [*, errW_none, errW_some] <;> rfl), by repeat (first | (with_reducible first | exact HB.out | apply below_alloc | apply pw_below_drewN | apply below_drew1) | exact HB.out)⟩
end Go.Proofs.YtmajmolbjiahlaaGreatDoor.PD
namespace Go.Proofs.YtmajmolbjiahlaaGreatDoor.PD
open Go.RowKit Go.Proofs.YtmajmolbjiahlaaGreatDoorW.PrintWords Go.Proofs.YtmajmolbjiahlaaGreatDoorW.PrintLast Go.Proofs.YtmajmolbjiahlaaGreatDoorW.PrintMore
attribute [local go_sem] isSome_setCell max2_int min2_int max_two min_two max_three min_three max_four min_four
set_option linter.unusedVariables false
set_option linter.unusedSimpArgs false
def zone_sundays.f (a0 : ByteArray) (a1 : Int) (a2 : Int) (a3 : Int) (a4 : Int) : Option (Int × Int × Int × Bool × Int × Int × Int) := (zone_stamp.f a0).bind fun t283 => (some (t283, wrap64 (a1 * 3600), wrap64 (a2 * 3600), true, a3, a4, 6))
set_option maxHeartbeats 8000000 in
set_option maxRecDepth 100000 in
theorem zone_sundays.calls (a0 : ByteArray) (a1 : Int) (a2 : Int) (a3 : Int) (a4 : Int) (r1 : Int) (r2 : Int) (r3 : Int) (r4 : Bool) (r5 : Int) (r6 : Int) (r7 : Int) (w : World) (h : zone_sundays.f a0 a1 a2 a3 a4 = some (r1, r2, r3, r4, r5, r6, r7)) (hTab : Tab w) :
    Calls Tryz.prog 53 #[.string a0, .int .i64 a1, .int .i64 a2, .int .i64 a3, .int .i64 a4] w fun e w' => e = .returned (.agg #[.int .i64 r1, .int .i64 r2, .int .i64 r3, .bool r4, .int .i64 r5, .int .i64 r6, .int .i64 r7]) ∧ Below w.heap.size w w' := by
  have HTab := Aside0.mk hTab
  clear hTab
  have hu32 := Tryz.underlying32
  have hu30 := Tryz.underlying30
  have HB := Aside0.mk (Below.refl w.heap.size w)
  have H : ((zone_stamp.f a0).bind fun t283 => (some (t283, wrap64 (a1 * 3600), wrap64 (a2 * 3600), true, a3, a4, 6))) = some (r1, r2, r3, r4, r5, r6, r7) := h
  clear h
  replace H := Option.bind_eq_some_iff.mp H
  obtain ⟨t283, A60, H⟩ := H
  replace H : (some (t283, wrap64 (a1 * 3600), wrap64 (a2 * 3600), true, a3, a4, 6)) = some (r1, r2, r3, r4, r5, r6, r7) := H
  have A6 := Aside0.mk A60
  clear A60
  simp only [Option.some.injEq, Prod.mk.injEq] at H
  obtain ⟨rfl, rfl, rfl, rfl, rfl, rfl, rfl⟩ := H
  go_enter Tryz.func53, Tryz.ntmps53
  go_wp2_with (first | ((with_reducible refine gate_dst (N := 10) rfl ?_); refine box_event ?hg (N := 10) ?hd (cs := #[.int .i64 0, .int .i64 0, .int .i64 0, .bool false, .int .i64 0, .int .i64 0, .int .i64 0]) (t := 32) ?hr ?_; (case hd => rfl); (case hg => rfl); (case hr => first | (go_simp; done) | (go_simp; rfl)); intro gb282 hg w7 hbox hb; have n0_ := Aside0.mk (below_step (by repeat (first | (with_reducible first | exact HB.out | apply below_alloc | apply pw_below_drewN | apply below_drew1) | exact HB.out)) hb); have n1_ := Aside0.mk (hbox); have n2_ := Aside0.mk ((by rw [hg]; exact (below_size (by repeat (first | (with_reducible first | exact HB.out | apply below_alloc | apply pw_below_drewN | apply below_drew1) | exact HB.out))) : w.heap.size ≤ gb282)); have n3_ := Aside0.mk ((by rw [hg]; exact (below_size (by repeat (first | (with_reducible first | exact HB.out | apply below_alloc | apply pw_below_drewN | apply below_drew1) | exact HB.out))) : w.heap.size ≤ gb282)); clear HB; have HB := n0_; have BK282 := n1_; have GW282 := n2_; have GE282 := n3_; clear n0_ n1_ n2_ n3_; clear hb hbox hg) | ((with_reducible refine gate_callee (f := 54) rfl ?_); refine goesL_ (some 12) rfl rfl Tryz.func54 (by kernel_rfl) rfl #[.string a0] rfl (by (try simp only [List.map_toArray, List.map_cons, List.map_nil]); first | done | rfl | (simp only [List.length_drop, List.length_take]; rfl)) ?_; (with_reducible refine (zone_stamp.calls a0 t283 _ A6.out (HTab.out.below (by repeat (first | (with_reducible first | exact HB.out | apply below_alloc | apply pw_below_drewN | apply below_drew1) | exact HB.out)))).mono ?_); rintro e w8 ⟨rfl, hb⟩; refine ⟨_, rfl, ?_⟩; have n0_ := Aside0.mk (blk_below (g := gb282) (o := .cells #[.int .i64 0, .int .i64 0, .int .i64 0, .bool false, .int .i64 0, .int .i64 0, .int .i64 0] 32 (0, 0)) (by (with_reducible repeat (first | refine blk_drewN ?_ _ | refine blk_drew ?_ | refine blk_alloc ?_ _)); exact BK282.out) hb); have n1_ := Aside0.mk (below_step (by repeat (first | (with_reducible first | exact HB.out | apply below_alloc | apply pw_below_drewN | apply below_drew1 | refine below_set ?_ GE282.out) | exact HB.out)) hb); clear BK282; clear HB; have BK282 := n0_; have HB := n1_; clear n0_ n1_; (try clear hb); (try clear hb2); (try clear hk); (try clear hi); have hcz9_0 : w8.cell? ⟨gb282, 0, none⟩ = some (.int .i64 0) := (blk_cell BK282.out 0).trans rfl; have hcz9_1 : w8.cell? ⟨gb282, 1, none⟩ = some (.int .i64 0) := (blk_cell BK282.out 1).trans rfl; have hcz9_2 : w8.cell? ⟨gb282, 2, none⟩ = some (.int .i64 0) := (blk_cell BK282.out 2).trans rfl; have hcz9_3 : w8.cell? ⟨gb282, 3, none⟩ = some (.bool false) := (blk_cell BK282.out 3).trans rfl; have hcz9_4 : w8.cell? ⟨gb282, 4, none⟩ = some (.int .i64 0) := (blk_cell BK282.out 4).trans rfl; have hcz9_5 : w8.cell? ⟨gb282, 5, none⟩ = some (.int .i64 0) := (blk_cell BK282.out 5).trans rfl; have hcz9_6 : w8.cell? ⟨gb282, 6, none⟩ = some (.int .i64 0) := (blk_cell BK282.out 6).trans rfl; have hfz9_0 := blk_frozen BK282.out 0; have hfz9_1 := blk_frozen BK282.out 1; have hfz9_2 := blk_frozen BK282.out 2; have hfz9_3 := blk_frozen BK282.out 3; have hfz9_4 := blk_frozen BK282.out 4; have hfz9_5 := blk_frozen BK282.out 5; have hfz9_6 := blk_frozen BK282.out 6))
  refine bodyPost_ret (results_cell_row rfl _ _ gb282 32 #[.int .i64 t283, .int .i64 (wrap64 (a1 * 3600)), .int .i64 (wrap64 (a2 * 3600)), .bool true, .int .i64 a3, .int .i64 a4, .int .i64 6] (0, 0) _ rfl (by (with_reducible repeat (first | refine blk_drewN ?_ _ | refine blk_drew ?_ | refine blk_alloc ?_ _)); refine blk_put (cs := #[.int .i64 t283, .int .i64 (wrap64 (a1 * 3600)), .int .i64 (wrap64 (a2 * 3600)), .bool true, .int .i64 a3, .int .i64 a4, .int .i64 0]) ?_ 6 _ rfl; (with_reducible repeat (first | refine blk_drewN ?_ _ | refine blk_drew ?_ | refine blk_alloc ?_ _)); refine blk_put (cs := #[.int .i64 t283, .int .i64 (wrap64 (a1 * 3600)), .int .i64 (wrap64 (a2 * 3600)), .bool true, .int .i64 a3, .int .i64 0, .int .i64 0]) ?_ 5 _ rfl; (with_reducible repeat (first | refine blk_drewN ?_ _ | refine blk_drew ?_ | refine blk_alloc ?_ _)); refine blk_put (cs := #[.int .i64 t283, .int .i64 (wrap64 (a1 * 3600)), .int .i64 (wrap64 (a2 * 3600)), .bool true, .int .i64 0, .int .i64 0, .int .i64 0]) ?_ 4 _ rfl; (with_reducible repeat (first | refine blk_drewN ?_ _ | refine blk_drew ?_ | refine blk_alloc ?_ _)); refine blk_put (cs := #[.int .i64 t283, .int .i64 (wrap64 (a1 * 3600)), .int .i64 (wrap64 (a2 * 3600)), .bool false, .int .i64 0, .int .i64 0, .int .i64 0]) ?_ 3 _ rfl; (with_reducible repeat (first | refine blk_drewN ?_ _ | refine blk_drew ?_ | refine blk_alloc ?_ _)); refine blk_put (cs := #[.int .i64 t283, .int .i64 (wrap64 (a1 * 3600)), .int .i64 0, .bool false, .int .i64 0, .int .i64 0, .int .i64 0]) ?_ 2 _ rfl; (with_reducible repeat (first | refine blk_drewN ?_ _ | refine blk_drew ?_ | refine blk_alloc ?_ _)); refine blk_put (cs := #[.int .i64 t283, .int .i64 0, .int .i64 0, .bool false, .int .i64 0, .int .i64 0, .int .i64 0]) ?_ 1 _ rfl; (with_reducible repeat (first | refine blk_drewN ?_ _ | refine blk_drew ?_ | refine blk_alloc ?_ _)); refine blk_put (cs := #[.int .i64 0, .int .i64 0, .int .i64 0, .bool false, .int .i64 0, .int .i64 0, .int .i64 0]) ?_ 0 _ rfl; (with_reducible repeat (first | refine blk_drewN ?_ _ | refine blk_drew ?_ | refine blk_alloc ?_ _)); exact BK282.out) Tryz.underlying32 rfl (by kernel_rfl)) rfl ?_
  exact ⟨by first | rfl | (simp [errW_none, errW_some] <;> rfl) | (simp [*, errW_none, errW_some] <;> rfl), by repeat (first | (with_reducible first | exact HB.out | apply below_alloc | apply pw_below_drewN | apply below_drew1 | refine below_set ?_ GE282.out) | exact HB.out)⟩
end Go.Proofs.YtmajmolbjiahlaaGreatDoor.PD
namespace Go.Proofs.YtmajmolbjiahlaaGreatDoor.PD
open Go.RowKit Go.Proofs.YtmajmolbjiahlaaGreatDoorW.PrintWords Go.Proofs.YtmajmolbjiahlaaGreatDoorW.PrintLast Go.Proofs.YtmajmolbjiahlaaGreatDoorW.PrintMore
attribute [local go_sem] isSome_setCell max2_int min2_int max_two min_two max_three min_three max_four min_four
set_option linter.unusedVariables false
set_option linter.unusedSimpArgs false
def zone_known.f  : Option ((List (S24))) := (zone_sundays.f (⟨#[50, 48, 48, 55, 48, 51, 49, 49, 84, 48, 50, 48, 48, 48, 48]⟩ : ByteArray) (-5) (-4) 3 2).bind fun bt284 => ((zone_sundays.f (⟨#[50, 48, 48, 55, 49, 49, 48, 52, 84, 48, 50, 48, 48, 48, 48]⟩ : ByteArray) (-4) (-5) 11 1).bind fun bt291 => ((zone_stamp.f (⟨#[49, 57, 52, 53, 49, 48, 49, 53, 84, 48, 48, 48, 48, 48, 48]⟩ : ByteArray)).bind fun t301 => ((zone_sundays.f (⟨#[50, 48, 48, 56, 48, 52, 48, 54, 84, 48, 51, 48, 48, 48, 48]⟩ : ByteArray) 11 10 4 1).bind fun bt305 => ((zone_sundays.f (⟨#[50, 48, 48, 56, 49, 48, 48, 53, 84, 48, 50, 48, 48, 48, 48]⟩ : ByteArray) 10 11 10 1).bind fun bt312 => ((zone_sundays.f (⟨#[49, 57, 57, 54, 48, 51, 51, 49, 84, 48, 50, 48, 48, 48, 48]⟩ : ByteArray) 1 2 3 (-1)).bind fun bt322 => ((zone_sundays.f (⟨#[49, 57, 57, 54, 49, 48, 50, 55, 84, 48, 51, 48, 48, 48, 48]⟩ : ByteArray) 2 1 10 (-1)).bind fun bt329 => (some (([(⟨(⟨#[65, 109, 101, 114, 105, 99, 97, 47, 78, 101, 119, 95, 89, 111, 114, 107]⟩ : ByteArray), (([(⟨bt284.1, bt284.2.1, bt284.2.2.1, bt284.2.2.2.1, bt284.2.2.2.2.1, (⟨bt284.2.2.2.2.2.1, bt284.2.2.2.2.2.2⟩ : S30)⟩ : S32), (⟨bt291.1, bt291.2.1, bt291.2.2.1, bt291.2.2.2.1, bt291.2.2.2.2.1, (⟨bt291.2.2.2.2.2.1, bt291.2.2.2.2.2.2⟩ : S30)⟩ : S32)] : List (S32)))⟩ : S24), (⟨(⟨#[65, 115, 105, 97, 47, 75, 111, 108, 107, 97, 116, 97]⟩ : ByteArray), (([(⟨t301, 19800, 19800, false, 0, (⟨0, 0⟩ : S30)⟩ : S32)] : List (S32)))⟩ : S24), (⟨(⟨#[65, 117, 115, 116, 114, 97, 108, 105, 97, 47, 83, 121, 100, 110, 101, 121]⟩ : ByteArray), (([(⟨bt305.1, bt305.2.1, bt305.2.2.1, bt305.2.2.2.1, bt305.2.2.2.2.1, (⟨bt305.2.2.2.2.2.1, bt305.2.2.2.2.2.2⟩ : S30)⟩ : S32), (⟨bt312.1, bt312.2.1, bt312.2.2.1, bt312.2.2.2.1, bt312.2.2.2.2.1, (⟨bt312.2.2.2.2.2.1, bt312.2.2.2.2.2.2⟩ : S30)⟩ : S32)] : List (S32)))⟩ : S24), (⟨(⟨#[69, 116, 99, 47, 85, 84, 67]⟩ : ByteArray), ([] : List (S32))⟩ : S24), (⟨(⟨#[69, 117, 114, 111, 112, 101, 47, 66, 101, 114, 108, 105, 110]⟩ : ByteArray), (([(⟨bt322.1, bt322.2.1, bt322.2.2.1, bt322.2.2.2.1, bt322.2.2.2.2.1, (⟨bt322.2.2.2.2.2.1, bt322.2.2.2.2.2.2⟩ : S30)⟩ : S32), (⟨bt329.1, bt329.2.1, bt329.2.2.1, bt329.2.2.2.1, bt329.2.2.2.2.1, (⟨bt329.2.2.2.2.2.1, bt329.2.2.2.2.2.2⟩ : S30)⟩ : S32)] : List (S32)))⟩ : S24), (⟨(⟨#[85, 84, 67]⟩ : ByteArray), ([] : List (S32))⟩ : S24)] : List (S24))))))))))
set_option maxHeartbeats 8000000 in
set_option maxRecDepth 100000 in
theorem zone_known.calls  (r : List (S24)) (w : World) (h : zone_known.f  = some r) (hTab : Tab w) :
    Calls Tryz.prog 34 #[] w fun e w' => ∃ v0_ : Value, e = .returned (v0_) ∧ Kd.N k24 24 w' w.heap.size (fun k_ => (w.heap.size ≤ k_)) v0_ r ∧ Below w.heap.size w w' := by
  have HTab := Aside0.mk hTab
  clear hTab
  have hu24 := Tryz.underlying24
  have hu32 := Tryz.underlying32
  have HB := Aside0.mk (Below.refl w.heap.size w)
  have H : ((zone_sundays.f (⟨#[50, 48, 48, 55, 48, 51, 49, 49, 84, 48, 50, 48, 48, 48, 48]⟩ : ByteArray) (-5) (-4) 3 2).bind fun bt284 => ((zone_sundays.f (⟨#[50, 48, 48, 55, 49, 49, 48, 52, 84, 48, 50, 48, 48, 48, 48]⟩ : ByteArray) (-4) (-5) 11 1).bind fun bt291 => ((zone_stamp.f (⟨#[49, 57, 52, 53, 49, 48, 49, 53, 84, 48, 48, 48, 48, 48, 48]⟩ : ByteArray)).bind fun t301 => ((zone_sundays.f (⟨#[50, 48, 48, 56, 48, 52, 48, 54, 84, 48, 51, 48, 48, 48, 48]⟩ : ByteArray) 11 10 4 1).bind fun bt305 => ((zone_sundays.f (⟨#[50, 48, 48, 56, 49, 48, 48, 53, 84, 48, 50, 48, 48, 48, 48]⟩ : ByteArray) 10 11 10 1).bind fun bt312 => ((zone_sundays.f (⟨#[49, 57, 57, 54, 48, 51, 51, 49, 84, 48, 50, 48, 48, 48, 48]⟩ : ByteArray) 1 2 3 (-1)).bind fun bt322 => ((zone_sundays.f (⟨#[49, 57, 57, 54, 49, 48, 50, 55, 84, 48, 51, 48, 48, 48, 48]⟩ : ByteArray) 2 1 10 (-1)).bind fun bt329 => (some (([(⟨(⟨#[65, 109, 101, 114, 105, 99, 97, 47, 78, 101, 119, 95, 89, 111, 114, 107]⟩ : ByteArray), (([(⟨bt284.1, bt284.2.1, bt284.2.2.1, bt284.2.2.2.1, bt284.2.2.2.2.1, (⟨bt284.2.2.2.2.2.1, bt284.2.2.2.2.2.2⟩ : S30)⟩ : S32), (⟨bt291.1, bt291.2.1, bt291.2.2.1, bt291.2.2.2.1, bt291.2.2.2.2.1, (⟨bt291.2.2.2.2.2.1, bt291.2.2.2.2.2.2⟩ : S30)⟩ : S32)] : List (S32)))⟩ : S24), (⟨(⟨#[65, 115, 105, 97, 47, 75, 111, 108, 107, 97, 116, 97]⟩ : ByteArray), (([(⟨t301, 19800, 19800, false, 0, (⟨0, 0⟩ : S30)⟩ : S32)] : List (S32)))⟩ : S24), (⟨(⟨#[65, 117, 115, 116, 114, 97, 108, 105, 97, 47, 83, 121, 100, 110, 101, 121]⟩ : ByteArray), (([(⟨bt305.1, bt305.2.1, bt305.2.2.1, bt305.2.2.2.1, bt305.2.2.2.2.1, (⟨bt305.2.2.2.2.2.1, bt305.2.2.2.2.2.2⟩ : S30)⟩ : S32), (⟨bt312.1, bt312.2.1, bt312.2.2.1, bt312.2.2.2.1, bt312.2.2.2.2.1, (⟨bt312.2.2.2.2.2.1, bt312.2.2.2.2.2.2⟩ : S30)⟩ : S32)] : List (S32)))⟩ : S24), (⟨(⟨#[69, 116, 99, 47, 85, 84, 67]⟩ : ByteArray), ([] : List (S32))⟩ : S24), (⟨(⟨#[69, 117, 114, 111, 112, 101, 47, 66, 101, 114, 108, 105, 110]⟩ : ByteArray), (([(⟨bt322.1, bt322.2.1, bt322.2.2.1, bt322.2.2.2.1, bt322.2.2.2.2.1, (⟨bt322.2.2.2.2.2.1, bt322.2.2.2.2.2.2⟩ : S30)⟩ : S32), (⟨bt329.1, bt329.2.1, bt329.2.2.1, bt329.2.2.2.1, bt329.2.2.2.2.1, (⟨bt329.2.2.2.2.2.1, bt329.2.2.2.2.2.2⟩ : S30)⟩ : S32)] : List (S32)))⟩ : S24), (⟨(⟨#[85, 84, 67]⟩ : ByteArray), ([] : List (S32))⟩ : S24)] : List (S24))))))))))) = some r := h
  clear h
  replace H := Option.bind_eq_some_iff.mp H
  obtain ⟨⟨t284, t285, t286, t287, t288, t289, t290⟩, A10, H⟩ := H
  replace H : ((zone_sundays.f (⟨#[50, 48, 48, 55, 49, 49, 48, 52, 84, 48, 50, 48, 48, 48, 48]⟩ : ByteArray) (-4) (-5) 11 1).bind fun bt291 => ((zone_stamp.f (⟨#[49, 57, 52, 53, 49, 48, 49, 53, 84, 48, 48, 48, 48, 48, 48]⟩ : ByteArray)).bind fun t301 => ((zone_sundays.f (⟨#[50, 48, 48, 56, 48, 52, 48, 54, 84, 48, 51, 48, 48, 48, 48]⟩ : ByteArray) 11 10 4 1).bind fun bt305 => ((zone_sundays.f (⟨#[50, 48, 48, 56, 49, 48, 48, 53, 84, 48, 50, 48, 48, 48, 48]⟩ : ByteArray) 10 11 10 1).bind fun bt312 => ((zone_sundays.f (⟨#[49, 57, 57, 54, 48, 51, 51, 49, 84, 48, 50, 48, 48, 48, 48]⟩ : ByteArray) 1 2 3 (-1)).bind fun bt322 => ((zone_sundays.f (⟨#[49, 57, 57, 54, 49, 48, 50, 55, 84, 48, 51, 48, 48, 48, 48]⟩ : ByteArray) 2 1 10 (-1)).bind fun bt329 => (some (([(⟨(⟨#[65, 109, 101, 114, 105, 99, 97, 47, 78, 101, 119, 95, 89, 111, 114, 107]⟩ : ByteArray), (([(⟨t284, t285, t286, t287, t288, (⟨t289, t290⟩ : S30)⟩ : S32), (⟨bt291.1, bt291.2.1, bt291.2.2.1, bt291.2.2.2.1, bt291.2.2.2.2.1, (⟨bt291.2.2.2.2.2.1, bt291.2.2.2.2.2.2⟩ : S30)⟩ : S32)] : List (S32)))⟩ : S24), (⟨(⟨#[65, 115, 105, 97, 47, 75, 111, 108, 107, 97, 116, 97]⟩ : ByteArray), (([(⟨t301, 19800, 19800, false, 0, (⟨0, 0⟩ : S30)⟩ : S32)] : List (S32)))⟩ : S24), (⟨(⟨#[65, 117, 115, 116, 114, 97, 108, 105, 97, 47, 83, 121, 100, 110, 101, 121]⟩ : ByteArray), (([(⟨bt305.1, bt305.2.1, bt305.2.2.1, bt305.2.2.2.1, bt305.2.2.2.2.1, (⟨bt305.2.2.2.2.2.1, bt305.2.2.2.2.2.2⟩ : S30)⟩ : S32), (⟨bt312.1, bt312.2.1, bt312.2.2.1, bt312.2.2.2.1, bt312.2.2.2.2.1, (⟨bt312.2.2.2.2.2.1, bt312.2.2.2.2.2.2⟩ : S30)⟩ : S32)] : List (S32)))⟩ : S24), (⟨(⟨#[69, 116, 99, 47, 85, 84, 67]⟩ : ByteArray), ([] : List (S32))⟩ : S24), (⟨(⟨#[69, 117, 114, 111, 112, 101, 47, 66, 101, 114, 108, 105, 110]⟩ : ByteArray), (([(⟨bt322.1, bt322.2.1, bt322.2.2.1, bt322.2.2.2.1, bt322.2.2.2.2.1, (⟨bt322.2.2.2.2.2.1, bt322.2.2.2.2.2.2⟩ : S30)⟩ : S32), (⟨bt329.1, bt329.2.1, bt329.2.2.1, bt329.2.2.2.1, bt329.2.2.2.2.1, (⟨bt329.2.2.2.2.2.1, bt329.2.2.2.2.2.2⟩ : S30)⟩ : S32)] : List (S32)))⟩ : S24), (⟨(⟨#[85, 84, 67]⟩ : ByteArray), ([] : List (S32))⟩ : S24)] : List (S24)))))))))) = some r := H
  have A1 := Aside0.mk A10
  clear A10
  replace H := Option.bind_eq_some_iff.mp H
  obtain ⟨⟨t291, t292, t293, t294, t295, t296, t297⟩, A20, H⟩ := H
  replace H : ((zone_stamp.f (⟨#[49, 57, 52, 53, 49, 48, 49, 53, 84, 48, 48, 48, 48, 48, 48]⟩ : ByteArray)).bind fun t301 => ((zone_sundays.f (⟨#[50, 48, 48, 56, 48, 52, 48, 54, 84, 48, 51, 48, 48, 48, 48]⟩ : ByteArray) 11 10 4 1).bind fun bt305 => ((zone_sundays.f (⟨#[50, 48, 48, 56, 49, 48, 48, 53, 84, 48, 50, 48, 48, 48, 48]⟩ : ByteArray) 10 11 10 1).bind fun bt312 => ((zone_sundays.f (⟨#[49, 57, 57, 54, 48, 51, 51, 49, 84, 48, 50, 48, 48, 48, 48]⟩ : ByteArray) 1 2 3 (-1)).bind fun bt322 => ((zone_sundays.f (⟨#[49, 57, 57, 54, 49, 48, 50, 55, 84, 48, 51, 48, 48, 48, 48]⟩ : ByteArray) 2 1 10 (-1)).bind fun bt329 => (some (([(⟨(⟨#[65, 109, 101, 114, 105, 99, 97, 47, 78, 101, 119, 95, 89, 111, 114, 107]⟩ : ByteArray), (([(⟨t284, t285, t286, t287, t288, (⟨t289, t290⟩ : S30)⟩ : S32), (⟨t291, t292, t293, t294, t295, (⟨t296, t297⟩ : S30)⟩ : S32)] : List (S32)))⟩ : S24), (⟨(⟨#[65, 115, 105, 97, 47, 75, 111, 108, 107, 97, 116, 97]⟩ : ByteArray), (([(⟨t301, 19800, 19800, false, 0, (⟨0, 0⟩ : S30)⟩ : S32)] : List (S32)))⟩ : S24), (⟨(⟨#[65, 117, 115, 116, 114, 97, 108, 105, 97, 47, 83, 121, 100, 110, 101, 121]⟩ : ByteArray), (([(⟨bt305.1, bt305.2.1, bt305.2.2.1, bt305.2.2.2.1, bt305.2.2.2.2.1, (⟨bt305.2.2.2.2.2.1, bt305.2.2.2.2.2.2⟩ : S30)⟩ : S32), (⟨bt312.1, bt312.2.1, bt312.2.2.1, bt312.2.2.2.1, bt312.2.2.2.2.1, (⟨bt312.2.2.2.2.2.1, bt312.2.2.2.2.2.2⟩ : S30)⟩ : S32)] : List (S32)))⟩ : S24), (⟨(⟨#[69, 116, 99, 47, 85, 84, 67]⟩ : ByteArray), ([] : List (S32))⟩ : S24), (⟨(⟨#[69, 117, 114, 111, 112, 101, 47, 66, 101, 114, 108, 105, 110]⟩ : ByteArray), (([(⟨bt322.1, bt322.2.1, bt322.2.2.1, bt322.2.2.2.1, bt322.2.2.2.2.1, (⟨bt322.2.2.2.2.2.1, bt322.2.2.2.2.2.2⟩ : S30)⟩ : S32), (⟨bt329.1, bt329.2.1, bt329.2.2.1, bt329.2.2.2.1, bt329.2.2.2.2.1, (⟨bt329.2.2.2.2.2.1, bt329.2.2.2.2.2.2⟩ : S30)⟩ : S32)] : List (S32)))⟩ : S24), (⟨(⟨#[85, 84, 67]⟩ : ByteArray), ([] : List (S32))⟩ : S24)] : List (S24))))))))) = some r := H
  have A2 := Aside0.mk A20
  clear A20
  obtain ⟨y298, hy298⟩ : ∃ y_ : List (S32), y_ = (([(⟨t284, t285, t286, t287, t288, (⟨t289, t290⟩ : S30)⟩ : S32), (⟨t291, t292, t293, t294, t295, (⟨t296, t297⟩ : S30)⟩ : S32)] : List (S32))) := ⟨_, rfl⟩
  replace H : ((zone_stamp.f (⟨#[49, 57, 52, 53, 49, 48, 49, 53, 84, 48, 48, 48, 48, 48, 48]⟩ : ByteArray)).bind fun t301 => ((zone_sundays.f (⟨#[50, 48, 48, 56, 48, 52, 48, 54, 84, 48, 51, 48, 48, 48, 48]⟩ : ByteArray) 11 10 4 1).bind fun bt305 => ((zone_sundays.f (⟨#[50, 48, 48, 56, 49, 48, 48, 53, 84, 48, 50, 48, 48, 48, 48]⟩ : ByteArray) 10 11 10 1).bind fun bt312 => ((zone_sundays.f (⟨#[49, 57, 57, 54, 48, 51, 51, 49, 84, 48, 50, 48, 48, 48, 48]⟩ : ByteArray) 1 2 3 (-1)).bind fun bt322 => ((zone_sundays.f (⟨#[49, 57, 57, 54, 49, 48, 50, 55, 84, 48, 51, 48, 48, 48, 48]⟩ : ByteArray) 2 1 10 (-1)).bind fun bt329 => (some (([(⟨(⟨#[65, 109, 101, 114, 105, 99, 97, 47, 78, 101, 119, 95, 89, 111, 114, 107]⟩ : ByteArray), y298⟩ : S24), (⟨(⟨#[65, 115, 105, 97, 47, 75, 111, 108, 107, 97, 116, 97]⟩ : ByteArray), (([(⟨t301, 19800, 19800, false, 0, (⟨0, 0⟩ : S30)⟩ : S32)] : List (S32)))⟩ : S24), (⟨(⟨#[65, 117, 115, 116, 114, 97, 108, 105, 97, 47, 83, 121, 100, 110, 101, 121]⟩ : ByteArray), (([(⟨bt305.1, bt305.2.1, bt305.2.2.1, bt305.2.2.2.1, bt305.2.2.2.2.1, (⟨bt305.2.2.2.2.2.1, bt305.2.2.2.2.2.2⟩ : S30)⟩ : S32), (⟨bt312.1, bt312.2.1, bt312.2.2.1, bt312.2.2.2.1, bt312.2.2.2.2.1, (⟨bt312.2.2.2.2.2.1, bt312.2.2.2.2.2.2⟩ : S30)⟩ : S32)] : List (S32)))⟩ : S24), (⟨(⟨#[69, 116, 99, 47, 85, 84, 67]⟩ : ByteArray), ([] : List (S32))⟩ : S24), (⟨(⟨#[69, 117, 114, 111, 112, 101, 47, 66, 101, 114, 108, 105, 110]⟩ : ByteArray), (([(⟨bt322.1, bt322.2.1, bt322.2.2.1, bt322.2.2.2.1, bt322.2.2.2.2.1, (⟨bt322.2.2.2.2.2.1, bt322.2.2.2.2.2.2⟩ : S30)⟩ : S32), (⟨bt329.1, bt329.2.1, bt329.2.2.1, bt329.2.2.2.1, bt329.2.2.2.2.1, (⟨bt329.2.2.2.2.2.1, bt329.2.2.2.2.2.2⟩ : S30)⟩ : S32)] : List (S32)))⟩ : S24), (⟨(⟨#[85, 84, 67]⟩ : ByteArray), ([] : List (S32))⟩ : S24)] : List (S24))))))))) = some r := by first | (rw [hy298]; with_reducible exact H) | (have H2_ := (Option.bind_some _ _).symm.trans H; rw [hy298]; with_reducible exact H2_) | (have H2_ := (Option.bind_some _ _).symm.trans H; with_reducible exact H2_) | with_reducible exact H | (rw [hy298]; exact H) | exact H
  have Ny298 := Aside0.mk hy298
  clear hy298
  replace H := Option.bind_eq_some_iff.mp H
  obtain ⟨t301, A30, H⟩ := H
  replace H : ((zone_sundays.f (⟨#[50, 48, 48, 56, 48, 52, 48, 54, 84, 48, 51, 48, 48, 48, 48]⟩ : ByteArray) 11 10 4 1).bind fun bt305 => ((zone_sundays.f (⟨#[50, 48, 48, 56, 49, 48, 48, 53, 84, 48, 50, 48, 48, 48, 48]⟩ : ByteArray) 10 11 10 1).bind fun bt312 => ((zone_sundays.f (⟨#[49, 57, 57, 54, 48, 51, 51, 49, 84, 48, 50, 48, 48, 48, 48]⟩ : ByteArray) 1 2 3 (-1)).bind fun bt322 => ((zone_sundays.f (⟨#[49, 57, 57, 54, 49, 48, 50, 55, 84, 48, 51, 48, 48, 48, 48]⟩ : ByteArray) 2 1 10 (-1)).bind fun bt329 => (some (([(⟨(⟨#[65, 109, 101, 114, 105, 99, 97, 47, 78, 101, 119, 95, 89, 111, 114, 107]⟩ : ByteArray), y298⟩ : S24), (⟨(⟨#[65, 115, 105, 97, 47, 75, 111, 108, 107, 97, 116, 97]⟩ : ByteArray), (([(⟨t301, 19800, 19800, false, 0, (⟨0, 0⟩ : S30)⟩ : S32)] : List (S32)))⟩ : S24), (⟨(⟨#[65, 117, 115, 116, 114, 97, 108, 105, 97, 47, 83, 121, 100, 110, 101, 121]⟩ : ByteArray), (([(⟨bt305.1, bt305.2.1, bt305.2.2.1, bt305.2.2.2.1, bt305.2.2.2.2.1, (⟨bt305.2.2.2.2.2.1, bt305.2.2.2.2.2.2⟩ : S30)⟩ : S32), (⟨bt312.1, bt312.2.1, bt312.2.2.1, bt312.2.2.2.1, bt312.2.2.2.2.1, (⟨bt312.2.2.2.2.2.1, bt312.2.2.2.2.2.2⟩ : S30)⟩ : S32)] : List (S32)))⟩ : S24), (⟨(⟨#[69, 116, 99, 47, 85, 84, 67]⟩ : ByteArray), ([] : List (S32))⟩ : S24), (⟨(⟨#[69, 117, 114, 111, 112, 101, 47, 66, 101, 114, 108, 105, 110]⟩ : ByteArray), (([(⟨bt322.1, bt322.2.1, bt322.2.2.1, bt322.2.2.2.1, bt322.2.2.2.2.1, (⟨bt322.2.2.2.2.2.1, bt322.2.2.2.2.2.2⟩ : S30)⟩ : S32), (⟨bt329.1, bt329.2.1, bt329.2.2.1, bt329.2.2.2.1, bt329.2.2.2.2.1, (⟨bt329.2.2.2.2.2.1, bt329.2.2.2.2.2.2⟩ : S30)⟩ : S32)] : List (S32)))⟩ : S24), (⟨(⟨#[85, 84, 67]⟩ : ByteArray), ([] : List (S32))⟩ : S24)] : List (S24)))))))) = some r := H
  have A3 := Aside0.mk A30
  clear A30
  obtain ⟨y302, hy302⟩ : ∃ y_ : List (S32), y_ = (([(⟨t301, 19800, 19800, false, 0, (⟨0, 0⟩ : S30)⟩ : S32)] : List (S32))) := ⟨_, rfl⟩
  replace H : ((zone_sundays.f (⟨#[50, 48, 48, 56, 48, 52, 48, 54, 84, 48, 51, 48, 48, 48, 48]⟩ : ByteArray) 11 10 4 1).bind fun bt305 => ((zone_sundays.f (⟨#[50, 48, 48, 56, 49, 48, 48, 53, 84, 48, 50, 48, 48, 48, 48]⟩ : ByteArray) 10 11 10 1).bind fun bt312 => ((zone_sundays.f (⟨#[49, 57, 57, 54, 48, 51, 51, 49, 84, 48, 50, 48, 48, 48, 48]⟩ : ByteArray) 1 2 3 (-1)).bind fun bt322 => ((zone_sundays.f (⟨#[49, 57, 57, 54, 49, 48, 50, 55, 84, 48, 51, 48, 48, 48, 48]⟩ : ByteArray) 2 1 10 (-1)).bind fun bt329 => (some (([(⟨(⟨#[65, 109, 101, 114, 105, 99, 97, 47, 78, 101, 119, 95, 89, 111, 114, 107]⟩ : ByteArray), y298⟩ : S24), (⟨(⟨#[65, 115, 105, 97, 47, 75, 111, 108, 107, 97, 116, 97]⟩ : ByteArray), y302⟩ : S24), (⟨(⟨#[65, 117, 115, 116, 114, 97, 108, 105, 97, 47, 83, 121, 100, 110, 101, 121]⟩ : ByteArray), (([(⟨bt305.1, bt305.2.1, bt305.2.2.1, bt305.2.2.2.1, bt305.2.2.2.2.1, (⟨bt305.2.2.2.2.2.1, bt305.2.2.2.2.2.2⟩ : S30)⟩ : S32), (⟨bt312.1, bt312.2.1, bt312.2.2.1, bt312.2.2.2.1, bt312.2.2.2.2.1, (⟨bt312.2.2.2.2.2.1, bt312.2.2.2.2.2.2⟩ : S30)⟩ : S32)] : List (S32)))⟩ : S24), (⟨(⟨#[69, 116, 99, 47, 85, 84, 67]⟩ : ByteArray), ([] : List (S32))⟩ : S24), (⟨(⟨#[69, 117, 114, 111, 112, 101, 47, 66, 101, 114, 108, 105, 110]⟩ : ByteArray), (([(⟨bt322.1, bt322.2.1, bt322.2.2.1, bt322.2.2.2.1, bt322.2.2.2.2.1, (⟨bt322.2.2.2.2.2.1, bt322.2.2.2.2.2.2⟩ : S30)⟩ : S32), (⟨bt329.1, bt329.2.1, bt329.2.2.1, bt329.2.2.2.1, bt329.2.2.2.2.1, (⟨bt329.2.2.2.2.2.1, bt329.2.2.2.2.2.2⟩ : S30)⟩ : S32)] : List (S32)))⟩ : S24), (⟨(⟨#[85, 84, 67]⟩ : ByteArray), ([] : List (S32))⟩ : S24)] : List (S24)))))))) = some r := by first | (rw [hy302]; with_reducible exact H) | (have H2_ := (Option.bind_some _ _).symm.trans H; rw [hy302]; with_reducible exact H2_) | (have H2_ := (Option.bind_some _ _).symm.trans H; with_reducible exact H2_) | with_reducible exact H | (rw [hy302]; exact H) | exact H
  have Ny302 := Aside0.mk hy302
  clear hy302
  replace H := Option.bind_eq_some_iff.mp H
  obtain ⟨⟨t305, t306, t307, t308, t309, t310, t311⟩, A40, H⟩ := H
  replace H : ((zone_sundays.f (⟨#[50, 48, 48, 56, 49, 48, 48, 53, 84, 48, 50, 48, 48, 48, 48]⟩ : ByteArray) 10 11 10 1).bind fun bt312 => ((zone_sundays.f (⟨#[49, 57, 57, 54, 48, 51, 51, 49, 84, 48, 50, 48, 48, 48, 48]⟩ : ByteArray) 1 2 3 (-1)).bind fun bt322 => ((zone_sundays.f (⟨#[49, 57, 57, 54, 49, 48, 50, 55, 84, 48, 51, 48, 48, 48, 48]⟩ : ByteArray) 2 1 10 (-1)).bind fun bt329 => (some (([(⟨(⟨#[65, 109, 101, 114, 105, 99, 97, 47, 78, 101, 119, 95, 89, 111, 114, 107]⟩ : ByteArray), y298⟩ : S24), (⟨(⟨#[65, 115, 105, 97, 47, 75, 111, 108, 107, 97, 116, 97]⟩ : ByteArray), y302⟩ : S24), (⟨(⟨#[65, 117, 115, 116, 114, 97, 108, 105, 97, 47, 83, 121, 100, 110, 101, 121]⟩ : ByteArray), (([(⟨t305, t306, t307, t308, t309, (⟨t310, t311⟩ : S30)⟩ : S32), (⟨bt312.1, bt312.2.1, bt312.2.2.1, bt312.2.2.2.1, bt312.2.2.2.2.1, (⟨bt312.2.2.2.2.2.1, bt312.2.2.2.2.2.2⟩ : S30)⟩ : S32)] : List (S32)))⟩ : S24), (⟨(⟨#[69, 116, 99, 47, 85, 84, 67]⟩ : ByteArray), ([] : List (S32))⟩ : S24), (⟨(⟨#[69, 117, 114, 111, 112, 101, 47, 66, 101, 114, 108, 105, 110]⟩ : ByteArray), (([(⟨bt322.1, bt322.2.1, bt322.2.2.1, bt322.2.2.2.1, bt322.2.2.2.2.1, (⟨bt322.2.2.2.2.2.1, bt322.2.2.2.2.2.2⟩ : S30)⟩ : S32), (⟨bt329.1, bt329.2.1, bt329.2.2.1, bt329.2.2.2.1, bt329.2.2.2.2.1, (⟨bt329.2.2.2.2.2.1, bt329.2.2.2.2.2.2⟩ : S30)⟩ : S32)] : List (S32)))⟩ : S24), (⟨(⟨#[85, 84, 67]⟩ : ByteArray), ([] : List (S32))⟩ : S24)] : List (S24))))))) = some r := H
  have A4 := Aside0.mk A40
  clear A40
  replace H := Option.bind_eq_some_iff.mp H
  obtain ⟨⟨t312, t313, t314, t315, t316, t317, t318⟩, A50, H⟩ := H
  replace H : ((zone_sundays.f (⟨#[49, 57, 57, 54, 48, 51, 51, 49, 84, 48, 50, 48, 48, 48, 48]⟩ : ByteArray) 1 2 3 (-1)).bind fun bt322 => ((zone_sundays.f (⟨#[49, 57, 57, 54, 49, 48, 50, 55, 84, 48, 51, 48, 48, 48, 48]⟩ : ByteArray) 2 1 10 (-1)).bind fun bt329 => (some (([(⟨(⟨#[65, 109, 101, 114, 105, 99, 97, 47, 78, 101, 119, 95, 89, 111, 114, 107]⟩ : ByteArray), y298⟩ : S24), (⟨(⟨#[65, 115, 105, 97, 47, 75, 111, 108, 107, 97, 116, 97]⟩ : ByteArray), y302⟩ : S24), (⟨(⟨#[65, 117, 115, 116, 114, 97, 108, 105, 97, 47, 83, 121, 100, 110, 101, 121]⟩ : ByteArray), (([(⟨t305, t306, t307, t308, t309, (⟨t310, t311⟩ : S30)⟩ : S32), (⟨t312, t313, t314, t315, t316, (⟨t317, t318⟩ : S30)⟩ : S32)] : List (S32)))⟩ : S24), (⟨(⟨#[69, 116, 99, 47, 85, 84, 67]⟩ : ByteArray), ([] : List (S32))⟩ : S24), (⟨(⟨#[69, 117, 114, 111, 112, 101, 47, 66, 101, 114, 108, 105, 110]⟩ : ByteArray), (([(⟨bt322.1, bt322.2.1, bt322.2.2.1, bt322.2.2.2.1, bt322.2.2.2.2.1, (⟨bt322.2.2.2.2.2.1, bt322.2.2.2.2.2.2⟩ : S30)⟩ : S32), (⟨bt329.1, bt329.2.1, bt329.2.2.1, bt329.2.2.2.1, bt329.2.2.2.2.1, (⟨bt329.2.2.2.2.2.1, bt329.2.2.2.2.2.2⟩ : S30)⟩ : S32)] : List (S32)))⟩ : S24), (⟨(⟨#[85, 84, 67]⟩ : ByteArray), ([] : List (S32))⟩ : S24)] : List (S24)))))) = some r := H
  have A5 := Aside0.mk A50
  clear A50
  obtain ⟨y319, hy319⟩ : ∃ y_ : List (S32), y_ = (([(⟨t305, t306, t307, t308, t309, (⟨t310, t311⟩ : S30)⟩ : S32), (⟨t312, t313, t314, t315, t316, (⟨t317, t318⟩ : S30)⟩ : S32)] : List (S32))) := ⟨_, rfl⟩
  replace H : ((zone_sundays.f (⟨#[49, 57, 57, 54, 48, 51, 51, 49, 84, 48, 50, 48, 48, 48, 48]⟩ : ByteArray) 1 2 3 (-1)).bind fun bt322 => ((zone_sundays.f (⟨#[49, 57, 57, 54, 49, 48, 50, 55, 84, 48, 51, 48, 48, 48, 48]⟩ : ByteArray) 2 1 10 (-1)).bind fun bt329 => (some (([(⟨(⟨#[65, 109, 101, 114, 105, 99, 97, 47, 78, 101, 119, 95, 89, 111, 114, 107]⟩ : ByteArray), y298⟩ : S24), (⟨(⟨#[65, 115, 105, 97, 47, 75, 111, 108, 107, 97, 116, 97]⟩ : ByteArray), y302⟩ : S24), (⟨(⟨#[65, 117, 115, 116, 114, 97, 108, 105, 97, 47, 83, 121, 100, 110, 101, 121]⟩ : ByteArray), y319⟩ : S24), (⟨(⟨#[69, 116, 99, 47, 85, 84, 67]⟩ : ByteArray), ([] : List (S32))⟩ : S24), (⟨(⟨#[69, 117, 114, 111, 112, 101, 47, 66, 101, 114, 108, 105, 110]⟩ : ByteArray), (([(⟨bt322.1, bt322.2.1, bt322.2.2.1, bt322.2.2.2.1, bt322.2.2.2.2.1, (⟨bt322.2.2.2.2.2.1, bt322.2.2.2.2.2.2⟩ : S30)⟩ : S32), (⟨bt329.1, bt329.2.1, bt329.2.2.1, bt329.2.2.2.1, bt329.2.2.2.2.1, (⟨bt329.2.2.2.2.2.1, bt329.2.2.2.2.2.2⟩ : S30)⟩ : S32)] : List (S32)))⟩ : S24), (⟨(⟨#[85, 84, 67]⟩ : ByteArray), ([] : List (S32))⟩ : S24)] : List (S24)))))) = some r := by first | (rw [hy319]; with_reducible exact H) | (have H2_ := (Option.bind_some _ _).symm.trans H; rw [hy319]; with_reducible exact H2_) | (have H2_ := (Option.bind_some _ _).symm.trans H; with_reducible exact H2_) | with_reducible exact H | (rw [hy319]; exact H) | exact H
  have Ny319 := Aside0.mk hy319
  clear hy319
  replace H := Option.bind_eq_some_iff.mp H
  obtain ⟨⟨t322, t323, t324, t325, t326, t327, t328⟩, A60, H⟩ := H
  replace H : ((zone_sundays.f (⟨#[49, 57, 57, 54, 49, 48, 50, 55, 84, 48, 51, 48, 48, 48, 48]⟩ : ByteArray) 2 1 10 (-1)).bind fun bt329 => (some (([(⟨(⟨#[65, 109, 101, 114, 105, 99, 97, 47, 78, 101, 119, 95, 89, 111, 114, 107]⟩ : ByteArray), y298⟩ : S24), (⟨(⟨#[65, 115, 105, 97, 47, 75, 111, 108, 107, 97, 116, 97]⟩ : ByteArray), y302⟩ : S24), (⟨(⟨#[65, 117, 115, 116, 114, 97, 108, 105, 97, 47, 83, 121, 100, 110, 101, 121]⟩ : ByteArray), y319⟩ : S24), (⟨(⟨#[69, 116, 99, 47, 85, 84, 67]⟩ : ByteArray), ([] : List (S32))⟩ : S24), (⟨(⟨#[69, 117, 114, 111, 112, 101, 47, 66, 101, 114, 108, 105, 110]⟩ : ByteArray), (([(⟨t322, t323, t324, t325, t326, (⟨t327, t328⟩ : S30)⟩ : S32), (⟨bt329.1, bt329.2.1, bt329.2.2.1, bt329.2.2.2.1, bt329.2.2.2.2.1, (⟨bt329.2.2.2.2.2.1, bt329.2.2.2.2.2.2⟩ : S30)⟩ : S32)] : List (S32)))⟩ : S24), (⟨(⟨#[85, 84, 67]⟩ : ByteArray), ([] : List (S32))⟩ : S24)] : List (S24))))) = some r := H
  have A6 := Aside0.mk A60
  clear A60
  replace H := Option.bind_eq_some_iff.mp H
  obtain ⟨⟨t329, t330, t331, t332, t333, t334, t335⟩, A70, H⟩ := H
  replace H : (some (([(⟨(⟨#[65, 109, 101, 114, 105, 99, 97, 47, 78, 101, 119, 95, 89, 111, 114, 107]⟩ : ByteArray), y298⟩ : S24), (⟨(⟨#[65, 115, 105, 97, 47, 75, 111, 108, 107, 97, 116, 97]⟩ : ByteArray), y302⟩ : S24), (⟨(⟨#[65, 117, 115, 116, 114, 97, 108, 105, 97, 47, 83, 121, 100, 110, 101, 121]⟩ : ByteArray), y319⟩ : S24), (⟨(⟨#[69, 116, 99, 47, 85, 84, 67]⟩ : ByteArray), ([] : List (S32))⟩ : S24), (⟨(⟨#[69, 117, 114, 111, 112, 101, 47, 66, 101, 114, 108, 105, 110]⟩ : ByteArray), (([(⟨t322, t323, t324, t325, t326, (⟨t327, t328⟩ : S30)⟩ : S32), (⟨t329, t330, t331, t332, t333, (⟨t334, t335⟩ : S30)⟩ : S32)] : List (S32)))⟩ : S24), (⟨(⟨#[85, 84, 67]⟩ : ByteArray), ([] : List (S32))⟩ : S24)] : List (S24)))) = some r := H
  have A7 := Aside0.mk A70
  clear A70
  obtain ⟨y336, hy336⟩ : ∃ y_ : List (S32), y_ = (([(⟨t322, t323, t324, t325, t326, (⟨t327, t328⟩ : S30)⟩ : S32), (⟨t329, t330, t331, t332, t333, (⟨t334, t335⟩ : S30)⟩ : S32)] : List (S32))) := ⟨_, rfl⟩
  replace H : (some (([(⟨(⟨#[65, 109, 101, 114, 105, 99, 97, 47, 78, 101, 119, 95, 89, 111, 114, 107]⟩ : ByteArray), y298⟩ : S24), (⟨(⟨#[65, 115, 105, 97, 47, 75, 111, 108, 107, 97, 116, 97]⟩ : ByteArray), y302⟩ : S24), (⟨(⟨#[65, 117, 115, 116, 114, 97, 108, 105, 97, 47, 83, 121, 100, 110, 101, 121]⟩ : ByteArray), y319⟩ : S24), (⟨(⟨#[69, 116, 99, 47, 85, 84, 67]⟩ : ByteArray), ([] : List (S32))⟩ : S24), (⟨(⟨#[69, 117, 114, 111, 112, 101, 47, 66, 101, 114, 108, 105, 110]⟩ : ByteArray), y336⟩ : S24), (⟨(⟨#[85, 84, 67]⟩ : ByteArray), ([] : List (S32))⟩ : S24)] : List (S24)))) = some r := by first | (rw [hy336]; with_reducible exact H) | (have H2_ := (Option.bind_some _ _).symm.trans H; rw [hy336]; with_reducible exact H2_) | (have H2_ := (Option.bind_some _ _).symm.trans H; with_reducible exact H2_) | with_reducible exact H | (rw [hy336]; exact H) | exact H
  have Ny336 := Aside0.mk hy336
  clear hy336
  obtain ⟨y339, hy339⟩ : ∃ y_ : List (S24), y_ = (([(⟨(⟨#[65, 109, 101, 114, 105, 99, 97, 47, 78, 101, 119, 95, 89, 111, 114, 107]⟩ : ByteArray), y298⟩ : S24), (⟨(⟨#[65, 115, 105, 97, 47, 75, 111, 108, 107, 97, 116, 97]⟩ : ByteArray), y302⟩ : S24), (⟨(⟨#[65, 117, 115, 116, 114, 97, 108, 105, 97, 47, 83, 121, 100, 110, 101, 121]⟩ : ByteArray), y319⟩ : S24), (⟨(⟨#[69, 116, 99, 47, 85, 84, 67]⟩ : ByteArray), ([] : List (S32))⟩ : S24), (⟨(⟨#[69, 117, 114, 111, 112, 101, 47, 66, 101, 114, 108, 105, 110]⟩ : ByteArray), y336⟩ : S24), (⟨(⟨#[85, 84, 67]⟩ : ByteArray), ([] : List (S32))⟩ : S24)] : List (S24))) := ⟨_, rfl⟩
  replace H : (some y339) = some r := by first | (rw [hy339]; with_reducible exact H) | (have H2_ := (Option.bind_some _ _).symm.trans H; rw [hy339]; with_reducible exact H2_) | (have H2_ := (Option.bind_some _ _).symm.trans H; with_reducible exact H2_) | with_reducible exact H | (rw [hy339]; exact H) | exact H
  have Ny339 := Aside0.mk hy339
  clear hy339
  obtain rfl := Option.some.inj H
  go_enter Tryz.func34, Tryz.ntmps34
  go_wp2_with (first | ((with_reducible refine gate_callee (f := 53) rfl ?_); refine goesL_ (some 1) rfl rfl Tryz.func53 (by kernel_rfl) rfl #[.string (⟨#[50, 48, 48, 55, 48, 51, 49, 49, 84, 48, 50, 48, 48, 48, 48]⟩ : ByteArray), .int .i64 (-5), .int .i64 (-4), .int .i64 3, .int .i64 2] rfl (by (try simp only [List.map_toArray, List.map_cons, List.map_nil]); first | done | rfl | (simp only [List.length_drop, List.length_take]; rfl)) ?_; (with_reducible refine (zone_sundays.calls (⟨#[50, 48, 48, 55, 48, 51, 49, 49, 84, 48, 50, 48, 48, 48, 48]⟩ : ByteArray) (-5) (-4) 3 2 t284 t285 t286 t287 t288 t289 t290 _ A1.out (HTab.out.below (by repeat (first | (with_reducible first | exact HB.out | apply below_alloc | apply pw_below_drewN | apply below_drew1) | exact HB.out)))).mono ?_); rintro e w8 ⟨rfl, hb⟩; refine ⟨_, rfl, ?_⟩; have n0_ := Aside0.mk (below_step (by repeat (first | (with_reducible first | exact HB.out | apply below_alloc | apply pw_below_drewN | apply below_drew1) | exact HB.out)) hb); clear HB; have HB := n0_; clear n0_; (try clear hb); (try clear hb2); (try clear hk); (try clear hi)) | ((with_reducible refine gate_callee (f := 53) rfl ?_); refine goesL_ (some 2) rfl rfl Tryz.func53 (by kernel_rfl) rfl #[.string (⟨#[50, 48, 48, 55, 49, 49, 48, 52, 84, 48, 50, 48, 48, 48, 48]⟩ : ByteArray), .int .i64 (-4), .int .i64 (-5), .int .i64 11, .int .i64 1] rfl (by (try simp only [List.map_toArray, List.map_cons, List.map_nil]); first | done | rfl | (simp only [List.length_drop, List.length_take]; rfl)) ?_; (with_reducible refine (zone_sundays.calls (⟨#[50, 48, 48, 55, 49, 49, 48, 52, 84, 48, 50, 48, 48, 48, 48]⟩ : ByteArray) (-4) (-5) 11 1 t291 t292 t293 t294 t295 t296 t297 _ A2.out (HTab.out.below (by repeat (first | (with_reducible first | exact HB.out | apply below_alloc | apply pw_below_drewN | apply below_drew1) | exact HB.out)))).mono ?_); rintro e w9 ⟨rfl, hb⟩; refine ⟨_, rfl, ?_⟩; have n0_ := Aside0.mk (below_step (by repeat (first | (with_reducible first | exact HB.out | apply below_alloc | apply pw_below_drewN | apply below_drew1) | exact HB.out)) hb); clear HB; have HB := n0_; clear n0_; (try clear hb); (try clear hb2); (try clear hk); (try clear hi)) | ((with_reducible refine gate_dst (N := 3) rfl ?_); refine Kd.R_lit k32 _ 32 ?hg (N := 3) ?hd (xs := ([(⟨t284, t285, t286, t287, t288, (⟨t289, t290⟩ : S30)⟩ : S32), (⟨t291, t292, t293, t294, t295, (⟨t296, t297⟩ : S30)⟩ : S32)] : List (S32))) (inner := [.int .i64 t284, .int .i64 t285, .int .i64 t286, .bool t287, .int .i64 t288, .int .i64 t289, .int .i64 t290, .int .i64 t291, .int .i64 t292, .int .i64 t293, .bool t294, .int .i64 t295, .int .i64 t296, .int .i64 t297]) (ok := fun _ => True) (okp := fun _ => True) ?hr ?hp (fun _ hk => hk) trivial (Below.refl _ _) (Nat.le_refl _) (by simp) ?_; (case hd => rfl); (case hg => rfl); (case hr => first | (go_simp; done) | (go_simp; rfl)); (case hp => exact (Reps.c7 (show Kd.M k32 _ _ _ (⟨t284, t285, t286, t287, t288, (⟨t289, t290⟩ : S30)⟩ : S32) [.int .i64 t284, .int .i64 t285, .int .i64 t286, .bool t287, .int .i64 t288, .int .i64 t289, .int .i64 t290] from (k32_mkM _ _ _ (⟨t284, t285, t286, t287, t288, (⟨t289, t290⟩ : S30)⟩ : S32) )) (Reps.c7 (show Kd.M k32 _ _ _ (⟨t291, t292, t293, t294, t295, (⟨t296, t297⟩ : S30)⟩ : S32) [.int .i64 t291, .int .i64 t292, .int .i64 t293, .bool t294, .int .i64 t295, .int .i64 t296, .int .i64 t297] from (k32_mkM _ _ _ (⟨t291, t292, t293, t294, t295, (⟨t296, t297⟩ : S30)⟩ : S32) )) (Reps.none _ _)))); intro v299 w10 ho11 hb hg_ hnew_; clear hg_ hnew_; (first | rw [← Ny298.out] at ho11 | (simp only [Int.reduceToNat] at ho11; rw [← Ny298.out] at ho11)); have n0_ := Aside0.mk (Kd.R_lower (Kd.R_newM (M := fun k_ => (w.heap.size ≤ k_)) ho11 (below_size (by repeat (first | (with_reducible first | exact HB.out | apply below_alloc | apply pw_below_drewN | apply below_drew1) | exact HB.out))) (fun k_ h_ => h_)) (below_size (by repeat (first | (with_reducible first | exact HB.out | apply below_alloc | apply pw_below_drewN | apply below_drew1) | exact HB.out)))); have n1_ := Aside0.mk (below_step (by repeat (first | (with_reducible first | exact HB.out | apply below_alloc | apply pw_below_drewN | apply below_drew1) | exact HB.out)) hb); clear HB; have HO300 := n0_; have HB := n1_; clear n0_ n1_; clear hb ho11; obtain ⟨Ao12, co12, eo12⟩ := Kd.R_slice HO300.out; subst eo12) | ((with_reducible refine gate_callee (f := 54) rfl ?_); refine goesL_ (some 5) rfl rfl Tryz.func54 (by kernel_rfl) rfl #[.string (⟨#[49, 57, 52, 53, 49, 48, 49, 53, 84, 48, 48, 48, 48, 48, 48]⟩ : ByteArray)] rfl (by (try simp only [List.map_toArray, List.map_cons, List.map_nil]); first | done | rfl | (simp only [List.length_drop, List.length_take]; rfl)) ?_; (with_reducible refine (zone_stamp.calls (⟨#[49, 57, 52, 53, 49, 48, 49, 53, 84, 48, 48, 48, 48, 48, 48]⟩ : ByteArray) t301 _ A3.out (HTab.out.below (by repeat (first | (with_reducible first | exact HB.out | apply below_alloc | apply pw_below_drewN | apply below_drew1) | exact HB.out)))).mono ?_); rintro e w13 ⟨rfl, hb⟩; refine ⟨_, rfl, ?_⟩; have n0_ := Aside0.mk (Kd.R_below (by (with_reducible repeat (first | apply Kd.R_alloc | apply Kd.R_drewN | apply Kd.R_drew)); exact HO300.out) hb); have n1_ := Aside0.mk (below_step (by repeat (first | (with_reducible first | exact HB.out | apply below_alloc | apply pw_below_drewN | apply below_drew1) | exact HB.out)) hb); clear HO300; clear HB; have HO300 := n0_; have HB := n1_; clear n0_ n1_; (try clear hb); (try clear hb2); (try clear hk); (try clear hi)) | ((with_reducible refine gate_dst (N := 7) rfl ?_); refine Kd.R_lit k32 _ 32 ?hg (N := 7) ?hd (xs := ([(⟨t301, 19800, 19800, false, 0, (⟨0, 0⟩ : S30)⟩ : S32)] : List (S32))) (inner := [.int .i64 t301, .int .i64 19800, .int .i64 19800, .bool false, .int .i64 0, .int .i64 0, .int .i64 0]) (ok := fun _ => True) (okp := fun _ => True) ?hr ?hp (fun _ hk => hk) trivial (Below.refl _ _) (Nat.le_refl _) (by simp) ?_; (case hd => rfl); (case hg => rfl); (case hr => first | (go_simp; done) | (go_simp; rfl)); (case hp => exact (Reps.c7 (show Kd.M k32 _ _ _ (⟨t301, 19800, 19800, false, 0, (⟨0, 0⟩ : S30)⟩ : S32) [.int .i64 t301, .int .i64 19800, .int .i64 19800, .bool false, .int .i64 0, .int .i64 0, .int .i64 0] from (k32_mkM _ _ _ (⟨t301, 19800, 19800, false, 0, (⟨0, 0⟩ : S30)⟩ : S32) )) (Reps.none _ _))); intro v303 w14 ho15 hb hg_ hnew_; clear hg_ hnew_; (first | rw [← Ny302.out] at ho15 | (simp only [Int.reduceToNat] at ho15; rw [← Ny302.out] at ho15)); have n0_ := Aside0.mk (Kd.R_elder' (by (with_reducible repeat (first | apply Kd.R_alloc | apply Kd.R_drewN | apply Kd.R_drew)); exact HO300.out) (Kd.R_base ho15) hb); have n1_ := Aside0.mk (Kd.R_lower (Kd.R_new' (Kd.R_newM (M := fun k_ => (w.heap.size ≤ k_)) ho15 (below_size (by repeat (first | (with_reducible first | exact HB.out | apply below_alloc | apply pw_below_drewN | apply below_drew1) | exact HB.out))) (fun k_ h_ => h_)) (Kd.R_lt (by (with_reducible repeat (first | apply Kd.R_alloc | apply Kd.R_drewN | apply Kd.R_drew)); exact HO300.out))) (below_size (by repeat (first | (with_reducible first | exact HB.out | apply below_alloc | apply pw_below_drewN | apply below_drew1) | exact HB.out)))); have n2_ := Aside0.mk (below_step (by repeat (first | (with_reducible first | exact HB.out | apply below_alloc | apply pw_below_drewN | apply below_drew1) | exact HB.out)) hb); clear HO300; clear HB; have HO300 := n0_; have HO304 := n1_; have HB := n2_; clear n0_ n1_ n2_; clear hb ho15; obtain ⟨Ao16, co16, eo16⟩ := Kd.R_slice HO304.out; subst eo16) | ((with_reducible refine gate_callee (f := 53) rfl ?_); refine goesL_ (some 9) rfl rfl Tryz.func53 (by kernel_rfl) rfl #[.string (⟨#[50, 48, 48, 56, 48, 52, 48, 54, 84, 48, 51, 48, 48, 48, 48]⟩ : ByteArray), .int .i64 11, .int .i64 10, .int .i64 4, .int .i64 1] rfl (by (try simp only [List.map_toArray, List.map_cons, List.map_nil]); first | done | rfl | (simp only [List.length_drop, List.length_take]; rfl)) ?_; (with_reducible refine (zone_sundays.calls (⟨#[50, 48, 48, 56, 48, 52, 48, 54, 84, 48, 51, 48, 48, 48, 48]⟩ : ByteArray) 11 10 4 1 t305 t306 t307 t308 t309 t310 t311 _ A4.out (HTab.out.below (by repeat (first | (with_reducible first | exact HB.out | apply below_alloc | apply pw_below_drewN | apply below_drew1) | exact HB.out)))).mono ?_); rintro e w17 ⟨rfl, hb⟩; refine ⟨_, rfl, ?_⟩; have n0_ := Aside0.mk (Kd.R_below (by (with_reducible repeat (first | apply Kd.R_alloc | apply Kd.R_drewN | apply Kd.R_drew)); exact HO300.out) hb); have n1_ := Aside0.mk (Kd.R_below (by (with_reducible repeat (first | apply Kd.R_alloc | apply Kd.R_drewN | apply Kd.R_drew)); exact HO304.out) hb); have n2_ := Aside0.mk (below_step (by repeat (first | (with_reducible first | exact HB.out | apply below_alloc | apply pw_below_drewN | apply below_drew1) | exact HB.out)) hb); clear HO300; clear HO304; clear HB; have HO300 := n0_; have HO304 := n1_; have HB := n2_; clear n0_ n1_ n2_; (try clear hb); (try clear hb2); (try clear hk); (try clear hi)) | ((with_reducible refine gate_callee (f := 53) rfl ?_); refine goesL_ (some 10) rfl rfl Tryz.func53 (by kernel_rfl) rfl #[.string (⟨#[50, 48, 48, 56, 49, 48, 48, 53, 84, 48, 50, 48, 48, 48, 48]⟩ : ByteArray), .int .i64 10, .int .i64 11, .int .i64 10, .int .i64 1] rfl (by (try simp only [List.map_toArray, List.map_cons, List.map_nil]); first | done | rfl | (simp only [List.length_drop, List.length_take]; rfl)) ?_; (with_reducible refine (zone_sundays.calls (⟨#[50, 48, 48, 56, 49, 48, 48, 53, 84, 48, 50, 48, 48, 48, 48]⟩ : ByteArray) 10 11 10 1 t312 t313 t314 t315 t316 t317 t318 _ A5.out (HTab.out.below (by repeat (first | (with_reducible first | exact HB.out | apply below_alloc | apply pw_below_drewN | apply below_drew1) | exact HB.out)))).mono ?_); rintro e w18 ⟨rfl, hb⟩; refine ⟨_, rfl, ?_⟩; have n0_ := Aside0.mk (Kd.R_below (by (with_reducible repeat (first | apply Kd.R_alloc | apply Kd.R_drewN | apply Kd.R_drew)); exact HO300.out) hb); have n1_ := Aside0.mk (Kd.R_below (by (with_reducible repeat (first | apply Kd.R_alloc | apply Kd.R_drewN | apply Kd.R_drew)); exact HO304.out) hb); have n2_ := Aside0.mk (below_step (by repeat (first | (with_reducible first | exact HB.out | apply below_alloc | apply pw_below_drewN | apply below_drew1) | exact HB.out)) hb); clear HO300; clear HO304; clear HB; have HO300 := n0_; have HO304 := n1_; have HB := n2_; clear n0_ n1_ n2_; (try clear hb); (try clear hb2); (try clear hk); (try clear hi)) | ((with_reducible refine gate_dst (N := 11) rfl ?_); refine Kd.R_lit k32 _ 32 ?hg (N := 11) ?hd (xs := ([(⟨t305, t306, t307, t308, t309, (⟨t310, t311⟩ : S30)⟩ : S32), (⟨t312, t313, t314, t315, t316, (⟨t317, t318⟩ : S30)⟩ : S32)] : List (S32))) (inner := [.int .i64 t305, .int .i64 t306, .int .i64 t307, .bool t308, .int .i64 t309, .int .i64 t310, .int .i64 t311, .int .i64 t312, .int .i64 t313, .int .i64 t314, .bool t315, .int .i64 t316, .int .i64 t317, .int .i64 t318]) (ok := fun _ => True) (okp := fun _ => True) ?hr ?hp (fun _ hk => hk) trivial (Below.refl _ _) (Nat.le_refl _) (by simp) ?_; (case hd => rfl); (case hg => rfl); (case hr => first | (go_simp; done) | (go_simp; rfl)); (case hp => exact (Reps.c7 (show Kd.M k32 _ _ _ (⟨t305, t306, t307, t308, t309, (⟨t310, t311⟩ : S30)⟩ : S32) [.int .i64 t305, .int .i64 t306, .int .i64 t307, .bool t308, .int .i64 t309, .int .i64 t310, .int .i64 t311] from (k32_mkM _ _ _ (⟨t305, t306, t307, t308, t309, (⟨t310, t311⟩ : S30)⟩ : S32) )) (Reps.c7 (show Kd.M k32 _ _ _ (⟨t312, t313, t314, t315, t316, (⟨t317, t318⟩ : S30)⟩ : S32) [.int .i64 t312, .int .i64 t313, .int .i64 t314, .bool t315, .int .i64 t316, .int .i64 t317, .int .i64 t318] from (k32_mkM _ _ _ (⟨t312, t313, t314, t315, t316, (⟨t317, t318⟩ : S30)⟩ : S32) )) (Reps.none _ _)))); intro v320 w19 ho20 hb hg_ hnew_; clear hg_ hnew_; (first | rw [← Ny319.out] at ho20 | (simp only [Int.reduceToNat] at ho20; rw [← Ny319.out] at ho20)); have n0_ := Aside0.mk (Kd.R_elder' (by (with_reducible repeat (first | apply Kd.R_alloc | apply Kd.R_drewN | apply Kd.R_drew)); exact HO300.out) (Kd.R_base ho20) hb); have n1_ := Aside0.mk (Kd.R_elder' (by (with_reducible repeat (first | apply Kd.R_alloc | apply Kd.R_drewN | apply Kd.R_drew)); exact HO304.out) (Kd.R_base ho20) hb); have n2_ := Aside0.mk (Kd.R_lower (Kd.R_new' (Kd.R_new' (Kd.R_newM (M := fun k_ => (w.heap.size ≤ k_)) ho20 (below_size (by repeat (first | (with_reducible first | exact HB.out | apply below_alloc | apply pw_below_drewN | apply below_drew1) | exact HB.out))) (fun k_ h_ => h_)) (Kd.R_lt (by (with_reducible repeat (first | apply Kd.R_alloc | apply Kd.R_drewN | apply Kd.R_drew)); exact HO300.out))) (Kd.R_lt (by (with_reducible repeat (first | apply Kd.R_alloc | apply Kd.R_drewN | apply Kd.R_drew)); exact HO304.out))) (below_size (by repeat (first | (with_reducible first | exact HB.out | apply below_alloc | apply pw_below_drewN | apply below_drew1) | exact HB.out)))); have n3_ := Aside0.mk (below_step (by repeat (first | (with_reducible first | exact HB.out | apply below_alloc | apply pw_below_drewN | apply below_drew1) | exact HB.out)) hb); clear HO300; clear HO304; clear HB; have HO300 := n0_; have HO304 := n1_; have HO321 := n2_; have HB := n3_; clear n0_ n1_ n2_ n3_; clear hb ho20; obtain ⟨Ao21, co21, eo21⟩ := Kd.R_slice HO321.out; subst eo21) | ((with_reducible refine gate_callee (f := 53) rfl ?_); refine goesL_ (some 14) rfl rfl Tryz.func53 (by kernel_rfl) rfl #[.string (⟨#[49, 57, 57, 54, 48, 51, 51, 49, 84, 48, 50, 48, 48, 48, 48]⟩ : ByteArray), .int .i64 1, .int .i64 2, .int .i64 3, .int .i64 (-1)] rfl (by (try simp only [List.map_toArray, List.map_cons, List.map_nil]); first | done | rfl | (simp only [List.length_drop, List.length_take]; rfl)) ?_; (with_reducible refine (zone_sundays.calls (⟨#[49, 57, 57, 54, 48, 51, 51, 49, 84, 48, 50, 48, 48, 48, 48]⟩ : ByteArray) 1 2 3 (-1) t322 t323 t324 t325 t326 t327 t328 _ A6.out (HTab.out.below (by repeat (first | (with_reducible first | exact HB.out | apply below_alloc | apply pw_below_drewN | apply below_drew1) | exact HB.out)))).mono ?_); rintro e w22 ⟨rfl, hb⟩; refine ⟨_, rfl, ?_⟩; have n0_ := Aside0.mk (Kd.R_below (by (with_reducible repeat (first | apply Kd.R_alloc | apply Kd.R_drewN | apply Kd.R_drew)); exact HO300.out) hb); have n1_ := Aside0.mk (Kd.R_below (by (with_reducible repeat (first | apply Kd.R_alloc | apply Kd.R_drewN | apply Kd.R_drew)); exact HO304.out) hb); have n2_ := Aside0.mk (Kd.R_below (by (with_reducible repeat (first | apply Kd.R_alloc | apply Kd.R_drewN | apply Kd.R_drew)); exact HO321.out) hb); have n3_ := Aside0.mk (below_step (by repeat (first | (with_reducible first | exact HB.out | apply below_alloc | apply pw_below_drewN | apply below_drew1) | exact HB.out)) hb); clear HO300; clear HO304; clear HO321; clear HB; have HO300 := n0_; have HO304 := n1_; have HO321 := n2_; have HB := n3_; clear n0_ n1_ n2_ n3_; (try clear hb); (try clear hb2); (try clear hk); (try clear hi)) | ((with_reducible refine gate_callee (f := 53) rfl ?_); refine goesL_ (some 15) rfl rfl Tryz.func53 (by kernel_rfl) rfl #[.string (⟨#[49, 57, 57, 54, 49, 48, 50, 55, 84, 48, 51, 48, 48, 48, 48]⟩ : ByteArray), .int .i64 2, .int .i64 1, .int .i64 10, .int .i64 (-1)] rfl (by (try simp only [List.map_toArray, List.map_cons, List.map_nil]); first | done | rfl | (simp only [List.length_drop, List.length_take]; rfl)) ?_; (with_reducible refine (zone_sundays.calls (⟨#[49, 57, 57, 54, 49, 48, 50, 55, 84, 48, 51, 48, 48, 48, 48]⟩ : ByteArray) 2 1 10 (-1) t329 t330 t331 t332 t333 t334 t335 _ A7.out (HTab.out.below (by repeat (first | (with_reducible first | exact HB.out | apply below_alloc | apply pw_below_drewN | apply below_drew1) | exact HB.out)))).mono ?_); rintro e w23 ⟨rfl, hb⟩; refine ⟨_, rfl, ?_⟩; have n0_ := Aside0.mk (Kd.R_below (by (with_reducible repeat (first | apply Kd.R_alloc | apply Kd.R_drewN | apply Kd.R_drew)); exact HO300.out) hb); have n1_ := Aside0.mk (Kd.R_below (by (with_reducible repeat (first | apply Kd.R_alloc | apply Kd.R_drewN | apply Kd.R_drew)); exact HO304.out) hb); have n2_ := Aside0.mk (Kd.R_below (by (with_reducible repeat (first | apply Kd.R_alloc | apply Kd.R_drewN | apply Kd.R_drew)); exact HO321.out) hb); have n3_ := Aside0.mk (below_step (by repeat (first | (with_reducible first | exact HB.out | apply below_alloc | apply pw_below_drewN | apply below_drew1) | exact HB.out)) hb); clear HO300; clear HO304; clear HO321; clear HB; have HO300 := n0_; have HO304 := n1_; have HO321 := n2_; have HB := n3_; clear n0_ n1_ n2_ n3_; (try clear hb); (try clear hb2); (try clear hk); (try clear hi)) | ((with_reducible refine gate_dst (N := 16) rfl ?_); refine Kd.R_lit k32 _ 32 ?hg (N := 16) ?hd (xs := ([(⟨t322, t323, t324, t325, t326, (⟨t327, t328⟩ : S30)⟩ : S32), (⟨t329, t330, t331, t332, t333, (⟨t334, t335⟩ : S30)⟩ : S32)] : List (S32))) (inner := [.int .i64 t322, .int .i64 t323, .int .i64 t324, .bool t325, .int .i64 t326, .int .i64 t327, .int .i64 t328, .int .i64 t329, .int .i64 t330, .int .i64 t331, .bool t332, .int .i64 t333, .int .i64 t334, .int .i64 t335]) (ok := fun _ => True) (okp := fun _ => True) ?hr ?hp (fun _ hk => hk) trivial (Below.refl _ _) (Nat.le_refl _) (by simp) ?_; (case hd => rfl); (case hg => rfl); (case hr => first | (go_simp; done) | (go_simp; rfl)); (case hp => exact (Reps.c7 (show Kd.M k32 _ _ _ (⟨t322, t323, t324, t325, t326, (⟨t327, t328⟩ : S30)⟩ : S32) [.int .i64 t322, .int .i64 t323, .int .i64 t324, .bool t325, .int .i64 t326, .int .i64 t327, .int .i64 t328] from (k32_mkM _ _ _ (⟨t322, t323, t324, t325, t326, (⟨t327, t328⟩ : S30)⟩ : S32) )) (Reps.c7 (show Kd.M k32 _ _ _ (⟨t329, t330, t331, t332, t333, (⟨t334, t335⟩ : S30)⟩ : S32) [.int .i64 t329, .int .i64 t330, .int .i64 t331, .bool t332, .int .i64 t333, .int .i64 t334, .int .i64 t335] from (k32_mkM _ _ _ (⟨t329, t330, t331, t332, t333, (⟨t334, t335⟩ : S30)⟩ : S32) )) (Reps.none _ _)))); intro v337 w24 ho25 hb hg_ hnew_; clear hg_ hnew_; (first | rw [← Ny336.out] at ho25 | (simp only [Int.reduceToNat] at ho25; rw [← Ny336.out] at ho25)); have n0_ := Aside0.mk (Kd.R_elder' (by (with_reducible repeat (first | apply Kd.R_alloc | apply Kd.R_drewN | apply Kd.R_drew)); exact HO300.out) (Kd.R_base ho25) hb); have n1_ := Aside0.mk (Kd.R_elder' (by (with_reducible repeat (first | apply Kd.R_alloc | apply Kd.R_drewN | apply Kd.R_drew)); exact HO304.out) (Kd.R_base ho25) hb); have n2_ := Aside0.mk (Kd.R_elder' (by (with_reducible repeat (first | apply Kd.R_alloc | apply Kd.R_drewN | apply Kd.R_drew)); exact HO321.out) (Kd.R_base ho25) hb); have n3_ := Aside0.mk (Kd.R_lower (Kd.R_new' (Kd.R_new' (Kd.R_new' (Kd.R_newM (M := fun k_ => (w.heap.size ≤ k_)) ho25 (below_size (by repeat (first | (with_reducible first | exact HB.out | apply below_alloc | apply pw_below_drewN | apply below_drew1) | exact HB.out))) (fun k_ h_ => h_)) (Kd.R_lt (by (with_reducible repeat (first | apply Kd.R_alloc | apply Kd.R_drewN | apply Kd.R_drew)); exact HO300.out))) (Kd.R_lt (by (with_reducible repeat (first | apply Kd.R_alloc | apply Kd.R_drewN | apply Kd.R_drew)); exact HO304.out))) (Kd.R_lt (by (with_reducible repeat (first | apply Kd.R_alloc | apply Kd.R_drewN | apply Kd.R_drew)); exact HO321.out))) (below_size (by repeat (first | (with_reducible first | exact HB.out | apply below_alloc | apply pw_below_drewN | apply below_drew1) | exact HB.out)))); have n4_ := Aside0.mk (below_step (by repeat (first | (with_reducible first | exact HB.out | apply below_alloc | apply pw_below_drewN | apply below_drew1) | exact HB.out)) hb); clear HO300; clear HO304; clear HO321; clear HB; have HO300 := n0_; have HO304 := n1_; have HO321 := n2_; have HO338 := n3_; have HB := n4_; clear n0_ n1_ n2_ n3_ n4_; clear hb ho25; obtain ⟨Ao26, co26, eo26⟩ := Kd.R_slice HO338.out; subst eo26) | ((with_reducible refine gate_dst (N := 19) rfl ?_); refine Kd.N_lit k24 _ 24 ?hg (N' := 19) ?hd (xs := ([(⟨(⟨#[65, 109, 101, 114, 105, 99, 97, 47, 78, 101, 119, 95, 89, 111, 114, 107]⟩ : ByteArray), y298⟩ : S24), (⟨(⟨#[65, 115, 105, 97, 47, 75, 111, 108, 107, 97, 116, 97]⟩ : ByteArray), y302⟩ : S24), (⟨(⟨#[65, 117, 115, 116, 114, 97, 108, 105, 97, 47, 83, 121, 100, 110, 101, 121]⟩ : ByteArray), y319⟩ : S24), (⟨(⟨#[69, 116, 99, 47, 85, 84, 67]⟩ : ByteArray), ([] : List (S32))⟩ : S24), (⟨(⟨#[69, 117, 114, 111, 112, 101, 47, 66, 101, 114, 108, 105, 110]⟩ : ByteArray), y336⟩ : S24), (⟨(⟨#[85, 84, 67]⟩ : ByteArray), ([] : List (S32))⟩ : S24)] : List (S24))) (inner := [.string (⟨#[65, 109, 101, 114, 105, 99, 97, 47, 78, 101, 119, 95, 89, 111, 114, 107]⟩ : ByteArray), .slice Ao12 y298.length co12, .string (⟨#[65, 115, 105, 97, 47, 75, 111, 108, 107, 97, 116, 97]⟩ : ByteArray), .slice Ao16 y302.length co16, .string (⟨#[65, 117, 115, 116, 114, 97, 108, 105, 97, 47, 83, 121, 100, 110, 101, 121]⟩ : ByteArray), .slice Ao21 y319.length co21, .string (⟨#[69, 116, 99, 47, 85, 84, 67]⟩ : ByteArray), .slice none 0 0, .string (⟨#[69, 117, 114, 111, 112, 101, 47, 66, 101, 114, 108, 105, 110]⟩ : ByteArray), .slice Ao26 y336.length co26, .string (⟨#[85, 84, 67]⟩ : ByteArray), .slice none 0 0]) (ok := (fun k_ => (w.heap.size ≤ k_))) (okp := (fun k_ => (w.heap.size ≤ k_))) ?hr ?hp (fun _ hk => hk) ((show ∀ k_, w24.heap.size ≤ k_ → (fun k_ => (w.heap.size ≤ k_)) k_ from fun k_ hk => (Nat.le_trans (below_size (by repeat (first | (with_reducible first | exact HB.out | apply below_alloc | apply pw_below_drewN | apply below_drew1) | exact HB.out))) hk)) _ (Nat.le_refl _)) (Below.refl _ _) (Nat.le_refl _) (by simp) ?_; (case hd => rfl); (case hg => rfl); (case hr => first | (go_simp; done) | (go_simp; rfl)); (case hp => exact (Reps.c2 (show Kd.FK k24 _ _ (⟨(⟨#[65, 109, 101, 114, 105, 99, 97, 47, 78, 101, 119, 95, 89, 111, 114, 107]⟩ : ByteArray), y298⟩ : S24) [.string (⟨#[65, 109, 101, 114, 105, 99, 97, 47, 78, 101, 119, 95, 89, 111, 114, 107]⟩ : ByteArray), .slice Ao12 y298.length co12] from (k24_mkF _ _ (⟨(⟨#[65, 109, 101, 114, 105, 99, 97, 47, 78, 101, 119, 95, 89, 111, 114, 107]⟩ : ByteArray), y298⟩ : S24) (Kd.R_reads' (Kd.R_mono (ok' := (fun k_ => (w.heap.size ≤ k_))) (HO300.out) (fun k_ hk => hk.1.1.1.1))).2.1 (Kd.R_F (Kd.R_mono (ok' := (fun k_ => (w.heap.size ≤ k_))) (HO300.out) (fun k_ hk => hk.1.1.1.1))))) (Reps.c2 (show Kd.FK k24 _ _ (⟨(⟨#[65, 115, 105, 97, 47, 75, 111, 108, 107, 97, 116, 97]⟩ : ByteArray), y302⟩ : S24) [.string (⟨#[65, 115, 105, 97, 47, 75, 111, 108, 107, 97, 116, 97]⟩ : ByteArray), .slice Ao16 y302.length co16] from (k24_mkF _ _ (⟨(⟨#[65, 115, 105, 97, 47, 75, 111, 108, 107, 97, 116, 97]⟩ : ByteArray), y302⟩ : S24) (Kd.R_reads' (Kd.R_mono (ok' := (fun k_ => (w.heap.size ≤ k_))) (HO304.out) (fun k_ hk => hk.1.1.1.1))).2.1 (Kd.R_F (Kd.R_mono (ok' := (fun k_ => (w.heap.size ≤ k_))) (HO304.out) (fun k_ hk => hk.1.1.1.1))))) (Reps.c2 (show Kd.FK k24 _ _ (⟨(⟨#[65, 117, 115, 116, 114, 97, 108, 105, 97, 47, 83, 121, 100, 110, 101, 121]⟩ : ByteArray), y319⟩ : S24) [.string (⟨#[65, 117, 115, 116, 114, 97, 108, 105, 97, 47, 83, 121, 100, 110, 101, 121]⟩ : ByteArray), .slice Ao21 y319.length co21] from (k24_mkF _ _ (⟨(⟨#[65, 117, 115, 116, 114, 97, 108, 105, 97, 47, 83, 121, 100, 110, 101, 121]⟩ : ByteArray), y319⟩ : S24) (Kd.R_reads' (Kd.R_mono (ok' := (fun k_ => (w.heap.size ≤ k_))) (HO321.out) (fun k_ hk => hk.1.1.1.1))).2.1 (Kd.R_F (Kd.R_mono (ok' := (fun k_ => (w.heap.size ≤ k_))) (HO321.out) (fun k_ hk => hk.1.1.1.1))))) (Reps.c2 (show Kd.FK k24 _ _ (⟨(⟨#[69, 116, 99, 47, 85, 84, 67]⟩ : ByteArray), ([] : List (S32))⟩ : S24) [.string (⟨#[69, 116, 99, 47, 85, 84, 67]⟩ : ByteArray), .slice none 0 0] from (k24_mkF _ _ (⟨(⟨#[69, 116, 99, 47, 85, 84, 67]⟩ : ByteArray), ([] : List (S32))⟩ : S24) (Nat.le_refl _) (Kd.F_nil _ _ _))) (Reps.c2 (show Kd.FK k24 _ _ (⟨(⟨#[69, 117, 114, 111, 112, 101, 47, 66, 101, 114, 108, 105, 110]⟩ : ByteArray), y336⟩ : S24) [.string (⟨#[69, 117, 114, 111, 112, 101, 47, 66, 101, 114, 108, 105, 110]⟩ : ByteArray), .slice Ao26 y336.length co26] from (k24_mkF _ _ (⟨(⟨#[69, 117, 114, 111, 112, 101, 47, 66, 101, 114, 108, 105, 110]⟩ : ByteArray), y336⟩ : S24) (Kd.R_reads' (Kd.R_mono (ok' := (fun k_ => (w.heap.size ≤ k_))) (HO338.out) (fun k_ hk => hk.1.1.1.1))).2.1 (Kd.R_F (Kd.R_mono (ok' := (fun k_ => (w.heap.size ≤ k_))) (HO338.out) (fun k_ hk => hk.1.1.1.1))))) (Reps.c2 (show Kd.FK k24 _ _ (⟨(⟨#[85, 84, 67]⟩ : ByteArray), ([] : List (S32))⟩ : S24) [.string (⟨#[85, 84, 67]⟩ : ByteArray), .slice none 0 0] from (k24_mkF _ _ (⟨(⟨#[85, 84, 67]⟩ : ByteArray), ([] : List (S32))⟩ : S24) (Nat.le_refl _) (Kd.F_nil _ _ _))) (Reps.none _ _)))))))); intro v340 w27 ho28 hb hg_ hnew_; clear hg_ hnew_; (first | rw [← Ny339.out] at ho28 | (simp only [Int.reduceToNat] at ho28; rw [← Ny339.out] at ho28)); have n0_ := Aside0.mk (Kd.N_lower ho28 (below_size (by repeat (first | (with_reducible first | exact HB.out | apply below_alloc | apply pw_below_drewN | apply below_drew1) | exact HB.out)))); have n1_ := Aside0.mk (below_step (by repeat (first | (with_reducible first | exact HB.out | apply below_alloc | apply pw_below_drewN | apply below_drew1) | exact HB.out)) hb); clear HB; clear HO300; clear HO304; clear HO321; clear HO338; have HO341 := n0_; have HB := n1_; clear n0_ n1_; clear hb ho28))
  go_ret
  exact ⟨_, by first | rfl | (simp [errW_none, errW_some] <;> rfl) | (simp [*, errW_none, errW_some] <;> rfl), by (with_reducible repeat (first | apply Kd.N_alloc | apply Kd.N_drewN | apply Kd.N_drew)); exact HO341.out, by repeat (first | (with_reducible first | exact HB.out | apply below_alloc | apply pw_below_drewN | apply below_drew1) | exact HB.out)⟩
end Go.Proofs.YtmajmolbjiahlaaGreatDoor.PD
namespace Go.Proofs.YtmajmolbjiahlaaGreatDoor.PD
open Go.RowKit Go.Proofs.YtmajmolbjiahlaaGreatDoorW.PrintWords Go.Proofs.YtmajmolbjiahlaaGreatDoorW.PrintLast Go.Proofs.YtmajmolbjiahlaaGreatDoorW.PrintMore
attribute [local go_sem] isSome_setCell
set_option linter.unusedVariables false
set_option linter.unusedSimpArgs false
set_option maxRecDepth 100000 in
set_option maxHeartbeats 1600000 in
theorem named1_calls (nm : ByteArray) (G : Nat) (s : ByteArray) (A : Option Addr) (n c : Nat) (W : World) (hG : W.heap[G]? = some (.cells #[.string nm] 9 (0, 0))) :
    Calls Tryz.prog 36 (#[.agg #[.string s, .slice A n c]] ++ #[.pointer (some ⟨G, 0, none⟩)]) W fun e W' => e = .returned (.bool (s.toList == nm.toList)) ∧ Below W.heap.size W W' := by
  have hc : (W.alloc (.cells #[.string s, .slice A n c] 24)).cell? ⟨G, 0, none⟩ = some (.string nm) := (blk_cell (blk_alloc hG _) 0).trans rfl
  have HB0 := Aside0.mk (below_alloc (Below.refl W.heap.size W) (.cells #[.string s, .slice A n c] 24))
  go_enter Tryz.func36, Tryz.ntmps36
  go_wp2
  go_ret
  exact ⟨rfl, HB0.out⟩
set_option maxRecDepth 100000 in
set_option maxHeartbeats 1600000 in
theorem indexZ (fk : Nat) (fn : Func) (hfn : Tryz.prog.funcs[fk]? = some fn) (hname : (fn.name == "runtime.NumGoroutine") = false) (hbody : fn.body.isSome = true) (lb : Array Value) (p : ByteArray → Bool)
    (A0 : Option Addr) (c0 : Nat) (l0 : List S24) (w : World) (hr0 : Kd.C k24 w A0 l0.length l0)
    (hp : ∀ s A n c W, Below w.heap.size w W → Calls Tryz.prog fk (#[.agg #[.string s, .slice A n c]] ++ lb) W fun e W' => e = .returned (.bool (p s)) ∧ Below W.heap.size W W') :
    Calls Tryz.prog 35 #[.slice A0 l0.length c0, .func (.func fk) #[] lb] w fun e w' => e = .returned (.int .i64 (idxP (fun z => p z.f0) l0)) ∧ Below w.heap.size w w' := by
  have HR0 := Aside0.mk hr0
  have hml : l0.length ≤ 9223372036854775807 := by have := hr0.2.1; unfold maxLen at this; omega
  clear hr0
  have HP := Aside0.mk hp
  clear hp
  have HB := Aside0.mk (Below.refl w.heap.size w)
  go_enter Tryz.func35, Tryz.ntmps35
  go_wp2
  go_loopw [8] (fun v wr => ∃ k : Nat, v = .int .i64 k ∧ k ≤ l0.length ∧ Aside0 (∀ j, (hj : j < l0.length) → j < k → p l0[j].f0 = false) ∧ Aside0 (Below w.heap.size w wr)) (fun v _ => l0.length - (intOf v).toNat)
  case atStart => exact ⟨0, rfl, Nat.zero_le _, ⟨fun j _ hj => absurd hj (Nat.not_lt_zero _)⟩, HB⟩
  case round =>
    obtain ⟨k, rfl, hk, hno, hb⟩ := hrel
    by_cases hlt : k < l0.length
    · have hlt0 : decide ((k : Int) < (l0.length : Int)) = true := decide_eq_true (by omega)
      obtain ⟨ad, A1, c1, e, hx0, hx1, _, _⟩ := at_T24 HR0.out (k : Int) (by omega) (by omega)
      subst e
      replace hx0 := (hb.out.cell (World.block_lt_of_cell? w _ hx0)).trans hx0
      replace hx1 := (hb.out.cell (World.block_lt_of_cell? w _ hx1)).trans hx1
      have hget : rd_T24 l0 (k : Int) = l0[k] := by simp [rd_T24, hlt]
      rw [hget] at hx0 hx1
      have hc := HP.out l0[k].f0 A1 l0[k].f1.length c1 wr hb.out
      simp only [Int.toNat_natCast] at hx0 hx1
      cases hpk : p l0[k].f0 with
      | true =>
        rw [hpk] at hc
        have HC := Aside0.mk hc
        clear hc
        go_wp2_with ((with_reducible refine gate_tmp (t := 11) rfl ?_); refine goesF_ (some 16) rfl rfl hfn hname hbody (args := #[.agg #[.string l0[k].f0, .slice A1 l0[k].f1.length c1]] ++ lb) rfl rfl (by (try simp only [List.map_toArray, List.map_cons, List.map_nil]); first | done | rfl) ?_; refine HC.out.mono ?_; rintro e W' ⟨rfl, hb'⟩; refine ⟨_, rfl, ?_⟩)
        go_ret
        refine ⟨?_, hb.out.trans (hb'.mono hb.out.size)⟩
        rw [idxP_at (fun z => p z.f0) l0 k hlt hpk (fun j hj => hno.out j (by omega) hj)]
        rfl
      | false =>
        rw [hpk] at hc
        have HC := Aside0.mk hc
        clear hc
        go_wp2_with ((with_reducible refine gate_tmp (t := 11) rfl ?_); refine goesF_ (some 16) rfl rfl hfn hname hbody (args := #[.agg #[.string l0[k].f0, .slice A1 l0[k].f1.length c1]] ++ lb) rfl rfl (by (try simp only [List.map_toArray, List.map_cons, List.map_nil]); first | done | rfl) ?_; refine HC.out.mono ?_; rintro e W' ⟨rfl, hb'⟩; refine ⟨_, rfl, ?_⟩)
        go_roundw
        case rel =>
          refine ⟨k + 1, by simp, hlt, ⟨fun j hj hjk => ?_⟩, ⟨hb.out.trans (hb'.mono hb.out.size)⟩⟩
          rcases Nat.lt_or_ge j k with h | h
          · exact hno.out j hj h
          · obtain rfl : j = k := by omega
            exact hpk
        case measure => show l0.length - (((k : Int) + 1)).toNat < l0.length - ((k : Int)).toNat; omega
    · have hlt0 : decide ((k : Int) < (l0.length : Int)) = false := decide_eq_false (by omega)
      go_wp2
      go_ret
      refine ⟨?_, hb.out⟩
      rw [idxP_none (fun z => p z.f0) l0 (fun j hj => hno.out j hj (by omega))]
      rfl
def pickZ (a0 : ByteArray) (l : List S24) : ByteArray × List S32 × Bool := match l.find? (fun z => z.f0.toList == a0.toList) with
  | some z => (z.f0, z.f1, true)
  | none => ((⟨#[]⟩ : ByteArray), [], false)
def zone_Named.f (k : Nat) (a0 : ByteArray) : Option (ByteArray × (List (S32)) × Bool) := zone_known.f.bind fun l => some (pickZ a0 l)
theorem idx_find {α : Type} (p : α → Bool) (l : List α) : (idxP p l = -1 ∧ l.find? p = none) ∨ ∃ i : Nat, ∃ hi : i < l.length, idxP p l = i ∧ l.find? p = some l[i] := by
  unfold idxP
  cases h : l.findIdx? p with
  | none =>
    left
    rw [List.findIdx?_eq_none_iff] at h
    exact ⟨rfl, List.find?_eq_none.2 (fun x hx => by simp [h x hx])⟩
  | some i =>
    right
    obtain ⟨h1, h2, h3⟩ := List.findIdx?_eq_some_iff_getElem.1 h
    refine ⟨i, h1, rfl, ?_⟩
    rw [List.find?_eq_some_iff_getElem]
    exact ⟨h2, i, h1, rfl, fun j hj => by have := h3 j hj; simpa using this⟩
theorem elemZ {W : World} {l : List S24} {base : Nat} {ok : Nat → Prop} {Ao : Option Addr} {co : Nat} (h : Kd.N k24 24 W base ok (.slice Ao l.length co) l) (i : Nat) (hi : i < l.length) (base' : Nat) :
    ∃ ad A1 c1, Ao = some ad ∧ W.cell? (ad.add (i * 2)) = some (.string l[i].f0) ∧ W.cell? ⟨(ad.add (i * 2)).block, (ad.add (i * 2)).off + 1, none⟩ = some (.slice A1 l[i].f1.length c1) ∧ Kd.V k32 32 W base' ok (.slice A1 l[i].f1.length c1) l[i].f1 := by
  obtain ⟨ad, A1, c1, rfl, hx0, hx1, hl1, hc1⟩ := at_T24 (Kd.N_reads' h).2.2 (i : Int) (by omega) (by omega)
  have hgd : l.getD (i : Int).toNat z24 = l[i] := by simp [hi]
  have hgr : rd_T24 l (i : Int) = l[i] := hgd
  obtain ⟨ce, hce, hMe, hcc⟩ := Kd.N_get h z24 (i : Int) (by omega) (by omega)
  rw [hgd] at hMe
  obtain ⟨ua, uc, rfl, ul, ge⟩ := k24_openF hMe
  have hv := hcc 1 _ rfl
  rw [add_field _ _ 1 (by omega)] at hv
  replace hv := Option.some.inj (hv.symm.trans hx1)
  rw [hgr] at hx0 hx1 hv
  injection hv with hva hvn hvc
  rw [hva] at ge
  rw [hvc] at ul
  exact ⟨ad, A1, c1, rfl, hx0, hx1, Kd.V_mono (Kd.V_mk ul ge) (fun _ hk => hk.1)⟩
set_option maxRecDepth 100000 in
set_option maxHeartbeats 8000000 in
theorem zone_Named.calls (k : Nat) (a0 : ByteArray) (r1 : ByteArray) (r2 : List (S32)) (r3 : Bool) (w : World) (h : zone_Named.f k a0 = some (r1, r2, r3)) (hTab : Tab w) :
    Calls Tryz.prog 14 #[.string a0] w fun e w' => ∃ v1_ : Value, e = .returned (.tuple #[.agg #[.string r1, v1_], .bool r3]) ∧ Kd.V k32 32 w' w.heap.size (fun k_ => (w.heap.size ≤ k_)) v1_ r2 ∧ Below w.heap.size w w' := by
  obtain ⟨l, hl, hr⟩ := Option.bind_eq_some_iff.1 h
  have hr' := Option.some.inj hr
  clear h hr
  have HL := Aside0.mk hl
  have HTab := Aside0.mk hTab
  clear hl hTab
  have hu24 := Tryz.underlying24
  have HB := Aside0.mk (below_alloc (Below.refl w.heap.size w) (.cells #[.string a0] 9))
  have HN := Aside0.mk (heap_alloc_new w (.cells #[.string a0] 9))
  rcases idx_find (fun z : S24 => z.f0.toList == a0.toList) l with ⟨hi, hf⟩ | ⟨i, hi, he, hf⟩
  · have hP : pickZ a0 l = ((⟨#[]⟩ : ByteArray), [], false) := by unfold pickZ; rw [hf]
    rw [hP] at hr'
    obtain ⟨rfl, rfl, rfl⟩ : r1 = (⟨#[]⟩ : ByteArray) ∧ r2 = [] ∧ r3 = false := by simp only [Prod.mk.injEq] at hr'; exact ⟨hr'.1.symm, hr'.2.1.symm, hr'.2.2.symm⟩
    have HI := Aside0.mk hi
    clear hr' hP hf hi
    go_enter Tryz.func14, Tryz.ntmps14
    go_wp2_with (first | ((with_reducible refine gate_dst (N := 2) rfl ?_); refine box_event ?hg (N := 2) ?hd (cs := #[.string (⟨#[]⟩ : ByteArray), .slice none 0 0]) (t := 24) ?hr ?_; (case hd => rfl); (case hg => rfl); (case hr => first | (go_simp; done) | (go_simp; rfl)); intro gb hg w2 hbox hb; have BK := Aside0.mk hbox; have HB2 := Aside0.mk (below_step HB.out hb); have HN2 := Aside0.mk (blk_below HN.out hb); have GB := Aside0.mk (show w.heap.size + 1 = gb by rw [hg]; simp); clear HB HN hbox hb hg) | (go_at_call 34; refine (zone_known.calls l _ HL.out (HTab.out.below HB2.out)).mono ?_; rintro e w3 ⟨v0, rfl, hn, hb⟩; obtain ⟨Ao, co, eo⟩ := Kd.N_slice hn; subst eo; have HNN := Aside0.mk (show Kd.N k24 24 w3 w2.heap.size (fun k_ => w2.heap.size ≤ k_) (.slice Ao l.length co) l from hn); have BK3 := Aside0.mk (blk_below BK.out hb); have HN3 := Aside0.mk (blk_below HN2.out hb); have HB3 := Aside0.mk (below_step HB2.out hb); have GW := Aside0.mk (blk_lt BK.out); clear hn hb BK HN2 HB2) | (go_at_call 35; refine (indexZ 36 _ Tryz.func36 (by kernel_rfl) rfl #[.pointer (some ⟨w.heap.size, 0, none⟩)] (fun s => s.toList == a0.toList) Ao co l w3 (Kd.N_reads' HNN.out).2.2 (fun s A n c W hW => named1_calls a0 w.heap.size s A n c W (blk_below HN3.out hW))).mono ?_; rw [HI.out]; rintro e w4 ⟨rfl, hb⟩; have HN4 := Aside0.mk (Kd.N_below HNN.out hb); have BK4 := Aside0.mk (blk_below BK3.out hb); have HB4 := Aside0.mk (below_step HB3.out hb); clear hb HNN BK3 HN3 HB3; have f0 : w4.cell? ⟨gb, 0, none⟩ = some (.string ⟨#[]⟩) := (blk_cell BK4.out 0).trans rfl; have f1 : w4.cell? ⟨gb, 1, none⟩ = some (.slice none 0 0) := (blk_cell BK4.out 1).trans rfl; have z0 := blk_frozen BK4.out 0; have z1 := blk_frozen BK4.out 1))
    refine bodyPost_ret (results_ct rfl _ _ gb 24 #[.string (⟨#[]⟩ : ByteArray), .slice none 0 0] (0, 0) _ rfl (by refine blk_put (cs := #[.string (⟨#[]⟩ : ByteArray), .slice none 0 0]) ?_ 1 _ rfl; refine blk_put (cs := #[.string (⟨#[]⟩ : ByteArray), .slice none 0 0]) ?_ 0 _ rfl; exact BK4.out) Tryz.underlying24 rfl (by kernel_rfl)) rfl ?_
    exact ⟨_, rfl, Kd.V_nil _ _ _ _ _, below_set (below_set HB4.out (by have := GB.out; omega)) (by have := GB.out; omega)⟩
  · have hP : pickZ a0 l = (l[i].f0, l[i].f1, true) := by unfold pickZ; rw [hf]
    rw [hP] at hr'
    obtain ⟨rfl, rfl, rfl⟩ : r1 = l[i].f0 ∧ r2 = l[i].f1 ∧ r3 = true := by simp only [Prod.mk.injEq] at hr'; exact ⟨hr'.1.symm, hr'.2.1.symm, hr'.2.2.symm⟩
    have HI := Aside0.mk he
    have e0 : decide ((i : Int) < 0) = false := decide_eq_false (by omega)
    have p0 : (0 ≤ (i : Int)) = True := eq_true (by omega)
    have q0 : ((i : Int) < (l.length : Int)) = True := eq_true (by omega)
    have HIL := Aside0.mk hi
    have hget : rd_T24 l (i : Int) = l[i] := by simp [rd_T24, hi]
    have HG := Aside0.mk hget
    clear hr' hP hf he hget
    go_enter Tryz.func14, Tryz.ntmps14
    go_wp2_with (first | ((with_reducible refine gate_dst (N := 2) rfl ?_); refine box_event ?hg (N := 2) ?hd (cs := #[.string (⟨#[]⟩ : ByteArray), .slice none 0 0]) (t := 24) ?hr ?_; (case hd => rfl); (case hg => rfl); (case hr => first | (go_simp; done) | (go_simp; rfl)); intro gb hg w2 hbox hb; have BK := Aside0.mk hbox; have HB2 := Aside0.mk (below_step HB.out hb); have HN2 := Aside0.mk (blk_below HN.out hb); have GB := Aside0.mk (show w.heap.size + 1 = gb by rw [hg]; simp); clear HB HN hbox hb hg) | (go_at_call 34; refine (zone_known.calls l _ HL.out (HTab.out.below HB2.out)).mono ?_; rintro e w3 ⟨v0, rfl, hn, hb⟩; obtain ⟨Ao, co, eo⟩ := Kd.N_slice hn; subst eo; have HNN := Aside0.mk (show Kd.N k24 24 w3 w2.heap.size (fun k_ => w2.heap.size ≤ k_) (.slice Ao l.length co) l from hn); have BK3 := Aside0.mk (blk_below BK.out hb); have HN3 := Aside0.mk (blk_below HN2.out hb); have HB3 := Aside0.mk (below_step HB2.out hb); have GW := Aside0.mk (blk_lt BK.out); clear hn hb BK HN2 HB2) | (go_at_call 35; refine (indexZ 36 _ Tryz.func36 (by kernel_rfl) rfl #[.pointer (some ⟨w.heap.size, 0, none⟩)] (fun s => s.toList == a0.toList) Ao co l w3 (Kd.N_reads' HNN.out).2.2 (fun s A n c W hW => named1_calls a0 w.heap.size s A n c W (blk_below HN3.out hW))).mono ?_; rw [HI.out]; rintro e w4 ⟨rfl, hb⟩; have HN4 := Aside0.mk (Kd.N_below HNN.out hb); have BK4 := Aside0.mk (blk_below BK3.out hb); have HB4 := Aside0.mk (below_step HB3.out hb); clear hb HNN BK3 HN3 HB3; have f0 : w4.cell? ⟨gb, 0, none⟩ = some (.string ⟨#[]⟩) := (blk_cell BK4.out 0).trans rfl; have f1 : w4.cell? ⟨gb, 1, none⟩ = some (.slice none 0 0) := (blk_cell BK4.out 1).trans rfl; have z0 := blk_frozen BK4.out 0; have z1 := blk_frozen BK4.out 1; obtain ⟨ad, A1, c1, ea, hx0, hx1, hv⟩ := elemZ HN4.out i HIL.out w.heap.size; subst ea; have HV := Aside0.mk hv; clear hv))
    refine bodyPost_ret (results_ct rfl _ _ gb 24 #[.string l[i].f0, .slice A1 l[i].f1.length c1] (0, 0) _ rfl (by refine blk_put (cs := #[.string l[i].f0, .slice none 0 0]) ?_ 1 _ rfl; refine blk_put (cs := #[.string (⟨#[]⟩ : ByteArray), .slice none 0 0]) ?_ 0 _ rfl; exact BK4.out) Tryz.underlying24 rfl (by kernel_rfl)) rfl ?_
    exact ⟨_, rfl, Kd.V_mono (Kd.V_far (Kd.V_far HV.out (p := ⟨gb, 0, none⟩) (fun k hk e => by have := GW.out; have e' : k = gb := e; omega) _) (p := ⟨gb, 1, none⟩) (fun k hk e => by have := GW.out; have e' : k = gb := e; omega) _) (fun k hk => by have h1 := GW.out; have h2 := GB.out; have h3 : w2.heap.size ≤ k := hk; omega), below_set (below_set HB4.out (by have := GB.out; omega)) (by have := GB.out; omega)⟩
end Go.Proofs.YtmajmolbjiahlaaGreatDoor.PD
