/- Part 5 of the texts that the claim leans on: the functions' walks, and what they compute. -/
import Derived.Test.YtmajmolbjiahlaaGreatDoorZoneKnows4
import Derived.Test.YtmajmolbjiahlaaGreatDoorZoneKnows2
import Derived.Test.YtmajmolbjiahlaaGreatDoorZoneKnows3
namespace Go.Proofs.YtmajmolbjiahlaaGreatDoor.PD
open Go.RowKit Go.Proofs.YtmajmolbjiahlaaGreatDoorW.PrintWords Go.Proofs.YtmajmolbjiahlaaGreatDoorW.PrintLast Go.Proofs.YtmajmolbjiahlaaGreatDoorW.PrintMore
attribute [local go_sem] isSome_setCell max2_int min2_int max_two min_two max_three min_three max_four min_four
set_option linter.unusedVariables false
set_option linter.unusedSimpArgs false
def almanacref10_ReadStamp.j0 : Nat → ByteArray → Bool → Option (Int × Int)
  | 0, _, _ => none
  | k + 1, x0, x16 => if x16 = true then (some (0, 10)) else (if 0 ≤ 8 then (if 8 ≤ (x0.size : Int) then ((almanacref10_ReadDay.f k (x0.extract 0 8)).bind fun bt377 => (if 9 ≤ (x0.size : Int) then ((almanacref08_Number.f k (x0.extract 9 x0.size) 999999).bind fun bt379 => ((almanacref10_clock.f (wrap64 (Int.tdiv bt379.1 10000)) (Int.tmod (wrap64 (Int.tdiv bt379.1 100)) 100) (Int.tmod bt379.1 100)).bind fun t381 => (if bt377.2 = 0 then (if bt379.2 = true then (if t381 < 0 then (some (0, 10)) else (some (wrap64 ((wrap64 (bt377.1 * 86400)) + t381), 0))) else (some (0, 10))) else (some (0, 10))))) else (none))) else (none)) else (none))
def almanacref10_ReadStamp.f (k : Nat) (a0 : ByteArray) : Option (Int × Int) := if (a0.size : Int) = 15 then (if 8 < (a0.size : Int) then (almanacref10_ReadStamp.j0 k a0 ((bt a0 8) != 84)) else (none)) else (almanacref10_ReadStamp.j0 k a0 true)
theorem almanacref10_ReadStamp.mono_l : ∀ k, (∀ y0 y1, LeO (almanacref10_ReadStamp.j0 k y0 y1) (almanacref10_ReadStamp.j0 (k + 1) y0 y1))
  | 0 => fun _ _ r h => by simp [almanacref10_ReadStamp.j0] at h
  | k + 1 => by
    have ih0 := almanacref10_ReadStamp.mono_l k
    · intro y0 y1
      unfold almanacref10_ReadStamp.j0
      repeat' first
      | (with_reducible exact ih0 _ _)
      | (with_reducible exact almanacref08_Number.mono _ _ _)
      | (with_reducible exact almanacref10_ReadDay.mono _ _)
      | (with_reducible exact LeO.refl _)
      | (with_reducible exact LeO.none _)
      | (with_reducible refine LeO.ite ?_ ?_)
      | (with_reducible refine LeO.bind ?_ (fun _ => ?_))
      | exact ih0 _ _
      | exact almanacref08_Number.mono _ _ _
      | exact almanacref10_ReadDay.mono _ _
      | exact LeO.none _
      | refine LeO.ite ?_ ?_
      | refine LeO.bind ?_ (fun _ => ?_)
theorem almanacref10_ReadStamp.mono : ∀ a0 k, LeO (almanacref10_ReadStamp.f k a0) (almanacref10_ReadStamp.f (k + 1) a0) := by
  intro a0 k
  have ih0 := almanacref10_ReadStamp.mono_l k
  unfold almanacref10_ReadStamp.f
  repeat' first
      | (with_reducible exact ih0 _ _)
      | (with_reducible exact almanacref08_Number.mono _ _ _)
      | (with_reducible exact almanacref10_ReadDay.mono _ _)
      | (with_reducible exact LeO.refl _)
      | (with_reducible exact LeO.none _)
      | (with_reducible refine LeO.ite ?_ ?_)
      | (with_reducible refine LeO.bind ?_ (fun _ => ?_))
      | exact ih0 _ _
      | exact almanacref08_Number.mono _ _ _
      | exact almanacref10_ReadDay.mono _ _
      | exact LeO.none _
      | refine LeO.ite ?_ ?_
      | refine LeO.bind ?_ (fun _ => ?_)
set_option maxHeartbeats 8000000 in
set_option maxRecDepth 100000 in
theorem almanacref10_ReadStamp.calls (k : Nat) (a0 : ByteArray) (r1 : Int) (r2 : Int) (w : World) (h : almanacref10_ReadStamp.f k a0 = some (r1, r2)) :
    Calls Tryz.prog 83 #[.string a0] w fun e w' => e = .returned (.tuple #[.int .i64 r1, .int .i64 r2]) ∧ Drawn0 w w' := by
  have H : (if (a0.size : Int) = 15 then (if 8 < (a0.size : Int) then (almanacref10_ReadStamp.j0 k a0 ((bt a0 8) != 84)) else (none)) else (almanacref10_ReadStamp.j0 k a0 true)) = some (r1, r2) := h
  clear h
  have HC2 := Aside0.mk H
  clear H
  go_enter Tryz.func83, Tryz.ntmps83
  go_upto_region 1 with (fail)
  go_cut [16] (fun v16 wc => ∃ (kq : Nat) (x16_1 : Bool), v16 = .bool x16_1 ∧ Aside0 (almanacref10_ReadStamp.j0 kq a0 x16_1 = some (r1, r2)) ∧ Aside0 (kq ≤ k) ∧ Drawn0 w wc)
  case first =>
    have H := HC2.out
    clear HC2
    by_cases c3 : (a0.size : Int) = 15
    · rw [if_pos c3] at H
      have c3b0 : ((a0.size : Int) == 15) = true := beq_iff_eq.mpr c3
      have c3b1 : ((a0.size : Int) != 15) = false := bne_eq_false_iff_eq.mpr c3
      clear c3
      (first | rw [c3b0] | (simp only [i64_w, i32_w]; rw [c3b0]) | skip)
      by_cases c4 : 8 < (a0.size : Int)
      · rw [if_pos c4] at H
        have c4b0 : decide (8 < (a0.size : Int)) = true := decide_eq_true c4
        have c4b1 : decide (8 < a0.size) = true := decide_eq_true (by omega)
        clear c4
        have H' := Aside0.mk H
        clear H
        have p5 : 0 ≤ (8 : Int) := (by omega)
        have q5 : 8 < a0.size := (by have : (8 : Int) < (a0.size : Int) := of_decide_eq_true (by first | (with_reducible assumption) | assumption); omega)
        have hx5 : ∀ h : 8 < a0.size, ((a0[8]'h).toNat : Int) = bt a0 8 := bt_at a0 8
        clear p5
        have qi5 : (8 < (a0.size : Int)) = True := eq_true (of_decide_eq_true (by first | (with_reducible assumption) | assumption))
        replace q5 := eq_true q5
        go_wp2
        go_meet
        case rel => exact ⟨_, (((bt a0 8) != 84)), (by first | rfl | (simp; done) | (simp [*]; done)), H', ⟨by first | omega | exact Nat.le_refl _⟩, by repeat (first | exact Drawn0.refl _ | apply Drawn0.step)⟩
      · rw [if_neg c4] at H
        exact absurd H (by simp)
    · rw [if_neg c3] at H
      have c3b0 : ((a0.size : Int) == 15) = false := beq_eq_false_iff_ne.mpr c3
      have c3b1 : ((a0.size : Int) != 15) = true := bne_iff_ne.mpr c3
      (first | rw [c3b0] | (simp only [i64_w, i32_w]; rw [c3b0]) | skip)
      have H' := Aside0.mk H
      clear H
      go_wp2
      go_meet
      case rel => exact ⟨_, (true), (by first | rfl | (simp; done) | (simp [*]; done)), H', ⟨by first | omega | exact Nat.le_refl _⟩, by repeat (first | exact Drawn0.refl _ | apply Drawn0.step)⟩
  case rest =>
    clear HC2
    try clear p2
    try clear c3
    try clear c3b0
    try clear c3b1
    try clear c4
    try clear c4b0
    try clear c4b1
    try clear p5
    try clear q5
    try clear hx5
    try clear qi5
    try clear p5
    try clear q5
    obtain ⟨kq, x16_1, rfl, HA, HJ1, ⟨mc1, rfl⟩⟩ := hcut
    cases kq with
    | zero => exact absurd HA.out (by simp [almanacref10_ReadStamp.j0])
    | succ kj1 =>
      have H := HA.out
      clear HA
      simp only [almanacref10_ReadStamp.j0] at H
      by_cases c6 : x16_1 = true
      · subst c6
        have H1 : (some (0, 10)) = some (r1, r2) := by rw [if_pos rfl] at H; exact H
        clear H
        have H := H1
        clear H1
        simp only [Option.some.injEq, Prod.mk.injEq] at H
        obtain ⟨rfl, rfl⟩ := H
        go_wp2
        go_ret2
        exact ⟨by first | rfl | (simp; done) | (simp [*]; done), by repeat (first | exact Drawn0.refl _ | apply Drawn0.step)⟩
      · replace c6 := Bool.eq_false_iff.mpr c6
        subst c6
        have H1 : (if 0 ≤ 8 then (if 8 ≤ (a0.size : Int) then ((almanacref10_ReadDay.f kj1 (a0.extract 0 8)).bind fun bt377 => (if 9 ≤ (a0.size : Int) then ((almanacref08_Number.f kj1 (a0.extract 9 a0.size) 999999).bind fun bt379 => ((almanacref10_clock.f (wrap64 (Int.tdiv bt379.1 10000)) (Int.tmod (wrap64 (Int.tdiv bt379.1 100)) 100) (Int.tmod bt379.1 100)).bind fun t381 => (if bt377.2 = 0 then (if bt379.2 = true then (if t381 < 0 then (some (0, 10)) else (some (wrap64 ((wrap64 (bt377.1 * 86400)) + t381), 0))) else (some (0, 10))) else (some (0, 10))))) else (none))) else (none)) else (none)) = some (r1, r2) := by rw [if_neg (show ¬ (false = true) by decide)] at H; exact H
        clear H
        have H := H1
        clear H1
        by_cases c7 : 0 ≤ 8
        · rw [if_pos c7] at H
          have c7b0 := eq_true c7
          have c7b1 : decide (0 ≤ 8) = true := decide_eq_true c7
          clear c7
          by_cases c8 : 8 ≤ (a0.size : Int)
          · rw [if_pos c8] at H
            have c8b0 := eq_true c8
            have c8b1 : decide (8 ≤ (a0.size : Int)) = true := decide_eq_true c8
            clear c8
            replace H := Option.bind_eq_some_iff.mp H
            obtain ⟨⟨t377, t378⟩, A90, H⟩ := H
            replace H : (if 9 ≤ (a0.size : Int) then ((almanacref08_Number.f kj1 (a0.extract 9 a0.size) 999999).bind fun bt379 => ((almanacref10_clock.f (wrap64 (Int.tdiv bt379.1 10000)) (Int.tmod (wrap64 (Int.tdiv bt379.1 100)) 100) (Int.tmod bt379.1 100)).bind fun t381 => (if t378 = 0 then (if bt379.2 = true then (if t381 < 0 then (some (0, 10)) else (some (wrap64 ((wrap64 (t377 * 86400)) + t381), 0))) else (some (0, 10))) else (some (0, 10))))) else (none)) = some (r1, r2) := H
            have A9 := Aside0.mk A90
            clear A90
            by_cases c10 : 9 ≤ (a0.size : Int)
            · rw [if_pos c10] at H
              have c10b0 := eq_true c10
              have c10b1 : decide (9 ≤ (a0.size : Int)) = true := decide_eq_true c10
              clear c10
              replace H := Option.bind_eq_some_iff.mp H
              obtain ⟨⟨t379, t380⟩, A110, H⟩ := H
              replace H : ((almanacref10_clock.f (wrap64 (Int.tdiv t379 10000)) (Int.tmod (wrap64 (Int.tdiv t379 100)) 100) (Int.tmod t379 100)).bind fun t381 => (if t378 = 0 then (if t380 = true then (if t381 < 0 then (some (0, 10)) else (some (wrap64 ((wrap64 (t377 * 86400)) + t381), 0))) else (some (0, 10))) else (some (0, 10)))) = some (r1, r2) := H
              have A11 := Aside0.mk A110
              clear A110
              replace H := Option.bind_eq_some_iff.mp H
              obtain ⟨t381, A120, H⟩ := H
              replace H : (if t378 = 0 then (if t380 = true then (if t381 < 0 then (some (0, 10)) else (some (wrap64 ((wrap64 (t377 * 86400)) + t381), 0))) else (some (0, 10))) else (some (0, 10))) = some (r1, r2) := H
              have A12 := Aside0.mk A120
              clear A120
              by_cases c13 : t378 = 0
              · rw [if_pos c13] at H
                have c13b0 : (t378 == 0) = true := beq_iff_eq.mpr c13
                have c13b1 : (t378 != 0) = false := bne_eq_false_iff_eq.mpr c13
                clear c13
                by_cases c14 : t380 = true
                · subst c14
                  have H1 : (if t381 < 0 then (some (0, 10)) else (some (wrap64 ((wrap64 (t377 * 86400)) + t381), 0))) = some (r1, r2) := by rw [if_pos rfl] at H; exact H
                  clear H
                  have H := H1
                  clear H1
                  by_cases c15 : t381 < 0
                  · rw [if_pos c15] at H
                    have c15b0 : decide (t381 < 0) = true := decide_eq_true c15
                    clear c15
                    simp only [Option.some.injEq, Prod.mk.injEq] at H
                    obtain ⟨rfl, rfl⟩ := H
                    go_wp2_with (first | ((with_reducible refine gate_callee (f := 96) rfl ?_); refine goesL_ (some 20) rfl rfl Tryz.func96 (by kernel_rfl) rfl #[.string (a0.extract 0 8)] rfl (by (try simp only [List.map_toArray, List.map_cons, List.map_nil]); first | done | rfl | (simp only [List.length_drop, List.length_take]; rfl)) ?_; (with_reducible refine (almanacref10_ReadDay.calls kj1 (a0.extract 0 8) t377 t378 _ A9.out).mono ?_); rintro e w' ⟨rfl, ⟨nd, rfl⟩⟩; refine ⟨_, rfl, ?_⟩) | ((with_reducible refine gate_callee (f := 97) rfl ?_); refine goesL_ (some 26) rfl rfl Tryz.func97 (by kernel_rfl) rfl #[.string (a0.extract 9 a0.size), .int .i64 999999] rfl (by (try simp only [List.map_toArray, List.map_cons, List.map_nil]); first | done | rfl | (simp only [List.length_drop, List.length_take]; rfl)) ?_; (with_reducible refine (almanacref08_Number.calls kj1 (a0.extract 9 a0.size) 999999 t379 true _ A11.out).mono ?_); rintro e w' ⟨rfl, ⟨nd, rfl⟩⟩; refine ⟨_, rfl, ?_⟩) | ((with_reducible refine gate_callee (f := 98) rfl ?_); refine goesL_ (some 36) rfl rfl Tryz.func98 (by kernel_rfl) rfl #[.int .i64 (wrap64 (Int.tdiv t379 10000)), .int .i64 (Int.tmod (wrap64 (Int.tdiv t379 100)) 100), .int .i64 (Int.tmod t379 100)] rfl (by (try simp only [List.map_toArray, List.map_cons, List.map_nil]); first | done | rfl | (simp only [List.length_drop, List.length_take]; rfl)) ?_; (with_reducible refine (almanacref10_clock.calls (wrap64 (Int.tdiv t379 10000)) (Int.tmod (wrap64 (Int.tdiv t379 100)) 100) (Int.tmod t379 100) t381 _ A12.out).mono ?_); rintro e w' ⟨rfl, ⟨nd, rfl⟩⟩; refine ⟨_, rfl, ?_⟩))
                    go_ret2
                    exact ⟨by first | rfl | (simp; done) | (simp [*]; done), by repeat (first | exact Drawn0.refl _ | apply Drawn0.step)⟩
                  · rw [if_neg c15] at H
                    have c15b0 : decide (t381 < 0) = false := decide_eq_false c15
                    clear c15
                    simp only [Option.some.injEq, Prod.mk.injEq] at H
                    obtain ⟨rfl, rfl⟩ := H
                    go_wp2_with (first | ((with_reducible refine gate_callee (f := 96) rfl ?_); refine goesL_ (some 20) rfl rfl Tryz.func96 (by kernel_rfl) rfl #[.string (a0.extract 0 8)] rfl (by (try simp only [List.map_toArray, List.map_cons, List.map_nil]); first | done | rfl | (simp only [List.length_drop, List.length_take]; rfl)) ?_; (with_reducible refine (almanacref10_ReadDay.calls kj1 (a0.extract 0 8) t377 t378 _ A9.out).mono ?_); rintro e w' ⟨rfl, ⟨nd, rfl⟩⟩; refine ⟨_, rfl, ?_⟩) | ((with_reducible refine gate_callee (f := 97) rfl ?_); refine goesL_ (some 26) rfl rfl Tryz.func97 (by kernel_rfl) rfl #[.string (a0.extract 9 a0.size), .int .i64 999999] rfl (by (try simp only [List.map_toArray, List.map_cons, List.map_nil]); first | done | rfl | (simp only [List.length_drop, List.length_take]; rfl)) ?_; (with_reducible refine (almanacref08_Number.calls kj1 (a0.extract 9 a0.size) 999999 t379 true _ A11.out).mono ?_); rintro e w' ⟨rfl, ⟨nd, rfl⟩⟩; refine ⟨_, rfl, ?_⟩) | ((with_reducible refine gate_callee (f := 98) rfl ?_); refine goesL_ (some 36) rfl rfl Tryz.func98 (by kernel_rfl) rfl #[.int .i64 (wrap64 (Int.tdiv t379 10000)), .int .i64 (Int.tmod (wrap64 (Int.tdiv t379 100)) 100), .int .i64 (Int.tmod t379 100)] rfl (by (try simp only [List.map_toArray, List.map_cons, List.map_nil]); first | done | rfl | (simp only [List.length_drop, List.length_take]; rfl)) ?_; (with_reducible refine (almanacref10_clock.calls (wrap64 (Int.tdiv t379 10000)) (Int.tmod (wrap64 (Int.tdiv t379 100)) 100) (Int.tmod t379 100) t381 _ A12.out).mono ?_); rintro e w' ⟨rfl, ⟨nd, rfl⟩⟩; refine ⟨_, rfl, ?_⟩))
                    go_ret2
                    exact ⟨by first | rfl | (simp; done) | (simp [*]; done), by repeat (first | exact Drawn0.refl _ | apply Drawn0.step)⟩
                · replace c14 := Bool.eq_false_iff.mpr c14
                  subst c14
                  have H1 : (some (0, 10)) = some (r1, r2) := by rw [if_neg (show ¬ (false = true) by decide)] at H; exact H
                  clear H
                  have H := H1
                  clear H1
                  simp only [Option.some.injEq, Prod.mk.injEq] at H
                  obtain ⟨rfl, rfl⟩ := H
                  go_wp2_with (first | ((with_reducible refine gate_callee (f := 96) rfl ?_); refine goesL_ (some 20) rfl rfl Tryz.func96 (by kernel_rfl) rfl #[.string (a0.extract 0 8)] rfl (by (try simp only [List.map_toArray, List.map_cons, List.map_nil]); first | done | rfl | (simp only [List.length_drop, List.length_take]; rfl)) ?_; (with_reducible refine (almanacref10_ReadDay.calls kj1 (a0.extract 0 8) t377 t378 _ A9.out).mono ?_); rintro e w' ⟨rfl, ⟨nd, rfl⟩⟩; refine ⟨_, rfl, ?_⟩) | ((with_reducible refine gate_callee (f := 97) rfl ?_); refine goesL_ (some 26) rfl rfl Tryz.func97 (by kernel_rfl) rfl #[.string (a0.extract 9 a0.size), .int .i64 999999] rfl (by (try simp only [List.map_toArray, List.map_cons, List.map_nil]); first | done | rfl | (simp only [List.length_drop, List.length_take]; rfl)) ?_; (with_reducible refine (almanacref08_Number.calls kj1 (a0.extract 9 a0.size) 999999 t379 false _ A11.out).mono ?_); rintro e w' ⟨rfl, ⟨nd, rfl⟩⟩; refine ⟨_, rfl, ?_⟩) | ((with_reducible refine gate_callee (f := 98) rfl ?_); refine goesL_ (some 36) rfl rfl Tryz.func98 (by kernel_rfl) rfl #[.int .i64 (wrap64 (Int.tdiv t379 10000)), .int .i64 (Int.tmod (wrap64 (Int.tdiv t379 100)) 100), .int .i64 (Int.tmod t379 100)] rfl (by (try simp only [List.map_toArray, List.map_cons, List.map_nil]); first | done | rfl | (simp only [List.length_drop, List.length_take]; rfl)) ?_; (with_reducible refine (almanacref10_clock.calls (wrap64 (Int.tdiv t379 10000)) (Int.tmod (wrap64 (Int.tdiv t379 100)) 100) (Int.tmod t379 100) t381 _ A12.out).mono ?_); rintro e w' ⟨rfl, ⟨nd, rfl⟩⟩; refine ⟨_, rfl, ?_⟩))
                  go_ret2
                  exact ⟨by first | rfl | (simp; done) | (simp [*]; done), by repeat (first | exact Drawn0.refl _ | apply Drawn0.step)⟩
              · rw [if_neg c13] at H
                have c13b0 : (t378 == 0) = false := beq_eq_false_iff_ne.mpr c13
                have c13b1 : (t378 != 0) = true := bne_iff_ne.mpr c13
                simp only [Option.some.injEq, Prod.mk.injEq] at H
                obtain ⟨rfl, rfl⟩ := H
                go_wp2_with (first | ((with_reducible refine gate_callee (f := 96) rfl ?_); refine goesL_ (some 20) rfl rfl Tryz.func96 (by kernel_rfl) rfl #[.string (a0.extract 0 8)] rfl (by (try simp only [List.map_toArray, List.map_cons, List.map_nil]); first | done | rfl | (simp only [List.length_drop, List.length_take]; rfl)) ?_; (with_reducible refine (almanacref10_ReadDay.calls kj1 (a0.extract 0 8) t377 t378 _ A9.out).mono ?_); rintro e w' ⟨rfl, ⟨nd, rfl⟩⟩; refine ⟨_, rfl, ?_⟩) | ((with_reducible refine gate_callee (f := 97) rfl ?_); refine goesL_ (some 26) rfl rfl Tryz.func97 (by kernel_rfl) rfl #[.string (a0.extract 9 a0.size), .int .i64 999999] rfl (by (try simp only [List.map_toArray, List.map_cons, List.map_nil]); first | done | rfl | (simp only [List.length_drop, List.length_take]; rfl)) ?_; (with_reducible refine (almanacref08_Number.calls kj1 (a0.extract 9 a0.size) 999999 t379 t380 _ A11.out).mono ?_); rintro e w' ⟨rfl, ⟨nd, rfl⟩⟩; refine ⟨_, rfl, ?_⟩) | ((with_reducible refine gate_callee (f := 98) rfl ?_); refine goesL_ (some 36) rfl rfl Tryz.func98 (by kernel_rfl) rfl #[.int .i64 (wrap64 (Int.tdiv t379 10000)), .int .i64 (Int.tmod (wrap64 (Int.tdiv t379 100)) 100), .int .i64 (Int.tmod t379 100)] rfl (by (try simp only [List.map_toArray, List.map_cons, List.map_nil]); first | done | rfl | (simp only [List.length_drop, List.length_take]; rfl)) ?_; (with_reducible refine (almanacref10_clock.calls (wrap64 (Int.tdiv t379 10000)) (Int.tmod (wrap64 (Int.tdiv t379 100)) 100) (Int.tmod t379 100) t381 _ A12.out).mono ?_); rintro e w' ⟨rfl, ⟨nd, rfl⟩⟩; refine ⟨_, rfl, ?_⟩))
                go_ret2
                exact ⟨by first | rfl | (simp; done) | (simp [*]; done), by repeat (first | exact Drawn0.refl _ | apply Drawn0.step)⟩
            · rw [if_neg c10] at H
              exact absurd H (by simp)
          · rw [if_neg c8] at H
            exact absurd H (by simp)
        · rw [if_neg c7] at H
          exact absurd H (by simp)
end Go.Proofs.YtmajmolbjiahlaaGreatDoor.PD
namespace Go.Proofs.YtmajmolbjiahlaaGreatDoor.PD
open Go.RowKit Go.Proofs.YtmajmolbjiahlaaGreatDoorW.PrintWords Go.Proofs.YtmajmolbjiahlaaGreatDoorW.PrintLast Go.Proofs.YtmajmolbjiahlaaGreatDoorW.PrintMore
attribute [local go_sem] isSome_setCell max2_int min2_int max_two min_two max_three min_three max_four min_four
set_option linter.unusedVariables false
set_option linter.unusedSimpArgs false
def almanacref16_stamp.f (k : Nat) (a0 : ByteArray) : Option (Int) := (almanacref10_ReadStamp.f k a0).bind fun bt382 => (some bt382.1)
theorem almanacref16_stamp.mono : ∀ a0 k, LeO (almanacref16_stamp.f k a0) (almanacref16_stamp.f (k + 1) a0) := by
  intro a0 k
  unfold almanacref16_stamp.f
  repeat' first
      | (with_reducible exact almanacref10_ReadStamp.mono _ _)
      | (with_reducible exact LeO.refl _)
      | (with_reducible exact LeO.none _)
      | (with_reducible refine LeO.ite ?_ ?_)
      | (with_reducible refine LeO.bind ?_ (fun _ => ?_))
      | exact almanacref10_ReadStamp.mono _ _
      | exact LeO.none _
      | refine LeO.ite ?_ ?_
      | refine LeO.bind ?_ (fun _ => ?_)
set_option maxHeartbeats 8000000 in
set_option maxRecDepth 100000 in
theorem almanacref16_stamp.calls (k : Nat) (a0 : ByteArray) (r : Int) (w : World) (h : almanacref16_stamp.f k a0 = some r) :
    Calls Tryz.prog 56 #[.string a0] w fun e w' => e = .returned (.int .i64 r) ∧ Drawn0 w w' := by
  have H : ((almanacref10_ReadStamp.f k a0).bind fun bt382 => (some bt382.1)) = some r := h
  clear h
  replace H := Option.bind_eq_some_iff.mp H
  obtain ⟨⟨t382, t383⟩, A20, H⟩ := H
  replace H : (some t382) = some r := H
  have A2 := Aside0.mk A20
  clear A20
  obtain rfl := Option.some.inj H
  go_enter Tryz.func56, Tryz.ntmps56
  go_wp2_with (first | ((with_reducible refine gate_callee (f := 83) rfl ?_); refine goesL_ (some 7) rfl rfl Tryz.func83 (by kernel_rfl) rfl #[.string a0] rfl (by (try simp only [List.map_toArray, List.map_cons, List.map_nil]); first | done | rfl | (simp only [List.length_drop, List.length_take]; rfl)) ?_; (with_reducible refine (almanacref10_ReadStamp.calls k a0 t382 t383 _ A2.out).mono ?_); rintro e w' ⟨rfl, ⟨nd, rfl⟩⟩; refine ⟨_, rfl, ?_⟩))
  go_ret
  exact ⟨by first | rfl | (simp; done) | (simp [*]; done), by repeat (first | exact Drawn0.refl _ | apply Drawn0.step)⟩
end Go.Proofs.YtmajmolbjiahlaaGreatDoor.PD
namespace Go.Proofs.YtmajmolbjiahlaaGreatDoor.PD
open Go.RowKit Go.Proofs.YtmajmolbjiahlaaGreatDoorW.PrintWords Go.Proofs.YtmajmolbjiahlaaGreatDoorW.PrintLast Go.Proofs.YtmajmolbjiahlaaGreatDoorW.PrintMore
attribute [local go_sem] isSome_setCell max2_int min2_int max_two min_two max_three min_three max_four min_four
set_option linter.unusedVariables false
set_option linter.unusedSimpArgs false
def almanacref16_yearly.f (k : Nat) (a0 : ByteArray) (a1 : Int) (a2 : Int) (a3 : Int) (a4 : Int) : Option (Int × Int × Int × Bool × Int × Int × Int) := (almanacref16_stamp.f k a0).bind fun t385 => (some (t385, wrap64 (a1 * 3600), wrap64 (a2 * 3600), true, a3, a4, 6))
theorem almanacref16_yearly.mono : ∀ a0 a1 a2 a3 a4 k, LeO (almanacref16_yearly.f k a0 a1 a2 a3 a4) (almanacref16_yearly.f (k + 1) a0 a1 a2 a3 a4) := by
  intro a0 a1 a2 a3 a4 k
  unfold almanacref16_yearly.f
  repeat' first
      | (with_reducible exact almanacref16_stamp.mono _ _)
      | (with_reducible exact LeO.refl _)
      | (with_reducible exact LeO.none _)
      | (with_reducible refine LeO.ite ?_ ?_)
      | (with_reducible refine LeO.bind ?_ (fun _ => ?_))
      | exact almanacref16_stamp.mono _ _
      | exact LeO.none _
      | refine LeO.ite ?_ ?_
      | refine LeO.bind ?_ (fun _ => ?_)
set_option maxHeartbeats 8000000 in
set_option maxRecDepth 100000 in
theorem almanacref16_yearly.calls (k : Nat) (a0 : ByteArray) (a1 : Int) (a2 : Int) (a3 : Int) (a4 : Int) (r1 : Int) (r2 : Int) (r3 : Int) (r4 : Bool) (r5 : Int) (r6 : Int) (r7 : Int) (w : World) (h : almanacref16_yearly.f k a0 a1 a2 a3 a4 = some (r1, r2, r3, r4, r5, r6, r7)) :
    Calls Tryz.prog 55 #[.string a0, .int .i64 a1, .int .i64 a2, .int .i64 a3, .int .i64 a4] w fun e w' => e = .returned (.agg #[.int .i64 r1, .int .i64 r2, .int .i64 r3, .bool r4, .int .i64 r5, .int .i64 r6, .int .i64 r7]) ∧ Below w.heap.size w w' := by
  have hu32 := Tryz.underlying32
  have hu30 := Tryz.underlying30
  have HB := Aside0.mk (Below.refl w.heap.size w)
  have H : ((almanacref16_stamp.f k a0).bind fun t385 => (some (t385, wrap64 (a1 * 3600), wrap64 (a2 * 3600), true, a3, a4, 6))) = some (r1, r2, r3, r4, r5, r6, r7) := h
  clear h
  replace H := Option.bind_eq_some_iff.mp H
  obtain ⟨t385, A60, H⟩ := H
  replace H : (some (t385, wrap64 (a1 * 3600), wrap64 (a2 * 3600), true, a3, a4, 6)) = some (r1, r2, r3, r4, r5, r6, r7) := H
  have A6 := Aside0.mk A60
  clear A60
  simp only [Option.some.injEq, Prod.mk.injEq] at H
  obtain ⟨rfl, rfl, rfl, rfl, rfl, rfl, rfl⟩ := H
  go_enter Tryz.func55, Tryz.ntmps55
  go_wp2_with (first | ((with_reducible refine gate_dst (N := 10) rfl ?_); refine box_event ?hg (N := 10) ?hd (cs := #[.int .i64 0, .int .i64 0, .int .i64 0, .bool false, .int .i64 0, .int .i64 0, .int .i64 0]) (t := 32) ?hr ?_; (case hd => rfl); (case hg => rfl); (case hr => first | (go_simp; done) | (go_simp; rfl)); intro gb384 hg w7 hbox hb; have n0_ := Aside0.mk (below_step (by repeat (first | (with_reducible first | exact HB.out | apply below_alloc | apply pw_below_drewN | apply below_drew1) | exact HB.out)) hb); have n1_ := Aside0.mk (hbox); have n2_ := Aside0.mk ((by rw [hg]; exact (below_size (by repeat (first | (with_reducible first | exact HB.out | apply below_alloc | apply pw_below_drewN | apply below_drew1) | exact HB.out))) : w.heap.size ≤ gb384)); have n3_ := Aside0.mk ((by rw [hg]; exact (below_size (by repeat (first | (with_reducible first | exact HB.out | apply below_alloc | apply pw_below_drewN | apply below_drew1) | exact HB.out))) : w.heap.size ≤ gb384)); clear HB; have HB := n0_; have BK384 := n1_; have GW384 := n2_; have GE384 := n3_; clear n0_ n1_ n2_ n3_; clear hb hbox hg) | ((with_reducible refine gate_callee (f := 56) rfl ?_); refine goesL_ (some 12) rfl rfl Tryz.func56 (by kernel_rfl) rfl #[.string a0] rfl (by (try simp only [List.map_toArray, List.map_cons, List.map_nil]); first | done | rfl | (simp only [List.length_drop, List.length_take]; rfl)) ?_; (with_reducible refine (almanacref16_stamp.calls k a0 t385 _ A6.out).mono ?_); rintro e w' ⟨rfl, ⟨nd, rfl⟩⟩; refine ⟨_, rfl, ?_⟩; (try (rw [drewN_self w7]; generalize hq_ : World.drewN w7 _ = w7; have n0_ : Aside0 (w7.heap[gb384]? = some (.cells #[.int .i64 0, .int .i64 0, .int .i64 0, .bool false, .int .i64 0, .int .i64 0, .int .i64 0] 32 (0, 0))) := ⟨by rw [← hq_]; exact (by (with_reducible repeat (first | refine blk_drewN ?_ _ | refine blk_drew ?_ | refine blk_alloc ?_ _)); exact BK384.out)⟩; have n1_ : Aside0 (Below w.heap.size w w7) := ⟨by rw [← hq_]; exact (by repeat (first | (with_reducible first | exact HB.out | apply below_alloc | apply pw_below_drewN | apply below_drew1 | refine below_set ?_ GE384.out) | exact HB.out))⟩; clear BK384 HB hq_; have BK384 := n0_; have HB := n1_; clear n0_ n1_)); have hcz8_0 : w7.cell? ⟨gb384, 0, none⟩ = some (.int .i64 0) := (blk_cell BK384.out 0).trans rfl; have hcz8_1 : w7.cell? ⟨gb384, 1, none⟩ = some (.int .i64 0) := (blk_cell BK384.out 1).trans rfl; have hcz8_2 : w7.cell? ⟨gb384, 2, none⟩ = some (.int .i64 0) := (blk_cell BK384.out 2).trans rfl; have hcz8_3 : w7.cell? ⟨gb384, 3, none⟩ = some (.bool false) := (blk_cell BK384.out 3).trans rfl; have hcz8_4 : w7.cell? ⟨gb384, 4, none⟩ = some (.int .i64 0) := (blk_cell BK384.out 4).trans rfl; have hcz8_5 : w7.cell? ⟨gb384, 5, none⟩ = some (.int .i64 0) := (blk_cell BK384.out 5).trans rfl; have hcz8_6 : w7.cell? ⟨gb384, 6, none⟩ = some (.int .i64 0) := (blk_cell BK384.out 6).trans rfl; have hfz8_0 := blk_frozen BK384.out 0; have hfz8_1 := blk_frozen BK384.out 1; have hfz8_2 := blk_frozen BK384.out 2; have hfz8_3 := blk_frozen BK384.out 3; have hfz8_4 := blk_frozen BK384.out 4; have hfz8_5 := blk_frozen BK384.out 5; have hfz8_6 := blk_frozen BK384.out 6))
  refine bodyPost_ret (results_cell_row rfl _ _ gb384 32 #[.int .i64 t385, .int .i64 (wrap64 (a1 * 3600)), .int .i64 (wrap64 (a2 * 3600)), .bool true, .int .i64 a3, .int .i64 a4, .int .i64 6] (0, 0) _ rfl (by (with_reducible repeat (first | refine blk_drewN ?_ _ | refine blk_drew ?_ | refine blk_alloc ?_ _)); refine blk_put (cs := #[.int .i64 t385, .int .i64 (wrap64 (a1 * 3600)), .int .i64 (wrap64 (a2 * 3600)), .bool true, .int .i64 a3, .int .i64 a4, .int .i64 0]) ?_ 6 _ rfl; (with_reducible repeat (first | refine blk_drewN ?_ _ | refine blk_drew ?_ | refine blk_alloc ?_ _)); refine blk_put (cs := #[.int .i64 t385, .int .i64 (wrap64 (a1 * 3600)), .int .i64 (wrap64 (a2 * 3600)), .bool true, .int .i64 a3, .int .i64 0, .int .i64 0]) ?_ 5 _ rfl; (with_reducible repeat (first | refine blk_drewN ?_ _ | refine blk_drew ?_ | refine blk_alloc ?_ _)); refine blk_put (cs := #[.int .i64 t385, .int .i64 (wrap64 (a1 * 3600)), .int .i64 (wrap64 (a2 * 3600)), .bool true, .int .i64 0, .int .i64 0, .int .i64 0]) ?_ 4 _ rfl; (with_reducible repeat (first | refine blk_drewN ?_ _ | refine blk_drew ?_ | refine blk_alloc ?_ _)); refine blk_put (cs := #[.int .i64 t385, .int .i64 (wrap64 (a1 * 3600)), .int .i64 (wrap64 (a2 * 3600)), .bool false, .int .i64 0, .int .i64 0, .int .i64 0]) ?_ 3 _ rfl; (with_reducible repeat (first | refine blk_drewN ?_ _ | refine blk_drew ?_ | refine blk_alloc ?_ _)); refine blk_put (cs := #[.int .i64 t385, .int .i64 (wrap64 (a1 * 3600)), .int .i64 0, .bool false, .int .i64 0, .int .i64 0, .int .i64 0]) ?_ 2 _ rfl; (with_reducible repeat (first | refine blk_drewN ?_ _ | refine blk_drew ?_ | refine blk_alloc ?_ _)); refine blk_put (cs := #[.int .i64 t385, .int .i64 0, .int .i64 0, .bool false, .int .i64 0, .int .i64 0, .int .i64 0]) ?_ 1 _ rfl; (with_reducible repeat (first | refine blk_drewN ?_ _ | refine blk_drew ?_ | refine blk_alloc ?_ _)); refine blk_put (cs := #[.int .i64 0, .int .i64 0, .int .i64 0, .bool false, .int .i64 0, .int .i64 0, .int .i64 0]) ?_ 0 _ rfl; (with_reducible repeat (first | refine blk_drewN ?_ _ | refine blk_drew ?_ | refine blk_alloc ?_ _)); exact BK384.out) Tryz.underlying32 rfl (by kernel_rfl)) rfl ?_
  exact ⟨by first | rfl | (simp [errW_none, errW_some] <;> rfl) | (simp [*, errW_none, errW_some] <;> rfl), by repeat (first | (with_reducible first | exact HB.out | apply below_alloc | apply pw_below_drewN | apply below_drew1 | refine below_set ?_ GE384.out) | exact HB.out)⟩
end Go.Proofs.YtmajmolbjiahlaaGreatDoor.PD
namespace Go.Proofs.YtmajmolbjiahlaaGreatDoor.PD
open Go.RowKit Go.Proofs.YtmajmolbjiahlaaGreatDoorW.PrintWords Go.Proofs.YtmajmolbjiahlaaGreatDoorW.PrintLast Go.Proofs.YtmajmolbjiahlaaGreatDoorW.PrintMore
attribute [local go_sem] isSome_setCell max2_int min2_int max_two min_two max_three min_three max_four min_four
set_option linter.unusedVariables false
set_option linter.unusedSimpArgs false
def almanacref16_zones.f (k : Nat)  : Option ((List (S24))) := (almanacref16_yearly.f k (⟨#[50, 48, 48, 55, 48, 51, 49, 49, 84, 48, 50, 48, 48, 48, 48]⟩ : ByteArray) (-5) (-4) 3 2).bind fun bt386 => ((almanacref16_yearly.f k (⟨#[50, 48, 48, 55, 49, 49, 48, 52, 84, 48, 50, 48, 48, 48, 48]⟩ : ByteArray) (-4) (-5) 11 1).bind fun bt393 => ((almanacref16_stamp.f k (⟨#[49, 57, 52, 53, 49, 48, 49, 53, 84, 48, 48, 48, 48, 48, 48]⟩ : ByteArray)).bind fun t403 => ((almanacref16_yearly.f k (⟨#[50, 48, 48, 56, 48, 52, 48, 54, 84, 48, 51, 48, 48, 48, 48]⟩ : ByteArray) 11 10 4 1).bind fun bt407 => ((almanacref16_yearly.f k (⟨#[50, 48, 48, 56, 49, 48, 48, 53, 84, 48, 50, 48, 48, 48, 48]⟩ : ByteArray) 10 11 10 1).bind fun bt414 => ((almanacref16_yearly.f k (⟨#[49, 57, 57, 54, 48, 51, 51, 49, 84, 48, 50, 48, 48, 48, 48]⟩ : ByteArray) 1 2 3 (-1)).bind fun bt424 => ((almanacref16_yearly.f k (⟨#[49, 57, 57, 54, 49, 48, 50, 55, 84, 48, 51, 48, 48, 48, 48]⟩ : ByteArray) 2 1 10 (-1)).bind fun bt431 => (some (([(⟨(⟨#[65, 109, 101, 114, 105, 99, 97, 47, 78, 101, 119, 95, 89, 111, 114, 107]⟩ : ByteArray), (([(⟨bt386.1, bt386.2.1, bt386.2.2.1, bt386.2.2.2.1, bt386.2.2.2.2.1, (⟨bt386.2.2.2.2.2.1, bt386.2.2.2.2.2.2⟩ : S30)⟩ : S32), (⟨bt393.1, bt393.2.1, bt393.2.2.1, bt393.2.2.2.1, bt393.2.2.2.2.1, (⟨bt393.2.2.2.2.2.1, bt393.2.2.2.2.2.2⟩ : S30)⟩ : S32)] : List (S32)))⟩ : S24), (⟨(⟨#[65, 115, 105, 97, 47, 75, 111, 108, 107, 97, 116, 97]⟩ : ByteArray), (([(⟨t403, 19800, 19800, false, 0, (⟨0, 0⟩ : S30)⟩ : S32)] : List (S32)))⟩ : S24), (⟨(⟨#[65, 117, 115, 116, 114, 97, 108, 105, 97, 47, 83, 121, 100, 110, 101, 121]⟩ : ByteArray), (([(⟨bt407.1, bt407.2.1, bt407.2.2.1, bt407.2.2.2.1, bt407.2.2.2.2.1, (⟨bt407.2.2.2.2.2.1, bt407.2.2.2.2.2.2⟩ : S30)⟩ : S32), (⟨bt414.1, bt414.2.1, bt414.2.2.1, bt414.2.2.2.1, bt414.2.2.2.2.1, (⟨bt414.2.2.2.2.2.1, bt414.2.2.2.2.2.2⟩ : S30)⟩ : S32)] : List (S32)))⟩ : S24), (⟨(⟨#[69, 116, 99, 47, 85, 84, 67]⟩ : ByteArray), ([] : List (S32))⟩ : S24), (⟨(⟨#[69, 117, 114, 111, 112, 101, 47, 66, 101, 114, 108, 105, 110]⟩ : ByteArray), (([(⟨bt424.1, bt424.2.1, bt424.2.2.1, bt424.2.2.2.1, bt424.2.2.2.2.1, (⟨bt424.2.2.2.2.2.1, bt424.2.2.2.2.2.2⟩ : S30)⟩ : S32), (⟨bt431.1, bt431.2.1, bt431.2.2.1, bt431.2.2.2.1, bt431.2.2.2.2.1, (⟨bt431.2.2.2.2.2.1, bt431.2.2.2.2.2.2⟩ : S30)⟩ : S32)] : List (S32)))⟩ : S24), (⟨(⟨#[85, 84, 67]⟩ : ByteArray), ([] : List (S32))⟩ : S24)] : List (S24))))))))))
theorem almanacref16_zones.mono : ∀ k, LeO (almanacref16_zones.f k ) (almanacref16_zones.f (k + 1) ) := by
  intro  k
  unfold almanacref16_zones.f
  repeat' first
      | (with_reducible exact almanacref16_stamp.mono _ _)
      | (with_reducible exact almanacref16_yearly.mono _ _ _ _ _ _)
      | (with_reducible exact LeO.refl _)
      | (with_reducible exact LeO.none _)
      | (with_reducible refine LeO.ite ?_ ?_)
      | (with_reducible refine LeO.bind ?_ (fun _ => ?_))
      | exact almanacref16_stamp.mono _ _
      | exact almanacref16_yearly.mono _ _ _ _ _ _
      | exact LeO.none _
      | refine LeO.ite ?_ ?_
      | refine LeO.bind ?_ (fun _ => ?_)
set_option maxHeartbeats 8000000 in
set_option maxRecDepth 100000 in
theorem almanacref16_zones.calls (k : Nat)  (r : List (S24)) (w : World) (h : almanacref16_zones.f k  = some r) :
    Calls Tryz.prog 37 #[] w fun e w' => ∃ v0_ : Value, e = .returned (v0_) ∧ Kd.N k24 24 w' w.heap.size (fun k_ => (w.heap.size ≤ k_)) v0_ r ∧ Below w.heap.size w w' := by
  have hu24 := Tryz.underlying24
  have hu32 := Tryz.underlying32
  have HB := Aside0.mk (Below.refl w.heap.size w)
  have H : ((almanacref16_yearly.f k (⟨#[50, 48, 48, 55, 48, 51, 49, 49, 84, 48, 50, 48, 48, 48, 48]⟩ : ByteArray) (-5) (-4) 3 2).bind fun bt386 => ((almanacref16_yearly.f k (⟨#[50, 48, 48, 55, 49, 49, 48, 52, 84, 48, 50, 48, 48, 48, 48]⟩ : ByteArray) (-4) (-5) 11 1).bind fun bt393 => ((almanacref16_stamp.f k (⟨#[49, 57, 52, 53, 49, 48, 49, 53, 84, 48, 48, 48, 48, 48, 48]⟩ : ByteArray)).bind fun t403 => ((almanacref16_yearly.f k (⟨#[50, 48, 48, 56, 48, 52, 48, 54, 84, 48, 51, 48, 48, 48, 48]⟩ : ByteArray) 11 10 4 1).bind fun bt407 => ((almanacref16_yearly.f k (⟨#[50, 48, 48, 56, 49, 48, 48, 53, 84, 48, 50, 48, 48, 48, 48]⟩ : ByteArray) 10 11 10 1).bind fun bt414 => ((almanacref16_yearly.f k (⟨#[49, 57, 57, 54, 48, 51, 51, 49, 84, 48, 50, 48, 48, 48, 48]⟩ : ByteArray) 1 2 3 (-1)).bind fun bt424 => ((almanacref16_yearly.f k (⟨#[49, 57, 57, 54, 49, 48, 50, 55, 84, 48, 51, 48, 48, 48, 48]⟩ : ByteArray) 2 1 10 (-1)).bind fun bt431 => (some (([(⟨(⟨#[65, 109, 101, 114, 105, 99, 97, 47, 78, 101, 119, 95, 89, 111, 114, 107]⟩ : ByteArray), (([(⟨bt386.1, bt386.2.1, bt386.2.2.1, bt386.2.2.2.1, bt386.2.2.2.2.1, (⟨bt386.2.2.2.2.2.1, bt386.2.2.2.2.2.2⟩ : S30)⟩ : S32), (⟨bt393.1, bt393.2.1, bt393.2.2.1, bt393.2.2.2.1, bt393.2.2.2.2.1, (⟨bt393.2.2.2.2.2.1, bt393.2.2.2.2.2.2⟩ : S30)⟩ : S32)] : List (S32)))⟩ : S24), (⟨(⟨#[65, 115, 105, 97, 47, 75, 111, 108, 107, 97, 116, 97]⟩ : ByteArray), (([(⟨t403, 19800, 19800, false, 0, (⟨0, 0⟩ : S30)⟩ : S32)] : List (S32)))⟩ : S24), (⟨(⟨#[65, 117, 115, 116, 114, 97, 108, 105, 97, 47, 83, 121, 100, 110, 101, 121]⟩ : ByteArray), (([(⟨bt407.1, bt407.2.1, bt407.2.2.1, bt407.2.2.2.1, bt407.2.2.2.2.1, (⟨bt407.2.2.2.2.2.1, bt407.2.2.2.2.2.2⟩ : S30)⟩ : S32), (⟨bt414.1, bt414.2.1, bt414.2.2.1, bt414.2.2.2.1, bt414.2.2.2.2.1, (⟨bt414.2.2.2.2.2.1, bt414.2.2.2.2.2.2⟩ : S30)⟩ : S32)] : List (S32)))⟩ : S24), (⟨(⟨#[69, 116, 99, 47, 85, 84, 67]⟩ : ByteArray), ([] : List (S32))⟩ : S24), (⟨(⟨#[69, 117, 114, 111, 112, 101, 47, 66, 101, 114, 108, 105, 110]⟩ : ByteArray), (([(⟨bt424.1, bt424.2.1, bt424.2.2.1, bt424.2.2.2.1, bt424.2.2.2.2.1, (⟨bt424.2.2.2.2.2.1, bt424.2.2.2.2.2.2⟩ : S30)⟩ : S32), (⟨bt431.1, bt431.2.1, bt431.2.2.1, bt431.2.2.2.1, bt431.2.2.2.2.1, (⟨bt431.2.2.2.2.2.1, bt431.2.2.2.2.2.2⟩ : S30)⟩ : S32)] : List (S32)))⟩ : S24), (⟨(⟨#[85, 84, 67]⟩ : ByteArray), ([] : List (S32))⟩ : S24)] : List (S24))))))))))) = some r := h
  clear h
  replace H := Option.bind_eq_some_iff.mp H
  obtain ⟨⟨t386, t387, t388, t389, t390, t391, t392⟩, A10, H⟩ := H
  replace H : ((almanacref16_yearly.f k (⟨#[50, 48, 48, 55, 49, 49, 48, 52, 84, 48, 50, 48, 48, 48, 48]⟩ : ByteArray) (-4) (-5) 11 1).bind fun bt393 => ((almanacref16_stamp.f k (⟨#[49, 57, 52, 53, 49, 48, 49, 53, 84, 48, 48, 48, 48, 48, 48]⟩ : ByteArray)).bind fun t403 => ((almanacref16_yearly.f k (⟨#[50, 48, 48, 56, 48, 52, 48, 54, 84, 48, 51, 48, 48, 48, 48]⟩ : ByteArray) 11 10 4 1).bind fun bt407 => ((almanacref16_yearly.f k (⟨#[50, 48, 48, 56, 49, 48, 48, 53, 84, 48, 50, 48, 48, 48, 48]⟩ : ByteArray) 10 11 10 1).bind fun bt414 => ((almanacref16_yearly.f k (⟨#[49, 57, 57, 54, 48, 51, 51, 49, 84, 48, 50, 48, 48, 48, 48]⟩ : ByteArray) 1 2 3 (-1)).bind fun bt424 => ((almanacref16_yearly.f k (⟨#[49, 57, 57, 54, 49, 48, 50, 55, 84, 48, 51, 48, 48, 48, 48]⟩ : ByteArray) 2 1 10 (-1)).bind fun bt431 => (some (([(⟨(⟨#[65, 109, 101, 114, 105, 99, 97, 47, 78, 101, 119, 95, 89, 111, 114, 107]⟩ : ByteArray), (([(⟨t386, t387, t388, t389, t390, (⟨t391, t392⟩ : S30)⟩ : S32), (⟨bt393.1, bt393.2.1, bt393.2.2.1, bt393.2.2.2.1, bt393.2.2.2.2.1, (⟨bt393.2.2.2.2.2.1, bt393.2.2.2.2.2.2⟩ : S30)⟩ : S32)] : List (S32)))⟩ : S24), (⟨(⟨#[65, 115, 105, 97, 47, 75, 111, 108, 107, 97, 116, 97]⟩ : ByteArray), (([(⟨t403, 19800, 19800, false, 0, (⟨0, 0⟩ : S30)⟩ : S32)] : List (S32)))⟩ : S24), (⟨(⟨#[65, 117, 115, 116, 114, 97, 108, 105, 97, 47, 83, 121, 100, 110, 101, 121]⟩ : ByteArray), (([(⟨bt407.1, bt407.2.1, bt407.2.2.1, bt407.2.2.2.1, bt407.2.2.2.2.1, (⟨bt407.2.2.2.2.2.1, bt407.2.2.2.2.2.2⟩ : S30)⟩ : S32), (⟨bt414.1, bt414.2.1, bt414.2.2.1, bt414.2.2.2.1, bt414.2.2.2.2.1, (⟨bt414.2.2.2.2.2.1, bt414.2.2.2.2.2.2⟩ : S30)⟩ : S32)] : List (S32)))⟩ : S24), (⟨(⟨#[69, 116, 99, 47, 85, 84, 67]⟩ : ByteArray), ([] : List (S32))⟩ : S24), (⟨(⟨#[69, 117, 114, 111, 112, 101, 47, 66, 101, 114, 108, 105, 110]⟩ : ByteArray), (([(⟨bt424.1, bt424.2.1, bt424.2.2.1, bt424.2.2.2.1, bt424.2.2.2.2.1, (⟨bt424.2.2.2.2.2.1, bt424.2.2.2.2.2.2⟩ : S30)⟩ : S32), (⟨bt431.1, bt431.2.1, bt431.2.2.1, bt431.2.2.2.1, bt431.2.2.2.2.1, (⟨bt431.2.2.2.2.2.1, bt431.2.2.2.2.2.2⟩ : S30)⟩ : S32)] : List (S32)))⟩ : S24), (⟨(⟨#[85, 84, 67]⟩ : ByteArray), ([] : List (S32))⟩ : S24)] : List (S24)))))))))) = some r := H
  have A1 := Aside0.mk A10
  clear A10
  replace H := Option.bind_eq_some_iff.mp H
  obtain ⟨⟨t393, t394, t395, t396, t397, t398, t399⟩, A20, H⟩ := H
  replace H : ((almanacref16_stamp.f k (⟨#[49, 57, 52, 53, 49, 48, 49, 53, 84, 48, 48, 48, 48, 48, 48]⟩ : ByteArray)).bind fun t403 => ((almanacref16_yearly.f k (⟨#[50, 48, 48, 56, 48, 52, 48, 54, 84, 48, 51, 48, 48, 48, 48]⟩ : ByteArray) 11 10 4 1).bind fun bt407 => ((almanacref16_yearly.f k (⟨#[50, 48, 48, 56, 49, 48, 48, 53, 84, 48, 50, 48, 48, 48, 48]⟩ : ByteArray) 10 11 10 1).bind fun bt414 => ((almanacref16_yearly.f k (⟨#[49, 57, 57, 54, 48, 51, 51, 49, 84, 48, 50, 48, 48, 48, 48]⟩ : ByteArray) 1 2 3 (-1)).bind fun bt424 => ((almanacref16_yearly.f k (⟨#[49, 57, 57, 54, 49, 48, 50, 55, 84, 48, 51, 48, 48, 48, 48]⟩ : ByteArray) 2 1 10 (-1)).bind fun bt431 => (some (([(⟨(⟨#[65, 109, 101, 114, 105, 99, 97, 47, 78, 101, 119, 95, 89, 111, 114, 107]⟩ : ByteArray), (([(⟨t386, t387, t388, t389, t390, (⟨t391, t392⟩ : S30)⟩ : S32), (⟨t393, t394, t395, t396, t397, (⟨t398, t399⟩ : S30)⟩ : S32)] : List (S32)))⟩ : S24), (⟨(⟨#[65, 115, 105, 97, 47, 75, 111, 108, 107, 97, 116, 97]⟩ : ByteArray), (([(⟨t403, 19800, 19800, false, 0, (⟨0, 0⟩ : S30)⟩ : S32)] : List (S32)))⟩ : S24), (⟨(⟨#[65, 117, 115, 116, 114, 97, 108, 105, 97, 47, 83, 121, 100, 110, 101, 121]⟩ : ByteArray), (([(⟨bt407.1, bt407.2.1, bt407.2.2.1, bt407.2.2.2.1, bt407.2.2.2.2.1, (⟨bt407.2.2.2.2.2.1, bt407.2.2.2.2.2.2⟩ : S30)⟩ : S32), (⟨bt414.1, bt414.2.1, bt414.2.2.1, bt414.2.2.2.1, bt414.2.2.2.2.1, (⟨bt414.2.2.2.2.2.1, bt414.2.2.2.2.2.2⟩ : S30)⟩ : S32)] : List (S32)))⟩ : S24), (⟨(⟨#[69, 116, 99, 47, 85, 84, 67]⟩ : ByteArray), ([] : List (S32))⟩ : S24), (⟨(⟨#[69, 117, 114, 111, 112, 101, 47, 66, 101, 114, 108, 105, 110]⟩ : ByteArray), (([(⟨bt424.1, bt424.2.1, bt424.2.2.1, bt424.2.2.2.1, bt424.2.2.2.2.1, (⟨bt424.2.2.2.2.2.1, bt424.2.2.2.2.2.2⟩ : S30)⟩ : S32), (⟨bt431.1, bt431.2.1, bt431.2.2.1, bt431.2.2.2.1, bt431.2.2.2.2.1, (⟨bt431.2.2.2.2.2.1, bt431.2.2.2.2.2.2⟩ : S30)⟩ : S32)] : List (S32)))⟩ : S24), (⟨(⟨#[85, 84, 67]⟩ : ByteArray), ([] : List (S32))⟩ : S24)] : List (S24))))))))) = some r := H
  have A2 := Aside0.mk A20
  clear A20
  obtain ⟨y400, hy400⟩ : ∃ y_ : List (S32), y_ = (([(⟨t386, t387, t388, t389, t390, (⟨t391, t392⟩ : S30)⟩ : S32), (⟨t393, t394, t395, t396, t397, (⟨t398, t399⟩ : S30)⟩ : S32)] : List (S32))) := ⟨_, rfl⟩
  replace H : ((almanacref16_stamp.f k (⟨#[49, 57, 52, 53, 49, 48, 49, 53, 84, 48, 48, 48, 48, 48, 48]⟩ : ByteArray)).bind fun t403 => ((almanacref16_yearly.f k (⟨#[50, 48, 48, 56, 48, 52, 48, 54, 84, 48, 51, 48, 48, 48, 48]⟩ : ByteArray) 11 10 4 1).bind fun bt407 => ((almanacref16_yearly.f k (⟨#[50, 48, 48, 56, 49, 48, 48, 53, 84, 48, 50, 48, 48, 48, 48]⟩ : ByteArray) 10 11 10 1).bind fun bt414 => ((almanacref16_yearly.f k (⟨#[49, 57, 57, 54, 48, 51, 51, 49, 84, 48, 50, 48, 48, 48, 48]⟩ : ByteArray) 1 2 3 (-1)).bind fun bt424 => ((almanacref16_yearly.f k (⟨#[49, 57, 57, 54, 49, 48, 50, 55, 84, 48, 51, 48, 48, 48, 48]⟩ : ByteArray) 2 1 10 (-1)).bind fun bt431 => (some (([(⟨(⟨#[65, 109, 101, 114, 105, 99, 97, 47, 78, 101, 119, 95, 89, 111, 114, 107]⟩ : ByteArray), y400⟩ : S24), (⟨(⟨#[65, 115, 105, 97, 47, 75, 111, 108, 107, 97, 116, 97]⟩ : ByteArray), (([(⟨t403, 19800, 19800, false, 0, (⟨0, 0⟩ : S30)⟩ : S32)] : List (S32)))⟩ : S24), (⟨(⟨#[65, 117, 115, 116, 114, 97, 108, 105, 97, 47, 83, 121, 100, 110, 101, 121]⟩ : ByteArray), (([(⟨bt407.1, bt407.2.1, bt407.2.2.1, bt407.2.2.2.1, bt407.2.2.2.2.1, (⟨bt407.2.2.2.2.2.1, bt407.2.2.2.2.2.2⟩ : S30)⟩ : S32), (⟨bt414.1, bt414.2.1, bt414.2.2.1, bt414.2.2.2.1, bt414.2.2.2.2.1, (⟨bt414.2.2.2.2.2.1, bt414.2.2.2.2.2.2⟩ : S30)⟩ : S32)] : List (S32)))⟩ : S24), (⟨(⟨#[69, 116, 99, 47, 85, 84, 67]⟩ : ByteArray), ([] : List (S32))⟩ : S24), (⟨(⟨#[69, 117, 114, 111, 112, 101, 47, 66, 101, 114, 108, 105, 110]⟩ : ByteArray), (([(⟨bt424.1, bt424.2.1, bt424.2.2.1, bt424.2.2.2.1, bt424.2.2.2.2.1, (⟨bt424.2.2.2.2.2.1, bt424.2.2.2.2.2.2⟩ : S30)⟩ : S32), (⟨bt431.1, bt431.2.1, bt431.2.2.1, bt431.2.2.2.1, bt431.2.2.2.2.1, (⟨bt431.2.2.2.2.2.1, bt431.2.2.2.2.2.2⟩ : S30)⟩ : S32)] : List (S32)))⟩ : S24), (⟨(⟨#[85, 84, 67]⟩ : ByteArray), ([] : List (S32))⟩ : S24)] : List (S24))))))))) = some r := by first | (rw [hy400]; with_reducible exact H) | (have H2_ := (Option.bind_some _ _).symm.trans H; rw [hy400]; with_reducible exact H2_) | (have H2_ := (Option.bind_some _ _).symm.trans H; with_reducible exact H2_) | with_reducible exact H | (rw [hy400]; exact H) | exact H
  have Ny400 := Aside0.mk hy400
  clear hy400
  replace H := Option.bind_eq_some_iff.mp H
  obtain ⟨t403, A30, H⟩ := H
  replace H : ((almanacref16_yearly.f k (⟨#[50, 48, 48, 56, 48, 52, 48, 54, 84, 48, 51, 48, 48, 48, 48]⟩ : ByteArray) 11 10 4 1).bind fun bt407 => ((almanacref16_yearly.f k (⟨#[50, 48, 48, 56, 49, 48, 48, 53, 84, 48, 50, 48, 48, 48, 48]⟩ : ByteArray) 10 11 10 1).bind fun bt414 => ((almanacref16_yearly.f k (⟨#[49, 57, 57, 54, 48, 51, 51, 49, 84, 48, 50, 48, 48, 48, 48]⟩ : ByteArray) 1 2 3 (-1)).bind fun bt424 => ((almanacref16_yearly.f k (⟨#[49, 57, 57, 54, 49, 48, 50, 55, 84, 48, 51, 48, 48, 48, 48]⟩ : ByteArray) 2 1 10 (-1)).bind fun bt431 => (some (([(⟨(⟨#[65, 109, 101, 114, 105, 99, 97, 47, 78, 101, 119, 95, 89, 111, 114, 107]⟩ : ByteArray), y400⟩ : S24), (⟨(⟨#[65, 115, 105, 97, 47, 75, 111, 108, 107, 97, 116, 97]⟩ : ByteArray), (([(⟨t403, 19800, 19800, false, 0, (⟨0, 0⟩ : S30)⟩ : S32)] : List (S32)))⟩ : S24), (⟨(⟨#[65, 117, 115, 116, 114, 97, 108, 105, 97, 47, 83, 121, 100, 110, 101, 121]⟩ : ByteArray), (([(⟨bt407.1, bt407.2.1, bt407.2.2.1, bt407.2.2.2.1, bt407.2.2.2.2.1, (⟨bt407.2.2.2.2.2.1, bt407.2.2.2.2.2.2⟩ : S30)⟩ : S32), (⟨bt414.1, bt414.2.1, bt414.2.2.1, bt414.2.2.2.1, bt414.2.2.2.2.1, (⟨bt414.2.2.2.2.2.1, bt414.2.2.2.2.2.2⟩ : S30)⟩ : S32)] : List (S32)))⟩ : S24), (⟨(⟨#[69, 116, 99, 47, 85, 84, 67]⟩ : ByteArray), ([] : List (S32))⟩ : S24), (⟨(⟨#[69, 117, 114, 111, 112, 101, 47, 66, 101, 114, 108, 105, 110]⟩ : ByteArray), (([(⟨bt424.1, bt424.2.1, bt424.2.2.1, bt424.2.2.2.1, bt424.2.2.2.2.1, (⟨bt424.2.2.2.2.2.1, bt424.2.2.2.2.2.2⟩ : S30)⟩ : S32), (⟨bt431.1, bt431.2.1, bt431.2.2.1, bt431.2.2.2.1, bt431.2.2.2.2.1, (⟨bt431.2.2.2.2.2.1, bt431.2.2.2.2.2.2⟩ : S30)⟩ : S32)] : List (S32)))⟩ : S24), (⟨(⟨#[85, 84, 67]⟩ : ByteArray), ([] : List (S32))⟩ : S24)] : List (S24)))))))) = some r := H
  have A3 := Aside0.mk A30
  clear A30
  obtain ⟨y404, hy404⟩ : ∃ y_ : List (S32), y_ = (([(⟨t403, 19800, 19800, false, 0, (⟨0, 0⟩ : S30)⟩ : S32)] : List (S32))) := ⟨_, rfl⟩
  replace H : ((almanacref16_yearly.f k (⟨#[50, 48, 48, 56, 48, 52, 48, 54, 84, 48, 51, 48, 48, 48, 48]⟩ : ByteArray) 11 10 4 1).bind fun bt407 => ((almanacref16_yearly.f k (⟨#[50, 48, 48, 56, 49, 48, 48, 53, 84, 48, 50, 48, 48, 48, 48]⟩ : ByteArray) 10 11 10 1).bind fun bt414 => ((almanacref16_yearly.f k (⟨#[49, 57, 57, 54, 48, 51, 51, 49, 84, 48, 50, 48, 48, 48, 48]⟩ : ByteArray) 1 2 3 (-1)).bind fun bt424 => ((almanacref16_yearly.f k (⟨#[49, 57, 57, 54, 49, 48, 50, 55, 84, 48, 51, 48, 48, 48, 48]⟩ : ByteArray) 2 1 10 (-1)).bind fun bt431 => (some (([(⟨(⟨#[65, 109, 101, 114, 105, 99, 97, 47, 78, 101, 119, 95, 89, 111, 114, 107]⟩ : ByteArray), y400⟩ : S24), (⟨(⟨#[65, 115, 105, 97, 47, 75, 111, 108, 107, 97, 116, 97]⟩ : ByteArray), y404⟩ : S24), (⟨(⟨#[65, 117, 115, 116, 114, 97, 108, 105, 97, 47, 83, 121, 100, 110, 101, 121]⟩ : ByteArray), (([(⟨bt407.1, bt407.2.1, bt407.2.2.1, bt407.2.2.2.1, bt407.2.2.2.2.1, (⟨bt407.2.2.2.2.2.1, bt407.2.2.2.2.2.2⟩ : S30)⟩ : S32), (⟨bt414.1, bt414.2.1, bt414.2.2.1, bt414.2.2.2.1, bt414.2.2.2.2.1, (⟨bt414.2.2.2.2.2.1, bt414.2.2.2.2.2.2⟩ : S30)⟩ : S32)] : List (S32)))⟩ : S24), (⟨(⟨#[69, 116, 99, 47, 85, 84, 67]⟩ : ByteArray), ([] : List (S32))⟩ : S24), (⟨(⟨#[69, 117, 114, 111, 112, 101, 47, 66, 101, 114, 108, 105, 110]⟩ : ByteArray), (([(⟨bt424.1, bt424.2.1, bt424.2.2.1, bt424.2.2.2.1, bt424.2.2.2.2.1, (⟨bt424.2.2.2.2.2.1, bt424.2.2.2.2.2.2⟩ : S30)⟩ : S32), (⟨bt431.1, bt431.2.1, bt431.2.2.1, bt431.2.2.2.1, bt431.2.2.2.2.1, (⟨bt431.2.2.2.2.2.1, bt431.2.2.2.2.2.2⟩ : S30)⟩ : S32)] : List (S32)))⟩ : S24), (⟨(⟨#[85, 84, 67]⟩ : ByteArray), ([] : List (S32))⟩ : S24)] : List (S24)))))))) = some r := by first | (rw [hy404]; with_reducible exact H) | (have H2_ := (Option.bind_some _ _).symm.trans H; rw [hy404]; with_reducible exact H2_) | (have H2_ := (Option.bind_some _ _).symm.trans H; with_reducible exact H2_) | with_reducible exact H | (rw [hy404]; exact H) | exact H
  have Ny404 := Aside0.mk hy404
  clear hy404
  replace H := Option.bind_eq_some_iff.mp H
  obtain ⟨⟨t407, t408, t409, t410, t411, t412, t413⟩, A40, H⟩ := H
  replace H : ((almanacref16_yearly.f k (⟨#[50, 48, 48, 56, 49, 48, 48, 53, 84, 48, 50, 48, 48, 48, 48]⟩ : ByteArray) 10 11 10 1).bind fun bt414 => ((almanacref16_yearly.f k (⟨#[49, 57, 57, 54, 48, 51, 51, 49, 84, 48, 50, 48, 48, 48, 48]⟩ : ByteArray) 1 2 3 (-1)).bind fun bt424 => ((almanacref16_yearly.f k (⟨#[49, 57, 57, 54, 49, 48, 50, 55, 84, 48, 51, 48, 48, 48, 48]⟩ : ByteArray) 2 1 10 (-1)).bind fun bt431 => (some (([(⟨(⟨#[65, 109, 101, 114, 105, 99, 97, 47, 78, 101, 119, 95, 89, 111, 114, 107]⟩ : ByteArray), y400⟩ : S24), (⟨(⟨#[65, 115, 105, 97, 47, 75, 111, 108, 107, 97, 116, 97]⟩ : ByteArray), y404⟩ : S24), (⟨(⟨#[65, 117, 115, 116, 114, 97, 108, 105, 97, 47, 83, 121, 100, 110, 101, 121]⟩ : ByteArray), (([(⟨t407, t408, t409, t410, t411, (⟨t412, t413⟩ : S30)⟩ : S32), (⟨bt414.1, bt414.2.1, bt414.2.2.1, bt414.2.2.2.1, bt414.2.2.2.2.1, (⟨bt414.2.2.2.2.2.1, bt414.2.2.2.2.2.2⟩ : S30)⟩ : S32)] : List (S32)))⟩ : S24), (⟨(⟨#[69, 116, 99, 47, 85, 84, 67]⟩ : ByteArray), ([] : List (S32))⟩ : S24), (⟨(⟨#[69, 117, 114, 111, 112, 101, 47, 66, 101, 114, 108, 105, 110]⟩ : ByteArray), (([(⟨bt424.1, bt424.2.1, bt424.2.2.1, bt424.2.2.2.1, bt424.2.2.2.2.1, (⟨bt424.2.2.2.2.2.1, bt424.2.2.2.2.2.2⟩ : S30)⟩ : S32), (⟨bt431.1, bt431.2.1, bt431.2.2.1, bt431.2.2.2.1, bt431.2.2.2.2.1, (⟨bt431.2.2.2.2.2.1, bt431.2.2.2.2.2.2⟩ : S30)⟩ : S32)] : List (S32)))⟩ : S24), (⟨(⟨#[85, 84, 67]⟩ : ByteArray), ([] : List (S32))⟩ : S24)] : List (S24))))))) = some r := H
  have A4 := Aside0.mk A40
  clear A40
  replace H := Option.bind_eq_some_iff.mp H
  obtain ⟨⟨t414, t415, t416, t417, t418, t419, t420⟩, A50, H⟩ := H
  replace H : ((almanacref16_yearly.f k (⟨#[49, 57, 57, 54, 48, 51, 51, 49, 84, 48, 50, 48, 48, 48, 48]⟩ : ByteArray) 1 2 3 (-1)).bind fun bt424 => ((almanacref16_yearly.f k (⟨#[49, 57, 57, 54, 49, 48, 50, 55, 84, 48, 51, 48, 48, 48, 48]⟩ : ByteArray) 2 1 10 (-1)).bind fun bt431 => (some (([(⟨(⟨#[65, 109, 101, 114, 105, 99, 97, 47, 78, 101, 119, 95, 89, 111, 114, 107]⟩ : ByteArray), y400⟩ : S24), (⟨(⟨#[65, 115, 105, 97, 47, 75, 111, 108, 107, 97, 116, 97]⟩ : ByteArray), y404⟩ : S24), (⟨(⟨#[65, 117, 115, 116, 114, 97, 108, 105, 97, 47, 83, 121, 100, 110, 101, 121]⟩ : ByteArray), (([(⟨t407, t408, t409, t410, t411, (⟨t412, t413⟩ : S30)⟩ : S32), (⟨t414, t415, t416, t417, t418, (⟨t419, t420⟩ : S30)⟩ : S32)] : List (S32)))⟩ : S24), (⟨(⟨#[69, 116, 99, 47, 85, 84, 67]⟩ : ByteArray), ([] : List (S32))⟩ : S24), (⟨(⟨#[69, 117, 114, 111, 112, 101, 47, 66, 101, 114, 108, 105, 110]⟩ : ByteArray), (([(⟨bt424.1, bt424.2.1, bt424.2.2.1, bt424.2.2.2.1, bt424.2.2.2.2.1, (⟨bt424.2.2.2.2.2.1, bt424.2.2.2.2.2.2⟩ : S30)⟩ : S32), (⟨bt431.1, bt431.2.1, bt431.2.2.1, bt431.2.2.2.1, bt431.2.2.2.2.1, (⟨bt431.2.2.2.2.2.1, bt431.2.2.2.2.2.2⟩ : S30)⟩ : S32)] : List (S32)))⟩ : S24), (⟨(⟨#[85, 84, 67]⟩ : ByteArray), ([] : List (S32))⟩ : S24)] : List (S24)))))) = some r := H
  have A5 := Aside0.mk A50
  clear A50
  obtain ⟨y421, hy421⟩ : ∃ y_ : List (S32), y_ = (([(⟨t407, t408, t409, t410, t411, (⟨t412, t413⟩ : S30)⟩ : S32), (⟨t414, t415, t416, t417, t418, (⟨t419, t420⟩ : S30)⟩ : S32)] : List (S32))) := ⟨_, rfl⟩
  replace H : ((almanacref16_yearly.f k (⟨#[49, 57, 57, 54, 48, 51, 51, 49, 84, 48, 50, 48, 48, 48, 48]⟩ : ByteArray) 1 2 3 (-1)).bind fun bt424 => ((almanacref16_yearly.f k (⟨#[49, 57, 57, 54, 49, 48, 50, 55, 84, 48, 51, 48, 48, 48, 48]⟩ : ByteArray) 2 1 10 (-1)).bind fun bt431 => (some (([(⟨(⟨#[65, 109, 101, 114, 105, 99, 97, 47, 78, 101, 119, 95, 89, 111, 114, 107]⟩ : ByteArray), y400⟩ : S24), (⟨(⟨#[65, 115, 105, 97, 47, 75, 111, 108, 107, 97, 116, 97]⟩ : ByteArray), y404⟩ : S24), (⟨(⟨#[65, 117, 115, 116, 114, 97, 108, 105, 97, 47, 83, 121, 100, 110, 101, 121]⟩ : ByteArray), y421⟩ : S24), (⟨(⟨#[69, 116, 99, 47, 85, 84, 67]⟩ : ByteArray), ([] : List (S32))⟩ : S24), (⟨(⟨#[69, 117, 114, 111, 112, 101, 47, 66, 101, 114, 108, 105, 110]⟩ : ByteArray), (([(⟨bt424.1, bt424.2.1, bt424.2.2.1, bt424.2.2.2.1, bt424.2.2.2.2.1, (⟨bt424.2.2.2.2.2.1, bt424.2.2.2.2.2.2⟩ : S30)⟩ : S32), (⟨bt431.1, bt431.2.1, bt431.2.2.1, bt431.2.2.2.1, bt431.2.2.2.2.1, (⟨bt431.2.2.2.2.2.1, bt431.2.2.2.2.2.2⟩ : S30)⟩ : S32)] : List (S32)))⟩ : S24), (⟨(⟨#[85, 84, 67]⟩ : ByteArray), ([] : List (S32))⟩ : S24)] : List (S24)))))) = some r := by first | (rw [hy421]; with_reducible exact H) | (have H2_ := (Option.bind_some _ _).symm.trans H; rw [hy421]; with_reducible exact H2_) | (have H2_ := (Option.bind_some _ _).symm.trans H; with_reducible exact H2_) | with_reducible exact H | (rw [hy421]; exact H) | exact H
  have Ny421 := Aside0.mk hy421
  clear hy421
  replace H := Option.bind_eq_some_iff.mp H
  obtain ⟨⟨t424, t425, t426, t427, t428, t429, t430⟩, A60, H⟩ := H
  replace H : ((almanacref16_yearly.f k (⟨#[49, 57, 57, 54, 49, 48, 50, 55, 84, 48, 51, 48, 48, 48, 48]⟩ : ByteArray) 2 1 10 (-1)).bind fun bt431 => (some (([(⟨(⟨#[65, 109, 101, 114, 105, 99, 97, 47, 78, 101, 119, 95, 89, 111, 114, 107]⟩ : ByteArray), y400⟩ : S24), (⟨(⟨#[65, 115, 105, 97, 47, 75, 111, 108, 107, 97, 116, 97]⟩ : ByteArray), y404⟩ : S24), (⟨(⟨#[65, 117, 115, 116, 114, 97, 108, 105, 97, 47, 83, 121, 100, 110, 101, 121]⟩ : ByteArray), y421⟩ : S24), (⟨(⟨#[69, 116, 99, 47, 85, 84, 67]⟩ : ByteArray), ([] : List (S32))⟩ : S24), (⟨(⟨#[69, 117, 114, 111, 112, 101, 47, 66, 101, 114, 108, 105, 110]⟩ : ByteArray), (([(⟨t424, t425, t426, t427, t428, (⟨t429, t430⟩ : S30)⟩ : S32), (⟨bt431.1, bt431.2.1, bt431.2.2.1, bt431.2.2.2.1, bt431.2.2.2.2.1, (⟨bt431.2.2.2.2.2.1, bt431.2.2.2.2.2.2⟩ : S30)⟩ : S32)] : List (S32)))⟩ : S24), (⟨(⟨#[85, 84, 67]⟩ : ByteArray), ([] : List (S32))⟩ : S24)] : List (S24))))) = some r := H
  have A6 := Aside0.mk A60
  clear A60
  replace H := Option.bind_eq_some_iff.mp H
  obtain ⟨⟨t431, t432, t433, t434, t435, t436, t437⟩, A70, H⟩ := H
  replace H : (some (([(⟨(⟨#[65, 109, 101, 114, 105, 99, 97, 47, 78, 101, 119, 95, 89, 111, 114, 107]⟩ : ByteArray), y400⟩ : S24), (⟨(⟨#[65, 115, 105, 97, 47, 75, 111, 108, 107, 97, 116, 97]⟩ : ByteArray), y404⟩ : S24), (⟨(⟨#[65, 117, 115, 116, 114, 97, 108, 105, 97, 47, 83, 121, 100, 110, 101, 121]⟩ : ByteArray), y421⟩ : S24), (⟨(⟨#[69, 116, 99, 47, 85, 84, 67]⟩ : ByteArray), ([] : List (S32))⟩ : S24), (⟨(⟨#[69, 117, 114, 111, 112, 101, 47, 66, 101, 114, 108, 105, 110]⟩ : ByteArray), (([(⟨t424, t425, t426, t427, t428, (⟨t429, t430⟩ : S30)⟩ : S32), (⟨t431, t432, t433, t434, t435, (⟨t436, t437⟩ : S30)⟩ : S32)] : List (S32)))⟩ : S24), (⟨(⟨#[85, 84, 67]⟩ : ByteArray), ([] : List (S32))⟩ : S24)] : List (S24)))) = some r := H
  have A7 := Aside0.mk A70
  clear A70
  obtain ⟨y438, hy438⟩ : ∃ y_ : List (S32), y_ = (([(⟨t424, t425, t426, t427, t428, (⟨t429, t430⟩ : S30)⟩ : S32), (⟨t431, t432, t433, t434, t435, (⟨t436, t437⟩ : S30)⟩ : S32)] : List (S32))) := ⟨_, rfl⟩
  replace H : (some (([(⟨(⟨#[65, 109, 101, 114, 105, 99, 97, 47, 78, 101, 119, 95, 89, 111, 114, 107]⟩ : ByteArray), y400⟩ : S24), (⟨(⟨#[65, 115, 105, 97, 47, 75, 111, 108, 107, 97, 116, 97]⟩ : ByteArray), y404⟩ : S24), (⟨(⟨#[65, 117, 115, 116, 114, 97, 108, 105, 97, 47, 83, 121, 100, 110, 101, 121]⟩ : ByteArray), y421⟩ : S24), (⟨(⟨#[69, 116, 99, 47, 85, 84, 67]⟩ : ByteArray), ([] : List (S32))⟩ : S24), (⟨(⟨#[69, 117, 114, 111, 112, 101, 47, 66, 101, 114, 108, 105, 110]⟩ : ByteArray), y438⟩ : S24), (⟨(⟨#[85, 84, 67]⟩ : ByteArray), ([] : List (S32))⟩ : S24)] : List (S24)))) = some r := by first | (rw [hy438]; with_reducible exact H) | (have H2_ := (Option.bind_some _ _).symm.trans H; rw [hy438]; with_reducible exact H2_) | (have H2_ := (Option.bind_some _ _).symm.trans H; with_reducible exact H2_) | with_reducible exact H | (rw [hy438]; exact H) | exact H
  have Ny438 := Aside0.mk hy438
  clear hy438
  obtain ⟨y441, hy441⟩ : ∃ y_ : List (S24), y_ = (([(⟨(⟨#[65, 109, 101, 114, 105, 99, 97, 47, 78, 101, 119, 95, 89, 111, 114, 107]⟩ : ByteArray), y400⟩ : S24), (⟨(⟨#[65, 115, 105, 97, 47, 75, 111, 108, 107, 97, 116, 97]⟩ : ByteArray), y404⟩ : S24), (⟨(⟨#[65, 117, 115, 116, 114, 97, 108, 105, 97, 47, 83, 121, 100, 110, 101, 121]⟩ : ByteArray), y421⟩ : S24), (⟨(⟨#[69, 116, 99, 47, 85, 84, 67]⟩ : ByteArray), ([] : List (S32))⟩ : S24), (⟨(⟨#[69, 117, 114, 111, 112, 101, 47, 66, 101, 114, 108, 105, 110]⟩ : ByteArray), y438⟩ : S24), (⟨(⟨#[85, 84, 67]⟩ : ByteArray), ([] : List (S32))⟩ : S24)] : List (S24))) := ⟨_, rfl⟩
  replace H : (some y441) = some r := by first | (rw [hy441]; with_reducible exact H) | (have H2_ := (Option.bind_some _ _).symm.trans H; rw [hy441]; with_reducible exact H2_) | (have H2_ := (Option.bind_some _ _).symm.trans H; with_reducible exact H2_) | with_reducible exact H | (rw [hy441]; exact H) | exact H
  have Ny441 := Aside0.mk hy441
  clear hy441
  obtain rfl := Option.some.inj H
  go_enter Tryz.func37, Tryz.ntmps37
  go_wp2_with (first | ((with_reducible refine gate_callee (f := 55) rfl ?_); refine goesL_ (some 1) rfl rfl Tryz.func55 (by kernel_rfl) rfl #[.string (⟨#[50, 48, 48, 55, 48, 51, 49, 49, 84, 48, 50, 48, 48, 48, 48]⟩ : ByteArray), .int .i64 (-5), .int .i64 (-4), .int .i64 3, .int .i64 2] rfl (by (try simp only [List.map_toArray, List.map_cons, List.map_nil]); first | done | rfl | (simp only [List.length_drop, List.length_take]; rfl)) ?_; (with_reducible refine (almanacref16_yearly.calls k (⟨#[50, 48, 48, 55, 48, 51, 49, 49, 84, 48, 50, 48, 48, 48, 48]⟩ : ByteArray) (-5) (-4) 3 2 t386 t387 t388 t389 t390 t391 t392 _ A1.out).mono ?_); rintro e w8 ⟨rfl, hb⟩; refine ⟨_, rfl, ?_⟩; have n0_ := Aside0.mk (below_step (by repeat (first | (with_reducible first | exact HB.out | apply below_alloc | apply pw_below_drewN | apply below_drew1) | exact HB.out)) hb); clear HB; have HB := n0_; clear n0_; (try clear hb); (try clear hb2); (try clear hk); (try clear hi)) | ((with_reducible refine gate_callee (f := 55) rfl ?_); refine goesL_ (some 2) rfl rfl Tryz.func55 (by kernel_rfl) rfl #[.string (⟨#[50, 48, 48, 55, 49, 49, 48, 52, 84, 48, 50, 48, 48, 48, 48]⟩ : ByteArray), .int .i64 (-4), .int .i64 (-5), .int .i64 11, .int .i64 1] rfl (by (try simp only [List.map_toArray, List.map_cons, List.map_nil]); first | done | rfl | (simp only [List.length_drop, List.length_take]; rfl)) ?_; (with_reducible refine (almanacref16_yearly.calls k (⟨#[50, 48, 48, 55, 49, 49, 48, 52, 84, 48, 50, 48, 48, 48, 48]⟩ : ByteArray) (-4) (-5) 11 1 t393 t394 t395 t396 t397 t398 t399 _ A2.out).mono ?_); rintro e w9 ⟨rfl, hb⟩; refine ⟨_, rfl, ?_⟩; have n0_ := Aside0.mk (below_step (by repeat (first | (with_reducible first | exact HB.out | apply below_alloc | apply pw_below_drewN | apply below_drew1) | exact HB.out)) hb); clear HB; have HB := n0_; clear n0_; (try clear hb); (try clear hb2); (try clear hk); (try clear hi)) | ((with_reducible refine gate_dst (N := 3) rfl ?_); refine Kd.R_lit k32 _ 32 ?hg (N := 3) ?hd (xs := ([(⟨t386, t387, t388, t389, t390, (⟨t391, t392⟩ : S30)⟩ : S32), (⟨t393, t394, t395, t396, t397, (⟨t398, t399⟩ : S30)⟩ : S32)] : List (S32))) (inner := [.int .i64 t386, .int .i64 t387, .int .i64 t388, .bool t389, .int .i64 t390, .int .i64 t391, .int .i64 t392, .int .i64 t393, .int .i64 t394, .int .i64 t395, .bool t396, .int .i64 t397, .int .i64 t398, .int .i64 t399]) (ok := fun _ => True) (okp := fun _ => True) ?hr ?hp (fun _ hk => hk) trivial (Below.refl _ _) (Nat.le_refl _) (by simp) ?_; (case hd => rfl); (case hg => rfl); (case hr => first | (go_simp; done) | (go_simp; rfl)); (case hp => exact (Reps.c7 (show Kd.M k32 _ _ _ (⟨t386, t387, t388, t389, t390, (⟨t391, t392⟩ : S30)⟩ : S32) [.int .i64 t386, .int .i64 t387, .int .i64 t388, .bool t389, .int .i64 t390, .int .i64 t391, .int .i64 t392] from (k32_mkM _ _ _ (⟨t386, t387, t388, t389, t390, (⟨t391, t392⟩ : S30)⟩ : S32) )) (Reps.c7 (show Kd.M k32 _ _ _ (⟨t393, t394, t395, t396, t397, (⟨t398, t399⟩ : S30)⟩ : S32) [.int .i64 t393, .int .i64 t394, .int .i64 t395, .bool t396, .int .i64 t397, .int .i64 t398, .int .i64 t399] from (k32_mkM _ _ _ (⟨t393, t394, t395, t396, t397, (⟨t398, t399⟩ : S30)⟩ : S32) )) (Reps.none _ _)))); intro v401 w10 ho11 hb hg_ hnew_; clear hg_ hnew_; (first | rw [← Ny400.out] at ho11 | (simp only [Int.reduceToNat] at ho11; rw [← Ny400.out] at ho11)); have n0_ := Aside0.mk (Kd.R_lower (Kd.R_newM (M := fun k_ => (w.heap.size ≤ k_)) ho11 (below_size (by repeat (first | (with_reducible first | exact HB.out | apply below_alloc | apply pw_below_drewN | apply below_drew1) | exact HB.out))) (fun k_ h_ => h_)) (below_size (by repeat (first | (with_reducible first | exact HB.out | apply below_alloc | apply pw_below_drewN | apply below_drew1) | exact HB.out)))); have n1_ := Aside0.mk (below_step (by repeat (first | (with_reducible first | exact HB.out | apply below_alloc | apply pw_below_drewN | apply below_drew1) | exact HB.out)) hb); clear HB; have HO402 := n0_; have HB := n1_; clear n0_ n1_; clear hb ho11; obtain ⟨Ao12, co12, eo12⟩ := Kd.R_slice HO402.out; subst eo12) | ((with_reducible refine gate_callee (f := 56) rfl ?_); refine goesL_ (some 5) rfl rfl Tryz.func56 (by kernel_rfl) rfl #[.string (⟨#[49, 57, 52, 53, 49, 48, 49, 53, 84, 48, 48, 48, 48, 48, 48]⟩ : ByteArray)] rfl (by (try simp only [List.map_toArray, List.map_cons, List.map_nil]); first | done | rfl | (simp only [List.length_drop, List.length_take]; rfl)) ?_; (with_reducible refine (almanacref16_stamp.calls k (⟨#[49, 57, 52, 53, 49, 48, 49, 53, 84, 48, 48, 48, 48, 48, 48]⟩ : ByteArray) t403 _ A3.out).mono ?_); rintro e w' ⟨rfl, ⟨nd, rfl⟩⟩; refine ⟨_, rfl, ?_⟩) | ((with_reducible refine gate_dst (N := 7) rfl ?_); refine Kd.R_lit k32 _ 32 ?hg (N := 7) ?hd (xs := ([(⟨t403, 19800, 19800, false, 0, (⟨0, 0⟩ : S30)⟩ : S32)] : List (S32))) (inner := [.int .i64 t403, .int .i64 19800, .int .i64 19800, .bool false, .int .i64 0, .int .i64 0, .int .i64 0]) (ok := fun _ => True) (okp := fun _ => True) ?hr ?hp (fun _ hk => hk) trivial (Below.refl _ _) (Nat.le_refl _) (by simp) ?_; (case hd => rfl); (case hg => rfl); (case hr => first | (go_simp; done) | (go_simp; rfl)); (case hp => exact (Reps.c7 (show Kd.M k32 _ _ _ (⟨t403, 19800, 19800, false, 0, (⟨0, 0⟩ : S30)⟩ : S32) [.int .i64 t403, .int .i64 19800, .int .i64 19800, .bool false, .int .i64 0, .int .i64 0, .int .i64 0] from (k32_mkM _ _ _ (⟨t403, 19800, 19800, false, 0, (⟨0, 0⟩ : S30)⟩ : S32) )) (Reps.none _ _))); intro v405 w13 ho14 hb hg_ hnew_; clear hg_ hnew_; (first | rw [← Ny404.out] at ho14 | (simp only [Int.reduceToNat] at ho14; rw [← Ny404.out] at ho14)); have n0_ := Aside0.mk (Kd.R_elder' (by (with_reducible repeat (first | apply Kd.R_alloc | apply Kd.R_drewN | apply Kd.R_drew)); exact HO402.out) (Kd.R_base ho14) hb); have n1_ := Aside0.mk (Kd.R_lower (Kd.R_new' (Kd.R_newM (M := fun k_ => (w.heap.size ≤ k_)) ho14 (below_size (by repeat (first | (with_reducible first | exact HB.out | apply below_alloc | apply pw_below_drewN | apply below_drew1) | exact HB.out))) (fun k_ h_ => h_)) (Kd.R_lt (by (with_reducible repeat (first | apply Kd.R_alloc | apply Kd.R_drewN | apply Kd.R_drew)); exact HO402.out))) (below_size (by repeat (first | (with_reducible first | exact HB.out | apply below_alloc | apply pw_below_drewN | apply below_drew1) | exact HB.out)))); have n2_ := Aside0.mk (below_step (by repeat (first | (with_reducible first | exact HB.out | apply below_alloc | apply pw_below_drewN | apply below_drew1) | exact HB.out)) hb); clear HO402; clear HB; have HO402 := n0_; have HO406 := n1_; have HB := n2_; clear n0_ n1_ n2_; clear hb ho14; obtain ⟨Ao15, co15, eo15⟩ := Kd.R_slice HO406.out; subst eo15) | ((with_reducible refine gate_callee (f := 55) rfl ?_); refine goesL_ (some 9) rfl rfl Tryz.func55 (by kernel_rfl) rfl #[.string (⟨#[50, 48, 48, 56, 48, 52, 48, 54, 84, 48, 51, 48, 48, 48, 48]⟩ : ByteArray), .int .i64 11, .int .i64 10, .int .i64 4, .int .i64 1] rfl (by (try simp only [List.map_toArray, List.map_cons, List.map_nil]); first | done | rfl | (simp only [List.length_drop, List.length_take]; rfl)) ?_; (with_reducible refine (almanacref16_yearly.calls k (⟨#[50, 48, 48, 56, 48, 52, 48, 54, 84, 48, 51, 48, 48, 48, 48]⟩ : ByteArray) 11 10 4 1 t407 t408 t409 t410 t411 t412 t413 _ A4.out).mono ?_); rintro e w16 ⟨rfl, hb⟩; refine ⟨_, rfl, ?_⟩; have n0_ := Aside0.mk (Kd.R_below (by (with_reducible repeat (first | apply Kd.R_alloc | apply Kd.R_drewN | apply Kd.R_drew)); exact HO402.out) hb); have n1_ := Aside0.mk (Kd.R_below (by (with_reducible repeat (first | apply Kd.R_alloc | apply Kd.R_drewN | apply Kd.R_drew)); exact HO406.out) hb); have n2_ := Aside0.mk (below_step (by repeat (first | (with_reducible first | exact HB.out | apply below_alloc | apply pw_below_drewN | apply below_drew1) | exact HB.out)) hb); clear HO402; clear HO406; clear HB; have HO402 := n0_; have HO406 := n1_; have HB := n2_; clear n0_ n1_ n2_; (try clear hb); (try clear hb2); (try clear hk); (try clear hi)) | ((with_reducible refine gate_callee (f := 55) rfl ?_); refine goesL_ (some 10) rfl rfl Tryz.func55 (by kernel_rfl) rfl #[.string (⟨#[50, 48, 48, 56, 49, 48, 48, 53, 84, 48, 50, 48, 48, 48, 48]⟩ : ByteArray), .int .i64 10, .int .i64 11, .int .i64 10, .int .i64 1] rfl (by (try simp only [List.map_toArray, List.map_cons, List.map_nil]); first | done | rfl | (simp only [List.length_drop, List.length_take]; rfl)) ?_; (with_reducible refine (almanacref16_yearly.calls k (⟨#[50, 48, 48, 56, 49, 48, 48, 53, 84, 48, 50, 48, 48, 48, 48]⟩ : ByteArray) 10 11 10 1 t414 t415 t416 t417 t418 t419 t420 _ A5.out).mono ?_); rintro e w17 ⟨rfl, hb⟩; refine ⟨_, rfl, ?_⟩; have n0_ := Aside0.mk (Kd.R_below (by (with_reducible repeat (first | apply Kd.R_alloc | apply Kd.R_drewN | apply Kd.R_drew)); exact HO402.out) hb); have n1_ := Aside0.mk (Kd.R_below (by (with_reducible repeat (first | apply Kd.R_alloc | apply Kd.R_drewN | apply Kd.R_drew)); exact HO406.out) hb); have n2_ := Aside0.mk (below_step (by repeat (first | (with_reducible first | exact HB.out | apply below_alloc | apply pw_below_drewN | apply below_drew1) | exact HB.out)) hb); clear HO402; clear HO406; clear HB; have HO402 := n0_; have HO406 := n1_; have HB := n2_; clear n0_ n1_ n2_; (try clear hb); (try clear hb2); (try clear hk); (try clear hi)) | ((with_reducible refine gate_dst (N := 11) rfl ?_); refine Kd.R_lit k32 _ 32 ?hg (N := 11) ?hd (xs := ([(⟨t407, t408, t409, t410, t411, (⟨t412, t413⟩ : S30)⟩ : S32), (⟨t414, t415, t416, t417, t418, (⟨t419, t420⟩ : S30)⟩ : S32)] : List (S32))) (inner := [.int .i64 t407, .int .i64 t408, .int .i64 t409, .bool t410, .int .i64 t411, .int .i64 t412, .int .i64 t413, .int .i64 t414, .int .i64 t415, .int .i64 t416, .bool t417, .int .i64 t418, .int .i64 t419, .int .i64 t420]) (ok := fun _ => True) (okp := fun _ => True) ?hr ?hp (fun _ hk => hk) trivial (Below.refl _ _) (Nat.le_refl _) (by simp) ?_; (case hd => rfl); (case hg => rfl); (case hr => first | (go_simp; done) | (go_simp; rfl)); (case hp => exact (Reps.c7 (show Kd.M k32 _ _ _ (⟨t407, t408, t409, t410, t411, (⟨t412, t413⟩ : S30)⟩ : S32) [.int .i64 t407, .int .i64 t408, .int .i64 t409, .bool t410, .int .i64 t411, .int .i64 t412, .int .i64 t413] from (k32_mkM _ _ _ (⟨t407, t408, t409, t410, t411, (⟨t412, t413⟩ : S30)⟩ : S32) )) (Reps.c7 (show Kd.M k32 _ _ _ (⟨t414, t415, t416, t417, t418, (⟨t419, t420⟩ : S30)⟩ : S32) [.int .i64 t414, .int .i64 t415, .int .i64 t416, .bool t417, .int .i64 t418, .int .i64 t419, .int .i64 t420] from (k32_mkM _ _ _ (⟨t414, t415, t416, t417, t418, (⟨t419, t420⟩ : S30)⟩ : S32) )) (Reps.none _ _)))); intro v422 w18 ho19 hb hg_ hnew_; clear hg_ hnew_; (first | rw [← Ny421.out] at ho19 | (simp only [Int.reduceToNat] at ho19; rw [← Ny421.out] at ho19)); have n0_ := Aside0.mk (Kd.R_elder' (by (with_reducible repeat (first | apply Kd.R_alloc | apply Kd.R_drewN | apply Kd.R_drew)); exact HO402.out) (Kd.R_base ho19) hb); have n1_ := Aside0.mk (Kd.R_elder' (by (with_reducible repeat (first | apply Kd.R_alloc | apply Kd.R_drewN | apply Kd.R_drew)); exact HO406.out) (Kd.R_base ho19) hb); have n2_ := Aside0.mk (Kd.R_lower (Kd.R_new' (Kd.R_new' (Kd.R_newM (M := fun k_ => (w.heap.size ≤ k_)) ho19 (below_size (by repeat (first | (with_reducible first | exact HB.out | apply below_alloc | apply pw_below_drewN | apply below_drew1) | exact HB.out))) (fun k_ h_ => h_)) (Kd.R_lt (by (with_reducible repeat (first | apply Kd.R_alloc | apply Kd.R_drewN | apply Kd.R_drew)); exact HO402.out))) (Kd.R_lt (by (with_reducible repeat (first | apply Kd.R_alloc | apply Kd.R_drewN | apply Kd.R_drew)); exact HO406.out))) (below_size (by repeat (first | (with_reducible first | exact HB.out | apply below_alloc | apply pw_below_drewN | apply below_drew1) | exact HB.out)))); have n3_ := Aside0.mk (below_step (by repeat (first | (with_reducible first | exact HB.out | apply below_alloc | apply pw_below_drewN | apply below_drew1) | exact HB.out)) hb); clear HO402; clear HO406; clear HB; have HO402 := n0_; have HO406 := n1_; have HO423 := n2_; have HB := n3_; clear n0_ n1_ n2_ n3_; clear hb ho19; obtain ⟨Ao20, co20, eo20⟩ := Kd.R_slice HO423.out; subst eo20) | ((with_reducible refine gate_callee (f := 55) rfl ?_); refine goesL_ (some 14) rfl rfl Tryz.func55 (by kernel_rfl) rfl #[.string (⟨#[49, 57, 57, 54, 48, 51, 51, 49, 84, 48, 50, 48, 48, 48, 48]⟩ : ByteArray), .int .i64 1, .int .i64 2, .int .i64 3, .int .i64 (-1)] rfl (by (try simp only [List.map_toArray, List.map_cons, List.map_nil]); first | done | rfl | (simp only [List.length_drop, List.length_take]; rfl)) ?_; (with_reducible refine (almanacref16_yearly.calls k (⟨#[49, 57, 57, 54, 48, 51, 51, 49, 84, 48, 50, 48, 48, 48, 48]⟩ : ByteArray) 1 2 3 (-1) t424 t425 t426 t427 t428 t429 t430 _ A6.out).mono ?_); rintro e w21 ⟨rfl, hb⟩; refine ⟨_, rfl, ?_⟩; have n0_ := Aside0.mk (Kd.R_below (by (with_reducible repeat (first | apply Kd.R_alloc | apply Kd.R_drewN | apply Kd.R_drew)); exact HO402.out) hb); have n1_ := Aside0.mk (Kd.R_below (by (with_reducible repeat (first | apply Kd.R_alloc | apply Kd.R_drewN | apply Kd.R_drew)); exact HO406.out) hb); have n2_ := Aside0.mk (Kd.R_below (by (with_reducible repeat (first | apply Kd.R_alloc | apply Kd.R_drewN | apply Kd.R_drew)); exact HO423.out) hb); have n3_ := Aside0.mk (below_step (by repeat (first | (with_reducible first | exact HB.out | apply below_alloc | apply pw_below_drewN | apply below_drew1) | exact HB.out)) hb); clear HO402; clear HO406; clear HO423; clear HB; have HO402 := n0_; have HO406 := n1_; have HO423 := n2_; have HB := n3_; clear n0_ n1_ n2_ n3_; (try clear hb); (try clear hb2); (try clear hk); (try clear hi)) | ((with_reducible refine gate_callee (f := 55) rfl ?_); refine goesL_ (some 15) rfl rfl Tryz.func55 (by kernel_rfl) rfl #[.string (⟨#[49, 57, 57, 54, 49, 48, 50, 55, 84, 48, 51, 48, 48, 48, 48]⟩ : ByteArray), .int .i64 2, .int .i64 1, .int .i64 10, .int .i64 (-1)] rfl (by (try simp only [List.map_toArray, List.map_cons, List.map_nil]); first | done | rfl | (simp only [List.length_drop, List.length_take]; rfl)) ?_; (with_reducible refine (almanacref16_yearly.calls k (⟨#[49, 57, 57, 54, 49, 48, 50, 55, 84, 48, 51, 48, 48, 48, 48]⟩ : ByteArray) 2 1 10 (-1) t431 t432 t433 t434 t435 t436 t437 _ A7.out).mono ?_); rintro e w22 ⟨rfl, hb⟩; refine ⟨_, rfl, ?_⟩; have n0_ := Aside0.mk (Kd.R_below (by (with_reducible repeat (first | apply Kd.R_alloc | apply Kd.R_drewN | apply Kd.R_drew)); exact HO402.out) hb); have n1_ := Aside0.mk (Kd.R_below (by (with_reducible repeat (first | apply Kd.R_alloc | apply Kd.R_drewN | apply Kd.R_drew)); exact HO406.out) hb); have n2_ := Aside0.mk (Kd.R_below (by (with_reducible repeat (first | apply Kd.R_alloc | apply Kd.R_drewN | apply Kd.R_drew)); exact HO423.out) hb); have n3_ := Aside0.mk (below_step (by repeat (first | (with_reducible first | exact HB.out | apply below_alloc | apply pw_below_drewN | apply below_drew1) | exact HB.out)) hb); clear HO402; clear HO406; clear HO423; clear HB; have HO402 := n0_; have HO406 := n1_; have HO423 := n2_; have HB := n3_; clear n0_ n1_ n2_ n3_; (try clear hb); (try clear hb2); (try clear hk); (try clear hi)) | ((with_reducible refine gate_dst (N := 16) rfl ?_); refine Kd.R_lit k32 _ 32 ?hg (N := 16) ?hd (xs := ([(⟨t424, t425, t426, t427, t428, (⟨t429, t430⟩ : S30)⟩ : S32), (⟨t431, t432, t433, t434, t435, (⟨t436, t437⟩ : S30)⟩ : S32)] : List (S32))) (inner := [.int .i64 t424, .int .i64 t425, .int .i64 t426, .bool t427, .int .i64 t428, .int .i64 t429, .int .i64 t430, .int .i64 t431, .int .i64 t432, .int .i64 t433, .bool t434, .int .i64 t435, .int .i64 t436, .int .i64 t437]) (ok := fun _ => True) (okp := fun _ => True) ?hr ?hp (fun _ hk => hk) trivial (Below.refl _ _) (Nat.le_refl _) (by simp) ?_; (case hd => rfl); (case hg => rfl); (case hr => first | (go_simp; done) | (go_simp; rfl)); (case hp => exact (Reps.c7 (show Kd.M k32 _ _ _ (⟨t424, t425, t426, t427, t428, (⟨t429, t430⟩ : S30)⟩ : S32) [.int .i64 t424, .int .i64 t425, .int .i64 t426, .bool t427, .int .i64 t428, .int .i64 t429, .int .i64 t430] from (k32_mkM _ _ _ (⟨t424, t425, t426, t427, t428, (⟨t429, t430⟩ : S30)⟩ : S32) )) (Reps.c7 (show Kd.M k32 _ _ _ (⟨t431, t432, t433, t434, t435, (⟨t436, t437⟩ : S30)⟩ : S32) [.int .i64 t431, .int .i64 t432, .int .i64 t433, .bool t434, .int .i64 t435, .int .i64 t436, .int .i64 t437] from (k32_mkM _ _ _ (⟨t431, t432, t433, t434, t435, (⟨t436, t437⟩ : S30)⟩ : S32) )) (Reps.none _ _)))); intro v439 w23 ho24 hb hg_ hnew_; clear hg_ hnew_; (first | rw [← Ny438.out] at ho24 | (simp only [Int.reduceToNat] at ho24; rw [← Ny438.out] at ho24)); have n0_ := Aside0.mk (Kd.R_elder' (by (with_reducible repeat (first | apply Kd.R_alloc | apply Kd.R_drewN | apply Kd.R_drew)); exact HO402.out) (Kd.R_base ho24) hb); have n1_ := Aside0.mk (Kd.R_elder' (by (with_reducible repeat (first | apply Kd.R_alloc | apply Kd.R_drewN | apply Kd.R_drew)); exact HO406.out) (Kd.R_base ho24) hb); have n2_ := Aside0.mk (Kd.R_elder' (by (with_reducible repeat (first | apply Kd.R_alloc | apply Kd.R_drewN | apply Kd.R_drew)); exact HO423.out) (Kd.R_base ho24) hb); have n3_ := Aside0.mk (Kd.R_lower (Kd.R_new' (Kd.R_new' (Kd.R_new' (Kd.R_newM (M := fun k_ => (w.heap.size ≤ k_)) ho24 (below_size (by repeat (first | (with_reducible first | exact HB.out | apply below_alloc | apply pw_below_drewN | apply below_drew1) | exact HB.out))) (fun k_ h_ => h_)) (Kd.R_lt (by (with_reducible repeat (first | apply Kd.R_alloc | apply Kd.R_drewN | apply Kd.R_drew)); exact HO402.out))) (Kd.R_lt (by (with_reducible repeat (first | apply Kd.R_alloc | apply Kd.R_drewN | apply Kd.R_drew)); exact HO406.out))) (Kd.R_lt (by (with_reducible repeat (first | apply Kd.R_alloc | apply Kd.R_drewN | apply Kd.R_drew)); exact HO423.out))) (below_size (by repeat (first | (with_reducible first | exact HB.out | apply below_alloc | apply pw_below_drewN | apply below_drew1) | exact HB.out)))); have n4_ := Aside0.mk (below_step (by repeat (first | (with_reducible first | exact HB.out | apply below_alloc | apply pw_below_drewN | apply below_drew1) | exact HB.out)) hb); clear HO402; clear HO406; clear HO423; clear HB; have HO402 := n0_; have HO406 := n1_; have HO423 := n2_; have HO440 := n3_; have HB := n4_; clear n0_ n1_ n2_ n3_ n4_; clear hb ho24; obtain ⟨Ao25, co25, eo25⟩ := Kd.R_slice HO440.out; subst eo25) | ((with_reducible refine gate_dst (N := 19) rfl ?_); refine Kd.N_lit k24 _ 24 ?hg (N' := 19) ?hd (xs := ([(⟨(⟨#[65, 109, 101, 114, 105, 99, 97, 47, 78, 101, 119, 95, 89, 111, 114, 107]⟩ : ByteArray), y400⟩ : S24), (⟨(⟨#[65, 115, 105, 97, 47, 75, 111, 108, 107, 97, 116, 97]⟩ : ByteArray), y404⟩ : S24), (⟨(⟨#[65, 117, 115, 116, 114, 97, 108, 105, 97, 47, 83, 121, 100, 110, 101, 121]⟩ : ByteArray), y421⟩ : S24), (⟨(⟨#[69, 116, 99, 47, 85, 84, 67]⟩ : ByteArray), ([] : List (S32))⟩ : S24), (⟨(⟨#[69, 117, 114, 111, 112, 101, 47, 66, 101, 114, 108, 105, 110]⟩ : ByteArray), y438⟩ : S24), (⟨(⟨#[85, 84, 67]⟩ : ByteArray), ([] : List (S32))⟩ : S24)] : List (S24))) (inner := [.string (⟨#[65, 109, 101, 114, 105, 99, 97, 47, 78, 101, 119, 95, 89, 111, 114, 107]⟩ : ByteArray), .slice Ao12 y400.length co12, .string (⟨#[65, 115, 105, 97, 47, 75, 111, 108, 107, 97, 116, 97]⟩ : ByteArray), .slice Ao15 y404.length co15, .string (⟨#[65, 117, 115, 116, 114, 97, 108, 105, 97, 47, 83, 121, 100, 110, 101, 121]⟩ : ByteArray), .slice Ao20 y421.length co20, .string (⟨#[69, 116, 99, 47, 85, 84, 67]⟩ : ByteArray), .slice none 0 0, .string (⟨#[69, 117, 114, 111, 112, 101, 47, 66, 101, 114, 108, 105, 110]⟩ : ByteArray), .slice Ao25 y438.length co25, .string (⟨#[85, 84, 67]⟩ : ByteArray), .slice none 0 0]) (ok := (fun k_ => (w.heap.size ≤ k_))) (okp := (fun k_ => (w.heap.size ≤ k_))) ?hr ?hp (fun _ hk => hk) ((show ∀ k_, w23.heap.size ≤ k_ → (fun k_ => (w.heap.size ≤ k_)) k_ from fun k_ hk => (Nat.le_trans (below_size (by repeat (first | (with_reducible first | exact HB.out | apply below_alloc | apply pw_below_drewN | apply below_drew1) | exact HB.out))) hk)) _ (Nat.le_refl _)) (Below.refl _ _) (Nat.le_refl _) (by simp) ?_; (case hd => rfl); (case hg => rfl); (case hr => first | (go_simp; done) | (go_simp; rfl)); (case hp => exact (Reps.c2 (show Kd.FK k24 _ _ (⟨(⟨#[65, 109, 101, 114, 105, 99, 97, 47, 78, 101, 119, 95, 89, 111, 114, 107]⟩ : ByteArray), y400⟩ : S24) [.string (⟨#[65, 109, 101, 114, 105, 99, 97, 47, 78, 101, 119, 95, 89, 111, 114, 107]⟩ : ByteArray), .slice Ao12 y400.length co12] from (k24_mkF _ _ (⟨(⟨#[65, 109, 101, 114, 105, 99, 97, 47, 78, 101, 119, 95, 89, 111, 114, 107]⟩ : ByteArray), y400⟩ : S24) (Kd.R_reads' (Kd.R_mono (ok' := (fun k_ => (w.heap.size ≤ k_))) (HO402.out) (fun k_ hk => hk.1.1.1.1))).2.1 (Kd.R_F (Kd.R_mono (ok' := (fun k_ => (w.heap.size ≤ k_))) (HO402.out) (fun k_ hk => hk.1.1.1.1))))) (Reps.c2 (show Kd.FK k24 _ _ (⟨(⟨#[65, 115, 105, 97, 47, 75, 111, 108, 107, 97, 116, 97]⟩ : ByteArray), y404⟩ : S24) [.string (⟨#[65, 115, 105, 97, 47, 75, 111, 108, 107, 97, 116, 97]⟩ : ByteArray), .slice Ao15 y404.length co15] from (k24_mkF _ _ (⟨(⟨#[65, 115, 105, 97, 47, 75, 111, 108, 107, 97, 116, 97]⟩ : ByteArray), y404⟩ : S24) (Kd.R_reads' (Kd.R_mono (ok' := (fun k_ => (w.heap.size ≤ k_))) (HO406.out) (fun k_ hk => hk.1.1.1.1))).2.1 (Kd.R_F (Kd.R_mono (ok' := (fun k_ => (w.heap.size ≤ k_))) (HO406.out) (fun k_ hk => hk.1.1.1.1))))) (Reps.c2 (show Kd.FK k24 _ _ (⟨(⟨#[65, 117, 115, 116, 114, 97, 108, 105, 97, 47, 83, 121, 100, 110, 101, 121]⟩ : ByteArray), y421⟩ : S24) [.string (⟨#[65, 117, 115, 116, 114, 97, 108, 105, 97, 47, 83, 121, 100, 110, 101, 121]⟩ : ByteArray), .slice Ao20 y421.length co20] from (k24_mkF _ _ (⟨(⟨#[65, 117, 115, 116, 114, 97, 108, 105, 97, 47, 83, 121, 100, 110, 101, 121]⟩ : ByteArray), y421⟩ : S24) (Kd.R_reads' (Kd.R_mono (ok' := (fun k_ => (w.heap.size ≤ k_))) (HO423.out) (fun k_ hk => hk.1.1.1.1))).2.1 (Kd.R_F (Kd.R_mono (ok' := (fun k_ => (w.heap.size ≤ k_))) (HO423.out) (fun k_ hk => hk.1.1.1.1))))) (Reps.c2 (show Kd.FK k24 _ _ (⟨(⟨#[69, 116, 99, 47, 85, 84, 67]⟩ : ByteArray), ([] : List (S32))⟩ : S24) [.string (⟨#[69, 116, 99, 47, 85, 84, 67]⟩ : ByteArray), .slice none 0 0] from (k24_mkF _ _ (⟨(⟨#[69, 116, 99, 47, 85, 84, 67]⟩ : ByteArray), ([] : List (S32))⟩ : S24) (Nat.le_refl _) (Kd.F_nil _ _ _))) (Reps.c2 (show Kd.FK k24 _ _ (⟨(⟨#[69, 117, 114, 111, 112, 101, 47, 66, 101, 114, 108, 105, 110]⟩ : ByteArray), y438⟩ : S24) [.string (⟨#[69, 117, 114, 111, 112, 101, 47, 66, 101, 114, 108, 105, 110]⟩ : ByteArray), .slice Ao25 y438.length co25] from (k24_mkF _ _ (⟨(⟨#[69, 117, 114, 111, 112, 101, 47, 66, 101, 114, 108, 105, 110]⟩ : ByteArray), y438⟩ : S24) (Kd.R_reads' (Kd.R_mono (ok' := (fun k_ => (w.heap.size ≤ k_))) (HO440.out) (fun k_ hk => hk.1.1.1.1))).2.1 (Kd.R_F (Kd.R_mono (ok' := (fun k_ => (w.heap.size ≤ k_))) (HO440.out) (fun k_ hk => hk.1.1.1.1))))) (Reps.c2 (show Kd.FK k24 _ _ (⟨(⟨#[85, 84, 67]⟩ : ByteArray), ([] : List (S32))⟩ : S24) [.string (⟨#[85, 84, 67]⟩ : ByteArray), .slice none 0 0] from (k24_mkF _ _ (⟨(⟨#[85, 84, 67]⟩ : ByteArray), ([] : List (S32))⟩ : S24) (Nat.le_refl _) (Kd.F_nil _ _ _))) (Reps.none _ _)))))))); intro v442 w26 ho27 hb hg_ hnew_; clear hg_ hnew_; (first | rw [← Ny441.out] at ho27 | (simp only [Int.reduceToNat] at ho27; rw [← Ny441.out] at ho27)); have n0_ := Aside0.mk (Kd.N_lower ho27 (below_size (by repeat (first | (with_reducible first | exact HB.out | apply below_alloc | apply pw_below_drewN | apply below_drew1) | exact HB.out)))); have n1_ := Aside0.mk (below_step (by repeat (first | (with_reducible first | exact HB.out | apply below_alloc | apply pw_below_drewN | apply below_drew1) | exact HB.out)) hb); clear HB; clear HO402; clear HO406; clear HO423; clear HO440; have HO443 := n0_; have HB := n1_; clear n0_ n1_; clear hb ho27))
  go_ret
  exact ⟨_, by first | rfl | (simp [errW_none, errW_some] <;> rfl) | (simp [*, errW_none, errW_some] <;> rfl), by (with_reducible repeat (first | apply Kd.N_alloc | apply Kd.N_drewN | apply Kd.N_drew)); exact HO443.out, by repeat (first | (with_reducible first | exact HB.out | apply below_alloc | apply pw_below_drewN | apply below_drew1) | exact HB.out)⟩
end Go.Proofs.YtmajmolbjiahlaaGreatDoor.PD
namespace Go.Proofs.YtmajmolbjiahlaaGreatDoor.PD
open Go.RowKit Go.Proofs.YtmajmolbjiahlaaGreatDoorW.PrintWords Go.Proofs.YtmajmolbjiahlaaGreatDoorW.PrintLast Go.Proofs.YtmajmolbjiahlaaGreatDoorW.PrintMore
attribute [local go_sem] isSome_setCell max2_int min2_int max_two min_two max_three min_three max_four min_four
set_option linter.unusedVariables false
set_option linter.unusedSimpArgs false
def almanacref16_Named.l0 : Nat → ByteArray → List (S24) → Int → Option (ByteArray × (List (S32)) × Bool)
  | 0, _, _, _ => none
  | k + 1, x0, x4, x5 => if x5 < (x4.length : Int) then (if 0 ≤ x5 then (if ((rd_T24 x4 x5).f0).toList = x0.toList then (some ((rd_T24 x4 x5).f0, (rd_T24 x4 x5).f1, true)) else (almanacref16_Named.l0 k x0 x4 (wrap64 (x5 + 1)))) else (none)) else (some ((⟨#[]⟩ : ByteArray), ([] : List (S32)), false))
def almanacref16_Named.f (k : Nat) (a0 : ByteArray) : Option (ByteArray × (List (S32)) × Bool) := (almanacref16_zones.f k).bind fun t445 => (almanacref16_Named.l0 k a0 t445 0)
set_option maxHeartbeats 8000000 in
set_option maxRecDepth 100000 in
theorem almanacref16_Named.calls (k : Nat) (a0 : ByteArray) (r1 : ByteArray) (r2 : List (S32)) (r3 : Bool) (w : World) (h : almanacref16_Named.f k a0 = some (r1, r2, r3)) :
    Calls Tryz.prog 15 #[.string a0] w fun e w' => ∃ v1_ : Value, e = .returned (.tuple #[.agg #[.string r1, v1_], .bool r3]) ∧ Kd.V k32 32 w' w.heap.size (fun k_ => (w.heap.size ≤ k_)) v1_ r2 ∧ Below w.heap.size w w' := by
  have hu24 := Tryz.underlying24
  have HB := Aside0.mk (Below.refl w.heap.size w)
  have H : ((almanacref16_zones.f k).bind fun t445 => (almanacref16_Named.l0 k a0 t445 0)) = some (r1, r2, r3) := h
  clear h
  replace H := Option.bind_eq_some_iff.mp H
  obtain ⟨t445, A20, H⟩ := H
  replace H : (almanacref16_Named.l0 k a0 t445 0) = some (r1, r2, r3) := H
  have A2 := Aside0.mk A20
  clear A20
  have H' := Aside0.mk H
  clear H
  go_enter Tryz.func15, Tryz.ntmps15
  go_wp2_with (first | ((with_reducible refine gate_dst (N := 2) rfl ?_); refine box_event ?hg (N := 2) ?hd (cs := #[.string (⟨#[]⟩ : ByteArray), .slice none 0 0]) (t := 24) ?hr ?_; (case hd => rfl); (case hg => rfl); (case hr => first | (go_simp; done) | (go_simp; rfl)); intro gb444 hg w3 hbox hb; have n0_ := Aside0.mk (below_step (by repeat (first | (with_reducible first | exact HB.out | apply below_alloc | apply pw_below_drewN | apply below_drew1) | exact HB.out)) hb); have n1_ := Aside0.mk (hbox); have n2_ := Aside0.mk ((by rw [hg]; exact (below_size (by repeat (first | (with_reducible first | exact HB.out | apply below_alloc | apply pw_below_drewN | apply below_drew1) | exact HB.out))) : w.heap.size ≤ gb444)); have n3_ := Aside0.mk ((by rw [hg]; exact (below_size (by repeat (first | (with_reducible first | exact HB.out | apply below_alloc | apply pw_below_drewN | apply below_drew1) | exact HB.out))) : w.heap.size ≤ gb444)); clear HB; have HB := n0_; have BK444 := n1_; have GW444 := n2_; have GE444 := n3_; clear n0_ n1_ n2_ n3_; clear hb hbox hg) | ((with_reducible refine gate_callee (f := 37) rfl ?_); refine goesL_ (some 6) rfl rfl Tryz.func37 (by kernel_rfl) rfl #[] rfl (by (try simp only [List.map_toArray, List.map_cons, List.map_nil]); first | done | rfl | (simp only [List.length_drop, List.length_take]; rfl)) ?_; (with_reducible refine (almanacref16_zones.calls k  t445 _ A2.out).mono ?_); rintro e w4 ⟨v446, rfl, ho0, hb⟩; refine ⟨_, rfl, ?_⟩; have n0_ := Aside0.mk (Kd.N_lower (Kd.N_mono (ok' := fun k_ => (w.heap.size ≤ k_) ∧ k_ ≠ gb444) ho0 (fun k_ hk_ => ⟨(Nat.le_trans (below_size (by repeat (first | (with_reducible first | exact HB.out | apply below_alloc | apply pw_below_drewN | apply below_drew1 | refine below_set ?_ GE444.out) | exact HB.out))) hk_), (Kd.freshB (g := gb444) (o := .cells #[.string (⟨#[]⟩ : ByteArray), .slice none 0 0] 24 (0, 0)) (by (with_reducible repeat (first | refine blk_drewN ?_ _ | refine blk_drew ?_ | refine blk_alloc ?_ _)); exact BK444.out) k_ hk_)⟩)) (below_size (by repeat (first | (with_reducible first | exact HB.out | apply below_alloc | apply pw_below_drewN | apply below_drew1 | refine below_set ?_ GE444.out) | exact HB.out)))); have n1_ := Aside0.mk (blk_below (g := gb444) (o := .cells #[.string (⟨#[]⟩ : ByteArray), .slice none 0 0] 24 (0, 0)) (by (with_reducible repeat (first | refine blk_drewN ?_ _ | refine blk_drew ?_ | refine blk_alloc ?_ _)); exact BK444.out) hb); have n2_ := Aside0.mk (below_step (by repeat (first | (with_reducible first | exact HB.out | apply below_alloc | apply pw_below_drewN | apply below_drew1 | refine below_set ?_ GE444.out) | exact HB.out)) hb); clear BK444; clear HB; have HO447 := n0_; have BK444 := n1_; have HB := n2_; clear n0_ n1_ n2_; (try clear hb); (try clear hb2); (try clear hk); (try clear hi); (try clear ho0)))
  go_loopg [5] k (fun kq v5 w' => ∃ (x5_1 : Int) (x445000_1 : ByteArray), v5 = .int .i64 x5_1 ∧ Aside0 (almanacref16_Named.l0 kq a0 t445 x5_1 = some (r1, r2, r3)) ∧ Aside0 (kq ≤ k) ∧ Aside0 (Kd.N k24 24 w' w.heap.size (fun k_ => (w.heap.size ≤ k_) ∧ k_ ≠ gb444) v446 t445) ∧ Aside0 (w'.heap[gb444]? = some (.cells #[.string x445000_1, (.slice none 0 0)] 24 (0, 0))) ∧ Aside0 (Below w.heap.size w w'))
  case atStart => exact ⟨(0), ((⟨#[]⟩ : ByteArray)), (by first | rfl | (simp; done) | (simp [*]; done)), H', ⟨Nat.le_refl _⟩, ⟨by (with_reducible repeat (first | apply Kd.N_alloc | apply Kd.N_drewN | apply Kd.N_drew)); exact HO447.out⟩, ⟨by (with_reducible repeat (first | refine blk_drewN ?_ _ | refine blk_drew ?_ | refine blk_alloc ?_ _)); exact BK444.out⟩, ⟨by repeat (first | (with_reducible first | exact HB.out | apply below_alloc | apply pw_below_drewN | apply below_drew1 | refine below_set ?_ GE444.out) | exact HB.out)⟩⟩
  case round =>
    clear H'
    try clear c1
    try clear p2
    try clear c3
    obtain ⟨x5_1, x445000_1, rfl, HA, HK1, HO_4, BK444, HB⟩ := hrel
    cases gk with
    | zero => exact absurd HA.out (by simp [almanacref16_Named.l0])
    | succ k1 =>
      have H := HA.out
      clear HA
      simp only [almanacref16_Named.l0] at H
      by_cases c5 : x5_1 < (t445.length : Int)
      · rw [if_pos c5] at H
        have c5b0 : decide (x5_1 < (t445.length : Int)) = true := decide_eq_true c5
        clear c5
        by_cases c6 : 0 ≤ x5_1
        · rw [if_pos c6] at H
          have c6b0 : decide (0 ≤ x5_1) = true := decide_eq_true c6
          clear c6
          by_cases c7 : ((rd_T24 t445 x5_1).f0).toList = a0.toList
          · rw [if_pos c7] at H
            have c7b0 : (((rd_T24 t445 x5_1).f0).toList == a0.toList) = true := beq_iff_eq.mpr c7
            have c7b1 : (((rd_T24 t445 x5_1).f0).toList != a0.toList) = false := bne_eq_false_iff_eq.mpr c7
            clear c7
            simp only [Option.some.injEq, Prod.mk.injEq] at H
            obtain ⟨rfl, rfl, rfl⟩ := H
            obtain ⟨Ao8, co8, eo8⟩ := Kd.N_slice HO_4.out
            subst eo8
            have p448 : 0 ≤ (x5_1 : Int) := of_decide_eq_true (by first | (with_reducible assumption) | assumption)
            have q448 : x5_1 < (t445.length : Int) := of_decide_eq_true (by first | (with_reducible assumption) | assumption)
            obtain ⟨ad448, A448_1, c448_1, e448, hx448_0, hx448_1, hl448_1, hi448_1⟩ := at_T24 (Kd.N_reads' HO_4.out).2.2 x5_1 p448 q448
            cases e448
            obtain ⟨ce448, hce448, hMe448, hcc448⟩ := Kd.N_get HO_4.out z24 x5_1 p448 (by first | exact q448 | exact of_decide_eq_true (by first | (with_reducible assumption) | assumption) | (have e_ := (Kd.N_reads' HO_4.out).1; omega))
            obtain ⟨ua448_1, uc448_1, rfl, ul448_1, ge448_1⟩ := k24_openF hMe448
            have hv448_1 := hcc448 1 _ rfl
            rw [add_field _ _ 1 (by omega)] at hv448_1
            replace hv448_1 := Option.some.inj (hv448_1.symm.trans hx448_1)
            injection hv448_1 with hva_ hvn_ hvc_
            rw [hva_] at ge448_1
            rw [hvc_] at ul448_1
            have HL448_1 := Aside0.mk (show Kd.V k32 32 _ w.heap.size _ _ ((rd_T24 t445 x5_1).f1) from Kd.V_mk ul448_1 ge448_1)
            clear hva_ hvn_ hvc_ ge448_1 ul448_1
            clear hcc448 hce448
            have HR448_1 := Aside0.mk hi448_1
            have HC448_1 := Aside0.mk hl448_1
            clear hi448_1 hl448_1
            replace p448 := eq_true p448
            replace q448 := eq_true q448
            have p449 : 0 ≤ (x5_1 : Int) := of_decide_eq_true (by first | (with_reducible assumption) | assumption)
            have q449 : x5_1 < (t445.length : Int) := of_decide_eq_true (by first | (with_reducible assumption) | assumption)
            obtain ⟨ad449, A449_1, c449_1, e449, hx449_0, hx449_1, hl449_1, hi449_1⟩ := at_T24 (Kd.N_reads' HO_4.out).2.2 x5_1 p449 q449
            obtain rfl : ad448 = ad449 := (by injection e449)
            obtain ⟨ce449, hce449, hMe449, hcc449⟩ := Kd.N_get HO_4.out z24 x5_1 p449 (by first | exact q449 | exact of_decide_eq_true (by first | (with_reducible assumption) | assumption) | (have e_ := (Kd.N_reads' HO_4.out).1; omega))
            obtain ⟨ua449_1, uc449_1, rfl, ul449_1, ge449_1⟩ := k24_openF hMe449
            have hv449_1 := hcc449 1 _ rfl
            rw [add_field _ _ 1 (by omega)] at hv449_1
            replace hv449_1 := Option.some.inj (hv449_1.symm.trans hx449_1)
            injection hv449_1 with hva_ hvn_ hvc_
            rw [hva_] at ge449_1
            rw [hvc_] at ul449_1
            have HL449_1 := Aside0.mk (show Kd.V k32 32 _ w.heap.size _ _ ((rd_T24 t445 x5_1).f1) from Kd.V_mk ul449_1 ge449_1)
            clear hva_ hvn_ hvc_ ge449_1 ul449_1
            clear hcc449 hce449
            have HR449_1 := Aside0.mk hi449_1
            have HC449_1 := Aside0.mk hl449_1
            clear hi449_1 hl449_1
            replace p449 := eq_true p449
            replace q449 := eq_true q449
            have ea_ := Option.some.inj (hx448_1.symm.trans hx449_1)
            injection ea_ with ea_ en_ ec_
            subst ea_
            subst ec_
            clear en_
            have hcz9_0 : wr.cell? ⟨gb444, 0, none⟩ = some (.string x445000_1) := (blk_cell BK444.out 0).trans rfl
            have hcz9_1 : wr.cell? ⟨gb444, 1, none⟩ = some (.slice none 0 0) := (blk_cell BK444.out 1).trans rfl
            have hfz9_0 := blk_frozen BK444.out 0
            have hfz9_1 := blk_frozen BK444.out 1
            go_wp2
            refine bodyPost_ret (results_ct rfl _ _ gb444 24 #[.string ((rd_T24 t445 x5_1).f0), .slice A448_1 ((rd_T24 t445 x5_1).f1).length c448_1] (0, 0) _ rfl (by (with_reducible repeat (first | refine blk_drewN ?_ _ | refine blk_drew ?_ | refine blk_alloc ?_ _)); refine blk_put (cs := #[.string ((rd_T24 t445 x5_1).f0), .slice none 0 0]) ?_ 1 _ rfl; (with_reducible repeat (first | refine blk_drewN ?_ _ | refine blk_drew ?_ | refine blk_alloc ?_ _)); refine blk_put (cs := #[.string x445000_1, .slice none 0 0]) ?_ 0 _ rfl; (with_reducible repeat (first | refine blk_drewN ?_ _ | refine blk_drew ?_ | refine blk_alloc ?_ _)); exact BK444.out) Tryz.underlying24 rfl (by kernel_rfl)) rfl ?_
            exact ⟨_, by first | rfl | (simp [errW_none, errW_some] <;> rfl) | (simp [*, errW_none, errW_some] <;> rfl), by (with_reducible repeat (first | apply Kd.V_alloc | apply Kd.V_drewN | apply Kd.V_drew)); exact Kd.V_mono (Kd.V_far (p := ⟨gb444, 1, none⟩) (Kd.V_far (p := ⟨gb444, 0, none⟩) (Kd.V_mono HL449_1.out (fun k_ hk => (⟨hk, hk.1.2⟩ : _ ∧ k_ ≠ gb444))) (fun _ hk => hk.2) (.string ((rd_T24 t445 x5_1).f0))) (fun _ hk => hk.2) (.slice A448_1 ((rd_T24 t445 x5_1).f1).length c448_1)) (fun _ hk => hk.1.1.1), by repeat (first | (with_reducible first | exact HB.out | apply below_alloc | apply pw_below_drewN | apply below_drew1 | refine below_set ?_ GE444.out) | exact HB.out)⟩
          · rw [if_neg c7] at H
            have c7b0 : (((rd_T24 t445 x5_1).f0).toList == a0.toList) = false := beq_eq_false_iff_ne.mpr c7
            have c7b1 : (((rd_T24 t445 x5_1).f0).toList != a0.toList) = true := bne_iff_ne.mpr c7
            have H' := Aside0.mk H
            clear H
            obtain ⟨Ao10, co10, eo10⟩ := Kd.N_slice HO_4.out
            subst eo10
            have p448 : 0 ≤ (x5_1 : Int) := of_decide_eq_true (by first | (with_reducible assumption) | assumption)
            have q448 : x5_1 < (t445.length : Int) := of_decide_eq_true (by first | (with_reducible assumption) | assumption)
            obtain ⟨ad448, A448_1, c448_1, e448, hx448_0, hx448_1, hl448_1, hi448_1⟩ := at_T24 (Kd.N_reads' HO_4.out).2.2 x5_1 p448 q448
            cases e448
            obtain ⟨ce448, hce448, hMe448, hcc448⟩ := Kd.N_get HO_4.out z24 x5_1 p448 (by first | exact q448 | exact of_decide_eq_true (by first | (with_reducible assumption) | assumption) | (have e_ := (Kd.N_reads' HO_4.out).1; omega))
            obtain ⟨ua448_1, uc448_1, rfl, ul448_1, ge448_1⟩ := k24_openF hMe448
            have hv448_1 := hcc448 1 _ rfl
            rw [add_field _ _ 1 (by omega)] at hv448_1
            replace hv448_1 := Option.some.inj (hv448_1.symm.trans hx448_1)
            injection hv448_1 with hva_ hvn_ hvc_
            rw [hva_] at ge448_1
            rw [hvc_] at ul448_1
            have HL448_1 := Aside0.mk (show Kd.V k32 32 _ w.heap.size _ _ ((rd_T24 t445 x5_1).f1) from Kd.V_mk ul448_1 ge448_1)
            clear hva_ hvn_ hvc_ ge448_1 ul448_1
            clear hcc448 hce448
            have HR448_1 := Aside0.mk hi448_1
            have HC448_1 := Aside0.mk hl448_1
            clear hi448_1 hl448_1
            replace p448 := eq_true p448
            replace q448 := eq_true q448
            go_wp2
            go_roundg k1
            case measure => have := HK1.out; omega
            case rel => exact ⟨(wrap64 (x5_1 + 1)), (x445000_1), (by first | rfl | (simp; done) | (simp [*]; done)), H', ⟨by have := HK1.out; omega⟩, ⟨by (with_reducible repeat (first | apply Kd.N_alloc | apply Kd.N_drewN | apply Kd.N_drew)); exact HO_4.out⟩, ⟨by (with_reducible repeat (first | refine blk_drewN ?_ _ | refine blk_drew ?_ | refine blk_alloc ?_ _)); exact BK444.out⟩, ⟨by repeat (first | (with_reducible first | exact HB.out | apply below_alloc | apply pw_below_drewN | apply below_drew1 | refine below_set ?_ GE444.out) | exact HB.out)⟩⟩
        · rw [if_neg c6] at H
          exact absurd H (by simp)
      · rw [if_neg c5] at H
        have c5b0 : decide (x5_1 < (t445.length : Int)) = false := decide_eq_false c5
        clear c5
        simp only [Option.some.injEq, Prod.mk.injEq] at H
        obtain ⟨rfl, rfl, rfl⟩ := H
        obtain ⟨Ao11, co11, eo11⟩ := Kd.N_slice HO_4.out
        subst eo11
        have hcz12_0 : wr.cell? ⟨gb444, 0, none⟩ = some (.string x445000_1) := (blk_cell BK444.out 0).trans rfl
        have hcz12_1 : wr.cell? ⟨gb444, 1, none⟩ = some (.slice none 0 0) := (blk_cell BK444.out 1).trans rfl
        have hfz12_0 := blk_frozen BK444.out 0
        have hfz12_1 := blk_frozen BK444.out 1
        go_wp2
        refine bodyPost_ret (results_ct rfl _ _ gb444 24 #[.string (⟨#[]⟩ : ByteArray), .slice none 0 0] (0, 0) _ rfl (by (with_reducible repeat (first | refine blk_drewN ?_ _ | refine blk_drew ?_ | refine blk_alloc ?_ _)); refine blk_put (cs := #[.string (⟨#[]⟩ : ByteArray), .slice none 0 0]) ?_ 1 _ rfl; (with_reducible repeat (first | refine blk_drewN ?_ _ | refine blk_drew ?_ | refine blk_alloc ?_ _)); refine blk_put (cs := #[.string x445000_1, .slice none 0 0]) ?_ 0 _ rfl; (with_reducible repeat (first | refine blk_drewN ?_ _ | refine blk_drew ?_ | refine blk_alloc ?_ _)); exact BK444.out) Tryz.underlying24 rfl (by kernel_rfl)) rfl ?_
        exact ⟨_, by first | rfl | (simp [errW_none, errW_some] <;> rfl) | (simp [*, errW_none, errW_some] <;> rfl), Kd.V_nil _ _ _ _ _, by repeat (first | (with_reducible first | exact HB.out | apply below_alloc | apply pw_below_drewN | apply below_drew1 | refine below_set ?_ GE444.out) | exact HB.out)⟩
end Go.Proofs.YtmajmolbjiahlaaGreatDoor.PD
namespace Go.Proofs.YtmajmolbjiahlaaGreatDoor.PD
open Go.RowKit Go.Proofs.YtmajmolbjiahlaaGreatDoorW.PrintWords Go.Proofs.YtmajmolbjiahlaaGreatDoorW.PrintLast Go.Proofs.YtmajmolbjiahlaaGreatDoorW.PrintMore
attribute [local go_sem] isSome_setCell max2_int min2_int max_two min_two max_three min_three max_four min_four
set_option linter.unusedVariables false
set_option linter.unusedSimpArgs false
theorem eqA32 (d : Nat) (w : World) (x0 y0 : Int) (x1 y1 : Int) (x2 y2 : Int) (x3 y3 : Bool) (x4 y4 : Int) (x5 y5 : Int) (x6 y6 : Int) :
    (Op.equalIn (d + 3) 32 (.agg #[.int .i64 x0, .int .i64 x1, .int .i64 x2, .bool x3, .int .i64 x4, .int .i64 x5, .int .i64 x6]) (.agg #[.int .i64 y0, .int .i64 y1, .int .i64 y2, .bool y3, .int .i64 y4, .int .i64 y5, .int .i64 y6])).run Tryz.prog w = .ok (x0 == y0 && (x1 == y1 && (x2 == y2 && (x3 == y3 && (x4 == y4 && ((x5 == y5 && (x6 == y6)))))))) w := by
  refine eqA_of Tryz.underlying32 (by kernel_rfl) ?_
  refine eqf_cons (by rfl) (by go_simp; rfl) (by go_simp; rfl) (by go_simp) ?_
  refine eqf_cons (by rfl) (by go_simp; rfl) (by go_simp; rfl) (by go_simp) ?_
  refine eqf_cons (by rfl) (by go_simp; rfl) (by go_simp; rfl) (by go_simp) ?_
  refine eqf_cons (by rfl) (by go_simp; rfl) (by go_simp; rfl) (by go_simp) ?_
  refine eqf_cons (by rfl) (by go_simp; rfl) (by go_simp; rfl) (by go_simp) ?_
  exact eqf_last (by rfl) (by go_simp) (by go_simp) (eqA30 (d + 0) w _ _ _ _)
end Go.Proofs.YtmajmolbjiahlaaGreatDoor.PD
namespace Go.Proofs.YtmajmolbjiahlaaGreatDoor.PD
open Go.RowKit Go.Proofs.YtmajmolbjiahlaaGreatDoorW.PrintWords Go.Proofs.YtmajmolbjiahlaaGreatDoorW.PrintLast Go.Proofs.YtmajmolbjiahlaaGreatDoorW.PrintMore
attribute [local go_sem] isSome_setCell max2_int min2_int max_two min_two max_three min_three max_four min_four
set_option linter.unusedVariables false
set_option linter.unusedSimpArgs false
attribute [local go_sem high] eqA32
mutual
def almanacref16_Same.j0 : Nat → Bool → ByteArray → List (S32) → ByteArray → List (S32) → Option (Bool)
  | 0, _, _, _, _, _ => none
  | k + 1, x19, x451000, x451001, x452000, x452001 => if x19 = true then (some false) else (almanacref16_Same.l0 k 0 x451000 x451001 x452000 x452001)
def almanacref16_Same.l0 : Nat → Int → ByteArray → List (S32) → ByteArray → List (S32) → Option (Bool)
  | 0, _, _, _, _, _ => none
  | k + 1, x5, x451000, x451001, x452000, x452001 => if x5 < (x451001.length : Int) then (if 0 ≤ x5 then (if x5 < (x452001.length : Int) then (if (!(((rd_T32 x451001 x5).f0) == ((rd_T32 x452001 x5).f0)) || (!(((rd_T32 x451001 x5).f1) == ((rd_T32 x452001 x5).f1)) || (!(((rd_T32 x451001 x5).f2) == ((rd_T32 x452001 x5).f2)) || (!(((rd_T32 x451001 x5).f3) == ((rd_T32 x452001 x5).f3)) || (!(((rd_T32 x451001 x5).f4) == ((rd_T32 x452001 x5).f4)) || ((!(((rd_T32 x451001 x5).f5.f0) == ((rd_T32 x452001 x5).f5.f0)) || (!(((rd_T32 x451001 x5).f5.f1) == ((rd_T32 x452001 x5).f5.f1)))))))))) = true then (some false) else (almanacref16_Same.l0 k (wrap64 (x5 + 1)) x451000 x451001 x452000 x452001)) else (none)) else (none)) else (some true)
end
def almanacref16_Same.f (k : Nat) (a0_0 : ByteArray) (l0_1 : List (S32)) (a1_0 : ByteArray) (l1_1 : List (S32)) : Option (Bool) := if a0_0.toList = a1_0.toList then (almanacref16_Same.j0 k ((l0_1.length : Int) != (l1_1.length : Int)) a0_0 l0_1 a1_0 l1_1) else (almanacref16_Same.j0 k true a0_0 l0_1 a1_0 l1_1)
set_option maxHeartbeats 8000000 in
set_option maxRecDepth 100000 in
theorem almanacref16_Same.calls (k : Nat) (a0_0 : ByteArray) (A0_1 : Option Addr) (c0_1 : Nat) (l0_1 : List (S32)) (a1_0 : ByteArray) (A1_1 : Option Addr) (c1_1 : Nat) (l1_1 : List (S32)) (r : Bool) (w : World) (hr0_1 : Kd.C k32 w A0_1 l0_1.length l0_1) (hc0_1 : l0_1.length ≤ c0_1) (hr1_1 : Kd.C k32 w A1_1 l1_1.length l1_1) (hc1_1 : l1_1.length ≤ c1_1) (h : almanacref16_Same.f k a0_0 l0_1 a1_0 l1_1 = some r) :
    Calls Tryz.prog 16 #[.agg #[.string a0_0, .slice A0_1 l0_1.length c0_1], .agg #[.string a1_0, .slice A1_1 l1_1.length c1_1]] w fun e w' => e = .returned (.bool r) ∧ Below w.heap.size w w' := by
  have hu24 := Tryz.underlying24
  have hu32 := Tryz.underlying32
  have HR0_1 := Aside0.mk hr0_1
  have HC0_1 := Aside0.mk hc0_1
  clear hr0_1 hc0_1
  have HR1_1 := Aside0.mk hr1_1
  have HC1_1 := Aside0.mk hc1_1
  clear hr1_1 hc1_1
  have HB := Aside0.mk (Below.refl w.heap.size w)
  have H : (if a0_0.toList = a1_0.toList then (almanacref16_Same.j0 k ((l0_1.length : Int) != (l1_1.length : Int)) a0_0 l0_1 a1_0 l1_1) else (almanacref16_Same.j0 k true a0_0 l0_1 a1_0 l1_1)) = some r := h
  clear h
  have HC3 := Aside0.mk H
  clear H
  go_enter Tryz.func16, Tryz.ntmps16
  go_upto_region 1 with (first | ((with_reducible refine gate_dst (N := 2) rfl ?_); (try (refine gate_guard (by rfl) ?_; dsimp only)); refine box_event ?hg (N := 2) ?hd (cs := #[.string a0_0, .slice A0_1 l0_1.length c0_1]) (t := 24) ?hr ?_; (case hd => rfl); (case hg => rfl); (case hr => first | (go_simp; done) | (go_simp; rfl)); intro gb450 hg w4 hbox hb; have n0_ := Aside0.mk (below_step (by repeat (first | (with_reducible first | exact HB.out | apply below_alloc | apply pw_below_drewN | apply below_drew1) | exact HB.out)) hb); have n1_ := Aside0.mk (hbox); have n2_ := Aside0.mk ((by rw [hg]; exact (below_size (by repeat (first | (with_reducible first | exact HB.out | apply below_alloc | apply pw_below_drewN | apply below_drew1) | exact HB.out))) : w.heap.size ≤ gb450)); have n3_ := Aside0.mk ((by rw [hg]; exact (below_size (by repeat (first | (with_reducible first | exact HB.out | apply below_alloc | apply pw_below_drewN | apply below_drew1) | exact HB.out))) : w.heap.size ≤ gb450)); clear HB; have HB := n0_; have BK450 := n1_; have GW450 := n2_; have GE450 := n3_; clear n0_ n1_ n2_ n3_; clear hb hbox hg) | ((with_reducible refine gate_dst (N := 3) rfl ?_); (try (refine gate_guard (by rfl) ?_; dsimp only)); refine box_event ?hg (N := 3) ?hd (cs := #[.string a1_0, .slice A1_1 l1_1.length c1_1]) (t := 24) ?hr ?_; (case hd => rfl); (case hg => rfl); (case hr => first | (go_simp; done) | (go_simp; rfl)); intro gb451 hg w5 hbox hb; have n0_ := Aside0.mk (blk_below (g := gb450) (o := .cells #[.string a0_0, .slice A0_1 l0_1.length c0_1] 24 (0, 0)) (by (with_reducible repeat (first | refine blk_drewN ?_ _ | refine blk_drew ?_ | refine blk_alloc ?_ _)); exact BK450.out) hb); have n1_ := Aside0.mk (below_step (by repeat (first | (with_reducible first | exact HB.out | apply below_alloc | apply pw_below_drewN | apply below_drew1 | refine below_set ?_ GE450.out) | exact HB.out)) hb); have n2_ := Aside0.mk (hbox); have n3_ := Aside0.mk ((by rw [hg]; exact (below_size (by repeat (first | (with_reducible first | exact HB.out | apply below_alloc | apply pw_below_drewN | apply below_drew1 | refine below_set ?_ GE450.out) | exact HB.out))) : w.heap.size ≤ gb451)); have n4_ := Aside0.mk ((by rw [hg]; exact (below_size (by repeat (first | (with_reducible first | exact HB.out | apply below_alloc | apply pw_below_drewN | apply below_drew1 | refine below_set ?_ GE450.out) | exact HB.out))) : w.heap.size ≤ gb451)); have n5_ := Aside0.mk ((by rw [hg]; exact Nat.ne_of_lt (blk_lt (g := gb450) (o := .cells #[.string a0_0, .slice A0_1 l0_1.length c0_1] 24 (0, 0)) (by (with_reducible repeat (first | refine blk_drewN ?_ _ | refine blk_drew ?_ | refine blk_alloc ?_ _)); exact BK450.out)) : gb450 ≠ gb451)); have n6_ := Aside0.mk ((by rw [hg]; exact Nat.ne_of_gt (blk_lt (g := gb450) (o := .cells #[.string a0_0, .slice A0_1 l0_1.length c0_1] 24 (0, 0)) (by (with_reducible repeat (first | refine blk_drewN ?_ _ | refine blk_drew ?_ | refine blk_alloc ?_ _)); exact BK450.out)) : gb451 ≠ gb450)); clear BK450; clear HB; have BK450 := n0_; have HB := n1_; have BK451 := n2_; have GW451 := n3_; have GE451 := n4_; have NB450_451 := n5_; have NB451_450 := n6_; clear n0_ n1_ n2_ n3_ n4_ n5_ n6_; clear hb hbox hg))
  repeat (go_quiet (first | ((with_reducible refine gate_dst (N := 2) rfl ?_); (try (refine gate_guard (by rfl) ?_; dsimp only)); refine box_event ?hg (N := 2) ?hd (cs := #[.string a0_0, .slice A0_1 l0_1.length c0_1]) (t := 24) ?hr ?_; (case hd => rfl); (case hg => rfl); (case hr => first | (go_simp; done) | (go_simp; rfl)); intro gb450 hg w4 hbox hb; have n0_ := Aside0.mk (below_step (by repeat (first | (with_reducible first | exact HB.out | apply below_alloc | apply pw_below_drewN | apply below_drew1) | exact HB.out)) hb); have n1_ := Aside0.mk (hbox); have n2_ := Aside0.mk ((by rw [hg]; exact (below_size (by repeat (first | (with_reducible first | exact HB.out | apply below_alloc | apply pw_below_drewN | apply below_drew1) | exact HB.out))) : w.heap.size ≤ gb450)); have n3_ := Aside0.mk ((by rw [hg]; exact (below_size (by repeat (first | (with_reducible first | exact HB.out | apply below_alloc | apply pw_below_drewN | apply below_drew1) | exact HB.out))) : w.heap.size ≤ gb450)); clear HB; have HB := n0_; have BK450 := n1_; have GW450 := n2_; have GE450 := n3_; clear n0_ n1_ n2_ n3_; clear hb hbox hg) | ((with_reducible refine gate_dst (N := 3) rfl ?_); (try (refine gate_guard (by rfl) ?_; dsimp only)); refine box_event ?hg (N := 3) ?hd (cs := #[.string a1_0, .slice A1_1 l1_1.length c1_1]) (t := 24) ?hr ?_; (case hd => rfl); (case hg => rfl); (case hr => first | (go_simp; done) | (go_simp; rfl)); intro gb451 hg w5 hbox hb; have n0_ := Aside0.mk (blk_below (g := gb450) (o := .cells #[.string a0_0, .slice A0_1 l0_1.length c0_1] 24 (0, 0)) (by (with_reducible repeat (first | refine blk_drewN ?_ _ | refine blk_drew ?_ | refine blk_alloc ?_ _)); exact BK450.out) hb); have n1_ := Aside0.mk (below_step (by repeat (first | (with_reducible first | exact HB.out | apply below_alloc | apply pw_below_drewN | apply below_drew1 | refine below_set ?_ GE450.out) | exact HB.out)) hb); have n2_ := Aside0.mk (hbox); have n3_ := Aside0.mk ((by rw [hg]; exact (below_size (by repeat (first | (with_reducible first | exact HB.out | apply below_alloc | apply pw_below_drewN | apply below_drew1 | refine below_set ?_ GE450.out) | exact HB.out))) : w.heap.size ≤ gb451)); have n4_ := Aside0.mk ((by rw [hg]; exact (below_size (by repeat (first | (with_reducible first | exact HB.out | apply below_alloc | apply pw_below_drewN | apply below_drew1 | refine below_set ?_ GE450.out) | exact HB.out))) : w.heap.size ≤ gb451)); have n5_ := Aside0.mk ((by rw [hg]; exact Nat.ne_of_lt (blk_lt (g := gb450) (o := .cells #[.string a0_0, .slice A0_1 l0_1.length c0_1] 24 (0, 0)) (by (with_reducible repeat (first | refine blk_drewN ?_ _ | refine blk_drew ?_ | refine blk_alloc ?_ _)); exact BK450.out)) : gb450 ≠ gb451)); have n6_ := Aside0.mk ((by rw [hg]; exact Nat.ne_of_gt (blk_lt (g := gb450) (o := .cells #[.string a0_0, .slice A0_1 l0_1.length c0_1] 24 (0, 0)) (by (with_reducible repeat (first | refine blk_drewN ?_ _ | refine blk_drew ?_ | refine blk_alloc ?_ _)); exact BK450.out)) : gb451 ≠ gb450)); clear BK450; clear HB; have BK450 := n0_; have HB := n1_; have BK451 := n2_; have GW451 := n3_; have GE451 := n4_; have NB450_451 := n5_; have NB451_450 := n6_; clear n0_ n1_ n2_ n3_ n4_ n5_ n6_; clear hb hbox hg)); go_upto_region 1 with (first | ((with_reducible refine gate_dst (N := 2) rfl ?_); (try (refine gate_guard (by rfl) ?_; dsimp only)); refine box_event ?hg (N := 2) ?hd (cs := #[.string a0_0, .slice A0_1 l0_1.length c0_1]) (t := 24) ?hr ?_; (case hd => rfl); (case hg => rfl); (case hr => first | (go_simp; done) | (go_simp; rfl)); intro gb450 hg w4 hbox hb; have n0_ := Aside0.mk (below_step (by repeat (first | (with_reducible first | exact HB.out | apply below_alloc | apply pw_below_drewN | apply below_drew1) | exact HB.out)) hb); have n1_ := Aside0.mk (hbox); have n2_ := Aside0.mk ((by rw [hg]; exact (below_size (by repeat (first | (with_reducible first | exact HB.out | apply below_alloc | apply pw_below_drewN | apply below_drew1) | exact HB.out))) : w.heap.size ≤ gb450)); have n3_ := Aside0.mk ((by rw [hg]; exact (below_size (by repeat (first | (with_reducible first | exact HB.out | apply below_alloc | apply pw_below_drewN | apply below_drew1) | exact HB.out))) : w.heap.size ≤ gb450)); clear HB; have HB := n0_; have BK450 := n1_; have GW450 := n2_; have GE450 := n3_; clear n0_ n1_ n2_ n3_; clear hb hbox hg) | ((with_reducible refine gate_dst (N := 3) rfl ?_); (try (refine gate_guard (by rfl) ?_; dsimp only)); refine box_event ?hg (N := 3) ?hd (cs := #[.string a1_0, .slice A1_1 l1_1.length c1_1]) (t := 24) ?hr ?_; (case hd => rfl); (case hg => rfl); (case hr => first | (go_simp; done) | (go_simp; rfl)); intro gb451 hg w5 hbox hb; have n0_ := Aside0.mk (blk_below (g := gb450) (o := .cells #[.string a0_0, .slice A0_1 l0_1.length c0_1] 24 (0, 0)) (by (with_reducible repeat (first | refine blk_drewN ?_ _ | refine blk_drew ?_ | refine blk_alloc ?_ _)); exact BK450.out) hb); have n1_ := Aside0.mk (below_step (by repeat (first | (with_reducible first | exact HB.out | apply below_alloc | apply pw_below_drewN | apply below_drew1 | refine below_set ?_ GE450.out) | exact HB.out)) hb); have n2_ := Aside0.mk (hbox); have n3_ := Aside0.mk ((by rw [hg]; exact (below_size (by repeat (first | (with_reducible first | exact HB.out | apply below_alloc | apply pw_below_drewN | apply below_drew1 | refine below_set ?_ GE450.out) | exact HB.out))) : w.heap.size ≤ gb451)); have n4_ := Aside0.mk ((by rw [hg]; exact (below_size (by repeat (first | (with_reducible first | exact HB.out | apply below_alloc | apply pw_below_drewN | apply below_drew1 | refine below_set ?_ GE450.out) | exact HB.out))) : w.heap.size ≤ gb451)); have n5_ := Aside0.mk ((by rw [hg]; exact Nat.ne_of_lt (blk_lt (g := gb450) (o := .cells #[.string a0_0, .slice A0_1 l0_1.length c0_1] 24 (0, 0)) (by (with_reducible repeat (first | refine blk_drewN ?_ _ | refine blk_drew ?_ | refine blk_alloc ?_ _)); exact BK450.out)) : gb450 ≠ gb451)); have n6_ := Aside0.mk ((by rw [hg]; exact Nat.ne_of_gt (blk_lt (g := gb450) (o := .cells #[.string a0_0, .slice A0_1 l0_1.length c0_1] 24 (0, 0)) (by (with_reducible repeat (first | refine blk_drewN ?_ _ | refine blk_drew ?_ | refine blk_alloc ?_ _)); exact BK450.out)) : gb451 ≠ gb450)); clear BK450; clear HB; have BK450 := n0_; have HB := n1_; have BK451 := n2_; have GW451 := n3_; have GE451 := n4_; have NB450_451 := n5_; have NB451_450 := n6_; clear n0_ n1_ n2_ n3_ n4_ n5_ n6_; clear hb hbox hg)))
  (try simp only [Act.put, List.setIfInBounds_toArray, List.set_cons_zero, List.set_cons_succ])
  go_cut [19] (fun v19 wc => ∃ (kq : Nat) (x19_2 : Bool), v19 = .bool x19_2 ∧ Aside0 (almanacref16_Same.j0 kq x19_2 a0_0 l0_1 a1_0 l1_1 = some r) ∧ Aside0 (kq ≤ k) ∧ Aside0 (wc.heap[gb450]? = some (.cells #[.string a0_0, (.slice A0_1 l0_1.length c0_1)] 24 (0, 0))) ∧ Aside0 (wc.heap[gb451]? = some (.cells #[.string a1_0, (.slice A1_1 l1_1.length c1_1)] 24 (0, 0))) ∧ Aside0 (Below w.heap.size w wc))
  case first =>
    have H := HC3.out
    clear HC3
    by_cases c6 : a0_0.toList = a1_0.toList
    · rw [if_pos c6] at H
      have c6b0 : (a0_0.toList == a1_0.toList) = true := beq_iff_eq.mpr c6
      have c6b1 : (a0_0.toList != a1_0.toList) = false := bne_eq_false_iff_eq.mpr c6
      clear c6
      (first | rw [c6b0] | (simp only [i64_w, i32_w]; rw [c6b0]) | skip)
      have H' := Aside0.mk H
      clear H
      have hnb7 := NB450_451.out
      have hnc7 := NB451_450.out
      have hcz8_0 : w5.cell? ⟨gb450, 0, none⟩ = some (.string a0_0) := (blk_cell BK450.out 0).trans rfl
      have hcz8_1 : w5.cell? ⟨gb450, 1, none⟩ = some (.slice A0_1 l0_1.length c0_1) := (blk_cell BK450.out 1).trans rfl
      have hfz8_0 := blk_frozen BK450.out 0
      have hfz8_1 := blk_frozen BK450.out 1
      have hcz9_0 : w5.cell? ⟨gb451, 0, none⟩ = some (.string a1_0) := (blk_cell BK451.out 0).trans rfl
      have hcz9_1 : w5.cell? ⟨gb451, 1, none⟩ = some (.slice A1_1 l1_1.length c1_1) := (blk_cell BK451.out 1).trans rfl
      have hfz9_0 := blk_frozen BK451.out 0
      have hfz9_1 := blk_frozen BK451.out 1
      go_wp2
      repeat (go_quiet (fail); try go_wp2)
      go_meet
      case rel => exact ⟨_, (((l0_1.length : Int) != (l1_1.length : Int))), (by first | rfl | (simp; done) | (simp [*]; done)), H', ⟨by first | omega | exact Nat.le_refl _⟩, ⟨by (with_reducible repeat (first | refine blk_drewN ?_ _ | refine blk_drew ?_ | refine blk_alloc ?_ _)); exact BK450.out⟩, ⟨by (with_reducible repeat (first | refine blk_drewN ?_ _ | refine blk_drew ?_ | refine blk_alloc ?_ _)); exact BK451.out⟩, ⟨by repeat (first | (with_reducible first | exact HB.out | apply below_alloc | apply pw_below_drewN | apply below_drew1 | refine below_set ?_ GE450.out | refine below_set ?_ GE451.out) | exact HB.out)⟩⟩
    · rw [if_neg c6] at H
      have c6b0 : (a0_0.toList == a1_0.toList) = false := beq_eq_false_iff_ne.mpr c6
      have c6b1 : (a0_0.toList != a1_0.toList) = true := bne_iff_ne.mpr c6
      (first | rw [c6b0] | (simp only [i64_w, i32_w]; rw [c6b0]) | skip)
      have H' := Aside0.mk H
      clear H
      have hnb10 := NB450_451.out
      have hnc10 := NB451_450.out
      have hcz11_0 : w5.cell? ⟨gb450, 0, none⟩ = some (.string a0_0) := (blk_cell BK450.out 0).trans rfl
      have hcz11_1 : w5.cell? ⟨gb450, 1, none⟩ = some (.slice A0_1 l0_1.length c0_1) := (blk_cell BK450.out 1).trans rfl
      have hfz11_0 := blk_frozen BK450.out 0
      have hfz11_1 := blk_frozen BK450.out 1
      have hcz12_0 : w5.cell? ⟨gb451, 0, none⟩ = some (.string a1_0) := (blk_cell BK451.out 0).trans rfl
      have hcz12_1 : w5.cell? ⟨gb451, 1, none⟩ = some (.slice A1_1 l1_1.length c1_1) := (blk_cell BK451.out 1).trans rfl
      have hfz12_0 := blk_frozen BK451.out 0
      have hfz12_1 := blk_frozen BK451.out 1
      go_wp2
      repeat (go_quiet (fail); try go_wp2)
      go_meet
      case rel => exact ⟨_, (true), (by first | rfl | (simp; done) | (simp [*]; done)), H', ⟨by first | omega | exact Nat.le_refl _⟩, ⟨by (with_reducible repeat (first | refine blk_drewN ?_ _ | refine blk_drew ?_ | refine blk_alloc ?_ _)); exact BK450.out⟩, ⟨by (with_reducible repeat (first | refine blk_drewN ?_ _ | refine blk_drew ?_ | refine blk_alloc ?_ _)); exact BK451.out⟩, ⟨by repeat (first | (with_reducible first | exact HB.out | apply below_alloc | apply pw_below_drewN | apply below_drew1 | refine below_set ?_ GE450.out | refine below_set ?_ GE451.out) | exact HB.out)⟩⟩
  case rest =>
    clear HC3
    try clear c1
    try clear p2
    try clear c6
    try clear c6b0
    try clear c6b1
    try clear c7
    try clear c10
    try clear hcz11_0
    try clear hcz11_1
    try clear hcz12_0
    try clear hcz12_1
    try clear hcz8_0
    try clear hcz8_1
    try clear hcz9_0
    try clear hcz9_1
    try clear hfz11_0
    try clear hfz11_1
    try clear hfz12_0
    try clear hfz12_1
    try clear hfz8_0
    try clear hfz8_1
    try clear hfz9_0
    try clear hfz9_1
    obtain ⟨kq, x19_2, rfl, HA, HJ2, BK450, BK451, HB⟩ := hcut
    cases kq with
    | zero => exact absurd HA.out (by simp [almanacref16_Same.j0])
    | succ kj2 =>
      have H := HA.out
      clear HA
      simp only [almanacref16_Same.j0] at H
      by_cases c13 : x19_2 = true
      · subst c13
        have H1 : (some false) = some r := by rw [if_pos rfl] at H; exact H
        clear H
        have H := H1
        clear H1
        obtain rfl := Option.some.inj H
        go_wp2
        repeat (go_quiet (fail); try go_wp2)
        go_ret
        exact ⟨by first | rfl | (simp [errW_none, errW_some] <;> rfl) | (simp [*, errW_none, errW_some] <;> rfl), by repeat (first | (with_reducible first | exact HB.out | apply below_alloc | apply pw_below_drewN | apply below_drew1 | refine below_set ?_ GE450.out | refine below_set ?_ GE451.out) | exact HB.out)⟩
      · replace c13 := Bool.eq_false_iff.mpr c13
        subst c13
        have H1 : (almanacref16_Same.l0 kj2 0 a0_0 l0_1 a1_0 l1_1) = some r := by rw [if_neg (show ¬ (false = true) by decide)] at H; exact H
        clear H
        have H := H1
        clear H1
        have H' := Aside0.mk H
        clear H
        go_wp2
        repeat (go_quiet (fail); try go_wp2)
        go_loopg [5] kj2 (fun kq v5 w' => ∃ (x5_2 : Int), v5 = .int .i64 x5_2 ∧ Aside0 (almanacref16_Same.l0 kq x5_2 a0_0 l0_1 a1_0 l1_1 = some r) ∧ Aside0 (kq ≤ kj2) ∧ Aside0 (w'.heap[gb450]? = some (.cells #[.string a0_0, (.slice A0_1 l0_1.length c0_1)] 24 (0, 0))) ∧ Aside0 (w'.heap[gb451]? = some (.cells #[.string a1_0, (.slice A1_1 l1_1.length c1_1)] 24 (0, 0))) ∧ Aside0 (Below w.heap.size w w'))
        case atStart => exact ⟨(0), (by first | rfl | (simp; done) | (simp [*]; done)), H', ⟨Nat.le_refl _⟩, ⟨by (with_reducible repeat (first | refine blk_drewN ?_ _ | refine blk_drew ?_ | refine blk_alloc ?_ _)); exact BK450.out⟩, ⟨by (with_reducible repeat (first | refine blk_drewN ?_ _ | refine blk_drew ?_ | refine blk_alloc ?_ _)); exact BK451.out⟩, ⟨by repeat (first | (with_reducible first | exact HB.out | apply below_alloc | apply pw_below_drewN | apply below_drew1 | refine below_set ?_ GE450.out | refine below_set ?_ GE451.out) | exact HB.out)⟩⟩
        case round =>
          clear H'
          try clear c1
          try clear p2
          try clear c6
          try clear c6b0
          try clear c6b1
          try clear c7
          try clear c10
          try clear c13
          try clear hcz11_0
          try clear hcz11_1
          try clear hcz12_0
          try clear hcz12_1
          try clear hcz8_0
          try clear hcz8_1
          try clear hcz9_0
          try clear hcz9_1
          try clear hfz11_0
          try clear hfz11_1
          try clear hfz12_0
          try clear hfz12_1
          try clear hfz8_0
          try clear hfz8_1
          try clear hfz9_0
          try clear hfz9_1
          try clear p2
          obtain ⟨x5_2, rfl, HA, HK2, BK450, BK451, HB⟩ := hrel
          cases gk with
          | zero => exact absurd HA.out (by simp [almanacref16_Same.l0])
          | succ k2 =>
            have H := HA.out
            clear HA
            simp only [almanacref16_Same.l0] at H
            by_cases c14 : x5_2 < (l0_1.length : Int)
            · rw [if_pos c14] at H
              have c14b0 : decide (x5_2 < (l0_1.length : Int)) = true := decide_eq_true c14
              clear c14
              by_cases c15 : 0 ≤ x5_2
              · rw [if_pos c15] at H
                have c15b0 : decide (0 ≤ x5_2) = true := decide_eq_true c15
                clear c15
                by_cases c16 : x5_2 < (l1_1.length : Int)
                · rw [if_pos c16] at H
                  have c16b0 : decide (x5_2 < (l1_1.length : Int)) = true := decide_eq_true c16
                  clear c16
                  by_cases c17 : (!(((rd_T32 l0_1 x5_2).f0) == ((rd_T32 l1_1 x5_2).f0)) || (!(((rd_T32 l0_1 x5_2).f1) == ((rd_T32 l1_1 x5_2).f1)) || (!(((rd_T32 l0_1 x5_2).f2) == ((rd_T32 l1_1 x5_2).f2)) || (!(((rd_T32 l0_1 x5_2).f3) == ((rd_T32 l1_1 x5_2).f3)) || (!(((rd_T32 l0_1 x5_2).f4) == ((rd_T32 l1_1 x5_2).f4)) || ((!(((rd_T32 l0_1 x5_2).f5.f0) == ((rd_T32 l1_1 x5_2).f5.f0)) || (!(((rd_T32 l0_1 x5_2).f5.f1) == ((rd_T32 l1_1 x5_2).f5.f1)))))))))) = true
                  · rw [if_pos c17] at H
                    have c17b0 : (!(((rd_T32 l0_1 x5_2).f0) == ((rd_T32 l1_1 x5_2).f0)) || (!(((rd_T32 l0_1 x5_2).f1) == ((rd_T32 l1_1 x5_2).f1)) || (!(((rd_T32 l0_1 x5_2).f2) == ((rd_T32 l1_1 x5_2).f2)) || (!(((rd_T32 l0_1 x5_2).f3) == ((rd_T32 l1_1 x5_2).f3)) || (!(((rd_T32 l0_1 x5_2).f4) == ((rd_T32 l1_1 x5_2).f4)) || ((!(((rd_T32 l0_1 x5_2).f5.f0) == ((rd_T32 l1_1 x5_2).f5.f0)) || (!(((rd_T32 l0_1 x5_2).f5.f1) == ((rd_T32 l1_1 x5_2).f5.f1)))))))))) = true := c17
                    clear c17
                    obtain rfl := Option.some.inj H
                    have hnb18 := NB450_451.out
                    have hnc18 := NB451_450.out
                    have hcz19_0 : wr.cell? ⟨gb450, 0, none⟩ = some (.string a0_0) := (blk_cell BK450.out 0).trans rfl
                    have hcz19_1 : wr.cell? ⟨gb450, 1, none⟩ = some (.slice A0_1 l0_1.length c0_1) := (blk_cell BK450.out 1).trans rfl
                    have hfz19_0 := blk_frozen BK450.out 0
                    have hfz19_1 := blk_frozen BK450.out 1
                    have p452 : 0 ≤ (x5_2 : Int) := of_decide_eq_true (by first | (with_reducible assumption) | assumption)
                    have q452 : x5_2 < (l0_1.length : Int) := of_decide_eq_true (by first | (with_reducible assumption) | assumption)
                    obtain ⟨ad452, e452, hx452_0, hx452_1, hx452_2, hx452_3, hx452_4, hx452_5, hx452_6⟩ := at_T32 HR0_1.out x5_2 p452 q452
                    cases e452
                    replace hx452_0 := (HB.out.cell (World.block_lt_of_cell? w _ hx452_0)).trans hx452_0
                    replace hx452_1 := (HB.out.cell (World.block_lt_of_cell? w _ hx452_1)).trans hx452_1
                    replace hx452_2 := (HB.out.cell (World.block_lt_of_cell? w _ hx452_2)).trans hx452_2
                    replace hx452_3 := (HB.out.cell (World.block_lt_of_cell? w _ hx452_3)).trans hx452_3
                    replace hx452_4 := (HB.out.cell (World.block_lt_of_cell? w _ hx452_4)).trans hx452_4
                    replace hx452_5 := (HB.out.cell (World.block_lt_of_cell? w _ hx452_5)).trans hx452_5
                    replace hx452_6 := (HB.out.cell (World.block_lt_of_cell? w _ hx452_6)).trans hx452_6
                    replace p452 := eq_true p452
                    replace q452 := eq_true q452
                    have hcz20_0 : wr.cell? ⟨gb451, 0, none⟩ = some (.string a1_0) := (blk_cell BK451.out 0).trans rfl
                    have hcz20_1 : wr.cell? ⟨gb451, 1, none⟩ = some (.slice A1_1 l1_1.length c1_1) := (blk_cell BK451.out 1).trans rfl
                    have hfz20_0 := blk_frozen BK451.out 0
                    have hfz20_1 := blk_frozen BK451.out 1
                    have p453 : 0 ≤ (x5_2 : Int) := of_decide_eq_true (by first | (with_reducible assumption) | assumption)
                    have q453 : x5_2 < (l1_1.length : Int) := of_decide_eq_true (by first | (with_reducible assumption) | assumption)
                    obtain ⟨ad453, e453, hx453_0, hx453_1, hx453_2, hx453_3, hx453_4, hx453_5, hx453_6⟩ := at_T32 HR1_1.out x5_2 p453 q453
                    cases e453
                    replace hx453_0 := (HB.out.cell (World.block_lt_of_cell? w _ hx453_0)).trans hx453_0
                    replace hx453_1 := (HB.out.cell (World.block_lt_of_cell? w _ hx453_1)).trans hx453_1
                    replace hx453_2 := (HB.out.cell (World.block_lt_of_cell? w _ hx453_2)).trans hx453_2
                    replace hx453_3 := (HB.out.cell (World.block_lt_of_cell? w _ hx453_3)).trans hx453_3
                    replace hx453_4 := (HB.out.cell (World.block_lt_of_cell? w _ hx453_4)).trans hx453_4
                    replace hx453_5 := (HB.out.cell (World.block_lt_of_cell? w _ hx453_5)).trans hx453_5
                    replace hx453_6 := (HB.out.cell (World.block_lt_of_cell? w _ hx453_6)).trans hx453_6
                    replace p453 := eq_true p453
                    replace q453 := eq_true q453
                    go_wp2
                    repeat (go_quiet (fail); try go_wp2)
                    go_ret
                    exact ⟨by first | rfl | (simp [errW_none, errW_some] <;> rfl) | (simp [*, errW_none, errW_some] <;> rfl), by repeat (first | (with_reducible first | exact HB.out | apply below_alloc | apply pw_below_drewN | apply below_drew1 | refine below_set ?_ GE450.out | refine below_set ?_ GE451.out) | exact HB.out)⟩
                  · rw [if_neg c17] at H
                    have c17b0 : (!(((rd_T32 l0_1 x5_2).f0) == ((rd_T32 l1_1 x5_2).f0)) || (!(((rd_T32 l0_1 x5_2).f1) == ((rd_T32 l1_1 x5_2).f1)) || (!(((rd_T32 l0_1 x5_2).f2) == ((rd_T32 l1_1 x5_2).f2)) || (!(((rd_T32 l0_1 x5_2).f3) == ((rd_T32 l1_1 x5_2).f3)) || (!(((rd_T32 l0_1 x5_2).f4) == ((rd_T32 l1_1 x5_2).f4)) || ((!(((rd_T32 l0_1 x5_2).f5.f0) == ((rd_T32 l1_1 x5_2).f5.f0)) || (!(((rd_T32 l0_1 x5_2).f5.f1) == ((rd_T32 l1_1 x5_2).f5.f1)))))))))) = false := by simpa using c17
                    clear c17
                    have H' := Aside0.mk H
                    clear H
                    have hnb21 := NB450_451.out
                    have hnc21 := NB451_450.out
                    have hcz22_0 : wr.cell? ⟨gb450, 0, none⟩ = some (.string a0_0) := (blk_cell BK450.out 0).trans rfl
                    have hcz22_1 : wr.cell? ⟨gb450, 1, none⟩ = some (.slice A0_1 l0_1.length c0_1) := (blk_cell BK450.out 1).trans rfl
                    have hfz22_0 := blk_frozen BK450.out 0
                    have hfz22_1 := blk_frozen BK450.out 1
                    have p452 : 0 ≤ (x5_2 : Int) := of_decide_eq_true (by first | (with_reducible assumption) | assumption)
                    have q452 : x5_2 < (l0_1.length : Int) := of_decide_eq_true (by first | (with_reducible assumption) | assumption)
                    obtain ⟨ad452, e452, hx452_0, hx452_1, hx452_2, hx452_3, hx452_4, hx452_5, hx452_6⟩ := at_T32 HR0_1.out x5_2 p452 q452
                    cases e452
                    replace hx452_0 := (HB.out.cell (World.block_lt_of_cell? w _ hx452_0)).trans hx452_0
                    replace hx452_1 := (HB.out.cell (World.block_lt_of_cell? w _ hx452_1)).trans hx452_1
                    replace hx452_2 := (HB.out.cell (World.block_lt_of_cell? w _ hx452_2)).trans hx452_2
                    replace hx452_3 := (HB.out.cell (World.block_lt_of_cell? w _ hx452_3)).trans hx452_3
                    replace hx452_4 := (HB.out.cell (World.block_lt_of_cell? w _ hx452_4)).trans hx452_4
                    replace hx452_5 := (HB.out.cell (World.block_lt_of_cell? w _ hx452_5)).trans hx452_5
                    replace hx452_6 := (HB.out.cell (World.block_lt_of_cell? w _ hx452_6)).trans hx452_6
                    replace p452 := eq_true p452
                    replace q452 := eq_true q452
                    have hcz23_0 : wr.cell? ⟨gb451, 0, none⟩ = some (.string a1_0) := (blk_cell BK451.out 0).trans rfl
                    have hcz23_1 : wr.cell? ⟨gb451, 1, none⟩ = some (.slice A1_1 l1_1.length c1_1) := (blk_cell BK451.out 1).trans rfl
                    have hfz23_0 := blk_frozen BK451.out 0
                    have hfz23_1 := blk_frozen BK451.out 1
                    have p453 : 0 ≤ (x5_2 : Int) := of_decide_eq_true (by first | (with_reducible assumption) | assumption)
                    have q453 : x5_2 < (l1_1.length : Int) := of_decide_eq_true (by first | (with_reducible assumption) | assumption)
                    obtain ⟨ad453, e453, hx453_0, hx453_1, hx453_2, hx453_3, hx453_4, hx453_5, hx453_6⟩ := at_T32 HR1_1.out x5_2 p453 q453
                    cases e453
                    replace hx453_0 := (HB.out.cell (World.block_lt_of_cell? w _ hx453_0)).trans hx453_0
                    replace hx453_1 := (HB.out.cell (World.block_lt_of_cell? w _ hx453_1)).trans hx453_1
                    replace hx453_2 := (HB.out.cell (World.block_lt_of_cell? w _ hx453_2)).trans hx453_2
                    replace hx453_3 := (HB.out.cell (World.block_lt_of_cell? w _ hx453_3)).trans hx453_3
                    replace hx453_4 := (HB.out.cell (World.block_lt_of_cell? w _ hx453_4)).trans hx453_4
                    replace hx453_5 := (HB.out.cell (World.block_lt_of_cell? w _ hx453_5)).trans hx453_5
                    replace hx453_6 := (HB.out.cell (World.block_lt_of_cell? w _ hx453_6)).trans hx453_6
                    replace p453 := eq_true p453
                    replace q453 := eq_true q453
                    go_wp2
                    repeat (go_quiet (fail); try go_wp2)
                    go_roundg k2
                    case measure => have := HJ2.out; have := HK2.out; omega
                    case rel => exact ⟨(wrap64 (x5_2 + 1)), (by first | rfl | (simp; done) | (simp [*]; done)), H', ⟨by have := HJ2.out; have := HK2.out; omega⟩, ⟨by (with_reducible repeat (first | refine blk_drewN ?_ _ | refine blk_drew ?_ | refine blk_alloc ?_ _)); exact BK450.out⟩, ⟨by (with_reducible repeat (first | refine blk_drewN ?_ _ | refine blk_drew ?_ | refine blk_alloc ?_ _)); exact BK451.out⟩, ⟨by repeat (first | (with_reducible first | exact HB.out | apply below_alloc | apply pw_below_drewN | apply below_drew1 | refine below_set ?_ GE450.out | refine below_set ?_ GE451.out) | exact HB.out)⟩⟩
                · rw [if_neg c16] at H
                  exact absurd H (by simp)
              · rw [if_neg c15] at H
                exact absurd H (by simp)
            · rw [if_neg c14] at H
              have c14b0 : decide (x5_2 < (l0_1.length : Int)) = false := decide_eq_false c14
              clear c14
              obtain rfl := Option.some.inj H
              have hnb24 := NB450_451.out
              have hnc24 := NB451_450.out
              have hcz25_0 : wr.cell? ⟨gb450, 0, none⟩ = some (.string a0_0) := (blk_cell BK450.out 0).trans rfl
              have hcz25_1 : wr.cell? ⟨gb450, 1, none⟩ = some (.slice A0_1 l0_1.length c0_1) := (blk_cell BK450.out 1).trans rfl
              have hfz25_0 := blk_frozen BK450.out 0
              have hfz25_1 := blk_frozen BK450.out 1
              go_wp2
              repeat (go_quiet (fail); try go_wp2)
              go_ret
              exact ⟨by first | rfl | (simp [errW_none, errW_some] <;> rfl) | (simp [*, errW_none, errW_some] <;> rfl), by repeat (first | (with_reducible first | exact HB.out | apply below_alloc | apply pw_below_drewN | apply below_drew1 | refine below_set ?_ GE450.out | refine below_set ?_ GE451.out) | exact HB.out)⟩
end Go.Proofs.YtmajmolbjiahlaaGreatDoor.PD
namespace Go.Proofs.YtmajmolbjiahlaaGreatDoor.PD
open Go.RowKit Go.Proofs.YtmajmolbjiahlaaGreatDoorW.PrintWords Go.Proofs.YtmajmolbjiahlaaGreatDoorW.PrintLast Go.Proofs.YtmajmolbjiahlaaGreatDoorW.PrintMore
attribute [local go_sem] isSome_setCell max2_int min2_int max_two min_two max_three min_three max_four min_four
set_option linter.unusedVariables false
set_option linter.unusedSimpArgs false
def almanacref08_Texts.l0 : Nat → List ByteArray → List ByteArray → Int → Option (Bool)
  | 0, _, _, _ => none
  | k + 1, x0, x1, x5 => if x5 < (x0.length : Int) then (if 0 ≤ x5 then (if x5 < (x1.length : Int) then (if (rdOf ByteArray.empty x0 x5).toList = (rdOf ByteArray.empty x1 x5).toList then (almanacref08_Texts.l0 k x0 x1 (wrap64 (x5 + 1))) else (some false)) else (none)) else (none)) else (some true)
def almanacref08_Texts.f (k : Nat) (l0 : List ByteArray) (l1 : List ByteArray) : Option (Bool) := if (l0.length : Int) = (l1.length : Int) then (almanacref08_Texts.l0 k l0 l1 0) else (some false)
theorem almanacref08_Texts.mono_l : ∀ k, (∀ y0 y1 y2, LeO (almanacref08_Texts.l0 k y0 y1 y2) (almanacref08_Texts.l0 (k + 1) y0 y1 y2))
  | 0 => fun _ _ _ r h => by simp [almanacref08_Texts.l0] at h
  | k + 1 => by
    have ih0 := almanacref08_Texts.mono_l k
    · intro y0 y1 y2
      unfold almanacref08_Texts.l0
      repeat' first
      | (with_reducible exact ih0 _ _ _)
      | (with_reducible exact LeO.refl _)
      | (with_reducible exact LeO.none _)
      | (with_reducible refine LeO.ite ?_ ?_)
      | (with_reducible refine LeO.bind ?_ (fun _ => ?_))
      | exact ih0 _ _ _
      | exact LeO.none _
      | refine LeO.ite ?_ ?_
      | refine LeO.bind ?_ (fun _ => ?_)
theorem almanacref08_Texts.mono : ∀ a0 a1 k, LeO (almanacref08_Texts.f k a0 a1) (almanacref08_Texts.f (k + 1) a0 a1) := by
  intro a0 a1 k
  have ih0 := almanacref08_Texts.mono_l k
  unfold almanacref08_Texts.f
  repeat' first
      | (with_reducible exact ih0 _ _ _)
      | (with_reducible exact LeO.refl _)
      | (with_reducible exact LeO.none _)
      | (with_reducible refine LeO.ite ?_ ?_)
      | (with_reducible refine LeO.bind ?_ (fun _ => ?_))
      | exact ih0 _ _ _
      | exact LeO.none _
      | refine LeO.ite ?_ ?_
      | refine LeO.bind ?_ (fun _ => ?_)
set_option maxHeartbeats 8000000 in
set_option maxRecDepth 100000 in
theorem almanacref08_Texts.calls (k : Nat) (A0 : Option Addr) (c0 : Nat) (l0 : List ByteArray) (A1 : Option Addr) (c1 : Nat) (l1 : List ByteArray) (r : Bool) (w : World) (hr0 : Kd.C Kd.string w A0 l0.length l0) (hc0 : l0.length ≤ c0) (hr1 : Kd.C Kd.string w A1 l1.length l1) (hc1 : l1.length ≤ c1) (h : almanacref08_Texts.f k l0 l1 = some r) :
    Calls Tryz.prog 17 #[.slice A0 l0.length c0, .slice A1 l1.length c1] w fun e w' => e = .returned (.bool r) ∧ Drawn0 w w' := by
  have HR0 := Aside0.mk hr0
  have HC0 := Aside0.mk hc0
  clear hr0 hc0
  have HR1 := Aside0.mk hr1
  have HC1 := Aside0.mk hc1
  clear hr1 hc1
  have H : (if (l0.length : Int) = (l1.length : Int) then (almanacref08_Texts.l0 k l0 l1 0) else (some false)) = some r := h
  clear h
  by_cases c3 : (l0.length : Int) = (l1.length : Int)
  · rw [if_pos c3] at H
    have c3b0 : ((l0.length : Int) == (l1.length : Int)) = true := beq_iff_eq.mpr c3
    have c3b1 : ((l0.length : Int) != (l1.length : Int)) = false := bne_eq_false_iff_eq.mpr c3
    have c3b2 : (l0.length == l1.length) = true := by first | simpa using c3 | (simp at c3 ⊢; omega)
    clear c3
    have H' := Aside0.mk H
    clear H
    go_enter Tryz.func17, Tryz.ntmps17
    go_wp2
    repeat (go_quiet (fail); try go_wp2)
    go_loopg [5] k (fun kq v5 w' => ∃ (x5_1 : Int), v5 = .int .i64 x5_1 ∧ Aside0 (almanacref08_Texts.l0 kq l0 l1 x5_1 = some r) ∧ Aside0 (kq ≤ k) ∧ Drawn0 w w')
    case atStart => exact ⟨(0), (by first | rfl | (simp; done) | (simp [*]; done)), H', ⟨Nat.le_refl _⟩, by repeat (first | exact Drawn0.refl _ | apply Drawn0.step)⟩
    case round =>
      clear H'
      try clear c1
      try clear p2
      try clear c3
      try clear c3b0
      try clear c3b1
      try clear c3b2
      obtain ⟨x5_1, rfl, HA, HK1, ⟨m1, rfl⟩⟩ := hrel
      cases gk with
      | zero => exact absurd HA.out (by simp [almanacref08_Texts.l0])
      | succ k1 =>
        have H := HA.out
        clear HA
        simp only [almanacref08_Texts.l0] at H
        by_cases c4 : x5_1 < (l0.length : Int)
        · rw [if_pos c4] at H
          have c4b0 : decide (x5_1 < (l0.length : Int)) = true := decide_eq_true c4
          clear c4
          by_cases c5 : 0 ≤ x5_1
          · rw [if_pos c5] at H
            have c5b0 : decide (0 ≤ x5_1) = true := decide_eq_true c5
            clear c5
            by_cases c6 : x5_1 < (l1.length : Int)
            · rw [if_pos c6] at H
              have c6b0 : decide (x5_1 < (l1.length : Int)) = true := decide_eq_true c6
              clear c6
              by_cases c7 : (rdOf ByteArray.empty l0 x5_1).toList = (rdOf ByteArray.empty l1 x5_1).toList
              · rw [if_pos c7] at H
                have c7b0 : ((rdOf ByteArray.empty l0 x5_1).toList == (rdOf ByteArray.empty l1 x5_1).toList) = true := beq_iff_eq.mpr c7
                have c7b1 : ((rdOf ByteArray.empty l0 x5_1).toList != (rdOf ByteArray.empty l1 x5_1).toList) = false := bne_eq_false_iff_eq.mpr c7
                clear c7
                have H' := Aside0.mk H
                clear H
                have p454 : 0 ≤ (x5_1 : Int) := of_decide_eq_true (by first | (with_reducible assumption) | assumption)
                have q454 : x5_1 < (l0.length : Int) := of_decide_eq_true (by first | (with_reducible assumption) | assumption)
                obtain ⟨ad454, e454, hx454_0⟩ := Kd.at_string HR0.out x5_1 p454 q454
                cases e454
                replace p454 := eq_true p454
                replace q454 := eq_true q454
                have p455 : 0 ≤ (x5_1 : Int) := of_decide_eq_true (by first | (with_reducible assumption) | assumption)
                have q455 : x5_1 < (l1.length : Int) := of_decide_eq_true (by first | (with_reducible assumption) | assumption)
                obtain ⟨ad455, e455, hx455_0⟩ := Kd.at_string HR1.out x5_1 p455 q455
                cases e455
                replace p455 := eq_true p455
                replace q455 := eq_true q455
                go_wp2
                repeat (go_quiet (fail); try go_wp2)
                go_roundg k1
                case measure => have := HK1.out; omega
                case rel => exact ⟨(wrap64 (x5_1 + 1)), (by first | rfl | (simp; done) | (simp [*]; done)), H', ⟨by have := HK1.out; omega⟩, by repeat (first | exact Drawn0.refl _ | apply Drawn0.step)⟩
              · rw [if_neg c7] at H
                have c7b0 : ((rdOf ByteArray.empty l0 x5_1).toList == (rdOf ByteArray.empty l1 x5_1).toList) = false := beq_eq_false_iff_ne.mpr c7
                have c7b1 : ((rdOf ByteArray.empty l0 x5_1).toList != (rdOf ByteArray.empty l1 x5_1).toList) = true := bne_iff_ne.mpr c7
                obtain rfl := Option.some.inj H
                have p454 : 0 ≤ (x5_1 : Int) := of_decide_eq_true (by first | (with_reducible assumption) | assumption)
                have q454 : x5_1 < (l0.length : Int) := of_decide_eq_true (by first | (with_reducible assumption) | assumption)
                obtain ⟨ad454, e454, hx454_0⟩ := Kd.at_string HR0.out x5_1 p454 q454
                cases e454
                replace p454 := eq_true p454
                replace q454 := eq_true q454
                have p455 : 0 ≤ (x5_1 : Int) := of_decide_eq_true (by first | (with_reducible assumption) | assumption)
                have q455 : x5_1 < (l1.length : Int) := of_decide_eq_true (by first | (with_reducible assumption) | assumption)
                obtain ⟨ad455, e455, hx455_0⟩ := Kd.at_string HR1.out x5_1 p455 q455
                cases e455
                replace p455 := eq_true p455
                replace q455 := eq_true q455
                go_wp2
                repeat (go_quiet (fail); try go_wp2)
                go_ret
                exact ⟨by first | rfl | (simp; done) | (simp [*]; done), by repeat (first | exact Drawn0.refl _ | apply Drawn0.step)⟩
            · rw [if_neg c6] at H
              exact absurd H (by simp)
          · rw [if_neg c5] at H
            exact absurd H (by simp)
        · rw [if_neg c4] at H
          have c4b0 : decide (x5_1 < (l0.length : Int)) = false := decide_eq_false c4
          clear c4
          obtain rfl := Option.some.inj H
          go_wp2
          repeat (go_quiet (fail); try go_wp2)
          go_ret
          exact ⟨by first | rfl | (simp; done) | (simp [*]; done), by repeat (first | exact Drawn0.refl _ | apply Drawn0.step)⟩
  · rw [if_neg c3] at H
    have c3b0 : ((l0.length : Int) == (l1.length : Int)) = false := beq_eq_false_iff_ne.mpr c3
    have c3b1 : ((l0.length : Int) != (l1.length : Int)) = true := bne_iff_ne.mpr c3
    have c3b2 : (l0.length == l1.length) = false := by first | simpa using c3 | (simp at c3 ⊢; omega)
    obtain rfl := Option.some.inj H
    go_enter Tryz.func17, Tryz.ntmps17
    go_wp2
    repeat (go_quiet (fail); try go_wp2)
    go_ret
    exact ⟨by first | rfl | (simp; done) | (simp [*]; done), by repeat (first | exact Drawn0.refl _ | apply Drawn0.step)⟩
end Go.Proofs.YtmajmolbjiahlaaGreatDoor.PD
namespace Go.Proofs.YtmajmolbjiahlaaGreatDoor.PD
open Go.RowKit Go.Proofs.YtmajmolbjiahlaaGreatDoorW.PrintWords Go.Proofs.YtmajmolbjiahlaaGreatDoorW.PrintLast Go.Proofs.YtmajmolbjiahlaaGreatDoorW.PrintMore
attribute [local go_sem] isSome_setCell max2_int min2_int max_two min_two max_three min_three max_four min_four
set_option linter.unusedVariables false
set_option linter.unusedSimpArgs false
def zone_Names.l0 : Nat → List ByteArray → List (S24) → Int → Int → Option (List ByteArray)
  | 0, _, _, _, _ => none
  | k + 1, x1, x4, x5, x6 => if x6 < x5 then (if 0 ≤ x6 then (if x6 < (x4.length : Int) then (if x1.length < 8796093022208 then (zone_Names.l0 k (x1 ++ [(rd_T24 x4 x6).f0]) x4 x5 (wrap64 (x6 + 1))) else (none)) else (none)) else (none)) else (some x1)
def zone_Names.f (k : Nat)  : Option (List ByteArray) := (zone_known.f).bind fun t456 => (zone_Names.l0 k ([] : List ByteArray) t456 (t456.length : Int) 0)
theorem zone_Names.mono_l : ∀ k, (∀ y0 y1 y2 y3, LeO (zone_Names.l0 k y0 y1 y2 y3) (zone_Names.l0 (k + 1) y0 y1 y2 y3))
  | 0 => fun _ _ _ _ r h => by simp [zone_Names.l0] at h
  | k + 1 => by
    have ih0 := zone_Names.mono_l k
    · intro y0 y1 y2 y3
      unfold zone_Names.l0
      repeat' first
      | (with_reducible exact ih0 _ _ _ _)
      | (with_reducible exact LeO.refl _)
      | (with_reducible exact LeO.none _)
      | (with_reducible refine LeO.ite ?_ ?_)
      | (with_reducible refine LeO.bind ?_ (fun _ => ?_))
      | exact ih0 _ _ _ _
      | exact LeO.none _
      | refine LeO.ite ?_ ?_
      | refine LeO.bind ?_ (fun _ => ?_)
theorem zone_Names.mono : ∀ k, LeO (zone_Names.f k ) (zone_Names.f (k + 1) ) := by
  intro  k
  have ih0 := zone_Names.mono_l k
  unfold zone_Names.f
  repeat' first
      | (with_reducible exact ih0 _ _ _ _)
      | (with_reducible exact LeO.refl _)
      | (with_reducible exact LeO.none _)
      | (with_reducible refine LeO.ite ?_ ?_)
      | (with_reducible refine LeO.bind ?_ (fun _ => ?_))
      | exact ih0 _ _ _ _
      | exact LeO.none _
      | refine LeO.ite ?_ ?_
      | refine LeO.bind ?_ (fun _ => ?_)
set_option maxHeartbeats 8000000 in
set_option maxRecDepth 100000 in
theorem zone_Names.calls (k : Nat)  (r : List ByteArray) (w : World) (h : zone_Names.f k  = some r) (hTab : Tab w) :
    Calls Tryz.prog 18 #[] w fun e w' => ∃ v0_ : Value, e = .returned (v0_) ∧ Kd.R Kd.string 9 w' w.heap.size (fun _ => True) v0_ r ∧ Below w.heap.size w w' := by
  have HTab := Aside0.mk hTab
  clear hTab
  have hu24 := Tryz.underlying24
  have HB := Aside0.mk (Below.refl w.heap.size w)
  have H : ((zone_known.f).bind fun t456 => (zone_Names.l0 k ([] : List ByteArray) t456 (t456.length : Int) 0)) = some r := h
  clear h
  replace H := Option.bind_eq_some_iff.mp H
  obtain ⟨t456, A10, H⟩ := H
  replace H : (zone_Names.l0 k ([] : List ByteArray) t456 (t456.length : Int) 0) = some r := H
  have A1 := Aside0.mk A10
  clear A10
  have H' := Aside0.mk H
  clear H
  go_enter Tryz.func18, Tryz.ntmps18
  go_wp2_with (first | ((with_reducible refine gate_callee (f := 34) rfl ?_); refine goesL_ (some 4) rfl rfl Tryz.func34 (by kernel_rfl) rfl #[] rfl (by (try simp only [List.map_toArray, List.map_cons, List.map_nil]); first | done | rfl | (simp only [List.length_drop, List.length_take]; rfl)) ?_; (with_reducible refine (zone_known.calls  t456 _ A1.out (HTab.out.below (by repeat (first | (with_reducible first | exact HB.out | apply below_alloc | apply pw_below_drewN | apply below_drew1) | exact HB.out)))).mono ?_); rintro e w2 ⟨v457, rfl, ho0, hb⟩; refine ⟨_, rfl, ?_⟩; have n0_ := Aside0.mk (Kd.N_lower (Kd.N_mono (ok' := fun k_ => True) ho0 (fun k_ hk_ => trivial)) (below_size (by repeat (first | (with_reducible first | exact HB.out | apply below_alloc | apply pw_below_drewN | apply below_drew1) | exact HB.out)))); have n1_ := Aside0.mk (below_step (by repeat (first | (with_reducible first | exact HB.out | apply below_alloc | apply pw_below_drewN | apply below_drew1) | exact HB.out)) hb); clear HB; have HO458 := n0_; have HB := n1_; clear n0_ n1_; (try clear hb); (try clear hb2); (try clear hk); (try clear hi); (try clear ho0); obtain ⟨Ao3, co3, eo3⟩ := Kd.N_slice HO458.out; subst eo3))
  go_loopg [1, 6] k (fun kq v1 v6 w' => ∃ (x1_1 : List ByteArray) (x6_1 : Int), v6 = .int .i64 x6_1 ∧ Aside0 (zone_Names.l0 kq x1_1 t456 (t456.length : Int) x6_1 = some r) ∧ Aside0 (kq ≤ k) ∧ Aside0 (Kd.R Kd.string 9 w' w.heap.size (fun _ => True) v1 x1_1) ∧ Aside0 (Kd.N k24 24 w' w.heap.size (fun k_ => some k_ ≠ (v1 : Value).ownBlock) (.slice Ao3 t456.length co3) t456) ∧ Aside0 (Below w.heap.size w w'))
  case atStart => exact ⟨(([] : List ByteArray)), (0), (by first | rfl | (simp; done) | (simp [*]; done)), H', ⟨Nat.le_refl _⟩, ⟨by first | exact Kd.R_nil _ _ _ _ _ | exact Kd.N_nil _ _ _ _ _ | exact Kd.V_nil _ _ _ _ _ | exact Kd.Q_nil _ _ _ _ _ | exact Kd.S_nil _ _ _ _ _⟩, ⟨by (with_reducible repeat (first | apply Kd.N_alloc | apply Kd.N_drewN | apply Kd.N_drew)); exact Kd.N_mono HO458.out (fun _ hk => (by simp [Value.ownBlock]))⟩, ⟨by repeat (first | (with_reducible first | exact HB.out | apply below_alloc | apply pw_below_drewN | apply below_drew1) | exact HB.out)⟩⟩
  case round =>
    clear H'
    try clear c1
    try clear p2
    try clear c3
    obtain ⟨x1_1, x6_1, rfl, HA, HK1, HO_1, HO_4, HB⟩ := hrel
    cases gk with
    | zero => exact absurd HA.out (by simp [zone_Names.l0])
    | succ k1 =>
      have H := HA.out
      clear HA
      simp only [zone_Names.l0] at H
      by_cases c4 : x6_1 < (t456.length : Int)
      · rw [if_pos c4] at H
        have c4b0 : decide (x6_1 < (t456.length : Int)) = true := decide_eq_true c4
        clear c4
        by_cases c5 : 0 ≤ x6_1
        · rw [if_pos c5] at H
          have c5b0 : decide (0 ≤ x6_1) = true := decide_eq_true c5
          clear c5
          by_cases c6 : x6_1 < (t456.length : Int)
          · rw [if_pos c6] at H
            have c6b0 : decide (x6_1 < (t456.length : Int)) = true := decide_eq_true c6
            clear c6
            by_cases c7 : x1_1.length < 8796093022208
            · rw [if_pos c7] at H
              have LMc7 := Aside0.mk c7
              clear c7
              obtain ⟨y461, hy461⟩ : ∃ y_ : List ByteArray, y_ = (x1_1 ++ [(rd_T24 t456 x6_1).f0]) := ⟨_, rfl⟩
              replace H : (zone_Names.l0 k1 y461 t456 (t456.length : Int) (wrap64 (x6_1 + 1))) = some r := by first | (rw [hy461]; with_reducible exact H) | (have H2_ := (Option.bind_some _ _).symm.trans H; rw [hy461]; with_reducible exact H2_) | (have H2_ := (Option.bind_some _ _).symm.trans H; with_reducible exact H2_) | with_reducible exact H | (rw [hy461]; exact H) | exact H
              have Ny461 := Aside0.mk hy461
              clear hy461
              have H' := Aside0.mk H
              clear H
              have p459 : 0 ≤ (x6_1 : Int) := of_decide_eq_true (by first | (with_reducible assumption) | assumption)
              have q459 : x6_1 < (t456.length : Int) := of_decide_eq_true (by first | (with_reducible assumption) | assumption)
              obtain ⟨ad459, A459_1, c459_1, e459, hx459_0, hx459_1, hl459_1, hi459_1⟩ := at_T24 (Kd.N_reads' HO_4.out).2.2 x6_1 p459 q459
              cases e459
              obtain ⟨ce459, hce459, hMe459, hcc459⟩ := Kd.N_get HO_4.out z24 x6_1 p459 (by first | exact q459 | exact of_decide_eq_true (by first | (with_reducible assumption) | assumption) | (have e_ := (Kd.N_reads' HO_4.out).1; omega))
              obtain ⟨ua459_1, uc459_1, rfl, ul459_1, ge459_1⟩ := k24_openF hMe459
              have hv459_1 := hcc459 1 _ rfl
              rw [add_field _ _ 1 (by omega)] at hv459_1
              replace hv459_1 := Option.some.inj (hv459_1.symm.trans hx459_1)
              injection hv459_1 with hva_ hvn_ hvc_
              rw [hva_] at ge459_1
              rw [hvc_] at ul459_1
              have HL459_1 := Aside0.mk (show Kd.V k32 32 _ w.heap.size _ _ ((rd_T24 t456 x6_1).f1) from Kd.V_mk ul459_1 ge459_1)
              clear hva_ hvn_ hvc_ ge459_1 ul459_1
              clear hcc459 hce459
              have HR459_1 := Aside0.mk hi459_1
              have HC459_1 := Aside0.mk hl459_1
              clear hi459_1 hl459_1
              replace p459 := eq_true p459
              replace q459 := eq_true q459
              go_wp2_with (first | ((with_reducible refine gate_dst (N := 3) rfl ?_); refine box_event ?hg (N := 3) ?hd (cs := #[.string (⟨#[]⟩ : ByteArray), .slice none 0 0]) (t := 24) ?hr ?_; (case hd => rfl); (case hg => rfl); (case hr => first | (go_simp; done) | (go_simp; rfl)); intro gb460 hg w8 hbox hb; have n0_ := Aside0.mk (Kd.R_below (by (with_reducible repeat (first | apply Kd.R_alloc | apply Kd.R_drewN | apply Kd.R_drew)); exact HO_1.out) hb); have n1_ := Aside0.mk (Kd.N_below (Kd.N_elderB (by (with_reducible repeat (first | apply Kd.N_alloc | apply Kd.N_drewN | apply Kd.N_drew)); exact HO_4.out) gb460 (Nat.le_of_eq hg.symm)) hb); have n2_ := Aside0.mk (Kd.V_below (Kd.V_elderB (by (with_reducible repeat (first | apply Kd.V_alloc | apply Kd.V_drewN | apply Kd.V_drew)); exact HL459_1.out) gb460 (Nat.le_of_eq hg.symm)) hb); have n3_ := Aside0.mk (Kd.C_below (by repeat (first | (with_reducible exact HR459_1.out) | (with_reducible refine Kd.C_alloc ?_ _) | (with_reducible refine Kd.C_drewN ?_ _) | (with_reducible refine Kd.C_drew ?_) | exact HR459_1.out)) hb); have n4_ := Aside0.mk (below_step (by repeat (first | (with_reducible first | exact HB.out | apply below_alloc | apply pw_below_drewN | apply below_drew1) | exact HB.out)) hb); have n5_ := Aside0.mk (hbox); have n6_ := Aside0.mk ((by rw [hg]; exact (below_size (by repeat (first | (with_reducible first | exact HB.out | apply below_alloc | apply pw_below_drewN | apply below_drew1) | exact HB.out))) : w.heap.size ≤ gb460)); have n7_ := Aside0.mk ((by rw [hg]; exact (below_size (by repeat (first | (with_reducible first | exact HB.out | apply below_alloc | apply pw_below_drewN | apply below_drew1) | exact HB.out))) : w.heap.size ≤ gb460)); clear HO_1; clear HO_4; clear HL459_1; clear HR459_1; clear HB; have HO_1 := n0_; have HO_4 := n1_; have HL459_1 := n2_; have HR459_1 := n3_; have HB := n4_; have BK460 := n5_; have GW460 := n6_; have GE460 := n7_; clear n0_ n1_ n2_ n3_ n4_ n5_ n6_ n7_; clear hb hbox hg; have hcz9_0 : w8.cell? ⟨gb460, 0, none⟩ = some (.string (⟨#[]⟩ : ByteArray)) := (blk_cell BK460.out 0).trans rfl; have hcz9_1 : w8.cell? ⟨gb460, 1, none⟩ = some (.slice none 0 0) := (blk_cell BK460.out 1).trans rfl; have hfz9_0 := blk_frozen BK460.out 0; have hfz9_1 := blk_frozen BK460.out 1) | ((with_reducible refine gate_builtin (b := .append) (xs := #[.tmp 10, .tmp 13]) rfl ?_); at_builtin; refine Kd.R_append Kd.string (w0 := w) w.heap.size rfl (.tmp 10) (.tmp 13) 37 9 (.string ⟨#[]⟩) 16 rfl Tryz.underlying37 info9 rfl (by decide) (by omega) u1 x1_1 ((rd_T24 t456 x6_1).f0) [.string ((rd_T24 t456 x6_1).f0)] (fun _ => True) (fun _ => False) rfl (by first | (go_simp; done) | (go_simp; rfl)) ?aP (fun _ hk => hk.elim) ?aF ?aO ?aB ?aS ?aL ?_; (case aP => exact rfl); (case aB => exact (by repeat (first | (with_reducible first | exact HB.out | apply below_alloc | apply pw_below_drewN | apply below_drew1 | refine below_set ?_ GE460.out) | exact HB.out))); (case aF => exact (fun _ _ => trivial)); (case aO => exact (by (with_reducible repeat (first | apply Kd.R_alloc | apply Kd.R_drewN | apply Kd.R_drew)); exact Kd.R_mono (Kd.R_far (p := ⟨gb460, 1, none⟩) (Kd.R_far (p := ⟨gb460, 0, none⟩) (Kd.R_types HO_1.out BK460.out (by decide)) (fun _ hk => hk.2) (.string ((rd_T24 t456 x6_1).f0))) (fun _ hk => hk.2) (.slice A459_1 ((rd_T24 t456 x6_1).f1).length c459_1)) (fun _ hk => trivial))); (case aS => exact (below_size (by repeat (first | (with_reducible first | exact HB.out | apply below_alloc | apply pw_below_drewN | apply below_drew1 | refine below_set ?_ GE460.out) | exact HB.out)))); (case aL => have := LMc7.out; omega); intro v462 w10 ho hb hg hat; rw [← Ny461.out] at ho; have n0_ := Aside0.mk (Kd.N_afterv (ok := (fun k_ => k_ ≠ gb460)) (by (with_reducible repeat (first | apply Kd.N_alloc | apply Kd.N_drewN | apply Kd.N_drew)); exact Kd.N_mono (Kd.N_far (p := ⟨gb460, 1, none⟩) (Kd.N_far (p := ⟨gb460, 0, none⟩) (Kd.N_mono HO_4.out (fun k_ hk => (⟨hk, hk.2⟩ : _ ∧ k_ ≠ gb460))) (fun _ hk => hk.2) (.string ((rd_T24 t456 x6_1).f0))) (fun _ hk => hk.2) (.slice A459_1 ((rd_T24 t456 x6_1).f1).length c459_1)) (fun _ hk => ⟨hk.1.2, hk.1.1⟩)) hg hat); have n1_ := Aside0.mk (Kd.V_afterv (ok := (fun k_ => some k_ ≠ (.slice (some ad459) t456.length co3 : Value).ownBlock ∧ k_ ≠ gb460)) (by (with_reducible repeat (first | apply Kd.V_alloc | apply Kd.V_drewN | apply Kd.V_drew)); exact Kd.V_mono (Kd.V_far (p := ⟨gb460, 1, none⟩) (Kd.V_far (p := ⟨gb460, 0, none⟩) (Kd.V_mono HL459_1.out (fun k_ hk => (⟨hk, hk.2⟩ : _ ∧ k_ ≠ gb460))) (fun _ hk => hk.2) (.string ((rd_T24 t456 x6_1).f0))) (fun _ hk => hk.2) (.slice A459_1 ((rd_T24 t456 x6_1).f1).length c459_1)) (fun _ hk => ⟨⟨hk.1.1.2, hk.1.2⟩, hk.1.1.1⟩)) hg hat); have n2_ := Aside0.mk (blk_grown (g := gb460) (o := .cells #[.string ((rd_T24 t456 x6_1).f0), .slice A459_1 ((rd_T24 t456 x6_1).f1).length c459_1] 24 (0, 0)) (by (with_reducible repeat (first | refine blk_drewN ?_ _ | refine blk_drew ?_ | refine blk_alloc ?_ _)); refine blk_put (cs := #[.string ((rd_T24 t456 x6_1).f0), .slice none 0 0]) ?_ 1 _ rfl; (with_reducible repeat (first | refine blk_drewN ?_ _ | refine blk_drew ?_ | refine blk_alloc ?_ _)); refine blk_put (cs := #[.string (⟨#[]⟩ : ByteArray), .slice none 0 0]) ?_ 0 _ rfl; (with_reducible repeat (first | refine blk_drewN ?_ _ | refine blk_drew ?_ | refine blk_alloc ?_ _)); exact BK460.out) hg (Kd.R_ne HO_1.out BK460.out (by decide))); have n3_ := Aside0.mk (hb); have n4_ := Aside0.mk (ho); clear HO_4; clear HL459_1; clear BK460; clear HB; clear HO_1; have HO_4 := n0_; have HL459_1 := n1_; have BK460 := n2_; have HB := n3_; have HO463 := n4_; clear n0_ n1_ n2_ n3_ n4_; clear ho hb hg hat))
              go_roundg k1
              case measure => have := HK1.out; omega
              case rel => exact ⟨(y461), (wrap64 (x6_1 + 1)), (by first | rfl | (simp; done) | (simp [*]; done)), H', ⟨by have := HK1.out; omega⟩, ⟨by (with_reducible repeat (first | apply Kd.R_alloc | apply Kd.R_drewN | apply Kd.R_drew)); exact HO463.out⟩, ⟨by (with_reducible repeat (first | apply Kd.N_alloc | apply Kd.N_drewN | apply Kd.N_drew)); exact Kd.N_mono HO_4.out (fun _ hk => hk.2)⟩, ⟨by repeat (first | (with_reducible first | exact HB.out | apply below_alloc | apply pw_below_drewN | apply below_drew1 | refine below_set ?_ GE460.out) | exact HB.out)⟩⟩
            · rw [if_neg c7] at H
              exact absurd H (by simp)
          · rw [if_neg c6] at H
            exact absurd H (by simp)
        · rw [if_neg c5] at H
          exact absurd H (by simp)
      · rw [if_neg c4] at H
        have c4b0 : decide (x6_1 < (t456.length : Int)) = false := decide_eq_false c4
        clear c4
        obtain rfl := Option.some.inj H
        go_wp2
        go_ret
        exact ⟨_, by first | rfl | (simp [errW_none, errW_some] <;> rfl) | (simp [*, errW_none, errW_some] <;> rfl), by (with_reducible repeat (first | apply Kd.R_alloc | apply Kd.R_drewN | apply Kd.R_drew)); exact HO_1.out, by repeat (first | (with_reducible first | exact HB.out | apply below_alloc | apply pw_below_drewN | apply below_drew1) | exact HB.out)⟩
end Go.Proofs.YtmajmolbjiahlaaGreatDoor.PD
namespace Go.Proofs.YtmajmolbjiahlaaGreatDoor.PD
open Go.RowKit Go.Proofs.YtmajmolbjiahlaaGreatDoorW.PrintWords Go.Proofs.YtmajmolbjiahlaaGreatDoorW.PrintLast Go.Proofs.YtmajmolbjiahlaaGreatDoorW.PrintMore
attribute [local go_sem] isSome_setCell max2_int min2_int max_two min_two max_three min_three max_four min_four
set_option linter.unusedVariables false
set_option linter.unusedSimpArgs false
def almanacref16_Names.l0 : Nat → List ByteArray → List (S24) → Int → Option (List ByteArray)
  | 0, _, _, _ => none
  | k + 1, x1, x2, x3 => if x3 < (x2.length : Int) then (if 0 ≤ x3 then (if x1.length < 8796093022208 then (almanacref16_Names.l0 k (x1 ++ [(rd_T24 x2 x3).f0]) x2 (wrap64 (x3 + 1))) else (none)) else (none)) else (some x1)
def almanacref16_Names.f (k : Nat)  : Option (List ByteArray) := (almanacref16_zones.f k).bind fun t464 => (almanacref16_Names.l0 k ([] : List ByteArray) t464 0)
theorem almanacref16_Names.mono_l : ∀ k, (∀ y0 y1 y2, LeO (almanacref16_Names.l0 k y0 y1 y2) (almanacref16_Names.l0 (k + 1) y0 y1 y2))
  | 0 => fun _ _ _ r h => by simp [almanacref16_Names.l0] at h
  | k + 1 => by
    have ih0 := almanacref16_Names.mono_l k
    · intro y0 y1 y2
      unfold almanacref16_Names.l0
      repeat' first
      | (with_reducible exact ih0 _ _ _)
      | (with_reducible exact almanacref16_zones.mono _)
      | (with_reducible exact LeO.refl _)
      | (with_reducible exact LeO.none _)
      | (with_reducible refine LeO.ite ?_ ?_)
      | (with_reducible refine LeO.bind ?_ (fun _ => ?_))
      | exact ih0 _ _ _
      | exact almanacref16_zones.mono _
      | exact LeO.none _
      | refine LeO.ite ?_ ?_
      | refine LeO.bind ?_ (fun _ => ?_)
theorem almanacref16_Names.mono : ∀ k, LeO (almanacref16_Names.f k ) (almanacref16_Names.f (k + 1) ) := by
  intro  k
  have ih0 := almanacref16_Names.mono_l k
  unfold almanacref16_Names.f
  repeat' first
      | (with_reducible exact ih0 _ _ _)
      | (with_reducible exact almanacref16_zones.mono _)
      | (with_reducible exact LeO.refl _)
      | (with_reducible exact LeO.none _)
      | (with_reducible refine LeO.ite ?_ ?_)
      | (with_reducible refine LeO.bind ?_ (fun _ => ?_))
      | exact ih0 _ _ _
      | exact almanacref16_zones.mono _
      | exact LeO.none _
      | refine LeO.ite ?_ ?_
      | refine LeO.bind ?_ (fun _ => ?_)
set_option maxHeartbeats 8000000 in
set_option maxRecDepth 100000 in
theorem almanacref16_Names.calls (k : Nat)  (r : List ByteArray) (w : World) (h : almanacref16_Names.f k  = some r) :
    Calls Tryz.prog 19 #[] w fun e w' => ∃ v0_ : Value, e = .returned (v0_) ∧ Kd.R Kd.string 9 w' w.heap.size (fun _ => True) v0_ r ∧ Below w.heap.size w w' := by
  have HB := Aside0.mk (Below.refl w.heap.size w)
  have H : ((almanacref16_zones.f k).bind fun t464 => (almanacref16_Names.l0 k ([] : List ByteArray) t464 0)) = some r := h
  clear h
  replace H := Option.bind_eq_some_iff.mp H
  obtain ⟨t464, A10, H⟩ := H
  replace H : (almanacref16_Names.l0 k ([] : List ByteArray) t464 0) = some r := H
  have A1 := Aside0.mk A10
  clear A10
  have H' := Aside0.mk H
  clear H
  go_enter Tryz.func19, Tryz.ntmps19
  go_wp2_with (first | ((with_reducible refine gate_callee (f := 37) rfl ?_); refine goesL_ (some 4) rfl rfl Tryz.func37 (by kernel_rfl) rfl #[] rfl (by (try simp only [List.map_toArray, List.map_cons, List.map_nil]); first | done | rfl | (simp only [List.length_drop, List.length_take]; rfl)) ?_; (with_reducible refine (almanacref16_zones.calls k  t464 _ A1.out).mono ?_); rintro e w2 ⟨v465, rfl, ho0, hb⟩; refine ⟨_, rfl, ?_⟩; have n0_ := Aside0.mk (Kd.N_lower (Kd.N_mono (ok' := fun k_ => True) ho0 (fun k_ hk_ => trivial)) (below_size (by repeat (first | (with_reducible first | exact HB.out | apply below_alloc | apply pw_below_drewN | apply below_drew1) | exact HB.out)))); have n1_ := Aside0.mk (below_step (by repeat (first | (with_reducible first | exact HB.out | apply below_alloc | apply pw_below_drewN | apply below_drew1) | exact HB.out)) hb); clear HB; have HO466 := n0_; have HB := n1_; clear n0_ n1_; (try clear hb); (try clear hb2); (try clear hk); (try clear hi); (try clear ho0)))
  go_loopg [1, 3] k (fun kq v1 v3 w' => ∃ (x1_1 : List ByteArray) (x3_1 : Int), v3 = .int .i64 x3_1 ∧ Aside0 (almanacref16_Names.l0 kq x1_1 t464 x3_1 = some r) ∧ Aside0 (kq ≤ k) ∧ Aside0 (Kd.R Kd.string 9 w' w.heap.size (fun _ => True) v1 x1_1) ∧ Aside0 (Kd.N k24 24 w' w.heap.size (fun k_ => some k_ ≠ (v1 : Value).ownBlock) v465 t464) ∧ Aside0 (Below w.heap.size w w'))
  case atStart => exact ⟨(([] : List ByteArray)), (0), (by first | rfl | (simp; done) | (simp [*]; done)), H', ⟨Nat.le_refl _⟩, ⟨by first | exact Kd.R_nil _ _ _ _ _ | exact Kd.N_nil _ _ _ _ _ | exact Kd.V_nil _ _ _ _ _ | exact Kd.Q_nil _ _ _ _ _ | exact Kd.S_nil _ _ _ _ _⟩, ⟨by (with_reducible repeat (first | apply Kd.N_alloc | apply Kd.N_drewN | apply Kd.N_drew)); exact Kd.N_mono HO466.out (fun _ hk => (by simp [Value.ownBlock]))⟩, ⟨by repeat (first | (with_reducible first | exact HB.out | apply below_alloc | apply pw_below_drewN | apply below_drew1) | exact HB.out)⟩⟩
  case round =>
    clear H'
    try clear c1
    try clear p2
    obtain ⟨x1_1, x3_1, rfl, HA, HK1, HO_1, HO_2, HB⟩ := hrel
    cases gk with
    | zero => exact absurd HA.out (by simp [almanacref16_Names.l0])
    | succ k1 =>
      have H := HA.out
      clear HA
      simp only [almanacref16_Names.l0] at H
      by_cases c3 : x3_1 < (t464.length : Int)
      · rw [if_pos c3] at H
        have c3b0 : decide (x3_1 < (t464.length : Int)) = true := decide_eq_true c3
        clear c3
        by_cases c4 : 0 ≤ x3_1
        · rw [if_pos c4] at H
          have c4b0 : decide (0 ≤ x3_1) = true := decide_eq_true c4
          clear c4
          by_cases c5 : x1_1.length < 8796093022208
          · rw [if_pos c5] at H
            have LMc5 := Aside0.mk c5
            clear c5
            obtain ⟨y468, hy468⟩ : ∃ y_ : List ByteArray, y_ = (x1_1 ++ [(rd_T24 t464 x3_1).f0]) := ⟨_, rfl⟩
            replace H : (almanacref16_Names.l0 k1 y468 t464 (wrap64 (x3_1 + 1))) = some r := by first | (rw [hy468]; with_reducible exact H) | (have H2_ := (Option.bind_some _ _).symm.trans H; rw [hy468]; with_reducible exact H2_) | (have H2_ := (Option.bind_some _ _).symm.trans H; with_reducible exact H2_) | with_reducible exact H | (rw [hy468]; exact H) | exact H
            have Ny468 := Aside0.mk hy468
            clear hy468
            have H' := Aside0.mk H
            clear H
            obtain ⟨Ao6, co6, eo6⟩ := Kd.N_slice HO_2.out
            subst eo6
            have p467 : 0 ≤ (x3_1 : Int) := of_decide_eq_true (by first | (with_reducible assumption) | assumption)
            have q467 : x3_1 < (t464.length : Int) := of_decide_eq_true (by first | (with_reducible assumption) | assumption)
            obtain ⟨ad467, A467_1, c467_1, e467, hx467_0, hx467_1, hl467_1, hi467_1⟩ := at_T24 (Kd.N_reads' HO_2.out).2.2 x3_1 p467 q467
            cases e467
            obtain ⟨ce467, hce467, hMe467, hcc467⟩ := Kd.N_get HO_2.out z24 x3_1 p467 (by first | exact q467 | exact of_decide_eq_true (by first | (with_reducible assumption) | assumption) | (have e_ := (Kd.N_reads' HO_2.out).1; omega))
            obtain ⟨ua467_1, uc467_1, rfl, ul467_1, ge467_1⟩ := k24_openF hMe467
            have hv467_1 := hcc467 1 _ rfl
            rw [add_field _ _ 1 (by omega)] at hv467_1
            replace hv467_1 := Option.some.inj (hv467_1.symm.trans hx467_1)
            injection hv467_1 with hva_ hvn_ hvc_
            rw [hva_] at ge467_1
            rw [hvc_] at ul467_1
            have HL467_1 := Aside0.mk (show Kd.V k32 32 _ w.heap.size _ _ ((rd_T24 t464 x3_1).f1) from Kd.V_mk ul467_1 ge467_1)
            clear hva_ hvn_ hvc_ ge467_1 ul467_1
            clear hcc467 hce467
            have HR467_1 := Aside0.mk hi467_1
            have HC467_1 := Aside0.mk hl467_1
            clear hi467_1 hl467_1
            replace p467 := eq_true p467
            replace q467 := eq_true q467
            go_wp2_with (first | ((with_reducible refine gate_builtin (b := .append) (xs := #[.tmp 11, .tmp 17]) rfl ?_); at_builtin; refine Kd.R_append Kd.string (w0 := w) w.heap.size rfl (.tmp 11) (.tmp 17) 37 9 (.string ⟨#[]⟩) 16 rfl Tryz.underlying37 info9 rfl (by decide) (by omega) u1 x1_1 ((rd_T24 t464 x3_1).f0) [.string ((rd_T24 t464 x3_1).f0)] (fun _ => True) (fun _ => False) rfl rfl ?aP (fun _ hk => hk.elim) ?aF ?aO ?aB ?aS ?aL ?_; (case aP => exact rfl); (case aB => exact (by repeat (first | (with_reducible first | exact HB.out | apply below_alloc | apply pw_below_drewN | apply below_drew1) | exact HB.out))); (case aF => exact (fun _ _ => trivial)); (case aO => exact (by (with_reducible repeat (first | apply Kd.R_alloc | apply Kd.R_drewN | apply Kd.R_drew)); exact HO_1.out)); (case aS => exact (below_size (by repeat (first | (with_reducible first | exact HB.out | apply below_alloc | apply pw_below_drewN | apply below_drew1) | exact HB.out)))); (case aL => have := LMc5.out; omega); intro v469 w7 ho hb hg hat; rw [← Ny468.out] at ho; have n0_ := Aside0.mk (Kd.N_afterv (ok := (fun _ => True)) (by (with_reducible repeat (first | apply Kd.N_alloc | apply Kd.N_drewN | apply Kd.N_drew)); exact Kd.N_mono HO_2.out (fun _ hk => ⟨trivial, hk⟩)) hg hat); have n1_ := Aside0.mk (Kd.V_afterv (ok := (fun k_ => some k_ ≠ (.slice (some ad467) t464.length co6 : Value).ownBlock)) (by (with_reducible repeat (first | apply Kd.V_alloc | apply Kd.V_drewN | apply Kd.V_drew)); exact Kd.V_mono HL467_1.out (fun _ hk => ⟨hk.2, hk.1⟩)) hg hat); have n2_ := Aside0.mk (hb); have n3_ := Aside0.mk (ho); clear HO_2; clear HL467_1; clear HB; clear HO_1; have HO_2 := n0_; have HL467_1 := n1_; have HB := n2_; have HO470 := n3_; clear n0_ n1_ n2_ n3_; clear ho hb hg hat))
            go_roundg k1
            case measure => have := HK1.out; omega
            case rel => exact ⟨(y468), (wrap64 (x3_1 + 1)), (by first | rfl | (simp; done) | (simp [*]; done)), H', ⟨by have := HK1.out; omega⟩, ⟨by (with_reducible repeat (first | apply Kd.R_alloc | apply Kd.R_drewN | apply Kd.R_drew)); exact HO470.out⟩, ⟨by (with_reducible repeat (first | apply Kd.N_alloc | apply Kd.N_drewN | apply Kd.N_drew)); exact Kd.N_mono HO_2.out (fun _ hk => hk.2)⟩, ⟨by repeat (first | (with_reducible first | exact HB.out | apply below_alloc | apply pw_below_drewN | apply below_drew1) | exact HB.out)⟩⟩
          · rw [if_neg c5] at H
            exact absurd H (by simp)
        · rw [if_neg c4] at H
          exact absurd H (by simp)
      · rw [if_neg c3] at H
        have c3b0 : decide (x3_1 < (t464.length : Int)) = false := decide_eq_false c3
        clear c3
        obtain rfl := Option.some.inj H
        obtain ⟨Ao8, co8, eo8⟩ := Kd.N_slice HO_2.out
        subst eo8
        go_wp2
        go_ret
        exact ⟨_, by first | rfl | (simp [errW_none, errW_some] <;> rfl) | (simp [*, errW_none, errW_some] <;> rfl), by (with_reducible repeat (first | apply Kd.R_alloc | apply Kd.R_drewN | apply Kd.R_drew)); exact HO_1.out, by repeat (first | (with_reducible first | exact HB.out | apply below_alloc | apply pw_below_drewN | apply below_drew1) | exact HB.out)⟩
end Go.Proofs.YtmajmolbjiahlaaGreatDoor.PD
namespace Go.Proofs.YtmajmolbjiahlaaGreatDoor.PD
open Go.RowKit Go.Proofs.YtmajmolbjiahlaaGreatDoorW.PrintWords Go.Proofs.YtmajmolbjiahlaaGreatDoorW.PrintLast Go.Proofs.YtmajmolbjiahlaaGreatDoorW.PrintMore
attribute [local go_sem] isSome_setCell max2_int min2_int max_two min_two max_three min_three max_four min_four
set_option linter.unusedVariables false
set_option linter.unusedSimpArgs false
attribute [local go_sem high] eqA32
def api_Obs_41.l0 : Nat → List (S32) → List (S32) → Int → Int → Option (Bool)
  | 0, _, _, _, _ => none
  | k + 1, x0, x1, x12, x13 => if x13 < x12 then (if 0 ≤ x13 then (if x13 < (x0.length : Int) then (if x13 < (x1.length : Int) then (if (!(((rd_T32 x0 x13).f0) == ((rd_T32 x1 x13).f0)) || (!(((rd_T32 x0 x13).f1) == ((rd_T32 x1 x13).f1)) || (!(((rd_T32 x0 x13).f2) == ((rd_T32 x1 x13).f2)) || (!(((rd_T32 x0 x13).f3) == ((rd_T32 x1 x13).f3)) || (!(((rd_T32 x0 x13).f4) == ((rd_T32 x1 x13).f4)) || ((!(((rd_T32 x0 x13).f5.f0) == ((rd_T32 x1 x13).f5.f0)) || (!(((rd_T32 x0 x13).f5.f1) == ((rd_T32 x1 x13).f5.f1)))))))))) = true then (some false) else (api_Obs_41.l0 k x0 x1 x12 (wrap64 (x13 + 1)))) else (none)) else (none)) else (none)) else (some true)
def api_Obs_41.f (k : Nat) (l0 : List (S32)) (l1 : List (S32)) : Option (Bool) := if (l0.length : Int) = (l1.length : Int) then (api_Obs_41.l0 k l0 l1 (l0.length : Int) 0) else (some false)
set_option maxHeartbeats 8000000 in
set_option maxRecDepth 100000 in
theorem api_Obs_41.calls (k : Nat) (A0 : Option Addr) (c0 : Nat) (l0 : List (S32)) (A1 : Option Addr) (c1 : Nat) (l1 : List (S32)) (r : Bool) (w : World) (hr0 : Kd.C k32 w A0 l0.length l0) (hc0 : l0.length ≤ c0) (hr1 : Kd.C k32 w A1 l1.length l1) (hc1 : l1.length ≤ c1) (h : api_Obs_41.f k l0 l1 = some r) :
    Calls Tryz.prog 41 #[.slice A0 l0.length c0, .slice A1 l1.length c1] w fun e w' => e = .returned (.bool r) ∧ Drawn0 w w' := by
  have hu32 := Tryz.underlying32
  have HR0 := Aside0.mk hr0
  have HC0 := Aside0.mk hc0
  clear hr0 hc0
  have HR1 := Aside0.mk hr1
  have HC1 := Aside0.mk hc1
  clear hr1 hc1
  have H : (if (l0.length : Int) = (l1.length : Int) then (api_Obs_41.l0 k l0 l1 (l0.length : Int) 0) else (some false)) = some r := h
  clear h
  by_cases c3 : (l0.length : Int) = (l1.length : Int)
  · rw [if_pos c3] at H
    have c3b0 : ((l0.length : Int) == (l1.length : Int)) = true := beq_iff_eq.mpr c3
    have c3b1 : ((l0.length : Int) != (l1.length : Int)) = false := bne_eq_false_iff_eq.mpr c3
    have c3b2 : (l0.length == l1.length) = true := by first | simpa using c3 | (simp at c3 ⊢; omega)
    clear c3
    have H' := Aside0.mk H
    clear H
    go_enter Tryz.func41, Tryz.ntmps41
    go_wp2
    repeat (go_quiet (fail); try go_wp2)
    go_loopg [13] k (fun kq v13 w' => ∃ (x13_1 : Int), v13 = .int .i64 x13_1 ∧ Aside0 (api_Obs_41.l0 kq l0 l1 (l0.length : Int) x13_1 = some r) ∧ Aside0 (kq ≤ k) ∧ Drawn0 w w')
    case atStart => exact ⟨(0), (by first | rfl | (simp; done) | (simp [*]; done)), H', ⟨Nat.le_refl _⟩, by repeat (first | exact Drawn0.refl _ | apply Drawn0.step)⟩
    case round =>
      clear H'
      try clear c1
      try clear p2
      try clear c3
      try clear c3b0
      try clear c3b1
      try clear c3b2
      obtain ⟨x13_1, rfl, HA, HK1, ⟨m1, rfl⟩⟩ := hrel
      cases gk with
      | zero => exact absurd HA.out (by simp [api_Obs_41.l0])
      | succ k1 =>
        have H := HA.out
        clear HA
        simp only [api_Obs_41.l0] at H
        by_cases c4 : x13_1 < (l0.length : Int)
        · rw [if_pos c4] at H
          have c4b0 : decide (x13_1 < (l0.length : Int)) = true := decide_eq_true c4
          clear c4
          by_cases c5 : 0 ≤ x13_1
          · rw [if_pos c5] at H
            have c5b0 : decide (0 ≤ x13_1) = true := decide_eq_true c5
            clear c5
            by_cases c6 : x13_1 < (l0.length : Int)
            · rw [if_pos c6] at H
              have c6b0 : decide (x13_1 < (l0.length : Int)) = true := decide_eq_true c6
              clear c6
              by_cases c7 : x13_1 < (l1.length : Int)
              · rw [if_pos c7] at H
                have c7b0 : decide (x13_1 < (l1.length : Int)) = true := decide_eq_true c7
                clear c7
                by_cases c8 : (!(((rd_T32 l0 x13_1).f0) == ((rd_T32 l1 x13_1).f0)) || (!(((rd_T32 l0 x13_1).f1) == ((rd_T32 l1 x13_1).f1)) || (!(((rd_T32 l0 x13_1).f2) == ((rd_T32 l1 x13_1).f2)) || (!(((rd_T32 l0 x13_1).f3) == ((rd_T32 l1 x13_1).f3)) || (!(((rd_T32 l0 x13_1).f4) == ((rd_T32 l1 x13_1).f4)) || ((!(((rd_T32 l0 x13_1).f5.f0) == ((rd_T32 l1 x13_1).f5.f0)) || (!(((rd_T32 l0 x13_1).f5.f1) == ((rd_T32 l1 x13_1).f5.f1)))))))))) = true
                · rw [if_pos c8] at H
                  have c8b0 : (!(((rd_T32 l0 x13_1).f0) == ((rd_T32 l1 x13_1).f0)) || (!(((rd_T32 l0 x13_1).f1) == ((rd_T32 l1 x13_1).f1)) || (!(((rd_T32 l0 x13_1).f2) == ((rd_T32 l1 x13_1).f2)) || (!(((rd_T32 l0 x13_1).f3) == ((rd_T32 l1 x13_1).f3)) || (!(((rd_T32 l0 x13_1).f4) == ((rd_T32 l1 x13_1).f4)) || ((!(((rd_T32 l0 x13_1).f5.f0) == ((rd_T32 l1 x13_1).f5.f0)) || (!(((rd_T32 l0 x13_1).f5.f1) == ((rd_T32 l1 x13_1).f5.f1)))))))))) = true := c8
                  clear c8
                  obtain rfl := Option.some.inj H
                  have p471 : 0 ≤ (x13_1 : Int) := of_decide_eq_true (by first | (with_reducible assumption) | assumption)
                  have q471 : x13_1 < (l0.length : Int) := of_decide_eq_true (by first | (with_reducible assumption) | assumption)
                  obtain ⟨ad471, e471, hx471_0, hx471_1, hx471_2, hx471_3, hx471_4, hx471_5, hx471_6⟩ := at_T32 HR0.out x13_1 p471 q471
                  cases e471
                  replace p471 := eq_true p471
                  replace q471 := eq_true q471
                  have p472 : 0 ≤ (x13_1 : Int) := of_decide_eq_true (by first | (with_reducible assumption) | assumption)
                  have q472 : x13_1 < (l1.length : Int) := of_decide_eq_true (by first | (with_reducible assumption) | assumption)
                  obtain ⟨ad472, e472, hx472_0, hx472_1, hx472_2, hx472_3, hx472_4, hx472_5, hx472_6⟩ := at_T32 HR1.out x13_1 p472 q472
                  cases e472
                  replace p472 := eq_true p472
                  replace q472 := eq_true q472
                  go_wp2
                  repeat (go_quiet (fail); try go_wp2)
                  go_ret
                  exact ⟨by first | rfl | (simp; done) | (simp [*]; done), by repeat (first | exact Drawn0.refl _ | apply Drawn0.step)⟩
                · rw [if_neg c8] at H
                  have c8b0 : (!(((rd_T32 l0 x13_1).f0) == ((rd_T32 l1 x13_1).f0)) || (!(((rd_T32 l0 x13_1).f1) == ((rd_T32 l1 x13_1).f1)) || (!(((rd_T32 l0 x13_1).f2) == ((rd_T32 l1 x13_1).f2)) || (!(((rd_T32 l0 x13_1).f3) == ((rd_T32 l1 x13_1).f3)) || (!(((rd_T32 l0 x13_1).f4) == ((rd_T32 l1 x13_1).f4)) || ((!(((rd_T32 l0 x13_1).f5.f0) == ((rd_T32 l1 x13_1).f5.f0)) || (!(((rd_T32 l0 x13_1).f5.f1) == ((rd_T32 l1 x13_1).f5.f1)))))))))) = false := by simpa using c8
                  clear c8
                  have H' := Aside0.mk H
                  clear H
                  have p471 : 0 ≤ (x13_1 : Int) := of_decide_eq_true (by first | (with_reducible assumption) | assumption)
                  have q471 : x13_1 < (l0.length : Int) := of_decide_eq_true (by first | (with_reducible assumption) | assumption)
                  obtain ⟨ad471, e471, hx471_0, hx471_1, hx471_2, hx471_3, hx471_4, hx471_5, hx471_6⟩ := at_T32 HR0.out x13_1 p471 q471
                  cases e471
                  replace p471 := eq_true p471
                  replace q471 := eq_true q471
                  have p472 : 0 ≤ (x13_1 : Int) := of_decide_eq_true (by first | (with_reducible assumption) | assumption)
                  have q472 : x13_1 < (l1.length : Int) := of_decide_eq_true (by first | (with_reducible assumption) | assumption)
                  obtain ⟨ad472, e472, hx472_0, hx472_1, hx472_2, hx472_3, hx472_4, hx472_5, hx472_6⟩ := at_T32 HR1.out x13_1 p472 q472
                  cases e472
                  replace p472 := eq_true p472
                  replace q472 := eq_true q472
                  go_wp2
                  repeat (go_quiet (fail); try go_wp2)
                  go_roundg k1
                  case measure => have := HK1.out; omega
                  case rel => exact ⟨(wrap64 (x13_1 + 1)), (by first | rfl | (simp; done) | (simp [*]; done)), H', ⟨by have := HK1.out; omega⟩, by repeat (first | exact Drawn0.refl _ | apply Drawn0.step)⟩
              · rw [if_neg c7] at H
                exact absurd H (by simp)
            · rw [if_neg c6] at H
              exact absurd H (by simp)
          · rw [if_neg c5] at H
            exact absurd H (by simp)
        · rw [if_neg c4] at H
          have c4b0 : decide (x13_1 < (l0.length : Int)) = false := decide_eq_false c4
          clear c4
          obtain rfl := Option.some.inj H
          go_wp2
          repeat (go_quiet (fail); try go_wp2)
          go_ret
          exact ⟨by first | rfl | (simp; done) | (simp [*]; done), by repeat (first | exact Drawn0.refl _ | apply Drawn0.step)⟩
  · rw [if_neg c3] at H
    have c3b0 : ((l0.length : Int) == (l1.length : Int)) = false := beq_eq_false_iff_ne.mpr c3
    have c3b1 : ((l0.length : Int) != (l1.length : Int)) = true := bne_iff_ne.mpr c3
    have c3b2 : (l0.length == l1.length) = false := by first | simpa using c3 | (simp at c3 ⊢; omega)
    obtain rfl := Option.some.inj H
    go_enter Tryz.func41, Tryz.ntmps41
    go_wp2
    repeat (go_quiet (fail); try go_wp2)
    go_ret
    exact ⟨by first | rfl | (simp; done) | (simp [*]; done), by repeat (first | exact Drawn0.refl _ | apply Drawn0.step)⟩
end Go.Proofs.YtmajmolbjiahlaaGreatDoor.PD
namespace Go.Proofs.YtmajmolbjiahlaaGreatDoor.PD
open Go.RowKit Go.Proofs.YtmajmolbjiahlaaGreatDoorW.PrintWords Go.Proofs.YtmajmolbjiahlaaGreatDoorW.PrintLast Go.Proofs.YtmajmolbjiahlaaGreatDoorW.PrintMore
attribute [local go_sem] isSome_setCell max2_int min2_int max_two min_two max_three min_three max_four min_four
set_option linter.unusedVariables false
set_option linter.unusedSimpArgs false
def zone_Same.f (k : Nat) (a0_0 : ByteArray) (l0_1 : List (S32)) (a1_0 : ByteArray) (l1_1 : List (S32)) : Option (Bool) := if a0_0.toList = a1_0.toList then ((api_Obs_41.f k l0_1 l1_1).bind fun t475 => (some t475)) else (some false)
set_option maxHeartbeats 8000000 in
set_option maxRecDepth 100000 in
theorem zone_Same.calls (k : Nat) (a0_0 : ByteArray) (A0_1 : Option Addr) (c0_1 : Nat) (l0_1 : List (S32)) (a1_0 : ByteArray) (A1_1 : Option Addr) (c1_1 : Nat) (l1_1 : List (S32)) (r : Bool) (w : World) (hr0_1 : Kd.C k32 w A0_1 l0_1.length l0_1) (hc0_1 : l0_1.length ≤ c0_1) (hr1_1 : Kd.C k32 w A1_1 l1_1.length l1_1) (hc1_1 : l1_1.length ≤ c1_1) (h : zone_Same.f k a0_0 l0_1 a1_0 l1_1 = some r) :
    Calls Tryz.prog 21 #[.agg #[.string a0_0, .slice A0_1 l0_1.length c0_1], .agg #[.string a1_0, .slice A1_1 l1_1.length c1_1]] w fun e w' => e = .returned (.bool r) ∧ Below w.heap.size w w' := by
  have hu24 := Tryz.underlying24
  have HR0_1 := Aside0.mk hr0_1
  have HC0_1 := Aside0.mk hc0_1
  clear hr0_1 hc0_1
  have HR1_1 := Aside0.mk hr1_1
  have HC1_1 := Aside0.mk hc1_1
  clear hr1_1 hc1_1
  have HB := Aside0.mk (Below.refl w.heap.size w)
  have H : (if a0_0.toList = a1_0.toList then ((api_Obs_41.f k l0_1 l1_1).bind fun t475 => (some t475)) else (some false)) = some r := h
  clear h
  by_cases c3 : a0_0.toList = a1_0.toList
  · rw [if_pos c3] at H
    have c3b0 : (a0_0.toList == a1_0.toList) = true := beq_iff_eq.mpr c3
    have c3b1 : (a0_0.toList != a1_0.toList) = false := bne_eq_false_iff_eq.mpr c3
    clear c3
    replace H := Option.bind_eq_some_iff.mp H
    obtain ⟨t475, A40, H⟩ := H
    replace H : (some t475) = some r := H
    have A4 := Aside0.mk A40
    clear A40
    obtain rfl := Option.some.inj H
    go_enter Tryz.func21, Tryz.ntmps21
    go_wp2_with (first | ((with_reducible refine gate_dst (N := 2) rfl ?_); refine box_event ?hg (N := 2) ?hd (cs := #[.string a0_0, .slice A0_1 l0_1.length c0_1]) (t := 24) ?hr ?_; (case hd => rfl); (case hg => rfl); (case hr => first | (go_simp; done) | (go_simp; rfl)); intro gb473 hg w5 hbox hb; have n0_ := Aside0.mk (below_step (by repeat (first | (with_reducible first | exact HB.out | apply below_alloc | apply pw_below_drewN | apply below_drew1) | exact HB.out)) hb); have n1_ := Aside0.mk (hbox); have n2_ := Aside0.mk ((by rw [hg]; exact (below_size (by repeat (first | (with_reducible first | exact HB.out | apply below_alloc | apply pw_below_drewN | apply below_drew1) | exact HB.out))) : w.heap.size ≤ gb473)); have n3_ := Aside0.mk ((by rw [hg]; exact (below_size (by repeat (first | (with_reducible first | exact HB.out | apply below_alloc | apply pw_below_drewN | apply below_drew1) | exact HB.out))) : w.heap.size ≤ gb473)); clear HB; have HB := n0_; have BK473 := n1_; have GW473 := n2_; have GE473 := n3_; clear n0_ n1_ n2_ n3_; clear hb hbox hg) | ((with_reducible refine gate_dst (N := 3) rfl ?_); refine box_event ?hg (N := 3) ?hd (cs := #[.string a1_0, .slice A1_1 l1_1.length c1_1]) (t := 24) ?hr ?_; (case hd => rfl); (case hg => rfl); (case hr => first | (go_simp; done) | (go_simp; rfl)); intro gb474 hg w6 hbox hb; have n0_ := Aside0.mk (blk_below (g := gb473) (o := .cells #[.string a0_0, .slice A0_1 l0_1.length c0_1] 24 (0, 0)) (by (with_reducible repeat (first | refine blk_drewN ?_ _ | refine blk_drew ?_ | refine blk_alloc ?_ _)); exact BK473.out) hb); have n1_ := Aside0.mk (below_step (by repeat (first | (with_reducible first | exact HB.out | apply below_alloc | apply pw_below_drewN | apply below_drew1 | refine below_set ?_ GE473.out) | exact HB.out)) hb); have n2_ := Aside0.mk (hbox); have n3_ := Aside0.mk ((by rw [hg]; exact (below_size (by repeat (first | (with_reducible first | exact HB.out | apply below_alloc | apply pw_below_drewN | apply below_drew1 | refine below_set ?_ GE473.out) | exact HB.out))) : w.heap.size ≤ gb474)); have n4_ := Aside0.mk ((by rw [hg]; exact (below_size (by repeat (first | (with_reducible first | exact HB.out | apply below_alloc | apply pw_below_drewN | apply below_drew1 | refine below_set ?_ GE473.out) | exact HB.out))) : w.heap.size ≤ gb474)); have n5_ := Aside0.mk ((by rw [hg]; exact Nat.ne_of_lt (blk_lt (g := gb473) (o := .cells #[.string a0_0, .slice A0_1 l0_1.length c0_1] 24 (0, 0)) (by (with_reducible repeat (first | refine blk_drewN ?_ _ | refine blk_drew ?_ | refine blk_alloc ?_ _)); exact BK473.out)) : gb473 ≠ gb474)); have n6_ := Aside0.mk ((by rw [hg]; exact Nat.ne_of_gt (blk_lt (g := gb473) (o := .cells #[.string a0_0, .slice A0_1 l0_1.length c0_1] 24 (0, 0)) (by (with_reducible repeat (first | refine blk_drewN ?_ _ | refine blk_drew ?_ | refine blk_alloc ?_ _)); exact BK473.out)) : gb474 ≠ gb473)); clear BK473; clear HB; have BK473 := n0_; have HB := n1_; have BK474 := n2_; have GW474 := n3_; have GE474 := n4_; have NB473_474 := n5_; have NB474_473 := n6_; clear n0_ n1_ n2_ n3_ n4_ n5_ n6_; clear hb hbox hg; have hnb7 := NB473_474.out; have hnc7 := NB474_473.out; have hcz8_0 : w6.cell? ⟨gb473, 0, none⟩ = some (.string a0_0) := (blk_cell BK473.out 0).trans rfl; have hcz8_1 : w6.cell? ⟨gb473, 1, none⟩ = some (.slice A0_1 l0_1.length c0_1) := (blk_cell BK473.out 1).trans rfl; have hfz8_0 := blk_frozen BK473.out 0; have hfz8_1 := blk_frozen BK473.out 1; have hcz9_0 : w6.cell? ⟨gb474, 0, none⟩ = some (.string a1_0) := (blk_cell BK474.out 0).trans rfl; have hcz9_1 : w6.cell? ⟨gb474, 1, none⟩ = some (.slice A1_1 l1_1.length c1_1) := (blk_cell BK474.out 1).trans rfl; have hfz9_0 := blk_frozen BK474.out 0; have hfz9_1 := blk_frozen BK474.out 1) | (go_at_call 41; (with_reducible refine (api_Obs_41.calls k _ _ l0_1 _ _ l1_1 t475 _ ?side1 ?side2 ?side3 ?side4 A4.out).mono ?_); (case side1 => repeat (first | exact (Kd.C_below HR0_1.out HB.out) | (with_reducible refine Kd.C_alloc ?_ _) | (with_reducible refine Kd.C_drewN ?_ _) | (with_reducible refine Kd.C_drew ?_))); (case side2 => exact HC0_1.out); (case side3 => repeat (first | exact (Kd.C_below HR1_1.out HB.out) | (with_reducible refine Kd.C_alloc ?_ _) | (with_reducible refine Kd.C_drewN ?_ _) | (with_reducible refine Kd.C_drew ?_))); (case side4 => exact HC1_1.out); rintro e w' ⟨rfl, ⟨nd, rfl⟩⟩))
    go_ret
    exact ⟨by first | rfl | (simp [errW_none, errW_some] <;> rfl) | (simp [*, errW_none, errW_some] <;> rfl), by repeat (first | (with_reducible first | exact HB.out | apply below_alloc | apply pw_below_drewN | apply below_drew1 | refine below_set ?_ GE473.out | refine below_set ?_ GE474.out) | exact HB.out)⟩
  · rw [if_neg c3] at H
    have c3b0 : (a0_0.toList == a1_0.toList) = false := beq_eq_false_iff_ne.mpr c3
    have c3b1 : (a0_0.toList != a1_0.toList) = true := bne_iff_ne.mpr c3
    obtain rfl := Option.some.inj H
    go_enter Tryz.func21, Tryz.ntmps21
    go_wp2_with (first | ((with_reducible refine gate_dst (N := 2) rfl ?_); refine box_event ?hg (N := 2) ?hd (cs := #[.string a0_0, .slice A0_1 l0_1.length c0_1]) (t := 24) ?hr ?_; (case hd => rfl); (case hg => rfl); (case hr => first | (go_simp; done) | (go_simp; rfl)); intro gb473 hg w10 hbox hb; have n0_ := Aside0.mk (below_step (by repeat (first | (with_reducible first | exact HB.out | apply below_alloc | apply pw_below_drewN | apply below_drew1) | exact HB.out)) hb); have n1_ := Aside0.mk (hbox); have n2_ := Aside0.mk ((by rw [hg]; exact (below_size (by repeat (first | (with_reducible first | exact HB.out | apply below_alloc | apply pw_below_drewN | apply below_drew1) | exact HB.out))) : w.heap.size ≤ gb473)); have n3_ := Aside0.mk ((by rw [hg]; exact (below_size (by repeat (first | (with_reducible first | exact HB.out | apply below_alloc | apply pw_below_drewN | apply below_drew1) | exact HB.out))) : w.heap.size ≤ gb473)); clear HB; have HB := n0_; have BK473 := n1_; have GW473 := n2_; have GE473 := n3_; clear n0_ n1_ n2_ n3_; clear hb hbox hg) | ((with_reducible refine gate_dst (N := 3) rfl ?_); refine box_event ?hg (N := 3) ?hd (cs := #[.string a1_0, .slice A1_1 l1_1.length c1_1]) (t := 24) ?hr ?_; (case hd => rfl); (case hg => rfl); (case hr => first | (go_simp; done) | (go_simp; rfl)); intro gb474 hg w11 hbox hb; have n0_ := Aside0.mk (blk_below (g := gb473) (o := .cells #[.string a0_0, .slice A0_1 l0_1.length c0_1] 24 (0, 0)) (by (with_reducible repeat (first | refine blk_drewN ?_ _ | refine blk_drew ?_ | refine blk_alloc ?_ _)); exact BK473.out) hb); have n1_ := Aside0.mk (below_step (by repeat (first | (with_reducible first | exact HB.out | apply below_alloc | apply pw_below_drewN | apply below_drew1 | refine below_set ?_ GE473.out) | exact HB.out)) hb); have n2_ := Aside0.mk (hbox); have n3_ := Aside0.mk ((by rw [hg]; exact (below_size (by repeat (first | (with_reducible first | exact HB.out | apply below_alloc | apply pw_below_drewN | apply below_drew1 | refine below_set ?_ GE473.out) | exact HB.out))) : w.heap.size ≤ gb474)); have n4_ := Aside0.mk ((by rw [hg]; exact (below_size (by repeat (first | (with_reducible first | exact HB.out | apply below_alloc | apply pw_below_drewN | apply below_drew1 | refine below_set ?_ GE473.out) | exact HB.out))) : w.heap.size ≤ gb474)); have n5_ := Aside0.mk ((by rw [hg]; exact Nat.ne_of_lt (blk_lt (g := gb473) (o := .cells #[.string a0_0, .slice A0_1 l0_1.length c0_1] 24 (0, 0)) (by (with_reducible repeat (first | refine blk_drewN ?_ _ | refine blk_drew ?_ | refine blk_alloc ?_ _)); exact BK473.out)) : gb473 ≠ gb474)); have n6_ := Aside0.mk ((by rw [hg]; exact Nat.ne_of_gt (blk_lt (g := gb473) (o := .cells #[.string a0_0, .slice A0_1 l0_1.length c0_1] 24 (0, 0)) (by (with_reducible repeat (first | refine blk_drewN ?_ _ | refine blk_drew ?_ | refine blk_alloc ?_ _)); exact BK473.out)) : gb474 ≠ gb473)); clear BK473; clear HB; have BK473 := n0_; have HB := n1_; have BK474 := n2_; have GW474 := n3_; have GE474 := n4_; have NB473_474 := n5_; have NB474_473 := n6_; clear n0_ n1_ n2_ n3_ n4_ n5_ n6_; clear hb hbox hg; have hnb12 := NB473_474.out; have hnc12 := NB474_473.out; have hcz13_0 : w11.cell? ⟨gb473, 0, none⟩ = some (.string a0_0) := (blk_cell BK473.out 0).trans rfl; have hcz13_1 : w11.cell? ⟨gb473, 1, none⟩ = some (.slice A0_1 l0_1.length c0_1) := (blk_cell BK473.out 1).trans rfl; have hfz13_0 := blk_frozen BK473.out 0; have hfz13_1 := blk_frozen BK473.out 1; have hcz14_0 : w11.cell? ⟨gb474, 0, none⟩ = some (.string a1_0) := (blk_cell BK474.out 0).trans rfl; have hcz14_1 : w11.cell? ⟨gb474, 1, none⟩ = some (.slice A1_1 l1_1.length c1_1) := (blk_cell BK474.out 1).trans rfl; have hfz14_0 := blk_frozen BK474.out 0; have hfz14_1 := blk_frozen BK474.out 1))
    go_ret
    exact ⟨by first | rfl | (simp [errW_none, errW_some] <;> rfl) | (simp [*, errW_none, errW_some] <;> rfl), by repeat (first | (with_reducible first | exact HB.out | apply below_alloc | apply pw_below_drewN | apply below_drew1 | refine below_set ?_ GE473.out | refine below_set ?_ GE474.out) | exact HB.out)⟩
end Go.Proofs.YtmajmolbjiahlaaGreatDoor.PD
