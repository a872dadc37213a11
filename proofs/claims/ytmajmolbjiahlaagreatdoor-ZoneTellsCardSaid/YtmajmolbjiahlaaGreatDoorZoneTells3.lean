/- Part 3 of the texts that the claim leans on: the functions' walks, and what they compute. -/
import Derived.Test.YtmajmolbjiahlaaGreatDoorZoneTells2
namespace Go.Proofs.YtmajmolbjiahlaaGreatDoor.PD
open Go.RowKit Go.Proofs.YtmajmolbjiahlaaGreatDoorW.PrintWords Go.Proofs.YtmajmolbjiahlaaGreatDoorW.PrintLast Go.Proofs.YtmajmolbjiahlaaGreatDoorW.PrintMore
attribute [local go_sem] isSome_setCell max2_int min2_int max_two min_two max_three min_three max_four min_four
set_option linter.unusedVariables false
set_option linter.unusedSimpArgs false
mutual
def almanacref10_Civil.j0 : Nat → Int → Bool → Option (Int × Int × Int × Bool)
  | 0, _, _ => none
  | k + 1, x0, x19 => if x19 = true then (some (0, 0, 0, false)) else (almanacref10_Civil.l0 k x0 1 9999)
def almanacref10_Civil.l0 : Nat → Int → Int → Int → Option (Int × Int × Int × Bool)
  | 0, _, _, _ => none
  | k + 1, x0, x6, x7 => if x6 < x7 then ((almanacref10_ahead.f (wrap64 (Int.tdiv (wrap64 ((wrap64 (x6 + x7)) + 1)) 2))).bind fun t139 => (if (wrap64 ((-719162) + t139)) ≤ x0 then (almanacref10_Civil.l0 k x0 (wrap64 (Int.tdiv (wrap64 ((wrap64 (x6 + x7)) + 1)) 2)) x7) else (almanacref10_Civil.l0 k x0 x6 (wrap64 ((wrap64 (Int.tdiv (wrap64 ((wrap64 (x6 + x7)) + 1)) 2)) - 1))))) else ((almanacref10_ahead.f x6).bind fun t140 => (almanacref10_Civil.l1 k x6 (wrap64 ((wrap64 (x0 - (-719162))) - t140)) 1))
def almanacref10_Civil.l1 : Nat → Int → Int → Int → Option (Int × Int × Int × Bool)
  | 0, _, _, _ => none
  | k + 1, x6, x9, x10 => (almanacref10_Length.f k x6 x10).bind fun t141 => (if x9 ≥ t141 then ((almanacref10_Length.f k x6 x10).bind fun t142 => (almanacref10_Civil.l1 k x6 (wrap64 (x9 - t142)) (wrap64 (x10 + 1)))) else (some (x6, x10, wrap64 (x9 + 1), true)))
end
def almanacref10_Civil.f (k : Nat) (a0 : Int) : Option (Int × Int × Int × Bool) := if a0 < (-719162) then (almanacref10_Civil.j0 k a0 true) else ((almanacref10_ahead.f 10000).bind fun t138 => (almanacref10_Civil.j0 k a0 (decide (a0 > (wrap64 ((wrap64 ((-719162) + t138)) - 1))))))
set_option maxHeartbeats 8000000 in
set_option maxRecDepth 100000 in
theorem almanacref10_Civil.calls (k : Nat) (a0 : Int) (r1 : Int) (r2 : Int) (r3 : Int) (r4 : Bool) (w : World) (h : almanacref10_Civil.f k a0 = some (r1, r2, r3, r4)) :
    Calls Tryz.prog 46 #[.int .i64 a0] w fun e w' => e = .returned (.tuple #[.int .i64 r1, .int .i64 r2, .int .i64 r3, .bool r4]) ∧ Drawn0 w w' := by
  have H : (if a0 < (-719162) then (almanacref10_Civil.j0 k a0 true) else ((almanacref10_ahead.f 10000).bind fun t138 => (almanacref10_Civil.j0 k a0 (decide (a0 > (wrap64 ((wrap64 ((-719162) + t138)) - 1))))))) = some (r1, r2, r3, r4) := h
  clear h
  have HC2 := Aside0.mk H
  clear H
  go_enter Tryz.func46, Tryz.ntmps46
  go_upto_region 1 with (fail)
  go_cut [19] (fun v19 wc => ∃ (kq : Nat) (x19_1 : Bool), v19 = .bool x19_1 ∧ Aside0 (almanacref10_Civil.j0 kq a0 x19_1 = some (r1, r2, r3, r4)) ∧ Aside0 (kq ≤ k) ∧ Drawn0 w wc)
  case first =>
    have H := HC2.out
    clear HC2
    by_cases c3 : a0 < (-719162)
    · rw [if_pos c3] at H
      have c3b0 : decide (a0 < (-719162)) = true := decide_eq_true c3
      clear c3
      (first | rw [c3b0] | (simp only [i64_w, i32_w]; rw [c3b0]) | skip)
      have H' := Aside0.mk H
      clear H
      go_wp2
      go_meet
      case rel => exact ⟨_, (true), (by first | rfl | (simp; done) | (simp [*]; done)), H', ⟨by first | omega | exact Nat.le_refl _⟩, by repeat (first | exact Drawn0.refl _ | apply Drawn0.step)⟩
    · rw [if_neg c3] at H
      have c3b0 : decide (a0 < (-719162)) = false := decide_eq_false c3
      clear c3
      (first | rw [c3b0] | (simp only [i64_w, i32_w]; rw [c3b0]) | skip)
      replace H := Option.bind_eq_some_iff.mp H
      obtain ⟨t138, A40, H⟩ := H
      replace H : (almanacref10_Civil.j0 k a0 (decide (a0 > (wrap64 ((wrap64 ((-719162) + t138)) - 1))))) = some (r1, r2, r3, r4) := H
      have A4 := Aside0.mk A40
      clear A40
      have H' := Aside0.mk H
      clear H
      go_wp2_with (first | (go_at_call 65; (with_reducible refine (almanacref10_ahead.calls 10000 t138 _ A4.out).mono ?_); rintro e w' ⟨rfl, ⟨nd, rfl⟩⟩))
      go_meet
      case rel => exact ⟨_, (decide (a0 > (wrap64 ((wrap64 ((-719162) + t138)) - 1)))), (by first | rfl | (simp; done) | (simp [*]; done)), H', ⟨by first | omega | exact Nat.le_refl _⟩, by repeat (first | exact Drawn0.refl _ | apply Drawn0.step)⟩
  case rest =>
    clear HC2
    try clear p2
    try clear c3
    try clear c3b0
    try clear c4
    obtain ⟨kq, x19_1, rfl, HA, HJ1, ⟨mc1, rfl⟩⟩ := hcut
    cases kq with
    | zero => exact absurd HA.out (by simp [almanacref10_Civil.j0])
    | succ kj1 =>
      have H := HA.out
      clear HA
      simp only [almanacref10_Civil.j0] at H
      by_cases c5 : x19_1 = true
      · subst c5
        have H1 : (some (0, 0, 0, false)) = some (r1, r2, r3, r4) := by rw [if_pos rfl] at H; exact H
        clear H
        have H := H1
        clear H1
        simp only [Option.some.injEq, Prod.mk.injEq] at H
        obtain ⟨rfl, rfl, rfl, rfl⟩ := H
        go_wp2
        refine bodyPost_ret (results_list (rs := [.tmp 2, .tmp 3, .tmp 4, .tmp 5]) rfl (by simp) (.tmp (.tmp (.tmp (.tmp .nil))))) rfl ?_
        exact ⟨by first | rfl | (simp; done) | (simp [*]; done), by repeat (first | exact Drawn0.refl _ | apply Drawn0.step)⟩
      · replace c5 := Bool.eq_false_iff.mpr c5
        subst c5
        have H1 : (almanacref10_Civil.l0 kj1 a0 1 9999) = some (r1, r2, r3, r4) := by rw [if_neg (show ¬ (false = true) by decide)] at H; exact H
        clear H
        have H := H1
        clear H1
        have H' := Aside0.mk H
        clear H
        go_wp2
        go_loopg [6, 7] kj1 (fun kq v6 v7 w' => ∃ (x6_2 : Int) (x7_2 : Int), v6 = .int .i64 x6_2 ∧ v7 = .int .i64 x7_2 ∧ Aside0 (almanacref10_Civil.l0 kq a0 x6_2 x7_2 = some (r1, r2, r3, r4)) ∧ Aside0 (kq ≤ kj1) ∧ Drawn0 w w')
        case atStart => exact ⟨(1), (9999), (by first | rfl | (simp; done) | (simp [*]; done)), (by first | rfl | (simp; done) | (simp [*]; done)), H', ⟨Nat.le_refl _⟩, by repeat (first | exact Drawn0.refl _ | apply Drawn0.step)⟩
        case round =>
          clear H'
          try clear c1
          try clear p2
          try clear c3
          try clear c3b0
          try clear c4
          try clear c5
          try clear p2
          obtain ⟨x6_2, x7_2, rfl, rfl, HA, HK2, ⟨m2, rfl⟩⟩ := hrel
          cases gk with
          | zero => exact absurd HA.out (by simp [almanacref10_Civil.l0])
          | succ k2 =>
            have H := HA.out
            clear HA
            simp only [almanacref10_Civil.l0] at H
            by_cases c6 : x6_2 < x7_2
            · rw [if_pos c6] at H
              have c6b0 : decide (x6_2 < x7_2) = true := decide_eq_true c6
              clear c6
              replace H := Option.bind_eq_some_iff.mp H
              obtain ⟨t139, A70, H⟩ := H
              replace H : (if (wrap64 ((-719162) + t139)) ≤ a0 then (almanacref10_Civil.l0 k2 a0 (wrap64 (Int.tdiv (wrap64 ((wrap64 (x6_2 + x7_2)) + 1)) 2)) x7_2) else (almanacref10_Civil.l0 k2 a0 x6_2 (wrap64 ((wrap64 (Int.tdiv (wrap64 ((wrap64 (x6_2 + x7_2)) + 1)) 2)) - 1)))) = some (r1, r2, r3, r4) := H
              have A7 := Aside0.mk A70
              clear A70
              by_cases c8 : (wrap64 ((-719162) + t139)) ≤ a0
              · rw [if_pos c8] at H
                have c8b0 : decide ((wrap64 ((-719162) + t139)) ≤ a0) = true := decide_eq_true c8
                clear c8
                have H' := Aside0.mk H
                clear H
                go_wp2_with (first | ((with_reducible refine gate_callee (f := 65) rfl ?_); refine goesL_ (some 29) rfl rfl Tryz.func65 (by kernel_rfl) rfl #[.int .i64 (wrap64 (Int.tdiv (wrap64 ((wrap64 (x6_2 + x7_2)) + 1)) 2))] rfl (by (try simp only [List.map_toArray, List.map_cons, List.map_nil]); first | done | rfl | (simp only [List.length_drop, List.length_take]; rfl)) ?_; (with_reducible refine (almanacref10_ahead.calls (wrap64 (Int.tdiv (wrap64 ((wrap64 (x6_2 + x7_2)) + 1)) 2)) t139 _ A7.out).mono ?_); rintro e w' ⟨rfl, ⟨nd, rfl⟩⟩; refine ⟨_, rfl, ?_⟩))
                go_roundg k2
                case measure => have := HJ1.out; have := HK2.out; omega
                case rel => exact ⟨(wrap64 (Int.tdiv (wrap64 ((wrap64 (x6_2 + x7_2)) + 1)) 2)), (x7_2), (by first | rfl | (simp; done) | (simp [*]; done)), (by first | rfl | (simp; done) | (simp [*]; done)), H', ⟨by have := HJ1.out; have := HK2.out; omega⟩, by repeat (first | exact Drawn0.refl _ | apply Drawn0.step)⟩
              · rw [if_neg c8] at H
                have c8b0 : decide ((wrap64 ((-719162) + t139)) ≤ a0) = false := decide_eq_false c8
                clear c8
                have H' := Aside0.mk H
                clear H
                go_wp2_with (first | ((with_reducible refine gate_callee (f := 65) rfl ?_); refine goesL_ (some 29) rfl rfl Tryz.func65 (by kernel_rfl) rfl #[.int .i64 (wrap64 (Int.tdiv (wrap64 ((wrap64 (x6_2 + x7_2)) + 1)) 2))] rfl (by (try simp only [List.map_toArray, List.map_cons, List.map_nil]); first | done | rfl | (simp only [List.length_drop, List.length_take]; rfl)) ?_; (with_reducible refine (almanacref10_ahead.calls (wrap64 (Int.tdiv (wrap64 ((wrap64 (x6_2 + x7_2)) + 1)) 2)) t139 _ A7.out).mono ?_); rintro e w' ⟨rfl, ⟨nd, rfl⟩⟩; refine ⟨_, rfl, ?_⟩))
                go_roundg k2
                case measure => have := HJ1.out; have := HK2.out; omega
                case rel => exact ⟨(x6_2), (wrap64 ((wrap64 (Int.tdiv (wrap64 ((wrap64 (x6_2 + x7_2)) + 1)) 2)) - 1)), (by first | rfl | (simp; done) | (simp [*]; done)), (by first | rfl | (simp; done) | (simp [*]; done)), H', ⟨by have := HJ1.out; have := HK2.out; omega⟩, by repeat (first | exact Drawn0.refl _ | apply Drawn0.step)⟩
            · rw [if_neg c6] at H
              have c6b0 : decide (x6_2 < x7_2) = false := decide_eq_false c6
              clear c6
              replace H := Option.bind_eq_some_iff.mp H
              obtain ⟨t140, A90, H⟩ := H
              replace H : (almanacref10_Civil.l1 k2 x6_2 (wrap64 ((wrap64 (a0 - (-719162))) - t140)) 1) = some (r1, r2, r3, r4) := H
              have A9 := Aside0.mk A90
              clear A90
              have H' := Aside0.mk H
              clear H
              go_wp2_with (first | ((with_reducible refine gate_callee (f := 65) rfl ?_); refine goesL_ (some 39) rfl rfl Tryz.func65 (by kernel_rfl) rfl #[.int .i64 x6_2] rfl (by (try simp only [List.map_toArray, List.map_cons, List.map_nil]); first | done | rfl | (simp only [List.length_drop, List.length_take]; rfl)) ?_; (with_reducible refine (almanacref10_ahead.calls x6_2 t140 _ A9.out).mono ?_); rintro e w' ⟨rfl, ⟨nd, rfl⟩⟩; refine ⟨_, rfl, ?_⟩))
              go_loopg [9, 10] k2 (fun kq v9 v10 w' => ∃ (x9_3 : Int) (x10_3 : Int), v9 = .int .i64 x9_3 ∧ v10 = .int .i64 x10_3 ∧ Aside0 (almanacref10_Civil.l1 kq x6_2 x9_3 x10_3 = some (r1, r2, r3, r4)) ∧ Aside0 (kq ≤ k2) ∧ Drawn0 w w')
              case atStart => exact ⟨(wrap64 ((wrap64 (a0 - (-719162))) - t140)), (1), (by first | rfl | (simp; done) | (simp [*]; done)), (by first | rfl | (simp; done) | (simp [*]; done)), H', ⟨Nat.le_refl _⟩, by repeat (first | exact Drawn0.refl _ | apply Drawn0.step)⟩
              case round =>
                clear H'
                try clear c1
                try clear p2
                try clear c3
                try clear c3b0
                try clear c4
                try clear c5
                try clear c6
                try clear c6b0
                try clear p6
                try clear c8
                try clear c8b0
                try clear p2
                obtain ⟨x9_3, x10_3, rfl, rfl, HA, HK3, ⟨m3, rfl⟩⟩ := hrel
                cases gk with
                | zero => exact absurd HA.out (by simp [almanacref10_Civil.l1])
                | succ k3 =>
                  have H := HA.out
                  clear HA
                  simp only [almanacref10_Civil.l1] at H
                  replace H := Option.bind_eq_some_iff.mp H
                  obtain ⟨t141, A100, H⟩ := H
                  replace H : (if x9_3 ≥ t141 then ((almanacref10_Length.f k3 x6_2 x10_3).bind fun t142 => (almanacref10_Civil.l1 k3 x6_2 (wrap64 (x9_3 - t142)) (wrap64 (x10_3 + 1)))) else (some (x6_2, x10_3, wrap64 (x9_3 + 1), true))) = some (r1, r2, r3, r4) := H
                  have A10 := Aside0.mk A100
                  clear A100
                  by_cases c11 : x9_3 ≥ t141
                  · rw [if_pos c11] at H
                    have c11b0 : decide (t141 ≤ x9_3) = true := decide_eq_true c11
                    clear c11
                    replace H := Option.bind_eq_some_iff.mp H
                    obtain ⟨t142, A120, H⟩ := H
                    replace H : (almanacref10_Civil.l1 k3 x6_2 (wrap64 (x9_3 - t142)) (wrap64 (x10_3 + 1))) = some (r1, r2, r3, r4) := H
                    have A12 := Aside0.mk A120
                    clear A120
                    have H' := Aside0.mk H
                    clear H
                    go_wp2_with (first | ((with_reducible refine gate_callee (f := 66) rfl ?_); refine goesL_ (some 44) rfl rfl Tryz.func66 (by kernel_rfl) rfl #[.int .i64 x6_2, .int .i64 x10_3] rfl (by (try simp only [List.map_toArray, List.map_cons, List.map_nil]); first | done | rfl | (simp only [List.length_drop, List.length_take]; rfl)) ?_; (with_reducible refine (almanacref10_Length.calls k3 x6_2 x10_3 t141 _ A10.out).mono ?_); rintro e w' ⟨rfl, ⟨nd, rfl⟩⟩; refine ⟨_, rfl, ?_⟩) | ((with_reducible refine gate_callee (f := 66) rfl ?_); refine goesL_ (some 49) rfl rfl Tryz.func66 (by kernel_rfl) rfl #[.int .i64 x6_2, .int .i64 x10_3] rfl (by (try simp only [List.map_toArray, List.map_cons, List.map_nil]); first | done | rfl | (simp only [List.length_drop, List.length_take]; rfl)) ?_; (with_reducible refine (almanacref10_Length.calls k3 x6_2 x10_3 t142 _ A12.out).mono ?_); rintro e w' ⟨rfl, ⟨nd, rfl⟩⟩; refine ⟨_, rfl, ?_⟩))
                    go_roundg k3
                    case measure => have := HJ1.out; have := HK2.out; have := HK3.out; omega
                    case rel => exact ⟨(wrap64 (x9_3 - t142)), (wrap64 (x10_3 + 1)), (by first | rfl | (simp; done) | (simp [*]; done)), (by first | rfl | (simp; done) | (simp [*]; done)), H', ⟨by have := HJ1.out; have := HK2.out; have := HK3.out; omega⟩, by repeat (first | exact Drawn0.refl _ | apply Drawn0.step)⟩
                  · rw [if_neg c11] at H
                    have c11b0 : decide (t141 ≤ x9_3) = false := decide_eq_false c11
                    clear c11
                    simp only [Option.some.injEq, Prod.mk.injEq] at H
                    obtain ⟨rfl, rfl, rfl, rfl⟩ := H
                    go_wp2_with (first | ((with_reducible refine gate_callee (f := 66) rfl ?_); refine goesL_ (some 44) rfl rfl Tryz.func66 (by kernel_rfl) rfl #[.int .i64 x6_2, .int .i64 x10_3] rfl (by (try simp only [List.map_toArray, List.map_cons, List.map_nil]); first | done | rfl | (simp only [List.length_drop, List.length_take]; rfl)) ?_; (with_reducible refine (almanacref10_Length.calls k3 x6_2 x10_3 t141 _ A10.out).mono ?_); rintro e w' ⟨rfl, ⟨nd, rfl⟩⟩; refine ⟨_, rfl, ?_⟩))
                    refine bodyPost_ret (results_list (rs := [.tmp 2, .tmp 3, .tmp 4, .tmp 5]) rfl (by simp) (.tmp (.tmp (.tmp (.tmp .nil))))) rfl ?_
                    exact ⟨by first | rfl | (simp; done) | (simp [*]; done), by repeat (first | exact Drawn0.refl _ | apply Drawn0.step)⟩
end Go.Proofs.YtmajmolbjiahlaaGreatDoor.PD
namespace Go.Proofs.YtmajmolbjiahlaaGreatDoor.PD
open Go.RowKit Go.Proofs.YtmajmolbjiahlaaGreatDoorW.PrintWords Go.Proofs.YtmajmolbjiahlaaGreatDoorW.PrintLast Go.Proofs.YtmajmolbjiahlaaGreatDoorW.PrintMore
attribute [local go_sem] isSome_setCell max2_int min2_int max_two min_two max_three min_three max_four min_four
set_option linter.unusedVariables false
set_option linter.unusedSimpArgs false
mutual
def almanacref10_Days.j0 : Nat → Int → Int → Int → Bool → Option (Int × Bool)
  | 0, _, _, _, _ => none
  | k + 1, x0, x1, x2, x18 => if x18 = true then (some (0, false)) else ((almanacref10_ahead.f x0).bind fun t144 => (almanacref10_Days.l0 k x0 x1 x2 t144 1))
def almanacref10_Days.l0 : Nat → Int → Int → Int → Int → Int → Option (Int × Bool)
  | 0, _, _, _, _, _ => none
  | k + 1, x0, x1, x2, x8, x9 => if x9 < x1 then ((almanacref10_Length.f k x0 x9).bind fun t145 => (almanacref10_Days.l0 k x0 x1 x2 (wrap64 (x8 + t145)) (wrap64 (x9 + 1)))) else (some (wrap64 ((wrap64 ((-719162) + x8)) + (wrap64 (x2 - 1))), true))
end
def almanacref10_Days.f (k : Nat) (a0 : Int) (a1 : Int) (a2 : Int) : Option (Int × Bool) := if a2 < 1 then (almanacref10_Days.j0 k a0 a1 a2 true) else ((almanacref10_Length.f k a0 a1).bind fun t143 => (almanacref10_Days.j0 k a0 a1 a2 (decide (a2 > t143))))
set_option maxHeartbeats 8000000 in
set_option maxRecDepth 100000 in
theorem almanacref10_Days.calls (k : Nat) (a0 : Int) (a1 : Int) (a2 : Int) (r1 : Int) (r2 : Bool) (w : World) (h : almanacref10_Days.f k a0 a1 a2 = some (r1, r2)) :
    Calls Tryz.prog 67 #[.int .i64 a0, .int .i64 a1, .int .i64 a2] w fun e w' => e = .returned (.tuple #[.int .i64 r1, .bool r2]) ∧ Drawn0 w w' := by
  have H : (if a2 < 1 then (almanacref10_Days.j0 k a0 a1 a2 true) else ((almanacref10_Length.f k a0 a1).bind fun t143 => (almanacref10_Days.j0 k a0 a1 a2 (decide (a2 > t143))))) = some (r1, r2) := h
  clear h
  have HC4 := Aside0.mk H
  clear H
  go_enter Tryz.func67, Tryz.ntmps67
  go_upto_region 1 with (fail)
  go_cut [18] (fun v18 wc => ∃ (kq : Nat) (x18_3 : Bool), v18 = .bool x18_3 ∧ Aside0 (almanacref10_Days.j0 kq a0 a1 a2 x18_3 = some (r1, r2)) ∧ Aside0 (kq ≤ k) ∧ Drawn0 w wc)
  case first =>
    have H := HC4.out
    clear HC4
    by_cases c5 : a2 < 1
    · rw [if_pos c5] at H
      have c5b0 : decide (a2 < 1) = true := decide_eq_true c5
      clear c5
      (first | rw [c5b0] | (simp only [i64_w, i32_w]; rw [c5b0]) | skip)
      have H' := Aside0.mk H
      clear H
      go_wp2
      go_meet
      case rel => exact ⟨_, (true), (by first | rfl | (simp; done) | (simp [*]; done)), H', ⟨by first | omega | exact Nat.le_refl _⟩, by repeat (first | exact Drawn0.refl _ | apply Drawn0.step)⟩
    · rw [if_neg c5] at H
      have c5b0 : decide (a2 < 1) = false := decide_eq_false c5
      clear c5
      (first | rw [c5b0] | (simp only [i64_w, i32_w]; rw [c5b0]) | skip)
      replace H := Option.bind_eq_some_iff.mp H
      obtain ⟨t143, A60, H⟩ := H
      replace H : (almanacref10_Days.j0 k a0 a1 a2 (decide (a2 > t143))) = some (r1, r2) := H
      have A6 := Aside0.mk A60
      clear A60
      have H' := Aside0.mk H
      clear H
      go_wp2_with (first | (go_at_call 66; (with_reducible refine (almanacref10_Length.calls k a0 a1 t143 _ A6.out).mono ?_); rintro e w' ⟨rfl, ⟨nd, rfl⟩⟩))
      go_meet
      case rel => exact ⟨_, (decide (a2 > t143)), (by first | rfl | (simp; done) | (simp [*]; done)), H', ⟨by first | omega | exact Nat.le_refl _⟩, by repeat (first | exact Drawn0.refl _ | apply Drawn0.step)⟩
  case rest =>
    clear HC4
    try clear p2
    try clear c5
    try clear c5b0
    try clear c6
    obtain ⟨kq, x18_3, rfl, HA, HJ3, ⟨mc3, rfl⟩⟩ := hcut
    cases kq with
    | zero => exact absurd HA.out (by simp [almanacref10_Days.j0])
    | succ kj3 =>
      have H := HA.out
      clear HA
      simp only [almanacref10_Days.j0] at H
      by_cases c7 : x18_3 = true
      · subst c7
        have H1 : (some (0, false)) = some (r1, r2) := by rw [if_pos rfl] at H; exact H
        clear H
        have H := H1
        clear H1
        simp only [Option.some.injEq, Prod.mk.injEq] at H
        obtain ⟨rfl, rfl⟩ := H
        go_wp2
        go_ret2
        exact ⟨by first | rfl | (simp; done) | (simp [*]; done), by repeat (first | exact Drawn0.refl _ | apply Drawn0.step)⟩
      · replace c7 := Bool.eq_false_iff.mpr c7
        subst c7
        have H1 : ((almanacref10_ahead.f a0).bind fun t144 => (almanacref10_Days.l0 kj3 a0 a1 a2 t144 1)) = some (r1, r2) := by rw [if_neg (show ¬ (false = true) by decide)] at H; exact H
        clear H
        have H := H1
        clear H1
        replace H := Option.bind_eq_some_iff.mp H
        obtain ⟨t144, A80, H⟩ := H
        replace H : (almanacref10_Days.l0 kj3 a0 a1 a2 t144 1) = some (r1, r2) := H
        have A8 := Aside0.mk A80
        clear A80
        have H' := Aside0.mk H
        clear H
        go_wp2_with (first | ((with_reducible refine gate_callee (f := 65) rfl ?_); refine goesL_ (some 20) rfl rfl Tryz.func65 (by kernel_rfl) rfl #[.int .i64 a0] rfl (by (try simp only [List.map_toArray, List.map_cons, List.map_nil]); first | done | rfl | (simp only [List.length_drop, List.length_take]; rfl)) ?_; (with_reducible refine (almanacref10_ahead.calls a0 t144 _ A8.out).mono ?_); rintro e w' ⟨rfl, ⟨nd, rfl⟩⟩; refine ⟨_, rfl, ?_⟩))
        go_loopg [8, 9] kj3 (fun kq v8 v9 w' => ∃ (x8_2 : Int) (x9_2 : Int), v8 = .int .i64 x8_2 ∧ v9 = .int .i64 x9_2 ∧ Aside0 (almanacref10_Days.l0 kq a0 a1 a2 x8_2 x9_2 = some (r1, r2)) ∧ Aside0 (kq ≤ kj3) ∧ Drawn0 w w')
        case atStart => exact ⟨(t144), (1), (by first | rfl | (simp; done) | (simp [*]; done)), (by first | rfl | (simp; done) | (simp [*]; done)), H', ⟨Nat.le_refl _⟩, by repeat (first | exact Drawn0.refl _ | apply Drawn0.step)⟩
        case round =>
          clear H'
          try clear p2
          try clear c3
          try clear c5
          try clear c5b0
          try clear c6
          try clear c7
          try clear p2
          obtain ⟨x8_2, x9_2, rfl, rfl, HA, HK2, ⟨m2, rfl⟩⟩ := hrel
          cases gk with
          | zero => exact absurd HA.out (by simp [almanacref10_Days.l0])
          | succ k2 =>
            have H := HA.out
            clear HA
            simp only [almanacref10_Days.l0] at H
            by_cases c9 : x9_2 < a1
            · rw [if_pos c9] at H
              have c9b0 : decide (x9_2 < a1) = true := decide_eq_true c9
              clear c9
              replace H := Option.bind_eq_some_iff.mp H
              obtain ⟨t145, A100, H⟩ := H
              replace H : (almanacref10_Days.l0 k2 a0 a1 a2 (wrap64 (x8_2 + t145)) (wrap64 (x9_2 + 1))) = some (r1, r2) := H
              have A10 := Aside0.mk A100
              clear A100
              have H' := Aside0.mk H
              clear H
              go_wp2_with (first | ((with_reducible refine gate_callee (f := 66) rfl ?_); refine goesL_ (some 29) rfl rfl Tryz.func66 (by kernel_rfl) rfl #[.int .i64 a0, .int .i64 x9_2] rfl (by (try simp only [List.map_toArray, List.map_cons, List.map_nil]); first | done | rfl | (simp only [List.length_drop, List.length_take]; rfl)) ?_; (with_reducible refine (almanacref10_Length.calls k2 a0 x9_2 t145 _ A10.out).mono ?_); rintro e w' ⟨rfl, ⟨nd, rfl⟩⟩; refine ⟨_, rfl, ?_⟩))
              go_roundg k2
              case measure => have := HJ3.out; have := HK2.out; omega
              case rel => exact ⟨(wrap64 (x8_2 + t145)), (wrap64 (x9_2 + 1)), (by first | rfl | (simp; done) | (simp [*]; done)), (by first | rfl | (simp; done) | (simp [*]; done)), H', ⟨by have := HJ3.out; have := HK2.out; omega⟩, by repeat (first | exact Drawn0.refl _ | apply Drawn0.step)⟩
            · rw [if_neg c9] at H
              have c9b0 : decide (x9_2 < a1) = false := decide_eq_false c9
              clear c9
              simp only [Option.some.injEq, Prod.mk.injEq] at H
              obtain ⟨rfl, rfl⟩ := H
              go_wp2
              go_ret2
              exact ⟨by first | rfl | (simp; done) | (simp [*]; done), by repeat (first | exact Drawn0.refl _ | apply Drawn0.step)⟩
end Go.Proofs.YtmajmolbjiahlaaGreatDoor.PD
namespace Go.Proofs.YtmajmolbjiahlaaGreatDoor.PD
open Go.RowKit Go.Proofs.YtmajmolbjiahlaaGreatDoorW.PrintWords Go.Proofs.YtmajmolbjiahlaaGreatDoorW.PrintLast Go.Proofs.YtmajmolbjiahlaaGreatDoorW.PrintMore
attribute [local go_sem] isSome_setCell max2_int min2_int max_two min_two max_three min_three max_four min_four
set_option linter.unusedVariables false
set_option linter.unusedSimpArgs false
def almanacref10_Weekday.f (a0 : Int) : Option (Int) := some (Int.tmod (wrap64 ((Int.tmod a0 7) + 10)) 7)
set_option maxHeartbeats 8000000 in
set_option maxRecDepth 100000 in
theorem almanacref10_Weekday.calls (a0 : Int) (r : Int) (w : World) (h : almanacref10_Weekday.f a0 = some r) :
    Calls Tryz.prog 68 #[.int .i64 a0] w fun e w' => e = .returned (.int .i64 r) ∧ Drawn0 w w' := by
  have H : (some (Int.tmod (wrap64 ((Int.tmod a0 7) + 10)) 7)) = some r := h
  clear h
  obtain rfl := Option.some.inj H
  go_enter Tryz.func68, Tryz.ntmps68
  go_wp2
  go_ret
  exact ⟨by first | rfl | (simp; done) | (simp [*]; done), by repeat (first | exact Drawn0.refl _ | apply Drawn0.step)⟩
end Go.Proofs.YtmajmolbjiahlaaGreatDoor.PD
namespace Go.Proofs.YtmajmolbjiahlaaGreatDoor.PD
open Go.RowKit Go.Proofs.YtmajmolbjiahlaaGreatDoorW.PrintWords Go.Proofs.YtmajmolbjiahlaaGreatDoorW.PrintLast Go.Proofs.YtmajmolbjiahlaaGreatDoorW.PrintMore
attribute [local go_sem] isSome_setCell max2_int min2_int max_two min_two max_three min_three max_four min_four
set_option linter.unusedVariables false
set_option linter.unusedSimpArgs false
mutual
def almanacref15_Nth.j0 : Nat → Int → Int → Int → Bool → Int → Int → Option (Int × Bool)
  | 0, _, _, _, _, _, _ => none
  | k + 1, x0, x1, x8, x35, x147000, x147001 => if x35 = true then (some (0, false)) else (if x147000 > 0 then (almanacref15_Nth.l0 k x0 x1 x8 0 1 x147000 x147001) else (almanacref15_Nth.l1 k x0 x1 0 x8 x147000 x147001))
def almanacref15_Nth.l0 : Nat → Int → Int → Int → Int → Int → Int → Int → Option (Int × Bool)
  | 0, _, _, _, _, _, _, _ => none
  | k + 1, x0, x1, x8, x9, x10, x147000, x147001 => if x10 ≤ x8 then ((almanacref10_Days.f k x0 x1 x10).bind fun bt148 => ((almanacref10_Weekday.f bt148.1).bind fun t150 => (if t150 = x147001 then (if (wrap64 (x9 + 1)) = x147000 then (some (bt148.1, true)) else (almanacref15_Nth.l0 k x0 x1 x8 (wrap64 (x9 + 1)) (wrap64 (x10 + 1)) x147000 x147001)) else (almanacref15_Nth.l0 k x0 x1 x8 x9 (wrap64 (x10 + 1)) x147000 x147001)))) else (some (0, false))
def almanacref15_Nth.l1 : Nat → Int → Int → Int → Int → Int → Int → Option (Int × Bool)
  | 0, _, _, _, _, _, _ => none
  | k + 1, x0, x1, x9, x13, x147000, x147001 => if x13 ≥ 1 then ((almanacref10_Days.f k x0 x1 x13).bind fun bt151 => ((almanacref10_Weekday.f bt151.1).bind fun t153 => (if t153 = x147001 then (if (wrap64 (x9 - 1)) = x147000 then (some (bt151.1, true)) else (almanacref15_Nth.l1 k x0 x1 (wrap64 (x9 - 1)) (wrap64 (x13 - 1)) x147000 x147001)) else (almanacref15_Nth.l1 k x0 x1 x9 (wrap64 (x13 - 1)) x147000 x147001)))) else (some (0, false))
end
def almanacref15_Nth.f (k : Nat) (a0 : Int) (a1 : Int) (a2_0 : Int) (a2_1 : Int) : Option (Int × Bool) := (almanacref10_Length.f k a0 a1).bind fun t147 => (if t147 = 0 then (almanacref15_Nth.j0 k a0 a1 t147 true a2_0 a2_1) else (if a2_0 = 0 then (almanacref15_Nth.j0 k a0 a1 t147 true a2_0 a2_1) else (if a2_1 < 0 then (almanacref15_Nth.j0 k a0 a1 t147 true a2_0 a2_1) else (almanacref15_Nth.j0 k a0 a1 t147 (decide (a2_1 > 6)) a2_0 a2_1))))
set_option maxHeartbeats 8000000 in
set_option maxRecDepth 100000 in
theorem almanacref15_Nth.calls (k : Nat) (a0 : Int) (a1 : Int) (a2_0 : Int) (a2_1 : Int) (r1 : Int) (r2 : Bool) (w : World) (h : almanacref15_Nth.f k a0 a1 a2_0 a2_1 = some (r1, r2)) :
    Calls Tryz.prog 47 #[.int .i64 a0, .int .i64 a1, .agg #[.int .i64 a2_0, .int .i64 a2_1]] w fun e w' => e = .returned (.tuple #[.int .i64 r1, .bool r2]) ∧ Below w.heap.size w w' := by
  have hu30 := Tryz.underlying30
  have HB := Aside0.mk (Below.refl w.heap.size w)
  have H : ((almanacref10_Length.f k a0 a1).bind fun t147 => (if t147 = 0 then (almanacref15_Nth.j0 k a0 a1 t147 true a2_0 a2_1) else (if a2_0 = 0 then (almanacref15_Nth.j0 k a0 a1 t147 true a2_0 a2_1) else (if a2_1 < 0 then (almanacref15_Nth.j0 k a0 a1 t147 true a2_0 a2_1) else (almanacref15_Nth.j0 k a0 a1 t147 (decide (a2_1 > 6)) a2_0 a2_1))))) = some (r1, r2) := h
  clear h
  replace H := Option.bind_eq_some_iff.mp H
  obtain ⟨t147, A40, H⟩ := H
  replace H : (if t147 = 0 then (almanacref15_Nth.j0 k a0 a1 t147 true a2_0 a2_1) else (if a2_0 = 0 then (almanacref15_Nth.j0 k a0 a1 t147 true a2_0 a2_1) else (if a2_1 < 0 then (almanacref15_Nth.j0 k a0 a1 t147 true a2_0 a2_1) else (almanacref15_Nth.j0 k a0 a1 t147 (decide (a2_1 > 6)) a2_0 a2_1)))) = some (r1, r2) := H
  have A4 := Aside0.mk A40
  clear A40
  have HC5 := Aside0.mk H
  clear H
  go_enter Tryz.func47, Tryz.ntmps47
  go_upto_region 2 with (first | ((with_reducible refine gate_dst (N := 5) rfl ?_); refine box_event ?hg (N := 5) ?hd (cs := #[.int .i64 a2_0, .int .i64 a2_1]) (t := 30) ?hr ?_; (case hd => rfl); (case hg => rfl); (case hr => first | (go_simp; done) | (go_simp; rfl)); intro gb146 hg w6 hbox hb; have n0_ := Aside0.mk (below_step (by repeat (first | (with_reducible first | exact HB.out | apply below_alloc | apply pw_below_drewN | apply below_drew1) | exact HB.out)) hb); have n1_ := Aside0.mk (hbox); have n2_ := Aside0.mk ((by rw [hg]; exact (below_size (by repeat (first | (with_reducible first | exact HB.out | apply below_alloc | apply pw_below_drewN | apply below_drew1) | exact HB.out))) : w.heap.size ≤ gb146)); have n3_ := Aside0.mk ((by rw [hg]; exact (below_size (by repeat (first | (with_reducible first | exact HB.out | apply below_alloc | apply pw_below_drewN | apply below_drew1) | exact HB.out))) : w.heap.size ≤ gb146)); clear HB; have HB := n0_; have BK146 := n1_; have GW146 := n2_; have GE146 := n3_; clear n0_ n1_ n2_ n3_; clear hb hbox hg) | (go_at_call 66; (with_reducible refine (almanacref10_Length.calls k a0 a1 t147 _ A4.out).mono ?_); rintro e w' ⟨rfl, ⟨nd, rfl⟩⟩; (try first | exact ⟨rfl, _, World.drewN_drewN _ _ _⟩ | exact ⟨rfl, _, Eq.trans (World.drewN_drewN _ _ _) (congrArg (World.drewN _) (Nat.add_assoc _ _ _))⟩)))
  repeat (go_quiet (first | ((with_reducible refine gate_dst (N := 5) rfl ?_); refine box_event ?hg (N := 5) ?hd (cs := #[.int .i64 a2_0, .int .i64 a2_1]) (t := 30) ?hr ?_; (case hd => rfl); (case hg => rfl); (case hr => first | (go_simp; done) | (go_simp; rfl)); intro gb146 hg w6 hbox hb; have n0_ := Aside0.mk (below_step (by repeat (first | (with_reducible first | exact HB.out | apply below_alloc | apply pw_below_drewN | apply below_drew1) | exact HB.out)) hb); have n1_ := Aside0.mk (hbox); have n2_ := Aside0.mk ((by rw [hg]; exact (below_size (by repeat (first | (with_reducible first | exact HB.out | apply below_alloc | apply pw_below_drewN | apply below_drew1) | exact HB.out))) : w.heap.size ≤ gb146)); have n3_ := Aside0.mk ((by rw [hg]; exact (below_size (by repeat (first | (with_reducible first | exact HB.out | apply below_alloc | apply pw_below_drewN | apply below_drew1) | exact HB.out))) : w.heap.size ≤ gb146)); clear HB; have HB := n0_; have BK146 := n1_; have GW146 := n2_; have GE146 := n3_; clear n0_ n1_ n2_ n3_; clear hb hbox hg) | (go_at_call 66; (with_reducible refine (almanacref10_Length.calls k a0 a1 t147 _ A4.out).mono ?_); rintro e w' ⟨rfl, ⟨nd, rfl⟩⟩; (try first | exact ⟨rfl, _, World.drewN_drewN _ _ _⟩ | exact ⟨rfl, _, Eq.trans (World.drewN_drewN _ _ _) (congrArg (World.drewN _) (Nat.add_assoc _ _ _))⟩))); go_upto_region 2 with (first | ((with_reducible refine gate_dst (N := 5) rfl ?_); refine box_event ?hg (N := 5) ?hd (cs := #[.int .i64 a2_0, .int .i64 a2_1]) (t := 30) ?hr ?_; (case hd => rfl); (case hg => rfl); (case hr => first | (go_simp; done) | (go_simp; rfl)); intro gb146 hg w6 hbox hb; have n0_ := Aside0.mk (below_step (by repeat (first | (with_reducible first | exact HB.out | apply below_alloc | apply pw_below_drewN | apply below_drew1) | exact HB.out)) hb); have n1_ := Aside0.mk (hbox); have n2_ := Aside0.mk ((by rw [hg]; exact (below_size (by repeat (first | (with_reducible first | exact HB.out | apply below_alloc | apply pw_below_drewN | apply below_drew1) | exact HB.out))) : w.heap.size ≤ gb146)); have n3_ := Aside0.mk ((by rw [hg]; exact (below_size (by repeat (first | (with_reducible first | exact HB.out | apply below_alloc | apply pw_below_drewN | apply below_drew1) | exact HB.out))) : w.heap.size ≤ gb146)); clear HB; have HB := n0_; have BK146 := n1_; have GW146 := n2_; have GE146 := n3_; clear n0_ n1_ n2_ n3_; clear hb hbox hg) | (go_at_call 66; (with_reducible refine (almanacref10_Length.calls k a0 a1 t147 _ A4.out).mono ?_); rintro e w' ⟨rfl, ⟨nd, rfl⟩⟩; (try first | exact ⟨rfl, _, World.drewN_drewN _ _ _⟩ | exact ⟨rfl, _, Eq.trans (World.drewN_drewN _ _ _) (congrArg (World.drewN _) (Nat.add_assoc _ _ _))⟩))))
  (try simp only [Act.put, List.setIfInBounds_toArray, List.set_cons_zero, List.set_cons_succ])
  go_cut [35] (fun v35 wc => ∃ (kq : Nat) (x35_4 : Bool), v35 = .bool x35_4 ∧ Aside0 (almanacref15_Nth.j0 kq a0 a1 t147 x35_4 a2_0 a2_1 = some (r1, r2)) ∧ Aside0 (kq ≤ k) ∧ Aside0 (wc.heap[gb146]? = some (.cells #[.int .i64 a2_0, .int .i64 a2_1] 30 (0, 0))) ∧ Aside0 (Below w.heap.size w wc))
  case first =>
    have H := HC5.out
    clear HC5
    by_cases c7 : t147 = 0
    · rw [if_pos c7] at H
      have c7b0 : (t147 == 0) = true := beq_iff_eq.mpr c7
      have c7b1 : (t147 != 0) = false := bne_eq_false_iff_eq.mpr c7
      clear c7
      (first | rw [c7b0] | (simp only [i64_w, i32_w]; rw [c7b0]) | skip)
      have H' := Aside0.mk H
      clear H
      go_wp2
      repeat (go_quiet (fail); try go_wp2)
      go_meet
      case rel => exact ⟨_, (true), (by first | rfl | (simp; done) | (simp [*]; done)), H', ⟨by first | omega | exact Nat.le_refl _⟩, ⟨by (with_reducible repeat (first | refine blk_drewN ?_ _ | refine blk_drew ?_ | refine blk_alloc ?_ _)); exact BK146.out⟩, ⟨by repeat (first | (with_reducible first | exact HB.out | apply below_alloc | apply pw_below_drewN | apply below_drew1 | refine below_set ?_ GE146.out) | exact HB.out)⟩⟩
    · rw [if_neg c7] at H
      have c7b0 : (t147 == 0) = false := beq_eq_false_iff_ne.mpr c7
      have c7b1 : (t147 != 0) = true := bne_iff_ne.mpr c7
      (first | rw [c7b0] | (simp only [i64_w, i32_w]; rw [c7b0]) | skip)
      by_cases c8 : a2_0 = 0
      · rw [if_pos c8] at H
        have c8b0 : (a2_0 == 0) = true := beq_iff_eq.mpr c8
        have c8b1 : (a2_0 != 0) = false := bne_eq_false_iff_eq.mpr c8
        clear c8
        have H' := Aside0.mk H
        clear H
        have hcz9_0 : w6.cell? ⟨gb146, 0, none⟩ = some (.int .i64 a2_0) := (blk_cell BK146.out 0).trans rfl
        have hcz9_1 : w6.cell? ⟨gb146, 1, none⟩ = some (.int .i64 a2_1) := (blk_cell BK146.out 1).trans rfl
        have hfz9_0 := blk_frozen BK146.out 0
        have hfz9_1 := blk_frozen BK146.out 1
        go_wp2
        repeat (go_quiet (fail); try go_wp2)
        go_meet
        case rel => exact ⟨_, (true), (by first | rfl | (simp; done) | (simp [*]; done)), H', ⟨by first | omega | exact Nat.le_refl _⟩, ⟨by (with_reducible repeat (first | refine blk_drewN ?_ _ | refine blk_drew ?_ | refine blk_alloc ?_ _)); exact BK146.out⟩, ⟨by repeat (first | (with_reducible first | exact HB.out | apply below_alloc | apply pw_below_drewN | apply below_drew1 | refine below_set ?_ GE146.out) | exact HB.out)⟩⟩
      · rw [if_neg c8] at H
        have c8b0 : (a2_0 == 0) = false := beq_eq_false_iff_ne.mpr c8
        have c8b1 : (a2_0 != 0) = true := bne_iff_ne.mpr c8
        by_cases c10 : a2_1 < 0
        · rw [if_pos c10] at H
          have c10b0 : decide (a2_1 < 0) = true := decide_eq_true c10
          clear c10
          have H' := Aside0.mk H
          clear H
          have hcz11_0 : w6.cell? ⟨gb146, 0, none⟩ = some (.int .i64 a2_0) := (blk_cell BK146.out 0).trans rfl
          have hcz11_1 : w6.cell? ⟨gb146, 1, none⟩ = some (.int .i64 a2_1) := (blk_cell BK146.out 1).trans rfl
          have hfz11_0 := blk_frozen BK146.out 0
          have hfz11_1 := blk_frozen BK146.out 1
          go_wp2
          repeat (go_quiet (fail); try go_wp2)
          go_meet
          case rel => exact ⟨_, (true), (by first | rfl | (simp; done) | (simp [*]; done)), H', ⟨by first | omega | exact Nat.le_refl _⟩, ⟨by (with_reducible repeat (first | refine blk_drewN ?_ _ | refine blk_drew ?_ | refine blk_alloc ?_ _)); exact BK146.out⟩, ⟨by repeat (first | (with_reducible first | exact HB.out | apply below_alloc | apply pw_below_drewN | apply below_drew1 | refine below_set ?_ GE146.out) | exact HB.out)⟩⟩
        · rw [if_neg c10] at H
          have c10b0 : decide (a2_1 < 0) = false := decide_eq_false c10
          clear c10
          have H' := Aside0.mk H
          clear H
          have hcz12_0 : w6.cell? ⟨gb146, 0, none⟩ = some (.int .i64 a2_0) := (blk_cell BK146.out 0).trans rfl
          have hcz12_1 : w6.cell? ⟨gb146, 1, none⟩ = some (.int .i64 a2_1) := (blk_cell BK146.out 1).trans rfl
          have hfz12_0 := blk_frozen BK146.out 0
          have hfz12_1 := blk_frozen BK146.out 1
          go_wp2
          repeat (go_quiet (fail); try go_wp2)
          go_meet
          case rel => exact ⟨_, (decide (a2_1 > 6)), (by first | rfl | (simp; done) | (simp [*]; done)), H', ⟨by first | omega | exact Nat.le_refl _⟩, ⟨by (with_reducible repeat (first | refine blk_drewN ?_ _ | refine blk_drew ?_ | refine blk_alloc ?_ _)); exact BK146.out⟩, ⟨by repeat (first | (with_reducible first | exact HB.out | apply below_alloc | apply pw_below_drewN | apply below_drew1 | refine below_set ?_ GE146.out) | exact HB.out)⟩⟩
  case rest =>
    clear HC5
    try clear c1
    try clear p2
    try clear c4
    try clear c7
    try clear c7b0
    try clear c7b1
    try clear c8
    try clear c8b0
    try clear c8b1
    try clear c10
    try clear c10b0
    try clear hcz11_0
    try clear hcz11_1
    try clear hcz12_0
    try clear hcz12_1
    try clear hcz9_0
    try clear hcz9_1
    try clear hfz11_0
    try clear hfz11_1
    try clear hfz12_0
    try clear hfz12_1
    try clear hfz9_0
    try clear hfz9_1
    obtain ⟨kq, x35_4, rfl, HA, HJ4, BK146, HB⟩ := hcut
    cases kq with
    | zero => exact absurd HA.out (by simp [almanacref15_Nth.j0])
    | succ kj4 =>
      have H := HA.out
      clear HA
      simp only [almanacref15_Nth.j0] at H
      by_cases c13 : x35_4 = true
      · subst c13
        have H1 : (some (0, false)) = some (r1, r2) := by rw [if_pos rfl] at H; exact H
        clear H
        have H := H1
        clear H1
        simp only [Option.some.injEq, Prod.mk.injEq] at H
        obtain ⟨rfl, rfl⟩ := H
        go_wp2
        repeat (go_quiet (fail); try go_wp2)
        go_ret2
        exact ⟨by first | rfl | (simp [errW_none, errW_some] <;> rfl) | (simp [*, errW_none, errW_some] <;> rfl), by repeat (first | (with_reducible first | exact HB.out | apply below_alloc | apply pw_below_drewN | apply below_drew1 | refine below_set ?_ GE146.out) | exact HB.out)⟩
      · replace c13 := Bool.eq_false_iff.mpr c13
        subst c13
        have H1 : (if a2_0 > 0 then (almanacref15_Nth.l0 kj4 a0 a1 t147 0 1 a2_0 a2_1) else (almanacref15_Nth.l1 kj4 a0 a1 0 t147 a2_0 a2_1)) = some (r1, r2) := by rw [if_neg (show ¬ (false = true) by decide)] at H; exact H
        clear H
        have H := H1
        clear H1
        by_cases c14 : a2_0 > 0
        · rw [if_pos c14] at H
          have c14b0 : decide (0 < a2_0) = true := decide_eq_true c14
          clear c14
          have H' := Aside0.mk H
          clear H
          have hcz15_0 : wc.cell? ⟨gb146, 0, none⟩ = some (.int .i64 a2_0) := (blk_cell BK146.out 0).trans rfl
          have hcz15_1 : wc.cell? ⟨gb146, 1, none⟩ = some (.int .i64 a2_1) := (blk_cell BK146.out 1).trans rfl
          have hfz15_0 := blk_frozen BK146.out 0
          have hfz15_1 := blk_frozen BK146.out 1
          go_wp2
          repeat (go_quiet (fail); try go_wp2)
          go_loopg [9, 10] kj4 (fun kq v9 v10 w' => ∃ (x9_2 : Int) (x10_2 : Int), v9 = .int .i64 x9_2 ∧ v10 = .int .i64 x10_2 ∧ Aside0 (almanacref15_Nth.l0 kq a0 a1 t147 x9_2 x10_2 a2_0 a2_1 = some (r1, r2)) ∧ Aside0 (kq ≤ kj4) ∧ Aside0 (w'.heap[gb146]? = some (.cells #[.int .i64 a2_0, .int .i64 a2_1] 30 (0, 0))) ∧ Aside0 (Below w.heap.size w w'))
          case atStart => exact ⟨(0), (1), (by first | rfl | (simp; done) | (simp [*]; done)), (by first | rfl | (simp; done) | (simp [*]; done)), H', ⟨Nat.le_refl _⟩, ⟨by (with_reducible repeat (first | refine blk_drewN ?_ _ | refine blk_drew ?_ | refine blk_alloc ?_ _)); exact BK146.out⟩, ⟨by repeat (first | (with_reducible first | exact HB.out | apply below_alloc | apply pw_below_drewN | apply below_drew1 | refine below_set ?_ GE146.out) | exact HB.out)⟩⟩
          case round =>
            clear H'
            try clear c1
            try clear p2
            try clear c4
            try clear c7
            try clear c7b0
            try clear c7b1
            try clear c8
            try clear c8b0
            try clear c8b1
            try clear c10
            try clear c10b0
            try clear c13
            try clear c14
            try clear c14b0
            try clear hcz11_0
            try clear hcz11_1
            try clear hcz12_0
            try clear hcz12_1
            try clear hcz15_0
            try clear hcz15_1
            try clear hcz9_0
            try clear hcz9_1
            try clear hfz11_0
            try clear hfz11_1
            try clear hfz12_0
            try clear hfz12_1
            try clear hfz15_0
            try clear hfz15_1
            try clear hfz9_0
            try clear hfz9_1
            try clear p2
            obtain ⟨x9_2, x10_2, rfl, rfl, HA, HK2, BK146, HB⟩ := hrel
            cases gk with
            | zero => exact absurd HA.out (by simp [almanacref15_Nth.l0])
            | succ k2 =>
              have H := HA.out
              clear HA
              simp only [almanacref15_Nth.l0] at H
              by_cases c16 : x10_2 ≤ t147
              · rw [if_pos c16] at H
                have c16b0 : decide (x10_2 ≤ t147) = true := decide_eq_true c16
                clear c16
                replace H := Option.bind_eq_some_iff.mp H
                obtain ⟨⟨t148, t149⟩, A170, H⟩ := H
                replace H : ((almanacref10_Weekday.f t148).bind fun t150 => (if t150 = a2_1 then (if (wrap64 (x9_2 + 1)) = a2_0 then (some (t148, true)) else (almanacref15_Nth.l0 k2 a0 a1 t147 (wrap64 (x9_2 + 1)) (wrap64 (x10_2 + 1)) a2_0 a2_1)) else (almanacref15_Nth.l0 k2 a0 a1 t147 x9_2 (wrap64 (x10_2 + 1)) a2_0 a2_1))) = some (r1, r2) := H
                have A17 := Aside0.mk A170
                clear A170
                replace H := Option.bind_eq_some_iff.mp H
                obtain ⟨t150, A180, H⟩ := H
                replace H : (if t150 = a2_1 then (if (wrap64 (x9_2 + 1)) = a2_0 then (some (t148, true)) else (almanacref15_Nth.l0 k2 a0 a1 t147 (wrap64 (x9_2 + 1)) (wrap64 (x10_2 + 1)) a2_0 a2_1)) else (almanacref15_Nth.l0 k2 a0 a1 t147 x9_2 (wrap64 (x10_2 + 1)) a2_0 a2_1)) = some (r1, r2) := H
                have A18 := Aside0.mk A180
                clear A180
                by_cases c19 : t150 = a2_1
                · rw [if_pos c19] at H
                  have c19b0 : (t150 == a2_1) = true := beq_iff_eq.mpr c19
                  have c19b1 : (t150 != a2_1) = false := bne_eq_false_iff_eq.mpr c19
                  clear c19
                  by_cases c20 : (wrap64 (x9_2 + 1)) = a2_0
                  · rw [if_pos c20] at H
                    have c20b0 : ((wrap64 (x9_2 + 1)) == a2_0) = true := beq_iff_eq.mpr c20
                    have c20b1 : ((wrap64 (x9_2 + 1)) != a2_0) = false := bne_eq_false_iff_eq.mpr c20
                    clear c20
                    simp only [Option.some.injEq, Prod.mk.injEq] at H
                    obtain ⟨rfl, rfl⟩ := H
                    go_wp2_with (first | (go_at_call 67; (with_reducible refine (almanacref10_Days.calls k2 a0 a1 x10_2 t148 t149 _ A17.out).mono ?_); rintro e w' ⟨rfl, ⟨nd, rfl⟩⟩; (try first | exact ⟨rfl, _, World.drewN_drewN _ _ _⟩ | exact ⟨rfl, _, Eq.trans (World.drewN_drewN _ _ _) (congrArg (World.drewN _) (Nat.add_assoc _ _ _))⟩)) | (go_at_call 68; (with_reducible refine (almanacref10_Weekday.calls t148 t150 _ A18.out).mono ?_); rintro e w' ⟨rfl, ⟨nd, rfl⟩⟩; (try first | exact ⟨rfl, _, World.drewN_drewN _ _ _⟩ | exact ⟨rfl, _, Eq.trans (World.drewN_drewN _ _ _) (congrArg (World.drewN _) (Nat.add_assoc _ _ _))⟩); have hcz21_0 : wr.cell? ⟨gb146, 0, none⟩ = some (.int .i64 a2_0) := (blk_cell BK146.out 0).trans rfl; have hcz21_1 : wr.cell? ⟨gb146, 1, none⟩ = some (.int .i64 a2_1) := (blk_cell BK146.out 1).trans rfl; have hfz21_0 := blk_frozen BK146.out 0; have hfz21_1 := blk_frozen BK146.out 1))
                    repeat (go_quiet (first | (go_at_call 67; (with_reducible refine (almanacref10_Days.calls k2 a0 a1 x10_2 t148 t149 _ A17.out).mono ?_); rintro e w' ⟨rfl, ⟨nd, rfl⟩⟩; (try first | exact ⟨rfl, _, World.drewN_drewN _ _ _⟩ | exact ⟨rfl, _, Eq.trans (World.drewN_drewN _ _ _) (congrArg (World.drewN _) (Nat.add_assoc _ _ _))⟩)) | (go_at_call 68; (with_reducible refine (almanacref10_Weekday.calls t148 t150 _ A18.out).mono ?_); rintro e w' ⟨rfl, ⟨nd, rfl⟩⟩; (try first | exact ⟨rfl, _, World.drewN_drewN _ _ _⟩ | exact ⟨rfl, _, Eq.trans (World.drewN_drewN _ _ _) (congrArg (World.drewN _) (Nat.add_assoc _ _ _))⟩); have hcz21_0 : wr.cell? ⟨gb146, 0, none⟩ = some (.int .i64 a2_0) := (blk_cell BK146.out 0).trans rfl; have hcz21_1 : wr.cell? ⟨gb146, 1, none⟩ = some (.int .i64 a2_1) := (blk_cell BK146.out 1).trans rfl; have hfz21_0 := blk_frozen BK146.out 0; have hfz21_1 := blk_frozen BK146.out 1)); try go_wp2_with (first | (go_at_call 67; (with_reducible refine (almanacref10_Days.calls k2 a0 a1 x10_2 t148 t149 _ A17.out).mono ?_); rintro e w' ⟨rfl, ⟨nd, rfl⟩⟩; (try first | exact ⟨rfl, _, World.drewN_drewN _ _ _⟩ | exact ⟨rfl, _, Eq.trans (World.drewN_drewN _ _ _) (congrArg (World.drewN _) (Nat.add_assoc _ _ _))⟩)) | (go_at_call 68; (with_reducible refine (almanacref10_Weekday.calls t148 t150 _ A18.out).mono ?_); rintro e w' ⟨rfl, ⟨nd, rfl⟩⟩; (try first | exact ⟨rfl, _, World.drewN_drewN _ _ _⟩ | exact ⟨rfl, _, Eq.trans (World.drewN_drewN _ _ _) (congrArg (World.drewN _) (Nat.add_assoc _ _ _))⟩); have hcz21_0 : wr.cell? ⟨gb146, 0, none⟩ = some (.int .i64 a2_0) := (blk_cell BK146.out 0).trans rfl; have hcz21_1 : wr.cell? ⟨gb146, 1, none⟩ = some (.int .i64 a2_1) := (blk_cell BK146.out 1).trans rfl; have hfz21_0 := blk_frozen BK146.out 0; have hfz21_1 := blk_frozen BK146.out 1)))
                    go_ret2
                    exact ⟨by first | rfl | (simp [errW_none, errW_some] <;> rfl) | (simp [*, errW_none, errW_some] <;> rfl), by repeat (first | (with_reducible first | exact HB.out | apply below_alloc | apply pw_below_drewN | apply below_drew1 | refine below_set ?_ GE146.out) | exact HB.out)⟩
                  · rw [if_neg c20] at H
                    have c20b0 : ((wrap64 (x9_2 + 1)) == a2_0) = false := beq_eq_false_iff_ne.mpr c20
                    have c20b1 : ((wrap64 (x9_2 + 1)) != a2_0) = true := bne_iff_ne.mpr c20
                    have H' := Aside0.mk H
                    clear H
                    go_wp2_with (first | (go_at_call 67; (with_reducible refine (almanacref10_Days.calls k2 a0 a1 x10_2 t148 t149 _ A17.out).mono ?_); rintro e w' ⟨rfl, ⟨nd, rfl⟩⟩; (try first | exact ⟨rfl, _, World.drewN_drewN _ _ _⟩ | exact ⟨rfl, _, Eq.trans (World.drewN_drewN _ _ _) (congrArg (World.drewN _) (Nat.add_assoc _ _ _))⟩)) | (go_at_call 68; (with_reducible refine (almanacref10_Weekday.calls t148 t150 _ A18.out).mono ?_); rintro e w' ⟨rfl, ⟨nd, rfl⟩⟩; (try first | exact ⟨rfl, _, World.drewN_drewN _ _ _⟩ | exact ⟨rfl, _, Eq.trans (World.drewN_drewN _ _ _) (congrArg (World.drewN _) (Nat.add_assoc _ _ _))⟩); have hcz22_0 : wr.cell? ⟨gb146, 0, none⟩ = some (.int .i64 a2_0) := (blk_cell BK146.out 0).trans rfl; have hcz22_1 : wr.cell? ⟨gb146, 1, none⟩ = some (.int .i64 a2_1) := (blk_cell BK146.out 1).trans rfl; have hfz22_0 := blk_frozen BK146.out 0; have hfz22_1 := blk_frozen BK146.out 1))
                    repeat (go_quiet (first | (go_at_call 67; (with_reducible refine (almanacref10_Days.calls k2 a0 a1 x10_2 t148 t149 _ A17.out).mono ?_); rintro e w' ⟨rfl, ⟨nd, rfl⟩⟩; (try first | exact ⟨rfl, _, World.drewN_drewN _ _ _⟩ | exact ⟨rfl, _, Eq.trans (World.drewN_drewN _ _ _) (congrArg (World.drewN _) (Nat.add_assoc _ _ _))⟩)) | (go_at_call 68; (with_reducible refine (almanacref10_Weekday.calls t148 t150 _ A18.out).mono ?_); rintro e w' ⟨rfl, ⟨nd, rfl⟩⟩; (try first | exact ⟨rfl, _, World.drewN_drewN _ _ _⟩ | exact ⟨rfl, _, Eq.trans (World.drewN_drewN _ _ _) (congrArg (World.drewN _) (Nat.add_assoc _ _ _))⟩); have hcz22_0 : wr.cell? ⟨gb146, 0, none⟩ = some (.int .i64 a2_0) := (blk_cell BK146.out 0).trans rfl; have hcz22_1 : wr.cell? ⟨gb146, 1, none⟩ = some (.int .i64 a2_1) := (blk_cell BK146.out 1).trans rfl; have hfz22_0 := blk_frozen BK146.out 0; have hfz22_1 := blk_frozen BK146.out 1)); try go_wp2_with (first | (go_at_call 67; (with_reducible refine (almanacref10_Days.calls k2 a0 a1 x10_2 t148 t149 _ A17.out).mono ?_); rintro e w' ⟨rfl, ⟨nd, rfl⟩⟩; (try first | exact ⟨rfl, _, World.drewN_drewN _ _ _⟩ | exact ⟨rfl, _, Eq.trans (World.drewN_drewN _ _ _) (congrArg (World.drewN _) (Nat.add_assoc _ _ _))⟩)) | (go_at_call 68; (with_reducible refine (almanacref10_Weekday.calls t148 t150 _ A18.out).mono ?_); rintro e w' ⟨rfl, ⟨nd, rfl⟩⟩; (try first | exact ⟨rfl, _, World.drewN_drewN _ _ _⟩ | exact ⟨rfl, _, Eq.trans (World.drewN_drewN _ _ _) (congrArg (World.drewN _) (Nat.add_assoc _ _ _))⟩); have hcz22_0 : wr.cell? ⟨gb146, 0, none⟩ = some (.int .i64 a2_0) := (blk_cell BK146.out 0).trans rfl; have hcz22_1 : wr.cell? ⟨gb146, 1, none⟩ = some (.int .i64 a2_1) := (blk_cell BK146.out 1).trans rfl; have hfz22_0 := blk_frozen BK146.out 0; have hfz22_1 := blk_frozen BK146.out 1)))
                    go_roundg k2
                    case measure => have := HJ4.out; have := HK2.out; omega
                    case rel => exact ⟨(wrap64 (x9_2 + 1)), (wrap64 (x10_2 + 1)), (by first | rfl | (simp; done) | (simp [*]; done)), (by first | rfl | (simp; done) | (simp [*]; done)), H', ⟨by have := HJ4.out; have := HK2.out; omega⟩, ⟨by (with_reducible repeat (first | refine blk_drewN ?_ _ | refine blk_drew ?_ | refine blk_alloc ?_ _)); exact BK146.out⟩, ⟨by repeat (first | (with_reducible first | exact HB.out | apply below_alloc | apply pw_below_drewN | apply below_drew1 | refine below_set ?_ GE146.out) | exact HB.out)⟩⟩
                · rw [if_neg c19] at H
                  have c19b0 : (t150 == a2_1) = false := beq_eq_false_iff_ne.mpr c19
                  have c19b1 : (t150 != a2_1) = true := bne_iff_ne.mpr c19
                  have H' := Aside0.mk H
                  clear H
                  go_wp2_with (first | (go_at_call 67; (with_reducible refine (almanacref10_Days.calls k2 a0 a1 x10_2 t148 t149 _ A17.out).mono ?_); rintro e w' ⟨rfl, ⟨nd, rfl⟩⟩; (try first | exact ⟨rfl, _, World.drewN_drewN _ _ _⟩ | exact ⟨rfl, _, Eq.trans (World.drewN_drewN _ _ _) (congrArg (World.drewN _) (Nat.add_assoc _ _ _))⟩)) | (go_at_call 68; (with_reducible refine (almanacref10_Weekday.calls t148 t150 _ A18.out).mono ?_); rintro e w' ⟨rfl, ⟨nd, rfl⟩⟩; (try first | exact ⟨rfl, _, World.drewN_drewN _ _ _⟩ | exact ⟨rfl, _, Eq.trans (World.drewN_drewN _ _ _) (congrArg (World.drewN _) (Nat.add_assoc _ _ _))⟩); have hcz23_0 : wr.cell? ⟨gb146, 0, none⟩ = some (.int .i64 a2_0) := (blk_cell BK146.out 0).trans rfl; have hcz23_1 : wr.cell? ⟨gb146, 1, none⟩ = some (.int .i64 a2_1) := (blk_cell BK146.out 1).trans rfl; have hfz23_0 := blk_frozen BK146.out 0; have hfz23_1 := blk_frozen BK146.out 1))
                  repeat (go_quiet (first | (go_at_call 67; (with_reducible refine (almanacref10_Days.calls k2 a0 a1 x10_2 t148 t149 _ A17.out).mono ?_); rintro e w' ⟨rfl, ⟨nd, rfl⟩⟩; (try first | exact ⟨rfl, _, World.drewN_drewN _ _ _⟩ | exact ⟨rfl, _, Eq.trans (World.drewN_drewN _ _ _) (congrArg (World.drewN _) (Nat.add_assoc _ _ _))⟩)) | (go_at_call 68; (with_reducible refine (almanacref10_Weekday.calls t148 t150 _ A18.out).mono ?_); rintro e w' ⟨rfl, ⟨nd, rfl⟩⟩; (try first | exact ⟨rfl, _, World.drewN_drewN _ _ _⟩ | exact ⟨rfl, _, Eq.trans (World.drewN_drewN _ _ _) (congrArg (World.drewN _) (Nat.add_assoc _ _ _))⟩); have hcz23_0 : wr.cell? ⟨gb146, 0, none⟩ = some (.int .i64 a2_0) := (blk_cell BK146.out 0).trans rfl; have hcz23_1 : wr.cell? ⟨gb146, 1, none⟩ = some (.int .i64 a2_1) := (blk_cell BK146.out 1).trans rfl; have hfz23_0 := blk_frozen BK146.out 0; have hfz23_1 := blk_frozen BK146.out 1)); try go_wp2_with (first | (go_at_call 67; (with_reducible refine (almanacref10_Days.calls k2 a0 a1 x10_2 t148 t149 _ A17.out).mono ?_); rintro e w' ⟨rfl, ⟨nd, rfl⟩⟩; (try first | exact ⟨rfl, _, World.drewN_drewN _ _ _⟩ | exact ⟨rfl, _, Eq.trans (World.drewN_drewN _ _ _) (congrArg (World.drewN _) (Nat.add_assoc _ _ _))⟩)) | (go_at_call 68; (with_reducible refine (almanacref10_Weekday.calls t148 t150 _ A18.out).mono ?_); rintro e w' ⟨rfl, ⟨nd, rfl⟩⟩; (try first | exact ⟨rfl, _, World.drewN_drewN _ _ _⟩ | exact ⟨rfl, _, Eq.trans (World.drewN_drewN _ _ _) (congrArg (World.drewN _) (Nat.add_assoc _ _ _))⟩); have hcz23_0 : wr.cell? ⟨gb146, 0, none⟩ = some (.int .i64 a2_0) := (blk_cell BK146.out 0).trans rfl; have hcz23_1 : wr.cell? ⟨gb146, 1, none⟩ = some (.int .i64 a2_1) := (blk_cell BK146.out 1).trans rfl; have hfz23_0 := blk_frozen BK146.out 0; have hfz23_1 := blk_frozen BK146.out 1)))
                  go_roundg k2
                  case measure => have := HJ4.out; have := HK2.out; omega
                  case rel => exact ⟨(x9_2), (wrap64 (x10_2 + 1)), (by first | rfl | (simp; done) | (simp [*]; done)), (by first | rfl | (simp; done) | (simp [*]; done)), H', ⟨by have := HJ4.out; have := HK2.out; omega⟩, ⟨by (with_reducible repeat (first | refine blk_drewN ?_ _ | refine blk_drew ?_ | refine blk_alloc ?_ _)); exact BK146.out⟩, ⟨by repeat (first | (with_reducible first | exact HB.out | apply below_alloc | apply pw_below_drewN | apply below_drew1 | refine below_set ?_ GE146.out) | exact HB.out)⟩⟩
              · rw [if_neg c16] at H
                have c16b0 : decide (x10_2 ≤ t147) = false := decide_eq_false c16
                clear c16
                simp only [Option.some.injEq, Prod.mk.injEq] at H
                obtain ⟨rfl, rfl⟩ := H
                go_wp2
                repeat (go_quiet (fail); try go_wp2)
                go_ret2
                exact ⟨by first | rfl | (simp [errW_none, errW_some] <;> rfl) | (simp [*, errW_none, errW_some] <;> rfl), by repeat (first | (with_reducible first | exact HB.out | apply below_alloc | apply pw_below_drewN | apply below_drew1 | refine below_set ?_ GE146.out) | exact HB.out)⟩
        · rw [if_neg c14] at H
          have c14b0 : decide (0 < a2_0) = false := decide_eq_false c14
          clear c14
          have H' := Aside0.mk H
          clear H
          have hcz24_0 : wc.cell? ⟨gb146, 0, none⟩ = some (.int .i64 a2_0) := (blk_cell BK146.out 0).trans rfl
          have hcz24_1 : wc.cell? ⟨gb146, 1, none⟩ = some (.int .i64 a2_1) := (blk_cell BK146.out 1).trans rfl
          have hfz24_0 := blk_frozen BK146.out 0
          have hfz24_1 := blk_frozen BK146.out 1
          go_wp2
          repeat (go_quiet (fail); try go_wp2)
          go_loopg [9, 13] kj4 (fun kq v9 v13 w' => ∃ (x9_2 : Int) (x13_2 : Int), v9 = .int .i64 x9_2 ∧ v13 = .int .i64 x13_2 ∧ Aside0 (almanacref15_Nth.l1 kq a0 a1 x9_2 x13_2 a2_0 a2_1 = some (r1, r2)) ∧ Aside0 (kq ≤ kj4) ∧ Aside0 (w'.heap[gb146]? = some (.cells #[.int .i64 a2_0, .int .i64 a2_1] 30 (0, 0))) ∧ Aside0 (Below w.heap.size w w'))
          case atStart => exact ⟨(0), (t147), (by first | rfl | (simp; done) | (simp [*]; done)), (by first | rfl | (simp; done) | (simp [*]; done)), H', ⟨Nat.le_refl _⟩, ⟨by (with_reducible repeat (first | refine blk_drewN ?_ _ | refine blk_drew ?_ | refine blk_alloc ?_ _)); exact BK146.out⟩, ⟨by repeat (first | (with_reducible first | exact HB.out | apply below_alloc | apply pw_below_drewN | apply below_drew1 | refine below_set ?_ GE146.out) | exact HB.out)⟩⟩
          case round =>
            clear H'
            try clear c1
            try clear c2
            try clear p2
            try clear c4
            try clear p6
            try clear c7
            try clear c7b0
            try clear c7b1
            try clear c8
            try clear c8b0
            try clear c8b1
            try clear c10
            try clear c10b0
            try clear c13
            try clear c14
            try clear c14b0
            try clear c16
            try clear c16b0
            try clear c19
            try clear c19b0
            try clear c19b1
            try clear c20
            try clear c20b0
            try clear c20b1
            try clear hcz11_0
            try clear hcz11_1
            try clear hcz12_0
            try clear hcz12_1
            try clear hcz15_0
            try clear hcz15_1
            try clear hcz21_0
            try clear hcz21_1
            try clear hcz22_0
            try clear hcz22_1
            try clear hcz23_0
            try clear hcz23_1
            try clear hcz24_0
            try clear hcz24_1
            try clear hcz9_0
            try clear hcz9_1
            try clear hfz11_0
            try clear hfz11_1
            try clear hfz12_0
            try clear hfz12_1
            try clear hfz15_0
            try clear hfz15_1
            try clear hfz21_0
            try clear hfz21_1
            try clear hfz22_0
            try clear hfz22_1
            try clear hfz23_0
            try clear hfz23_1
            try clear hfz24_0
            try clear hfz24_1
            try clear hfz9_0
            try clear hfz9_1
            try clear p2
            obtain ⟨x9_2, x13_2, rfl, rfl, HA, HK2, BK146, HB⟩ := hrel
            cases gk with
            | zero => exact absurd HA.out (by simp [almanacref15_Nth.l1])
            | succ k2 =>
              have H := HA.out
              clear HA
              simp only [almanacref15_Nth.l1] at H
              by_cases c25 : x13_2 ≥ 1
              · rw [if_pos c25] at H
                have c25b0 : decide (1 ≤ x13_2) = true := decide_eq_true c25
                clear c25
                replace H := Option.bind_eq_some_iff.mp H
                obtain ⟨⟨t151, t152⟩, A260, H⟩ := H
                replace H : ((almanacref10_Weekday.f t151).bind fun t153 => (if t153 = a2_1 then (if (wrap64 (x9_2 - 1)) = a2_0 then (some (t151, true)) else (almanacref15_Nth.l1 k2 a0 a1 (wrap64 (x9_2 - 1)) (wrap64 (x13_2 - 1)) a2_0 a2_1)) else (almanacref15_Nth.l1 k2 a0 a1 x9_2 (wrap64 (x13_2 - 1)) a2_0 a2_1))) = some (r1, r2) := H
                have A26 := Aside0.mk A260
                clear A260
                replace H := Option.bind_eq_some_iff.mp H
                obtain ⟨t153, A270, H⟩ := H
                replace H : (if t153 = a2_1 then (if (wrap64 (x9_2 - 1)) = a2_0 then (some (t151, true)) else (almanacref15_Nth.l1 k2 a0 a1 (wrap64 (x9_2 - 1)) (wrap64 (x13_2 - 1)) a2_0 a2_1)) else (almanacref15_Nth.l1 k2 a0 a1 x9_2 (wrap64 (x13_2 - 1)) a2_0 a2_1)) = some (r1, r2) := H
                have A27 := Aside0.mk A270
                clear A270
                by_cases c28 : t153 = a2_1
                · rw [if_pos c28] at H
                  have c28b0 : (t153 == a2_1) = true := beq_iff_eq.mpr c28
                  have c28b1 : (t153 != a2_1) = false := bne_eq_false_iff_eq.mpr c28
                  clear c28
                  by_cases c29 : (wrap64 (x9_2 - 1)) = a2_0
                  · rw [if_pos c29] at H
                    have c29b0 : ((wrap64 (x9_2 - 1)) == a2_0) = true := beq_iff_eq.mpr c29
                    have c29b1 : ((wrap64 (x9_2 - 1)) != a2_0) = false := bne_eq_false_iff_eq.mpr c29
                    clear c29
                    simp only [Option.some.injEq, Prod.mk.injEq] at H
                    obtain ⟨rfl, rfl⟩ := H
                    go_wp2_with (first | (go_at_call 67; (with_reducible refine (almanacref10_Days.calls k2 a0 a1 x13_2 t151 t152 _ A26.out).mono ?_); rintro e w' ⟨rfl, ⟨nd, rfl⟩⟩; (try first | exact ⟨rfl, _, World.drewN_drewN _ _ _⟩ | exact ⟨rfl, _, Eq.trans (World.drewN_drewN _ _ _) (congrArg (World.drewN _) (Nat.add_assoc _ _ _))⟩)) | (go_at_call 68; (with_reducible refine (almanacref10_Weekday.calls t151 t153 _ A27.out).mono ?_); rintro e w' ⟨rfl, ⟨nd, rfl⟩⟩; (try first | exact ⟨rfl, _, World.drewN_drewN _ _ _⟩ | exact ⟨rfl, _, Eq.trans (World.drewN_drewN _ _ _) (congrArg (World.drewN _) (Nat.add_assoc _ _ _))⟩); have hcz30_0 : wr.cell? ⟨gb146, 0, none⟩ = some (.int .i64 a2_0) := (blk_cell BK146.out 0).trans rfl; have hcz30_1 : wr.cell? ⟨gb146, 1, none⟩ = some (.int .i64 a2_1) := (blk_cell BK146.out 1).trans rfl; have hfz30_0 := blk_frozen BK146.out 0; have hfz30_1 := blk_frozen BK146.out 1))
                    repeat (go_quiet (first | (go_at_call 67; (with_reducible refine (almanacref10_Days.calls k2 a0 a1 x13_2 t151 t152 _ A26.out).mono ?_); rintro e w' ⟨rfl, ⟨nd, rfl⟩⟩; (try first | exact ⟨rfl, _, World.drewN_drewN _ _ _⟩ | exact ⟨rfl, _, Eq.trans (World.drewN_drewN _ _ _) (congrArg (World.drewN _) (Nat.add_assoc _ _ _))⟩)) | (go_at_call 68; (with_reducible refine (almanacref10_Weekday.calls t151 t153 _ A27.out).mono ?_); rintro e w' ⟨rfl, ⟨nd, rfl⟩⟩; (try first | exact ⟨rfl, _, World.drewN_drewN _ _ _⟩ | exact ⟨rfl, _, Eq.trans (World.drewN_drewN _ _ _) (congrArg (World.drewN _) (Nat.add_assoc _ _ _))⟩); have hcz30_0 : wr.cell? ⟨gb146, 0, none⟩ = some (.int .i64 a2_0) := (blk_cell BK146.out 0).trans rfl; have hcz30_1 : wr.cell? ⟨gb146, 1, none⟩ = some (.int .i64 a2_1) := (blk_cell BK146.out 1).trans rfl; have hfz30_0 := blk_frozen BK146.out 0; have hfz30_1 := blk_frozen BK146.out 1)); try go_wp2_with (first | (go_at_call 67; (with_reducible refine (almanacref10_Days.calls k2 a0 a1 x13_2 t151 t152 _ A26.out).mono ?_); rintro e w' ⟨rfl, ⟨nd, rfl⟩⟩; (try first | exact ⟨rfl, _, World.drewN_drewN _ _ _⟩ | exact ⟨rfl, _, Eq.trans (World.drewN_drewN _ _ _) (congrArg (World.drewN _) (Nat.add_assoc _ _ _))⟩)) | (go_at_call 68; (with_reducible refine (almanacref10_Weekday.calls t151 t153 _ A27.out).mono ?_); rintro e w' ⟨rfl, ⟨nd, rfl⟩⟩; (try first | exact ⟨rfl, _, World.drewN_drewN _ _ _⟩ | exact ⟨rfl, _, Eq.trans (World.drewN_drewN _ _ _) (congrArg (World.drewN _) (Nat.add_assoc _ _ _))⟩); have hcz30_0 : wr.cell? ⟨gb146, 0, none⟩ = some (.int .i64 a2_0) := (blk_cell BK146.out 0).trans rfl; have hcz30_1 : wr.cell? ⟨gb146, 1, none⟩ = some (.int .i64 a2_1) := (blk_cell BK146.out 1).trans rfl; have hfz30_0 := blk_frozen BK146.out 0; have hfz30_1 := blk_frozen BK146.out 1)))
                    go_ret2
                    exact ⟨by first | rfl | (simp [errW_none, errW_some] <;> rfl) | (simp [*, errW_none, errW_some] <;> rfl), by repeat (first | (with_reducible first | exact HB.out | apply below_alloc | apply pw_below_drewN | apply below_drew1 | refine below_set ?_ GE146.out) | exact HB.out)⟩
                  · rw [if_neg c29] at H
                    have c29b0 : ((wrap64 (x9_2 - 1)) == a2_0) = false := beq_eq_false_iff_ne.mpr c29
                    have c29b1 : ((wrap64 (x9_2 - 1)) != a2_0) = true := bne_iff_ne.mpr c29
                    have H' := Aside0.mk H
                    clear H
                    go_wp2_with (first | (go_at_call 67; (with_reducible refine (almanacref10_Days.calls k2 a0 a1 x13_2 t151 t152 _ A26.out).mono ?_); rintro e w' ⟨rfl, ⟨nd, rfl⟩⟩; (try first | exact ⟨rfl, _, World.drewN_drewN _ _ _⟩ | exact ⟨rfl, _, Eq.trans (World.drewN_drewN _ _ _) (congrArg (World.drewN _) (Nat.add_assoc _ _ _))⟩)) | (go_at_call 68; (with_reducible refine (almanacref10_Weekday.calls t151 t153 _ A27.out).mono ?_); rintro e w' ⟨rfl, ⟨nd, rfl⟩⟩; (try first | exact ⟨rfl, _, World.drewN_drewN _ _ _⟩ | exact ⟨rfl, _, Eq.trans (World.drewN_drewN _ _ _) (congrArg (World.drewN _) (Nat.add_assoc _ _ _))⟩); have hcz31_0 : wr.cell? ⟨gb146, 0, none⟩ = some (.int .i64 a2_0) := (blk_cell BK146.out 0).trans rfl; have hcz31_1 : wr.cell? ⟨gb146, 1, none⟩ = some (.int .i64 a2_1) := (blk_cell BK146.out 1).trans rfl; have hfz31_0 := blk_frozen BK146.out 0; have hfz31_1 := blk_frozen BK146.out 1))
                    repeat (go_quiet (first | (go_at_call 67; (with_reducible refine (almanacref10_Days.calls k2 a0 a1 x13_2 t151 t152 _ A26.out).mono ?_); rintro e w' ⟨rfl, ⟨nd, rfl⟩⟩; (try first | exact ⟨rfl, _, World.drewN_drewN _ _ _⟩ | exact ⟨rfl, _, Eq.trans (World.drewN_drewN _ _ _) (congrArg (World.drewN _) (Nat.add_assoc _ _ _))⟩)) | (go_at_call 68; (with_reducible refine (almanacref10_Weekday.calls t151 t153 _ A27.out).mono ?_); rintro e w' ⟨rfl, ⟨nd, rfl⟩⟩; (try first | exact ⟨rfl, _, World.drewN_drewN _ _ _⟩ | exact ⟨rfl, _, Eq.trans (World.drewN_drewN _ _ _) (congrArg (World.drewN _) (Nat.add_assoc _ _ _))⟩); have hcz31_0 : wr.cell? ⟨gb146, 0, none⟩ = some (.int .i64 a2_0) := (blk_cell BK146.out 0).trans rfl; have hcz31_1 : wr.cell? ⟨gb146, 1, none⟩ = some (.int .i64 a2_1) := (blk_cell BK146.out 1).trans rfl; have hfz31_0 := blk_frozen BK146.out 0; have hfz31_1 := blk_frozen BK146.out 1)); try go_wp2_with (first | (go_at_call 67; (with_reducible refine (almanacref10_Days.calls k2 a0 a1 x13_2 t151 t152 _ A26.out).mono ?_); rintro e w' ⟨rfl, ⟨nd, rfl⟩⟩; (try first | exact ⟨rfl, _, World.drewN_drewN _ _ _⟩ | exact ⟨rfl, _, Eq.trans (World.drewN_drewN _ _ _) (congrArg (World.drewN _) (Nat.add_assoc _ _ _))⟩)) | (go_at_call 68; (with_reducible refine (almanacref10_Weekday.calls t151 t153 _ A27.out).mono ?_); rintro e w' ⟨rfl, ⟨nd, rfl⟩⟩; (try first | exact ⟨rfl, _, World.drewN_drewN _ _ _⟩ | exact ⟨rfl, _, Eq.trans (World.drewN_drewN _ _ _) (congrArg (World.drewN _) (Nat.add_assoc _ _ _))⟩); have hcz31_0 : wr.cell? ⟨gb146, 0, none⟩ = some (.int .i64 a2_0) := (blk_cell BK146.out 0).trans rfl; have hcz31_1 : wr.cell? ⟨gb146, 1, none⟩ = some (.int .i64 a2_1) := (blk_cell BK146.out 1).trans rfl; have hfz31_0 := blk_frozen BK146.out 0; have hfz31_1 := blk_frozen BK146.out 1)))
                    go_roundg k2
                    case measure => have := HJ4.out; have := HK2.out; omega
                    case rel => exact ⟨(wrap64 (x9_2 - 1)), (wrap64 (x13_2 - 1)), (by first | rfl | (simp; done) | (simp [*]; done)), (by first | rfl | (simp; done) | (simp [*]; done)), H', ⟨by have := HJ4.out; have := HK2.out; omega⟩, ⟨by (with_reducible repeat (first | refine blk_drewN ?_ _ | refine blk_drew ?_ | refine blk_alloc ?_ _)); exact BK146.out⟩, ⟨by repeat (first | (with_reducible first | exact HB.out | apply below_alloc | apply pw_below_drewN | apply below_drew1 | refine below_set ?_ GE146.out) | exact HB.out)⟩⟩
                · rw [if_neg c28] at H
                  have c28b0 : (t153 == a2_1) = false := beq_eq_false_iff_ne.mpr c28
                  have c28b1 : (t153 != a2_1) = true := bne_iff_ne.mpr c28
                  have H' := Aside0.mk H
                  clear H
                  go_wp2_with (first | (go_at_call 67; (with_reducible refine (almanacref10_Days.calls k2 a0 a1 x13_2 t151 t152 _ A26.out).mono ?_); rintro e w' ⟨rfl, ⟨nd, rfl⟩⟩; (try first | exact ⟨rfl, _, World.drewN_drewN _ _ _⟩ | exact ⟨rfl, _, Eq.trans (World.drewN_drewN _ _ _) (congrArg (World.drewN _) (Nat.add_assoc _ _ _))⟩)) | (go_at_call 68; (with_reducible refine (almanacref10_Weekday.calls t151 t153 _ A27.out).mono ?_); rintro e w' ⟨rfl, ⟨nd, rfl⟩⟩; (try first | exact ⟨rfl, _, World.drewN_drewN _ _ _⟩ | exact ⟨rfl, _, Eq.trans (World.drewN_drewN _ _ _) (congrArg (World.drewN _) (Nat.add_assoc _ _ _))⟩); have hcz32_0 : wr.cell? ⟨gb146, 0, none⟩ = some (.int .i64 a2_0) := (blk_cell BK146.out 0).trans rfl; have hcz32_1 : wr.cell? ⟨gb146, 1, none⟩ = some (.int .i64 a2_1) := (blk_cell BK146.out 1).trans rfl; have hfz32_0 := blk_frozen BK146.out 0; have hfz32_1 := blk_frozen BK146.out 1))
                  repeat (go_quiet (first | (go_at_call 67; (with_reducible refine (almanacref10_Days.calls k2 a0 a1 x13_2 t151 t152 _ A26.out).mono ?_); rintro e w' ⟨rfl, ⟨nd, rfl⟩⟩; (try first | exact ⟨rfl, _, World.drewN_drewN _ _ _⟩ | exact ⟨rfl, _, Eq.trans (World.drewN_drewN _ _ _) (congrArg (World.drewN _) (Nat.add_assoc _ _ _))⟩)) | (go_at_call 68; (with_reducible refine (almanacref10_Weekday.calls t151 t153 _ A27.out).mono ?_); rintro e w' ⟨rfl, ⟨nd, rfl⟩⟩; (try first | exact ⟨rfl, _, World.drewN_drewN _ _ _⟩ | exact ⟨rfl, _, Eq.trans (World.drewN_drewN _ _ _) (congrArg (World.drewN _) (Nat.add_assoc _ _ _))⟩); have hcz32_0 : wr.cell? ⟨gb146, 0, none⟩ = some (.int .i64 a2_0) := (blk_cell BK146.out 0).trans rfl; have hcz32_1 : wr.cell? ⟨gb146, 1, none⟩ = some (.int .i64 a2_1) := (blk_cell BK146.out 1).trans rfl; have hfz32_0 := blk_frozen BK146.out 0; have hfz32_1 := blk_frozen BK146.out 1)); try go_wp2_with (first | (go_at_call 67; (with_reducible refine (almanacref10_Days.calls k2 a0 a1 x13_2 t151 t152 _ A26.out).mono ?_); rintro e w' ⟨rfl, ⟨nd, rfl⟩⟩; (try first | exact ⟨rfl, _, World.drewN_drewN _ _ _⟩ | exact ⟨rfl, _, Eq.trans (World.drewN_drewN _ _ _) (congrArg (World.drewN _) (Nat.add_assoc _ _ _))⟩)) | (go_at_call 68; (with_reducible refine (almanacref10_Weekday.calls t151 t153 _ A27.out).mono ?_); rintro e w' ⟨rfl, ⟨nd, rfl⟩⟩; (try first | exact ⟨rfl, _, World.drewN_drewN _ _ _⟩ | exact ⟨rfl, _, Eq.trans (World.drewN_drewN _ _ _) (congrArg (World.drewN _) (Nat.add_assoc _ _ _))⟩); have hcz32_0 : wr.cell? ⟨gb146, 0, none⟩ = some (.int .i64 a2_0) := (blk_cell BK146.out 0).trans rfl; have hcz32_1 : wr.cell? ⟨gb146, 1, none⟩ = some (.int .i64 a2_1) := (blk_cell BK146.out 1).trans rfl; have hfz32_0 := blk_frozen BK146.out 0; have hfz32_1 := blk_frozen BK146.out 1)))
                  go_roundg k2
                  case measure => have := HJ4.out; have := HK2.out; omega
                  case rel => exact ⟨(x9_2), (wrap64 (x13_2 - 1)), (by first | rfl | (simp; done) | (simp [*]; done)), (by first | rfl | (simp; done) | (simp [*]; done)), H', ⟨by have := HJ4.out; have := HK2.out; omega⟩, ⟨by (with_reducible repeat (first | refine blk_drewN ?_ _ | refine blk_drew ?_ | refine blk_alloc ?_ _)); exact BK146.out⟩, ⟨by repeat (first | (with_reducible first | exact HB.out | apply below_alloc | apply pw_below_drewN | apply below_drew1 | refine below_set ?_ GE146.out) | exact HB.out)⟩⟩
              · rw [if_neg c25] at H
                have c25b0 : decide (1 ≤ x13_2) = false := decide_eq_false c25
                clear c25
                simp only [Option.some.injEq, Prod.mk.injEq] at H
                obtain ⟨rfl, rfl⟩ := H
                go_wp2
                repeat (go_quiet (fail); try go_wp2)
                go_ret2
                exact ⟨by first | rfl | (simp [errW_none, errW_some] <;> rfl) | (simp [*, errW_none, errW_some] <;> rfl), by repeat (first | (with_reducible first | exact HB.out | apply below_alloc | apply pw_below_drewN | apply below_drew1 | refine below_set ?_ GE146.out) | exact HB.out)⟩
end Go.Proofs.YtmajmolbjiahlaaGreatDoor.PD
namespace Go.Proofs.YtmajmolbjiahlaaGreatDoor.PD
open Go.RowKit Go.Proofs.YtmajmolbjiahlaaGreatDoorW.PrintWords Go.Proofs.YtmajmolbjiahlaaGreatDoorW.PrintLast Go.Proofs.YtmajmolbjiahlaaGreatDoorW.PrintMore
set_option linter.unusedVariables false
set_option linter.unusedSimpArgs false
theorem w64 {a : Int} (h0 : -9223372036854775808 ≤ a) (h1 : a ≤ 9223372036854775807) : wrap64 a = a := by unfold wrap64; omega
theorem w64n {i : Nat} (h : i < 9223372036854775807) : wrap64 ((i : Int) + 1) = ((i + 1 : Nat) : Int) := by unfold wrap64; omega
theorem leapR (y : Int) (h : 1 ≤ y) : almanacref10_leap.f y = some (lp y) := by
  unfold almanacref10_leap.f lp
  rw [Int.tmod_eq_emod_of_nonneg (by omega), Int.tmod_eq_emod_of_nonneg (by omega), Int.tmod_eq_emod_of_nonneg (by omega)]
  by_cases h4 : y % 4 = 0
  · by_cases h1 : y % 100 = 0 <;> by_cases h2 : y % 400 = 0 <;> simp [h4, h1, h2]
  · have h2 : ¬ y % 400 = 0 := by omega
    simp [h4, h2]
theorem lengthR (k : Nat) (y m : Int) : almanacref10_Length.f (k + 1) y m = some (lenP y m) := by
  unfold almanacref10_Length.f
  by_cases h : 1 ≤ y ∧ y ≤ 9999 ∧ 1 ≤ m ∧ m ≤ 12
  · rw [if_neg (by omega), if_neg (by omega), if_neg (by omega), decide_eq_false (by omega)]
    simp only [almanacref10_Length.j0]
    rw [if_neg (by simp), leapR y h.1, lenP_in y m h]
    have hm : m = 1 ∨ m = 2 ∨ m = 3 ∨ m = 4 ∨ m = 5 ∨ m = 6 ∨ m = 7 ∨ m = 8 ∨ m = 9 ∨ m = 10 ∨ m = 11 ∨ m = 12 := by omega
    rcases hm with rfl | rfl | rfl | rfl | rfl | rfl | rfl | rfl | rfl | rfl | rfl | rfl <;> cases lp y <;> rfl
  · rw [lenP_out y m h]
    have hj : almanacref10_Length.j0 (k + 1) y m true = some 0 := by simp [almanacref10_Length.j0]
    by_cases h1 : y < 1
    · rw [if_pos h1, hj]
    · by_cases h2 : y > 9999
      · rw [if_neg h1, if_pos h2, hj]
      · by_cases h3 : m < 1
        · rw [if_neg h1, if_neg h2, if_pos h3, hj]
        · rw [if_neg h1, if_neg h2, if_neg h3, decide_eq_true (by omega), hj]
theorem lengthE (y m : Int) : Ev (fun k => almanacref10_Length.f k y m) (lenP y m) := ⟨1, fun k hk => by obtain ⟨j, rfl⟩ : ∃ j, k = j + 1 := ⟨k - 1, by omega⟩; exact lengthR j y m⟩
theorem lenP_le (y m : Int) : 0 ≤ lenP y m ∧ lenP y m ≤ 31 ∧ ((1 ≤ y ∧ y ≤ 9999 ∧ 1 ≤ m ∧ m ≤ 12) → 28 ≤ lenP y m) := by
  by_cases h : 1 ≤ y ∧ y ≤ 9999 ∧ 1 ≤ m ∧ m ≤ 12
  · rw [lenP_in y m h]
    have : ∀ (b : Bool) (k : Fin 12), 28 ≤ ((mon b)[k.val]'k.isLt).2 ∧ ((mon b)[k.val]'k.isLt).2 ≤ 31 := by decide
    have := this (lp y) ⟨(m - 1).toNat, by omega⟩
    simp only at this
    omega
  · rw [lenP_out y m h]; omega
theorem aheadR (y : Int) (h0 : 1 ≤ y) (h1 : y ≤ 20000) : almanacref10_ahead.f y = some (bgP y + 719162) := by
  unfold almanacref10_ahead.f bgP
  rw [show wrap64 (y - 1) = y - 1 from w64 (by omega) (by omega), Int.tdiv_eq_ediv_of_nonneg (by omega), Int.tdiv_eq_ediv_of_nonneg (by omega), Int.tdiv_eq_ediv_of_nonneg (by omega)]
  refine congrArg some ?_
  simp only [wrap64]
  omega
theorem bgP_le (y : Int) (h0 : 1 ≤ y) (h1 : y ≤ 20000) : -719162 ≤ bgP y ∧ bgP y ≤ 8000000 := by unfold bgP; omega
theorem mon_take (b : Bool) (i : Nat) (hi : i < 12) : sumL ((mon b).take (i + 1)) = sumL ((mon b).take i) + ((mon b)[i]'hi).2 := by
  have : ∀ (b : Bool) (i : Fin 12), sumL ((mon b).take (i.val + 1)) = sumL ((mon b).take i.val) + ((mon b)[i.val]'i.isLt).2 := by decide
  exact this b ⟨i, hi⟩
theorem lenP_at (y : Int) (i : Nat) (hy : 1 ≤ y ∧ y ≤ 9999) (hi : i < 12) : lenP y ((i : Int) + 1) = ((mon (lp y))[i]'hi).2 := by
  rw [lenP_in y _ (by omega)]
  have : ((i : Int) + 1 - 1).toNat = i := by omega
  exact congrArg Prod.snd (getElem_congr_idx this)
theorem days_loop (y m d : Int) (hy : 1 ≤ y ∧ y ≤ 9999) (hm : 1 ≤ m ∧ m ≤ 12) (hd : 1 ≤ d ∧ d ≤ 31) : ∀ (j i : Nat), (m - 1).toNat - i = j → i ≤ (m - 1).toNat →
    Ev (fun k => almanacref10_Days.l0 k y m d (bgP y + 719162 + sumL ((mon (lp y)).take i)) ((i : Int) + 1)) (bgP y + sumL ((mon (lp y)).take (m - 1).toNat) + d - 1, true) := by
  have hb := bgP_le y hy.1 (by omega)
  intro j
  induction j with
  | zero =>
    intro i hj hi
    obtain rfl : i = (m - 1).toNat := by omega
    have hs := sumL_take (lp y) (m - 1).toNat (by omega)
    refine Ev.step (f := fun _ => some (bgP y + sumL ((mon (lp y)).take (m - 1).toNat) + d - 1, true)) (fun k => ?_) (Ev.now _)
    simp only [almanacref10_Days.l0]
    rw [if_neg (by omega)]
    refine congrArg some (Prod.ext ?_ rfl)
    simp only [wrap64]
    omega
  | succ j ih =>
    intro i hj hi
    have hs := sumL_take (lp y) i (by omega)
    have hi12 : i < 12 := by omega
    have hl := lenP_le y ((i : Int) + 1)
    refine Ev.step (f := fun k => (almanacref10_Length.f k y ((i : Int) + 1)).bind fun t145 => (almanacref10_Days.l0 k y m d (wrap64 (bgP y + 719162 + sumL ((mon (lp y)).take i) + t145)) (wrap64 ((i : Int) + 1 + 1)))) (fun k => by
      simp only [almanacref10_Days.l0]
      rw [if_pos (by omega)]) ?_
    refine Ev.bind (lengthE y _) ?_
    have h := ih (i + 1) (by omega) (by omega)
    rw [mon_take _ i hi12, ← lenP_at y i hy hi12] at h
    rw [w64 (by omega) (by omega), w64 (by omega) (by omega)]
    refine Ev.congr (fun k => ?_) h
    congr 1
    omega
theorem daysR (y m d : Int) : Ev (fun k => almanacref10_Days.f k y m d) (daysP y m d) := by
  unfold daysP
  by_cases h1 : d < 1
  · rw [if_pos (.inl h1)]
    refine Ev.congr (f := fun k => almanacref10_Days.j0 k y m d true) (fun k => by unfold almanacref10_Days.f; rw [if_pos h1]) ?_
    exact Ev.step (f := fun _ => some (0, false)) (fun k => by simp [almanacref10_Days.j0]) (Ev.now _)
  · refine Ev.congr (f := fun k => (almanacref10_Length.f k y m).bind fun t143 => (almanacref10_Days.j0 k y m d (decide (d > t143)))) (fun k => by unfold almanacref10_Days.f; rw [if_neg h1]) ?_
    refine Ev.bind (lengthE y m) ?_
    by_cases h2 : lenP y m < d
    · rw [if_pos (.inr h2), decide_eq_true h2]
      exact Ev.step (f := fun _ => some (0, false)) (fun k => by simp [almanacref10_Days.j0]) (Ev.now _)
    · rw [if_neg (by omega), decide_eq_false h2]
      have hin : 1 ≤ y ∧ y ≤ 9999 ∧ 1 ≤ m ∧ m ≤ 12 := by
        by_cases h : 1 ≤ y ∧ y ≤ 9999 ∧ 1 ≤ m ∧ m ≤ 12
        · exact h
        · rw [lenP_out y m h] at h2; omega
      have hl := lenP_le y m
      refine Ev.step (f := fun k => almanacref10_Days.l0 k y m d (bgP y + 719162) 1) (fun k => by simp only [almanacref10_Days.j0]; rw [if_neg (by simp), aheadR y hin.1 (by omega), Option.bind_some]) ?_
      have := days_loop y m d ⟨hin.1, hin.2.1⟩ hin.2.2 (by omega) (m - 1).toNat 0 rfl (Nat.zero_le _)
      refine Ev.congr (fun k => ?_) this
      simp [sumL]
theorem weekdayR (n : Int) (h : -10000000 ≤ n ∧ n ≤ 10000000) : almanacref10_Weekday.f n = some (wkP n) := by
  obtain ⟨h1, h2, h3⟩ := tmod7 n
  unfold almanacref10_Weekday.f
  rw [w64 (by omega) (by omega), show Int.tmod n 7 + 10 = Int.tmod n 7 + 7 + 3 by omega, h1]
theorem month_loop (y : Int) (hy : 1 ≤ y ∧ y ≤ 9999) : ∀ (j i : Nat) (L : Int), 12 - i = j → i ≤ 12 → 0 ≤ L → L < sumL ((mon (lp y)).drop i) → L < 400 →
    Ev (fun k => almanacref10_Civil.l1 k y L ((i : Int) + 1)) (y, monGo ((mon (lp y)).drop i) L) := by
  intro j
  induction j with
  | zero =>
    intro i L hj hi h0 hL _
    obtain rfl : i = 12 := by omega
    have : (mon (lp y)).drop 12 = [] := rfl
    rw [this] at hL
    simp [sumL] at hL
    omega
  | succ j ih =>
    intro i L hj hi h0 hL h4
    have hi12 : i < (mon (lp y)).length := by rw [mon_len]; omega
    have hdr := List.drop_eq_getElem_cons hi12
    rw [hdr] at hL ⊢
    have hlen := lenP_at y i hy hi12
    have hle := lenP_le y ((i : Int) + 1)
    have hf := mon_fst (lp y) i hi12
    unfold monGo
    have hsum : sumL ((mon (lp y))[i] :: (mon (lp y)).drop (i + 1)) = (mon (lp y))[i].2 + sumL ((mon (lp y)).drop (i + 1)) := by unfold sumL; rw [List.map_cons, List.sum_cons]
    rw [hsum] at hL
    refine Ev.step (f := fun k => (almanacref10_Length.f k y ((i : Int) + 1)).bind fun t141 => (if L ≥ t141 then ((almanacref10_Length.f k y ((i : Int) + 1)).bind fun t142 => (almanacref10_Civil.l1 k y (wrap64 (L - t142)) (wrap64 ((i : Int) + 1 + 1)))) else (some (y, (i : Int) + 1, wrap64 (L + 1), true)))) (fun k => by simp only [almanacref10_Civil.l1]) ?_
    refine Ev.bind (lengthE y _) ?_
    by_cases hc : L < (mon (lp y))[i].2
    · rw [if_pos hc]
      refine Ev.congr (fun k => ?_) (Ev.now _)
      rw [if_neg (by omega), hf, w64 (by omega) (by omega)]
    · rw [if_neg hc]
      refine Ev.congr (fun k => by rw [if_pos (by omega)]) ?_
      refine Ev.bind (lengthE y _) ?_
      rw [w64 (by omega) (by omega), w64 (by omega) (by omega), hlen]
      have := ih (i + 1) (L - (mon (lp y))[i].2) (by omega) (by omega) (by omega) (by omega) (by omega)
      refine Ev.congr (fun k => ?_) this
      congr 1
theorem civil_loop (n : Int) (hn : -719162 ≤ n ∧ n ≤ 2932896) : ∀ (j : Nat) (lo hi : Int), (hi - lo).toNat ≤ j → 1 ≤ lo → lo ≤ hi → hi ≤ 9999 → bgP lo ≤ n → n < bgP (hi + 1) →
    Ev (fun k => almanacref10_Civil.l0 k n lo hi) (civP n) := by
  have hend : ∀ lo : Int, 1 ≤ lo → lo ≤ 9999 → bgP lo ≤ n → n < bgP (lo + 1) → Ev (fun k => almanacref10_Civil.l0 k n lo lo) (civP n) := by
    intro lo h1 h2 h3 h4
    have hy := yearF_spec n hn.1 hn.2
    obtain rfl := year_unique n lo (yearF n) h1 hy.1 h3 h4 hy.2.2.1 hy.2.2.2
    have hs := bgP_step (yearF n) h1
    have hs2 := sumL_take (lp (yearF n)) 12 (by omega)
    have h12 : (mon (lp (yearF n))).take 12 = mon (lp (yearF n)) := rfl
    rw [h12] at hs2
    have hb := bgP_le (yearF n) h1 (by omega)
    refine Ev.step (f := fun k => almanacref10_Civil.l1 k (yearF n) (n - bgP (yearF n)) 1) (fun k => by
      simp only [almanacref10_Civil.l0]
      rw [if_neg (by omega), aheadR _ h1 (by omega), Option.bind_some]
      congr 1
      simp only [wrap64]
      omega) ?_
    have := month_loop (yearF n) ⟨h1, h2⟩ 12 0 (n - bgP (yearF n)) rfl (by omega) (by omega) (by show _ < sumL (mon (lp (yearF n))); omega) (by omega)
    unfold civP
    rw [if_neg (by omega)]
    exact this
  intro j
  induction j with
  | zero =>
    intro lo hi hj h1 h2 h3 h4 h5
    obtain rfl : lo = hi := by omega
    exact hend lo h1 h3 h4 h5
  | succ j ih =>
    intro lo hi hj h1 h2 h3 h4 h5
    by_cases hlt : lo < hi
    · have hw : wrap64 (Int.tdiv (wrap64 ((wrap64 (lo + hi)) + 1)) 2) = (lo + hi + 1) / 2 := by
        rw [w64 (a := lo + hi) (by omega) (by omega), w64 (a := lo + hi + 1) (by omega) (by omega), Int.tdiv_eq_ediv_of_nonneg (by omega), w64 (by omega) (by omega)]
      have hmid : lo < (lo + hi + 1) / 2 ∧ (lo + hi + 1) / 2 ≤ hi := by omega
      obtain ⟨mid, hm⟩ : ∃ mid, (lo + hi + 1) / 2 = mid := ⟨_, rfl⟩
      rw [hm] at hw hmid
      have hb := bgP_le mid (by omega) (by omega)
      refine Ev.step (f := fun k => if bgP mid ≤ n then almanacref10_Civil.l0 k n mid hi else almanacref10_Civil.l0 k n lo (mid - 1)) (fun k => by
        simp only [almanacref10_Civil.l0]
        rw [if_pos hlt, hw, aheadR mid (by omega) (by omega), Option.bind_some, w64 (by omega) (by omega), show wrap64 (mid - 1) = mid - 1 from w64 (by omega) (by omega), show -719162 + (bgP mid + 719162) = bgP mid by omega]) ?_
      by_cases hc : bgP mid ≤ n
      · exact Ev.congr (fun k => if_pos hc) (ih mid hi (by omega) (by omega) (by omega) h3 hc h5)
      · exact Ev.congr (fun k => if_neg hc) (ih lo (mid - 1) (by omega) h1 (by omega) (by omega) h4 (by rw [show mid - 1 + 1 = mid by omega]; omega))
    · obtain rfl : lo = hi := by omega
      exact hend lo h1 h3 h4 h5
theorem civilR (n : Int) : Ev (fun k => almanacref10_Civil.f k n) (civP n) := by
  have ha : almanacref10_ahead.f 10000 = some 3652059 := by decide +kernel
  have hf : Ev (fun k => almanacref10_Civil.j0 k n true) (0, 0, 0, false) := Ev.step (f := fun _ => some (0, 0, 0, false)) (fun k => by simp [almanacref10_Civil.j0]) (Ev.now _)
  by_cases h1 : n < -719162
  · have : civP n = (0, 0, 0, false) := by unfold civP; rw [if_pos (.inl h1)]
    rw [this]
    exact Ev.congr (fun k => by unfold almanacref10_Civil.f; rw [if_pos h1]) hf
  · have hc : (wrap64 ((wrap64 ((-719162) + 3652059)) - 1)) = 2932896 := by decide +kernel
    by_cases h2 : 2932896 < n
    · have : civP n = (0, 0, 0, false) := by unfold civP; rw [if_pos (.inr h2)]
      rw [this]
      exact Ev.congr (fun k => by unfold almanacref10_Civil.f; rw [if_neg h1, ha, Option.bind_some, hc, decide_eq_true h2]) hf
    · refine Ev.congr (f := fun k => almanacref10_Civil.j0 k n false) (fun k => by unfold almanacref10_Civil.f; rw [if_neg h1, ha, Option.bind_some, hc, decide_eq_false h2]) ?_
      refine Ev.step (f := fun k => almanacref10_Civil.l0 k n 1 9999) (fun k => by simp only [almanacref10_Civil.j0]; rw [if_neg (by simp)]) ?_
      exact civil_loop n (by omega) 9998 1 9999 (by omega) (by omega) (by omega) (by omega) (by rw [show bgP 1 = -719162 by decide]; omega) (by rw [show bgP (9999 + 1) = 2932897 by decide]; omega)
end Go.Proofs.YtmajmolbjiahlaaGreatDoor.PD
namespace Go.Proofs.YtmajmolbjiahlaaGreatDoor.PD
open Go.RowKit Go.Proofs.YtmajmolbjiahlaaGreatDoorW.PrintWords Go.Proofs.YtmajmolbjiahlaaGreatDoorW.PrintLast Go.Proofs.YtmajmolbjiahlaaGreatDoorW.PrintMore
set_option linter.unusedVariables false
set_option linter.unusedSimpArgs false
def cz (j : Nat) (off : Int) : Int := ((j : Int) - off + 6) / 7
theorem cz_step (j : Nat) (off : Int) (h : 0 ≤ off ∧ off ≤ 6) : cz (j + 1) off = if (j : Int) % 7 = off then cz j off + 1 else cz j off := by
  unfold cz
  split <;> omega
theorem cz_mono (i j : Nat) (off : Int) (h : i ≤ j) : cz i off ≤ cz j off := by unfold cz; omega
theorem cz_at (j : Nat) (off : Int) (h : 0 ≤ off ∧ off ≤ 6) (hj : (j : Int) % 7 = off) : (j : Int) = off + 7 * cz j off := by unfold cz; omega
theorem days_in (y m : Int) (hin : 1 ≤ y ∧ y ≤ 9999 ∧ 1 ≤ m ∧ m ≤ 12) : (daysP y m 1).2 = true ∧ (-1000000 ≤ (daysP y m 1).1 ∧ (daysP y m 1).1 ≤ 3900000) ∧ ∀ i : Int, 1 ≤ i → i ≤ lenP y m → daysP y m i = ((daysP y m 1).1 + i - 1, true) := by
  have hl := (lenP_le y m).2.2 hin
  have h1 : daysP y m 1 = (bgP y + sumL ((mon (lp y)).take (m - 1).toNat) + 1 - 1, true) := by unfold daysP; rw [if_neg (by omega)]
  have hs := sumL_take (lp y) (m - 1).toNat (by omega)
  have hb : -719162 ≤ bgP y ∧ bgP y ≤ 3700000 := by unfold bgP; omega
  rw [h1]
  refine ⟨rfl, ⟨by simp only; omega, by simp only; omega⟩, fun i h2 h3 => ?_⟩
  unfold daysP
  rw [if_neg (by omega)]
  refine Prod.ext ?_ rfl
  simp only
  omega
theorem is_day (F d i : Int) (hd : 0 ≤ d ∧ d ≤ 6) : wkP (F + i - 1) = d ↔ (i - 1) % 7 = offW F d := by
  unfold wkP offW wkP
  omega
theorem w64s {x : Int} (h0 : -100000000 ≤ x) (h1 : x ≤ 100000000) : wrap64 x = x := w64 (by omega) (by omega)
theorem off_le (F d : Int) : 0 ≤ offW F d ∧ offW F d ≤ 6 := by unfold offW; omega
theorem hm_of {j : Nat} {off : Int} (h : ((j : Int) + 1 - 1) % 7 = off) : (j : Int) % 7 = off := by rwa [Int.add_sub_cancel] at h
theorem fore_loop (y m n d : Int) (hin : 1 ≤ y ∧ y ≤ 9999 ∧ 1 ≤ m ∧ m ≤ 12) (hd : 0 ≤ d ∧ d ≤ 6) (hn : 1 ≤ n ∧ n ≤ 1000) (len : Nat) (hlen : lenP y m = len) :
    ∀ (r j : Nat), len - j = r → j ≤ len → cz j (offW (daysP y m 1).1 d) < n → Ev (fun k => almanacref15_Nth.l0 k y m len (cz j (offW (daysP y m 1).1 d)) ((j : Int) + 1) n d)
      (if n ≤ cz len (offW (daysP y m 1).1 d) then ((daysP y m 1).1 + offW (daysP y m 1).1 d + 7 * (n - 1), true) else (0, false)) := by
  obtain ⟨_, hF, hday⟩ := days_in y m hin
  have ho := off_le (daysP y m 1).1 d
  obtain ⟨hl0, hl1, _⟩ := lenP_le y m
  obtain ⟨F, eF⟩ : ∃ F, (daysP y m 1).1 = F := ⟨_, rfl⟩
  rw [eF] at hF hday ho ⊢
  obtain ⟨off, eo⟩ : ∃ off, offW F d = off := ⟨_, rfl⟩
  have hisd := fun i => is_day F d i hd
  rw [eo] at ho hisd ⊢
  clear eF eo
  intro r
  induction r with
  | zero =>
    intro j hr hj hc
    obtain rfl : j = len := by omega
    rw [if_neg (by omega)]
    exact Ev.step (f := fun _ => some (0, false)) (fun k => by simp only [almanacref15_Nth.l0]; rw [if_neg (by omega)]) (Ev.now _)
  | succ r ih =>
    intro j hr hj hc
    have hdj := hday ((j : Int) + 1) (by omega) (by omega)
    have hwk := weekdayR (F + ((j : Int) + 1) - 1) (by omega)
    have hst := cz_step j off ho
    have hcb : 0 ≤ cz j off ∧ cz j off ≤ 10 := by unfold cz; omega
    refine Ev.step (f := fun k => (almanacref10_Days.f k y m ((j : Int) + 1)).bind fun bt148 => ((almanacref10_Weekday.f bt148.1).bind fun t150 => (if t150 = d then (if (wrap64 (cz j off + 1)) = n then (some (bt148.1, true)) else (almanacref15_Nth.l0 k y m len (wrap64 (cz j off + 1)) (wrap64 ((j : Int) + 1 + 1)) n d)) else (almanacref15_Nth.l0 k y m len (cz j off) (wrap64 ((j : Int) + 1 + 1)) n d)))) (fun k => by
      simp only [almanacref15_Nth.l0]
      rw [if_pos (by omega)]) ?_
    refine Ev.bind (daysR y m _) ?_
    rw [hdj]
    simp only
    have hnext : Aside0 (wrap64 ((j : Int) + 1 + 1) = ((j + 1 : Nat) : Int) + 1) := ⟨by rw [w64s (by omega) (by omega)]; omega⟩
    by_cases hm : wkP (F + ((j : Int) + 1) - 1) = d
    · have hm' : (j : Int) % 7 = off := hm_of ((hisd ((j : Int) + 1)).1 hm)
      rw [if_pos hm'] at hst
      have hat := cz_at j off ho hm'
      clear hm'
      by_cases he : cz j off + 1 = n
      · have hle := cz_mono (j + 1) len off (by omega)
        rw [if_pos (by omega)]
        refine Ev.congr (fun k => ?_) (Ev.now _)
        rw [hwk, Option.bind_some, if_pos hm, w64s (by omega) (by omega), if_pos he]
        refine congrArg some (Prod.ext ?_ rfl)
        simp only
        omega
      · have := ih (j + 1) (by omega) (by omega) (by omega)
        refine Ev.congr (fun k => ?_) this
        rw [hwk, Option.bind_some, if_pos hm, w64s (x := cz j off + 1) (by omega) (by omega), if_neg he, hnext.out, hst]
    · have hm' : ¬ (j : Int) % 7 = off := fun e => hm ((hisd ((j : Int) + 1)).2 (by rwa [Int.add_sub_cancel]))
      rw [if_neg hm'] at hst
      have := ih (j + 1) (by omega) (by omega) (by omega)
      refine Ev.congr (fun k => ?_) this
      rw [hwk, Option.bind_some, if_neg hm, hnext.out, hst]
theorem back_loop (y m n d : Int) (hin : 1 ≤ y ∧ y ≤ 9999 ∧ 1 ≤ m ∧ m ≤ 12) (hd : 0 ≤ d ∧ d ≤ 6) (hn : -1000 ≤ n ∧ n ≤ -1) (len : Nat) (hlen : lenP y m = len) :
    ∀ (j : Nat), j ≤ len → n < cz j (offW (daysP y m 1).1 d) - cz len (offW (daysP y m 1).1 d) → Ev (fun k => almanacref15_Nth.l1 k y m (cz j (offW (daysP y m 1).1 d) - cz len (offW (daysP y m 1).1 d)) (j : Int) n d)
      (if 0 ≤ cz len (offW (daysP y m 1).1 d) + n then ((daysP y m 1).1 + offW (daysP y m 1).1 d + 7 * (cz len (offW (daysP y m 1).1 d) + n), true) else (0, false)) := by
  obtain ⟨_, hF, hday⟩ := days_in y m hin
  have ho := off_le (daysP y m 1).1 d
  obtain ⟨hl0, hl1, _⟩ := lenP_le y m
  obtain ⟨F, eF⟩ : ∃ F, (daysP y m 1).1 = F := ⟨_, rfl⟩
  rw [eF] at hF hday ho ⊢
  obtain ⟨off, eo⟩ : ∃ off, offW F d = off := ⟨_, rfl⟩
  have hisd := fun i => is_day F d i hd
  rw [eo] at ho hisd ⊢
  clear eF eo
  have hcl : 0 ≤ cz len off ∧ cz len off ≤ 10 := by unfold cz; omega
  intro j
  induction j with
  | zero =>
    intro hj hc
    have h0 : cz 0 off = 0 := by unfold cz; omega
    rw [if_neg (by omega)]
    exact Ev.step (f := fun _ => some (0, false)) (fun k => by simp only [almanacref15_Nth.l1]; rw [if_neg (by omega)]) (Ev.now _)
  | succ j ih =>
    intro hj hc
    have hdj := hday ((j + 1 : Nat) : Int) (by omega) (by omega)
    have hwk := weekdayR (F + ((j + 1 : Nat) : Int) - 1) (by omega)
    have hst := cz_step j off ho
    have hcb : 0 ≤ cz j off ∧ cz j off ≤ 10 := by unfold cz; omega
    have hcb1 : 0 ≤ cz (j + 1) off ∧ cz (j + 1) off ≤ 10 := by unfold cz; omega
    refine Ev.step (f := fun k => (almanacref10_Days.f k y m ((j + 1 : Nat) : Int)).bind fun bt151 => ((almanacref10_Weekday.f bt151.1).bind fun t153 => (if t153 = d then (if (wrap64 (cz (j + 1) off - cz len off - 1)) = n then (some (bt151.1, true)) else (almanacref15_Nth.l1 k y m (wrap64 (cz (j + 1) off - cz len off - 1)) (wrap64 (((j + 1 : Nat) : Int) - 1)) n d)) else (almanacref15_Nth.l1 k y m (cz (j + 1) off - cz len off) (wrap64 (((j + 1 : Nat) : Int) - 1)) n d)))) (fun k => by
      simp only [almanacref15_Nth.l1]
      rw [if_pos (by omega)]) ?_
    refine Ev.bind (daysR y m _) ?_
    rw [hdj]
    simp only
    have hnext : Aside0 (wrap64 (((j + 1 : Nat) : Int) - 1) = (j : Int)) := ⟨by rw [w64s (by omega) (by omega)]; omega⟩
    by_cases hm : wkP (F + ((j + 1 : Nat) : Int) - 1) = d
    · have hm' : (j : Int) % 7 = off := by have := (hisd ((j + 1 : Nat) : Int)).1 hm; omega
      rw [if_pos hm'] at hst
      have hat := cz_at j off ho hm'
      clear hm'
      by_cases he : cz (j + 1) off - cz len off - 1 = n
      · rw [if_pos (by omega)]
        refine Ev.congr (fun k => ?_) (Ev.now _)
        rw [hwk, Option.bind_some, if_pos hm, w64s (by omega) (by omega), if_pos he]
        refine congrArg some (Prod.ext ?_ rfl)
        simp only
        omega
      · have := ih (by omega) (by omega)
        refine Ev.congr (fun k => ?_) this
        rw [hwk, Option.bind_some, if_pos hm, w64s (x := cz (j + 1) off - cz len off - 1) (by omega) (by omega), if_neg he, hnext.out, hst]
        congr 1
        omega
    · have hm' : ¬ (j : Int) % 7 = off := fun e => hm ((hisd ((j + 1 : Nat) : Int)).2 (by omega))
      rw [if_neg hm'] at hst
      have := ih (by omega) (by omega)
      refine Ev.congr (fun k => ?_) this
      rw [hwk, Option.bind_some, if_neg hm, hnext.out, hst]
theorem rd_wdL (a : Int) (c : Nat) (k : Int) (h0 : 0 ≤ k) (h1 : k < c) : rd (wdL a c) k = a + 7 * k := by
  have hk : k.toNat < (wdL a c).length := by rw [wdL_len]; omega
  have : rd (wdL a c) k = (wdL a c)[k.toNat] := by unfold rd; simp [List.getD, hk]
  rw [this, wdL_at]
  omega
theorem nthR (y m n d : Int) (hn : -1000 ≤ n ∧ n ≤ 1000) (hd : 0 ≤ d ∧ d ≤ 6) : Ev (fun k => almanacref15_Nth.f k y m n d) (nthP y m n d) := by
  have hbad : ∀ L : Int, Ev (fun k => almanacref15_Nth.j0 k y m L true n d) (0, false) := fun L => Ev.step (f := fun _ => some (0, false)) (fun k => by simp [almanacref15_Nth.j0]) (Ev.now _)
  refine Ev.bind (lengthE y m) ?_
  by_cases h0 : lenP y m = 0
  · refine Ev.congr (fun k => by rw [if_pos h0]) ?_
    have hw : wdays y m d = [] := by
      have hdp : daysP y m 1 = (0, false) := by unfold daysP; rw [if_pos (Or.inr (by omega))]
      unfold wdays
      rw [hdp]
      rfl
    have hv : nthP y m n d = (0, false) := by
      unfold nthP
      rw [hw]
      split
      · rfl
      · split
        · unfold atL; rw [if_pos (by simp; omega)]
        · unfold atL; rw [if_pos (by simp; omega)]
    rw [hv]
    exact hbad _
  · have hin : 1 ≤ y ∧ y ≤ 9999 ∧ 1 ≤ m ∧ m ≤ 12 := by
      by_cases h : 1 ≤ y ∧ y ≤ 9999 ∧ 1 ≤ m ∧ m ≤ 12
      · exact h
      · exact absurd (lenP_out y m h) h0
    by_cases hn0 : n = 0
    · refine Ev.congr (fun k => by rw [if_neg h0, if_pos hn0]) ?_
      rw [nthP_bad y m n d (by omega)]
      exact hbad _
    · refine Ev.congr (f := fun k => almanacref15_Nth.j0 k y m (lenP y m) false n d) (fun k => by rw [if_neg h0, if_neg hn0, if_neg (by omega), decide_eq_false (by omega)]) ?_
      obtain ⟨hl0, hl1, _⟩ := lenP_le y m
      obtain ⟨len, hlen⟩ : ∃ len : Nat, lenP y m = len := ⟨(lenP y m).toNat, by omega⟩
      obtain ⟨hok, hF, hday⟩ := days_in y m hin
      have ho := off_le (daysP y m 1).1 d
      have hwd : wdays y m d = wdL ((daysP y m 1).1 + offW (daysP y m 1).1 d) (cz len (offW (daysP y m 1).1 d)).toNat := by
        unfold wdays
        rw [if_pos hok, hlen]
        rfl
      have hcz : 0 ≤ cz len (offW (daysP y m 1).1 d) := by unfold cz; omega
      have hwl : ((wdays y m d).length : Int) = cz len (offW (daysP y m 1).1 d) := by rw [hwd, wdL_len]; omega
      have h00 : cz 0 (offW (daysP y m 1).1 d) = 0 := by unfold cz; omega
      by_cases hp : n > 0
      · refine Ev.step (f := fun k => almanacref15_Nth.l0 k y m len 0 1 n d) (fun k => by simp only [almanacref15_Nth.j0]; rw [if_neg (by simp), if_pos hp, hlen]) ?_
        have hmain := fore_loop y m n d hin hd (by omega) len hlen len 0 (by omega) (by omega) (by omega)
        rw [h00] at hmain
        rw [nthP_pos y m n d (by omega) (by omega) hn0 (by omega), hwl, hwd]
        by_cases hle : n ≤ cz len (offW (daysP y m 1).1 d)
        · rw [if_pos hle] at hmain
          rw [if_neg (by omega), rd_wdL _ _ _ (by omega) (by omega)]
          exact hmain
        · rw [if_neg hle] at hmain
          rw [if_pos (by omega)]
          exact hmain
      · refine Ev.step (f := fun k => almanacref15_Nth.l1 k y m 0 len n d) (fun k => by simp only [almanacref15_Nth.j0]; rw [if_neg (by simp), if_neg hp, hlen]) ?_
        have hmain := back_loop y m n d hin hd (by omega) len hlen len (by omega) (by omega)
        rw [Int.sub_self] at hmain
        rw [nthP_neg y m n d (by omega) (by omega) hn0 (by omega), hwl, hwd]
        by_cases hle : 0 ≤ cz len (offW (daysP y m 1).1 d) + n
        · rw [if_pos hle] at hmain
          rw [if_neg (by omega), rd_wdL _ _ _ (by omega) (by omega)]
          exact hmain
        · rw [if_neg hle] at hmain
          rw [if_pos (by omega)]
          exact hmain
end Go.Proofs.YtmajmolbjiahlaaGreatDoor.PD
namespace Go.Proofs.YtmajmolbjiahlaaGreatDoor.PD
open Go.RowKit Go.Proofs.YtmajmolbjiahlaaGreatDoorW.PrintWords Go.Proofs.YtmajmolbjiahlaaGreatDoorW.PrintLast Go.Proofs.YtmajmolbjiahlaaGreatDoorW.PrintMore
attribute [local go_sem] isSome_setCell max2_int min2_int max_two min_two max_three min_three max_four min_four
set_option linter.unusedVariables false
set_option linter.unusedSimpArgs false
def almanacref10_Parts.f (a0 : Int) : Option (Int × Int) := if (Int.tmod a0 86400) < 0 then (some (wrap64 ((wrap64 (Int.tdiv a0 86400)) - 1), wrap64 ((Int.tmod a0 86400) + 86400))) else (some (wrap64 (Int.tdiv a0 86400), Int.tmod a0 86400))
set_option maxHeartbeats 8000000 in
set_option maxRecDepth 100000 in
theorem almanacref10_Parts.calls (a0 : Int) (r1 : Int) (r2 : Int) (w : World) (h : almanacref10_Parts.f a0 = some (r1, r2)) :
    Calls Tryz.prog 45 #[.int .i64 a0] w fun e w' => e = .returned (.tuple #[.int .i64 r1, .int .i64 r2]) ∧ Drawn0 w w' := by
  have H : (if (Int.tmod a0 86400) < 0 then (some (wrap64 ((wrap64 (Int.tdiv a0 86400)) - 1), wrap64 ((Int.tmod a0 86400) + 86400))) else (some (wrap64 (Int.tdiv a0 86400), Int.tmod a0 86400))) = some (r1, r2) := h
  clear h
  by_cases c2 : (Int.tmod a0 86400) < 0
  · rw [if_pos c2] at H
    have c2b0 : decide ((Int.tmod a0 86400) < 0) = true := decide_eq_true c2
    clear c2
    simp only [Option.some.injEq, Prod.mk.injEq] at H
    obtain ⟨rfl, rfl⟩ := H
    go_enter Tryz.func45, Tryz.ntmps45
    go_wp2
    go_ret2
    exact ⟨by first | rfl | (simp; done) | (simp [*]; done), by repeat (first | exact Drawn0.refl _ | apply Drawn0.step)⟩
  · rw [if_neg c2] at H
    have c2b0 : decide ((Int.tmod a0 86400) < 0) = false := decide_eq_false c2
    clear c2
    simp only [Option.some.injEq, Prod.mk.injEq] at H
    obtain ⟨rfl, rfl⟩ := H
    go_enter Tryz.func45, Tryz.ntmps45
    go_wp2
    go_ret2
    exact ⟨by first | rfl | (simp; done) | (simp [*]; done), by repeat (first | exact Drawn0.refl _ | apply Drawn0.step)⟩
end Go.Proofs.YtmajmolbjiahlaaGreatDoor.PD
namespace Go.Proofs.YtmajmolbjiahlaaGreatDoor.PD
open Go.RowKit Go.Proofs.YtmajmolbjiahlaaGreatDoorW.PrintWords Go.Proofs.YtmajmolbjiahlaaGreatDoorW.PrintLast Go.Proofs.YtmajmolbjiahlaaGreatDoorW.PrintMore
attribute [local go_sem] isSome_setCell max2_int min2_int max_two min_two max_three min_three max_four min_four
set_option linter.unusedVariables false
set_option linter.unusedSimpArgs false
mutual
def almanacref16_latest.j0 : Nat → Int → Int → Int → Int → Int → Int → Bool → Int → Int → Int → Option (Int × Bool)
  | 0, _, _, _, _, _, _, _, _, _, _ => none
  | k + 1, x1, x6, x9, x155000, x155001, x155002, x155003, x155004, x155005, x155006 => (almanacref10_Parts.f x155000).bind fun bt161 => (almanacref16_latest.l0 k x1 x6 x9 bt161.2 x155000 x155001 x155002 x155003 x155004 x155005 x155006)
def almanacref16_latest.l0 : Nat → Int → Int → Int → Int → Int → Int → Int → Bool → Int → Int → Int → Option (Int × Bool)
  | 0, _, _, _, _, _, _, _, _, _, _, _ => none
  | k + 1, x1, x6, x9, x14, x155000, x155001, x155002, x155003, x155004, x155005, x155006 => if x9 ≥ 1 then ((almanacref15_Nth.f k x9 x155004 x155005 x155006).bind fun bt163 => (if bt163.2 = true then (almanacref16_latest.j2 k x1 x6 x9 x14 bt163.2 (wrap64 ((wrap64 (bt163.1 * 86400)) + x14)) (decide ((wrap64 ((wrap64 (bt163.1 * 86400)) + x14)) ≤ x155000)) x155000 x155001 x155002 x155003 x155004 x155005 x155006) else (almanacref16_latest.j2 k x1 x6 x9 x14 bt163.2 (wrap64 ((wrap64 (bt163.1 * 86400)) + x14)) false x155000 x155001 x155002 x155003 x155004 x155005 x155006))) else (some (x6, true))
def almanacref16_latest.j2 : Nat → Int → Int → Int → Int → Bool → Int → Bool → Int → Int → Int → Bool → Int → Int → Int → Option (Int × Bool)
  | 0, _, _, _, _, _, _, _, _, _, _, _, _, _, _ => none
  | k + 1, x1, x6, x9, x14, x16, x17, x74, x155000, x155001, x155002, x155003, x155004, x155005, x155006 => if x74 = true then (some (x6, true)) else (if x16 = true then (if (wrap64 (x17 - x155001)) ≤ x1 then (some (wrap64 (x17 - x155001), true)) else (almanacref16_latest.l0 k x1 x6 (wrap64 (x9 - 1)) x14 x155000 x155001 x155002 x155003 x155004 x155005 x155006)) else (almanacref16_latest.l0 k x1 x6 (wrap64 (x9 - 1)) x14 x155000 x155001 x155002 x155003 x155004 x155005 x155006))
end
def almanacref16_latest.f (k : Nat) (a0_0 : Int) (a0_1 : Int) (a0_2 : Int) (a0_3 : Bool) (a0_4 : Int) (a0_5 : Int) (a0_6 : Int) (a1 : Int) : Option (Int × Bool) := if (wrap64 (a0_0 - a0_1)) > a1 then (some (0, false)) else (if a0_3 = true then ((almanacref10_Parts.f (wrap64 (a1 + 172800))).bind fun bt155 => ((almanacref10_Civil.f k bt155.1).bind fun bt157 => (if bt157.2.2.2 = true then (almanacref16_latest.j0 k a1 (wrap64 (a0_0 - a0_1)) bt157.1 a0_0 a0_1 a0_2 a0_3 a0_4 a0_5 a0_6) else (almanacref16_latest.j0 k a1 (wrap64 (a0_0 - a0_1)) 9999 a0_0 a0_1 a0_2 a0_3 a0_4 a0_5 a0_6)))) else (some (wrap64 (a0_0 - a0_1), true)))
set_option maxHeartbeats 8000000 in
set_option maxRecDepth 100000 in
theorem almanacref16_latest.calls (k : Nat) (a0_0 : Int) (a0_1 : Int) (a0_2 : Int) (a0_3 : Bool) (a0_4 : Int) (a0_5 : Int) (a0_6 : Int) (a1 : Int) (r1 : Int) (r2 : Bool) (w : World) (h : almanacref16_latest.f k a0_0 a0_1 a0_2 a0_3 a0_4 a0_5 a0_6 a1 = some (r1, r2)) :
    Calls Tryz.prog 27 #[.agg #[.int .i64 a0_0, .int .i64 a0_1, .int .i64 a0_2, .bool a0_3, .int .i64 a0_4, .int .i64 a0_5, .int .i64 a0_6], .int .i64 a1] w fun e w' => e = .returned (.tuple #[.int .i64 r1, .bool r2]) ∧ Below w.heap.size w w' := by
  have hu32 := Tryz.underlying32
  have hu30 := Tryz.underlying30
  have HB := Aside0.mk (Below.refl w.heap.size w)
  have H : (if (wrap64 (a0_0 - a0_1)) > a1 then (some (0, false)) else (if a0_3 = true then ((almanacref10_Parts.f (wrap64 (a1 + 172800))).bind fun bt155 => ((almanacref10_Civil.f k bt155.1).bind fun bt157 => (if bt157.2.2.2 = true then (almanacref16_latest.j0 k a1 (wrap64 (a0_0 - a0_1)) bt157.1 a0_0 a0_1 a0_2 a0_3 a0_4 a0_5 a0_6) else (almanacref16_latest.j0 k a1 (wrap64 (a0_0 - a0_1)) 9999 a0_0 a0_1 a0_2 a0_3 a0_4 a0_5 a0_6)))) else (some (wrap64 (a0_0 - a0_1), true)))) = some (r1, r2) := h
  clear h
  by_cases c3 : (wrap64 (a0_0 - a0_1)) > a1
  · rw [if_pos c3] at H
    have c3b0 : decide (a1 < (wrap64 (a0_0 - a0_1))) = true := decide_eq_true c3
    clear c3
    simp only [Option.some.injEq, Prod.mk.injEq] at H
    obtain ⟨rfl, rfl⟩ := H
    go_enter Tryz.func27, Tryz.ntmps27
    go_wp2_with (first | ((with_reducible refine gate_dst (N := 2) rfl ?_); refine box_event ?hg (N := 2) ?hd (cs := #[.int .i64 a0_0, .int .i64 a0_1, .int .i64 a0_2, .bool a0_3, .int .i64 a0_4, .int .i64 a0_5, .int .i64 a0_6]) (t := 32) ?hr ?_; (case hd => rfl); (case hg => rfl); (case hr => first | (go_simp; done) | (go_simp; rfl)); intro gb154 hg w4 hbox hb; have n0_ := Aside0.mk (below_step (by repeat (first | (with_reducible first | exact HB.out | apply below_alloc | apply pw_below_drewN | apply below_drew1) | exact HB.out)) hb); have n1_ := Aside0.mk (hbox); have n2_ := Aside0.mk ((by rw [hg]; exact (below_size (by repeat (first | (with_reducible first | exact HB.out | apply below_alloc | apply pw_below_drewN | apply below_drew1) | exact HB.out))) : w.heap.size ≤ gb154)); have n3_ := Aside0.mk ((by rw [hg]; exact (below_size (by repeat (first | (with_reducible first | exact HB.out | apply below_alloc | apply pw_below_drewN | apply below_drew1) | exact HB.out))) : w.heap.size ≤ gb154)); clear HB; have HB := n0_; have BK154 := n1_; have GW154 := n2_; have GE154 := n3_; clear n0_ n1_ n2_ n3_; clear hb hbox hg; have hcz5_0 : w4.cell? ⟨gb154, 0, none⟩ = some (.int .i64 a0_0) := (blk_cell BK154.out 0).trans rfl; have hcz5_1 : w4.cell? ⟨gb154, 1, none⟩ = some (.int .i64 a0_1) := (blk_cell BK154.out 1).trans rfl; have hcz5_2 : w4.cell? ⟨gb154, 2, none⟩ = some (.int .i64 a0_2) := (blk_cell BK154.out 2).trans rfl; have hcz5_3 : w4.cell? ⟨gb154, 3, none⟩ = some (.bool a0_3) := (blk_cell BK154.out 3).trans rfl; have hcz5_4 : w4.cell? ⟨gb154, 4, none⟩ = some (.int .i64 a0_4) := (blk_cell BK154.out 4).trans rfl; have hcz5_5 : w4.cell? ⟨gb154, 5, none⟩ = some (.int .i64 a0_5) := (blk_cell BK154.out 5).trans rfl; have hcz5_6 : w4.cell? ⟨gb154, 6, none⟩ = some (.int .i64 a0_6) := (blk_cell BK154.out 6).trans rfl; have hfz5_0 := blk_frozen BK154.out 0; have hfz5_1 := blk_frozen BK154.out 1; have hfz5_2 := blk_frozen BK154.out 2; have hfz5_3 := blk_frozen BK154.out 3; have hfz5_4 := blk_frozen BK154.out 4; have hfz5_5 := blk_frozen BK154.out 5; have hfz5_6 := blk_frozen BK154.out 6))
    go_ret2
    exact ⟨by first | rfl | (simp [errW_none, errW_some] <;> rfl) | (simp [*, errW_none, errW_some] <;> rfl), by repeat (first | (with_reducible first | exact HB.out | apply below_alloc | apply pw_below_drewN | apply below_drew1 | refine below_set ?_ GE154.out) | exact HB.out)⟩
  · rw [if_neg c3] at H
    have c3b0 : decide (a1 < (wrap64 (a0_0 - a0_1))) = false := decide_eq_false c3
    clear c3
    by_cases c6 : a0_3 = true
    · subst c6
      have H1 : ((almanacref10_Parts.f (wrap64 (a1 + 172800))).bind fun bt155 => ((almanacref10_Civil.f k bt155.1).bind fun bt157 => (if bt157.2.2.2 = true then (almanacref16_latest.j0 k a1 (wrap64 (a0_0 - a0_1)) bt157.1 a0_0 a0_1 a0_2 true a0_4 a0_5 a0_6) else (almanacref16_latest.j0 k a1 (wrap64 (a0_0 - a0_1)) 9999 a0_0 a0_1 a0_2 true a0_4 a0_5 a0_6)))) = some (r1, r2) := by rw [if_pos rfl] at H; exact H
      clear H
      have H := H1
      clear H1
      replace H := Option.bind_eq_some_iff.mp H
      obtain ⟨⟨t155, t156⟩, A70, H⟩ := H
      replace H : ((almanacref10_Civil.f k t155).bind fun bt157 => (if bt157.2.2.2 = true then (almanacref16_latest.j0 k a1 (wrap64 (a0_0 - a0_1)) bt157.1 a0_0 a0_1 a0_2 true a0_4 a0_5 a0_6) else (almanacref16_latest.j0 k a1 (wrap64 (a0_0 - a0_1)) 9999 a0_0 a0_1 a0_2 true a0_4 a0_5 a0_6))) = some (r1, r2) := H
      have A7 := Aside0.mk A70
      clear A70
      replace H := Option.bind_eq_some_iff.mp H
      obtain ⟨⟨t157, t158, t159, t160⟩, A80, H⟩ := H
      replace H : (if t160 = true then (almanacref16_latest.j0 k a1 (wrap64 (a0_0 - a0_1)) t157 a0_0 a0_1 a0_2 true a0_4 a0_5 a0_6) else (almanacref16_latest.j0 k a1 (wrap64 (a0_0 - a0_1)) 9999 a0_0 a0_1 a0_2 true a0_4 a0_5 a0_6)) = some (r1, r2) := H
      have A8 := Aside0.mk A80
      clear A80
      have HC9 := Aside0.mk H
      clear H
      go_enter Tryz.func27, Tryz.ntmps27
      go_upto_if 44 with (first | ((with_reducible refine gate_dst (N := 2) rfl ?_); refine box_event ?hg (N := 2) ?hd (cs := #[.int .i64 a0_0, .int .i64 a0_1, .int .i64 a0_2, .bool true, .int .i64 a0_4, .int .i64 a0_5, .int .i64 a0_6]) (t := 32) ?hr ?_; (case hd => rfl); (case hg => rfl); (case hr => first | (go_simp; done) | (go_simp; rfl)); intro gb154 hg w10 hbox hb; have n0_ := Aside0.mk (below_step (by repeat (first | (with_reducible first | exact HB.out | apply below_alloc | apply pw_below_drewN | apply below_drew1) | exact HB.out)) hb); have n1_ := Aside0.mk (hbox); have n2_ := Aside0.mk ((by rw [hg]; exact (below_size (by repeat (first | (with_reducible first | exact HB.out | apply below_alloc | apply pw_below_drewN | apply below_drew1) | exact HB.out))) : w.heap.size ≤ gb154)); have n3_ := Aside0.mk ((by rw [hg]; exact (below_size (by repeat (first | (with_reducible first | exact HB.out | apply below_alloc | apply pw_below_drewN | apply below_drew1) | exact HB.out))) : w.heap.size ≤ gb154)); clear HB; have HB := n0_; have BK154 := n1_; have GW154 := n2_; have GE154 := n3_; clear n0_ n1_ n2_ n3_; clear hb hbox hg; have hcz11_0 : w10.cell? ⟨gb154, 0, none⟩ = some (.int .i64 a0_0) := (blk_cell BK154.out 0).trans rfl; have hcz11_1 : w10.cell? ⟨gb154, 1, none⟩ = some (.int .i64 a0_1) := (blk_cell BK154.out 1).trans rfl; have hcz11_2 : w10.cell? ⟨gb154, 2, none⟩ = some (.int .i64 a0_2) := (blk_cell BK154.out 2).trans rfl; have hcz11_3 : w10.cell? ⟨gb154, 3, none⟩ = some (.bool true) := (blk_cell BK154.out 3).trans rfl; have hcz11_4 : w10.cell? ⟨gb154, 4, none⟩ = some (.int .i64 a0_4) := (blk_cell BK154.out 4).trans rfl; have hcz11_5 : w10.cell? ⟨gb154, 5, none⟩ = some (.int .i64 a0_5) := (blk_cell BK154.out 5).trans rfl; have hcz11_6 : w10.cell? ⟨gb154, 6, none⟩ = some (.int .i64 a0_6) := (blk_cell BK154.out 6).trans rfl; have hfz11_0 := blk_frozen BK154.out 0; have hfz11_1 := blk_frozen BK154.out 1; have hfz11_2 := blk_frozen BK154.out 2; have hfz11_3 := blk_frozen BK154.out 3; have hfz11_4 := blk_frozen BK154.out 4; have hfz11_5 := blk_frozen BK154.out 5; have hfz11_6 := blk_frozen BK154.out 6) | ((with_reducible refine gate_callee (f := 45) rfl ?_); refine goesL_ (some 33) rfl rfl Tryz.func45 (by kernel_rfl) rfl #[.int .i64 (wrap64 (a1 + 172800))] rfl (by (try simp only [List.map_toArray, List.map_cons, List.map_nil]); first | done | rfl | (simp only [List.length_drop, List.length_take]; rfl)) ?_; (with_reducible refine (almanacref10_Parts.calls (wrap64 (a1 + 172800)) t155 t156 _ A7.out).mono ?_); rintro e w' ⟨rfl, ⟨nd, rfl⟩⟩; refine ⟨_, rfl, ?_⟩) | ((with_reducible refine gate_callee (f := 46) rfl ?_); refine goesL_ (some 38) rfl rfl Tryz.func46 (by kernel_rfl) rfl #[.int .i64 t155] rfl (by (try simp only [List.map_toArray, List.map_cons, List.map_nil]); first | done | rfl | (simp only [List.length_drop, List.length_take]; rfl)) ?_; (with_reducible refine (almanacref10_Civil.calls k t155 t157 t158 t159 t160 _ A8.out).mono ?_); rintro e w' ⟨rfl, ⟨nd, rfl⟩⟩; refine ⟨_, rfl, ?_⟩))
      (try simp only [Act.put, List.setIfInBounds_toArray, List.set_cons_zero, List.set_cons_succ])
      go_cut [9] (fun v9 wc => ∃ (kq : Nat) (x9_8 : Int), v9 = .int .i64 x9_8 ∧ Aside0 (almanacref16_latest.j0 kq a1 (wrap64 (a0_0 - a0_1)) x9_8 a0_0 a0_1 a0_2 true a0_4 a0_5 a0_6 = some (r1, r2)) ∧ Aside0 (kq ≤ k) ∧ Aside0 (wc.heap[gb154]? = some (.cells #[.int .i64 a0_0, .int .i64 a0_1, .int .i64 a0_2, .bool true, .int .i64 a0_4, .int .i64 a0_5, .int .i64 a0_6] 32 (0, 0))) ∧ Aside0 (Below w.heap.size w wc))
      case first =>
        have H := HC9.out
        clear HC9
        by_cases c12 : t160 = true
        · subst c12
          have H1 : (almanacref16_latest.j0 k a1 (wrap64 (a0_0 - a0_1)) t157 a0_0 a0_1 a0_2 true a0_4 a0_5 a0_6) = some (r1, r2) := by rw [if_pos rfl] at H; exact H
          clear H
          have H := H1
          clear H1
          have H' := Aside0.mk H
          clear H
          go_wp2
          go_meet
          case rel => exact ⟨_, (t157), (by first | rfl | (simp; done) | (simp [*]; done)), H', ⟨by first | omega | exact Nat.le_refl _⟩, ⟨by (with_reducible repeat (first | refine blk_drewN ?_ _ | refine blk_drew ?_ | refine blk_alloc ?_ _)); exact BK154.out⟩, ⟨by repeat (first | (with_reducible first | exact HB.out | apply below_alloc | apply pw_below_drewN | apply below_drew1 | refine below_set ?_ GE154.out) | exact HB.out)⟩⟩
        · replace c12 := Bool.eq_false_iff.mpr c12
          subst c12
          have H1 : (almanacref16_latest.j0 k a1 (wrap64 (a0_0 - a0_1)) 9999 a0_0 a0_1 a0_2 true a0_4 a0_5 a0_6) = some (r1, r2) := by rw [if_neg (show ¬ (false = true) by decide)] at H; exact H
          clear H
          have H := H1
          clear H1
          have H' := Aside0.mk H
          clear H
          go_wp2
          go_meet
          case rel => exact ⟨_, (9999), (by first | rfl | (simp; done) | (simp [*]; done)), H', ⟨by first | omega | exact Nat.le_refl _⟩, ⟨by (with_reducible repeat (first | refine blk_drewN ?_ _ | refine blk_drew ?_ | refine blk_alloc ?_ _)); exact BK154.out⟩, ⟨by repeat (first | (with_reducible first | exact HB.out | apply below_alloc | apply pw_below_drewN | apply below_drew1 | refine below_set ?_ GE154.out) | exact HB.out)⟩⟩
      case rest =>
        clear HC9
        try clear c1
        try clear c2
        try clear p2
        try clear c3
        try clear c3b0
        try clear c4
        try clear c6
        try clear p6
        try clear c12
        try clear hcz11_0
        try clear hcz11_1
        try clear hcz11_2
        try clear hcz11_3
        try clear hcz11_4
        try clear hcz11_5
        try clear hcz11_6
        try clear hcz5_0
        try clear hcz5_1
        try clear hcz5_2
        try clear hcz5_3
        try clear hcz5_4
        try clear hcz5_5
        try clear hcz5_6
        try clear hfz11_0
        try clear hfz11_1
        try clear hfz11_2
        try clear hfz11_3
        try clear hfz11_4
        try clear hfz11_5
        try clear hfz11_6
        try clear hfz5_0
        try clear hfz5_1
        try clear hfz5_2
        try clear hfz5_3
        try clear hfz5_4
        try clear hfz5_5
        try clear hfz5_6
        obtain ⟨kq, x9_8, rfl, HA, HJ8, BK154, HB⟩ := hcut
        cases kq with
        | zero => exact absurd HA.out (by simp [almanacref16_latest.j0])
        | succ kj8 =>
          have H := HA.out
          clear HA
          simp only [almanacref16_latest.j0] at H
          replace H := Option.bind_eq_some_iff.mp H
          obtain ⟨⟨t161, t162⟩, A130, H⟩ := H
          replace H : (almanacref16_latest.l0 kj8 a1 (wrap64 (a0_0 - a0_1)) x9_8 t162 a0_0 a0_1 a0_2 true a0_4 a0_5 a0_6) = some (r1, r2) := H
          have A13 := Aside0.mk A130
          clear A130
          have H' := Aside0.mk H
          clear H
          have hcz14_0 : wc.cell? ⟨gb154, 0, none⟩ = some (.int .i64 a0_0) := (blk_cell BK154.out 0).trans rfl
          have hcz14_1 : wc.cell? ⟨gb154, 1, none⟩ = some (.int .i64 a0_1) := (blk_cell BK154.out 1).trans rfl
          have hcz14_2 : wc.cell? ⟨gb154, 2, none⟩ = some (.int .i64 a0_2) := (blk_cell BK154.out 2).trans rfl
          have hcz14_3 : wc.cell? ⟨gb154, 3, none⟩ = some (.bool true) := (blk_cell BK154.out 3).trans rfl
          have hcz14_4 : wc.cell? ⟨gb154, 4, none⟩ = some (.int .i64 a0_4) := (blk_cell BK154.out 4).trans rfl
          have hcz14_5 : wc.cell? ⟨gb154, 5, none⟩ = some (.int .i64 a0_5) := (blk_cell BK154.out 5).trans rfl
          have hcz14_6 : wc.cell? ⟨gb154, 6, none⟩ = some (.int .i64 a0_6) := (blk_cell BK154.out 6).trans rfl
          have hfz14_0 := blk_frozen BK154.out 0
          have hfz14_1 := blk_frozen BK154.out 1
          have hfz14_2 := blk_frozen BK154.out 2
          have hfz14_3 := blk_frozen BK154.out 3
          have hfz14_4 := blk_frozen BK154.out 4
          have hfz14_5 := blk_frozen BK154.out 5
          have hfz14_6 := blk_frozen BK154.out 6
          go_wp2_with (first | ((with_reducible refine gate_callee (f := 45) rfl ?_); refine goesL_ (some 48) rfl rfl Tryz.func45 (by kernel_rfl) rfl #[.int .i64 a0_0] rfl (by (try simp only [List.map_toArray, List.map_cons, List.map_nil]); first | done | rfl | (simp only [List.length_drop, List.length_take]; rfl)) ?_; (with_reducible refine (almanacref10_Parts.calls a0_0 t161 t162 _ A13.out).mono ?_); rintro e w' ⟨rfl, ⟨nd, rfl⟩⟩; refine ⟨_, rfl, ?_⟩))
          go_loopg [9] kj8 (fun kq v9 w' => ∃ (x9_2 : Int), v9 = .int .i64 x9_2 ∧ Aside0 (almanacref16_latest.l0 kq a1 (wrap64 (a0_0 - a0_1)) x9_2 t162 a0_0 a0_1 a0_2 true a0_4 a0_5 a0_6 = some (r1, r2)) ∧ Aside0 (kq ≤ kj8) ∧ Aside0 (w'.heap[gb154]? = some (.cells #[.int .i64 a0_0, .int .i64 a0_1, .int .i64 a0_2, .bool true, .int .i64 a0_4, .int .i64 a0_5, .int .i64 a0_6] 32 (0, 0))) ∧ Aside0 (Below w.heap.size w w'))
          case atStart => exact ⟨(x9_8), (by first | rfl | (simp; done) | (simp [*]; done)), H', ⟨Nat.le_refl _⟩, ⟨by (with_reducible repeat (first | refine blk_drewN ?_ _ | refine blk_drew ?_ | refine blk_alloc ?_ _)); exact BK154.out⟩, ⟨by repeat (first | (with_reducible first | exact HB.out | apply below_alloc | apply pw_below_drewN | apply below_drew1 | refine below_set ?_ GE154.out) | exact HB.out)⟩⟩
          case round =>
            clear H'
            try clear c1
            try clear c2
            try clear p2
            try clear c3
            try clear c3b0
            try clear c4
            try clear c6
            try clear p6
            try clear c12
            try clear hcz11_0
            try clear hcz11_1
            try clear hcz11_2
            try clear hcz11_3
            try clear hcz11_4
            try clear hcz11_5
            try clear hcz11_6
            try clear hcz14_0
            try clear hcz14_1
            try clear hcz14_2
            try clear hcz14_3
            try clear hcz14_4
            try clear hcz14_5
            try clear hcz14_6
            try clear hcz5_0
            try clear hcz5_1
            try clear hcz5_2
            try clear hcz5_3
            try clear hcz5_4
            try clear hcz5_5
            try clear hcz5_6
            try clear hfz11_0
            try clear hfz11_1
            try clear hfz11_2
            try clear hfz11_3
            try clear hfz11_4
            try clear hfz11_5
            try clear hfz11_6
            try clear hfz14_0
            try clear hfz14_1
            try clear hfz14_2
            try clear hfz14_3
            try clear hfz14_4
            try clear hfz14_5
            try clear hfz14_6
            try clear hfz5_0
            try clear hfz5_1
            try clear hfz5_2
            try clear hfz5_3
            try clear hfz5_4
            try clear hfz5_5
            try clear hfz5_6
            try clear p2
            try clear p6
            obtain ⟨x9_2, rfl, HA, HK2, BK154, HB⟩ := hrel
            cases gk with
            | zero => exact absurd HA.out (by simp [almanacref16_latest.l0])
            | succ k2 =>
              have H := HA.out
              clear HA
              simp only [almanacref16_latest.l0] at H
              by_cases c15 : x9_2 ≥ 1
              · rw [if_pos c15] at H
                have c15b0 : decide (1 ≤ x9_2) = true := decide_eq_true c15
                clear c15
                replace H := Option.bind_eq_some_iff.mp H
                obtain ⟨⟨t163, t164⟩, A160, H⟩ := H
                replace H : (if t164 = true then (almanacref16_latest.j2 k2 a1 (wrap64 (a0_0 - a0_1)) x9_2 t162 t164 (wrap64 ((wrap64 (t163 * 86400)) + t162)) (decide ((wrap64 ((wrap64 (t163 * 86400)) + t162)) ≤ a0_0)) a0_0 a0_1 a0_2 true a0_4 a0_5 a0_6) else (almanacref16_latest.j2 k2 a1 (wrap64 (a0_0 - a0_1)) x9_2 t162 t164 (wrap64 ((wrap64 (t163 * 86400)) + t162)) false a0_0 a0_1 a0_2 true a0_4 a0_5 a0_6)) = some (r1, r2) := H
                have A16 := Aside0.mk A160
                clear A160
                have HC17 := Aside0.mk H
                clear H
                have hcz18_0 : wr.cell? ⟨gb154, 0, none⟩ = some (.int .i64 a0_0) := (blk_cell BK154.out 0).trans rfl
                have hcz18_1 : wr.cell? ⟨gb154, 1, none⟩ = some (.int .i64 a0_1) := (blk_cell BK154.out 1).trans rfl
                have hcz18_2 : wr.cell? ⟨gb154, 2, none⟩ = some (.int .i64 a0_2) := (blk_cell BK154.out 2).trans rfl
                have hcz18_3 : wr.cell? ⟨gb154, 3, none⟩ = some (.bool true) := (blk_cell BK154.out 3).trans rfl
                have hcz18_4 : wr.cell? ⟨gb154, 4, none⟩ = some (.int .i64 a0_4) := (blk_cell BK154.out 4).trans rfl
                have hcz18_5 : wr.cell? ⟨gb154, 5, none⟩ = some (.int .i64 a0_5) := (blk_cell BK154.out 5).trans rfl
                have hcz18_6 : wr.cell? ⟨gb154, 6, none⟩ = some (.int .i64 a0_6) := (blk_cell BK154.out 6).trans rfl
                have hfz18_0 := blk_frozen BK154.out 0
                have hfz18_1 := blk_frozen BK154.out 1
                have hfz18_2 := blk_frozen BK154.out 2
                have hfz18_3 := blk_frozen BK154.out 3
                have hfz18_4 := blk_frozen BK154.out 4
                have hfz18_5 := blk_frozen BK154.out 5
                have hfz18_6 := blk_frozen BK154.out 6
                go_upto_region 15 with (first | ((with_reducible refine gate_callee (f := 47) rfl ?_); refine goesL_ (some 61) rfl rfl Tryz.func47 (by kernel_rfl) rfl #[.int .i64 x9_2, .int .i64 a0_4, .agg #[.int .i64 a0_5, .int .i64 a0_6]] rfl (by (try simp only [List.map_toArray, List.map_cons, List.map_nil]); first | done | rfl | (simp only [List.length_drop, List.length_take]; rfl)) ?_; (with_reducible refine (almanacref15_Nth.calls k2 x9_2 a0_4 a0_5 a0_6 t163 t164 _ A16.out).mono ?_); rintro e w19 ⟨rfl, hb⟩; refine ⟨_, rfl, ?_⟩; have n0_ := Aside0.mk (blk_below (g := gb154) (o := .cells #[.int .i64 a0_0, .int .i64 a0_1, .int .i64 a0_2, .bool true, .int .i64 a0_4, .int .i64 a0_5, .int .i64 a0_6] 32 (0, 0)) (by (with_reducible repeat (first | refine blk_drewN ?_ _ | refine blk_drew ?_ | refine blk_alloc ?_ _)); exact BK154.out) hb); have n1_ := Aside0.mk (below_step (by repeat (first | (with_reducible first | exact HB.out | apply below_alloc | apply pw_below_drewN | apply below_drew1 | refine below_set ?_ GE154.out) | exact HB.out)) hb); clear BK154; clear HB; have BK154 := n0_; have HB := n1_; clear n0_ n1_; (try clear hb); (try clear hb2); (try clear hk); (try clear hi)))
                (try simp only [Act.put, List.setIfInBounds_toArray, List.set_cons_zero, List.set_cons_succ])
                go_cut [74] (fun v74 wc => ∃ (kq : Nat) (x74_16 : Bool), v74 = .bool x74_16 ∧ Aside0 (almanacref16_latest.j2 kq a1 (wrap64 (a0_0 - a0_1)) x9_2 t162 t164 (wrap64 ((wrap64 (t163 * 86400)) + t162)) x74_16 a0_0 a0_1 a0_2 true a0_4 a0_5 a0_6 = some (r1, r2)) ∧ Aside0 (kq ≤ k2) ∧ Aside0 (wc.heap[gb154]? = some (.cells #[.int .i64 a0_0, .int .i64 a0_1, .int .i64 a0_2, .bool true, .int .i64 a0_4, .int .i64 a0_5, .int .i64 a0_6] 32 (0, 0))) ∧ Aside0 (Below w.heap.size w wc))
                case first =>
                  have H := HC17.out
                  clear HC17
                  by_cases c20 : t164 = true
                  · subst c20
                    have H1 : (almanacref16_latest.j2 k2 a1 (wrap64 (a0_0 - a0_1)) x9_2 t162 true (wrap64 ((wrap64 (t163 * 86400)) + t162)) (decide ((wrap64 ((wrap64 (t163 * 86400)) + t162)) ≤ a0_0)) a0_0 a0_1 a0_2 true a0_4 a0_5 a0_6) = some (r1, r2) := by rw [if_pos rfl] at H; exact H
                    clear H
                    have H := H1
                    clear H1
                    have H' := Aside0.mk H
                    clear H
                    have hcz21_0 : w19.cell? ⟨gb154, 0, none⟩ = some (.int .i64 a0_0) := (blk_cell BK154.out 0).trans rfl
                    have hcz21_1 : w19.cell? ⟨gb154, 1, none⟩ = some (.int .i64 a0_1) := (blk_cell BK154.out 1).trans rfl
                    have hcz21_2 : w19.cell? ⟨gb154, 2, none⟩ = some (.int .i64 a0_2) := (blk_cell BK154.out 2).trans rfl
                    have hcz21_3 : w19.cell? ⟨gb154, 3, none⟩ = some (.bool true) := (blk_cell BK154.out 3).trans rfl
                    have hcz21_4 : w19.cell? ⟨gb154, 4, none⟩ = some (.int .i64 a0_4) := (blk_cell BK154.out 4).trans rfl
                    have hcz21_5 : w19.cell? ⟨gb154, 5, none⟩ = some (.int .i64 a0_5) := (blk_cell BK154.out 5).trans rfl
                    have hcz21_6 : w19.cell? ⟨gb154, 6, none⟩ = some (.int .i64 a0_6) := (blk_cell BK154.out 6).trans rfl
                    have hfz21_0 := blk_frozen BK154.out 0
                    have hfz21_1 := blk_frozen BK154.out 1
                    have hfz21_2 := blk_frozen BK154.out 2
                    have hfz21_3 := blk_frozen BK154.out 3
                    have hfz21_4 := blk_frozen BK154.out 4
                    have hfz21_5 := blk_frozen BK154.out 5
                    have hfz21_6 := blk_frozen BK154.out 6
                    go_wp2
                    go_meet
                    case rel => exact ⟨_, (decide ((wrap64 ((wrap64 (t163 * 86400)) + t162)) ≤ a0_0)), (by first | rfl | (simp; done) | (simp [*]; done)), H', ⟨by have := HJ8.out; have := HK2.out; first | omega | exact Nat.le_refl _⟩, ⟨by (with_reducible repeat (first | refine blk_drewN ?_ _ | refine blk_drew ?_ | refine blk_alloc ?_ _)); exact BK154.out⟩, ⟨by repeat (first | (with_reducible first | exact HB.out | apply below_alloc | apply pw_below_drewN | apply below_drew1 | refine below_set ?_ GE154.out) | exact HB.out)⟩⟩
                  · replace c20 := Bool.eq_false_iff.mpr c20
                    subst c20
                    have H1 : (almanacref16_latest.j2 k2 a1 (wrap64 (a0_0 - a0_1)) x9_2 t162 false (wrap64 ((wrap64 (t163 * 86400)) + t162)) false a0_0 a0_1 a0_2 true a0_4 a0_5 a0_6) = some (r1, r2) := by rw [if_neg (show ¬ (false = true) by decide)] at H; exact H
                    clear H
                    have H := H1
                    clear H1
                    have H' := Aside0.mk H
                    clear H
                    go_wp2
                    go_meet
                    case rel => exact ⟨_, (false), (by first | rfl | (simp; done) | (simp [*]; done)), H', ⟨by have := HJ8.out; have := HK2.out; first | omega | exact Nat.le_refl _⟩, ⟨by (with_reducible repeat (first | refine blk_drewN ?_ _ | refine blk_drew ?_ | refine blk_alloc ?_ _)); exact BK154.out⟩, ⟨by repeat (first | (with_reducible first | exact HB.out | apply below_alloc | apply pw_below_drewN | apply below_drew1 | refine below_set ?_ GE154.out) | exact HB.out)⟩⟩
                case rest =>
                  clear HC17
                  try clear c1
                  try clear c2
                  try clear p2
                  try clear c3
                  try clear c3b0
                  try clear c4
                  try clear c6
                  try clear p6
                  try clear c12
                  try clear c15
                  try clear c15b0
                  try clear c20
                  try clear hcz11_0
                  try clear hcz11_1
                  try clear hcz11_2
                  try clear hcz11_3
                  try clear hcz11_4
                  try clear hcz11_5
                  try clear hcz11_6
                  try clear hcz14_0
                  try clear hcz14_1
                  try clear hcz14_2
                  try clear hcz14_3
                  try clear hcz14_4
                  try clear hcz14_5
                  try clear hcz14_6
                  try clear hcz18_0
                  try clear hcz18_1
                  try clear hcz18_2
                  try clear hcz18_3
                  try clear hcz18_4
                  try clear hcz18_5
                  try clear hcz18_6
                  try clear hcz21_0
                  try clear hcz21_1
                  try clear hcz21_2
                  try clear hcz21_3
                  try clear hcz21_4
                  try clear hcz21_5
                  try clear hcz21_6
                  try clear hcz5_0
                  try clear hcz5_1
                  try clear hcz5_2
                  try clear hcz5_3
                  try clear hcz5_4
                  try clear hcz5_5
                  try clear hcz5_6
                  try clear hfz11_0
                  try clear hfz11_1
                  try clear hfz11_2
                  try clear hfz11_3
                  try clear hfz11_4
                  try clear hfz11_5
                  try clear hfz11_6
                  try clear hfz14_0
                  try clear hfz14_1
                  try clear hfz14_2
                  try clear hfz14_3
                  try clear hfz14_4
                  try clear hfz14_5
                  try clear hfz14_6
                  try clear hfz18_0
                  try clear hfz18_1
                  try clear hfz18_2
                  try clear hfz18_3
                  try clear hfz18_4
                  try clear hfz18_5
                  try clear hfz18_6
                  try clear hfz21_0
                  try clear hfz21_1
                  try clear hfz21_2
                  try clear hfz21_3
                  try clear hfz21_4
                  try clear hfz21_5
                  try clear hfz21_6
                  try clear hfz5_0
                  try clear hfz5_1
                  try clear hfz5_2
                  try clear hfz5_3
                  try clear hfz5_4
                  try clear hfz5_5
                  try clear hfz5_6
                  try clear p2
                  try clear p6
                  obtain ⟨kq, x74_16, rfl, HA, HJ16, BK154, HB⟩ := hcut
                  cases kq with
                  | zero => exact absurd HA.out (by simp [almanacref16_latest.j2])
                  | succ kj16 =>
                    have H := HA.out
                    clear HA
                    simp only [almanacref16_latest.j2] at H
                    by_cases c22 : x74_16 = true
                    · subst c22
                      have H1 : (some ((wrap64 (a0_0 - a0_1)), true)) = some (r1, r2) := by rw [if_pos rfl] at H; exact H
                      clear H
                      have H := H1
                      clear H1
                      simp only [Option.some.injEq, Prod.mk.injEq] at H
                      obtain ⟨rfl, rfl⟩ := H
                      go_wp2
                      go_ret2
                      exact ⟨by first | rfl | (simp [errW_none, errW_some] <;> rfl) | (simp [*, errW_none, errW_some] <;> rfl), by repeat (first | (with_reducible first | exact HB.out | apply below_alloc | apply pw_below_drewN | apply below_drew1 | refine below_set ?_ GE154.out) | exact HB.out)⟩
                    · replace c22 := Bool.eq_false_iff.mpr c22
                      subst c22
                      have H1 : (if t164 = true then (if (wrap64 ((wrap64 ((wrap64 (t163 * 86400)) + t162)) - a0_1)) ≤ a1 then (some (wrap64 ((wrap64 ((wrap64 (t163 * 86400)) + t162)) - a0_1), true)) else (almanacref16_latest.l0 kj16 a1 (wrap64 (a0_0 - a0_1)) (wrap64 (x9_2 - 1)) t162 a0_0 a0_1 a0_2 true a0_4 a0_5 a0_6)) else (almanacref16_latest.l0 kj16 a1 (wrap64 (a0_0 - a0_1)) (wrap64 (x9_2 - 1)) t162 a0_0 a0_1 a0_2 true a0_4 a0_5 a0_6)) = some (r1, r2) := by rw [if_neg (show ¬ (false = true) by decide)] at H; exact H
                      clear H
                      have H := H1
                      clear H1
                      by_cases c23 : t164 = true
                      · subst c23
                        have H1 : (if (wrap64 ((wrap64 ((wrap64 (t163 * 86400)) + t162)) - a0_1)) ≤ a1 then (some (wrap64 ((wrap64 ((wrap64 (t163 * 86400)) + t162)) - a0_1), true)) else (almanacref16_latest.l0 kj16 a1 (wrap64 (a0_0 - a0_1)) (wrap64 (x9_2 - 1)) t162 a0_0 a0_1 a0_2 true a0_4 a0_5 a0_6)) = some (r1, r2) := by rw [if_pos rfl] at H; exact H
                        clear H
                        have H := H1
                        clear H1
                        by_cases c24 : (wrap64 ((wrap64 ((wrap64 (t163 * 86400)) + t162)) - a0_1)) ≤ a1
                        · rw [if_pos c24] at H
                          have c24b0 : decide ((wrap64 ((wrap64 ((wrap64 (t163 * 86400)) + t162)) - a0_1)) ≤ a1) = true := decide_eq_true c24
                          clear c24
                          simp only [Option.some.injEq, Prod.mk.injEq] at H
                          obtain ⟨rfl, rfl⟩ := H
                          have hcz25_0 : wc.cell? ⟨gb154, 0, none⟩ = some (.int .i64 a0_0) := (blk_cell BK154.out 0).trans rfl
                          have hcz25_1 : wc.cell? ⟨gb154, 1, none⟩ = some (.int .i64 a0_1) := (blk_cell BK154.out 1).trans rfl
                          have hcz25_2 : wc.cell? ⟨gb154, 2, none⟩ = some (.int .i64 a0_2) := (blk_cell BK154.out 2).trans rfl
                          have hcz25_3 : wc.cell? ⟨gb154, 3, none⟩ = some (.bool true) := (blk_cell BK154.out 3).trans rfl
                          have hcz25_4 : wc.cell? ⟨gb154, 4, none⟩ = some (.int .i64 a0_4) := (blk_cell BK154.out 4).trans rfl
                          have hcz25_5 : wc.cell? ⟨gb154, 5, none⟩ = some (.int .i64 a0_5) := (blk_cell BK154.out 5).trans rfl
                          have hcz25_6 : wc.cell? ⟨gb154, 6, none⟩ = some (.int .i64 a0_6) := (blk_cell BK154.out 6).trans rfl
                          have hfz25_0 := blk_frozen BK154.out 0
                          have hfz25_1 := blk_frozen BK154.out 1
                          have hfz25_2 := blk_frozen BK154.out 2
                          have hfz25_3 := blk_frozen BK154.out 3
                          have hfz25_4 := blk_frozen BK154.out 4
                          have hfz25_5 := blk_frozen BK154.out 5
                          have hfz25_6 := blk_frozen BK154.out 6
                          go_wp2
                          go_ret2
                          exact ⟨by first | rfl | (simp [errW_none, errW_some] <;> rfl) | (simp [*, errW_none, errW_some] <;> rfl), by repeat (first | (with_reducible first | exact HB.out | apply below_alloc | apply pw_below_drewN | apply below_drew1 | refine below_set ?_ GE154.out) | exact HB.out)⟩
                        · rw [if_neg c24] at H
                          have c24b0 : decide ((wrap64 ((wrap64 ((wrap64 (t163 * 86400)) + t162)) - a0_1)) ≤ a1) = false := decide_eq_false c24
                          clear c24
                          have H' := Aside0.mk H
                          clear H
                          have hcz26_0 : wc.cell? ⟨gb154, 0, none⟩ = some (.int .i64 a0_0) := (blk_cell BK154.out 0).trans rfl
                          have hcz26_1 : wc.cell? ⟨gb154, 1, none⟩ = some (.int .i64 a0_1) := (blk_cell BK154.out 1).trans rfl
                          have hcz26_2 : wc.cell? ⟨gb154, 2, none⟩ = some (.int .i64 a0_2) := (blk_cell BK154.out 2).trans rfl
                          have hcz26_3 : wc.cell? ⟨gb154, 3, none⟩ = some (.bool true) := (blk_cell BK154.out 3).trans rfl
                          have hcz26_4 : wc.cell? ⟨gb154, 4, none⟩ = some (.int .i64 a0_4) := (blk_cell BK154.out 4).trans rfl
                          have hcz26_5 : wc.cell? ⟨gb154, 5, none⟩ = some (.int .i64 a0_5) := (blk_cell BK154.out 5).trans rfl
                          have hcz26_6 : wc.cell? ⟨gb154, 6, none⟩ = some (.int .i64 a0_6) := (blk_cell BK154.out 6).trans rfl
                          have hfz26_0 := blk_frozen BK154.out 0
                          have hfz26_1 := blk_frozen BK154.out 1
                          have hfz26_2 := blk_frozen BK154.out 2
                          have hfz26_3 := blk_frozen BK154.out 3
                          have hfz26_4 := blk_frozen BK154.out 4
                          have hfz26_5 := blk_frozen BK154.out 5
                          have hfz26_6 := blk_frozen BK154.out 6
                          go_wp2
                          go_roundg kj16
                          case measure => have := HJ8.out; have := HK2.out; have := HJ16.out; omega
                          case rel => exact ⟨(wrap64 (x9_2 - 1)), (by first | rfl | (simp; done) | (simp [*]; done)), H', ⟨by have := HJ8.out; have := HK2.out; have := HJ16.out; omega⟩, ⟨by (with_reducible repeat (first | refine blk_drewN ?_ _ | refine blk_drew ?_ | refine blk_alloc ?_ _)); exact BK154.out⟩, ⟨by repeat (first | (with_reducible first | exact HB.out | apply below_alloc | apply pw_below_drewN | apply below_drew1 | refine below_set ?_ GE154.out) | exact HB.out)⟩⟩
                      · replace c23 := Bool.eq_false_iff.mpr c23
                        subst c23
                        have H1 : (almanacref16_latest.l0 kj16 a1 (wrap64 (a0_0 - a0_1)) (wrap64 (x9_2 - 1)) t162 a0_0 a0_1 a0_2 true a0_4 a0_5 a0_6) = some (r1, r2) := by rw [if_neg (show ¬ (false = true) by decide)] at H; exact H
                        clear H
                        have H := H1
                        clear H1
                        have H' := Aside0.mk H
                        clear H
                        go_wp2
                        go_roundg kj16
                        case measure => have := HJ8.out; have := HK2.out; have := HJ16.out; omega
                        case rel => exact ⟨(wrap64 (x9_2 - 1)), (by first | rfl | (simp; done) | (simp [*]; done)), H', ⟨by have := HJ8.out; have := HK2.out; have := HJ16.out; omega⟩, ⟨by (with_reducible repeat (first | refine blk_drewN ?_ _ | refine blk_drew ?_ | refine blk_alloc ?_ _)); exact BK154.out⟩, ⟨by repeat (first | (with_reducible first | exact HB.out | apply below_alloc | apply pw_below_drewN | apply below_drew1 | refine below_set ?_ GE154.out) | exact HB.out)⟩⟩
              · rw [if_neg c15] at H
                have c15b0 : decide (1 ≤ x9_2) = false := decide_eq_false c15
                clear c15
                simp only [Option.some.injEq, Prod.mk.injEq] at H
                obtain ⟨rfl, rfl⟩ := H
                go_wp2
                go_ret2
                exact ⟨by first | rfl | (simp [errW_none, errW_some] <;> rfl) | (simp [*, errW_none, errW_some] <;> rfl), by repeat (first | (with_reducible first | exact HB.out | apply below_alloc | apply pw_below_drewN | apply below_drew1 | refine below_set ?_ GE154.out) | exact HB.out)⟩
    · replace c6 := Bool.eq_false_iff.mpr c6
      subst c6
      have H1 : (some (wrap64 (a0_0 - a0_1), true)) = some (r1, r2) := by rw [if_neg (show ¬ (false = true) by decide)] at H; exact H
      clear H
      have H := H1
      clear H1
      simp only [Option.some.injEq, Prod.mk.injEq] at H
      obtain ⟨rfl, rfl⟩ := H
      go_enter Tryz.func27, Tryz.ntmps27
      go_wp2_with (first | ((with_reducible refine gate_dst (N := 2) rfl ?_); refine box_event ?hg (N := 2) ?hd (cs := #[.int .i64 a0_0, .int .i64 a0_1, .int .i64 a0_2, .bool false, .int .i64 a0_4, .int .i64 a0_5, .int .i64 a0_6]) (t := 32) ?hr ?_; (case hd => rfl); (case hg => rfl); (case hr => first | (go_simp; done) | (go_simp; rfl)); intro gb154 hg w27 hbox hb; have n0_ := Aside0.mk (below_step (by repeat (first | (with_reducible first | exact HB.out | apply below_alloc | apply pw_below_drewN | apply below_drew1) | exact HB.out)) hb); have n1_ := Aside0.mk (hbox); have n2_ := Aside0.mk ((by rw [hg]; exact (below_size (by repeat (first | (with_reducible first | exact HB.out | apply below_alloc | apply pw_below_drewN | apply below_drew1) | exact HB.out))) : w.heap.size ≤ gb154)); have n3_ := Aside0.mk ((by rw [hg]; exact (below_size (by repeat (first | (with_reducible first | exact HB.out | apply below_alloc | apply pw_below_drewN | apply below_drew1) | exact HB.out))) : w.heap.size ≤ gb154)); clear HB; have HB := n0_; have BK154 := n1_; have GW154 := n2_; have GE154 := n3_; clear n0_ n1_ n2_ n3_; clear hb hbox hg; have hcz28_0 : w27.cell? ⟨gb154, 0, none⟩ = some (.int .i64 a0_0) := (blk_cell BK154.out 0).trans rfl; have hcz28_1 : w27.cell? ⟨gb154, 1, none⟩ = some (.int .i64 a0_1) := (blk_cell BK154.out 1).trans rfl; have hcz28_2 : w27.cell? ⟨gb154, 2, none⟩ = some (.int .i64 a0_2) := (blk_cell BK154.out 2).trans rfl; have hcz28_3 : w27.cell? ⟨gb154, 3, none⟩ = some (.bool false) := (blk_cell BK154.out 3).trans rfl; have hcz28_4 : w27.cell? ⟨gb154, 4, none⟩ = some (.int .i64 a0_4) := (blk_cell BK154.out 4).trans rfl; have hcz28_5 : w27.cell? ⟨gb154, 5, none⟩ = some (.int .i64 a0_5) := (blk_cell BK154.out 5).trans rfl; have hcz28_6 : w27.cell? ⟨gb154, 6, none⟩ = some (.int .i64 a0_6) := (blk_cell BK154.out 6).trans rfl; have hfz28_0 := blk_frozen BK154.out 0; have hfz28_1 := blk_frozen BK154.out 1; have hfz28_2 := blk_frozen BK154.out 2; have hfz28_3 := blk_frozen BK154.out 3; have hfz28_4 := blk_frozen BK154.out 4; have hfz28_5 := blk_frozen BK154.out 5; have hfz28_6 := blk_frozen BK154.out 6))
      go_ret2
      exact ⟨by first | rfl | (simp [errW_none, errW_some] <;> rfl) | (simp [*, errW_none, errW_some] <;> rfl), by repeat (first | (with_reducible first | exact HB.out | apply below_alloc | apply pw_below_drewN | apply below_drew1 | refine below_set ?_ GE154.out) | exact HB.out)⟩
end Go.Proofs.YtmajmolbjiahlaaGreatDoor.PD
namespace Go.Proofs.YtmajmolbjiahlaaGreatDoor.PD
open Go.RowKit Go.Proofs.YtmajmolbjiahlaaGreatDoorW.PrintWords Go.Proofs.YtmajmolbjiahlaaGreatDoorW.PrintLast Go.Proofs.YtmajmolbjiahlaaGreatDoorW.PrintMore
attribute [local go_sem] isSome_setCell max2_int min2_int max_two min_two max_three min_three max_four min_four
set_option linter.unusedVariables false
set_option linter.unusedSimpArgs false
def almanacref10_In.f (a0 : Int) : Option (Bool) := if a0 ≥ (-62135596800) then (some (decide (a0 ≤ 253402300799))) else (some false)
set_option maxHeartbeats 8000000 in
set_option maxRecDepth 100000 in
theorem almanacref10_In.calls (a0 : Int) (r : Bool) (w : World) (h : almanacref10_In.f a0 = some r) :
    Calls Tryz.prog 26 #[.int .i64 a0] w fun e w' => e = .returned (.bool r) ∧ Drawn0 w w' := by
  have H : (if a0 ≥ (-62135596800) then (some (decide (a0 ≤ 253402300799))) else (some false)) = some r := h
  clear h
  by_cases c2 : a0 ≥ (-62135596800)
  · rw [if_pos c2] at H
    have c2b0 : decide ((-62135596800) ≤ a0) = true := decide_eq_true c2
    clear c2
    obtain rfl := Option.some.inj H
    go_enter Tryz.func26, Tryz.ntmps26
    go_wp2
    go_ret
    exact ⟨by first | rfl | (simp; done) | (simp [*]; done), by repeat (first | exact Drawn0.refl _ | apply Drawn0.step)⟩
  · rw [if_neg c2] at H
    have c2b0 : decide ((-62135596800) ≤ a0) = false := decide_eq_false c2
    clear c2
    obtain rfl := Option.some.inj H
    go_enter Tryz.func26, Tryz.ntmps26
    go_wp2
    go_ret
    exact ⟨by first | rfl | (simp; done) | (simp [*]; done), by repeat (first | exact Drawn0.refl _ | apply Drawn0.step)⟩
end Go.Proofs.YtmajmolbjiahlaaGreatDoor.PD
namespace Go.Proofs.YtmajmolbjiahlaaGreatDoor.PD
open Go.RowKit Go.Proofs.YtmajmolbjiahlaaGreatDoorW.PrintWords Go.Proofs.YtmajmolbjiahlaaGreatDoorW.PrintLast Go.Proofs.YtmajmolbjiahlaaGreatDoorW.PrintMore
attribute [local go_sem] isSome_setCell max2_int min2_int max_two min_two max_three min_three max_four min_four
set_option linter.unusedVariables false
set_option linter.unusedSimpArgs false
def almanacref16_less.f (a0 : Int) : Option (Bool) := if a0 > (-86400) then (some (decide (a0 < 86400))) else (some false)
set_option maxHeartbeats 8000000 in
set_option maxRecDepth 100000 in
theorem almanacref16_less.calls (a0 : Int) (r : Bool) (w : World) (h : almanacref16_less.f a0 = some r) :
    Calls Tryz.prog 32 #[.int .i64 a0] w fun e w' => e = .returned (.bool r) ∧ Drawn0 w w' := by
  have H : (if a0 > (-86400) then (some (decide (a0 < 86400))) else (some false)) = some r := h
  clear h
  by_cases c2 : a0 > (-86400)
  · rw [if_pos c2] at H
    have c2b0 : decide ((-86400) < a0) = true := decide_eq_true c2
    clear c2
    obtain rfl := Option.some.inj H
    go_enter Tryz.func32, Tryz.ntmps32
    go_wp2
    go_ret
    exact ⟨by first | rfl | (simp; done) | (simp [*]; done), by repeat (first | exact Drawn0.refl _ | apply Drawn0.step)⟩
  · rw [if_neg c2] at H
    have c2b0 : decide ((-86400) < a0) = false := decide_eq_false c2
    clear c2
    obtain rfl := Option.some.inj H
    go_enter Tryz.func32, Tryz.ntmps32
    go_wp2
    go_ret
    exact ⟨by first | rfl | (simp; done) | (simp [*]; done), by repeat (first | exact Drawn0.refl _ | apply Drawn0.step)⟩
end Go.Proofs.YtmajmolbjiahlaaGreatDoor.PD
namespace Go.Proofs.YtmajmolbjiahlaaGreatDoor.PD
open Go.RowKit Go.Proofs.YtmajmolbjiahlaaGreatDoorW.PrintWords Go.Proofs.YtmajmolbjiahlaaGreatDoorW.PrintLast Go.Proofs.YtmajmolbjiahlaaGreatDoorW.PrintMore
attribute [local go_sem] isSome_setCell max2_int min2_int max_two min_two max_three min_three max_four min_four
set_option linter.unusedVariables false
set_option linter.unusedSimpArgs false
def almanacref16_nth.f (a0_0 : Int) (a0_1 : Int) : Option (Bool) := if a0_0 = 0 then (some false) else (if a0_0 ≥ (-5) then (if a0_0 ≤ 5 then (if a0_1 ≥ 0 then (some (decide (a0_1 ≤ 6))) else (some false)) else (some false)) else (some false))
set_option maxHeartbeats 8000000 in
set_option maxRecDepth 100000 in
theorem almanacref16_nth.calls (a0_0 : Int) (a0_1 : Int) (r : Bool) (w : World) (h : almanacref16_nth.f a0_0 a0_1 = some r) :
    Calls Tryz.prog 33 #[.agg #[.int .i64 a0_0, .int .i64 a0_1]] w fun e w' => e = .returned (.bool r) ∧ Below w.heap.size w w' := by
  have hu30 := Tryz.underlying30
  have HB := Aside0.mk (Below.refl w.heap.size w)
  have H : (if a0_0 = 0 then (some false) else (if a0_0 ≥ (-5) then (if a0_0 ≤ 5 then (if a0_1 ≥ 0 then (some (decide (a0_1 ≤ 6))) else (some false)) else (some false)) else (some false))) = some r := h
  clear h
  by_cases c2 : a0_0 = 0
  · rw [if_pos c2] at H
    have c2b0 : (a0_0 == 0) = true := beq_iff_eq.mpr c2
    have c2b1 : (a0_0 != 0) = false := bne_eq_false_iff_eq.mpr c2
    clear c2
    obtain rfl := Option.some.inj H
    go_enter Tryz.func33, Tryz.ntmps33
    go_wp2_with (first | ((with_reducible refine gate_dst (N := 1) rfl ?_); refine box_event ?hg (N := 1) ?hd (cs := #[.int .i64 a0_0, .int .i64 a0_1]) (t := 30) ?hr ?_; (case hd => rfl); (case hg => rfl); (case hr => first | (go_simp; done) | (go_simp; rfl)); intro gb129 hg w3 hbox hb; have n0_ := Aside0.mk (below_step (by repeat (first | (with_reducible first | exact HB.out | apply below_alloc | apply pw_below_drewN | apply below_drew1) | exact HB.out)) hb); have n1_ := Aside0.mk (hbox); have n2_ := Aside0.mk ((by rw [hg]; exact (below_size (by repeat (first | (with_reducible first | exact HB.out | apply below_alloc | apply pw_below_drewN | apply below_drew1) | exact HB.out))) : w.heap.size ≤ gb129)); have n3_ := Aside0.mk ((by rw [hg]; exact (below_size (by repeat (first | (with_reducible first | exact HB.out | apply below_alloc | apply pw_below_drewN | apply below_drew1) | exact HB.out))) : w.heap.size ≤ gb129)); clear HB; have HB := n0_; have BK129 := n1_; have GW129 := n2_; have GE129 := n3_; clear n0_ n1_ n2_ n3_; clear hb hbox hg; have hcz4_0 : w3.cell? ⟨gb129, 0, none⟩ = some (.int .i64 a0_0) := (blk_cell BK129.out 0).trans rfl; have hcz4_1 : w3.cell? ⟨gb129, 1, none⟩ = some (.int .i64 a0_1) := (blk_cell BK129.out 1).trans rfl; have hfz4_0 := blk_frozen BK129.out 0; have hfz4_1 := blk_frozen BK129.out 1))
    go_ret
    exact ⟨by first | rfl | (simp [errW_none, errW_some] <;> rfl) | (simp [*, errW_none, errW_some] <;> rfl), by repeat (first | (with_reducible first | exact HB.out | apply below_alloc | apply pw_below_drewN | apply below_drew1 | refine below_set ?_ GE129.out) | exact HB.out)⟩
  · rw [if_neg c2] at H
    have c2b0 : (a0_0 == 0) = false := beq_eq_false_iff_ne.mpr c2
    have c2b1 : (a0_0 != 0) = true := bne_iff_ne.mpr c2
    by_cases c5 : a0_0 ≥ (-5)
    · rw [if_pos c5] at H
      have c5b0 : decide ((-5) ≤ a0_0) = true := decide_eq_true c5
      clear c5
      by_cases c6 : a0_0 ≤ 5
      · rw [if_pos c6] at H
        have c6b0 : decide (a0_0 ≤ 5) = true := decide_eq_true c6
        clear c6
        by_cases c7 : a0_1 ≥ 0
        · rw [if_pos c7] at H
          have c7b0 : decide (0 ≤ a0_1) = true := decide_eq_true c7
          clear c7
          obtain rfl := Option.some.inj H
          go_enter Tryz.func33, Tryz.ntmps33
          go_wp2_with (first | ((with_reducible refine gate_dst (N := 1) rfl ?_); refine box_event ?hg (N := 1) ?hd (cs := #[.int .i64 a0_0, .int .i64 a0_1]) (t := 30) ?hr ?_; (case hd => rfl); (case hg => rfl); (case hr => first | (go_simp; done) | (go_simp; rfl)); intro gb129 hg w8 hbox hb; have n0_ := Aside0.mk (below_step (by repeat (first | (with_reducible first | exact HB.out | apply below_alloc | apply pw_below_drewN | apply below_drew1) | exact HB.out)) hb); have n1_ := Aside0.mk (hbox); have n2_ := Aside0.mk ((by rw [hg]; exact (below_size (by repeat (first | (with_reducible first | exact HB.out | apply below_alloc | apply pw_below_drewN | apply below_drew1) | exact HB.out))) : w.heap.size ≤ gb129)); have n3_ := Aside0.mk ((by rw [hg]; exact (below_size (by repeat (first | (with_reducible first | exact HB.out | apply below_alloc | apply pw_below_drewN | apply below_drew1) | exact HB.out))) : w.heap.size ≤ gb129)); clear HB; have HB := n0_; have BK129 := n1_; have GW129 := n2_; have GE129 := n3_; clear n0_ n1_ n2_ n3_; clear hb hbox hg; have hcz9_0 : w8.cell? ⟨gb129, 0, none⟩ = some (.int .i64 a0_0) := (blk_cell BK129.out 0).trans rfl; have hcz9_1 : w8.cell? ⟨gb129, 1, none⟩ = some (.int .i64 a0_1) := (blk_cell BK129.out 1).trans rfl; have hfz9_0 := blk_frozen BK129.out 0; have hfz9_1 := blk_frozen BK129.out 1))
          go_ret
          exact ⟨by first | rfl | (simp [errW_none, errW_some] <;> rfl) | (simp [*, errW_none, errW_some] <;> rfl), by repeat (first | (with_reducible first | exact HB.out | apply below_alloc | apply pw_below_drewN | apply below_drew1 | refine below_set ?_ GE129.out) | exact HB.out)⟩
        · rw [if_neg c7] at H
          have c7b0 : decide (0 ≤ a0_1) = false := decide_eq_false c7
          clear c7
          obtain rfl := Option.some.inj H
          go_enter Tryz.func33, Tryz.ntmps33
          go_wp2_with (first | ((with_reducible refine gate_dst (N := 1) rfl ?_); refine box_event ?hg (N := 1) ?hd (cs := #[.int .i64 a0_0, .int .i64 a0_1]) (t := 30) ?hr ?_; (case hd => rfl); (case hg => rfl); (case hr => first | (go_simp; done) | (go_simp; rfl)); intro gb129 hg w10 hbox hb; have n0_ := Aside0.mk (below_step (by repeat (first | (with_reducible first | exact HB.out | apply below_alloc | apply pw_below_drewN | apply below_drew1) | exact HB.out)) hb); have n1_ := Aside0.mk (hbox); have n2_ := Aside0.mk ((by rw [hg]; exact (below_size (by repeat (first | (with_reducible first | exact HB.out | apply below_alloc | apply pw_below_drewN | apply below_drew1) | exact HB.out))) : w.heap.size ≤ gb129)); have n3_ := Aside0.mk ((by rw [hg]; exact (below_size (by repeat (first | (with_reducible first | exact HB.out | apply below_alloc | apply pw_below_drewN | apply below_drew1) | exact HB.out))) : w.heap.size ≤ gb129)); clear HB; have HB := n0_; have BK129 := n1_; have GW129 := n2_; have GE129 := n3_; clear n0_ n1_ n2_ n3_; clear hb hbox hg; have hcz11_0 : w10.cell? ⟨gb129, 0, none⟩ = some (.int .i64 a0_0) := (blk_cell BK129.out 0).trans rfl; have hcz11_1 : w10.cell? ⟨gb129, 1, none⟩ = some (.int .i64 a0_1) := (blk_cell BK129.out 1).trans rfl; have hfz11_0 := blk_frozen BK129.out 0; have hfz11_1 := blk_frozen BK129.out 1))
          go_ret
          exact ⟨by first | rfl | (simp [errW_none, errW_some] <;> rfl) | (simp [*, errW_none, errW_some] <;> rfl), by repeat (first | (with_reducible first | exact HB.out | apply below_alloc | apply pw_below_drewN | apply below_drew1 | refine below_set ?_ GE129.out) | exact HB.out)⟩
      · rw [if_neg c6] at H
        have c6b0 : decide (a0_0 ≤ 5) = false := decide_eq_false c6
        clear c6
        obtain rfl := Option.some.inj H
        go_enter Tryz.func33, Tryz.ntmps33
        go_wp2_with (first | ((with_reducible refine gate_dst (N := 1) rfl ?_); refine box_event ?hg (N := 1) ?hd (cs := #[.int .i64 a0_0, .int .i64 a0_1]) (t := 30) ?hr ?_; (case hd => rfl); (case hg => rfl); (case hr => first | (go_simp; done) | (go_simp; rfl)); intro gb129 hg w12 hbox hb; have n0_ := Aside0.mk (below_step (by repeat (first | (with_reducible first | exact HB.out | apply below_alloc | apply pw_below_drewN | apply below_drew1) | exact HB.out)) hb); have n1_ := Aside0.mk (hbox); have n2_ := Aside0.mk ((by rw [hg]; exact (below_size (by repeat (first | (with_reducible first | exact HB.out | apply below_alloc | apply pw_below_drewN | apply below_drew1) | exact HB.out))) : w.heap.size ≤ gb129)); have n3_ := Aside0.mk ((by rw [hg]; exact (below_size (by repeat (first | (with_reducible first | exact HB.out | apply below_alloc | apply pw_below_drewN | apply below_drew1) | exact HB.out))) : w.heap.size ≤ gb129)); clear HB; have HB := n0_; have BK129 := n1_; have GW129 := n2_; have GE129 := n3_; clear n0_ n1_ n2_ n3_; clear hb hbox hg; have hcz13_0 : w12.cell? ⟨gb129, 0, none⟩ = some (.int .i64 a0_0) := (blk_cell BK129.out 0).trans rfl; have hcz13_1 : w12.cell? ⟨gb129, 1, none⟩ = some (.int .i64 a0_1) := (blk_cell BK129.out 1).trans rfl; have hfz13_0 := blk_frozen BK129.out 0; have hfz13_1 := blk_frozen BK129.out 1))
        go_ret
        exact ⟨by first | rfl | (simp [errW_none, errW_some] <;> rfl) | (simp [*, errW_none, errW_some] <;> rfl), by repeat (first | (with_reducible first | exact HB.out | apply below_alloc | apply pw_below_drewN | apply below_drew1 | refine below_set ?_ GE129.out) | exact HB.out)⟩
    · rw [if_neg c5] at H
      have c5b0 : decide ((-5) ≤ a0_0) = false := decide_eq_false c5
      clear c5
      obtain rfl := Option.some.inj H
      go_enter Tryz.func33, Tryz.ntmps33
      go_wp2_with (first | ((with_reducible refine gate_dst (N := 1) rfl ?_); refine box_event ?hg (N := 1) ?hd (cs := #[.int .i64 a0_0, .int .i64 a0_1]) (t := 30) ?hr ?_; (case hd => rfl); (case hg => rfl); (case hr => first | (go_simp; done) | (go_simp; rfl)); intro gb129 hg w14 hbox hb; have n0_ := Aside0.mk (below_step (by repeat (first | (with_reducible first | exact HB.out | apply below_alloc | apply pw_below_drewN | apply below_drew1) | exact HB.out)) hb); have n1_ := Aside0.mk (hbox); have n2_ := Aside0.mk ((by rw [hg]; exact (below_size (by repeat (first | (with_reducible first | exact HB.out | apply below_alloc | apply pw_below_drewN | apply below_drew1) | exact HB.out))) : w.heap.size ≤ gb129)); have n3_ := Aside0.mk ((by rw [hg]; exact (below_size (by repeat (first | (with_reducible first | exact HB.out | apply below_alloc | apply pw_below_drewN | apply below_drew1) | exact HB.out))) : w.heap.size ≤ gb129)); clear HB; have HB := n0_; have BK129 := n1_; have GW129 := n2_; have GE129 := n3_; clear n0_ n1_ n2_ n3_; clear hb hbox hg; have hcz15_0 : w14.cell? ⟨gb129, 0, none⟩ = some (.int .i64 a0_0) := (blk_cell BK129.out 0).trans rfl; have hcz15_1 : w14.cell? ⟨gb129, 1, none⟩ = some (.int .i64 a0_1) := (blk_cell BK129.out 1).trans rfl; have hfz15_0 := blk_frozen BK129.out 0; have hfz15_1 := blk_frozen BK129.out 1))
      go_ret
      exact ⟨by first | rfl | (simp [errW_none, errW_some] <;> rfl) | (simp [*, errW_none, errW_some] <;> rfl), by repeat (first | (with_reducible first | exact HB.out | apply below_alloc | apply pw_below_drewN | apply below_drew1 | refine below_set ?_ GE129.out) | exact HB.out)⟩
end Go.Proofs.YtmajmolbjiahlaaGreatDoor.PD
namespace Go.Proofs.YtmajmolbjiahlaaGreatDoor.PD
open Go.RowKit Go.Proofs.YtmajmolbjiahlaaGreatDoorW.PrintWords Go.Proofs.YtmajmolbjiahlaaGreatDoorW.PrintLast Go.Proofs.YtmajmolbjiahlaaGreatDoorW.PrintMore
attribute [local go_sem] isSome_setCell max2_int min2_int max_two min_two max_three min_three max_four min_four
set_option linter.unusedVariables false
set_option linter.unusedSimpArgs false
attribute [local go_sem high] eqA30
mutual
def almanacref16_Fit.l0 : Nat → Int → ByteArray → List (S32) → Option (Bool)
  | 0, _, _, _ => none
  | k + 1, x3, x131000, x131001 => if x3 < (x131001.length : Int) then (if 0 ≤ x3 then ((almanacref16_less.f ((rd_T32 x131001 x3).f1)).bind fun t133 => (if t133 = true then ((almanacref16_less.f ((rd_T32 x131001 x3).f2)).bind fun t134 => (if t134 = true then ((almanacref10_In.f ((rd_T32 x131001 x3).f0)).bind fun t135 => (almanacref16_Fit.j1 k x3 (!t135) x131000 x131001 ((rd_T32 x131001 x3).f0) ((rd_T32 x131001 x3).f1) ((rd_T32 x131001 x3).f2) ((rd_T32 x131001 x3).f3) ((rd_T32 x131001 x3).f4) ((rd_T32 x131001 x3).f5.f0) ((rd_T32 x131001 x3).f5.f1))) else (almanacref16_Fit.j1 k x3 true x131000 x131001 ((rd_T32 x131001 x3).f0) ((rd_T32 x131001 x3).f1) ((rd_T32 x131001 x3).f2) ((rd_T32 x131001 x3).f3) ((rd_T32 x131001 x3).f4) ((rd_T32 x131001 x3).f5.f0) ((rd_T32 x131001 x3).f5.f1)))) else (almanacref16_Fit.j1 k x3 true x131000 x131001 ((rd_T32 x131001 x3).f0) ((rd_T32 x131001 x3).f1) ((rd_T32 x131001 x3).f2) ((rd_T32 x131001 x3).f3) ((rd_T32 x131001 x3).f4) ((rd_T32 x131001 x3).f5.f0) ((rd_T32 x131001 x3).f5.f1)))) else (none)) else (some (decide ((x131001.length : Int) ≤ 16)))
def almanacref16_Fit.j1 : Nat → Int → Bool → ByteArray → List (S32) → Int → Int → Int → Bool → Int → Int → Int → Option (Bool)
  | 0, _, _, _, _, _, _, _, _, _, _, _ => none
  | k + 1, x3, x32, x131000, x131001, x133000, x133001, x133002, x133003, x133004, x133005, x133006 => if x32 = true then (some false) else (if x133003 = true then (if x133004 < 1 then (some false) else (if x133004 > 12 then (some false) else ((almanacref16_nth.f x133005 x133006).bind fun t136 => (if t136 = true then (almanacref16_Fit.l0 k (wrap64 (x3 + 1)) x131000 x131001) else (some false))))) else (if x133004 = 0 then (if (!(x133005 == 0) || (!(x133006 == 0))) = true then (some false) else (almanacref16_Fit.l0 k (wrap64 (x3 + 1)) x131000 x131001)) else (some false)))
end
def almanacref16_Fit.f (k : Nat) (a0_0 : ByteArray) (l0_1 : List (S32)) : Option (Bool) := almanacref16_Fit.l0 k 0 a0_0 l0_1
set_option maxHeartbeats 8000000 in
set_option maxRecDepth 100000 in
theorem almanacref16_Fit.calls (k : Nat) (a0_0 : ByteArray) (A0_1 : Option Addr) (c0_1 : Nat) (l0_1 : List (S32)) (r : Bool) (w : World) (hr0_1 : Kd.C k32 w A0_1 l0_1.length l0_1) (hc0_1 : l0_1.length ≤ c0_1) (h : almanacref16_Fit.f k a0_0 l0_1 = some r) :
    Calls Tryz.prog 13 #[.agg #[.string a0_0, .slice A0_1 l0_1.length c0_1]] w fun e w' => e = .returned (.bool r) ∧ Below w.heap.size w w' := by
  have hu24 := Tryz.underlying24
  have hu32 := Tryz.underlying32
  have hu30 := Tryz.underlying30
  have HR0_1 := Aside0.mk hr0_1
  have HC0_1 := Aside0.mk hc0_1
  clear hr0_1 hc0_1
  have HB := Aside0.mk (Below.refl w.heap.size w)
  have H : (almanacref16_Fit.l0 k 0 a0_0 l0_1) = some r := h
  clear h
  have H' := Aside0.mk H
  clear H
  go_enter Tryz.func13, Tryz.ntmps13
  go_wp2_with (first | ((with_reducible refine gate_dst (N := 1) rfl ?_); refine box_event ?hg (N := 1) ?hd (cs := #[.string a0_0, .slice A0_1 l0_1.length c0_1]) (t := 24) ?hr ?_; (case hd => rfl); (case hg => rfl); (case hr => first | (go_simp; done) | (go_simp; rfl)); intro gb130 hg w2 hbox hb; have n0_ := Aside0.mk (below_step (by repeat (first | (with_reducible first | exact HB.out | apply below_alloc | apply pw_below_drewN | apply below_drew1) | exact HB.out)) hb); have n1_ := Aside0.mk (hbox); have n2_ := Aside0.mk ((by rw [hg]; exact (below_size (by repeat (first | (with_reducible first | exact HB.out | apply below_alloc | apply pw_below_drewN | apply below_drew1) | exact HB.out))) : w.heap.size ≤ gb130)); have n3_ := Aside0.mk ((by rw [hg]; exact (below_size (by repeat (first | (with_reducible first | exact HB.out | apply below_alloc | apply pw_below_drewN | apply below_drew1) | exact HB.out))) : w.heap.size ≤ gb130)); clear HB; have HB := n0_; have BK130 := n1_; have GW130 := n2_; have GE130 := n3_; clear n0_ n1_ n2_ n3_; clear hb hbox hg))
  go_loopg [3] k (fun kq v3 w' => ∃ (x3_1 : Int), v3 = .int .i64 x3_1 ∧ Aside0 (almanacref16_Fit.l0 kq x3_1 a0_0 l0_1 = some r) ∧ Aside0 (kq ≤ k) ∧ Aside0 (w'.heap[gb130]? = some (.cells #[.string a0_0, (.slice A0_1 l0_1.length c0_1)] 24 (0, 0))) ∧ Aside0 (Below w.heap.size w w'))
  case atStart => exact ⟨(0), (by first | rfl | (simp; done) | (simp [*]; done)), H', ⟨Nat.le_refl _⟩, ⟨by (with_reducible repeat (first | refine blk_drewN ?_ _ | refine blk_drew ?_ | refine blk_alloc ?_ _)); exact BK130.out⟩, ⟨by repeat (first | (with_reducible first | exact HB.out | apply below_alloc | apply pw_below_drewN | apply below_drew1 | refine below_set ?_ GE130.out) | exact HB.out)⟩⟩
  case round =>
    clear H'
    try clear c1
    try clear p2
    obtain ⟨x3_1, rfl, HA, HK1, BK130, HB⟩ := hrel
    cases gk with
    | zero => exact absurd HA.out (by simp [almanacref16_Fit.l0])
    | succ k1 =>
      have H := HA.out
      clear HA
      simp only [almanacref16_Fit.l0] at H
      by_cases c3 : x3_1 < (l0_1.length : Int)
      · rw [if_pos c3] at H
        have c3b0 : decide (x3_1 < (l0_1.length : Int)) = true := decide_eq_true c3
        clear c3
        by_cases c4 : 0 ≤ x3_1
        · rw [if_pos c4] at H
          have c4b0 : decide (0 ≤ x3_1) = true := decide_eq_true c4
          clear c4
          have HC5 := Aside0.mk H
          clear H
          have hcz6_0 : wr.cell? ⟨gb130, 0, none⟩ = some (.string a0_0) := (blk_cell BK130.out 0).trans rfl
          have hcz6_1 : wr.cell? ⟨gb130, 1, none⟩ = some (.slice A0_1 l0_1.length c0_1) := (blk_cell BK130.out 1).trans rfl
          have hfz6_0 := blk_frozen BK130.out 0
          have hfz6_1 := blk_frozen BK130.out 1
          have p131 : 0 ≤ (x3_1 : Int) := of_decide_eq_true (by first | (with_reducible assumption) | assumption)
          have q131 : x3_1 < (l0_1.length : Int) := of_decide_eq_true (by first | (with_reducible assumption) | assumption)
          obtain ⟨ad131, e131, hx131_0, hx131_1, hx131_2, hx131_3, hx131_4, hx131_5, hx131_6⟩ := at_T32 HR0_1.out x3_1 p131 q131
          cases e131
          replace hx131_0 := (HB.out.cell (World.block_lt_of_cell? w _ hx131_0)).trans hx131_0
          replace hx131_1 := (HB.out.cell (World.block_lt_of_cell? w _ hx131_1)).trans hx131_1
          replace hx131_2 := (HB.out.cell (World.block_lt_of_cell? w _ hx131_2)).trans hx131_2
          replace hx131_3 := (HB.out.cell (World.block_lt_of_cell? w _ hx131_3)).trans hx131_3
          replace hx131_4 := (HB.out.cell (World.block_lt_of_cell? w _ hx131_4)).trans hx131_4
          replace hx131_5 := (HB.out.cell (World.block_lt_of_cell? w _ hx131_5)).trans hx131_5
          replace hx131_6 := (HB.out.cell (World.block_lt_of_cell? w _ hx131_6)).trans hx131_6
          replace p131 := eq_true p131
          replace q131 := eq_true q131
          go_upto_region 5 with (first | ((with_reducible refine gate_dst (N := 4) rfl ?_); refine box_event ?hg (N := 4) ?hd (cs := #[.int .i64 0, .int .i64 0, .int .i64 0, .bool false, .int .i64 0, .int .i64 0, .int .i64 0]) (t := 32) ?hr ?_; (case hd => rfl); (case hg => rfl); (case hr => first | (go_simp; done) | (go_simp; rfl)); intro gb132 hg w7 hbox hb; have n0_ := Aside0.mk (blk_below (g := gb130) (o := .cells #[.string a0_0, .slice (some ad131) l0_1.length c0_1] 24 (0, 0)) (by (with_reducible repeat (first | refine blk_drewN ?_ _ | refine blk_drew ?_ | refine blk_alloc ?_ _)); exact BK130.out) hb); have n1_ := Aside0.mk (below_step (by repeat (first | (with_reducible first | exact HB.out | apply below_alloc | apply pw_below_drewN | apply below_drew1 | refine below_set ?_ GE130.out) | exact HB.out)) hb); have n2_ := Aside0.mk (hbox); have n3_ := Aside0.mk ((by rw [hg]; exact (below_size (by repeat (first | (with_reducible first | exact HB.out | apply below_alloc | apply pw_below_drewN | apply below_drew1 | refine below_set ?_ GE130.out) | exact HB.out))) : w.heap.size ≤ gb132)); have n4_ := Aside0.mk ((by rw [hg]; exact (below_size (by repeat (first | (with_reducible first | exact HB.out | apply below_alloc | apply pw_below_drewN | apply below_drew1 | refine below_set ?_ GE130.out) | exact HB.out))) : w.heap.size ≤ gb132)); have n5_ := Aside0.mk ((by rw [hg]; exact Nat.ne_of_lt (blk_lt (g := gb130) (o := .cells #[.string a0_0, .slice (some ad131) l0_1.length c0_1] 24 (0, 0)) (by (with_reducible repeat (first | refine blk_drewN ?_ _ | refine blk_drew ?_ | refine blk_alloc ?_ _)); exact BK130.out)) : gb130 ≠ gb132)); have n6_ := Aside0.mk ((by rw [hg]; exact Nat.ne_of_gt (blk_lt (g := gb130) (o := .cells #[.string a0_0, .slice (some ad131) l0_1.length c0_1] 24 (0, 0)) (by (with_reducible repeat (first | refine blk_drewN ?_ _ | refine blk_drew ?_ | refine blk_alloc ?_ _)); exact BK130.out)) : gb132 ≠ gb130)); clear BK130; clear HB; have BK130 := n0_; have HB := n1_; have BK132 := n2_; have GW132 := n3_; have GE132 := n4_; have NB130_132 := n5_; have NB132_130 := n6_; clear n0_ n1_ n2_ n3_ n4_ n5_ n6_; clear hb hbox hg; have hnb8 := NB132_130.out; have hnc8 := NB130_132.out; have hcz9_0 : w7.cell? ⟨gb132, 0, none⟩ = some (.int .i64 0) := (blk_cell BK132.out 0).trans rfl; have hcz9_1 : w7.cell? ⟨gb132, 1, none⟩ = some (.int .i64 0) := (blk_cell BK132.out 1).trans rfl; have hcz9_2 : w7.cell? ⟨gb132, 2, none⟩ = some (.int .i64 0) := (blk_cell BK132.out 2).trans rfl; have hcz9_3 : w7.cell? ⟨gb132, 3, none⟩ = some (.bool false) := (blk_cell BK132.out 3).trans rfl; have hcz9_4 : w7.cell? ⟨gb132, 4, none⟩ = some (.int .i64 0) := (blk_cell BK132.out 4).trans rfl; have hcz9_5 : w7.cell? ⟨gb132, 5, none⟩ = some (.int .i64 0) := (blk_cell BK132.out 5).trans rfl; have hcz9_6 : w7.cell? ⟨gb132, 6, none⟩ = some (.int .i64 0) := (blk_cell BK132.out 6).trans rfl; have hfz9_0 := blk_frozen BK132.out 0; have hfz9_1 := blk_frozen BK132.out 1; have hfz9_2 := blk_frozen BK132.out 2; have hfz9_3 := blk_frozen BK132.out 3; have hfz9_4 := blk_frozen BK132.out 4; have hfz9_5 := blk_frozen BK132.out 5; have hfz9_6 := blk_frozen BK132.out 6))
          (try simp only [Act.put, List.setIfInBounds_toArray, List.set_cons_zero, List.set_cons_succ])
          go_cut [32] (fun v32 wc => ∃ (kq : Nat) (x32_4 : Bool), v32 = .bool x32_4 ∧ Aside0 (almanacref16_Fit.j1 kq x3_1 x32_4 a0_0 l0_1 ((rd_T32 l0_1 x3_1).f0) ((rd_T32 l0_1 x3_1).f1) ((rd_T32 l0_1 x3_1).f2) ((rd_T32 l0_1 x3_1).f3) ((rd_T32 l0_1 x3_1).f4) ((rd_T32 l0_1 x3_1).f5.f0) ((rd_T32 l0_1 x3_1).f5.f1) = some r) ∧ Aside0 (kq ≤ k1) ∧ Aside0 (wc.heap[gb130]? = some (.cells #[.string a0_0, (.slice (some ad131) l0_1.length c0_1)] 24 (0, 0))) ∧ Aside0 (wc.heap[gb132]? = some (.cells #[.int .i64 ((rd_T32 l0_1 x3_1).f0), .int .i64 ((rd_T32 l0_1 x3_1).f1), .int .i64 ((rd_T32 l0_1 x3_1).f2), .bool ((rd_T32 l0_1 x3_1).f3), .int .i64 ((rd_T32 l0_1 x3_1).f4), .int .i64 ((rd_T32 l0_1 x3_1).f5.f0), .int .i64 ((rd_T32 l0_1 x3_1).f5.f1)] 32 (0, 0))) ∧ Aside0 (Below w.heap.size w wc))
          case first =>
            have H := HC5.out
            clear HC5
            replace H := Option.bind_eq_some_iff.mp H
            obtain ⟨t133, A100, H⟩ := H
            replace H : (if t133 = true then ((almanacref16_less.f ((rd_T32 l0_1 x3_1).f2)).bind fun t134 => (if t134 = true then ((almanacref10_In.f ((rd_T32 l0_1 x3_1).f0)).bind fun t135 => (almanacref16_Fit.j1 k1 x3_1 (!t135) a0_0 l0_1 ((rd_T32 l0_1 x3_1).f0) ((rd_T32 l0_1 x3_1).f1) ((rd_T32 l0_1 x3_1).f2) ((rd_T32 l0_1 x3_1).f3) ((rd_T32 l0_1 x3_1).f4) ((rd_T32 l0_1 x3_1).f5.f0) ((rd_T32 l0_1 x3_1).f5.f1))) else (almanacref16_Fit.j1 k1 x3_1 true a0_0 l0_1 ((rd_T32 l0_1 x3_1).f0) ((rd_T32 l0_1 x3_1).f1) ((rd_T32 l0_1 x3_1).f2) ((rd_T32 l0_1 x3_1).f3) ((rd_T32 l0_1 x3_1).f4) ((rd_T32 l0_1 x3_1).f5.f0) ((rd_T32 l0_1 x3_1).f5.f1)))) else (almanacref16_Fit.j1 k1 x3_1 true a0_0 l0_1 ((rd_T32 l0_1 x3_1).f0) ((rd_T32 l0_1 x3_1).f1) ((rd_T32 l0_1 x3_1).f2) ((rd_T32 l0_1 x3_1).f3) ((rd_T32 l0_1 x3_1).f4) ((rd_T32 l0_1 x3_1).f5.f0) ((rd_T32 l0_1 x3_1).f5.f1))) = some r := H
            have A10 := Aside0.mk A100
            clear A100
            by_cases c11 : t133 = true
            · subst c11
              have H1 : ((almanacref16_less.f ((rd_T32 l0_1 x3_1).f2)).bind fun t134 => (if t134 = true then ((almanacref10_In.f ((rd_T32 l0_1 x3_1).f0)).bind fun t135 => (almanacref16_Fit.j1 k1 x3_1 (!t135) a0_0 l0_1 ((rd_T32 l0_1 x3_1).f0) ((rd_T32 l0_1 x3_1).f1) ((rd_T32 l0_1 x3_1).f2) ((rd_T32 l0_1 x3_1).f3) ((rd_T32 l0_1 x3_1).f4) ((rd_T32 l0_1 x3_1).f5.f0) ((rd_T32 l0_1 x3_1).f5.f1))) else (almanacref16_Fit.j1 k1 x3_1 true a0_0 l0_1 ((rd_T32 l0_1 x3_1).f0) ((rd_T32 l0_1 x3_1).f1) ((rd_T32 l0_1 x3_1).f2) ((rd_T32 l0_1 x3_1).f3) ((rd_T32 l0_1 x3_1).f4) ((rd_T32 l0_1 x3_1).f5.f0) ((rd_T32 l0_1 x3_1).f5.f1)))) = some r := by rw [if_pos rfl] at H; exact H
              clear H
              have H := H1
              clear H1
              replace H := Option.bind_eq_some_iff.mp H
              obtain ⟨t134, A120, H⟩ := H
              replace H : (if t134 = true then ((almanacref10_In.f ((rd_T32 l0_1 x3_1).f0)).bind fun t135 => (almanacref16_Fit.j1 k1 x3_1 (!t135) a0_0 l0_1 ((rd_T32 l0_1 x3_1).f0) ((rd_T32 l0_1 x3_1).f1) ((rd_T32 l0_1 x3_1).f2) ((rd_T32 l0_1 x3_1).f3) ((rd_T32 l0_1 x3_1).f4) ((rd_T32 l0_1 x3_1).f5.f0) ((rd_T32 l0_1 x3_1).f5.f1))) else (almanacref16_Fit.j1 k1 x3_1 true a0_0 l0_1 ((rd_T32 l0_1 x3_1).f0) ((rd_T32 l0_1 x3_1).f1) ((rd_T32 l0_1 x3_1).f2) ((rd_T32 l0_1 x3_1).f3) ((rd_T32 l0_1 x3_1).f4) ((rd_T32 l0_1 x3_1).f5.f0) ((rd_T32 l0_1 x3_1).f5.f1))) = some r := H
              have A12 := Aside0.mk A120
              clear A120
              by_cases c13 : t134 = true
              · subst c13
                have H1 : ((almanacref10_In.f ((rd_T32 l0_1 x3_1).f0)).bind fun t135 => (almanacref16_Fit.j1 k1 x3_1 (!t135) a0_0 l0_1 ((rd_T32 l0_1 x3_1).f0) ((rd_T32 l0_1 x3_1).f1) ((rd_T32 l0_1 x3_1).f2) ((rd_T32 l0_1 x3_1).f3) ((rd_T32 l0_1 x3_1).f4) ((rd_T32 l0_1 x3_1).f5.f0) ((rd_T32 l0_1 x3_1).f5.f1))) = some r := by rw [if_pos rfl] at H; exact H
                clear H
                have H := H1
                clear H1
                replace H := Option.bind_eq_some_iff.mp H
                obtain ⟨t135, A140, H⟩ := H
                replace H : (almanacref16_Fit.j1 k1 x3_1 (!t135) a0_0 l0_1 ((rd_T32 l0_1 x3_1).f0) ((rd_T32 l0_1 x3_1).f1) ((rd_T32 l0_1 x3_1).f2) ((rd_T32 l0_1 x3_1).f3) ((rd_T32 l0_1 x3_1).f4) ((rd_T32 l0_1 x3_1).f5.f0) ((rd_T32 l0_1 x3_1).f5.f1)) = some r := H
                have A14 := Aside0.mk A140
                clear A140
                have H' := Aside0.mk H
                clear H
                have hnb15 := NB132_130.out
                have hnc15 := NB130_132.out
                have hcz16_0 : w7.cell? ⟨gb132, 0, none⟩ = some (.int .i64 0) := (blk_cell BK132.out 0).trans rfl
                have hcz16_1 : w7.cell? ⟨gb132, 1, none⟩ = some (.int .i64 0) := (blk_cell BK132.out 1).trans rfl
                have hcz16_2 : w7.cell? ⟨gb132, 2, none⟩ = some (.int .i64 0) := (blk_cell BK132.out 2).trans rfl
                have hcz16_3 : w7.cell? ⟨gb132, 3, none⟩ = some (.bool false) := (blk_cell BK132.out 3).trans rfl
                have hcz16_4 : w7.cell? ⟨gb132, 4, none⟩ = some (.int .i64 0) := (blk_cell BK132.out 4).trans rfl
                have hcz16_5 : w7.cell? ⟨gb132, 5, none⟩ = some (.int .i64 0) := (blk_cell BK132.out 5).trans rfl
                have hcz16_6 : w7.cell? ⟨gb132, 6, none⟩ = some (.int .i64 0) := (blk_cell BK132.out 6).trans rfl
                have hfz16_0 := blk_frozen BK132.out 0
                have hfz16_1 := blk_frozen BK132.out 1
                have hfz16_2 := blk_frozen BK132.out 2
                have hfz16_3 := blk_frozen BK132.out 3
                have hfz16_4 := blk_frozen BK132.out 4
                have hfz16_5 := blk_frozen BK132.out 5
                have hfz16_6 := blk_frozen BK132.out 6
                go_wp2_with (first | ((with_reducible refine gate_callee (f := 32) rfl ?_); refine goesL_ (some 19) rfl rfl Tryz.func32 (by kernel_rfl) rfl #[.int .i64 ((rd_T32 l0_1 x3_1).f1)] rfl (by (try simp only [List.map_toArray, List.map_cons, List.map_nil]); first | done | rfl | (simp only [List.length_drop, List.length_take]; rfl)) ?_; (with_reducible refine (almanacref16_less.calls ((rd_T32 l0_1 x3_1).f1) true _ A10.out).mono ?_); rintro e w' ⟨rfl, ⟨nd, rfl⟩⟩; refine ⟨_, rfl, ?_⟩) | (go_at_call 32; (with_reducible refine (almanacref16_less.calls ((rd_T32 l0_1 x3_1).f2) true _ A12.out).mono ?_); rintro e w' ⟨rfl, ⟨nd, rfl⟩⟩) | (go_at_call 26; (with_reducible refine (almanacref10_In.calls ((rd_T32 l0_1 x3_1).f0) t135 _ A14.out).mono ?_); rintro e w' ⟨rfl, ⟨nd, rfl⟩⟩))
                go_meet
                case rel => exact ⟨_, (!t135), (by first | rfl | (simp; done) | (simp [*]; done)), H', ⟨by have := HK1.out; first | omega | exact Nat.le_refl _⟩, ⟨by (with_reducible repeat (first | refine blk_drewN ?_ _ | refine blk_drew ?_ | refine blk_alloc ?_ _)); refine blk_far ?_ NB130_132.out _; (with_reducible repeat (first | refine blk_drewN ?_ _ | refine blk_drew ?_ | refine blk_alloc ?_ _)); refine blk_far ?_ NB130_132.out _; (with_reducible repeat (first | refine blk_drewN ?_ _ | refine blk_drew ?_ | refine blk_alloc ?_ _)); refine blk_far ?_ NB130_132.out _; (with_reducible repeat (first | refine blk_drewN ?_ _ | refine blk_drew ?_ | refine blk_alloc ?_ _)); refine blk_far ?_ NB130_132.out _; (with_reducible repeat (first | refine blk_drewN ?_ _ | refine blk_drew ?_ | refine blk_alloc ?_ _)); refine blk_far ?_ NB130_132.out _; (with_reducible repeat (first | refine blk_drewN ?_ _ | refine blk_drew ?_ | refine blk_alloc ?_ _)); refine blk_far ?_ NB130_132.out _; (with_reducible repeat (first | refine blk_drewN ?_ _ | refine blk_drew ?_ | refine blk_alloc ?_ _)); refine blk_far ?_ NB130_132.out _; (with_reducible repeat (first | refine blk_drewN ?_ _ | refine blk_drew ?_ | refine blk_alloc ?_ _)); exact BK130.out⟩, ⟨by (with_reducible repeat (first | refine blk_drewN ?_ _ | refine blk_drew ?_ | refine blk_alloc ?_ _)); refine blk_put (cs := #[.int .i64 ((rd_T32 l0_1 x3_1).f0), .int .i64 ((rd_T32 l0_1 x3_1).f1), .int .i64 ((rd_T32 l0_1 x3_1).f2), .bool ((rd_T32 l0_1 x3_1).f3), .int .i64 ((rd_T32 l0_1 x3_1).f4), .int .i64 ((rd_T32 l0_1 x3_1).f5.f0), .int .i64 0]) ?_ 6 _ rfl; (with_reducible repeat (first | refine blk_drewN ?_ _ | refine blk_drew ?_ | refine blk_alloc ?_ _)); refine blk_put (cs := #[.int .i64 ((rd_T32 l0_1 x3_1).f0), .int .i64 ((rd_T32 l0_1 x3_1).f1), .int .i64 ((rd_T32 l0_1 x3_1).f2), .bool ((rd_T32 l0_1 x3_1).f3), .int .i64 ((rd_T32 l0_1 x3_1).f4), .int .i64 0, .int .i64 0]) ?_ 5 _ rfl; (with_reducible repeat (first | refine blk_drewN ?_ _ | refine blk_drew ?_ | refine blk_alloc ?_ _)); refine blk_put (cs := #[.int .i64 ((rd_T32 l0_1 x3_1).f0), .int .i64 ((rd_T32 l0_1 x3_1).f1), .int .i64 ((rd_T32 l0_1 x3_1).f2), .bool ((rd_T32 l0_1 x3_1).f3), .int .i64 0, .int .i64 0, .int .i64 0]) ?_ 4 _ rfl; (with_reducible repeat (first | refine blk_drewN ?_ _ | refine blk_drew ?_ | refine blk_alloc ?_ _)); refine blk_put (cs := #[.int .i64 ((rd_T32 l0_1 x3_1).f0), .int .i64 ((rd_T32 l0_1 x3_1).f1), .int .i64 ((rd_T32 l0_1 x3_1).f2), .bool false, .int .i64 0, .int .i64 0, .int .i64 0]) ?_ 3 _ rfl; (with_reducible repeat (first | refine blk_drewN ?_ _ | refine blk_drew ?_ | refine blk_alloc ?_ _)); refine blk_put (cs := #[.int .i64 ((rd_T32 l0_1 x3_1).f0), .int .i64 ((rd_T32 l0_1 x3_1).f1), .int .i64 0, .bool false, .int .i64 0, .int .i64 0, .int .i64 0]) ?_ 2 _ rfl; (with_reducible repeat (first | refine blk_drewN ?_ _ | refine blk_drew ?_ | refine blk_alloc ?_ _)); refine blk_put (cs := #[.int .i64 ((rd_T32 l0_1 x3_1).f0), .int .i64 0, .int .i64 0, .bool false, .int .i64 0, .int .i64 0, .int .i64 0]) ?_ 1 _ rfl; (with_reducible repeat (first | refine blk_drewN ?_ _ | refine blk_drew ?_ | refine blk_alloc ?_ _)); refine blk_put (cs := #[.int .i64 0, .int .i64 0, .int .i64 0, .bool false, .int .i64 0, .int .i64 0, .int .i64 0]) ?_ 0 _ rfl; (with_reducible repeat (first | refine blk_drewN ?_ _ | refine blk_drew ?_ | refine blk_alloc ?_ _)); exact BK132.out⟩, ⟨by repeat (first | (with_reducible first | exact HB.out | apply below_alloc | apply pw_below_drewN | apply below_drew1 | refine below_set ?_ GE130.out | refine below_set ?_ GE132.out) | exact HB.out)⟩⟩
              · replace c13 := Bool.eq_false_iff.mpr c13
                subst c13
                have H1 : (almanacref16_Fit.j1 k1 x3_1 true a0_0 l0_1 ((rd_T32 l0_1 x3_1).f0) ((rd_T32 l0_1 x3_1).f1) ((rd_T32 l0_1 x3_1).f2) ((rd_T32 l0_1 x3_1).f3) ((rd_T32 l0_1 x3_1).f4) ((rd_T32 l0_1 x3_1).f5.f0) ((rd_T32 l0_1 x3_1).f5.f1)) = some r := by rw [if_neg (show ¬ (false = true) by decide)] at H; exact H
                clear H
                have H := H1
                clear H1
                have H' := Aside0.mk H
                clear H
                have hnb17 := NB132_130.out
                have hnc17 := NB130_132.out
                have hcz18_0 : w7.cell? ⟨gb132, 0, none⟩ = some (.int .i64 0) := (blk_cell BK132.out 0).trans rfl
                have hcz18_1 : w7.cell? ⟨gb132, 1, none⟩ = some (.int .i64 0) := (blk_cell BK132.out 1).trans rfl
                have hcz18_2 : w7.cell? ⟨gb132, 2, none⟩ = some (.int .i64 0) := (blk_cell BK132.out 2).trans rfl
                have hcz18_3 : w7.cell? ⟨gb132, 3, none⟩ = some (.bool false) := (blk_cell BK132.out 3).trans rfl
                have hcz18_4 : w7.cell? ⟨gb132, 4, none⟩ = some (.int .i64 0) := (blk_cell BK132.out 4).trans rfl
                have hcz18_5 : w7.cell? ⟨gb132, 5, none⟩ = some (.int .i64 0) := (blk_cell BK132.out 5).trans rfl
                have hcz18_6 : w7.cell? ⟨gb132, 6, none⟩ = some (.int .i64 0) := (blk_cell BK132.out 6).trans rfl
                have hfz18_0 := blk_frozen BK132.out 0
                have hfz18_1 := blk_frozen BK132.out 1
                have hfz18_2 := blk_frozen BK132.out 2
                have hfz18_3 := blk_frozen BK132.out 3
                have hfz18_4 := blk_frozen BK132.out 4
                have hfz18_5 := blk_frozen BK132.out 5
                have hfz18_6 := blk_frozen BK132.out 6
                go_wp2_with (first | ((with_reducible refine gate_callee (f := 32) rfl ?_); refine goesL_ (some 19) rfl rfl Tryz.func32 (by kernel_rfl) rfl #[.int .i64 ((rd_T32 l0_1 x3_1).f1)] rfl (by (try simp only [List.map_toArray, List.map_cons, List.map_nil]); first | done | rfl | (simp only [List.length_drop, List.length_take]; rfl)) ?_; (with_reducible refine (almanacref16_less.calls ((rd_T32 l0_1 x3_1).f1) true _ A10.out).mono ?_); rintro e w' ⟨rfl, ⟨nd, rfl⟩⟩; refine ⟨_, rfl, ?_⟩) | (go_at_call 32; (with_reducible refine (almanacref16_less.calls ((rd_T32 l0_1 x3_1).f2) false _ A12.out).mono ?_); rintro e w' ⟨rfl, ⟨nd, rfl⟩⟩))
                go_meet
                case rel => exact ⟨_, (true), (by first | rfl | (simp; done) | (simp [*]; done)), H', ⟨by have := HK1.out; first | omega | exact Nat.le_refl _⟩, ⟨by (with_reducible repeat (first | refine blk_drewN ?_ _ | refine blk_drew ?_ | refine blk_alloc ?_ _)); refine blk_far ?_ NB130_132.out _; (with_reducible repeat (first | refine blk_drewN ?_ _ | refine blk_drew ?_ | refine blk_alloc ?_ _)); refine blk_far ?_ NB130_132.out _; (with_reducible repeat (first | refine blk_drewN ?_ _ | refine blk_drew ?_ | refine blk_alloc ?_ _)); refine blk_far ?_ NB130_132.out _; (with_reducible repeat (first | refine blk_drewN ?_ _ | refine blk_drew ?_ | refine blk_alloc ?_ _)); refine blk_far ?_ NB130_132.out _; (with_reducible repeat (first | refine blk_drewN ?_ _ | refine blk_drew ?_ | refine blk_alloc ?_ _)); refine blk_far ?_ NB130_132.out _; (with_reducible repeat (first | refine blk_drewN ?_ _ | refine blk_drew ?_ | refine blk_alloc ?_ _)); refine blk_far ?_ NB130_132.out _; (with_reducible repeat (first | refine blk_drewN ?_ _ | refine blk_drew ?_ | refine blk_alloc ?_ _)); refine blk_far ?_ NB130_132.out _; (with_reducible repeat (first | refine blk_drewN ?_ _ | refine blk_drew ?_ | refine blk_alloc ?_ _)); exact BK130.out⟩, ⟨by (with_reducible repeat (first | refine blk_drewN ?_ _ | refine blk_drew ?_ | refine blk_alloc ?_ _)); refine blk_put (cs := #[.int .i64 ((rd_T32 l0_1 x3_1).f0), .int .i64 ((rd_T32 l0_1 x3_1).f1), .int .i64 ((rd_T32 l0_1 x3_1).f2), .bool ((rd_T32 l0_1 x3_1).f3), .int .i64 ((rd_T32 l0_1 x3_1).f4), .int .i64 ((rd_T32 l0_1 x3_1).f5.f0), .int .i64 0]) ?_ 6 _ rfl; (with_reducible repeat (first | refine blk_drewN ?_ _ | refine blk_drew ?_ | refine blk_alloc ?_ _)); refine blk_put (cs := #[.int .i64 ((rd_T32 l0_1 x3_1).f0), .int .i64 ((rd_T32 l0_1 x3_1).f1), .int .i64 ((rd_T32 l0_1 x3_1).f2), .bool ((rd_T32 l0_1 x3_1).f3), .int .i64 ((rd_T32 l0_1 x3_1).f4), .int .i64 0, .int .i64 0]) ?_ 5 _ rfl; (with_reducible repeat (first | refine blk_drewN ?_ _ | refine blk_drew ?_ | refine blk_alloc ?_ _)); refine blk_put (cs := #[.int .i64 ((rd_T32 l0_1 x3_1).f0), .int .i64 ((rd_T32 l0_1 x3_1).f1), .int .i64 ((rd_T32 l0_1 x3_1).f2), .bool ((rd_T32 l0_1 x3_1).f3), .int .i64 0, .int .i64 0, .int .i64 0]) ?_ 4 _ rfl; (with_reducible repeat (first | refine blk_drewN ?_ _ | refine blk_drew ?_ | refine blk_alloc ?_ _)); refine blk_put (cs := #[.int .i64 ((rd_T32 l0_1 x3_1).f0), .int .i64 ((rd_T32 l0_1 x3_1).f1), .int .i64 ((rd_T32 l0_1 x3_1).f2), .bool false, .int .i64 0, .int .i64 0, .int .i64 0]) ?_ 3 _ rfl; (with_reducible repeat (first | refine blk_drewN ?_ _ | refine blk_drew ?_ | refine blk_alloc ?_ _)); refine blk_put (cs := #[.int .i64 ((rd_T32 l0_1 x3_1).f0), .int .i64 ((rd_T32 l0_1 x3_1).f1), .int .i64 0, .bool false, .int .i64 0, .int .i64 0, .int .i64 0]) ?_ 2 _ rfl; (with_reducible repeat (first | refine blk_drewN ?_ _ | refine blk_drew ?_ | refine blk_alloc ?_ _)); refine blk_put (cs := #[.int .i64 ((rd_T32 l0_1 x3_1).f0), .int .i64 0, .int .i64 0, .bool false, .int .i64 0, .int .i64 0, .int .i64 0]) ?_ 1 _ rfl; (with_reducible repeat (first | refine blk_drewN ?_ _ | refine blk_drew ?_ | refine blk_alloc ?_ _)); refine blk_put (cs := #[.int .i64 0, .int .i64 0, .int .i64 0, .bool false, .int .i64 0, .int .i64 0, .int .i64 0]) ?_ 0 _ rfl; (with_reducible repeat (first | refine blk_drewN ?_ _ | refine blk_drew ?_ | refine blk_alloc ?_ _)); exact BK132.out⟩, ⟨by repeat (first | (with_reducible first | exact HB.out | apply below_alloc | apply pw_below_drewN | apply below_drew1 | refine below_set ?_ GE130.out | refine below_set ?_ GE132.out) | exact HB.out)⟩⟩
            · replace c11 := Bool.eq_false_iff.mpr c11
              subst c11
              have H1 : (almanacref16_Fit.j1 k1 x3_1 true a0_0 l0_1 ((rd_T32 l0_1 x3_1).f0) ((rd_T32 l0_1 x3_1).f1) ((rd_T32 l0_1 x3_1).f2) ((rd_T32 l0_1 x3_1).f3) ((rd_T32 l0_1 x3_1).f4) ((rd_T32 l0_1 x3_1).f5.f0) ((rd_T32 l0_1 x3_1).f5.f1)) = some r := by rw [if_neg (show ¬ (false = true) by decide)] at H; exact H
              clear H
              have H := H1
              clear H1
              have H' := Aside0.mk H
              clear H
              have hnb19 := NB132_130.out
              have hnc19 := NB130_132.out
              have hcz20_0 : w7.cell? ⟨gb132, 0, none⟩ = some (.int .i64 0) := (blk_cell BK132.out 0).trans rfl
              have hcz20_1 : w7.cell? ⟨gb132, 1, none⟩ = some (.int .i64 0) := (blk_cell BK132.out 1).trans rfl
              have hcz20_2 : w7.cell? ⟨gb132, 2, none⟩ = some (.int .i64 0) := (blk_cell BK132.out 2).trans rfl
              have hcz20_3 : w7.cell? ⟨gb132, 3, none⟩ = some (.bool false) := (blk_cell BK132.out 3).trans rfl
              have hcz20_4 : w7.cell? ⟨gb132, 4, none⟩ = some (.int .i64 0) := (blk_cell BK132.out 4).trans rfl
              have hcz20_5 : w7.cell? ⟨gb132, 5, none⟩ = some (.int .i64 0) := (blk_cell BK132.out 5).trans rfl
              have hcz20_6 : w7.cell? ⟨gb132, 6, none⟩ = some (.int .i64 0) := (blk_cell BK132.out 6).trans rfl
              have hfz20_0 := blk_frozen BK132.out 0
              have hfz20_1 := blk_frozen BK132.out 1
              have hfz20_2 := blk_frozen BK132.out 2
              have hfz20_3 := blk_frozen BK132.out 3
              have hfz20_4 := blk_frozen BK132.out 4
              have hfz20_5 := blk_frozen BK132.out 5
              have hfz20_6 := blk_frozen BK132.out 6
              go_wp2_with (first | ((with_reducible refine gate_callee (f := 32) rfl ?_); refine goesL_ (some 19) rfl rfl Tryz.func32 (by kernel_rfl) rfl #[.int .i64 ((rd_T32 l0_1 x3_1).f1)] rfl (by (try simp only [List.map_toArray, List.map_cons, List.map_nil]); first | done | rfl | (simp only [List.length_drop, List.length_take]; rfl)) ?_; (with_reducible refine (almanacref16_less.calls ((rd_T32 l0_1 x3_1).f1) false _ A10.out).mono ?_); rintro e w' ⟨rfl, ⟨nd, rfl⟩⟩; refine ⟨_, rfl, ?_⟩))
              go_meet
              case rel => exact ⟨_, (true), (by first | rfl | (simp; done) | (simp [*]; done)), H', ⟨by have := HK1.out; first | omega | exact Nat.le_refl _⟩, ⟨by (with_reducible repeat (first | refine blk_drewN ?_ _ | refine blk_drew ?_ | refine blk_alloc ?_ _)); refine blk_far ?_ NB130_132.out _; (with_reducible repeat (first | refine blk_drewN ?_ _ | refine blk_drew ?_ | refine blk_alloc ?_ _)); refine blk_far ?_ NB130_132.out _; (with_reducible repeat (first | refine blk_drewN ?_ _ | refine blk_drew ?_ | refine blk_alloc ?_ _)); refine blk_far ?_ NB130_132.out _; (with_reducible repeat (first | refine blk_drewN ?_ _ | refine blk_drew ?_ | refine blk_alloc ?_ _)); refine blk_far ?_ NB130_132.out _; (with_reducible repeat (first | refine blk_drewN ?_ _ | refine blk_drew ?_ | refine blk_alloc ?_ _)); refine blk_far ?_ NB130_132.out _; (with_reducible repeat (first | refine blk_drewN ?_ _ | refine blk_drew ?_ | refine blk_alloc ?_ _)); refine blk_far ?_ NB130_132.out _; (with_reducible repeat (first | refine blk_drewN ?_ _ | refine blk_drew ?_ | refine blk_alloc ?_ _)); refine blk_far ?_ NB130_132.out _; (with_reducible repeat (first | refine blk_drewN ?_ _ | refine blk_drew ?_ | refine blk_alloc ?_ _)); exact BK130.out⟩, ⟨by (with_reducible repeat (first | refine blk_drewN ?_ _ | refine blk_drew ?_ | refine blk_alloc ?_ _)); refine blk_put (cs := #[.int .i64 ((rd_T32 l0_1 x3_1).f0), .int .i64 ((rd_T32 l0_1 x3_1).f1), .int .i64 ((rd_T32 l0_1 x3_1).f2), .bool ((rd_T32 l0_1 x3_1).f3), .int .i64 ((rd_T32 l0_1 x3_1).f4), .int .i64 ((rd_T32 l0_1 x3_1).f5.f0), .int .i64 0]) ?_ 6 _ rfl; (with_reducible repeat (first | refine blk_drewN ?_ _ | refine blk_drew ?_ | refine blk_alloc ?_ _)); refine blk_put (cs := #[.int .i64 ((rd_T32 l0_1 x3_1).f0), .int .i64 ((rd_T32 l0_1 x3_1).f1), .int .i64 ((rd_T32 l0_1 x3_1).f2), .bool ((rd_T32 l0_1 x3_1).f3), .int .i64 ((rd_T32 l0_1 x3_1).f4), .int .i64 0, .int .i64 0]) ?_ 5 _ rfl; (with_reducible repeat (first | refine blk_drewN ?_ _ | refine blk_drew ?_ | refine blk_alloc ?_ _)); refine blk_put (cs := #[.int .i64 ((rd_T32 l0_1 x3_1).f0), .int .i64 ((rd_T32 l0_1 x3_1).f1), .int .i64 ((rd_T32 l0_1 x3_1).f2), .bool ((rd_T32 l0_1 x3_1).f3), .int .i64 0, .int .i64 0, .int .i64 0]) ?_ 4 _ rfl; (with_reducible repeat (first | refine blk_drewN ?_ _ | refine blk_drew ?_ | refine blk_alloc ?_ _)); refine blk_put (cs := #[.int .i64 ((rd_T32 l0_1 x3_1).f0), .int .i64 ((rd_T32 l0_1 x3_1).f1), .int .i64 ((rd_T32 l0_1 x3_1).f2), .bool false, .int .i64 0, .int .i64 0, .int .i64 0]) ?_ 3 _ rfl; (with_reducible repeat (first | refine blk_drewN ?_ _ | refine blk_drew ?_ | refine blk_alloc ?_ _)); refine blk_put (cs := #[.int .i64 ((rd_T32 l0_1 x3_1).f0), .int .i64 ((rd_T32 l0_1 x3_1).f1), .int .i64 0, .bool false, .int .i64 0, .int .i64 0, .int .i64 0]) ?_ 2 _ rfl; (with_reducible repeat (first | refine blk_drewN ?_ _ | refine blk_drew ?_ | refine blk_alloc ?_ _)); refine blk_put (cs := #[.int .i64 ((rd_T32 l0_1 x3_1).f0), .int .i64 0, .int .i64 0, .bool false, .int .i64 0, .int .i64 0, .int .i64 0]) ?_ 1 _ rfl; (with_reducible repeat (first | refine blk_drewN ?_ _ | refine blk_drew ?_ | refine blk_alloc ?_ _)); refine blk_put (cs := #[.int .i64 0, .int .i64 0, .int .i64 0, .bool false, .int .i64 0, .int .i64 0, .int .i64 0]) ?_ 0 _ rfl; (with_reducible repeat (first | refine blk_drewN ?_ _ | refine blk_drew ?_ | refine blk_alloc ?_ _)); exact BK132.out⟩, ⟨by repeat (first | (with_reducible first | exact HB.out | apply below_alloc | apply pw_below_drewN | apply below_drew1 | refine below_set ?_ GE130.out | refine below_set ?_ GE132.out) | exact HB.out)⟩⟩
          case rest =>
            clear HC5
            try clear c1
            try clear p1
            try clear q1
            try clear hx1
            try clear p2
            try clear c3
            try clear c3b0
            try clear c4
            try clear c4b0
            try clear c8
            try clear c11
            try clear c13
            try clear p13
            try clear q13
            try clear hx13
            try clear c15
            try clear c17
            try clear c19
            try clear hcz16_0
            try clear hcz16_1
            try clear hcz16_2
            try clear hcz16_3
            try clear hcz16_4
            try clear hcz16_5
            try clear hcz16_6
            try clear hcz18_0
            try clear hcz18_1
            try clear hcz18_2
            try clear hcz18_3
            try clear hcz18_4
            try clear hcz18_5
            try clear hcz18_6
            try clear hcz20_0
            try clear hcz20_1
            try clear hcz20_2
            try clear hcz20_3
            try clear hcz20_4
            try clear hcz20_5
            try clear hcz20_6
            try clear hcz6_0
            try clear hcz6_1
            try clear hcz9_0
            try clear hcz9_1
            try clear hcz9_2
            try clear hcz9_3
            try clear hcz9_4
            try clear hcz9_5
            try clear hcz9_6
            try clear hfz16_0
            try clear hfz16_1
            try clear hfz16_2
            try clear hfz16_3
            try clear hfz16_4
            try clear hfz16_5
            try clear hfz16_6
            try clear hfz18_0
            try clear hfz18_1
            try clear hfz18_2
            try clear hfz18_3
            try clear hfz18_4
            try clear hfz18_5
            try clear hfz18_6
            try clear hfz20_0
            try clear hfz20_1
            try clear hfz20_2
            try clear hfz20_3
            try clear hfz20_4
            try clear hfz20_5
            try clear hfz20_6
            try clear hfz6_0
            try clear hfz6_1
            try clear hfz9_0
            try clear hfz9_1
            try clear hfz9_2
            try clear hfz9_3
            try clear hfz9_4
            try clear hfz9_5
            try clear hfz9_6
            try clear hx131_0
            try clear hx131_1
            try clear hx131_2
            try clear hx131_3
            try clear hx131_4
            try clear hx131_5
            try clear hx131_6
            try clear p131
            try clear p2
            try clear q131
            obtain ⟨kq, x32_4, rfl, HA, HJ4, BK130, BK132, HB⟩ := hcut
            cases kq with
            | zero => exact absurd HA.out (by simp [almanacref16_Fit.j1])
            | succ kj4 =>
              have H := HA.out
              clear HA
              simp only [almanacref16_Fit.j1] at H
              by_cases c21 : x32_4 = true
              · subst c21
                have H1 : (some false) = some r := by rw [if_pos rfl] at H; exact H
                clear H
                have H := H1
                clear H1
                obtain rfl := Option.some.inj H
                go_wp2
                go_ret
                exact ⟨by first | rfl | (simp [errW_none, errW_some] <;> rfl) | (simp [*, errW_none, errW_some] <;> rfl), by repeat (first | (with_reducible first | exact HB.out | apply below_alloc | apply pw_below_drewN | apply below_drew1 | refine below_set ?_ GE130.out | refine below_set ?_ GE132.out) | exact HB.out)⟩
              · replace c21 := Bool.eq_false_iff.mpr c21
                subst c21
                have H1 : (if ((rd_T32 l0_1 x3_1).f3) = true then (if ((rd_T32 l0_1 x3_1).f4) < 1 then (some false) else (if ((rd_T32 l0_1 x3_1).f4) > 12 then (some false) else ((almanacref16_nth.f ((rd_T32 l0_1 x3_1).f5.f0) ((rd_T32 l0_1 x3_1).f5.f1)).bind fun t136 => (if t136 = true then (almanacref16_Fit.l0 kj4 (wrap64 (x3_1 + 1)) a0_0 l0_1) else (some false))))) else (if ((rd_T32 l0_1 x3_1).f4) = 0 then (if (!(((rd_T32 l0_1 x3_1).f5.f0) == 0) || (!(((rd_T32 l0_1 x3_1).f5.f1) == 0))) = true then (some false) else (almanacref16_Fit.l0 kj4 (wrap64 (x3_1 + 1)) a0_0 l0_1)) else (some false))) = some r := by rw [if_neg (show ¬ (false = true) by decide)] at H; exact H
                clear H
                have H := H1
                clear H1
                by_cases c22 : ((rd_T32 l0_1 x3_1).f3) = true
                · rw [if_pos c22] at H
                  have c22b0 : ((rd_T32 l0_1 x3_1).f3) = true := c22
                  clear c22
                  by_cases c23 : ((rd_T32 l0_1 x3_1).f4) < 1
                  · rw [if_pos c23] at H
                    have c23b0 : decide (((rd_T32 l0_1 x3_1).f4) < 1) = true := decide_eq_true c23
                    clear c23
                    obtain rfl := Option.some.inj H
                    have hnb24 := NB132_130.out
                    have hnc24 := NB130_132.out
                    have hcz25_0 : wc.cell? ⟨gb132, 0, none⟩ = some (.int .i64 ((rd_T32 l0_1 x3_1).f0)) := (blk_cell BK132.out 0).trans rfl
                    have hcz25_1 : wc.cell? ⟨gb132, 1, none⟩ = some (.int .i64 ((rd_T32 l0_1 x3_1).f1)) := (blk_cell BK132.out 1).trans rfl
                    have hcz25_2 : wc.cell? ⟨gb132, 2, none⟩ = some (.int .i64 ((rd_T32 l0_1 x3_1).f2)) := (blk_cell BK132.out 2).trans rfl
                    have hcz25_3 : wc.cell? ⟨gb132, 3, none⟩ = some (.bool ((rd_T32 l0_1 x3_1).f3)) := (blk_cell BK132.out 3).trans rfl
                    have hcz25_4 : wc.cell? ⟨gb132, 4, none⟩ = some (.int .i64 ((rd_T32 l0_1 x3_1).f4)) := (blk_cell BK132.out 4).trans rfl
                    have hcz25_5 : wc.cell? ⟨gb132, 5, none⟩ = some (.int .i64 ((rd_T32 l0_1 x3_1).f5.f0)) := (blk_cell BK132.out 5).trans rfl
                    have hcz25_6 : wc.cell? ⟨gb132, 6, none⟩ = some (.int .i64 ((rd_T32 l0_1 x3_1).f5.f1)) := (blk_cell BK132.out 6).trans rfl
                    have hfz25_0 := blk_frozen BK132.out 0
                    have hfz25_1 := blk_frozen BK132.out 1
                    have hfz25_2 := blk_frozen BK132.out 2
                    have hfz25_3 := blk_frozen BK132.out 3
                    have hfz25_4 := blk_frozen BK132.out 4
                    have hfz25_5 := blk_frozen BK132.out 5
                    have hfz25_6 := blk_frozen BK132.out 6
                    go_wp2
                    go_ret
                    exact ⟨by first | rfl | (simp [errW_none, errW_some] <;> rfl) | (simp [*, errW_none, errW_some] <;> rfl), by repeat (first | (with_reducible first | exact HB.out | apply below_alloc | apply pw_below_drewN | apply below_drew1 | refine below_set ?_ GE130.out | refine below_set ?_ GE132.out) | exact HB.out)⟩
                  · rw [if_neg c23] at H
                    have c23b0 : decide (((rd_T32 l0_1 x3_1).f4) < 1) = false := decide_eq_false c23
                    clear c23
                    by_cases c26 : ((rd_T32 l0_1 x3_1).f4) > 12
                    · rw [if_pos c26] at H
                      have c26b0 : decide (12 < ((rd_T32 l0_1 x3_1).f4)) = true := decide_eq_true c26
                      clear c26
                      obtain rfl := Option.some.inj H
                      have hnb27 := NB132_130.out
                      have hnc27 := NB130_132.out
                      have hcz28_0 : wc.cell? ⟨gb132, 0, none⟩ = some (.int .i64 ((rd_T32 l0_1 x3_1).f0)) := (blk_cell BK132.out 0).trans rfl
                      have hcz28_1 : wc.cell? ⟨gb132, 1, none⟩ = some (.int .i64 ((rd_T32 l0_1 x3_1).f1)) := (blk_cell BK132.out 1).trans rfl
                      have hcz28_2 : wc.cell? ⟨gb132, 2, none⟩ = some (.int .i64 ((rd_T32 l0_1 x3_1).f2)) := (blk_cell BK132.out 2).trans rfl
                      have hcz28_3 : wc.cell? ⟨gb132, 3, none⟩ = some (.bool ((rd_T32 l0_1 x3_1).f3)) := (blk_cell BK132.out 3).trans rfl
                      have hcz28_4 : wc.cell? ⟨gb132, 4, none⟩ = some (.int .i64 ((rd_T32 l0_1 x3_1).f4)) := (blk_cell BK132.out 4).trans rfl
                      have hcz28_5 : wc.cell? ⟨gb132, 5, none⟩ = some (.int .i64 ((rd_T32 l0_1 x3_1).f5.f0)) := (blk_cell BK132.out 5).trans rfl
                      have hcz28_6 : wc.cell? ⟨gb132, 6, none⟩ = some (.int .i64 ((rd_T32 l0_1 x3_1).f5.f1)) := (blk_cell BK132.out 6).trans rfl
                      have hfz28_0 := blk_frozen BK132.out 0
                      have hfz28_1 := blk_frozen BK132.out 1
                      have hfz28_2 := blk_frozen BK132.out 2
                      have hfz28_3 := blk_frozen BK132.out 3
                      have hfz28_4 := blk_frozen BK132.out 4
                      have hfz28_5 := blk_frozen BK132.out 5
                      have hfz28_6 := blk_frozen BK132.out 6
                      go_wp2
                      go_ret
                      exact ⟨by first | rfl | (simp [errW_none, errW_some] <;> rfl) | (simp [*, errW_none, errW_some] <;> rfl), by repeat (first | (with_reducible first | exact HB.out | apply below_alloc | apply pw_below_drewN | apply below_drew1 | refine below_set ?_ GE130.out | refine below_set ?_ GE132.out) | exact HB.out)⟩
                    · rw [if_neg c26] at H
                      have c26b0 : decide (12 < ((rd_T32 l0_1 x3_1).f4)) = false := decide_eq_false c26
                      clear c26
                      replace H := Option.bind_eq_some_iff.mp H
                      obtain ⟨t136, A290, H⟩ := H
                      replace H : (if t136 = true then (almanacref16_Fit.l0 kj4 (wrap64 (x3_1 + 1)) a0_0 l0_1) else (some false)) = some r := H
                      have A29 := Aside0.mk A290
                      clear A290
                      by_cases c30 : t136 = true
                      · subst c30
                        have H1 : (almanacref16_Fit.l0 kj4 (wrap64 (x3_1 + 1)) a0_0 l0_1) = some r := by rw [if_pos rfl] at H; exact H
                        clear H
                        have H := H1
                        clear H1
                        have H' := Aside0.mk H
                        clear H
                        have hnb31 := NB132_130.out
                        have hnc31 := NB130_132.out
                        have hcz32_0 : wc.cell? ⟨gb132, 0, none⟩ = some (.int .i64 ((rd_T32 l0_1 x3_1).f0)) := (blk_cell BK132.out 0).trans rfl
                        have hcz32_1 : wc.cell? ⟨gb132, 1, none⟩ = some (.int .i64 ((rd_T32 l0_1 x3_1).f1)) := (blk_cell BK132.out 1).trans rfl
                        have hcz32_2 : wc.cell? ⟨gb132, 2, none⟩ = some (.int .i64 ((rd_T32 l0_1 x3_1).f2)) := (blk_cell BK132.out 2).trans rfl
                        have hcz32_3 : wc.cell? ⟨gb132, 3, none⟩ = some (.bool ((rd_T32 l0_1 x3_1).f3)) := (blk_cell BK132.out 3).trans rfl
                        have hcz32_4 : wc.cell? ⟨gb132, 4, none⟩ = some (.int .i64 ((rd_T32 l0_1 x3_1).f4)) := (blk_cell BK132.out 4).trans rfl
                        have hcz32_5 : wc.cell? ⟨gb132, 5, none⟩ = some (.int .i64 ((rd_T32 l0_1 x3_1).f5.f0)) := (blk_cell BK132.out 5).trans rfl
                        have hcz32_6 : wc.cell? ⟨gb132, 6, none⟩ = some (.int .i64 ((rd_T32 l0_1 x3_1).f5.f1)) := (blk_cell BK132.out 6).trans rfl
                        have hfz32_0 := blk_frozen BK132.out 0
                        have hfz32_1 := blk_frozen BK132.out 1
                        have hfz32_2 := blk_frozen BK132.out 2
                        have hfz32_3 := blk_frozen BK132.out 3
                        have hfz32_4 := blk_frozen BK132.out 4
                        have hfz32_5 := blk_frozen BK132.out 5
                        have hfz32_6 := blk_frozen BK132.out 6
                        go_wp2_with (first | (go_at_call 33; (with_reducible refine (almanacref16_nth.calls ((rd_T32 l0_1 x3_1).f5.f0) ((rd_T32 l0_1 x3_1).f5.f1) true _ A29.out).mono ?_); rintro e w33 ⟨rfl, hb⟩; have n0_ := Aside0.mk (blk_below (g := gb130) (o := .cells #[.string a0_0, .slice (some ad131) l0_1.length c0_1] 24 (0, 0)) (by (with_reducible repeat (first | refine blk_drewN ?_ _ | refine blk_drew ?_ | refine blk_alloc ?_ _)); exact BK130.out) hb); have n1_ := Aside0.mk (blk_below (g := gb132) (o := .cells #[.int .i64 ((rd_T32 l0_1 x3_1).f0), .int .i64 ((rd_T32 l0_1 x3_1).f1), .int .i64 ((rd_T32 l0_1 x3_1).f2), .bool ((rd_T32 l0_1 x3_1).f3), .int .i64 ((rd_T32 l0_1 x3_1).f4), .int .i64 ((rd_T32 l0_1 x3_1).f5.f0), .int .i64 ((rd_T32 l0_1 x3_1).f5.f1)] 32 (0, 0)) (by (with_reducible repeat (first | refine blk_drewN ?_ _ | refine blk_drew ?_ | refine blk_alloc ?_ _)); exact BK132.out) hb); have n2_ := Aside0.mk (below_step (by repeat (first | (with_reducible first | exact HB.out | apply below_alloc | apply pw_below_drewN | apply below_drew1 | refine below_set ?_ GE130.out | refine below_set ?_ GE132.out) | exact HB.out)) hb); clear BK130; clear BK132; clear HB; have BK130 := n0_; have BK132 := n1_; have HB := n2_; clear n0_ n1_ n2_; (try clear hb); (try clear hb2); (try clear hk); (try clear hi); have hcz34_0 : w33.cell? ⟨gb132, 0, none⟩ = some (.int .i64 ((rd_T32 l0_1 x3_1).f0)) := (blk_cell BK132.out 0).trans rfl; have hcz34_1 : w33.cell? ⟨gb132, 1, none⟩ = some (.int .i64 ((rd_T32 l0_1 x3_1).f1)) := (blk_cell BK132.out 1).trans rfl; have hcz34_2 : w33.cell? ⟨gb132, 2, none⟩ = some (.int .i64 ((rd_T32 l0_1 x3_1).f2)) := (blk_cell BK132.out 2).trans rfl; have hcz34_3 : w33.cell? ⟨gb132, 3, none⟩ = some (.bool ((rd_T32 l0_1 x3_1).f3)) := (blk_cell BK132.out 3).trans rfl; have hcz34_4 : w33.cell? ⟨gb132, 4, none⟩ = some (.int .i64 ((rd_T32 l0_1 x3_1).f4)) := (blk_cell BK132.out 4).trans rfl; have hcz34_5 : w33.cell? ⟨gb132, 5, none⟩ = some (.int .i64 ((rd_T32 l0_1 x3_1).f5.f0)) := (blk_cell BK132.out 5).trans rfl; have hcz34_6 : w33.cell? ⟨gb132, 6, none⟩ = some (.int .i64 ((rd_T32 l0_1 x3_1).f5.f1)) := (blk_cell BK132.out 6).trans rfl; have hfz34_0 := blk_frozen BK132.out 0; have hfz34_1 := blk_frozen BK132.out 1; have hfz34_2 := blk_frozen BK132.out 2; have hfz34_3 := blk_frozen BK132.out 3; have hfz34_4 := blk_frozen BK132.out 4; have hfz34_5 := blk_frozen BK132.out 5; have hfz34_6 := blk_frozen BK132.out 6))
                        go_roundg kj4
                        case measure => have := HK1.out; have := HJ4.out; omega
                        case rel => exact ⟨(wrap64 (x3_1 + 1)), (by first | rfl | (simp; done) | (simp [*]; done)), H', ⟨by have := HK1.out; have := HJ4.out; omega⟩, ⟨by (with_reducible repeat (first | refine blk_drewN ?_ _ | refine blk_drew ?_ | refine blk_alloc ?_ _)); exact BK130.out⟩, ⟨by repeat (first | (with_reducible first | exact HB.out | apply below_alloc | apply pw_below_drewN | apply below_drew1 | refine below_set ?_ GE130.out | refine below_set ?_ GE132.out) | exact HB.out)⟩⟩
                      · replace c30 := Bool.eq_false_iff.mpr c30
                        subst c30
                        have H1 : (some false) = some r := by rw [if_neg (show ¬ (false = true) by decide)] at H; exact H
                        clear H
                        have H := H1
                        clear H1
                        obtain rfl := Option.some.inj H
                        have hnb35 := NB132_130.out
                        have hnc35 := NB130_132.out
                        have hcz36_0 : wc.cell? ⟨gb132, 0, none⟩ = some (.int .i64 ((rd_T32 l0_1 x3_1).f0)) := (blk_cell BK132.out 0).trans rfl
                        have hcz36_1 : wc.cell? ⟨gb132, 1, none⟩ = some (.int .i64 ((rd_T32 l0_1 x3_1).f1)) := (blk_cell BK132.out 1).trans rfl
                        have hcz36_2 : wc.cell? ⟨gb132, 2, none⟩ = some (.int .i64 ((rd_T32 l0_1 x3_1).f2)) := (blk_cell BK132.out 2).trans rfl
                        have hcz36_3 : wc.cell? ⟨gb132, 3, none⟩ = some (.bool ((rd_T32 l0_1 x3_1).f3)) := (blk_cell BK132.out 3).trans rfl
                        have hcz36_4 : wc.cell? ⟨gb132, 4, none⟩ = some (.int .i64 ((rd_T32 l0_1 x3_1).f4)) := (blk_cell BK132.out 4).trans rfl
                        have hcz36_5 : wc.cell? ⟨gb132, 5, none⟩ = some (.int .i64 ((rd_T32 l0_1 x3_1).f5.f0)) := (blk_cell BK132.out 5).trans rfl
                        have hcz36_6 : wc.cell? ⟨gb132, 6, none⟩ = some (.int .i64 ((rd_T32 l0_1 x3_1).f5.f1)) := (blk_cell BK132.out 6).trans rfl
                        have hfz36_0 := blk_frozen BK132.out 0
                        have hfz36_1 := blk_frozen BK132.out 1
                        have hfz36_2 := blk_frozen BK132.out 2
                        have hfz36_3 := blk_frozen BK132.out 3
                        have hfz36_4 := blk_frozen BK132.out 4
                        have hfz36_5 := blk_frozen BK132.out 5
                        have hfz36_6 := blk_frozen BK132.out 6
                        go_wp2_with (first | (go_at_call 33; (with_reducible refine (almanacref16_nth.calls ((rd_T32 l0_1 x3_1).f5.f0) ((rd_T32 l0_1 x3_1).f5.f1) false _ A29.out).mono ?_); rintro e w37 ⟨rfl, hb⟩; have n0_ := Aside0.mk (blk_below (g := gb130) (o := .cells #[.string a0_0, .slice (some ad131) l0_1.length c0_1] 24 (0, 0)) (by (with_reducible repeat (first | refine blk_drewN ?_ _ | refine blk_drew ?_ | refine blk_alloc ?_ _)); exact BK130.out) hb); have n1_ := Aside0.mk (blk_below (g := gb132) (o := .cells #[.int .i64 ((rd_T32 l0_1 x3_1).f0), .int .i64 ((rd_T32 l0_1 x3_1).f1), .int .i64 ((rd_T32 l0_1 x3_1).f2), .bool ((rd_T32 l0_1 x3_1).f3), .int .i64 ((rd_T32 l0_1 x3_1).f4), .int .i64 ((rd_T32 l0_1 x3_1).f5.f0), .int .i64 ((rd_T32 l0_1 x3_1).f5.f1)] 32 (0, 0)) (by (with_reducible repeat (first | refine blk_drewN ?_ _ | refine blk_drew ?_ | refine blk_alloc ?_ _)); exact BK132.out) hb); have n2_ := Aside0.mk (below_step (by repeat (first | (with_reducible first | exact HB.out | apply below_alloc | apply pw_below_drewN | apply below_drew1 | refine below_set ?_ GE130.out | refine below_set ?_ GE132.out) | exact HB.out)) hb); clear BK130; clear BK132; clear HB; have BK130 := n0_; have BK132 := n1_; have HB := n2_; clear n0_ n1_ n2_; (try clear hb); (try clear hb2); (try clear hk); (try clear hi)))
                        go_ret
                        exact ⟨by first | rfl | (simp [errW_none, errW_some] <;> rfl) | (simp [*, errW_none, errW_some] <;> rfl), by repeat (first | (with_reducible first | exact HB.out | apply below_alloc | apply pw_below_drewN | apply below_drew1 | refine below_set ?_ GE130.out | refine below_set ?_ GE132.out) | exact HB.out)⟩
                · rw [if_neg c22] at H
                  have c22b0 : ((rd_T32 l0_1 x3_1).f3) = false := by simpa using c22
                  clear c22
                  by_cases c38 : ((rd_T32 l0_1 x3_1).f4) = 0
                  · rw [if_pos c38] at H
                    have c38b0 : (((rd_T32 l0_1 x3_1).f4) == 0) = true := beq_iff_eq.mpr c38
                    have c38b1 : (((rd_T32 l0_1 x3_1).f4) != 0) = false := bne_eq_false_iff_eq.mpr c38
                    clear c38
                    by_cases c39 : (!(((rd_T32 l0_1 x3_1).f5.f0) == 0) || (!(((rd_T32 l0_1 x3_1).f5.f1) == 0))) = true
                    · rw [if_pos c39] at H
                      have c39b0 : (!(((rd_T32 l0_1 x3_1).f5.f0) == 0) || (!(((rd_T32 l0_1 x3_1).f5.f1) == 0))) = true := c39
                      clear c39
                      obtain rfl := Option.some.inj H
                      have hnb40 := NB132_130.out
                      have hnc40 := NB130_132.out
                      have hcz41_0 : wc.cell? ⟨gb132, 0, none⟩ = some (.int .i64 ((rd_T32 l0_1 x3_1).f0)) := (blk_cell BK132.out 0).trans rfl
                      have hcz41_1 : wc.cell? ⟨gb132, 1, none⟩ = some (.int .i64 ((rd_T32 l0_1 x3_1).f1)) := (blk_cell BK132.out 1).trans rfl
                      have hcz41_2 : wc.cell? ⟨gb132, 2, none⟩ = some (.int .i64 ((rd_T32 l0_1 x3_1).f2)) := (blk_cell BK132.out 2).trans rfl
                      have hcz41_3 : wc.cell? ⟨gb132, 3, none⟩ = some (.bool ((rd_T32 l0_1 x3_1).f3)) := (blk_cell BK132.out 3).trans rfl
                      have hcz41_4 : wc.cell? ⟨gb132, 4, none⟩ = some (.int .i64 ((rd_T32 l0_1 x3_1).f4)) := (blk_cell BK132.out 4).trans rfl
                      have hcz41_5 : wc.cell? ⟨gb132, 5, none⟩ = some (.int .i64 ((rd_T32 l0_1 x3_1).f5.f0)) := (blk_cell BK132.out 5).trans rfl
                      have hcz41_6 : wc.cell? ⟨gb132, 6, none⟩ = some (.int .i64 ((rd_T32 l0_1 x3_1).f5.f1)) := (blk_cell BK132.out 6).trans rfl
                      have hfz41_0 := blk_frozen BK132.out 0
                      have hfz41_1 := blk_frozen BK132.out 1
                      have hfz41_2 := blk_frozen BK132.out 2
                      have hfz41_3 := blk_frozen BK132.out 3
                      have hfz41_4 := blk_frozen BK132.out 4
                      have hfz41_5 := blk_frozen BK132.out 5
                      have hfz41_6 := blk_frozen BK132.out 6
                      go_wp2
                      go_ret
                      exact ⟨by first | rfl | (simp [errW_none, errW_some] <;> rfl) | (simp [*, errW_none, errW_some] <;> rfl), by repeat (first | (with_reducible first | exact HB.out | apply below_alloc | apply pw_below_drewN | apply below_drew1 | refine below_set ?_ GE130.out | refine below_set ?_ GE132.out) | exact HB.out)⟩
                    · rw [if_neg c39] at H
                      have c39b0 : (!(((rd_T32 l0_1 x3_1).f5.f0) == 0) || (!(((rd_T32 l0_1 x3_1).f5.f1) == 0))) = false := by simpa using c39
                      clear c39
                      have H' := Aside0.mk H
                      clear H
                      have hnb42 := NB132_130.out
                      have hnc42 := NB130_132.out
                      have hcz43_0 : wc.cell? ⟨gb132, 0, none⟩ = some (.int .i64 ((rd_T32 l0_1 x3_1).f0)) := (blk_cell BK132.out 0).trans rfl
                      have hcz43_1 : wc.cell? ⟨gb132, 1, none⟩ = some (.int .i64 ((rd_T32 l0_1 x3_1).f1)) := (blk_cell BK132.out 1).trans rfl
                      have hcz43_2 : wc.cell? ⟨gb132, 2, none⟩ = some (.int .i64 ((rd_T32 l0_1 x3_1).f2)) := (blk_cell BK132.out 2).trans rfl
                      have hcz43_3 : wc.cell? ⟨gb132, 3, none⟩ = some (.bool ((rd_T32 l0_1 x3_1).f3)) := (blk_cell BK132.out 3).trans rfl
                      have hcz43_4 : wc.cell? ⟨gb132, 4, none⟩ = some (.int .i64 ((rd_T32 l0_1 x3_1).f4)) := (blk_cell BK132.out 4).trans rfl
                      have hcz43_5 : wc.cell? ⟨gb132, 5, none⟩ = some (.int .i64 ((rd_T32 l0_1 x3_1).f5.f0)) := (blk_cell BK132.out 5).trans rfl
                      have hcz43_6 : wc.cell? ⟨gb132, 6, none⟩ = some (.int .i64 ((rd_T32 l0_1 x3_1).f5.f1)) := (blk_cell BK132.out 6).trans rfl
                      have hfz43_0 := blk_frozen BK132.out 0
                      have hfz43_1 := blk_frozen BK132.out 1
                      have hfz43_2 := blk_frozen BK132.out 2
                      have hfz43_3 := blk_frozen BK132.out 3
                      have hfz43_4 := blk_frozen BK132.out 4
                      have hfz43_5 := blk_frozen BK132.out 5
                      have hfz43_6 := blk_frozen BK132.out 6
                      go_wp2
                      go_roundg kj4
                      case measure => have := HK1.out; have := HJ4.out; omega
                      case rel => exact ⟨(wrap64 (x3_1 + 1)), (by first | rfl | (simp; done) | (simp [*]; done)), H', ⟨by have := HK1.out; have := HJ4.out; omega⟩, ⟨by (with_reducible repeat (first | refine blk_drewN ?_ _ | refine blk_drew ?_ | refine blk_alloc ?_ _)); exact BK130.out⟩, ⟨by repeat (first | (with_reducible first | exact HB.out | apply below_alloc | apply pw_below_drewN | apply below_drew1 | refine below_set ?_ GE130.out | refine below_set ?_ GE132.out) | exact HB.out)⟩⟩
                  · rw [if_neg c38] at H
                    have c38b0 : (((rd_T32 l0_1 x3_1).f4) == 0) = false := beq_eq_false_iff_ne.mpr c38
                    have c38b1 : (((rd_T32 l0_1 x3_1).f4) != 0) = true := bne_iff_ne.mpr c38
                    obtain rfl := Option.some.inj H
                    have hnb44 := NB132_130.out
                    have hnc44 := NB130_132.out
                    have hcz45_0 : wc.cell? ⟨gb132, 0, none⟩ = some (.int .i64 ((rd_T32 l0_1 x3_1).f0)) := (blk_cell BK132.out 0).trans rfl
                    have hcz45_1 : wc.cell? ⟨gb132, 1, none⟩ = some (.int .i64 ((rd_T32 l0_1 x3_1).f1)) := (blk_cell BK132.out 1).trans rfl
                    have hcz45_2 : wc.cell? ⟨gb132, 2, none⟩ = some (.int .i64 ((rd_T32 l0_1 x3_1).f2)) := (blk_cell BK132.out 2).trans rfl
                    have hcz45_3 : wc.cell? ⟨gb132, 3, none⟩ = some (.bool ((rd_T32 l0_1 x3_1).f3)) := (blk_cell BK132.out 3).trans rfl
                    have hcz45_4 : wc.cell? ⟨gb132, 4, none⟩ = some (.int .i64 ((rd_T32 l0_1 x3_1).f4)) := (blk_cell BK132.out 4).trans rfl
                    have hcz45_5 : wc.cell? ⟨gb132, 5, none⟩ = some (.int .i64 ((rd_T32 l0_1 x3_1).f5.f0)) := (blk_cell BK132.out 5).trans rfl
                    have hcz45_6 : wc.cell? ⟨gb132, 6, none⟩ = some (.int .i64 ((rd_T32 l0_1 x3_1).f5.f1)) := (blk_cell BK132.out 6).trans rfl
                    have hfz45_0 := blk_frozen BK132.out 0
                    have hfz45_1 := blk_frozen BK132.out 1
                    have hfz45_2 := blk_frozen BK132.out 2
                    have hfz45_3 := blk_frozen BK132.out 3
                    have hfz45_4 := blk_frozen BK132.out 4
                    have hfz45_5 := blk_frozen BK132.out 5
                    have hfz45_6 := blk_frozen BK132.out 6
                    go_wp2
                    go_ret
                    exact ⟨by first | rfl | (simp [errW_none, errW_some] <;> rfl) | (simp [*, errW_none, errW_some] <;> rfl), by repeat (first | (with_reducible first | exact HB.out | apply below_alloc | apply pw_below_drewN | apply below_drew1 | refine below_set ?_ GE130.out | refine below_set ?_ GE132.out) | exact HB.out)⟩
        · rw [if_neg c4] at H
          exact absurd H (by simp)
      · rw [if_neg c3] at H
        have c3b0 : decide (x3_1 < (l0_1.length : Int)) = false := decide_eq_false c3
        clear c3
        obtain rfl := Option.some.inj H
        have hcz46_0 : wr.cell? ⟨gb130, 0, none⟩ = some (.string a0_0) := (blk_cell BK130.out 0).trans rfl
        have hcz46_1 : wr.cell? ⟨gb130, 1, none⟩ = some (.slice A0_1 l0_1.length c0_1) := (blk_cell BK130.out 1).trans rfl
        have hfz46_0 := blk_frozen BK130.out 0
        have hfz46_1 := blk_frozen BK130.out 1
        go_wp2
        go_ret
        exact ⟨by first | rfl | (simp [errW_none, errW_some] <;> rfl) | (simp [*, errW_none, errW_some] <;> rfl), by repeat (first | (with_reducible first | exact HB.out | apply below_alloc | apply pw_below_drewN | apply below_drew1 | refine below_set ?_ GE130.out) | exact HB.out)⟩
end Go.Proofs.YtmajmolbjiahlaaGreatDoor.PD
namespace Go.Proofs.YtmajmolbjiahlaaGreatDoor.PD
open Go.RowKit Go.Proofs.YtmajmolbjiahlaaGreatDoorW.PrintWords Go.Proofs.YtmajmolbjiahlaaGreatDoorW.PrintLast Go.Proofs.YtmajmolbjiahlaaGreatDoorW.PrintMore
set_option linter.unusedVariables false
set_option linter.unusedSimpArgs false
theorem partsR (t : Int) (h0 : -900000000000 ≤ t) (h1 : t ≤ 900000000000) : almanacref10_Parts.f t = some (t / 86400, t % 86400) := by
  obtain ⟨hp, hn⟩ := tdm t
  unfold almanacref10_Parts.f
  rcases Int.lt_or_le t 0 with h | h
  · obtain ⟨e1, e2⟩ := hn h
    rw [e1, e2, show wrap64 (-((-t) / 86400)) = -((-t) / 86400) from w64 (by omega) (by omega)]
    by_cases hz : -((-t) % 86400) < 0
    · rw [if_pos hz, w64 (by omega) (by omega), w64 (by omega) (by omega)]
      refine congrArg some (Prod.ext ?_ ?_)
      · show _ = _; simp only []; omega
      · show _ = _; simp only []; omega
    · rw [if_neg hz]
      refine congrArg some (Prod.ext ?_ ?_)
      · show _ = _; simp only []; omega
      · show _ = _; simp only []; omega
  · obtain ⟨e1, e2⟩ := hp h
    rw [e1, e2, if_neg (by omega), w64 (by omega) (by omega)]
def firstO (utc : Int) (l : List Int) : Int × Bool := match l.find? (fun t => decide (t ≤ utc)) with | some t => (t, true) | none => (0, false)
theorem firstO_hit (utc t : Int) (r : List Int) (h : t ≤ utc) : firstO utc (t :: r) = (t, true) := by
  unfold firstO; rw [List.find?_cons_of_pos (by simpa using h)]
theorem firstO_miss (utc t : Int) (r : List Int) (h : ¬ t ≤ utc) : firstO utc (t :: r) = firstO utc r := by
  unfold firstO; rw [List.find?_cons_of_neg (by simpa using h)]
theorem latest_loop (o : S32) (utc : Int) (hn : -1000 ≤ o.f5.f0 ∧ o.f5.f0 ≤ 1000) (hd : 0 ≤ o.f5.f1 ∧ o.f5.f1 ≤ 6) (hy : o.f3 = true) (h1 : -86400 < o.f1 ∧ o.f1 < 86400) (h0 : -62135596800 ≤ o.f0 ∧ o.f0 ≤ 253402300799) (hf : o.f0 - o.f1 ≤ utc) (s : Int) (hs : 0 ≤ s ∧ s < 86400) :
    ∀ y : Nat, y ≤ 9999 → Ev (fun k => almanacref16_latest.l0 k utc (o.f0 - o.f1) (y : Int) s o.f0 o.f1 o.f2 o.f3 o.f4 o.f5.f0 o.f5.f1) (firstO utc (onsL o s y)) := by
  intro y
  induction y with
  | zero =>
    intro _
    have : onsL o s 0 = [o.f0 - o.f1] := rfl
    rw [this, firstO_hit utc _ _ hf]
    exact Ev.step (f := fun _ => some (o.f0 - o.f1, true)) (fun k => by simp only [almanacref16_latest.l0]; rw [if_neg (by omega)]) (Ev.now _)
  | succ y ih =>
    intro hle
    have ihy := ih (by omega)
    have hc : ((y + 1 : Nat) : Int) = (y : Int) + 1 := by omega
    have hwy : Aside0 (wrap64 (((y + 1 : Nat) : Int) - 1) = (y : Int)) := ⟨by rw [w64 (by omega) (by omega)]; omega⟩
    refine Ev.step (f := fun k => (almanacref15_Nth.f k ((y + 1 : Nat) : Int) o.f4 o.f5.f0 o.f5.f1).bind fun bt163 => (if bt163.2 = true then (almanacref16_latest.j2 k utc (o.f0 - o.f1) ((y + 1 : Nat) : Int) s bt163.2 (wrap64 ((wrap64 (bt163.1 * 86400)) + s)) (decide ((wrap64 ((wrap64 (bt163.1 * 86400)) + s)) ≤ o.f0)) o.f0 o.f1 o.f2 o.f3 o.f4 o.f5.f0 o.f5.f1) else (almanacref16_latest.j2 k utc (o.f0 - o.f1) ((y + 1 : Nat) : Int) s bt163.2 (wrap64 ((wrap64 (bt163.1 * 86400)) + s)) false o.f0 o.f1 o.f2 o.f3 o.f4 o.f5.f0 o.f5.f1))) (fun k => by simp only [almanacref16_latest.l0]; rw [if_pos (by omega)]) ?_
    refine Ev.bind (nthR ((y + 1 : Nat) : Int) o.f4 o.f5.f0 o.f5.f1 hn hd) ?_
    have hr := nthP_range ((y : Int) + 1) o.f4 o.f5.f0 o.f5.f1
    have hL : onsL o s (y + 1) = if (nthP ((y : Int) + 1) o.f4 o.f5.f0 o.f5.f1).2 = true then (if (nthP ((y : Int) + 1) o.f4 o.f5.f0 o.f5.f1).1 * 86400 + s ≤ o.f0 then [o.f0 - o.f1] else ((nthP ((y : Int) + 1) o.f4 o.f5.f0 o.f5.f1).1 * 86400 + s - o.f1) :: onsL o s y) else onsL o s y := by
      show (if o.f3 = true then _ else _) = _
      rw [if_pos hy]
    rw [hL, hc]
    rw [hc] at hwy
    obtain ⟨⟨n, ok⟩, hnth⟩ : ∃ p, nthP ((y : Int) + 1) o.f4 o.f5.f0 o.f5.f1 = p := ⟨_, rfl⟩
    rw [hnth] at hr ⊢
    simp only at hr ⊢
    have hw1 : Aside0 (wrap64 ((wrap64 (n * 86400)) + s) = n * 86400 + s) := ⟨by rw [w64 (a := n * 86400) (by omega) (by omega), w64 (by omega) (by omega)]⟩
    rw [hw1.out]
    cases ok with
    | true =>
      rw [if_pos rfl]
      refine Ev.congr (fun k => if_pos rfl) ?_
      by_cases ht : n * 86400 + s ≤ o.f0
      · rw [if_pos ht, firstO_hit utc _ _ hf]
        refine Ev.step (f := fun _ => some (o.f0 - o.f1, true)) (fun k => by simp only [almanacref16_latest.j2]; rw [if_pos (decide_eq_true ht)]) (Ev.now _)
      · rw [if_neg ht]
        have hw2 : Aside0 (wrap64 (n * 86400 + s - o.f1) = n * 86400 + s - o.f1) := ⟨w64 (by omega) (by omega)⟩
        by_cases hu : n * 86400 + s - o.f1 ≤ utc
        · rw [firstO_hit utc _ _ hu]
          refine Ev.step (f := fun _ => some (n * 86400 + s - o.f1, true)) (fun k => by simp only [almanacref16_latest.j2]; rw [if_neg (by simpa using ht), if_pos (by trivial), hw2.out, if_pos hu]) (Ev.now _)
        · rw [firstO_miss utc _ _ hu]
          exact Ev.step (fun k => by simp only [almanacref16_latest.j2]; rw [if_neg (by simpa using ht), if_pos (by trivial), hw2.out, if_neg hu, hwy.out]) ihy
    | false =>
      rw [if_neg (by simp)]
      refine Ev.congr (fun k => if_neg (by simp)) ?_
      exact Ev.step (fun k => by simp only [almanacref16_latest.j2]; rw [if_neg (by simp), if_neg (by simp), hwy.out]) ihy
theorem fitO_parts (o : S32) (h : fitO o = true) : (-62135596800 ≤ o.f0 ∧ o.f0 ≤ 253402300799) ∧ (-86400 < o.f1 ∧ o.f1 < 86400) ∧ (-86400 < o.f2 ∧ o.f2 < 86400) ∧ (o.f3 = true → (-1000 ≤ o.f5.f0 ∧ o.f5.f0 ≤ 1000) ∧ (0 ≤ o.f5.f1 ∧ o.f5.f1 ≤ 6)) := by
  unfold fitO againO winO numO inO at h
  simp only [Bool.and_eq_true, decide_eq_true_eq] at h
  obtain ⟨⟨⟨ha, h1⟩, h2⟩, h3⟩ := h
  refine ⟨h3, by omega, by omega, fun hy => ?_⟩
  rw [if_pos hy] at ha
  simp only [Bool.and_eq_true, decide_eq_true_eq, Bool.not_eq_true', decide_eq_false_iff_not] at ha
  omega
theorem latestR (o : S32) (utc : Int) (ho : fitO o = true) (hu : inO utc = true) : Ev (fun k => almanacref16_latest.f k o.f0 o.f1 o.f2 o.f3 o.f4 o.f5.f0 o.f5.f1 utc) (onsetP o utc) := by
  obtain ⟨h0, h1, h2, h3⟩ := fitO_parts o ho
  have hu' : -62135596800 ≤ utc ∧ utc ≤ 253402300799 := by unfold inO at hu; simpa using hu
  have hw : Aside0 (wrap64 (o.f0 - o.f1) = o.f0 - o.f1) := ⟨w64 (by omega) (by omega)⟩
  unfold onsetP
  by_cases hc : utc < o.f0 - o.f1
  · rw [if_pos hc]
    exact Ev.congr (fun k => by unfold almanacref16_latest.f; rw [hw.out, if_pos hc]) (Ev.now _)
  · rw [if_neg hc]
    show Ev _ (firstO utc (onsL o (o.f0 % 86400) (yearO utc)))
    by_cases hy : o.f3 = true
    · have hw2 : Aside0 (wrap64 (utc + 172800) = utc + 172800) := ⟨w64 (by omega) (by omega)⟩
      refine Ev.congr (f := fun k => (almanacref10_Civil.f k ((utc + 172800) / 86400)).bind fun bt157 => (if bt157.2.2.2 = true then (almanacref16_latest.j0 k utc (o.f0 - o.f1) bt157.1 o.f0 o.f1 o.f2 o.f3 o.f4 o.f5.f0 o.f5.f1) else (almanacref16_latest.j0 k utc (o.f0 - o.f1) 9999 o.f0 o.f1 o.f2 o.f3 o.f4 o.f5.f0 o.f5.f1))) (fun k => by
        unfold almanacref16_latest.f
        rw [hw.out, if_neg hc, if_pos hy, hw2.out, partsR _ (by omega) (by omega)]
        rfl) ?_
      refine Ev.bind (civilR _) ?_
      have hyr := civP_year ((utc + 172800) / 86400)
      have key : ∀ y : Nat, y ≤ 9999 → Ev (fun k => almanacref16_latest.j0 k utc (o.f0 - o.f1) (y : Int) o.f0 o.f1 o.f2 o.f3 o.f4 o.f5.f0 o.f5.f1) (firstO utc (onsL o (o.f0 % 86400) y)) := by
        intro y hy9
        refine Ev.step (fun k => by simp only [almanacref16_latest.j0]; rw [partsR _ (by omega) (by omega), Option.bind_some]) (latest_loop o utc (h3 hy).1 (h3 hy).2 hy h1 h0 (by omega) (o.f0 % 86400) (by omega) y hy9)
      unfold yearO
      obtain ⟨⟨yy, mm, dd, ok⟩, hciv⟩ : ∃ p, civP ((utc + 172800) / 86400) = p := ⟨_, rfl⟩
      rw [hciv] at hyr ⊢
      simp only at hyr ⊢
      cases ok with
      | true =>
        have := hyr rfl
        refine Ev.congr (fun k => if_pos rfl) ?_
        rw [if_pos rfl]
        have hk := key yy.toNat (by omega)
        rwa [show ((yy.toNat : Nat) : Int) = yy by omega] at hk
      | false =>
        refine Ev.congr (fun k => if_neg (by simp)) ?_
        rw [if_neg (by simp)]
        exact key 9999 (by omega)
    · rw [onsL_plain o _ _ (by simpa using hy), firstO_hit utc _ _ (by omega)]
      exact Ev.congr (fun k => by unfold almanacref16_latest.f; rw [hw.out, if_neg hc, if_neg hy]) (Ev.now _)
theorem lessR (a : Int) : almanacref16_less.f a = some (winO a 86400) := by
  unfold almanacref16_less.f winO
  by_cases h : -86400 < a
  · have h' : a > -86400 := h
    simp [h']
  · have h' : ¬ a > -86400 := h
    simp [h, h']
theorem inR (a : Int) : almanacref10_In.f a = some (inO a) := by
  unfold inO almanacref10_In.f
  by_cases h : a ≥ -62135596800
  · have h' : -62135596800 ≤ a := h
    simp [h, h']
  · have h' : ¬ -62135596800 ≤ a := h
    simp [h']
theorem nthOk (a b : Int) : almanacref16_nth.f a b = some (numO a b) := by
  unfold almanacref16_nth.f numO
  by_cases h0 : a = 0
  · simp [h0]
  · by_cases h1 : -5 ≤ a
    · by_cases h2 : a ≤ 5
      · have e1 : -6 < a := by omega
        have e2 : a < 6 := by omega
        have g1 : a ≥ -5 := h1
        by_cases h3 : 0 ≤ b
        · have g2 : b ≥ 0 := h3
          simp [h0, h2, e1, e2, h3, g1]
        · have g2 : ¬ b ≥ 0 := h3
          simp [h0, h2, e1, e2, h3, g1]
      · have e2 : ¬ a < 6 := by omega
        simp [h0, h2, e2]
    · have e1 : ¬ -6 < a := by omega
      have g1 : ¬ a ≥ -5 := h1
      simp [h0, e1, g1]
theorem rd_atO {l : List S32} {i : Nat} (h : i < l.length) : rd_T32 l (i : Int) = l[i] := by simp only [rd_T32, Int.toNat_natCast]; simp [h]
theorem fit_step (nm : ByteArray) (l : List S32) (hb : l.length < 4398046511104) (i : Nat) (hi : i < l.length) (k : Nat) :
    almanacref16_Fit.l0 (k + 2) (i : Int) nm l = if fitO l[i] = true then almanacref16_Fit.l0 k ((i + 1 : Nat) : Int) nm l else some false := by
  obtain ⟨o, ho⟩ : ∃ o, l[i] = o := ⟨_, rfl⟩
  have hw : Aside0 (wrap64 ((i : Int) + 1) = ((i + 1 : Nat) : Int)) := ⟨w64n (by omega)⟩
  have hj : ∀ b : Bool, almanacref16_Fit.j1 (k + 1) (i : Int) b nm l o.f0 o.f1 o.f2 o.f3 o.f4 o.f5.f0 o.f5.f1 = if b = true then some false else if againO o = true then almanacref16_Fit.l0 k ((i + 1 : Nat) : Int) nm l else some false := by
    intro b
    simp only [almanacref16_Fit.j1]
    rw [hw.out, nthOk]
    cases b with
    | true => rfl
    | false =>
      rw [if_neg (show ¬ (false = true) by simp), if_neg (show ¬ (false = true) by simp)]
      unfold againO
      by_cases h3 : o.f3 = true
      · rw [if_pos h3, if_pos h3]
        by_cases h1 : o.f4 < 1
        · rw [if_pos h1, if_neg (by simp; omega)]
        · by_cases h2 : o.f4 > 12
          · rw [if_neg h1, if_pos h2, if_neg (by simp; omega)]
          · rw [if_neg h1, if_neg h2, Option.bind_some, decide_eq_true (show 1 ≤ o.f4 by omega), decide_eq_true (show o.f4 ≤ 12 by omega)]
            rfl
      · rw [if_neg h3, if_neg h3]
        by_cases h4 : o.f4 = 0
        · rw [if_pos h4, decide_eq_true h4]
          have e : ∀ a b : Int, (a == b) = decide (a = b) := fun a b => by rw [Bool.eq_iff_iff]; simp
          rw [e, e]
          cases decide (o.f5.f0 = 0) <;> cases decide (o.f5.f1 = 0) <;> rfl
        · rw [if_neg h4, decide_eq_false h4]
          rfl
  simp only [almanacref16_Fit.l0]
  rw [if_pos (by omega), if_pos (by omega), rd_atO hi, ho, lessR, lessR, inR]
  simp only [Option.bind_some, hj]
  unfold fitO
  cases winO o.f1 86400 <;> cases winO o.f2 86400 <;> cases inO o.f0 <;> cases againO o <;> simp
theorem Ev.skip {α : Type} {g f : Nat → Option α} {r : α} (h : ∀ k, g (k + 2) = f k) (hf : Ev f r) : Ev g r := by
  obtain ⟨K, hK⟩ := hf
  exact ⟨K + 2, fun k hk => by obtain ⟨j, rfl⟩ : ∃ j, k = j + 2 := ⟨k - 2, by omega⟩; rw [h]; exact hK j (by omega)⟩
theorem fit_loop (nm : ByteArray) (l : List S32) (hb : l.length < 4398046511104) : ∀ d i : Nat, l.length - i = d → i ≤ l.length → Ev (fun k => almanacref16_Fit.l0 k (i : Int) nm l) (decide (l.length ≤ 16) && (l.drop i).all fitO) := by
  intro d
  induction d with
  | zero =>
    intro i hd hi
    rw [List.drop_eq_nil_of_le (by omega), List.all_nil, Bool.and_true]
    refine Ev.step (f := fun _ => some (decide (l.length ≤ 16))) (fun k => by
      simp only [almanacref16_Fit.l0]
      rw [if_neg (by omega)]
      refine congrArg some ?_
      rw [Bool.eq_iff_iff, decide_eq_true_iff, decide_eq_true_iff]
      omega) (Ev.now _)
  | succ d ih =>
    intro i hd hi
    have h1 : i < l.length := by omega
    rw [List.drop_eq_getElem_cons h1, List.all_cons]
    refine Ev.skip (fun k => fit_step nm l hb i h1 k) ?_
    by_cases h : fitO l[i] = true
    · rw [h, Bool.true_and]
      exact Ev.congr (fun k => if_pos rfl) (ih (i + 1) (by omega) (by omega))
    · have h' : fitO l[i] = false := by simpa using h
      rw [h', Bool.false_and, Bool.and_false]
      exact Ev.congr (fun k => if_neg (by simp)) (Ev.now _)
theorem fitZ_all (l : List S32) : fitZ l = (decide (l.length ≤ 16) && l.all fitO) := by
  unfold fitZ
  congr 1
  rw [Bool.eq_iff_iff]
  simp
theorem fitR (nm : ByteArray) (l : List S32) (hb : l.length < 4398046511104) : Ev (fun k => almanacref16_Fit.f k nm l) (fitZ l) := by
  rw [fitZ_all]
  exact Ev.congr (fun k => rfl) (fit_loop nm l hb _ 0 rfl (Nat.zero_le _))
end Go.Proofs.YtmajmolbjiahlaaGreatDoor.PD
