/- The example of chapter 4 comes to true. -/
import Derived.Test.YtihnifpcpokpjaaAlBase1
import Derived.KernelRfl
-- written by a program of this work (mk.sh, over the kit's print; stubs are proved by hand)
namespace Go.Proofs.Ytihnifpcpokpjaa.PD
open Go.RowKit Go.Proofs.YtihnifpcpokpjaaW.PrintWords Go.Proofs.YtihnifpcpokpjaaW.PrintLast Go.Proofs.YtihnifpcpokpjaaW.PrintMore
attribute [local go_sem] isSome_setCell max2_int min2_int max_two min_two max_three min_three max_four min_four   -- for this text's walks alone
set_option linter.unusedVariables false
set_option linter.unusedSimpArgs false

/-! ### almanaclaw04_awake: function 7 -/
def almanaclaw04_awake.j0 : Nat → List ByteArray → Bool → Option (Bool)
  | 0, _, _ => none
  | k + 1, x1, x23 => if x23 = true then (some false) else ((alloc_Take.f x1 2).bind fun bt305 => ((alloc_Give.f bt305.1 (([4] : List Int))).bind fun bt315 => ((alloc_Take.f bt315.1 1).bind fun bt319 => ((alloc_Give.f x1 (([2] : List Int))).bind fun bt329 => ((alloc_Inodes.f x1).bind fun t333 => (if t333 = 4 then ((alloc_First.f x1).bind fun t334 => (if t334 = 3 then ((alloc_Free.f x1).bind fun t335 => (if t335 = 13 then (if bt305.2.2 = 0 then ((almanacref03_Ints.f k bt305.2.1 (([3, 4] : List Int))).bind fun t339 => (if t339 = true then (if bt315.2 = 0 then (if bt319.2.2 = 0 then ((almanacref03_Ints.f k bt319.2.1 (([4] : List Int))).bind fun t343 => (if t343 = true then (if bt329.2 = 15 then ((alloc_Taken.f x1 0).bind fun t344 => (if t344 = true then ((alloc_Taken.f x1 3).bind fun t345 => (some (!t345))) else (some false))) else (some false)) else (some false))) else (some false)) else (some false)) else (some false))) else (some false)) else (some false))) else (some false))) else (some false)))))))
def almanaclaw04_awake.f (k : Nat)  : Option (Bool) := (alloc_Make.f k 16).bind fun bt301 => (if bt301.2 = 0 then (almanaclaw04_awake.j0 k bt301.1 ((bt301.1.length : Int) != 16)) else (almanaclaw04_awake.j0 k bt301.1 true))
theorem almanaclaw04_awake.mono_l : ∀ k, (∀ y0 y1, LeO (almanaclaw04_awake.j0 k y0 y1) (almanaclaw04_awake.j0 (k + 1) y0 y1))
  | 0 => fun _ _ r h => by simp [almanaclaw04_awake.j0] at h
  | k + 1 => by
    have ih0 := almanaclaw04_awake.mono_l k
    · intro y0 y1
      unfold almanaclaw04_awake.j0
      repeat' first
      | (with_reducible exact ih0 _ _)
      | (with_reducible exact alloc_Make.mono _ _)
      | (with_reducible exact almanacref03_Ints.mono _ _ _)
      | (with_reducible exact LeO.refl _)
      | (with_reducible exact LeO.none _)
      | (with_reducible refine LeO.ite ?_ ?_)
      | (with_reducible refine LeO.bind ?_ (fun _ => ?_))
      | exact ih0 _ _
      | exact alloc_Make.mono _ _
      | exact almanacref03_Ints.mono _ _ _
      | exact LeO.none _
      | refine LeO.ite ?_ ?_
      | refine LeO.bind ?_ (fun _ => ?_)
theorem almanaclaw04_awake.mono : ∀ k, LeO (almanaclaw04_awake.f k ) (almanaclaw04_awake.f (k + 1) ) := by
  intro  k
  have ih0 := almanaclaw04_awake.mono_l k
  unfold almanaclaw04_awake.f
  repeat' first
      | (with_reducible exact ih0 _ _)
      | (with_reducible exact alloc_Make.mono _ _)
      | (with_reducible exact almanacref03_Ints.mono _ _ _)
      | (with_reducible exact LeO.refl _)
      | (with_reducible exact LeO.none _)
      | (with_reducible refine LeO.ite ?_ ?_)
      | (with_reducible refine LeO.bind ?_ (fun _ => ?_))
      | exact ih0 _ _
      | exact alloc_Make.mono _ _
      | exact almanacref03_Ints.mono _ _ _
      | exact LeO.none _
      | refine LeO.ite ?_ ?_
      | refine LeO.bind ?_ (fun _ => ?_)
set_option maxHeartbeats 8000000 in
set_option maxRecDepth 100000 in
theorem almanaclaw04_awake.callsT (k : Nat)  (r : Bool) (w : World) (h : almanaclaw04_awake.f k  = some r) (hr : r = true) :
    Calls Try.prog 7 #[] w fun e w' => e = .returned (.bool r) ∧ Below w.heap.size w w' := by
  have HRT := Aside0.mk hr
  clear hr
  have HB := Aside0.mk (Below.refl w.heap.size w)
  have H : ((alloc_Make.f k 16).bind fun bt301 => (if bt301.2 = 0 then (almanaclaw04_awake.j0 k bt301.1 ((bt301.1.length : Int) != 16)) else (almanaclaw04_awake.j0 k bt301.1 true))) = some r := h
  clear h
  replace H := Option.bind_eq_some_iff.mp H
  obtain ⟨⟨t301, t302⟩, A10, H⟩ := H
  replace H : (if t302 = 0 then (almanaclaw04_awake.j0 k t301 ((t301.length : Int) != 16)) else (almanaclaw04_awake.j0 k t301 true)) = some r := H
  have A1 := Aside0.mk A10
  clear A10
  have HC2 := Aside0.mk H
  clear H
  go_enter Try.func7, Try.ntmps7
  go_upto_region 2 with (first | ((with_reducible refine gate_callee (f := 23) rfl ?_); refine goesL_ (some 14) rfl rfl Try.func23 (by kernel_rfl) rfl #[.int .i64 16] rfl (by (try simp only [List.map_toArray, List.map_cons, List.map_nil]); first | done | rfl | (simp only [List.length_drop, List.length_take]; rfl)) ?_; (with_reducible refine (alloc_Make.calls k 16 t301 t302 _ A1.out).mono ?_); rintro e w3 ⟨v303, rfl, ho0, hb⟩; refine ⟨_, rfl, ?_⟩; have n0_ := Aside0.mk (Kd.R_lower ho0 (below_size (by repeat (first | (with_reducible first | exact HB.out | apply below_alloc | apply pw_below_drewN | apply below_drew1) | exact HB.out)))); have n1_ := Aside0.mk (below_step (by repeat (first | (with_reducible first | exact HB.out | apply below_alloc | apply pw_below_drewN | apply below_drew1) | exact HB.out)) hb); clear HB; have HO304 := n0_; have HB := n1_; clear n0_ n1_; (try clear hb); (try clear hb2); (try clear hk); (try clear hi); (try clear ho0)))
  (try simp only [Act.put, List.setIfInBounds_toArray, List.set_cons_zero, List.set_cons_succ])
  go_cut [23] (fun v23 wc => ∃ (kq : Nat) (x23_1 : Bool), v23 = .bool x23_1 ∧ Aside0 (almanaclaw04_awake.j0 kq t301 x23_1 = some r) ∧ Aside0 (kq ≤ k) ∧ Aside0 (Kd.R Kd.string 9 wc w.heap.size (fun _ => True) v303 t301) ∧ Aside0 (Below w.heap.size w wc))
  case first =>
    have H := HC2.out
    clear HC2
    by_cases c4 : t302 = 0
    · rw [if_pos c4] at H
      have c4b0 : (t302 == 0) = true := beq_iff_eq.mpr c4
      have c4b1 : (t302 != 0) = false := bne_eq_false_iff_eq.mpr c4
      clear c4
      (first | rw [c4b0] | (simp only [i64_w, i32_w]; rw [c4b0]) | skip)
      have H' := Aside0.mk H
      clear H
      obtain ⟨Ao5, co5, eo5⟩ := Kd.R_slice HO304.out
      subst eo5
      go_wp2
      go_meet
      case rel => exact ⟨_, (((t301.length : Int) != 16)), (by first | rfl | (simp; done) | (simp [*]; done)), H', ⟨by first | omega | exact Nat.le_refl _⟩, ⟨by (with_reducible repeat (first | apply Kd.R_alloc | apply Kd.R_drewN | apply Kd.R_drew)); exact HO304.out⟩, ⟨by repeat (first | (with_reducible first | exact HB.out | apply below_alloc | apply pw_below_drewN | apply below_drew1) | exact HB.out)⟩⟩
    · rw [if_neg c4] at H
      have c4b0 : (t302 == 0) = false := beq_eq_false_iff_ne.mpr c4
      have c4b1 : (t302 != 0) = true := bne_iff_ne.mpr c4
      (first | rw [c4b0] | (simp only [i64_w, i32_w]; rw [c4b0]) | skip)
      have H' := Aside0.mk H
      clear H
      go_wp2
      go_meet
      case rel => exact ⟨_, (true), (by first | rfl | (simp; done) | (simp [*]; done)), H', ⟨by first | omega | exact Nat.le_refl _⟩, ⟨by (with_reducible repeat (first | apply Kd.R_alloc | apply Kd.R_drewN | apply Kd.R_drew)); exact HO304.out⟩, ⟨by repeat (first | (with_reducible first | exact HB.out | apply below_alloc | apply pw_below_drewN | apply below_drew1) | exact HB.out)⟩⟩
  case rest =>
    clear HC2
    try clear c2
    try clear p2
    try clear c4
    try clear c4b0
    try clear c4b1
    obtain ⟨kq, x23_1, rfl, HA, HJ1, HO_1, HB⟩ := hcut
    cases kq with
    | zero => exact absurd HA.out (by simp [almanaclaw04_awake.j0])
    | succ kj1 =>
      have H := HA.out
      clear HA
      simp only [almanaclaw04_awake.j0] at H
      by_cases c6 : x23_1 = true
      · subst c6
        have H1 : (some false) = some r := by rw [if_pos rfl] at H; exact H
        clear H
        have H := H1
        clear H1
        exact absurd ((Option.some.inj H).trans HRT.out) (by decide)
      · replace c6 := Bool.eq_false_iff.mpr c6
        subst c6
        have H1 : ((alloc_Take.f t301 2).bind fun bt305 => ((alloc_Give.f bt305.1 (([4] : List Int))).bind fun bt315 => ((alloc_Take.f bt315.1 1).bind fun bt319 => ((alloc_Give.f t301 (([2] : List Int))).bind fun bt329 => ((alloc_Inodes.f t301).bind fun t333 => (if t333 = 4 then ((alloc_First.f t301).bind fun t334 => (if t334 = 3 then ((alloc_Free.f t301).bind fun t335 => (if t335 = 13 then (if bt305.2.2 = 0 then ((almanacref03_Ints.f kj1 bt305.2.1 (([3, 4] : List Int))).bind fun t339 => (if t339 = true then (if bt315.2 = 0 then (if bt319.2.2 = 0 then ((almanacref03_Ints.f kj1 bt319.2.1 (([4] : List Int))).bind fun t343 => (if t343 = true then (if bt329.2 = 15 then ((alloc_Taken.f t301 0).bind fun t344 => (if t344 = true then ((alloc_Taken.f t301 3).bind fun t345 => (some (!t345))) else (some false))) else (some false)) else (some false))) else (some false)) else (some false)) else (some false))) else (some false)) else (some false))) else (some false))) else (some false))))))) = some r := by rw [if_neg (show ¬ (false = true) by decide)] at H; exact H
        clear H
        have H := H1
        clear H1
        replace H := Option.bind_eq_some_iff.mp H
        obtain ⟨⟨t305, t306, t307⟩, A70, H⟩ := H
        replace H : ((alloc_Give.f t305 (([4] : List Int))).bind fun bt315 => ((alloc_Take.f bt315.1 1).bind fun bt319 => ((alloc_Give.f t301 (([2] : List Int))).bind fun bt329 => ((alloc_Inodes.f t301).bind fun t333 => (if t333 = 4 then ((alloc_First.f t301).bind fun t334 => (if t334 = 3 then ((alloc_Free.f t301).bind fun t335 => (if t335 = 13 then (if t307 = 0 then ((almanacref03_Ints.f kj1 t306 (([3, 4] : List Int))).bind fun t339 => (if t339 = true then (if bt315.2 = 0 then (if bt319.2.2 = 0 then ((almanacref03_Ints.f kj1 bt319.2.1 (([4] : List Int))).bind fun t343 => (if t343 = true then (if bt329.2 = 15 then ((alloc_Taken.f t301 0).bind fun t344 => (if t344 = true then ((alloc_Taken.f t301 3).bind fun t345 => (some (!t345))) else (some false))) else (some false)) else (some false))) else (some false)) else (some false)) else (some false))) else (some false)) else (some false))) else (some false))) else (some false)))))) = some r := H
        have A7 := Aside0.mk A70
        clear A70
        obtain ⟨y312, hy312⟩ : ∃ y_ : List Int, y_ = (([4] : List Int)) := ⟨_, rfl⟩
        replace H : ((alloc_Give.f t305 y312).bind fun bt315 => ((alloc_Take.f bt315.1 1).bind fun bt319 => ((alloc_Give.f t301 (([2] : List Int))).bind fun bt329 => ((alloc_Inodes.f t301).bind fun t333 => (if t333 = 4 then ((alloc_First.f t301).bind fun t334 => (if t334 = 3 then ((alloc_Free.f t301).bind fun t335 => (if t335 = 13 then (if t307 = 0 then ((almanacref03_Ints.f kj1 t306 (([3, 4] : List Int))).bind fun t339 => (if t339 = true then (if bt315.2 = 0 then (if bt319.2.2 = 0 then ((almanacref03_Ints.f kj1 bt319.2.1 (([4] : List Int))).bind fun t343 => (if t343 = true then (if bt329.2 = 15 then ((alloc_Taken.f t301 0).bind fun t344 => (if t344 = true then ((alloc_Taken.f t301 3).bind fun t345 => (some (!t345))) else (some false))) else (some false)) else (some false))) else (some false)) else (some false)) else (some false))) else (some false)) else (some false))) else (some false))) else (some false)))))) = some r := by first | (rw [hy312]; with_reducible exact H) | (have H2_ := (Option.bind_some _ _).symm.trans H; rw [hy312]; with_reducible exact H2_) | (have H2_ := (Option.bind_some _ _).symm.trans H; with_reducible exact H2_) | with_reducible exact H | (rw [hy312]; exact H) | exact H
        have Ny312 := Aside0.mk hy312
        clear hy312
        replace H := Option.bind_eq_some_iff.mp H
        obtain ⟨⟨t315, t316⟩, A80, H⟩ := H
        replace H : ((alloc_Take.f t315 1).bind fun bt319 => ((alloc_Give.f t301 (([2] : List Int))).bind fun bt329 => ((alloc_Inodes.f t301).bind fun t333 => (if t333 = 4 then ((alloc_First.f t301).bind fun t334 => (if t334 = 3 then ((alloc_Free.f t301).bind fun t335 => (if t335 = 13 then (if t307 = 0 then ((almanacref03_Ints.f kj1 t306 (([3, 4] : List Int))).bind fun t339 => (if t339 = true then (if t316 = 0 then (if bt319.2.2 = 0 then ((almanacref03_Ints.f kj1 bt319.2.1 (([4] : List Int))).bind fun t343 => (if t343 = true then (if bt329.2 = 15 then ((alloc_Taken.f t301 0).bind fun t344 => (if t344 = true then ((alloc_Taken.f t301 3).bind fun t345 => (some (!t345))) else (some false))) else (some false)) else (some false))) else (some false)) else (some false)) else (some false))) else (some false)) else (some false))) else (some false))) else (some false))))) = some r := H
        have A8 := Aside0.mk A80
        clear A80
        replace H := Option.bind_eq_some_iff.mp H
        obtain ⟨⟨t319, t320, t321⟩, A90, H⟩ := H
        replace H : ((alloc_Give.f t301 (([2] : List Int))).bind fun bt329 => ((alloc_Inodes.f t301).bind fun t333 => (if t333 = 4 then ((alloc_First.f t301).bind fun t334 => (if t334 = 3 then ((alloc_Free.f t301).bind fun t335 => (if t335 = 13 then (if t307 = 0 then ((almanacref03_Ints.f kj1 t306 (([3, 4] : List Int))).bind fun t339 => (if t339 = true then (if t316 = 0 then (if t321 = 0 then ((almanacref03_Ints.f kj1 t320 (([4] : List Int))).bind fun t343 => (if t343 = true then (if bt329.2 = 15 then ((alloc_Taken.f t301 0).bind fun t344 => (if t344 = true then ((alloc_Taken.f t301 3).bind fun t345 => (some (!t345))) else (some false))) else (some false)) else (some false))) else (some false)) else (some false)) else (some false))) else (some false)) else (some false))) else (some false))) else (some false)))) = some r := H
        have A9 := Aside0.mk A90
        clear A90
        obtain ⟨y326, hy326⟩ : ∃ y_ : List Int, y_ = (([2] : List Int)) := ⟨_, rfl⟩
        replace H : ((alloc_Give.f t301 y326).bind fun bt329 => ((alloc_Inodes.f t301).bind fun t333 => (if t333 = 4 then ((alloc_First.f t301).bind fun t334 => (if t334 = 3 then ((alloc_Free.f t301).bind fun t335 => (if t335 = 13 then (if t307 = 0 then ((almanacref03_Ints.f kj1 t306 (([3, 4] : List Int))).bind fun t339 => (if t339 = true then (if t316 = 0 then (if t321 = 0 then ((almanacref03_Ints.f kj1 t320 (([4] : List Int))).bind fun t343 => (if t343 = true then (if bt329.2 = 15 then ((alloc_Taken.f t301 0).bind fun t344 => (if t344 = true then ((alloc_Taken.f t301 3).bind fun t345 => (some (!t345))) else (some false))) else (some false)) else (some false))) else (some false)) else (some false)) else (some false))) else (some false)) else (some false))) else (some false))) else (some false)))) = some r := by first | (rw [hy326]; with_reducible exact H) | (have H2_ := (Option.bind_some _ _).symm.trans H; rw [hy326]; with_reducible exact H2_) | (have H2_ := (Option.bind_some _ _).symm.trans H; with_reducible exact H2_) | with_reducible exact H | (rw [hy326]; exact H) | exact H
        have Ny326 := Aside0.mk hy326
        clear hy326
        replace H := Option.bind_eq_some_iff.mp H
        obtain ⟨⟨t329, t330⟩, A100, H⟩ := H
        replace H : ((alloc_Inodes.f t301).bind fun t333 => (if t333 = 4 then ((alloc_First.f t301).bind fun t334 => (if t334 = 3 then ((alloc_Free.f t301).bind fun t335 => (if t335 = 13 then (if t307 = 0 then ((almanacref03_Ints.f kj1 t306 (([3, 4] : List Int))).bind fun t339 => (if t339 = true then (if t316 = 0 then (if t321 = 0 then ((almanacref03_Ints.f kj1 t320 (([4] : List Int))).bind fun t343 => (if t343 = true then (if t330 = 15 then ((alloc_Taken.f t301 0).bind fun t344 => (if t344 = true then ((alloc_Taken.f t301 3).bind fun t345 => (some (!t345))) else (some false))) else (some false)) else (some false))) else (some false)) else (some false)) else (some false))) else (some false)) else (some false))) else (some false))) else (some false))) = some r := H
        have A10 := Aside0.mk A100
        clear A100
        replace H := Option.bind_eq_some_iff.mp H
        obtain ⟨t333, A110, H⟩ := H
        replace H : (if t333 = 4 then ((alloc_First.f t301).bind fun t334 => (if t334 = 3 then ((alloc_Free.f t301).bind fun t335 => (if t335 = 13 then (if t307 = 0 then ((almanacref03_Ints.f kj1 t306 (([3, 4] : List Int))).bind fun t339 => (if t339 = true then (if t316 = 0 then (if t321 = 0 then ((almanacref03_Ints.f kj1 t320 (([4] : List Int))).bind fun t343 => (if t343 = true then (if t330 = 15 then ((alloc_Taken.f t301 0).bind fun t344 => (if t344 = true then ((alloc_Taken.f t301 3).bind fun t345 => (some (!t345))) else (some false))) else (some false)) else (some false))) else (some false)) else (some false)) else (some false))) else (some false)) else (some false))) else (some false))) else (some false)) = some r := H
        have A11 := Aside0.mk A110
        clear A110
        by_cases c12 : t333 = 4
        · rw [if_pos c12] at H
          have c12b0 : (t333 == 4) = true := beq_iff_eq.mpr c12
          have c12b1 : (t333 != 4) = false := bne_eq_false_iff_eq.mpr c12
          clear c12
          replace H := Option.bind_eq_some_iff.mp H
          obtain ⟨t334, A130, H⟩ := H
          replace H : (if t334 = 3 then ((alloc_Free.f t301).bind fun t335 => (if t335 = 13 then (if t307 = 0 then ((almanacref03_Ints.f kj1 t306 (([3, 4] : List Int))).bind fun t339 => (if t339 = true then (if t316 = 0 then (if t321 = 0 then ((almanacref03_Ints.f kj1 t320 (([4] : List Int))).bind fun t343 => (if t343 = true then (if t330 = 15 then ((alloc_Taken.f t301 0).bind fun t344 => (if t344 = true then ((alloc_Taken.f t301 3).bind fun t345 => (some (!t345))) else (some false))) else (some false)) else (some false))) else (some false)) else (some false)) else (some false))) else (some false)) else (some false))) else (some false)) = some r := H
          have A13 := Aside0.mk A130
          clear A130
          by_cases c14 : t334 = 3
          · rw [if_pos c14] at H
            have c14b0 : (t334 == 3) = true := beq_iff_eq.mpr c14
            have c14b1 : (t334 != 3) = false := bne_eq_false_iff_eq.mpr c14
            clear c14
            replace H := Option.bind_eq_some_iff.mp H
            obtain ⟨t335, A150, H⟩ := H
            replace H : (if t335 = 13 then (if t307 = 0 then ((almanacref03_Ints.f kj1 t306 (([3, 4] : List Int))).bind fun t339 => (if t339 = true then (if t316 = 0 then (if t321 = 0 then ((almanacref03_Ints.f kj1 t320 (([4] : List Int))).bind fun t343 => (if t343 = true then (if t330 = 15 then ((alloc_Taken.f t301 0).bind fun t344 => (if t344 = true then ((alloc_Taken.f t301 3).bind fun t345 => (some (!t345))) else (some false))) else (some false)) else (some false))) else (some false)) else (some false)) else (some false))) else (some false)) else (some false)) = some r := H
            have A15 := Aside0.mk A150
            clear A150
            by_cases c16 : t335 = 13
            · rw [if_pos c16] at H
              have c16b0 : (t335 == 13) = true := beq_iff_eq.mpr c16
              have c16b1 : (t335 != 13) = false := bne_eq_false_iff_eq.mpr c16
              clear c16
              by_cases c17 : t307 = 0
              · rw [if_pos c17] at H
                have c17b0 : (t307 == 0) = true := beq_iff_eq.mpr c17
                have c17b1 : (t307 != 0) = false := bne_eq_false_iff_eq.mpr c17
                clear c17
                obtain ⟨y336, hy336⟩ : ∃ y_ : List Int, y_ = (([3, 4] : List Int)) := ⟨_, rfl⟩
                replace H : ((almanacref03_Ints.f kj1 t306 y336).bind fun t339 => (if t339 = true then (if t316 = 0 then (if t321 = 0 then ((almanacref03_Ints.f kj1 t320 (([4] : List Int))).bind fun t343 => (if t343 = true then (if t330 = 15 then ((alloc_Taken.f t301 0).bind fun t344 => (if t344 = true then ((alloc_Taken.f t301 3).bind fun t345 => (some (!t345))) else (some false))) else (some false)) else (some false))) else (some false)) else (some false)) else (some false))) = some r := by first | (rw [hy336]; with_reducible exact H) | (have H2_ := (Option.bind_some _ _).symm.trans H; rw [hy336]; with_reducible exact H2_) | (have H2_ := (Option.bind_some _ _).symm.trans H; with_reducible exact H2_) | with_reducible exact H | (rw [hy336]; exact H) | exact H
                have Ny336 := Aside0.mk hy336
                clear hy336
                replace H := Option.bind_eq_some_iff.mp H
                obtain ⟨t339, A180, H⟩ := H
                replace H : (if t339 = true then (if t316 = 0 then (if t321 = 0 then ((almanacref03_Ints.f kj1 t320 (([4] : List Int))).bind fun t343 => (if t343 = true then (if t330 = 15 then ((alloc_Taken.f t301 0).bind fun t344 => (if t344 = true then ((alloc_Taken.f t301 3).bind fun t345 => (some (!t345))) else (some false))) else (some false)) else (some false))) else (some false)) else (some false)) else (some false)) = some r := H
                have A18 := Aside0.mk A180
                clear A180
                by_cases c19 : t339 = true
                · subst c19
                  have H1 : (if t316 = 0 then (if t321 = 0 then ((almanacref03_Ints.f kj1 t320 (([4] : List Int))).bind fun t343 => (if t343 = true then (if t330 = 15 then ((alloc_Taken.f t301 0).bind fun t344 => (if t344 = true then ((alloc_Taken.f t301 3).bind fun t345 => (some (!t345))) else (some false))) else (some false)) else (some false))) else (some false)) else (some false)) = some r := by rw [if_pos rfl] at H; exact H
                  clear H
                  have H := H1
                  clear H1
                  by_cases c20 : t316 = 0
                  · rw [if_pos c20] at H
                    have c20b0 : (t316 == 0) = true := beq_iff_eq.mpr c20
                    have c20b1 : (t316 != 0) = false := bne_eq_false_iff_eq.mpr c20
                    clear c20
                    by_cases c21 : t321 = 0
                    · rw [if_pos c21] at H
                      have c21b0 : (t321 == 0) = true := beq_iff_eq.mpr c21
                      have c21b1 : (t321 != 0) = false := bne_eq_false_iff_eq.mpr c21
                      clear c21
                      obtain ⟨y340, hy340⟩ : ∃ y_ : List Int, y_ = (([4] : List Int)) := ⟨_, rfl⟩
                      replace H : ((almanacref03_Ints.f kj1 t320 y340).bind fun t343 => (if t343 = true then (if t330 = 15 then ((alloc_Taken.f t301 0).bind fun t344 => (if t344 = true then ((alloc_Taken.f t301 3).bind fun t345 => (some (!t345))) else (some false))) else (some false)) else (some false))) = some r := by first | (rw [hy340]; with_reducible exact H) | (have H2_ := (Option.bind_some _ _).symm.trans H; rw [hy340]; with_reducible exact H2_) | (have H2_ := (Option.bind_some _ _).symm.trans H; with_reducible exact H2_) | with_reducible exact H | (rw [hy340]; exact H) | exact H
                      have Ny340 := Aside0.mk hy340
                      clear hy340
                      replace H := Option.bind_eq_some_iff.mp H
                      obtain ⟨t343, A220, H⟩ := H
                      replace H : (if t343 = true then (if t330 = 15 then ((alloc_Taken.f t301 0).bind fun t344 => (if t344 = true then ((alloc_Taken.f t301 3).bind fun t345 => (some (!t345))) else (some false))) else (some false)) else (some false)) = some r := H
                      have A22 := Aside0.mk A220
                      clear A220
                      by_cases c23 : t343 = true
                      · subst c23
                        have H1 : (if t330 = 15 then ((alloc_Taken.f t301 0).bind fun t344 => (if t344 = true then ((alloc_Taken.f t301 3).bind fun t345 => (some (!t345))) else (some false))) else (some false)) = some r := by rw [if_pos rfl] at H; exact H
                        clear H
                        have H := H1
                        clear H1
                        by_cases c24 : t330 = 15
                        · rw [if_pos c24] at H
                          have c24b0 : (t330 == 15) = true := beq_iff_eq.mpr c24
                          have c24b1 : (t330 != 15) = false := bne_eq_false_iff_eq.mpr c24
                          clear c24
                          replace H := Option.bind_eq_some_iff.mp H
                          obtain ⟨t344, A250, H⟩ := H
                          replace H : (if t344 = true then ((alloc_Taken.f t301 3).bind fun t345 => (some (!t345))) else (some false)) = some r := H
                          have A25 := Aside0.mk A250
                          clear A250
                          by_cases c26 : t344 = true
                          · subst c26
                            have H1 : ((alloc_Taken.f t301 3).bind fun t345 => (some (!t345))) = some r := by rw [if_pos rfl] at H; exact H
                            clear H
                            have H := H1
                            clear H1
                            replace H := Option.bind_eq_some_iff.mp H
                            obtain ⟨t345, A270, H⟩ := H
                            replace H : (some (!t345)) = some r := H
                            have A27 := Aside0.mk A270
                            clear A270
                            obtain rfl := Option.some.inj H
                            obtain ⟨Ao28, co28, eo28⟩ := Kd.R_slice HO_1.out
                            subst eo28
                            go_wp2_with (first | ((with_reducible refine gate_callee (f := 9) rfl ?_); refine goesL_ (some 26) rfl rfl Try.func9 (by kernel_rfl) rfl #[.slice Ao28 t301.length co28, .int .i64 2] rfl (by (try simp only [List.map_toArray, List.map_cons, List.map_nil]); first | done | rfl | (simp only [List.length_drop, List.length_take]; rfl)) ?_; (with_reducible refine (alloc_Take.calls _ _ t301 2 t305 t306 t307 _ ?side1 ?side2 A7.out).mono ?_); (case side1 => repeat (first | exact (Kd.R_reads' HO_1.out).2.2 | (with_reducible refine Kd.C_alloc ?_ _) | (with_reducible refine Kd.C_drewN ?_ _) | (with_reducible refine Kd.C_drew ?_))); (case side2 => exact (Kd.R_reads' HO_1.out).2.1); rintro e w29 ⟨v308, v310, rfl, ho0, ho1, hb⟩; refine ⟨_, rfl, ?_⟩; have n0_ := Aside0.mk (Kd.R_elder' (by (with_reducible repeat (first | apply Kd.R_alloc | apply Kd.R_drewN | apply Kd.R_drew)); exact HO_1.out) (Kd.R_base ho0) hb); have n1_ := Aside0.mk (Kd.R_lower (Kd.R_new' ho0 (Kd.R_lt (by (with_reducible repeat (first | apply Kd.R_alloc | apply Kd.R_drewN | apply Kd.R_drew)); exact HO_1.out))) (below_size (by repeat (first | (with_reducible first | exact HB.out | apply below_alloc | apply pw_below_drewN | apply below_drew1) | exact HB.out)))); have n2_ := Aside0.mk (Kd.R_lower ho1 (below_size (by repeat (first | (with_reducible first | exact HB.out | apply below_alloc | apply pw_below_drewN | apply below_drew1) | exact HB.out)))); have n3_ := Aside0.mk (below_step (by repeat (first | (with_reducible first | exact HB.out | apply below_alloc | apply pw_below_drewN | apply below_drew1) | exact HB.out)) hb); clear HO_1; clear HB; have HO_1 := n0_; have HO309 := n1_; have HO311 := n2_; have HB := n3_; clear n0_ n1_ n2_ n3_; (try clear hb); (try clear hb2); (try clear hk); (try clear hi); (try clear ho0); (try clear ho1)) | ((with_reducible refine gate_dst (N := 32) rfl ?_); (try (refine gate_guard (by rfl) ?_; dsimp only)); refine Kd.R_lit (Kd.int .i64) _ 3 ?hg (N := 32) ?hd (xs := ([4] : List Int)) (inner := [.int .i64 4]) (ok := fun _ => True) (okp := fun _ => True) ?hr ?hp (fun _ hk => hk) trivial (Below.refl _ _) (Nat.le_refl _) (by simp) ?_; (case hd => rfl); (case hg => rfl); (case hr => first | (go_simp; done) | (go_simp; rfl)); (case hp => exact (Reps.one (show Kd.M (Kd.int .i64) _ _ _ 4 [.int .i64 4] from rfl) (Reps.none _ _))); intro v313 w30 ho31 hb hg_ hnew_; clear hg_ hnew_; (first | rw [← Ny312.out] at ho31 | (simp only [Int.reduceToNat] at ho31; rw [← Ny312.out] at ho31)); have n0_ := Aside0.mk (Kd.R_below (by (with_reducible repeat (first | apply Kd.R_alloc | apply Kd.R_drewN | apply Kd.R_drew)); exact HO_1.out) hb); have n1_ := Aside0.mk (Kd.R_below (by (with_reducible repeat (first | apply Kd.R_alloc | apply Kd.R_drewN | apply Kd.R_drew)); exact HO309.out) hb); have n2_ := Aside0.mk (Kd.R_elder' (by (with_reducible repeat (first | apply Kd.R_alloc | apply Kd.R_drewN | apply Kd.R_drew)); exact HO311.out) (Kd.R_base ho31) hb); have n3_ := Aside0.mk (Kd.R_lower (Kd.R_new' ho31 (Kd.R_lt (by (with_reducible repeat (first | apply Kd.R_alloc | apply Kd.R_drewN | apply Kd.R_drew)); exact HO311.out))) (below_size (by repeat (first | (with_reducible first | exact HB.out | apply below_alloc | apply pw_below_drewN | apply below_drew1) | exact HB.out)))); have n4_ := Aside0.mk (below_step (by repeat (first | (with_reducible first | exact HB.out | apply below_alloc | apply pw_below_drewN | apply below_drew1) | exact HB.out)) hb); clear HO_1; clear HO309; clear HO311; clear HB; have HO_1 := n0_; have HO309 := n1_; have HO311 := n2_; have HO314 := n3_; have HB := n4_; clear n0_ n1_ n2_ n3_ n4_; clear hb ho31; obtain ⟨Ao32, co32, eo32⟩ := Kd.R_slice HO309.out; subst eo32; obtain ⟨Ao33, co33, eo33⟩ := Kd.R_slice HO314.out; subst eo33) | ((with_reducible refine gate_callee (f := 11) rfl ?_); refine goesL_ (some 33) rfl rfl Try.func11 (by kernel_rfl) rfl #[.slice Ao32 t305.length co32, .slice Ao33 y312.length co33] rfl (by (try simp only [List.map_toArray, List.map_cons, List.map_nil]); first | done | rfl | (simp only [List.length_drop, List.length_take]; rfl)) ?_; (with_reducible refine (alloc_Give.calls _ _ t305 _ _ y312 t315 t316 _ ?side1 ?side2 ?side3 ?side4 A8.out).mono ?_); (case side1 => repeat (first | exact (Kd.R_reads' HO309.out).2.2 | (with_reducible refine Kd.C_alloc ?_ _) | (with_reducible refine Kd.C_drewN ?_ _) | (with_reducible refine Kd.C_drew ?_))); (case side2 => exact (Kd.R_reads' HO309.out).2.1); (case side3 => repeat (first | exact (Kd.R_reads' HO314.out).2.2 | (with_reducible refine Kd.C_alloc ?_ _) | (with_reducible refine Kd.C_drewN ?_ _) | (with_reducible refine Kd.C_drew ?_))); (case side4 => exact (Kd.R_reads' HO314.out).2.1); rintro e w34 ⟨v317, rfl, ho0, hb⟩; refine ⟨_, rfl, ?_⟩; have n0_ := Aside0.mk (Kd.R_elder' (by (with_reducible repeat (first | apply Kd.R_alloc | apply Kd.R_drewN | apply Kd.R_drew)); exact HO_1.out) (Kd.R_base ho0) hb); have n1_ := Aside0.mk (Kd.R_elder' (by (with_reducible repeat (first | apply Kd.R_alloc | apply Kd.R_drewN | apply Kd.R_drew)); exact HO309.out) (Kd.R_base ho0) hb); have n2_ := Aside0.mk (Kd.R_below (by (with_reducible repeat (first | apply Kd.R_alloc | apply Kd.R_drewN | apply Kd.R_drew)); exact HO311.out) hb); have n3_ := Aside0.mk (Kd.R_below (by (with_reducible repeat (first | apply Kd.R_alloc | apply Kd.R_drewN | apply Kd.R_drew)); exact HO314.out) hb); have n4_ := Aside0.mk (Kd.R_lower (Kd.R_new' (Kd.R_new' ho0 (Kd.R_lt (by (with_reducible repeat (first | apply Kd.R_alloc | apply Kd.R_drewN | apply Kd.R_drew)); exact HO_1.out))) (Kd.R_lt (by (with_reducible repeat (first | apply Kd.R_alloc | apply Kd.R_drewN | apply Kd.R_drew)); exact HO309.out))) (below_size (by repeat (first | (with_reducible first | exact HB.out | apply below_alloc | apply pw_below_drewN | apply below_drew1) | exact HB.out)))); have n5_ := Aside0.mk (below_step (by repeat (first | (with_reducible first | exact HB.out | apply below_alloc | apply pw_below_drewN | apply below_drew1) | exact HB.out)) hb); clear HO_1; clear HO309; clear HO311; clear HO314; clear HB; have HO_1 := n0_; have HO309 := n1_; have HO311 := n2_; have HO314 := n3_; have HO318 := n4_; have HB := n5_; clear n0_ n1_ n2_ n3_ n4_ n5_; (try clear hb); (try clear hb2); (try clear hk); (try clear hi); (try clear ho0); obtain ⟨Ao35, co35, eo35⟩ := Kd.R_slice HO318.out; subst eo35) | ((with_reducible refine gate_callee (f := 9) rfl ?_); refine goesL_ (some 38) rfl rfl Try.func9 (by kernel_rfl) rfl #[.slice Ao35 t315.length co35, .int .i64 1] rfl (by (try simp only [List.map_toArray, List.map_cons, List.map_nil]); first | done | rfl | (simp only [List.length_drop, List.length_take]; rfl)) ?_; (with_reducible refine (alloc_Take.calls _ _ t315 1 t319 t320 t321 _ ?side1 ?side2 A9.out).mono ?_); (case side1 => repeat (first | exact (Kd.R_reads' HO318.out).2.2 | (with_reducible refine Kd.C_alloc ?_ _) | (with_reducible refine Kd.C_drewN ?_ _) | (with_reducible refine Kd.C_drew ?_))); (case side2 => exact (Kd.R_reads' HO318.out).2.1); rintro e w36 ⟨v322, v324, rfl, ho0, ho1, hb⟩; refine ⟨_, rfl, ?_⟩; have n0_ := Aside0.mk (Kd.R_elder' (by (with_reducible repeat (first | apply Kd.R_alloc | apply Kd.R_drewN | apply Kd.R_drew)); exact HO_1.out) (Kd.R_base ho0) hb); have n1_ := Aside0.mk (Kd.R_elder' (by (with_reducible repeat (first | apply Kd.R_alloc | apply Kd.R_drewN | apply Kd.R_drew)); exact HO309.out) (Kd.R_base ho0) hb); have n2_ := Aside0.mk (Kd.R_elder' (by (with_reducible repeat (first | apply Kd.R_alloc | apply Kd.R_drewN | apply Kd.R_drew)); exact HO311.out) (Kd.R_base ho1) hb); have n3_ := Aside0.mk (Kd.R_elder' (by (with_reducible repeat (first | apply Kd.R_alloc | apply Kd.R_drewN | apply Kd.R_drew)); exact HO314.out) (Kd.R_base ho1) hb); have n4_ := Aside0.mk (Kd.R_elder' (by (with_reducible repeat (first | apply Kd.R_alloc | apply Kd.R_drewN | apply Kd.R_drew)); exact HO318.out) (Kd.R_base ho0) hb); have n5_ := Aside0.mk (Kd.R_lower (Kd.R_new' (Kd.R_new' (Kd.R_new' ho0 (Kd.R_lt (by (with_reducible repeat (first | apply Kd.R_alloc | apply Kd.R_drewN | apply Kd.R_drew)); exact HO_1.out))) (Kd.R_lt (by (with_reducible repeat (first | apply Kd.R_alloc | apply Kd.R_drewN | apply Kd.R_drew)); exact HO309.out))) (Kd.R_lt (by (with_reducible repeat (first | apply Kd.R_alloc | apply Kd.R_drewN | apply Kd.R_drew)); exact HO318.out))) (below_size (by repeat (first | (with_reducible first | exact HB.out | apply below_alloc | apply pw_below_drewN | apply below_drew1) | exact HB.out)))); have n6_ := Aside0.mk (Kd.R_lower (Kd.R_new' (Kd.R_new' ho1 (Kd.R_lt (by (with_reducible repeat (first | apply Kd.R_alloc | apply Kd.R_drewN | apply Kd.R_drew)); exact HO311.out))) (Kd.R_lt (by (with_reducible repeat (first | apply Kd.R_alloc | apply Kd.R_drewN | apply Kd.R_drew)); exact HO314.out))) (below_size (by repeat (first | (with_reducible first | exact HB.out | apply below_alloc | apply pw_below_drewN | apply below_drew1) | exact HB.out)))); have n7_ := Aside0.mk (below_step (by repeat (first | (with_reducible first | exact HB.out | apply below_alloc | apply pw_below_drewN | apply below_drew1) | exact HB.out)) hb); clear HO_1; clear HO309; clear HO311; clear HO314; clear HO318; clear HB; have HO_1 := n0_; have HO309 := n1_; have HO311 := n2_; have HO314 := n3_; have HO318 := n4_; have HO323 := n5_; have HO325 := n6_; have HB := n7_; clear n0_ n1_ n2_ n3_ n4_ n5_ n6_ n7_; (try clear hb); (try clear hb2); (try clear hk); (try clear hi); (try clear ho0); (try clear ho1)) | ((with_reducible refine gate_dst (N := 44) rfl ?_); (try (refine gate_guard (by rfl) ?_; dsimp only)); refine Kd.R_lit (Kd.int .i64) _ 3 ?hg (N := 44) ?hd (xs := ([2] : List Int)) (inner := [.int .i64 2]) (ok := fun _ => True) (okp := fun _ => True) ?hr ?hp (fun _ hk => hk) trivial (Below.refl _ _) (Nat.le_refl _) (by simp) ?_; (case hd => rfl); (case hg => rfl); (case hr => first | (go_simp; done) | (go_simp; rfl)); (case hp => exact (Reps.one (show Kd.M (Kd.int .i64) _ _ _ 2 [.int .i64 2] from rfl) (Reps.none _ _))); intro v327 w37 ho38 hb hg_ hnew_; clear hg_ hnew_; (first | rw [← Ny326.out] at ho38 | (simp only [Int.reduceToNat] at ho38; rw [← Ny326.out] at ho38)); have n0_ := Aside0.mk (Kd.R_below (by (with_reducible repeat (first | apply Kd.R_alloc | apply Kd.R_drewN | apply Kd.R_drew)); exact HO_1.out) hb); have n1_ := Aside0.mk (Kd.R_below (by (with_reducible repeat (first | apply Kd.R_alloc | apply Kd.R_drewN | apply Kd.R_drew)); exact HO309.out) hb); have n2_ := Aside0.mk (Kd.R_elder' (by (with_reducible repeat (first | apply Kd.R_alloc | apply Kd.R_drewN | apply Kd.R_drew)); exact HO311.out) (Kd.R_base ho38) hb); have n3_ := Aside0.mk (Kd.R_elder' (by (with_reducible repeat (first | apply Kd.R_alloc | apply Kd.R_drewN | apply Kd.R_drew)); exact HO314.out) (Kd.R_base ho38) hb); have n4_ := Aside0.mk (Kd.R_below (by (with_reducible repeat (first | apply Kd.R_alloc | apply Kd.R_drewN | apply Kd.R_drew)); exact HO318.out) hb); have n5_ := Aside0.mk (Kd.R_below (by (with_reducible repeat (first | apply Kd.R_alloc | apply Kd.R_drewN | apply Kd.R_drew)); exact HO323.out) hb); have n6_ := Aside0.mk (Kd.R_elder' (by (with_reducible repeat (first | apply Kd.R_alloc | apply Kd.R_drewN | apply Kd.R_drew)); exact HO325.out) (Kd.R_base ho38) hb); have n7_ := Aside0.mk (Kd.R_lower (Kd.R_new' (Kd.R_new' (Kd.R_new' ho38 (Kd.R_lt (by (with_reducible repeat (first | apply Kd.R_alloc | apply Kd.R_drewN | apply Kd.R_drew)); exact HO311.out))) (Kd.R_lt (by (with_reducible repeat (first | apply Kd.R_alloc | apply Kd.R_drewN | apply Kd.R_drew)); exact HO314.out))) (Kd.R_lt (by (with_reducible repeat (first | apply Kd.R_alloc | apply Kd.R_drewN | apply Kd.R_drew)); exact HO325.out))) (below_size (by repeat (first | (with_reducible first | exact HB.out | apply below_alloc | apply pw_below_drewN | apply below_drew1) | exact HB.out)))); have n8_ := Aside0.mk (below_step (by repeat (first | (with_reducible first | exact HB.out | apply below_alloc | apply pw_below_drewN | apply below_drew1) | exact HB.out)) hb); clear HO_1; clear HO309; clear HO311; clear HO314; clear HO318; clear HO323; clear HO325; clear HB; have HO_1 := n0_; have HO309 := n1_; have HO311 := n2_; have HO314 := n3_; have HO318 := n4_; have HO323 := n5_; have HO325 := n6_; have HO328 := n7_; have HB := n8_; clear n0_ n1_ n2_ n3_ n4_ n5_ n6_ n7_ n8_; clear hb ho38; obtain ⟨Ao39, co39, eo39⟩ := Kd.R_slice HO328.out; subst eo39) | ((with_reducible refine gate_callee (f := 11) rfl ?_); refine goesL_ (some 45) rfl rfl Try.func11 (by kernel_rfl) rfl #[.slice Ao28 t301.length co28, .slice Ao39 y326.length co39] rfl (by (try simp only [List.map_toArray, List.map_cons, List.map_nil]); first | done | rfl | (simp only [List.length_drop, List.length_take]; rfl)) ?_; (with_reducible refine (alloc_Give.calls _ _ t301 _ _ y326 t329 t330 _ ?side1 ?side2 ?side3 ?side4 A10.out).mono ?_); (case side1 => repeat (first | exact (Kd.R_reads' HO_1.out).2.2 | (with_reducible refine Kd.C_alloc ?_ _) | (with_reducible refine Kd.C_drewN ?_ _) | (with_reducible refine Kd.C_drew ?_))); (case side2 => exact (Kd.R_reads' HO_1.out).2.1); (case side3 => repeat (first | exact (Kd.R_reads' HO328.out).2.2 | (with_reducible refine Kd.C_alloc ?_ _) | (with_reducible refine Kd.C_drewN ?_ _) | (with_reducible refine Kd.C_drew ?_))); (case side4 => exact (Kd.R_reads' HO328.out).2.1); rintro e w40 ⟨v331, rfl, ho0, hb⟩; refine ⟨_, rfl, ?_⟩; have n0_ := Aside0.mk (Kd.R_elder' (by (with_reducible repeat (first | apply Kd.R_alloc | apply Kd.R_drewN | apply Kd.R_drew)); exact HO_1.out) (Kd.R_base ho0) hb); have n1_ := Aside0.mk (Kd.R_elder' (by (with_reducible repeat (first | apply Kd.R_alloc | apply Kd.R_drewN | apply Kd.R_drew)); exact HO309.out) (Kd.R_base ho0) hb); have n2_ := Aside0.mk (Kd.R_below (by (with_reducible repeat (first | apply Kd.R_alloc | apply Kd.R_drewN | apply Kd.R_drew)); exact HO311.out) hb); have n3_ := Aside0.mk (Kd.R_below (by (with_reducible repeat (first | apply Kd.R_alloc | apply Kd.R_drewN | apply Kd.R_drew)); exact HO314.out) hb); have n4_ := Aside0.mk (Kd.R_elder' (by (with_reducible repeat (first | apply Kd.R_alloc | apply Kd.R_drewN | apply Kd.R_drew)); exact HO318.out) (Kd.R_base ho0) hb); have n5_ := Aside0.mk (Kd.R_elder' (by (with_reducible repeat (first | apply Kd.R_alloc | apply Kd.R_drewN | apply Kd.R_drew)); exact HO323.out) (Kd.R_base ho0) hb); have n6_ := Aside0.mk (Kd.R_below (by (with_reducible repeat (first | apply Kd.R_alloc | apply Kd.R_drewN | apply Kd.R_drew)); exact HO325.out) hb); have n7_ := Aside0.mk (Kd.R_below (by (with_reducible repeat (first | apply Kd.R_alloc | apply Kd.R_drewN | apply Kd.R_drew)); exact HO328.out) hb); have n8_ := Aside0.mk (Kd.R_lower (Kd.R_new' (Kd.R_new' (Kd.R_new' (Kd.R_new' ho0 (Kd.R_lt (by (with_reducible repeat (first | apply Kd.R_alloc | apply Kd.R_drewN | apply Kd.R_drew)); exact HO_1.out))) (Kd.R_lt (by (with_reducible repeat (first | apply Kd.R_alloc | apply Kd.R_drewN | apply Kd.R_drew)); exact HO309.out))) (Kd.R_lt (by (with_reducible repeat (first | apply Kd.R_alloc | apply Kd.R_drewN | apply Kd.R_drew)); exact HO318.out))) (Kd.R_lt (by (with_reducible repeat (first | apply Kd.R_alloc | apply Kd.R_drewN | apply Kd.R_drew)); exact HO323.out))) (below_size (by repeat (first | (with_reducible first | exact HB.out | apply below_alloc | apply pw_below_drewN | apply below_drew1) | exact HB.out)))); have n9_ := Aside0.mk (below_step (by repeat (first | (with_reducible first | exact HB.out | apply below_alloc | apply pw_below_drewN | apply below_drew1) | exact HB.out)) hb); clear HO_1; clear HO309; clear HO311; clear HO314; clear HO318; clear HO323; clear HO325; clear HO328; clear HB; have HO_1 := n0_; have HO309 := n1_; have HO311 := n2_; have HO314 := n3_; have HO318 := n4_; have HO323 := n5_; have HO325 := n6_; have HO328 := n7_; have HO332 := n8_; have HB := n9_; clear n0_ n1_ n2_ n3_ n4_ n5_ n6_ n7_ n8_ n9_; (try clear hb); (try clear hb2); (try clear hk); (try clear hi); (try clear ho0)) | ((with_reducible refine gate_callee (f := 21) rfl ?_); refine goesL_ (some 49) rfl rfl Try.func21 (by kernel_rfl) rfl #[.slice Ao28 t301.length co28] rfl (by (try simp only [List.map_toArray, List.map_cons, List.map_nil]); first | done | rfl | (simp only [List.length_drop, List.length_take]; rfl)) ?_; (with_reducible refine (alloc_Inodes.calls _ _ t301 t333 _ ?side1 ?side2 A11.out).mono ?_); (case side1 => repeat (first | exact (Kd.R_reads' HO_1.out).2.2 | (with_reducible refine Kd.C_alloc ?_ _) | (with_reducible refine Kd.C_drewN ?_ _) | (with_reducible refine Kd.C_drew ?_))); (case side2 => exact (Kd.R_reads' HO_1.out).2.1); rintro e w41 ⟨rfl, hb⟩; refine ⟨_, rfl, ?_⟩; have n0_ := Aside0.mk (Kd.R_below (by (with_reducible repeat (first | apply Kd.R_alloc | apply Kd.R_drewN | apply Kd.R_drew)); exact HO_1.out) hb); have n1_ := Aside0.mk (Kd.R_below (by (with_reducible repeat (first | apply Kd.R_alloc | apply Kd.R_drewN | apply Kd.R_drew)); exact HO309.out) hb); have n2_ := Aside0.mk (Kd.R_below (by (with_reducible repeat (first | apply Kd.R_alloc | apply Kd.R_drewN | apply Kd.R_drew)); exact HO311.out) hb); have n3_ := Aside0.mk (Kd.R_below (by (with_reducible repeat (first | apply Kd.R_alloc | apply Kd.R_drewN | apply Kd.R_drew)); exact HO314.out) hb); have n4_ := Aside0.mk (Kd.R_below (by (with_reducible repeat (first | apply Kd.R_alloc | apply Kd.R_drewN | apply Kd.R_drew)); exact HO318.out) hb); have n5_ := Aside0.mk (Kd.R_below (by (with_reducible repeat (first | apply Kd.R_alloc | apply Kd.R_drewN | apply Kd.R_drew)); exact HO323.out) hb); have n6_ := Aside0.mk (Kd.R_below (by (with_reducible repeat (first | apply Kd.R_alloc | apply Kd.R_drewN | apply Kd.R_drew)); exact HO325.out) hb); have n7_ := Aside0.mk (Kd.R_below (by (with_reducible repeat (first | apply Kd.R_alloc | apply Kd.R_drewN | apply Kd.R_drew)); exact HO328.out) hb); have n8_ := Aside0.mk (Kd.R_below (by (with_reducible repeat (first | apply Kd.R_alloc | apply Kd.R_drewN | apply Kd.R_drew)); exact HO332.out) hb); have n9_ := Aside0.mk (below_step (by repeat (first | (with_reducible first | exact HB.out | apply below_alloc | apply pw_below_drewN | apply below_drew1) | exact HB.out)) hb); clear HO_1; clear HO309; clear HO311; clear HO314; clear HO318; clear HO323; clear HO325; clear HO328; clear HO332; clear HB; have HO_1 := n0_; have HO309 := n1_; have HO311 := n2_; have HO314 := n3_; have HO318 := n4_; have HO323 := n5_; have HO325 := n6_; have HO328 := n7_; have HO332 := n8_; have HB := n9_; clear n0_ n1_ n2_ n3_ n4_ n5_ n6_ n7_ n8_ n9_; (try clear hb); (try clear hb2); (try clear hk); (try clear hi)) | (go_at_call 19; (with_reducible refine (alloc_First.calls _ _ t301 t334 _ ?side1 ?side2 A13.out).mono ?_); (case side1 => repeat (first | exact (Kd.R_reads' HO_1.out).2.2 | (with_reducible refine Kd.C_alloc ?_ _) | (with_reducible refine Kd.C_drewN ?_ _) | (with_reducible refine Kd.C_drew ?_))); (case side2 => exact (Kd.R_reads' HO_1.out).2.1); rintro e w42 ⟨rfl, hb⟩; have n0_ := Aside0.mk (Kd.R_below (by (with_reducible repeat (first | apply Kd.R_alloc | apply Kd.R_drewN | apply Kd.R_drew)); exact HO_1.out) hb); have n1_ := Aside0.mk (Kd.R_below (by (with_reducible repeat (first | apply Kd.R_alloc | apply Kd.R_drewN | apply Kd.R_drew)); exact HO309.out) hb); have n2_ := Aside0.mk (Kd.R_below (by (with_reducible repeat (first | apply Kd.R_alloc | apply Kd.R_drewN | apply Kd.R_drew)); exact HO311.out) hb); have n3_ := Aside0.mk (Kd.R_below (by (with_reducible repeat (first | apply Kd.R_alloc | apply Kd.R_drewN | apply Kd.R_drew)); exact HO314.out) hb); have n4_ := Aside0.mk (Kd.R_below (by (with_reducible repeat (first | apply Kd.R_alloc | apply Kd.R_drewN | apply Kd.R_drew)); exact HO318.out) hb); have n5_ := Aside0.mk (Kd.R_below (by (with_reducible repeat (first | apply Kd.R_alloc | apply Kd.R_drewN | apply Kd.R_drew)); exact HO323.out) hb); have n6_ := Aside0.mk (Kd.R_below (by (with_reducible repeat (first | apply Kd.R_alloc | apply Kd.R_drewN | apply Kd.R_drew)); exact HO325.out) hb); have n7_ := Aside0.mk (Kd.R_below (by (with_reducible repeat (first | apply Kd.R_alloc | apply Kd.R_drewN | apply Kd.R_drew)); exact HO328.out) hb); have n8_ := Aside0.mk (Kd.R_below (by (with_reducible repeat (first | apply Kd.R_alloc | apply Kd.R_drewN | apply Kd.R_drew)); exact HO332.out) hb); have n9_ := Aside0.mk (below_step (by repeat (first | (with_reducible first | exact HB.out | apply below_alloc | apply pw_below_drewN | apply below_drew1) | exact HB.out)) hb); clear HO_1; clear HO309; clear HO311; clear HO314; clear HO318; clear HO323; clear HO325; clear HO328; clear HO332; clear HB; have HO_1 := n0_; have HO309 := n1_; have HO311 := n2_; have HO314 := n3_; have HO318 := n4_; have HO323 := n5_; have HO325 := n6_; have HO328 := n7_; have HO332 := n8_; have HB := n9_; clear n0_ n1_ n2_ n3_ n4_ n5_ n6_ n7_ n8_ n9_; (try clear hb); (try clear hb2); (try clear hk); (try clear hi)) | (go_at_call 17; (with_reducible refine (alloc_Free.calls _ _ t301 t335 _ ?side1 ?side2 A15.out).mono ?_); (case side1 => repeat (first | exact (Kd.R_reads' HO_1.out).2.2 | (with_reducible refine Kd.C_alloc ?_ _) | (with_reducible refine Kd.C_drewN ?_ _) | (with_reducible refine Kd.C_drew ?_))); (case side2 => exact (Kd.R_reads' HO_1.out).2.1); rintro e w43 ⟨rfl, hb⟩; have n0_ := Aside0.mk (Kd.R_below (by (with_reducible repeat (first | apply Kd.R_alloc | apply Kd.R_drewN | apply Kd.R_drew)); exact HO_1.out) hb); have n1_ := Aside0.mk (Kd.R_below (by (with_reducible repeat (first | apply Kd.R_alloc | apply Kd.R_drewN | apply Kd.R_drew)); exact HO309.out) hb); have n2_ := Aside0.mk (Kd.R_below (by (with_reducible repeat (first | apply Kd.R_alloc | apply Kd.R_drewN | apply Kd.R_drew)); exact HO311.out) hb); have n3_ := Aside0.mk (Kd.R_below (by (with_reducible repeat (first | apply Kd.R_alloc | apply Kd.R_drewN | apply Kd.R_drew)); exact HO314.out) hb); have n4_ := Aside0.mk (Kd.R_below (by (with_reducible repeat (first | apply Kd.R_alloc | apply Kd.R_drewN | apply Kd.R_drew)); exact HO318.out) hb); have n5_ := Aside0.mk (Kd.R_below (by (with_reducible repeat (first | apply Kd.R_alloc | apply Kd.R_drewN | apply Kd.R_drew)); exact HO323.out) hb); have n6_ := Aside0.mk (Kd.R_below (by (with_reducible repeat (first | apply Kd.R_alloc | apply Kd.R_drewN | apply Kd.R_drew)); exact HO325.out) hb); have n7_ := Aside0.mk (Kd.R_below (by (with_reducible repeat (first | apply Kd.R_alloc | apply Kd.R_drewN | apply Kd.R_drew)); exact HO328.out) hb); have n8_ := Aside0.mk (Kd.R_below (by (with_reducible repeat (first | apply Kd.R_alloc | apply Kd.R_drewN | apply Kd.R_drew)); exact HO332.out) hb); have n9_ := Aside0.mk (below_step (by repeat (first | (with_reducible first | exact HB.out | apply below_alloc | apply pw_below_drewN | apply below_drew1) | exact HB.out)) hb); clear HO_1; clear HO309; clear HO311; clear HO314; clear HO318; clear HO323; clear HO325; clear HO328; clear HO332; clear HB; have HO_1 := n0_; have HO309 := n1_; have HO311 := n2_; have HO314 := n3_; have HO318 := n4_; have HO323 := n5_; have HO325 := n6_; have HO328 := n7_; have HO332 := n8_; have HB := n9_; clear n0_ n1_ n2_ n3_ n4_ n5_ n6_ n7_ n8_ n9_; (try clear hb); (try clear hb2); (try clear hk); (try clear hi)) | ((with_reducible refine gate_dst (N := 67) rfl ?_); (try (refine gate_guard (by rfl) ?_; dsimp only)); refine Kd.R_lit (Kd.int .i64) _ 3 ?hg (N := 67) ?hd (xs := ([3, 4] : List Int)) (inner := [.int .i64 3, .int .i64 4]) (ok := fun _ => True) (okp := fun _ => True) ?hr ?hp (fun _ hk => hk) trivial (Below.refl _ _) (Nat.le_refl _) (by simp) ?_; (case hd => rfl); (case hg => rfl); (case hr => first | (go_simp; done) | (go_simp; rfl)); (case hp => exact (Reps.one (show Kd.M (Kd.int .i64) _ _ _ 3 [.int .i64 3] from rfl) (Reps.one (show Kd.M (Kd.int .i64) _ _ _ 4 [.int .i64 4] from rfl) (Reps.none _ _)))); intro v337 w44 ho45 hb hg_ hnew_; clear hg_ hnew_; (first | rw [← Ny336.out] at ho45 | (simp only [Int.reduceToNat] at ho45; rw [← Ny336.out] at ho45)); have n0_ := Aside0.mk (Kd.R_below (by (with_reducible repeat (first | apply Kd.R_alloc | apply Kd.R_drewN | apply Kd.R_drew)); exact HO_1.out) hb); have n1_ := Aside0.mk (Kd.R_below (by (with_reducible repeat (first | apply Kd.R_alloc | apply Kd.R_drewN | apply Kd.R_drew)); exact HO309.out) hb); have n2_ := Aside0.mk (Kd.R_elder' (by (with_reducible repeat (first | apply Kd.R_alloc | apply Kd.R_drewN | apply Kd.R_drew)); exact HO311.out) (Kd.R_base ho45) hb); have n3_ := Aside0.mk (Kd.R_elder' (by (with_reducible repeat (first | apply Kd.R_alloc | apply Kd.R_drewN | apply Kd.R_drew)); exact HO314.out) (Kd.R_base ho45) hb); have n4_ := Aside0.mk (Kd.R_below (by (with_reducible repeat (first | apply Kd.R_alloc | apply Kd.R_drewN | apply Kd.R_drew)); exact HO318.out) hb); have n5_ := Aside0.mk (Kd.R_below (by (with_reducible repeat (first | apply Kd.R_alloc | apply Kd.R_drewN | apply Kd.R_drew)); exact HO323.out) hb); have n6_ := Aside0.mk (Kd.R_elder' (by (with_reducible repeat (first | apply Kd.R_alloc | apply Kd.R_drewN | apply Kd.R_drew)); exact HO325.out) (Kd.R_base ho45) hb); have n7_ := Aside0.mk (Kd.R_elder' (by (with_reducible repeat (first | apply Kd.R_alloc | apply Kd.R_drewN | apply Kd.R_drew)); exact HO328.out) (Kd.R_base ho45) hb); have n8_ := Aside0.mk (Kd.R_below (by (with_reducible repeat (first | apply Kd.R_alloc | apply Kd.R_drewN | apply Kd.R_drew)); exact HO332.out) hb); have n9_ := Aside0.mk (Kd.R_lower (Kd.R_new' (Kd.R_new' (Kd.R_new' (Kd.R_new' ho45 (Kd.R_lt (by (with_reducible repeat (first | apply Kd.R_alloc | apply Kd.R_drewN | apply Kd.R_drew)); exact HO311.out))) (Kd.R_lt (by (with_reducible repeat (first | apply Kd.R_alloc | apply Kd.R_drewN | apply Kd.R_drew)); exact HO314.out))) (Kd.R_lt (by (with_reducible repeat (first | apply Kd.R_alloc | apply Kd.R_drewN | apply Kd.R_drew)); exact HO325.out))) (Kd.R_lt (by (with_reducible repeat (first | apply Kd.R_alloc | apply Kd.R_drewN | apply Kd.R_drew)); exact HO328.out))) (below_size (by repeat (first | (with_reducible first | exact HB.out | apply below_alloc | apply pw_below_drewN | apply below_drew1) | exact HB.out)))); have n10_ := Aside0.mk (below_step (by repeat (first | (with_reducible first | exact HB.out | apply below_alloc | apply pw_below_drewN | apply below_drew1) | exact HB.out)) hb); clear HO_1; clear HO309; clear HO311; clear HO314; clear HO318; clear HO323; clear HO325; clear HO328; clear HO332; clear HB; have HO_1 := n0_; have HO309 := n1_; have HO311 := n2_; have HO314 := n3_; have HO318 := n4_; have HO323 := n5_; have HO325 := n6_; have HO328 := n7_; have HO332 := n8_; have HO338 := n9_; have HB := n10_; clear n0_ n1_ n2_ n3_ n4_ n5_ n6_ n7_ n8_ n9_ n10_; clear hb ho45; obtain ⟨Ao46, co46, eo46⟩ := Kd.R_slice HO311.out; subst eo46; obtain ⟨Ao47, co47, eo47⟩ := Kd.R_slice HO338.out; subst eo47) | (go_at_call 14; (with_reducible refine (almanacref03_Ints.calls kj1 _ _ t306 _ _ y336 true _ ?side1 ?side2 ?side3 ?side4 A18.out).mono ?_); (case side1 => repeat (first | exact (Kd.R_reads' HO311.out).2.2 | (with_reducible refine Kd.C_alloc ?_ _) | (with_reducible refine Kd.C_drewN ?_ _) | (with_reducible refine Kd.C_drew ?_))); (case side2 => exact (Kd.R_reads' HO311.out).2.1); (case side3 => repeat (first | exact (Kd.R_reads' HO338.out).2.2 | (with_reducible refine Kd.C_alloc ?_ _) | (with_reducible refine Kd.C_drewN ?_ _) | (with_reducible refine Kd.C_drew ?_))); (case side4 => exact (Kd.R_reads' HO338.out).2.1); rintro e w' ⟨rfl, ⟨nd, rfl⟩⟩) | ((with_reducible refine gate_dst (N := 80) rfl ?_); (try (refine gate_guard (by rfl) ?_; dsimp only)); refine Kd.R_lit (Kd.int .i64) _ 3 ?hg (N := 80) ?hd (xs := ([4] : List Int)) (inner := [.int .i64 4]) (ok := fun _ => True) (okp := fun _ => True) ?hr ?hp (fun _ hk => hk) trivial (Below.refl _ _) (Nat.le_refl _) (by simp) ?_; (case hd => rfl); (case hg => rfl); (case hr => first | (go_simp; done) | (go_simp; rfl)); (case hp => exact (Reps.one (show Kd.M (Kd.int .i64) _ _ _ 4 [.int .i64 4] from rfl) (Reps.none _ _))); intro v341 w48 ho49 hb hg_ hnew_; clear hg_ hnew_; (first | rw [← Ny340.out] at ho49 | (simp only [Int.reduceToNat] at ho49; rw [← Ny340.out] at ho49)); have n0_ := Aside0.mk (Kd.R_below (by (with_reducible repeat (first | apply Kd.R_alloc | apply Kd.R_drewN | apply Kd.R_drew)); exact HO_1.out) hb); have n1_ := Aside0.mk (Kd.R_below (by (with_reducible repeat (first | apply Kd.R_alloc | apply Kd.R_drewN | apply Kd.R_drew)); exact HO309.out) hb); have n2_ := Aside0.mk (Kd.R_elder' (by (with_reducible repeat (first | apply Kd.R_alloc | apply Kd.R_drewN | apply Kd.R_drew)); exact HO311.out) (Kd.R_base ho49) hb); have n3_ := Aside0.mk (Kd.R_elder' (by (with_reducible repeat (first | apply Kd.R_alloc | apply Kd.R_drewN | apply Kd.R_drew)); exact HO314.out) (Kd.R_base ho49) hb); have n4_ := Aside0.mk (Kd.R_below (by (with_reducible repeat (first | apply Kd.R_alloc | apply Kd.R_drewN | apply Kd.R_drew)); exact HO318.out) hb); have n5_ := Aside0.mk (Kd.R_below (by (with_reducible repeat (first | apply Kd.R_alloc | apply Kd.R_drewN | apply Kd.R_drew)); exact HO323.out) hb); have n6_ := Aside0.mk (Kd.R_elder' (by (with_reducible repeat (first | apply Kd.R_alloc | apply Kd.R_drewN | apply Kd.R_drew)); exact HO325.out) (Kd.R_base ho49) hb); have n7_ := Aside0.mk (Kd.R_elder' (by (with_reducible repeat (first | apply Kd.R_alloc | apply Kd.R_drewN | apply Kd.R_drew)); exact HO328.out) (Kd.R_base ho49) hb); have n8_ := Aside0.mk (Kd.R_below (by (with_reducible repeat (first | apply Kd.R_alloc | apply Kd.R_drewN | apply Kd.R_drew)); exact HO332.out) hb); have n9_ := Aside0.mk (Kd.R_elder' (by (with_reducible repeat (first | apply Kd.R_alloc | apply Kd.R_drewN | apply Kd.R_drew)); exact HO338.out) (Kd.R_base ho49) hb); have n10_ := Aside0.mk (Kd.R_lower (Kd.R_new' (Kd.R_new' (Kd.R_new' (Kd.R_new' (Kd.R_new' ho49 (Kd.R_lt (by (with_reducible repeat (first | apply Kd.R_alloc | apply Kd.R_drewN | apply Kd.R_drew)); exact HO311.out))) (Kd.R_lt (by (with_reducible repeat (first | apply Kd.R_alloc | apply Kd.R_drewN | apply Kd.R_drew)); exact HO314.out))) (Kd.R_lt (by (with_reducible repeat (first | apply Kd.R_alloc | apply Kd.R_drewN | apply Kd.R_drew)); exact HO325.out))) (Kd.R_lt (by (with_reducible repeat (first | apply Kd.R_alloc | apply Kd.R_drewN | apply Kd.R_drew)); exact HO328.out))) (Kd.R_lt (by (with_reducible repeat (first | apply Kd.R_alloc | apply Kd.R_drewN | apply Kd.R_drew)); exact HO338.out))) (below_size (by repeat (first | (with_reducible first | exact HB.out | apply below_alloc | apply pw_below_drewN | apply below_drew1) | exact HB.out)))); have n11_ := Aside0.mk (below_step (by repeat (first | (with_reducible first | exact HB.out | apply below_alloc | apply pw_below_drewN | apply below_drew1) | exact HB.out)) hb); clear HO_1; clear HO309; clear HO311; clear HO314; clear HO318; clear HO323; clear HO325; clear HO328; clear HO332; clear HO338; clear HB; have HO_1 := n0_; have HO309 := n1_; have HO311 := n2_; have HO314 := n3_; have HO318 := n4_; have HO323 := n5_; have HO325 := n6_; have HO328 := n7_; have HO332 := n8_; have HO338 := n9_; have HO342 := n10_; have HB := n11_; clear n0_ n1_ n2_ n3_ n4_ n5_ n6_ n7_ n8_ n9_ n10_ n11_; clear hb ho49; obtain ⟨Ao50, co50, eo50⟩ := Kd.R_slice HO325.out; subst eo50; obtain ⟨Ao51, co51, eo51⟩ := Kd.R_slice HO342.out; subst eo51) | (go_at_call 14; (with_reducible refine (almanacref03_Ints.calls kj1 _ _ t320 _ _ y340 true _ ?side1 ?side2 ?side3 ?side4 A22.out).mono ?_); (case side1 => repeat (first | exact (Kd.R_reads' HO325.out).2.2 | (with_reducible refine Kd.C_alloc ?_ _) | (with_reducible refine Kd.C_drewN ?_ _) | (with_reducible refine Kd.C_drew ?_))); (case side2 => exact (Kd.R_reads' HO325.out).2.1); (case side3 => repeat (first | exact (Kd.R_reads' HO342.out).2.2 | (with_reducible refine Kd.C_alloc ?_ _) | (with_reducible refine Kd.C_drewN ?_ _) | (with_reducible refine Kd.C_drew ?_))); (case side4 => exact (Kd.R_reads' HO342.out).2.1); rintro e w' ⟨rfl, ⟨nd, rfl⟩⟩) | (go_at_call 15; (with_reducible refine (alloc_Taken.calls _ _ t301 0 true _ ?side1 ?side2 A25.out).mono ?_); (case side1 => repeat (first | exact (Kd.R_reads' HO_1.out).2.2 | (with_reducible refine Kd.C_alloc ?_ _) | (with_reducible refine Kd.C_drewN ?_ _) | (with_reducible refine Kd.C_drew ?_))); (case side2 => exact (Kd.R_reads' HO_1.out).2.1); rintro e w' ⟨rfl, ⟨nd, rfl⟩⟩) | (go_at_call 15; (with_reducible refine (alloc_Taken.calls _ _ t301 3 t345 _ ?side1 ?side2 A27.out).mono ?_); (case side1 => repeat (first | exact (Kd.R_reads' HO_1.out).2.2 | (with_reducible refine Kd.C_alloc ?_ _) | (with_reducible refine Kd.C_drewN ?_ _) | (with_reducible refine Kd.C_drew ?_))); (case side2 => exact (Kd.R_reads' HO_1.out).2.1); rintro e w' ⟨rfl, ⟨nd, rfl⟩⟩))
                            go_ret
                            exact ⟨by first | rfl | (simp [errW_none, errW_some] <;> rfl) | (simp [*, errW_none, errW_some] <;> rfl), by repeat (first | (with_reducible first | exact HB.out | apply below_alloc | apply pw_below_drewN | apply below_drew1) | exact HB.out)⟩
                          · replace c26 := Bool.eq_false_iff.mpr c26
                            subst c26
                            have H1 : (some false) = some r := by rw [if_neg (show ¬ (false = true) by decide)] at H; exact H
                            clear H
                            have H := H1
                            clear H1
                            exact absurd ((Option.some.inj H).trans HRT.out) (by decide)
                        · rw [if_neg c24] at H
                          have c24b0 : (t330 == 15) = false := beq_eq_false_iff_ne.mpr c24
                          have c24b1 : (t330 != 15) = true := bne_iff_ne.mpr c24
                          exact absurd ((Option.some.inj H).trans HRT.out) (by decide)
                      · replace c23 := Bool.eq_false_iff.mpr c23
                        subst c23
                        have H1 : (some false) = some r := by rw [if_neg (show ¬ (false = true) by decide)] at H; exact H
                        clear H
                        have H := H1
                        clear H1
                        exact absurd ((Option.some.inj H).trans HRT.out) (by decide)
                    · rw [if_neg c21] at H
                      have c21b0 : (t321 == 0) = false := beq_eq_false_iff_ne.mpr c21
                      have c21b1 : (t321 != 0) = true := bne_iff_ne.mpr c21
                      exact absurd ((Option.some.inj H).trans HRT.out) (by decide)
                  · rw [if_neg c20] at H
                    have c20b0 : (t316 == 0) = false := beq_eq_false_iff_ne.mpr c20
                    have c20b1 : (t316 != 0) = true := bne_iff_ne.mpr c20
                    exact absurd ((Option.some.inj H).trans HRT.out) (by decide)
                · replace c19 := Bool.eq_false_iff.mpr c19
                  subst c19
                  have H1 : (some false) = some r := by rw [if_neg (show ¬ (false = true) by decide)] at H; exact H
                  clear H
                  have H := H1
                  clear H1
                  exact absurd ((Option.some.inj H).trans HRT.out) (by decide)
              · rw [if_neg c17] at H
                have c17b0 : (t307 == 0) = false := beq_eq_false_iff_ne.mpr c17
                have c17b1 : (t307 != 0) = true := bne_iff_ne.mpr c17
                exact absurd ((Option.some.inj H).trans HRT.out) (by decide)
            · rw [if_neg c16] at H
              have c16b0 : (t335 == 13) = false := beq_eq_false_iff_ne.mpr c16
              have c16b1 : (t335 != 13) = true := bne_iff_ne.mpr c16
              exact absurd ((Option.some.inj H).trans HRT.out) (by decide)
          · rw [if_neg c14] at H
            have c14b0 : (t334 == 3) = false := beq_eq_false_iff_ne.mpr c14
            have c14b1 : (t334 != 3) = true := bne_iff_ne.mpr c14
            exact absurd ((Option.some.inj H).trans HRT.out) (by decide)
        · rw [if_neg c12] at H
          have c12b0 : (t333 == 4) = false := beq_eq_false_iff_ne.mpr c12
          have c12b1 : (t333 != 4) = true := bne_iff_ne.mpr c12
          exact absurd ((Option.some.inj H).trans HRT.out) (by decide)

end Go.Proofs.Ytihnifpcpokpjaa.PD
namespace Go.Proofs.Ytihnifpcpokpjaa.PD
open Go.RowKit Go.Proofs.YtihnifpcpokpjaaW.PrintWords Go.Proofs.YtihnifpcpokpjaaW.PrintLast Go.Proofs.YtihnifpcpokpjaaW.PrintMore
set_option maxRecDepth 100000 in
theorem awake_val : almanaclaw04_awake.f 100 = some true := by kernel_rfl
theorem almanaclaw04_awake.calls (k : Nat) (r : Bool) (w : World) (h : almanaclaw04_awake.f k = some r) :
    Calls Try.prog 7 #[] w fun e w' => e = .returned (.bool r) ∧ Below w.heap.size w w' := by
  refine almanaclaw04_awake.callsT k r w h ?_
  have h1 := at_rounds (fun k => almanaclaw04_awake.mono k) (Nat.le_max_left k 100) h
  have h2 := at_rounds (fun k => almanaclaw04_awake.mono k) (Nat.le_max_right k 100) awake_val
  rw [h1] at h2
  exact Option.some.inj h2
end Go.Proofs.Ytihnifpcpokpjaa.PD
