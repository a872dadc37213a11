/- The example of chapter 19 comes to true. -/
import Derived.Test.YthcoiabgemclbaaSpBase1
import Derived.KernelRfl
-- written by a program of this work (mk.sh, over the kit's print; stubs are proved by hand)
namespace Go.Proofs.Ythcoiabgemclbaa.PD
open Go.RowKit Go.Proofs.YthcoiabgemclbaaW.PrintWords Go.Proofs.YthcoiabgemclbaaW.PrintLast Go.Proofs.YthcoiabgemclbaaW.PrintMore
attribute [local go_sem] isSome_setCell max2_int min2_int max_two min_two max_three min_three max_four min_four   -- for this text's walks alone
set_option linter.unusedVariables false
set_option linter.unusedSimpArgs false

/-! ### almanaclaw19_awake: function 6 -/
def almanaclaw19_awake.f (k : Nat)  : Option (Bool) := (span_Put.f ([] : List (S25)) (⟨#[97]⟩ : ByteArray) 5 9).bind fun t260 => ((span_Put.f t260 (⟨#[98]⟩ : ByteArray) 1 2).bind fun t263 => (if (t263.length : Int) = 2 then (if 0 < (t263.length : Int) then (if ((rd_T25 t263 0).f0).toList = ([98] : List UInt8) then ((span_Over.f t263 2 5).bind fun t267 => ((almanacref08_Texts.f k t267 (([(⟨#[98]⟩ : ByteArray)] : List ByteArray))).bind fun t273 => (if t273 = true then ((span_Over.f t263 9 10).bind fun t274 => ((almanacref08_Texts.f k t274 (([(⟨#[97]⟩ : ByteArray)] : List ByteArray))).bind fun t280 => (if t280 = true then ((span_Bytes.f k ([] : List (S25))).bind fun t281 => (if t281.toList = ([0] : List UInt8) then ((span_Drop.f t263 (⟨#[98]⟩ : ByteArray)).bind fun t282 => (if (t282.length : Int) = 1 then ((span_Fit.f t263).bind fun t285 => (some t285)) else (some false))) else (some false))) else (some false)))) else (some false)))) else (some false)) else (none)) else (some false)))
theorem almanaclaw19_awake.mono : ∀ k, LeO (almanaclaw19_awake.f k ) (almanaclaw19_awake.f (k + 1) ) := by
  intro  k
  unfold almanaclaw19_awake.f
  repeat' first
      | (with_reducible exact almanacref08_Texts.mono _ _ _)
      | (with_reducible exact span_Bytes.mono _ _)
      | (with_reducible exact LeO.refl _)
      | (with_reducible exact LeO.none _)
      | (with_reducible refine LeO.ite ?_ ?_)
      | (with_reducible refine LeO.bind ?_ (fun _ => ?_))
      | exact almanacref08_Texts.mono _ _ _
      | exact span_Bytes.mono _ _
      | exact LeO.none _
      | refine LeO.ite ?_ ?_
      | refine LeO.bind ?_ (fun _ => ?_)
set_option maxHeartbeats 8000000 in
set_option maxRecDepth 100000 in
theorem almanaclaw19_awake.callsT (k : Nat)  (r : Bool) (w : World) (h : almanaclaw19_awake.f k  = some r) (hr : r = true) :
    Calls Try.prog 6 #[] w fun e w' => e = .returned (.bool r) ∧ Below w.heap.size w w' := by
  have HRT := Aside0.mk hr
  clear hr
  have hu25 := Try.underlying25
  have HB := Aside0.mk (Below.refl w.heap.size w)
  have H : ((span_Put.f ([] : List (S25)) (⟨#[97]⟩ : ByteArray) 5 9).bind fun t260 => ((span_Put.f t260 (⟨#[98]⟩ : ByteArray) 1 2).bind fun t263 => (if (t263.length : Int) = 2 then (if 0 < (t263.length : Int) then (if ((rd_T25 t263 0).f0).toList = ([98] : List UInt8) then ((span_Over.f t263 2 5).bind fun t267 => ((almanacref08_Texts.f k t267 (([(⟨#[98]⟩ : ByteArray)] : List ByteArray))).bind fun t273 => (if t273 = true then ((span_Over.f t263 9 10).bind fun t274 => ((almanacref08_Texts.f k t274 (([(⟨#[97]⟩ : ByteArray)] : List ByteArray))).bind fun t280 => (if t280 = true then ((span_Bytes.f k ([] : List (S25))).bind fun t281 => (if t281.toList = ([0] : List UInt8) then ((span_Drop.f t263 (⟨#[98]⟩ : ByteArray)).bind fun t282 => (if (t282.length : Int) = 1 then ((span_Fit.f t263).bind fun t285 => (some t285)) else (some false))) else (some false))) else (some false)))) else (some false)))) else (some false)) else (none)) else (some false)))) = some r := h
  clear h
  replace H := Option.bind_eq_some_iff.mp H
  obtain ⟨t260, A10, H⟩ := H
  replace H : ((span_Put.f t260 (⟨#[98]⟩ : ByteArray) 1 2).bind fun t263 => (if (t263.length : Int) = 2 then (if 0 < (t263.length : Int) then (if ((rd_T25 t263 0).f0).toList = ([98] : List UInt8) then ((span_Over.f t263 2 5).bind fun t267 => ((almanacref08_Texts.f k t267 (([(⟨#[98]⟩ : ByteArray)] : List ByteArray))).bind fun t273 => (if t273 = true then ((span_Over.f t263 9 10).bind fun t274 => ((almanacref08_Texts.f k t274 (([(⟨#[97]⟩ : ByteArray)] : List ByteArray))).bind fun t280 => (if t280 = true then ((span_Bytes.f k ([] : List (S25))).bind fun t281 => (if t281.toList = ([0] : List UInt8) then ((span_Drop.f t263 (⟨#[98]⟩ : ByteArray)).bind fun t282 => (if (t282.length : Int) = 1 then ((span_Fit.f t263).bind fun t285 => (some t285)) else (some false))) else (some false))) else (some false)))) else (some false)))) else (some false)) else (none)) else (some false))) = some r := H
  have A1 := Aside0.mk A10
  clear A10
  replace H := Option.bind_eq_some_iff.mp H
  obtain ⟨t263, A20, H⟩ := H
  replace H : (if (t263.length : Int) = 2 then (if 0 < (t263.length : Int) then (if ((rd_T25 t263 0).f0).toList = ([98] : List UInt8) then ((span_Over.f t263 2 5).bind fun t267 => ((almanacref08_Texts.f k t267 (([(⟨#[98]⟩ : ByteArray)] : List ByteArray))).bind fun t273 => (if t273 = true then ((span_Over.f t263 9 10).bind fun t274 => ((almanacref08_Texts.f k t274 (([(⟨#[97]⟩ : ByteArray)] : List ByteArray))).bind fun t280 => (if t280 = true then ((span_Bytes.f k ([] : List (S25))).bind fun t281 => (if t281.toList = ([0] : List UInt8) then ((span_Drop.f t263 (⟨#[98]⟩ : ByteArray)).bind fun t282 => (if (t282.length : Int) = 1 then ((span_Fit.f t263).bind fun t285 => (some t285)) else (some false))) else (some false))) else (some false)))) else (some false)))) else (some false)) else (none)) else (some false)) = some r := H
  have A2 := Aside0.mk A20
  clear A20
  by_cases c3 : (t263.length : Int) = 2
  · rw [if_pos c3] at H
    have c3b0 : ((t263.length : Int) == 2) = true := beq_iff_eq.mpr c3
    have c3b1 : ((t263.length : Int) != 2) = false := bne_eq_false_iff_eq.mpr c3
    clear c3
    by_cases c4 : 0 < (t263.length : Int)
    · rw [if_pos c4] at H
      have c4b0 : decide (0 < (t263.length : Int)) = true := decide_eq_true c4
      have c4b1 : decide (0 < t263.length) = true := decide_eq_true (by omega)
      clear c4
      by_cases c5 : ((rd_T25 t263 0).f0).toList = ([98] : List UInt8)
      · rw [if_pos c5] at H
        have c5b0 : (((rd_T25 t263 0).f0).toList == ([98] : List UInt8)) = true := beq_iff_eq.mpr c5
        have c5b1 : (((rd_T25 t263 0).f0).toList != ([98] : List UInt8)) = false := bne_eq_false_iff_eq.mpr c5
        clear c5
        replace H := Option.bind_eq_some_iff.mp H
        obtain ⟨t267, A60, H⟩ := H
        replace H : ((almanacref08_Texts.f k t267 (([(⟨#[98]⟩ : ByteArray)] : List ByteArray))).bind fun t273 => (if t273 = true then ((span_Over.f t263 9 10).bind fun t274 => ((almanacref08_Texts.f k t274 (([(⟨#[97]⟩ : ByteArray)] : List ByteArray))).bind fun t280 => (if t280 = true then ((span_Bytes.f k ([] : List (S25))).bind fun t281 => (if t281.toList = ([0] : List UInt8) then ((span_Drop.f t263 (⟨#[98]⟩ : ByteArray)).bind fun t282 => (if (t282.length : Int) = 1 then ((span_Fit.f t263).bind fun t285 => (some t285)) else (some false))) else (some false))) else (some false)))) else (some false))) = some r := H
        have A6 := Aside0.mk A60
        clear A60
        obtain ⟨y270, hy270⟩ : ∃ y_ : List ByteArray, y_ = (([(⟨#[98]⟩ : ByteArray)] : List ByteArray)) := ⟨_, rfl⟩
        replace H : ((almanacref08_Texts.f k t267 y270).bind fun t273 => (if t273 = true then ((span_Over.f t263 9 10).bind fun t274 => ((almanacref08_Texts.f k t274 (([(⟨#[97]⟩ : ByteArray)] : List ByteArray))).bind fun t280 => (if t280 = true then ((span_Bytes.f k ([] : List (S25))).bind fun t281 => (if t281.toList = ([0] : List UInt8) then ((span_Drop.f t263 (⟨#[98]⟩ : ByteArray)).bind fun t282 => (if (t282.length : Int) = 1 then ((span_Fit.f t263).bind fun t285 => (some t285)) else (some false))) else (some false))) else (some false)))) else (some false))) = some r := by first | (rw [hy270]; with_reducible exact H) | (have H2_ := (Option.bind_some _ _).symm.trans H; rw [hy270]; with_reducible exact H2_) | (have H2_ := (Option.bind_some _ _).symm.trans H; with_reducible exact H2_) | with_reducible exact H | (rw [hy270]; exact H) | exact H
        have Ny270 := Aside0.mk hy270
        clear hy270
        replace H := Option.bind_eq_some_iff.mp H
        obtain ⟨t273, A70, H⟩ := H
        replace H : (if t273 = true then ((span_Over.f t263 9 10).bind fun t274 => ((almanacref08_Texts.f k t274 (([(⟨#[97]⟩ : ByteArray)] : List ByteArray))).bind fun t280 => (if t280 = true then ((span_Bytes.f k ([] : List (S25))).bind fun t281 => (if t281.toList = ([0] : List UInt8) then ((span_Drop.f t263 (⟨#[98]⟩ : ByteArray)).bind fun t282 => (if (t282.length : Int) = 1 then ((span_Fit.f t263).bind fun t285 => (some t285)) else (some false))) else (some false))) else (some false)))) else (some false)) = some r := H
        have A7 := Aside0.mk A70
        clear A70
        by_cases c8 : t273 = true
        · subst c8
          have H1 : ((span_Over.f t263 9 10).bind fun t274 => ((almanacref08_Texts.f k t274 (([(⟨#[97]⟩ : ByteArray)] : List ByteArray))).bind fun t280 => (if t280 = true then ((span_Bytes.f k ([] : List (S25))).bind fun t281 => (if t281.toList = ([0] : List UInt8) then ((span_Drop.f t263 (⟨#[98]⟩ : ByteArray)).bind fun t282 => (if (t282.length : Int) = 1 then ((span_Fit.f t263).bind fun t285 => (some t285)) else (some false))) else (some false))) else (some false)))) = some r := by rw [if_pos rfl] at H; exact H
          clear H
          have H := H1
          clear H1
          replace H := Option.bind_eq_some_iff.mp H
          obtain ⟨t274, A90, H⟩ := H
          replace H : ((almanacref08_Texts.f k t274 (([(⟨#[97]⟩ : ByteArray)] : List ByteArray))).bind fun t280 => (if t280 = true then ((span_Bytes.f k ([] : List (S25))).bind fun t281 => (if t281.toList = ([0] : List UInt8) then ((span_Drop.f t263 (⟨#[98]⟩ : ByteArray)).bind fun t282 => (if (t282.length : Int) = 1 then ((span_Fit.f t263).bind fun t285 => (some t285)) else (some false))) else (some false))) else (some false))) = some r := H
          have A9 := Aside0.mk A90
          clear A90
          obtain ⟨y277, hy277⟩ : ∃ y_ : List ByteArray, y_ = (([(⟨#[97]⟩ : ByteArray)] : List ByteArray)) := ⟨_, rfl⟩
          replace H : ((almanacref08_Texts.f k t274 y277).bind fun t280 => (if t280 = true then ((span_Bytes.f k ([] : List (S25))).bind fun t281 => (if t281.toList = ([0] : List UInt8) then ((span_Drop.f t263 (⟨#[98]⟩ : ByteArray)).bind fun t282 => (if (t282.length : Int) = 1 then ((span_Fit.f t263).bind fun t285 => (some t285)) else (some false))) else (some false))) else (some false))) = some r := by first | (rw [hy277]; with_reducible exact H) | (have H2_ := (Option.bind_some _ _).symm.trans H; rw [hy277]; with_reducible exact H2_) | (have H2_ := (Option.bind_some _ _).symm.trans H; with_reducible exact H2_) | with_reducible exact H | (rw [hy277]; exact H) | exact H
          have Ny277 := Aside0.mk hy277
          clear hy277
          replace H := Option.bind_eq_some_iff.mp H
          obtain ⟨t280, A100, H⟩ := H
          replace H : (if t280 = true then ((span_Bytes.f k ([] : List (S25))).bind fun t281 => (if t281.toList = ([0] : List UInt8) then ((span_Drop.f t263 (⟨#[98]⟩ : ByteArray)).bind fun t282 => (if (t282.length : Int) = 1 then ((span_Fit.f t263).bind fun t285 => (some t285)) else (some false))) else (some false))) else (some false)) = some r := H
          have A10 := Aside0.mk A100
          clear A100
          by_cases c11 : t280 = true
          · subst c11
            have H1 : ((span_Bytes.f k ([] : List (S25))).bind fun t281 => (if t281.toList = ([0] : List UInt8) then ((span_Drop.f t263 (⟨#[98]⟩ : ByteArray)).bind fun t282 => (if (t282.length : Int) = 1 then ((span_Fit.f t263).bind fun t285 => (some t285)) else (some false))) else (some false))) = some r := by rw [if_pos rfl] at H; exact H
            clear H
            have H := H1
            clear H1
            replace H := Option.bind_eq_some_iff.mp H
            obtain ⟨t281, A120, H⟩ := H
            replace H : (if t281.toList = ([0] : List UInt8) then ((span_Drop.f t263 (⟨#[98]⟩ : ByteArray)).bind fun t282 => (if (t282.length : Int) = 1 then ((span_Fit.f t263).bind fun t285 => (some t285)) else (some false))) else (some false)) = some r := H
            have A12 := Aside0.mk A120
            clear A120
            by_cases c13 : t281.toList = ([0] : List UInt8)
            · rw [if_pos c13] at H
              have c13b0 : (t281.toList == ([0] : List UInt8)) = true := beq_iff_eq.mpr c13
              have c13b1 : (t281.toList != ([0] : List UInt8)) = false := bne_eq_false_iff_eq.mpr c13
              clear c13
              replace H := Option.bind_eq_some_iff.mp H
              obtain ⟨t282, A140, H⟩ := H
              replace H : (if (t282.length : Int) = 1 then ((span_Fit.f t263).bind fun t285 => (some t285)) else (some false)) = some r := H
              have A14 := Aside0.mk A140
              clear A140
              by_cases c15 : (t282.length : Int) = 1
              · rw [if_pos c15] at H
                have c15b0 : ((t282.length : Int) == 1) = true := beq_iff_eq.mpr c15
                have c15b1 : ((t282.length : Int) != 1) = false := bne_eq_false_iff_eq.mpr c15
                clear c15
                replace H := Option.bind_eq_some_iff.mp H
                obtain ⟨t285, A160, H⟩ := H
                replace H : (some t285) = some r := H
                have A16 := Aside0.mk A160
                clear A160
                obtain rfl := Option.some.inj H
                go_enter Try.func6, Try.ntmps6
                go_wp2_with (first | ((with_reducible refine gate_callee (f := 7) rfl ?_); refine goesL_ (some 3) rfl rfl Try.func7 (by kernel_rfl) rfl #[.slice none 0 0, .agg #[.string (⟨#[97]⟩ : ByteArray), .int .i64 5, .int .i64 9]] rfl (by (try simp only [List.map_toArray, List.map_cons, List.map_nil]); first | done | rfl | (simp only [List.length_drop, List.length_take]; rfl)) ?_; (refine (span_Put.calls _ _ ([] : List (S25)) (⟨#[97]⟩ : ByteArray) 5 9 t260 _ ?side1 ?side2 A1.out).mono ?_); (case side1 => exact Kd.C_nil _ _); (case side2 => exact Nat.le_refl _); rintro e w17 ⟨v261, rfl, ho0, hb⟩; refine ⟨_, rfl, ?_⟩; have n0_ := Aside0.mk (Kd.R_lower ho0 (below_size (by repeat (first | (with_reducible first | exact HB.out | apply below_alloc | apply pw_below_drewN | apply below_drew1) | exact HB.out)))); have n1_ := Aside0.mk (below_step (by repeat (first | (with_reducible first | exact HB.out | apply below_alloc | apply pw_below_drewN | apply below_drew1) | exact HB.out)) hb); clear HB; have HO262 := n0_; have HB := n1_; clear n0_ n1_; (try clear hb); (try clear hb2); (try clear hk); (try clear hi); (try clear ho0); obtain ⟨Ao18, co18, eo18⟩ := Kd.R_slice HO262.out; subst eo18) | ((with_reducible refine gate_callee (f := 7) rfl ?_); refine goesL_ (some 5) rfl rfl Try.func7 (by kernel_rfl) rfl #[.slice Ao18 t260.length co18, .agg #[.string (⟨#[98]⟩ : ByteArray), .int .i64 1, .int .i64 2]] rfl (by (try simp only [List.map_toArray, List.map_cons, List.map_nil]); first | done | rfl | (simp only [List.length_drop, List.length_take]; rfl)) ?_; (with_reducible refine (span_Put.calls _ _ t260 (⟨#[98]⟩ : ByteArray) 1 2 t263 _ ?side1 ?side2 A2.out).mono ?_); (case side1 => repeat (first | exact (Kd.R_reads' HO262.out).2.2 | (with_reducible refine Kd.C_alloc ?_ _) | (with_reducible refine Kd.C_drewN ?_ _) | (with_reducible refine Kd.C_drew ?_))); (case side2 => exact (Kd.R_reads' HO262.out).2.1); rintro e w19 ⟨v264, rfl, ho0, hb⟩; refine ⟨_, rfl, ?_⟩; have n0_ := Aside0.mk (Kd.R_elder' (by (with_reducible repeat (first | apply Kd.R_alloc | apply Kd.R_drewN | apply Kd.R_drew)); exact HO262.out) (Kd.R_base ho0) hb); have n1_ := Aside0.mk (Kd.R_lower (Kd.R_new' ho0 (Kd.R_lt (by (with_reducible repeat (first | apply Kd.R_alloc | apply Kd.R_drewN | apply Kd.R_drew)); exact HO262.out))) (below_size (by repeat (first | (with_reducible first | exact HB.out | apply below_alloc | apply pw_below_drewN | apply below_drew1) | exact HB.out)))); have n2_ := Aside0.mk (below_step (by repeat (first | (with_reducible first | exact HB.out | apply below_alloc | apply pw_below_drewN | apply below_drew1) | exact HB.out)) hb); clear HO262; clear HB; have HO262 := n0_; have HO265 := n1_; have HB := n2_; clear n0_ n1_ n2_; (try clear hb); (try clear hb2); (try clear hk); (try clear hi); (try clear ho0); obtain ⟨Ao20, co20, eo20⟩ := Kd.R_slice HO265.out; subst eo20; have p266 : 0 ≤ (0 : Int) := (by omega); have q266 : 0 < (t263.length : Int) := of_decide_eq_true (by first | (with_reducible assumption) | assumption); obtain ⟨ad266, e266, hx266_0, hx266_1, hx266_2⟩ := at_T25 (Kd.R_reads' HO265.out).2.2 0 p266 q266; cases e266; have qi266 : (0 < t263.length) = True := eq_true (by omega); (try rw [show ((0 : Int)).toNat = 0 from rfl] at hx266_0); (try rw [show 0 * 3 = 0 from rfl] at hx266_0); (try rw [Addr.add_zero'] at hx266_0); (try rw [show ((0 : Int)).toNat = 0 from rfl] at hx266_1); (try rw [show 0 * 3 = 0 from rfl] at hx266_1); (try rw [Addr.add_zero'] at hx266_1); (try rw [show ((0 : Int)).toNat = 0 from rfl] at hx266_2); (try rw [show 0 * 3 = 0 from rfl] at hx266_2); (try rw [Addr.add_zero'] at hx266_2); replace p266 := eq_true p266; replace q266 := eq_true q266) | (go_at_call 10; (with_reducible refine (span_Over.calls _ _ t263 2 5 t267 _ ?side1 ?side2 A6.out).mono ?_); (case side1 => repeat (first | exact (Kd.R_reads' HO265.out).2.2 | (with_reducible refine Kd.C_alloc ?_ _) | (with_reducible refine Kd.C_drewN ?_ _) | (with_reducible refine Kd.C_drew ?_))); (case side2 => exact (Kd.R_reads' HO265.out).2.1); rintro e w21 ⟨v268, rfl, ho0, hb⟩; have n0_ := Aside0.mk (Kd.R_below (by (with_reducible repeat (first | apply Kd.R_alloc | apply Kd.R_drewN | apply Kd.R_drew)); exact HO262.out) hb); have n1_ := Aside0.mk (Kd.R_below (by (with_reducible repeat (first | apply Kd.R_alloc | apply Kd.R_drewN | apply Kd.R_drew)); exact HO265.out) hb); have n2_ := Aside0.mk (Kd.R_lower ho0 (below_size (by repeat (first | (with_reducible first | exact HB.out | apply below_alloc | apply pw_below_drewN | apply below_drew1) | exact HB.out)))); have n3_ := Aside0.mk (below_step (by repeat (first | (with_reducible first | exact HB.out | apply below_alloc | apply pw_below_drewN | apply below_drew1) | exact HB.out)) hb); clear HO262; clear HO265; clear HB; have HO262 := n0_; have HO265 := n1_; have HO269 := n2_; have HB := n3_; clear n0_ n1_ n2_ n3_; (try clear hb); (try clear hb2); (try clear hk); (try clear hi); (try clear ho0)) | ((with_reducible refine gate_dst (N := 19) rfl ?_); (try (refine gate_guard (by rfl) ?_; dsimp only)); refine Kd.R_lit Kd.string _ 9 ?hg (N := 19) ?hd (xs := ([(⟨#[98]⟩ : ByteArray)] : List ByteArray)) (inner := [.string (⟨#[98]⟩ : ByteArray)]) (ok := fun _ => True) (okp := fun _ => True) ?hr ?hp (fun _ hk => hk) trivial (Below.refl _ _) (Nat.le_refl _) (by simp) ?_; (case hd => rfl); (case hg => rfl); (case hr => first | (go_simp; done) | (go_simp; rfl)); (case hp => exact (Reps.one (show Kd.M Kd.string _ _ _ (⟨#[98]⟩ : ByteArray) [.string (⟨#[98]⟩ : ByteArray)] from rfl) (Reps.none _ _))); intro v271 w22 ho23 hb hg_ hnew_; clear hg_ hnew_; (first | rw [← Ny270.out] at ho23 | (simp only [Int.reduceToNat] at ho23; rw [← Ny270.out] at ho23)); have n0_ := Aside0.mk (Kd.R_below (by (with_reducible repeat (first | apply Kd.R_alloc | apply Kd.R_drewN | apply Kd.R_drew)); exact HO262.out) hb); have n1_ := Aside0.mk (Kd.R_below (by (with_reducible repeat (first | apply Kd.R_alloc | apply Kd.R_drewN | apply Kd.R_drew)); exact HO265.out) hb); have n2_ := Aside0.mk (Kd.R_elder' (by (with_reducible repeat (first | apply Kd.R_alloc | apply Kd.R_drewN | apply Kd.R_drew)); exact HO269.out) (Kd.R_base ho23) hb); have n3_ := Aside0.mk (Kd.R_lower (Kd.R_new' ho23 (Kd.R_lt (by (with_reducible repeat (first | apply Kd.R_alloc | apply Kd.R_drewN | apply Kd.R_drew)); exact HO269.out))) (below_size (by repeat (first | (with_reducible first | exact HB.out | apply below_alloc | apply pw_below_drewN | apply below_drew1) | exact HB.out)))); have n4_ := Aside0.mk (below_step (by repeat (first | (with_reducible first | exact HB.out | apply below_alloc | apply pw_below_drewN | apply below_drew1) | exact HB.out)) hb); clear HO262; clear HO265; clear HO269; clear HB; have HO262 := n0_; have HO265 := n1_; have HO269 := n2_; have HO272 := n3_; have HB := n4_; clear n0_ n1_ n2_ n3_ n4_; clear hb ho23; obtain ⟨Ao24, co24, eo24⟩ := Kd.R_slice HO269.out; subst eo24; obtain ⟨Ao25, co25, eo25⟩ := Kd.R_slice HO272.out; subst eo25) | (go_at_call 17; (with_reducible refine (almanacref08_Texts.calls k _ _ t267 _ _ y270 true _ ?side1 ?side2 ?side3 ?side4 A7.out).mono ?_); (case side1 => repeat (first | exact (Kd.R_reads' HO269.out).2.2 | (with_reducible refine Kd.C_alloc ?_ _) | (with_reducible refine Kd.C_drewN ?_ _) | (with_reducible refine Kd.C_drew ?_))); (case side2 => exact (Kd.R_reads' HO269.out).2.1); (case side3 => repeat (first | exact (Kd.R_reads' HO272.out).2.2 | (with_reducible refine Kd.C_alloc ?_ _) | (with_reducible refine Kd.C_drewN ?_ _) | (with_reducible refine Kd.C_drew ?_))); (case side4 => exact (Kd.R_reads' HO272.out).2.1); rintro e w' ⟨rfl, ⟨nd, rfl⟩⟩) | (go_at_call 10; (with_reducible refine (span_Over.calls _ _ t263 9 10 t274 _ ?side1 ?side2 A9.out).mono ?_); (case side1 => repeat (first | exact (Kd.R_reads' HO265.out).2.2 | (with_reducible refine Kd.C_alloc ?_ _) | (with_reducible refine Kd.C_drewN ?_ _) | (with_reducible refine Kd.C_drew ?_))); (case side2 => exact (Kd.R_reads' HO265.out).2.1); rintro e w26 ⟨v275, rfl, ho0, hb⟩; have n0_ := Aside0.mk (Kd.R_below (by (with_reducible repeat (first | apply Kd.R_alloc | apply Kd.R_drewN | apply Kd.R_drew)); exact HO262.out) hb); have n1_ := Aside0.mk (Kd.R_below (by (with_reducible repeat (first | apply Kd.R_alloc | apply Kd.R_drewN | apply Kd.R_drew)); exact HO265.out) hb); have n2_ := Aside0.mk (Kd.R_elder' (by (with_reducible repeat (first | apply Kd.R_alloc | apply Kd.R_drewN | apply Kd.R_drew)); exact HO269.out) (Kd.R_base ho0) hb); have n3_ := Aside0.mk (Kd.R_elder' (by (with_reducible repeat (first | apply Kd.R_alloc | apply Kd.R_drewN | apply Kd.R_drew)); exact HO272.out) (Kd.R_base ho0) hb); have n4_ := Aside0.mk (Kd.R_lower (Kd.R_new' (Kd.R_new' ho0 (Kd.R_lt (by (with_reducible repeat (first | apply Kd.R_alloc | apply Kd.R_drewN | apply Kd.R_drew)); exact HO269.out))) (Kd.R_lt (by (with_reducible repeat (first | apply Kd.R_alloc | apply Kd.R_drewN | apply Kd.R_drew)); exact HO272.out))) (below_size (by repeat (first | (with_reducible first | exact HB.out | apply below_alloc | apply pw_below_drewN | apply below_drew1) | exact HB.out)))); have n5_ := Aside0.mk (below_step (by repeat (first | (with_reducible first | exact HB.out | apply below_alloc | apply pw_below_drewN | apply below_drew1) | exact HB.out)) hb); clear HO262; clear HO265; clear HO269; clear HO272; clear HB; have HO262 := n0_; have HO265 := n1_; have HO269 := n2_; have HO272 := n3_; have HO276 := n4_; have HB := n5_; clear n0_ n1_ n2_ n3_ n4_ n5_; (try clear hb); (try clear hb2); (try clear hk); (try clear hi); (try clear ho0)) | ((with_reducible refine gate_dst (N := 25) rfl ?_); (try (refine gate_guard (by rfl) ?_; dsimp only)); refine Kd.R_lit Kd.string _ 9 ?hg (N := 25) ?hd (xs := ([(⟨#[97]⟩ : ByteArray)] : List ByteArray)) (inner := [.string (⟨#[97]⟩ : ByteArray)]) (ok := fun _ => True) (okp := fun _ => True) ?hr ?hp (fun _ hk => hk) trivial (Below.refl _ _) (Nat.le_refl _) (by simp) ?_; (case hd => rfl); (case hg => rfl); (case hr => first | (go_simp; done) | (go_simp; rfl)); (case hp => exact (Reps.one (show Kd.M Kd.string _ _ _ (⟨#[97]⟩ : ByteArray) [.string (⟨#[97]⟩ : ByteArray)] from rfl) (Reps.none _ _))); intro v278 w27 ho28 hb hg_ hnew_; clear hg_ hnew_; (first | rw [← Ny277.out] at ho28 | (simp only [Int.reduceToNat] at ho28; rw [← Ny277.out] at ho28)); have n0_ := Aside0.mk (Kd.R_below (by (with_reducible repeat (first | apply Kd.R_alloc | apply Kd.R_drewN | apply Kd.R_drew)); exact HO262.out) hb); have n1_ := Aside0.mk (Kd.R_below (by (with_reducible repeat (first | apply Kd.R_alloc | apply Kd.R_drewN | apply Kd.R_drew)); exact HO265.out) hb); have n2_ := Aside0.mk (Kd.R_elder' (by (with_reducible repeat (first | apply Kd.R_alloc | apply Kd.R_drewN | apply Kd.R_drew)); exact HO269.out) (Kd.R_base ho28) hb); have n3_ := Aside0.mk (Kd.R_elder' (by (with_reducible repeat (first | apply Kd.R_alloc | apply Kd.R_drewN | apply Kd.R_drew)); exact HO272.out) (Kd.R_base ho28) hb); have n4_ := Aside0.mk (Kd.R_elder' (by (with_reducible repeat (first | apply Kd.R_alloc | apply Kd.R_drewN | apply Kd.R_drew)); exact HO276.out) (Kd.R_base ho28) hb); have n5_ := Aside0.mk (Kd.R_lower (Kd.R_new' (Kd.R_new' (Kd.R_new' ho28 (Kd.R_lt (by (with_reducible repeat (first | apply Kd.R_alloc | apply Kd.R_drewN | apply Kd.R_drew)); exact HO269.out))) (Kd.R_lt (by (with_reducible repeat (first | apply Kd.R_alloc | apply Kd.R_drewN | apply Kd.R_drew)); exact HO272.out))) (Kd.R_lt (by (with_reducible repeat (first | apply Kd.R_alloc | apply Kd.R_drewN | apply Kd.R_drew)); exact HO276.out))) (below_size (by repeat (first | (with_reducible first | exact HB.out | apply below_alloc | apply pw_below_drewN | apply below_drew1) | exact HB.out)))); have n6_ := Aside0.mk (below_step (by repeat (first | (with_reducible first | exact HB.out | apply below_alloc | apply pw_below_drewN | apply below_drew1) | exact HB.out)) hb); clear HO262; clear HO265; clear HO269; clear HO272; clear HO276; clear HB; have HO262 := n0_; have HO265 := n1_; have HO269 := n2_; have HO272 := n3_; have HO276 := n4_; have HO279 := n5_; have HB := n6_; clear n0_ n1_ n2_ n3_ n4_ n5_ n6_; clear hb ho28; obtain ⟨Ao29, co29, eo29⟩ := Kd.R_slice HO276.out; subst eo29; obtain ⟨Ao30, co30, eo30⟩ := Kd.R_slice HO279.out; subst eo30) | (go_at_call 17; (with_reducible refine (almanacref08_Texts.calls k _ _ t274 _ _ y277 true _ ?side1 ?side2 ?side3 ?side4 A10.out).mono ?_); (case side1 => repeat (first | exact (Kd.R_reads' HO276.out).2.2 | (with_reducible refine Kd.C_alloc ?_ _) | (with_reducible refine Kd.C_drewN ?_ _) | (with_reducible refine Kd.C_drew ?_))); (case side2 => exact (Kd.R_reads' HO276.out).2.1); (case side3 => repeat (first | exact (Kd.R_reads' HO279.out).2.2 | (with_reducible refine Kd.C_alloc ?_ _) | (with_reducible refine Kd.C_drewN ?_ _) | (with_reducible refine Kd.C_drew ?_))); (case side4 => exact (Kd.R_reads' HO279.out).2.1); rintro e w' ⟨rfl, ⟨nd, rfl⟩⟩) | (go_at_call 21; (refine (span_Bytes.calls k _ _ ([] : List (S25)) t281 _ ?side1 ?side2 A12.out).mono ?_); (case side1 => exact Kd.C_nil _ _); (case side2 => exact Nat.le_refl _); rintro e w31 ⟨rfl, hb⟩; have n0_ := Aside0.mk (Kd.R_below (by (with_reducible repeat (first | apply Kd.R_alloc | apply Kd.R_drewN | apply Kd.R_drew)); exact HO262.out) hb); have n1_ := Aside0.mk (Kd.R_below (by (with_reducible repeat (first | apply Kd.R_alloc | apply Kd.R_drewN | apply Kd.R_drew)); exact HO265.out) hb); have n2_ := Aside0.mk (Kd.R_below (by (with_reducible repeat (first | apply Kd.R_alloc | apply Kd.R_drewN | apply Kd.R_drew)); exact HO269.out) hb); have n3_ := Aside0.mk (Kd.R_below (by (with_reducible repeat (first | apply Kd.R_alloc | apply Kd.R_drewN | apply Kd.R_drew)); exact HO272.out) hb); have n4_ := Aside0.mk (Kd.R_below (by (with_reducible repeat (first | apply Kd.R_alloc | apply Kd.R_drewN | apply Kd.R_drew)); exact HO276.out) hb); have n5_ := Aside0.mk (Kd.R_below (by (with_reducible repeat (first | apply Kd.R_alloc | apply Kd.R_drewN | apply Kd.R_drew)); exact HO279.out) hb); have n6_ := Aside0.mk (below_step (by repeat (first | (with_reducible first | exact HB.out | apply below_alloc | apply pw_below_drewN | apply below_drew1) | exact HB.out)) hb); clear HO262; clear HO265; clear HO269; clear HO272; clear HO276; clear HO279; clear HB; have HO262 := n0_; have HO265 := n1_; have HO269 := n2_; have HO272 := n3_; have HO276 := n4_; have HO279 := n5_; have HB := n6_; clear n0_ n1_ n2_ n3_ n4_ n5_ n6_; (try clear hb); (try clear hb2); (try clear hk); (try clear hi)) | (go_at_call 15; (with_reducible refine (span_Drop.calls _ _ t263 (⟨#[98]⟩ : ByteArray) t282 _ ?side1 ?side2 A14.out).mono ?_); (case side1 => repeat (first | exact (Kd.R_reads' HO265.out).2.2 | (with_reducible refine Kd.C_alloc ?_ _) | (with_reducible refine Kd.C_drewN ?_ _) | (with_reducible refine Kd.C_drew ?_))); (case side2 => exact (Kd.R_reads' HO265.out).2.1); rintro e w32 ⟨v283, rfl, ho0, hb⟩; have n0_ := Aside0.mk (Kd.R_elder' (by (with_reducible repeat (first | apply Kd.R_alloc | apply Kd.R_drewN | apply Kd.R_drew)); exact HO262.out) (Kd.R_base ho0) hb); have n1_ := Aside0.mk (Kd.R_elder' (by (with_reducible repeat (first | apply Kd.R_alloc | apply Kd.R_drewN | apply Kd.R_drew)); exact HO265.out) (Kd.R_base ho0) hb); have n2_ := Aside0.mk (Kd.R_below (by (with_reducible repeat (first | apply Kd.R_alloc | apply Kd.R_drewN | apply Kd.R_drew)); exact HO269.out) hb); have n3_ := Aside0.mk (Kd.R_below (by (with_reducible repeat (first | apply Kd.R_alloc | apply Kd.R_drewN | apply Kd.R_drew)); exact HO272.out) hb); have n4_ := Aside0.mk (Kd.R_below (by (with_reducible repeat (first | apply Kd.R_alloc | apply Kd.R_drewN | apply Kd.R_drew)); exact HO276.out) hb); have n5_ := Aside0.mk (Kd.R_below (by (with_reducible repeat (first | apply Kd.R_alloc | apply Kd.R_drewN | apply Kd.R_drew)); exact HO279.out) hb); have n6_ := Aside0.mk (Kd.R_lower (Kd.R_new' (Kd.R_new' ho0 (Kd.R_lt (by (with_reducible repeat (first | apply Kd.R_alloc | apply Kd.R_drewN | apply Kd.R_drew)); exact HO262.out))) (Kd.R_lt (by (with_reducible repeat (first | apply Kd.R_alloc | apply Kd.R_drewN | apply Kd.R_drew)); exact HO265.out))) (below_size (by repeat (first | (with_reducible first | exact HB.out | apply below_alloc | apply pw_below_drewN | apply below_drew1) | exact HB.out)))); have n7_ := Aside0.mk (below_step (by repeat (first | (with_reducible first | exact HB.out | apply below_alloc | apply pw_below_drewN | apply below_drew1) | exact HB.out)) hb); clear HO262; clear HO265; clear HO269; clear HO272; clear HO276; clear HO279; clear HB; have HO262 := n0_; have HO265 := n1_; have HO269 := n2_; have HO272 := n3_; have HO276 := n4_; have HO279 := n5_; have HO284 := n6_; have HB := n7_; clear n0_ n1_ n2_ n3_ n4_ n5_ n6_ n7_; (try clear hb); (try clear hb2); (try clear hk); (try clear hi); (try clear ho0); obtain ⟨Ao33, co33, eo33⟩ := Kd.R_slice HO284.out; subst eo33) | (go_at_call 8; (with_reducible refine (span_Fit.calls _ _ t263 t285 _ ?side1 ?side2 A16.out).mono ?_); (case side1 => repeat (first | exact (Kd.R_reads' HO265.out).2.2 | (with_reducible refine Kd.C_alloc ?_ _) | (with_reducible refine Kd.C_drewN ?_ _) | (with_reducible refine Kd.C_drew ?_))); (case side2 => exact (Kd.R_reads' HO265.out).2.1); rintro e w34 ⟨rfl, hb⟩; have n0_ := Aside0.mk (Kd.R_below (by (with_reducible repeat (first | apply Kd.R_alloc | apply Kd.R_drewN | apply Kd.R_drew)); exact HO262.out) hb); have n1_ := Aside0.mk (Kd.R_below (by (with_reducible repeat (first | apply Kd.R_alloc | apply Kd.R_drewN | apply Kd.R_drew)); exact HO265.out) hb); have n2_ := Aside0.mk (Kd.R_below (by (with_reducible repeat (first | apply Kd.R_alloc | apply Kd.R_drewN | apply Kd.R_drew)); exact HO269.out) hb); have n3_ := Aside0.mk (Kd.R_below (by (with_reducible repeat (first | apply Kd.R_alloc | apply Kd.R_drewN | apply Kd.R_drew)); exact HO272.out) hb); have n4_ := Aside0.mk (Kd.R_below (by (with_reducible repeat (first | apply Kd.R_alloc | apply Kd.R_drewN | apply Kd.R_drew)); exact HO276.out) hb); have n5_ := Aside0.mk (Kd.R_below (by (with_reducible repeat (first | apply Kd.R_alloc | apply Kd.R_drewN | apply Kd.R_drew)); exact HO279.out) hb); have n6_ := Aside0.mk (Kd.R_below (by (with_reducible repeat (first | apply Kd.R_alloc | apply Kd.R_drewN | apply Kd.R_drew)); exact HO284.out) hb); have n7_ := Aside0.mk (below_step (by repeat (first | (with_reducible first | exact HB.out | apply below_alloc | apply pw_below_drewN | apply below_drew1) | exact HB.out)) hb); clear HO262; clear HO265; clear HO269; clear HO272; clear HO276; clear HO279; clear HO284; clear HB; have HO262 := n0_; have HO265 := n1_; have HO269 := n2_; have HO272 := n3_; have HO276 := n4_; have HO279 := n5_; have HO284 := n6_; have HB := n7_; clear n0_ n1_ n2_ n3_ n4_ n5_ n6_ n7_; (try clear hb); (try clear hb2); (try clear hk); (try clear hi)))
                go_ret
                exact ⟨by first | rfl | (simp [errW_none, errW_some] <;> rfl) | (simp [*, errW_none, errW_some] <;> rfl), by repeat (first | (with_reducible first | exact HB.out | apply below_alloc | apply pw_below_drewN | apply below_drew1) | exact HB.out)⟩
              · rw [if_neg c15] at H
                have c15b0 : ((t282.length : Int) == 1) = false := beq_eq_false_iff_ne.mpr c15
                have c15b1 : ((t282.length : Int) != 1) = true := bne_iff_ne.mpr c15
                exact absurd ((Option.some.inj H).trans HRT.out) (by decide)
            · rw [if_neg c13] at H
              have c13b0 : (t281.toList == ([0] : List UInt8)) = false := beq_eq_false_iff_ne.mpr c13
              have c13b1 : (t281.toList != ([0] : List UInt8)) = true := bne_iff_ne.mpr c13
              exact absurd ((Option.some.inj H).trans HRT.out) (by decide)
          · replace c11 := Bool.eq_false_iff.mpr c11
            subst c11
            have H1 : (some false) = some r := by rw [if_neg (show ¬ (false = true) by decide)] at H; exact H
            clear H
            have H := H1
            clear H1
            exact absurd ((Option.some.inj H).trans HRT.out) (by decide)
        · replace c8 := Bool.eq_false_iff.mpr c8
          subst c8
          have H1 : (some false) = some r := by rw [if_neg (show ¬ (false = true) by decide)] at H; exact H
          clear H
          have H := H1
          clear H1
          exact absurd ((Option.some.inj H).trans HRT.out) (by decide)
      · rw [if_neg c5] at H
        have c5b0 : (((rd_T25 t263 0).f0).toList == ([98] : List UInt8)) = false := beq_eq_false_iff_ne.mpr c5
        have c5b1 : (((rd_T25 t263 0).f0).toList != ([98] : List UInt8)) = true := bne_iff_ne.mpr c5
        exact absurd ((Option.some.inj H).trans HRT.out) (by decide)
    · rw [if_neg c4] at H
      exact absurd H (by simp)
  · rw [if_neg c3] at H
    have c3b0 : ((t263.length : Int) == 2) = false := beq_eq_false_iff_ne.mpr c3
    have c3b1 : ((t263.length : Int) != 2) = true := bne_iff_ne.mpr c3
    exact absurd ((Option.some.inj H).trans HRT.out) (by decide)

end Go.Proofs.Ythcoiabgemclbaa.PD
namespace Go.Proofs.Ythcoiabgemclbaa.PD
open Go.RowKit Go.Proofs.YthcoiabgemclbaaW.PrintWords Go.Proofs.YthcoiabgemclbaaW.PrintLast Go.Proofs.YthcoiabgemclbaaW.PrintMore
set_option maxRecDepth 100000 in
theorem awake_val : almanaclaw19_awake.f 8 = some true := by kernel_rfl
theorem almanaclaw19_awake.calls (k : Nat) (r : Bool) (w : World) (h : almanaclaw19_awake.f k = some r) :
    Calls Try.prog 6 #[] w fun e w' => e = .returned (.bool r) ∧ Below w.heap.size w w' := by
  refine almanaclaw19_awake.callsT k r w h ?_
  have h1 := at_rounds (fun k => almanaclaw19_awake.mono k) (Nat.le_max_left k 8) h
  have h2 := at_rounds (fun k => almanaclaw19_awake.mono k) (Nat.le_max_right k 8) awake_val
  rw [h1] at h2
  exact Option.some.inj h2
end Go.Proofs.Ythcoiabgemclbaa.PD
