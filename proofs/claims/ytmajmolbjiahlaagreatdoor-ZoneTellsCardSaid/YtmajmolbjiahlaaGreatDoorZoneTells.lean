/- The law ZoneTells holds of every zone and every time (the tied card): the three tables of the library that the row lists are tied to the program's text. -/
import Derived.Test.YtmajmolbjiahlaaGreatDoorZoneTells5
import Derived.Test.YtmajmolbjiahlaaGreatDoorZoneTells2
import Derived.Test.YtmajmolbjiahlaaGreatDoorZoneTells3
import Derived.Test.YtmajmolbjiahlaaGreatDoorZoneTells4
import Derived.Test.YtmajmolbjiahlaaGreatDoorTie
import Derived.Test.YtmajmolbjiahlaaGreatDoorCards
import Derived.SevenTiedAt
namespace Go.Proofs.YtmajmolbjiahlaaGreatDoor.PD
open Go.RowKit Go.Proofs.YtmajmolbjiahlaaGreatDoorW.PrintWords Go.Proofs.YtmajmolbjiahlaaGreatDoorW.PrintLast Go.Proofs.YtmajmolbjiahlaaGreatDoorW.PrintMore
attribute [local go_sem] isSome_setCell max2_int min2_int max_two min_two max_three min_three max_four min_four
set_option linter.unusedVariables false
set_option linter.unusedSimpArgs false
def date_ReadStamp.f (a0 : ByteArray) : Option (Int × Int) := if (a0.size : Int) = 15 then (if 0 ≤ 8 then (if 8 ≤ (a0.size : Int) then ((date_ReadDay.f (a0.extract 0 8)).bind fun bt274 => ((date_field.f a0 9 2).bind fun t276 => ((date_field.f a0 11 2).bind fun t277 => ((date_field.f a0 13 2).bind fun t278 => (if bt274.2 = 0 then ((date_Stamp.f (wrap64 ((wrap64 ((wrap64 ((wrap64 (bt274.1 * 86400)) + (wrap64 (t276 * 3600)))) + (wrap64 (t277 * 60)))) + t278))).bind fun t279 => (if t279.toList = a0.toList then (some (wrap64 ((wrap64 ((wrap64 ((wrap64 (bt274.1 * 86400)) + (wrap64 (t276 * 3600)))) + (wrap64 (t277 * 60)))) + t278), 0)) else (some (0, 10)))) else (some (0, 10))))))) else (none)) else (none)) else (some (0, 10))
set_option maxHeartbeats 8000000 in
set_option maxRecDepth 100000 in
theorem date_ReadStamp.calls (a0 : ByteArray) (r1 : Int) (r2 : Int) (w : World) (h : date_ReadStamp.f a0 = some (r1, r2)) (hTab : Tab w) :
    Calls Tryz.prog 31 #[.string a0] w fun e w' => e = .returned (.tuple #[.int .i64 r1, .int .i64 r2]) ∧ Below w.heap.size w w' := by
  have HTab := Aside0.mk hTab
  clear hTab
  have HB := Aside0.mk (Below.refl w.heap.size w)
  have H : (if (a0.size : Int) = 15 then (if 0 ≤ 8 then (if 8 ≤ (a0.size : Int) then ((date_ReadDay.f (a0.extract 0 8)).bind fun bt274 => ((date_field.f a0 9 2).bind fun t276 => ((date_field.f a0 11 2).bind fun t277 => ((date_field.f a0 13 2).bind fun t278 => (if bt274.2 = 0 then ((date_Stamp.f (wrap64 ((wrap64 ((wrap64 ((wrap64 (bt274.1 * 86400)) + (wrap64 (t276 * 3600)))) + (wrap64 (t277 * 60)))) + t278))).bind fun t279 => (if t279.toList = a0.toList then (some (wrap64 ((wrap64 ((wrap64 ((wrap64 (bt274.1 * 86400)) + (wrap64 (t276 * 3600)))) + (wrap64 (t277 * 60)))) + t278), 0)) else (some (0, 10)))) else (some (0, 10))))))) else (none)) else (none)) else (some (0, 10))) = some (r1, r2) := h
  clear h
  by_cases c2 : (a0.size : Int) = 15
  · rw [if_pos c2] at H
    have c2b0 : ((a0.size : Int) == 15) = true := beq_iff_eq.mpr c2
    have c2b1 : ((a0.size : Int) != 15) = false := bne_eq_false_iff_eq.mpr c2
    clear c2
    by_cases c3 : 0 ≤ 8
    · rw [if_pos c3] at H
      have c3b0 := eq_true c3
      have c3b1 : decide (0 ≤ 8) = true := decide_eq_true c3
      clear c3
      by_cases c4 : 8 ≤ (a0.size : Int)
      · rw [if_pos c4] at H
        have c4b0 := eq_true c4
        have c4b1 : decide (8 ≤ (a0.size : Int)) = true := decide_eq_true c4
        clear c4
        replace H := Option.bind_eq_some_iff.mp H
        obtain ⟨⟨t274, t275⟩, A50, H⟩ := H
        replace H : ((date_field.f a0 9 2).bind fun t276 => ((date_field.f a0 11 2).bind fun t277 => ((date_field.f a0 13 2).bind fun t278 => (if t275 = 0 then ((date_Stamp.f (wrap64 ((wrap64 ((wrap64 ((wrap64 (t274 * 86400)) + (wrap64 (t276 * 3600)))) + (wrap64 (t277 * 60)))) + t278))).bind fun t279 => (if t279.toList = a0.toList then (some (wrap64 ((wrap64 ((wrap64 ((wrap64 (t274 * 86400)) + (wrap64 (t276 * 3600)))) + (wrap64 (t277 * 60)))) + t278), 0)) else (some (0, 10)))) else (some (0, 10)))))) = some (r1, r2) := H
        have A5 := Aside0.mk A50
        clear A50
        replace H := Option.bind_eq_some_iff.mp H
        obtain ⟨t276, A60, H⟩ := H
        replace H : ((date_field.f a0 11 2).bind fun t277 => ((date_field.f a0 13 2).bind fun t278 => (if t275 = 0 then ((date_Stamp.f (wrap64 ((wrap64 ((wrap64 ((wrap64 (t274 * 86400)) + (wrap64 (t276 * 3600)))) + (wrap64 (t277 * 60)))) + t278))).bind fun t279 => (if t279.toList = a0.toList then (some (wrap64 ((wrap64 ((wrap64 ((wrap64 (t274 * 86400)) + (wrap64 (t276 * 3600)))) + (wrap64 (t277 * 60)))) + t278), 0)) else (some (0, 10)))) else (some (0, 10))))) = some (r1, r2) := H
        have A6 := Aside0.mk A60
        clear A60
        replace H := Option.bind_eq_some_iff.mp H
        obtain ⟨t277, A70, H⟩ := H
        replace H : ((date_field.f a0 13 2).bind fun t278 => (if t275 = 0 then ((date_Stamp.f (wrap64 ((wrap64 ((wrap64 ((wrap64 (t274 * 86400)) + (wrap64 (t276 * 3600)))) + (wrap64 (t277 * 60)))) + t278))).bind fun t279 => (if t279.toList = a0.toList then (some (wrap64 ((wrap64 ((wrap64 ((wrap64 (t274 * 86400)) + (wrap64 (t276 * 3600)))) + (wrap64 (t277 * 60)))) + t278), 0)) else (some (0, 10)))) else (some (0, 10)))) = some (r1, r2) := H
        have A7 := Aside0.mk A70
        clear A70
        replace H := Option.bind_eq_some_iff.mp H
        obtain ⟨t278, A80, H⟩ := H
        replace H : (if t275 = 0 then ((date_Stamp.f (wrap64 ((wrap64 ((wrap64 ((wrap64 (t274 * 86400)) + (wrap64 (t276 * 3600)))) + (wrap64 (t277 * 60)))) + t278))).bind fun t279 => (if t279.toList = a0.toList then (some (wrap64 ((wrap64 ((wrap64 ((wrap64 (t274 * 86400)) + (wrap64 (t276 * 3600)))) + (wrap64 (t277 * 60)))) + t278), 0)) else (some (0, 10)))) else (some (0, 10))) = some (r1, r2) := H
        have A8 := Aside0.mk A80
        clear A80
        by_cases c9 : t275 = 0
        · rw [if_pos c9] at H
          have c9b0 : (t275 == 0) = true := beq_iff_eq.mpr c9
          have c9b1 : (t275 != 0) = false := bne_eq_false_iff_eq.mpr c9
          clear c9
          replace H := Option.bind_eq_some_iff.mp H
          obtain ⟨t279, A100, H⟩ := H
          replace H : (if t279.toList = a0.toList then (some (wrap64 ((wrap64 ((wrap64 ((wrap64 (t274 * 86400)) + (wrap64 (t276 * 3600)))) + (wrap64 (t277 * 60)))) + t278), 0)) else (some (0, 10))) = some (r1, r2) := H
          have A10 := Aside0.mk A100
          clear A100
          by_cases c11 : t279.toList = a0.toList
          · rw [if_pos c11] at H
            have c11b0 : (t279.toList == a0.toList) = true := beq_iff_eq.mpr c11
            have c11b1 : (t279.toList != a0.toList) = false := bne_eq_false_iff_eq.mpr c11
            clear c11
            simp only [Option.some.injEq, Prod.mk.injEq] at H
            obtain ⟨rfl, rfl⟩ := H
            go_enter Tryz.func31, Tryz.ntmps31
            go_wp2_with (first | ((with_reducible refine gate_callee (f := 50) rfl ?_); refine goesL_ (some 13) rfl rfl Tryz.func50 (by kernel_rfl) rfl #[.string (a0.extract 0 8)] rfl (by (try simp only [List.map_toArray, List.map_cons, List.map_nil]); first | done | rfl | (simp only [List.length_drop, List.length_take]; rfl)) ?_; (with_reducible refine (date_ReadDay.calls (a0.extract 0 8) t274 t275 _ A5.out).mono ?_); rintro e w12 ⟨rfl, hb⟩; refine ⟨_, rfl, ?_⟩; have n0_ := Aside0.mk (below_step (by repeat (first | (with_reducible first | exact HB.out | apply below_alloc | apply pw_below_drewN | apply below_drew1) | exact HB.out)) hb); clear HB; have HB := n0_; clear n0_; (try clear hb); (try clear hb2); (try clear hk); (try clear hi)) | ((with_reducible refine gate_callee (f := 51) rfl ?_); refine goesL_ (some 19) rfl rfl Tryz.func51 (by kernel_rfl) rfl #[.string a0, .int .i64 9, .int .i64 2] rfl (by (try simp only [List.map_toArray, List.map_cons, List.map_nil]); first | done | rfl | (simp only [List.length_drop, List.length_take]; rfl)) ?_; (with_reducible refine (date_field.calls a0 9 2 t276 _ A6.out).mono ?_); rintro e w13 ⟨rfl, hb⟩; refine ⟨_, rfl, ?_⟩; have n0_ := Aside0.mk (below_step (by repeat (first | (with_reducible first | exact HB.out | apply below_alloc | apply pw_below_drewN | apply below_drew1) | exact HB.out)) hb); clear HB; have HB := n0_; clear n0_; (try clear hb); (try clear hb2); (try clear hk); (try clear hi)) | ((with_reducible refine gate_callee (f := 51) rfl ?_); refine goesL_ (some 23) rfl rfl Tryz.func51 (by kernel_rfl) rfl #[.string a0, .int .i64 11, .int .i64 2] rfl (by (try simp only [List.map_toArray, List.map_cons, List.map_nil]); first | done | rfl | (simp only [List.length_drop, List.length_take]; rfl)) ?_; (with_reducible refine (date_field.calls a0 11 2 t277 _ A7.out).mono ?_); rintro e w14 ⟨rfl, hb⟩; refine ⟨_, rfl, ?_⟩; have n0_ := Aside0.mk (below_step (by repeat (first | (with_reducible first | exact HB.out | apply below_alloc | apply pw_below_drewN | apply below_drew1) | exact HB.out)) hb); clear HB; have HB := n0_; clear n0_; (try clear hb); (try clear hb2); (try clear hk); (try clear hi)) | ((with_reducible refine gate_callee (f := 51) rfl ?_); refine goesL_ (some 27) rfl rfl Tryz.func51 (by kernel_rfl) rfl #[.string a0, .int .i64 13, .int .i64 2] rfl (by (try simp only [List.map_toArray, List.map_cons, List.map_nil]); first | done | rfl | (simp only [List.length_drop, List.length_take]; rfl)) ?_; (with_reducible refine (date_field.calls a0 13 2 t278 _ A8.out).mono ?_); rintro e w15 ⟨rfl, hb⟩; refine ⟨_, rfl, ?_⟩; have n0_ := Aside0.mk (below_step (by repeat (first | (with_reducible first | exact HB.out | apply below_alloc | apply pw_below_drewN | apply below_drew1) | exact HB.out)) hb); clear HB; have HB := n0_; clear n0_; (try clear hb); (try clear hb2); (try clear hk); (try clear hi)) | (go_at_call 52; (with_reducible refine (date_Stamp.calls (wrap64 ((wrap64 ((wrap64 ((wrap64 (t274 * 86400)) + (wrap64 (t276 * 3600)))) + (wrap64 (t277 * 60)))) + t278)) t279 _ A10.out (HTab.out.below (by repeat (first | (with_reducible first | exact HB.out | apply below_alloc | apply pw_below_drewN | apply below_drew1) | exact HB.out)))).mono ?_); rintro e w16 ⟨rfl, hb⟩; have n0_ := Aside0.mk (below_step (by repeat (first | (with_reducible first | exact HB.out | apply below_alloc | apply pw_below_drewN | apply below_drew1) | exact HB.out)) hb); clear HB; have HB := n0_; clear n0_; (try clear hb); (try clear hb2); (try clear hk); (try clear hi)))
            go_ret2
            exact ⟨by first | rfl | (simp [errW_none, errW_some] <;> rfl) | (simp [*, errW_none, errW_some] <;> rfl), by repeat (first | (with_reducible first | exact HB.out | apply below_alloc | apply pw_below_drewN | apply below_drew1) | exact HB.out)⟩
          · rw [if_neg c11] at H
            have c11b0 : (t279.toList == a0.toList) = false := beq_eq_false_iff_ne.mpr c11
            have c11b1 : (t279.toList != a0.toList) = true := bne_iff_ne.mpr c11
            simp only [Option.some.injEq, Prod.mk.injEq] at H
            obtain ⟨rfl, rfl⟩ := H
            go_enter Tryz.func31, Tryz.ntmps31
            go_wp2_with (first | ((with_reducible refine gate_callee (f := 50) rfl ?_); refine goesL_ (some 13) rfl rfl Tryz.func50 (by kernel_rfl) rfl #[.string (a0.extract 0 8)] rfl (by (try simp only [List.map_toArray, List.map_cons, List.map_nil]); first | done | rfl | (simp only [List.length_drop, List.length_take]; rfl)) ?_; (with_reducible refine (date_ReadDay.calls (a0.extract 0 8) t274 t275 _ A5.out).mono ?_); rintro e w17 ⟨rfl, hb⟩; refine ⟨_, rfl, ?_⟩; have n0_ := Aside0.mk (below_step (by repeat (first | (with_reducible first | exact HB.out | apply below_alloc | apply pw_below_drewN | apply below_drew1) | exact HB.out)) hb); clear HB; have HB := n0_; clear n0_; (try clear hb); (try clear hb2); (try clear hk); (try clear hi)) | ((with_reducible refine gate_callee (f := 51) rfl ?_); refine goesL_ (some 19) rfl rfl Tryz.func51 (by kernel_rfl) rfl #[.string a0, .int .i64 9, .int .i64 2] rfl (by (try simp only [List.map_toArray, List.map_cons, List.map_nil]); first | done | rfl | (simp only [List.length_drop, List.length_take]; rfl)) ?_; (with_reducible refine (date_field.calls a0 9 2 t276 _ A6.out).mono ?_); rintro e w18 ⟨rfl, hb⟩; refine ⟨_, rfl, ?_⟩; have n0_ := Aside0.mk (below_step (by repeat (first | (with_reducible first | exact HB.out | apply below_alloc | apply pw_below_drewN | apply below_drew1) | exact HB.out)) hb); clear HB; have HB := n0_; clear n0_; (try clear hb); (try clear hb2); (try clear hk); (try clear hi)) | ((with_reducible refine gate_callee (f := 51) rfl ?_); refine goesL_ (some 23) rfl rfl Tryz.func51 (by kernel_rfl) rfl #[.string a0, .int .i64 11, .int .i64 2] rfl (by (try simp only [List.map_toArray, List.map_cons, List.map_nil]); first | done | rfl | (simp only [List.length_drop, List.length_take]; rfl)) ?_; (with_reducible refine (date_field.calls a0 11 2 t277 _ A7.out).mono ?_); rintro e w19 ⟨rfl, hb⟩; refine ⟨_, rfl, ?_⟩; have n0_ := Aside0.mk (below_step (by repeat (first | (with_reducible first | exact HB.out | apply below_alloc | apply pw_below_drewN | apply below_drew1) | exact HB.out)) hb); clear HB; have HB := n0_; clear n0_; (try clear hb); (try clear hb2); (try clear hk); (try clear hi)) | ((with_reducible refine gate_callee (f := 51) rfl ?_); refine goesL_ (some 27) rfl rfl Tryz.func51 (by kernel_rfl) rfl #[.string a0, .int .i64 13, .int .i64 2] rfl (by (try simp only [List.map_toArray, List.map_cons, List.map_nil]); first | done | rfl | (simp only [List.length_drop, List.length_take]; rfl)) ?_; (with_reducible refine (date_field.calls a0 13 2 t278 _ A8.out).mono ?_); rintro e w20 ⟨rfl, hb⟩; refine ⟨_, rfl, ?_⟩; have n0_ := Aside0.mk (below_step (by repeat (first | (with_reducible first | exact HB.out | apply below_alloc | apply pw_below_drewN | apply below_drew1) | exact HB.out)) hb); clear HB; have HB := n0_; clear n0_; (try clear hb); (try clear hb2); (try clear hk); (try clear hi)) | (go_at_call 52; (with_reducible refine (date_Stamp.calls (wrap64 ((wrap64 ((wrap64 ((wrap64 (t274 * 86400)) + (wrap64 (t276 * 3600)))) + (wrap64 (t277 * 60)))) + t278)) t279 _ A10.out (HTab.out.below (by repeat (first | (with_reducible first | exact HB.out | apply below_alloc | apply pw_below_drewN | apply below_drew1) | exact HB.out)))).mono ?_); rintro e w21 ⟨rfl, hb⟩; have n0_ := Aside0.mk (below_step (by repeat (first | (with_reducible first | exact HB.out | apply below_alloc | apply pw_below_drewN | apply below_drew1) | exact HB.out)) hb); clear HB; have HB := n0_; clear n0_; (try clear hb); (try clear hb2); (try clear hk); (try clear hi)))
            go_ret2
            exact ⟨by first | rfl | (simp [errW_none, errW_some] <;> rfl) | (simp [*, errW_none, errW_some] <;> rfl), by repeat (first | (with_reducible first | exact HB.out | apply below_alloc | apply pw_below_drewN | apply below_drew1) | exact HB.out)⟩
        · rw [if_neg c9] at H
          have c9b0 : (t275 == 0) = false := beq_eq_false_iff_ne.mpr c9
          have c9b1 : (t275 != 0) = true := bne_iff_ne.mpr c9
          simp only [Option.some.injEq, Prod.mk.injEq] at H
          obtain ⟨rfl, rfl⟩ := H
          go_enter Tryz.func31, Tryz.ntmps31
          go_wp2_with (first | ((with_reducible refine gate_callee (f := 50) rfl ?_); refine goesL_ (some 13) rfl rfl Tryz.func50 (by kernel_rfl) rfl #[.string (a0.extract 0 8)] rfl (by (try simp only [List.map_toArray, List.map_cons, List.map_nil]); first | done | rfl | (simp only [List.length_drop, List.length_take]; rfl)) ?_; (with_reducible refine (date_ReadDay.calls (a0.extract 0 8) t274 t275 _ A5.out).mono ?_); rintro e w22 ⟨rfl, hb⟩; refine ⟨_, rfl, ?_⟩; have n0_ := Aside0.mk (below_step (by repeat (first | (with_reducible first | exact HB.out | apply below_alloc | apply pw_below_drewN | apply below_drew1) | exact HB.out)) hb); clear HB; have HB := n0_; clear n0_; (try clear hb); (try clear hb2); (try clear hk); (try clear hi)) | ((with_reducible refine gate_callee (f := 51) rfl ?_); refine goesL_ (some 19) rfl rfl Tryz.func51 (by kernel_rfl) rfl #[.string a0, .int .i64 9, .int .i64 2] rfl (by (try simp only [List.map_toArray, List.map_cons, List.map_nil]); first | done | rfl | (simp only [List.length_drop, List.length_take]; rfl)) ?_; (with_reducible refine (date_field.calls a0 9 2 t276 _ A6.out).mono ?_); rintro e w23 ⟨rfl, hb⟩; refine ⟨_, rfl, ?_⟩; have n0_ := Aside0.mk (below_step (by repeat (first | (with_reducible first | exact HB.out | apply below_alloc | apply pw_below_drewN | apply below_drew1) | exact HB.out)) hb); clear HB; have HB := n0_; clear n0_; (try clear hb); (try clear hb2); (try clear hk); (try clear hi)) | ((with_reducible refine gate_callee (f := 51) rfl ?_); refine goesL_ (some 23) rfl rfl Tryz.func51 (by kernel_rfl) rfl #[.string a0, .int .i64 11, .int .i64 2] rfl (by (try simp only [List.map_toArray, List.map_cons, List.map_nil]); first | done | rfl | (simp only [List.length_drop, List.length_take]; rfl)) ?_; (with_reducible refine (date_field.calls a0 11 2 t277 _ A7.out).mono ?_); rintro e w24 ⟨rfl, hb⟩; refine ⟨_, rfl, ?_⟩; have n0_ := Aside0.mk (below_step (by repeat (first | (with_reducible first | exact HB.out | apply below_alloc | apply pw_below_drewN | apply below_drew1) | exact HB.out)) hb); clear HB; have HB := n0_; clear n0_; (try clear hb); (try clear hb2); (try clear hk); (try clear hi)) | ((with_reducible refine gate_callee (f := 51) rfl ?_); refine goesL_ (some 27) rfl rfl Tryz.func51 (by kernel_rfl) rfl #[.string a0, .int .i64 13, .int .i64 2] rfl (by (try simp only [List.map_toArray, List.map_cons, List.map_nil]); first | done | rfl | (simp only [List.length_drop, List.length_take]; rfl)) ?_; (with_reducible refine (date_field.calls a0 13 2 t278 _ A8.out).mono ?_); rintro e w25 ⟨rfl, hb⟩; refine ⟨_, rfl, ?_⟩; have n0_ := Aside0.mk (below_step (by repeat (first | (with_reducible first | exact HB.out | apply below_alloc | apply pw_below_drewN | apply below_drew1) | exact HB.out)) hb); clear HB; have HB := n0_; clear n0_; (try clear hb); (try clear hb2); (try clear hk); (try clear hi)))
          go_ret2
          exact ⟨by first | rfl | (simp [errW_none, errW_some] <;> rfl) | (simp [*, errW_none, errW_some] <;> rfl), by repeat (first | (with_reducible first | exact HB.out | apply below_alloc | apply pw_below_drewN | apply below_drew1) | exact HB.out)⟩
      · rw [if_neg c4] at H
        exact absurd H (by simp)
    · rw [if_neg c3] at H
      exact absurd H (by simp)
  · rw [if_neg c2] at H
    have c2b0 : ((a0.size : Int) == 15) = false := beq_eq_false_iff_ne.mpr c2
    have c2b1 : ((a0.size : Int) != 15) = true := bne_iff_ne.mpr c2
    simp only [Option.some.injEq, Prod.mk.injEq] at H
    obtain ⟨rfl, rfl⟩ := H
    go_enter Tryz.func31, Tryz.ntmps31
    go_wp2
    go_ret2
    exact ⟨by first | rfl | (simp [errW_none, errW_some] <;> rfl) | (simp [*, errW_none, errW_some] <;> rfl), by repeat (first | (with_reducible first | exact HB.out | apply below_alloc | apply pw_below_drewN | apply below_drew1) | exact HB.out)⟩
end Go.Proofs.YtmajmolbjiahlaaGreatDoor.PD
namespace Go.Proofs.YtmajmolbjiahlaaGreatDoor.PD
open Go.RowKit Go.Proofs.YtmajmolbjiahlaaGreatDoorW.PrintWords Go.Proofs.YtmajmolbjiahlaaGreatDoorW.PrintLast Go.Proofs.YtmajmolbjiahlaaGreatDoorW.PrintMore
attribute [local go_sem] isSome_setCell max2_int min2_int max_two min_two max_three min_three max_four min_four
set_option linter.unusedVariables false
set_option linter.unusedSimpArgs false
def zone_stamp.f (a0 : ByteArray) : Option (Int) := (date_ReadStamp.f a0).bind fun bt280 => (some bt280.1)
set_option maxHeartbeats 8000000 in
set_option maxRecDepth 100000 in
theorem zone_stamp.calls (a0 : ByteArray) (r : Int) (w : World) (h : zone_stamp.f a0 = some r) (hTab : Tab w) :
    Calls Tryz.prog 54 #[.string a0] w fun e w' => e = .returned (.int .i64 r) ∧ Below w.heap.size w w' := by
  have HTab := Aside0.mk hTab
  clear hTab
  have HB := Aside0.mk (Below.refl w.heap.size w)
  have H : ((date_ReadStamp.f a0).bind fun bt280 => (some bt280.1)) = some r := h
  clear h
  replace H := Option.bind_eq_some_iff.mp H
  obtain ⟨⟨t280, t281⟩, A20, H⟩ := H
  replace H : (some t280) = some r := H
  have A2 := Aside0.mk A20
  clear A20
  obtain rfl := Option.some.inj H
  go_enter Tryz.func54, Tryz.ntmps54
  go_wp2_with (first | ((with_reducible refine gate_callee (f := 31) rfl ?_); refine goesL_ (some 7) rfl rfl Tryz.func31 (by kernel_rfl) rfl #[.string a0] rfl (by (try simp only [List.map_toArray, List.map_cons, List.map_nil]); first | done | rfl | (simp only [List.length_drop, List.length_take]; rfl)) ?_; (with_reducible refine (date_ReadStamp.calls a0 t280 t281 _ A2.out (HTab.out.below (by repeat (first | (with_reducible first | exact HB.out | apply below_alloc | apply pw_below_drewN | apply below_drew1) | exact HB.out)))).mono ?_); rintro e w3 ⟨rfl, hb⟩; refine ⟨_, rfl, ?_⟩; have n0_ := Aside0.mk (below_step (by repeat (first | (with_reducible first | exact HB.out | apply below_alloc | apply pw_below_drewN | apply below_drew1) | exact HB.out)) hb); clear HB; have HB := n0_; clear n0_; (try clear hb); (try clear hb2); (try clear hk); (try clear hi)))
  go_ret
  exact ⟨by first | rfl | (simp [errW_none, errW_some] <;> rfl) | (simp [*, errW_none, errW_some] <;> rfl), by repeat (first | (with_reducible first | exact HB.out | apply below_alloc | apply pw_below_drewN | apply below_drew1) | exact HB.out)⟩
end Go.Proofs.YtmajmolbjiahlaaGreatDoor.PD
namespace Go.Proofs.YtmajmolbjiahlaaGreatDoor.PD
open Go.RowKit Go.Proofs.YtmajmolbjiahlaaGreatDoorW.PrintWords Go.Proofs.YtmajmolbjiahlaaGreatDoorW.PrintLast Go.Proofs.YtmajmolbjiahlaaGreatDoorW.PrintMore
attribute [local go_sem] isSome_setCell max2_int min2_int max_two min_two max_three min_three max_four min_four
set_option linter.unusedVariables false
set_option linter.unusedSimpArgs false
def zone_sundays.f (a0 : ByteArray) (a1 : Int) (a2 : Int) (a3 : Int) (a4 : Int) : Option (Int × Int × Int × Bool × Int × Int × Int) := (zone_stamp.f a0).bind fun t283 => (some (t283, wrap64 (a1 * 3600), wrap64 (a2 * 3600), true, a3, a4, 6))
set_option maxHeartbeats 8000000 in
set_option maxRecDepth 100000 in
theorem zone_sundays.calls (a0 : ByteArray) (a1 : Int) (a2 : Int) (a3 : Int) (a4 : Int) (r1 : Int) (r2 : Int) (r3 : Int) (r4 : Bool) (r5 : Int) (r6 : Int) (r7 : Int) (w : World) (h : zone_sundays.f a0 a1 a2 a3 a4 = some (r1, r2, r3, r4, r5, r6, r7)) (hTab : Tab w) :
    Calls Tryz.prog 53 #[.string a0, .int .i64 a1, .int .i64 a2, .int .i64 a3, .int .i64 a4] w fun e w' => e = .returned (.agg #[.int .i64 r1, .int .i64 r2, .int .i64 r3, .bool r4, .int .i64 r5, .int .i64 r6, .int .i64 r7]) ∧ Below w.heap.size w w' := by
  have HTab := Aside0.mk hTab
  clear hTab
  have hu32 := Tryz.underlying32
  have hu30 := Tryz.underlying30
  have HB := Aside0.mk (Below.refl w.heap.size w)
  have H : ((zone_stamp.f a0).bind fun t283 => (some (t283, wrap64 (a1 * 3600), wrap64 (a2 * 3600), true, a3, a4, 6))) = some (r1, r2, r3, r4, r5, r6, r7) := h
  clear h
  replace H := Option.bind_eq_some_iff.mp H
  obtain ⟨t283, A60, H⟩ := H
  replace H : (some (t283, wrap64 (a1 * 3600), wrap64 (a2 * 3600), true, a3, a4, 6)) = some (r1, r2, r3, r4, r5, r6, r7) := H
  have A6 := Aside0.mk A60
  clear A60
  simp only [Option.some.injEq, Prod.mk.injEq] at H
  obtain ⟨rfl, rfl, rfl, rfl, rfl, rfl, rfl⟩ := H
  go_enter Tryz.func53, Tryz.ntmps53
  go_wp2_with (first | ((with_reducible refine gate_dst (N := 10) rfl ?_); refine box_event ?hg (N := 10) ?hd (cs := #[.int .i64 0, .int .i64 0, .int .i64 0, .bool false, .int .i64 0, .int .i64 0, .int .i64 0]) (t := 32) ?hr ?_; (case hd => rfl); (case hg => rfl); (case hr => first | (go_simp; done) | (go_simp; rfl)); intro gb282 hg w7 hbox hb; have n0_ := Aside0.mk (below_step (by repeat (first | (with_reducible first | exact HB.out | apply below_alloc | apply pw_below_drewN | apply below_drew1) | exact HB.out)) hb); have n1_ := Aside0.mk (hbox); have n2_ := Aside0.mk ((by rw [hg]; exact (below_size (by repeat (first | (with_reducible first | exact HB.out | apply below_alloc | apply pw_below_drewN | apply below_drew1) | exact HB.out))) : w.heap.size ≤ gb282)); have n3_ := Aside0.mk ((by rw [hg]; exact (below_size (by repeat (first | (with_reducible first | exact HB.out | apply below_alloc | apply pw_below_drewN | apply below_drew1) | exact HB.out))) : w.heap.size ≤ gb282)); clear HB; have HB := n0_; have BK282 := n1_; have GW282 := n2_; have GE282 := n3_; clear n0_ n1_ n2_ n3_; clear hb hbox hg) | ((with_reducible refine gate_callee (f := 54) rfl ?_); refine goesL_ (some 12) rfl rfl Tryz.func54 (by kernel_rfl) rfl #[.string a0] rfl (by (try simp only [List.map_toArray, List.map_cons, List.map_nil]); first | done | rfl | (simp only [List.length_drop, List.length_take]; rfl)) ?_; (with_reducible refine (zone_stamp.calls a0 t283 _ A6.out (HTab.out.below (by repeat (first | (with_reducible first | exact HB.out | apply below_alloc | apply pw_below_drewN | apply below_drew1) | exact HB.out)))).mono ?_); rintro e w8 ⟨rfl, hb⟩; refine ⟨_, rfl, ?_⟩; have n0_ := Aside0.mk (blk_below (g := gb282) (o := .cells #[.int .i64 0, .int .i64 0, .int .i64 0, .bool false, .int .i64 0, .int .i64 0, .int .i64 0] 32 (0, 0)) (by (with_reducible repeat (first | refine blk_drewN ?_ _ | refine blk_drew ?_ | refine blk_alloc ?_ _)); exact BK282.out) hb); have n1_ := Aside0.mk (below_step (by repeat (first | (with_reducible first | exact HB.out | apply below_alloc | apply pw_below_drewN | apply below_drew1 | refine below_set ?_ GE282.out) | exact HB.out)) hb); clear BK282; clear HB; have BK282 := n0_; have HB := n1_; clear n0_ n1_; (try clear hb); (try clear hb2); (try clear hk); (try clear hi); have hcz9_0 : w8.cell? ⟨gb282, 0, none⟩ = some (.int .i64 0) := (blk_cell BK282.out 0).trans rfl; have hcz9_1 : w8.cell? ⟨gb282, 1, none⟩ = some (.int .i64 0) := (blk_cell BK282.out 1).trans rfl; have hcz9_2 : w8.cell? ⟨gb282, 2, none⟩ = some (.int .i64 0) := (blk_cell BK282.out 2).trans rfl; have hcz9_3 : w8.cell? ⟨gb282, 3, none⟩ = some (.bool false) := (blk_cell BK282.out 3).trans rfl; have hcz9_4 : w8.cell? ⟨gb282, 4, none⟩ = some (.int .i64 0) := (blk_cell BK282.out 4).trans rfl; have hcz9_5 : w8.cell? ⟨gb282, 5, none⟩ = some (.int .i64 0) := (blk_cell BK282.out 5).trans rfl; have hcz9_6 : w8.cell? ⟨gb282, 6, none⟩ = some (.int .i64 0) := (blk_cell BK282.out 6).trans rfl; have hfz9_0 := blk_frozen BK282.out 0; have hfz9_1 := blk_frozen BK282.out 1; have hfz9_2 := blk_frozen BK282.out 2; have hfz9_3 := blk_frozen BK282.out 3; have hfz9_4 := blk_frozen BK282.out 4; have hfz9_5 := blk_frozen BK282.out 5; have hfz9_6 := blk_frozen BK282.out 6))
  refine bodyPost_ret (results_cell_row rfl _ _ gb282 32 #[.int .i64 t283, .int .i64 (wrap64 (a1 * 3600)), .int .i64 (wrap64 (a2 * 3600)), .bool true, .int .i64 a3, .int .i64 a4, .int .i64 6] (0, 0) _ rfl (by (with_reducible repeat (first | refine blk_drewN ?_ _ | refine blk_drew ?_ | refine blk_alloc ?_ _)); refine blk_put (cs := #[.int .i64 t283, .int .i64 (wrap64 (a1 * 3600)), .int .i64 (wrap64 (a2 * 3600)), .bool true, .int .i64 a3, .int .i64 a4, .int .i64 0]) ?_ 6 _ rfl; (with_reducible repeat (first | refine blk_drewN ?_ _ | refine blk_drew ?_ | refine blk_alloc ?_ _)); refine blk_put (cs := #[.int .i64 t283, .int .i64 (wrap64 (a1 * 3600)), .int .i64 (wrap64 (a2 * 3600)), .bool true, .int .i64 a3, .int .i64 0, .int .i64 0]) ?_ 5 _ rfl; (with_reducible repeat (first | refine blk_drewN ?_ _ | refine blk_drew ?_ | refine blk_alloc ?_ _)); refine blk_put (cs := #[.int .i64 t283, .int .i64 (wrap64 (a1 * 3600)), .int .i64 (wrap64 (a2 * 3600)), .bool true, .int .i64 0, .int .i64 0, .int .i64 0]) ?_ 4 _ rfl; (with_reducible repeat (first | refine blk_drewN ?_ _ | refine blk_drew ?_ | refine blk_alloc ?_ _)); refine blk_put (cs := #[.int .i64 t283, .int .i64 (wrap64 (a1 * 3600)), .int .i64 (wrap64 (a2 * 3600)), .bool false, .int .i64 0, .int .i64 0, .int .i64 0]) ?_ 3 _ rfl; (with_reducible repeat (first | refine blk_drewN ?_ _ | refine blk_drew ?_ | refine blk_alloc ?_ _)); refine blk_put (cs := #[.int .i64 t283, .int .i64 (wrap64 (a1 * 3600)), .int .i64 0, .bool false, .int .i64 0, .int .i64 0, .int .i64 0]) ?_ 2 _ rfl; (with_reducible repeat (first | refine blk_drewN ?_ _ | refine blk_drew ?_ | refine blk_alloc ?_ _)); refine blk_put (cs := #[.int .i64 t283, .int .i64 0, .int .i64 0, .bool false, .int .i64 0, .int .i64 0, .int .i64 0]) ?_ 1 _ rfl; (with_reducible repeat (first | refine blk_drewN ?_ _ | refine blk_drew ?_ | refine blk_alloc ?_ _)); refine blk_put (cs := #[.int .i64 0, .int .i64 0, .int .i64 0, .bool false, .int .i64 0, .int .i64 0, .int .i64 0]) ?_ 0 _ rfl; (with_reducible repeat (first | refine blk_drewN ?_ _ | refine blk_drew ?_ | refine blk_alloc ?_ _)); exact BK282.out) Tryz.underlying32 rfl (by kernel_rfl)) rfl ?_
  exact ⟨by first | rfl | (simp [errW_none, errW_some] <;> rfl) | (simp [*, errW_none, errW_some] <;> rfl), by repeat (first | (with_reducible first | exact HB.out | apply below_alloc | apply pw_below_drewN | apply below_drew1 | refine below_set ?_ GE282.out) | exact HB.out)⟩
end Go.Proofs.YtmajmolbjiahlaaGreatDoor.PD
namespace Go.Proofs.YtmajmolbjiahlaaGreatDoor.PD
open Go.RowKit Go.Proofs.YtmajmolbjiahlaaGreatDoorW.PrintWords Go.Proofs.YtmajmolbjiahlaaGreatDoorW.PrintLast Go.Proofs.YtmajmolbjiahlaaGreatDoorW.PrintMore
attribute [local go_sem] isSome_setCell max2_int min2_int max_two min_two max_three min_three max_four min_four
set_option linter.unusedVariables false
set_option linter.unusedSimpArgs false
def zone_known.f  : Option ((List (S24))) := (zone_sundays.f (⟨#[50, 48, 48, 55, 48, 51, 49, 49, 84, 48, 50, 48, 48, 48, 48]⟩ : ByteArray) (-5) (-4) 3 2).bind fun bt284 => ((zone_sundays.f (⟨#[50, 48, 48, 55, 49, 49, 48, 52, 84, 48, 50, 48, 48, 48, 48]⟩ : ByteArray) (-4) (-5) 11 1).bind fun bt291 => ((zone_stamp.f (⟨#[49, 57, 52, 53, 49, 48, 49, 53, 84, 48, 48, 48, 48, 48, 48]⟩ : ByteArray)).bind fun t301 => ((zone_sundays.f (⟨#[50, 48, 48, 56, 48, 52, 48, 54, 84, 48, 51, 48, 48, 48, 48]⟩ : ByteArray) 11 10 4 1).bind fun bt305 => ((zone_sundays.f (⟨#[50, 48, 48, 56, 49, 48, 48, 53, 84, 48, 50, 48, 48, 48, 48]⟩ : ByteArray) 10 11 10 1).bind fun bt312 => ((zone_sundays.f (⟨#[49, 57, 57, 54, 48, 51, 51, 49, 84, 48, 50, 48, 48, 48, 48]⟩ : ByteArray) 1 2 3 (-1)).bind fun bt322 => ((zone_sundays.f (⟨#[49, 57, 57, 54, 49, 48, 50, 55, 84, 48, 51, 48, 48, 48, 48]⟩ : ByteArray) 2 1 10 (-1)).bind fun bt329 => (some (([(⟨(⟨#[65, 109, 101, 114, 105, 99, 97, 47, 78, 101, 119, 95, 89, 111, 114, 107]⟩ : ByteArray), (([(⟨bt284.1, bt284.2.1, bt284.2.2.1, bt284.2.2.2.1, bt284.2.2.2.2.1, (⟨bt284.2.2.2.2.2.1, bt284.2.2.2.2.2.2⟩ : S30)⟩ : S32), (⟨bt291.1, bt291.2.1, bt291.2.2.1, bt291.2.2.2.1, bt291.2.2.2.2.1, (⟨bt291.2.2.2.2.2.1, bt291.2.2.2.2.2.2⟩ : S30)⟩ : S32)] : List (S32)))⟩ : S24), (⟨(⟨#[65, 115, 105, 97, 47, 75, 111, 108, 107, 97, 116, 97]⟩ : ByteArray), (([(⟨t301, 19800, 19800, false, 0, (⟨0, 0⟩ : S30)⟩ : S32)] : List (S32)))⟩ : S24), (⟨(⟨#[65, 117, 115, 116, 114, 97, 108, 105, 97, 47, 83, 121, 100, 110, 101, 121]⟩ : ByteArray), (([(⟨bt305.1, bt305.2.1, bt305.2.2.1, bt305.2.2.2.1, bt305.2.2.2.2.1, (⟨bt305.2.2.2.2.2.1, bt305.2.2.2.2.2.2⟩ : S30)⟩ : S32), (⟨bt312.1, bt312.2.1, bt312.2.2.1, bt312.2.2.2.1, bt312.2.2.2.2.1, (⟨bt312.2.2.2.2.2.1, bt312.2.2.2.2.2.2⟩ : S30)⟩ : S32)] : List (S32)))⟩ : S24), (⟨(⟨#[69, 116, 99, 47, 85, 84, 67]⟩ : ByteArray), ([] : List (S32))⟩ : S24), (⟨(⟨#[69, 117, 114, 111, 112, 101, 47, 66, 101, 114, 108, 105, 110]⟩ : ByteArray), (([(⟨bt322.1, bt322.2.1, bt322.2.2.1, bt322.2.2.2.1, bt322.2.2.2.2.1, (⟨bt322.2.2.2.2.2.1, bt322.2.2.2.2.2.2⟩ : S30)⟩ : S32), (⟨bt329.1, bt329.2.1, bt329.2.2.1, bt329.2.2.2.1, bt329.2.2.2.2.1, (⟨bt329.2.2.2.2.2.1, bt329.2.2.2.2.2.2⟩ : S30)⟩ : S32)] : List (S32)))⟩ : S24), (⟨(⟨#[85, 84, 67]⟩ : ByteArray), ([] : List (S32))⟩ : S24)] : List (S24))))))))))
set_option maxHeartbeats 8000000 in
set_option maxRecDepth 100000 in
theorem zone_known.calls  (r : List (S24)) (w : World) (h : zone_known.f  = some r) (hTab : Tab w) :
    Calls Tryz.prog 34 #[] w fun e w' => ∃ v0_ : Value, e = .returned (v0_) ∧ Kd.N k24 24 w' w.heap.size (fun k_ => (w.heap.size ≤ k_)) v0_ r ∧ Below w.heap.size w w' := by
  have HTab := Aside0.mk hTab
  clear hTab
  have hu24 := Tryz.underlying24
  have hu32 := Tryz.underlying32
  have HB := Aside0.mk (Below.refl w.heap.size w)
  have H : ((zone_sundays.f (⟨#[50, 48, 48, 55, 48, 51, 49, 49, 84, 48, 50, 48, 48, 48, 48]⟩ : ByteArray) (-5) (-4) 3 2).bind fun bt284 => ((zone_sundays.f (⟨#[50, 48, 48, 55, 49, 49, 48, 52, 84, 48, 50, 48, 48, 48, 48]⟩ : ByteArray) (-4) (-5) 11 1).bind fun bt291 => ((zone_stamp.f (⟨#[49, 57, 52, 53, 49, 48, 49, 53, 84, 48, 48, 48, 48, 48, 48]⟩ : ByteArray)).bind fun t301 => ((zone_sundays.f (⟨#[50, 48, 48, 56, 48, 52, 48, 54, 84, 48, 51, 48, 48, 48, 48]⟩ : ByteArray) 11 10 4 1).bind fun bt305 => ((zone_sundays.f (⟨#[50, 48, 48, 56, 49, 48, 48, 53, 84, 48, 50, 48, 48, 48, 48]⟩ : ByteArray) 10 11 10 1).bind fun bt312 => ((zone_sundays.f (⟨#[49, 57, 57, 54, 48, 51, 51, 49, 84, 48, 50, 48, 48, 48, 48]⟩ : ByteArray) 1 2 3 (-1)).bind fun bt322 => ((zone_sundays.f (⟨#[49, 57, 57, 54, 49, 48, 50, 55, 84, 48, 51, 48, 48, 48, 48]⟩ : ByteArray) 2 1 10 (-1)).bind fun bt329 => (some (([(⟨(⟨#[65, 109, 101, 114, 105, 99, 97, 47, 78, 101, 119, 95, 89, 111, 114, 107]⟩ : ByteArray), (([(⟨bt284.1, bt284.2.1, bt284.2.2.1, bt284.2.2.2.1, bt284.2.2.2.2.1, (⟨bt284.2.2.2.2.2.1, bt284.2.2.2.2.2.2⟩ : S30)⟩ : S32), (⟨bt291.1, bt291.2.1, bt291.2.2.1, bt291.2.2.2.1, bt291.2.2.2.2.1, (⟨bt291.2.2.2.2.2.1, bt291.2.2.2.2.2.2⟩ : S30)⟩ : S32)] : List (S32)))⟩ : S24), (⟨(⟨#[65, 115, 105, 97, 47, 75, 111, 108, 107, 97, 116, 97]⟩ : ByteArray), (([(⟨t301, 19800, 19800, false, 0, (⟨0, 0⟩ : S30)⟩ : S32)] : List (S32)))⟩ : S24), (⟨(⟨#[65, 117, 115, 116, 114, 97, 108, 105, 97, 47, 83, 121, 100, 110, 101, 121]⟩ : ByteArray), (([(⟨bt305.1, bt305.2.1, bt305.2.2.1, bt305.2.2.2.1, bt305.2.2.2.2.1, (⟨bt305.2.2.2.2.2.1, bt305.2.2.2.2.2.2⟩ : S30)⟩ : S32), (⟨bt312.1, bt312.2.1, bt312.2.2.1, bt312.2.2.2.1, bt312.2.2.2.2.1, (⟨bt312.2.2.2.2.2.1, bt312.2.2.2.2.2.2⟩ : S30)⟩ : S32)] : List (S32)))⟩ : S24), (⟨(⟨#[69, 116, 99, 47, 85, 84, 67]⟩ : ByteArray), ([] : List (S32))⟩ : S24), (⟨(⟨#[69, 117, 114, 111, 112, 101, 47, 66, 101, 114, 108, 105, 110]⟩ : ByteArray), (([(⟨bt322.1, bt322.2.1, bt322.2.2.1, bt322.2.2.2.1, bt322.2.2.2.2.1, (⟨bt322.2.2.2.2.2.1, bt322.2.2.2.2.2.2⟩ : S30)⟩ : S32), (⟨bt329.1, bt329.2.1, bt329.2.2.1, bt329.2.2.2.1, bt329.2.2.2.2.1, (⟨bt329.2.2.2.2.2.1, bt329.2.2.2.2.2.2⟩ : S30)⟩ : S32)] : List (S32)))⟩ : S24), (⟨(⟨#[85, 84, 67]⟩ : ByteArray), ([] : List (S32))⟩ : S24)] : List (S24))))))))))) = some r := h
  clear h
  replace H := Option.bind_eq_some_iff.mp H
  obtain ⟨⟨t284, t285, t286, t287, t288, t289, t290⟩, A10, H⟩ := H
  replace H : ((zone_sundays.f (⟨#[50, 48, 48, 55, 49, 49, 48, 52, 84, 48, 50, 48, 48, 48, 48]⟩ : ByteArray) (-4) (-5) 11 1).bind fun bt291 => ((zone_stamp.f (⟨#[49, 57, 52, 53, 49, 48, 49, 53, 84, 48, 48, 48, 48, 48, 48]⟩ : ByteArray)).bind fun t301 => ((zone_sundays.f (⟨#[50, 48, 48, 56, 48, 52, 48, 54, 84, 48, 51, 48, 48, 48, 48]⟩ : ByteArray) 11 10 4 1).bind fun bt305 => ((zone_sundays.f (⟨#[50, 48, 48, 56, 49, 48, 48, 53, 84, 48, 50, 48, 48, 48, 48]⟩ : ByteArray) 10 11 10 1).bind fun bt312 => ((zone_sundays.f (⟨#[49, 57, 57, 54, 48, 51, 51, 49, 84, 48, 50, 48, 48, 48, 48]⟩ : ByteArray) 1 2 3 (-1)).bind fun bt322 => ((zone_sundays.f (⟨#[49, 57, 57, 54, 49, 48, 50, 55, 84, 48, 51, 48, 48, 48, 48]⟩ : ByteArray) 2 1 10 (-1)).bind fun bt329 => (some (([(⟨(⟨#[65, 109, 101, 114, 105, 99, 97, 47, 78, 101, 119, 95, 89, 111, 114, 107]⟩ : ByteArray), (([(⟨t284, t285, t286, t287, t288, (⟨t289, t290⟩ : S30)⟩ : S32), (⟨bt291.1, bt291.2.1, bt291.2.2.1, bt291.2.2.2.1, bt291.2.2.2.2.1, (⟨bt291.2.2.2.2.2.1, bt291.2.2.2.2.2.2⟩ : S30)⟩ : S32)] : List (S32)))⟩ : S24), (⟨(⟨#[65, 115, 105, 97, 47, 75, 111, 108, 107, 97, 116, 97]⟩ : ByteArray), (([(⟨t301, 19800, 19800, false, 0, (⟨0, 0⟩ : S30)⟩ : S32)] : List (S32)))⟩ : S24), (⟨(⟨#[65, 117, 115, 116, 114, 97, 108, 105, 97, 47, 83, 121, 100, 110, 101, 121]⟩ : ByteArray), (([(⟨bt305.1, bt305.2.1, bt305.2.2.1, bt305.2.2.2.1, bt305.2.2.2.2.1, (⟨bt305.2.2.2.2.2.1, bt305.2.2.2.2.2.2⟩ : S30)⟩ : S32), (⟨bt312.1, bt312.2.1, bt312.2.2.1, bt312.2.2.2.1, bt312.2.2.2.2.1, (⟨bt312.2.2.2.2.2.1, bt312.2.2.2.2.2.2⟩ : S30)⟩ : S32)] : List (S32)))⟩ : S24), (⟨(⟨#[69, 116, 99, 47, 85, 84, 67]⟩ : ByteArray), ([] : List (S32))⟩ : S24), (⟨(⟨#[69, 117, 114, 111, 112, 101, 47, 66, 101, 114, 108, 105, 110]⟩ : ByteArray), (([(⟨bt322.1, bt322.2.1, bt322.2.2.1, bt322.2.2.2.1, bt322.2.2.2.2.1, (⟨bt322.2.2.2.2.2.1, bt322.2.2.2.2.2.2⟩ : S30)⟩ : S32), (⟨bt329.1, bt329.2.1, bt329.2.2.1, bt329.2.2.2.1, bt329.2.2.2.2.1, (⟨bt329.2.2.2.2.2.1, bt329.2.2.2.2.2.2⟩ : S30)⟩ : S32)] : List (S32)))⟩ : S24), (⟨(⟨#[85, 84, 67]⟩ : ByteArray), ([] : List (S32))⟩ : S24)] : List (S24)))))))))) = some r := H
  have A1 := Aside0.mk A10
  clear A10
  replace H := Option.bind_eq_some_iff.mp H
  obtain ⟨⟨t291, t292, t293, t294, t295, t296, t297⟩, A20, H⟩ := H
  replace H : ((zone_stamp.f (⟨#[49, 57, 52, 53, 49, 48, 49, 53, 84, 48, 48, 48, 48, 48, 48]⟩ : ByteArray)).bind fun t301 => ((zone_sundays.f (⟨#[50, 48, 48, 56, 48, 52, 48, 54, 84, 48, 51, 48, 48, 48, 48]⟩ : ByteArray) 11 10 4 1).bind fun bt305 => ((zone_sundays.f (⟨#[50, 48, 48, 56, 49, 48, 48, 53, 84, 48, 50, 48, 48, 48, 48]⟩ : ByteArray) 10 11 10 1).bind fun bt312 => ((zone_sundays.f (⟨#[49, 57, 57, 54, 48, 51, 51, 49, 84, 48, 50, 48, 48, 48, 48]⟩ : ByteArray) 1 2 3 (-1)).bind fun bt322 => ((zone_sundays.f (⟨#[49, 57, 57, 54, 49, 48, 50, 55, 84, 48, 51, 48, 48, 48, 48]⟩ : ByteArray) 2 1 10 (-1)).bind fun bt329 => (some (([(⟨(⟨#[65, 109, 101, 114, 105, 99, 97, 47, 78, 101, 119, 95, 89, 111, 114, 107]⟩ : ByteArray), (([(⟨t284, t285, t286, t287, t288, (⟨t289, t290⟩ : S30)⟩ : S32), (⟨t291, t292, t293, t294, t295, (⟨t296, t297⟩ : S30)⟩ : S32)] : List (S32)))⟩ : S24), (⟨(⟨#[65, 115, 105, 97, 47, 75, 111, 108, 107, 97, 116, 97]⟩ : ByteArray), (([(⟨t301, 19800, 19800, false, 0, (⟨0, 0⟩ : S30)⟩ : S32)] : List (S32)))⟩ : S24), (⟨(⟨#[65, 117, 115, 116, 114, 97, 108, 105, 97, 47, 83, 121, 100, 110, 101, 121]⟩ : ByteArray), (([(⟨bt305.1, bt305.2.1, bt305.2.2.1, bt305.2.2.2.1, bt305.2.2.2.2.1, (⟨bt305.2.2.2.2.2.1, bt305.2.2.2.2.2.2⟩ : S30)⟩ : S32), (⟨bt312.1, bt312.2.1, bt312.2.2.1, bt312.2.2.2.1, bt312.2.2.2.2.1, (⟨bt312.2.2.2.2.2.1, bt312.2.2.2.2.2.2⟩ : S30)⟩ : S32)] : List (S32)))⟩ : S24), (⟨(⟨#[69, 116, 99, 47, 85, 84, 67]⟩ : ByteArray), ([] : List (S32))⟩ : S24), (⟨(⟨#[69, 117, 114, 111, 112, 101, 47, 66, 101, 114, 108, 105, 110]⟩ : ByteArray), (([(⟨bt322.1, bt322.2.1, bt322.2.2.1, bt322.2.2.2.1, bt322.2.2.2.2.1, (⟨bt322.2.2.2.2.2.1, bt322.2.2.2.2.2.2⟩ : S30)⟩ : S32), (⟨bt329.1, bt329.2.1, bt329.2.2.1, bt329.2.2.2.1, bt329.2.2.2.2.1, (⟨bt329.2.2.2.2.2.1, bt329.2.2.2.2.2.2⟩ : S30)⟩ : S32)] : List (S32)))⟩ : S24), (⟨(⟨#[85, 84, 67]⟩ : ByteArray), ([] : List (S32))⟩ : S24)] : List (S24))))))))) = some r := H
  have A2 := Aside0.mk A20
  clear A20
  obtain ⟨y298, hy298⟩ : ∃ y_ : List (S32), y_ = (([(⟨t284, t285, t286, t287, t288, (⟨t289, t290⟩ : S30)⟩ : S32), (⟨t291, t292, t293, t294, t295, (⟨t296, t297⟩ : S30)⟩ : S32)] : List (S32))) := ⟨_, rfl⟩
  replace H : ((zone_stamp.f (⟨#[49, 57, 52, 53, 49, 48, 49, 53, 84, 48, 48, 48, 48, 48, 48]⟩ : ByteArray)).bind fun t301 => ((zone_sundays.f (⟨#[50, 48, 48, 56, 48, 52, 48, 54, 84, 48, 51, 48, 48, 48, 48]⟩ : ByteArray) 11 10 4 1).bind fun bt305 => ((zone_sundays.f (⟨#[50, 48, 48, 56, 49, 48, 48, 53, 84, 48, 50, 48, 48, 48, 48]⟩ : ByteArray) 10 11 10 1).bind fun bt312 => ((zone_sundays.f (⟨#[49, 57, 57, 54, 48, 51, 51, 49, 84, 48, 50, 48, 48, 48, 48]⟩ : ByteArray) 1 2 3 (-1)).bind fun bt322 => ((zone_sundays.f (⟨#[49, 57, 57, 54, 49, 48, 50, 55, 84, 48, 51, 48, 48, 48, 48]⟩ : ByteArray) 2 1 10 (-1)).bind fun bt329 => (some (([(⟨(⟨#[65, 109, 101, 114, 105, 99, 97, 47, 78, 101, 119, 95, 89, 111, 114, 107]⟩ : ByteArray), y298⟩ : S24), (⟨(⟨#[65, 115, 105, 97, 47, 75, 111, 108, 107, 97, 116, 97]⟩ : ByteArray), (([(⟨t301, 19800, 19800, false, 0, (⟨0, 0⟩ : S30)⟩ : S32)] : List (S32)))⟩ : S24), (⟨(⟨#[65, 117, 115, 116, 114, 97, 108, 105, 97, 47, 83, 121, 100, 110, 101, 121]⟩ : ByteArray), (([(⟨bt305.1, bt305.2.1, bt305.2.2.1, bt305.2.2.2.1, bt305.2.2.2.2.1, (⟨bt305.2.2.2.2.2.1, bt305.2.2.2.2.2.2⟩ : S30)⟩ : S32), (⟨bt312.1, bt312.2.1, bt312.2.2.1, bt312.2.2.2.1, bt312.2.2.2.2.1, (⟨bt312.2.2.2.2.2.1, bt312.2.2.2.2.2.2⟩ : S30)⟩ : S32)] : List (S32)))⟩ : S24), (⟨(⟨#[69, 116, 99, 47, 85, 84, 67]⟩ : ByteArray), ([] : List (S32))⟩ : S24), (⟨(⟨#[69, 117, 114, 111, 112, 101, 47, 66, 101, 114, 108, 105, 110]⟩ : ByteArray), (([(⟨bt322.1, bt322.2.1, bt322.2.2.1, bt322.2.2.2.1, bt322.2.2.2.2.1, (⟨bt322.2.2.2.2.2.1, bt322.2.2.2.2.2.2⟩ : S30)⟩ : S32), (⟨bt329.1, bt329.2.1, bt329.2.2.1, bt329.2.2.2.1, bt329.2.2.2.2.1, (⟨bt329.2.2.2.2.2.1, bt329.2.2.2.2.2.2⟩ : S30)⟩ : S32)] : List (S32)))⟩ : S24), (⟨(⟨#[85, 84, 67]⟩ : ByteArray), ([] : List (S32))⟩ : S24)] : List (S24))))))))) = some r := by first | (rw [hy298]; with_reducible exact H) | (have H2_ := (Option.bind_some _ _).symm.trans H; rw [hy298]; with_reducible exact H2_) | (have H2_ := (Option.bind_some _ _).symm.trans H; with_reducible exact H2_) | with_reducible exact H | (rw [hy298]; exact H) | exact H
  have Ny298 := Aside0.mk hy298
  clear hy298
  replace H := Option.bind_eq_some_iff.mp H
  obtain ⟨t301, A30, H⟩ := H
  replace H : ((zone_sundays.f (⟨#[50, 48, 48, 56, 48, 52, 48, 54, 84, 48, 51, 48, 48, 48, 48]⟩ : ByteArray) 11 10 4 1).bind fun bt305 => ((zone_sundays.f (⟨#[50, 48, 48, 56, 49, 48, 48, 53, 84, 48, 50, 48, 48, 48, 48]⟩ : ByteArray) 10 11 10 1).bind fun bt312 => ((zone_sundays.f (⟨#[49, 57, 57, 54, 48, 51, 51, 49, 84, 48, 50, 48, 48, 48, 48]⟩ : ByteArray) 1 2 3 (-1)).bind fun bt322 => ((zone_sundays.f (⟨#[49, 57, 57, 54, 49, 48, 50, 55, 84, 48, 51, 48, 48, 48, 48]⟩ : ByteArray) 2 1 10 (-1)).bind fun bt329 => (some (([(⟨(⟨#[65, 109, 101, 114, 105, 99, 97, 47, 78, 101, 119, 95, 89, 111, 114, 107]⟩ : ByteArray), y298⟩ : S24), (⟨(⟨#[65, 115, 105, 97, 47, 75, 111, 108, 107, 97, 116, 97]⟩ : ByteArray), (([(⟨t301, 19800, 19800, false, 0, (⟨0, 0⟩ : S30)⟩ : S32)] : List (S32)))⟩ : S24), (⟨(⟨#[65, 117, 115, 116, 114, 97, 108, 105, 97, 47, 83, 121, 100, 110, 101, 121]⟩ : ByteArray), (([(⟨bt305.1, bt305.2.1, bt305.2.2.1, bt305.2.2.2.1, bt305.2.2.2.2.1, (⟨bt305.2.2.2.2.2.1, bt305.2.2.2.2.2.2⟩ : S30)⟩ : S32), (⟨bt312.1, bt312.2.1, bt312.2.2.1, bt312.2.2.2.1, bt312.2.2.2.2.1, (⟨bt312.2.2.2.2.2.1, bt312.2.2.2.2.2.2⟩ : S30)⟩ : S32)] : List (S32)))⟩ : S24), (⟨(⟨#[69, 116, 99, 47, 85, 84, 67]⟩ : ByteArray), ([] : List (S32))⟩ : S24), (⟨(⟨#[69, 117, 114, 111, 112, 101, 47, 66, 101, 114, 108, 105, 110]⟩ : ByteArray), (([(⟨bt322.1, bt322.2.1, bt322.2.2.1, bt322.2.2.2.1, bt322.2.2.2.2.1, (⟨bt322.2.2.2.2.2.1, bt322.2.2.2.2.2.2⟩ : S30)⟩ : S32), (⟨bt329.1, bt329.2.1, bt329.2.2.1, bt329.2.2.2.1, bt329.2.2.2.2.1, (⟨bt329.2.2.2.2.2.1, bt329.2.2.2.2.2.2⟩ : S30)⟩ : S32)] : List (S32)))⟩ : S24), (⟨(⟨#[85, 84, 67]⟩ : ByteArray), ([] : List (S32))⟩ : S24)] : List (S24)))))))) = some r := H
  have A3 := Aside0.mk A30
  clear A30
  obtain ⟨y302, hy302⟩ : ∃ y_ : List (S32), y_ = (([(⟨t301, 19800, 19800, false, 0, (⟨0, 0⟩ : S30)⟩ : S32)] : List (S32))) := ⟨_, rfl⟩
  replace H : ((zone_sundays.f (⟨#[50, 48, 48, 56, 48, 52, 48, 54, 84, 48, 51, 48, 48, 48, 48]⟩ : ByteArray) 11 10 4 1).bind fun bt305 => ((zone_sundays.f (⟨#[50, 48, 48, 56, 49, 48, 48, 53, 84, 48, 50, 48, 48, 48, 48]⟩ : ByteArray) 10 11 10 1).bind fun bt312 => ((zone_sundays.f (⟨#[49, 57, 57, 54, 48, 51, 51, 49, 84, 48, 50, 48, 48, 48, 48]⟩ : ByteArray) 1 2 3 (-1)).bind fun bt322 => ((zone_sundays.f (⟨#[49, 57, 57, 54, 49, 48, 50, 55, 84, 48, 51, 48, 48, 48, 48]⟩ : ByteArray) 2 1 10 (-1)).bind fun bt329 => (some (([(⟨(⟨#[65, 109, 101, 114, 105, 99, 97, 47, 78, 101, 119, 95, 89, 111, 114, 107]⟩ : ByteArray), y298⟩ : S24), (⟨(⟨#[65, 115, 105, 97, 47, 75, 111, 108, 107, 97, 116, 97]⟩ : ByteArray), y302⟩ : S24), (⟨(⟨#[65, 117, 115, 116, 114, 97, 108, 105, 97, 47, 83, 121, 100, 110, 101, 121]⟩ : ByteArray), (([(⟨bt305.1, bt305.2.1, bt305.2.2.1, bt305.2.2.2.1, bt305.2.2.2.2.1, (⟨bt305.2.2.2.2.2.1, bt305.2.2.2.2.2.2⟩ : S30)⟩ : S32), (⟨bt312.1, bt312.2.1, bt312.2.2.1, bt312.2.2.2.1, bt312.2.2.2.2.1, (⟨bt312.2.2.2.2.2.1, bt312.2.2.2.2.2.2⟩ : S30)⟩ : S32)] : List (S32)))⟩ : S24), (⟨(⟨#[69, 116, 99, 47, 85, 84, 67]⟩ : ByteArray), ([] : List (S32))⟩ : S24), (⟨(⟨#[69, 117, 114, 111, 112, 101, 47, 66, 101, 114, 108, 105, 110]⟩ : ByteArray), (([(⟨bt322.1, bt322.2.1, bt322.2.2.1, bt322.2.2.2.1, bt322.2.2.2.2.1, (⟨bt322.2.2.2.2.2.1, bt322.2.2.2.2.2.2⟩ : S30)⟩ : S32), (⟨bt329.1, bt329.2.1, bt329.2.2.1, bt329.2.2.2.1, bt329.2.2.2.2.1, (⟨bt329.2.2.2.2.2.1, bt329.2.2.2.2.2.2⟩ : S30)⟩ : S32)] : List (S32)))⟩ : S24), (⟨(⟨#[85, 84, 67]⟩ : ByteArray), ([] : List (S32))⟩ : S24)] : List (S24)))))))) = some r := by first | (rw [hy302]; with_reducible exact H) | (have H2_ := (Option.bind_some _ _).symm.trans H; rw [hy302]; with_reducible exact H2_) | (have H2_ := (Option.bind_some _ _).symm.trans H; with_reducible exact H2_) | with_reducible exact H | (rw [hy302]; exact H) | exact H
  have Ny302 := Aside0.mk hy302
  clear hy302
  replace H := Option.bind_eq_some_iff.mp H
  obtain ⟨⟨t305, t306, t307, t308, t309, t310, t311⟩, A40, H⟩ := H
  replace H : ((zone_sundays.f (⟨#[50, 48, 48, 56, 49, 48, 48, 53, 84, 48, 50, 48, 48, 48, 48]⟩ : ByteArray) 10 11 10 1).bind fun bt312 => ((zone_sundays.f (⟨#[49, 57, 57, 54, 48, 51, 51, 49, 84, 48, 50, 48, 48, 48, 48]⟩ : ByteArray) 1 2 3 (-1)).bind fun bt322 => ((zone_sundays.f (⟨#[49, 57, 57, 54, 49, 48, 50, 55, 84, 48, 51, 48, 48, 48, 48]⟩ : ByteArray) 2 1 10 (-1)).bind fun bt329 => (some (([(⟨(⟨#[65, 109, 101, 114, 105, 99, 97, 47, 78, 101, 119, 95, 89, 111, 114, 107]⟩ : ByteArray), y298⟩ : S24), (⟨(⟨#[65, 115, 105, 97, 47, 75, 111, 108, 107, 97, 116, 97]⟩ : ByteArray), y302⟩ : S24), (⟨(⟨#[65, 117, 115, 116, 114, 97, 108, 105, 97, 47, 83, 121, 100, 110, 101, 121]⟩ : ByteArray), (([(⟨t305, t306, t307, t308, t309, (⟨t310, t311⟩ : S30)⟩ : S32), (⟨bt312.1, bt312.2.1, bt312.2.2.1, bt312.2.2.2.1, bt312.2.2.2.2.1, (⟨bt312.2.2.2.2.2.1, bt312.2.2.2.2.2.2⟩ : S30)⟩ : S32)] : List (S32)))⟩ : S24), (⟨(⟨#[69, 116, 99, 47, 85, 84, 67]⟩ : ByteArray), ([] : List (S32))⟩ : S24), (⟨(⟨#[69, 117, 114, 111, 112, 101, 47, 66, 101, 114, 108, 105, 110]⟩ : ByteArray), (([(⟨bt322.1, bt322.2.1, bt322.2.2.1, bt322.2.2.2.1, bt322.2.2.2.2.1, (⟨bt322.2.2.2.2.2.1, bt322.2.2.2.2.2.2⟩ : S30)⟩ : S32), (⟨bt329.1, bt329.2.1, bt329.2.2.1, bt329.2.2.2.1, bt329.2.2.2.2.1, (⟨bt329.2.2.2.2.2.1, bt329.2.2.2.2.2.2⟩ : S30)⟩ : S32)] : List (S32)))⟩ : S24), (⟨(⟨#[85, 84, 67]⟩ : ByteArray), ([] : List (S32))⟩ : S24)] : List (S24))))))) = some r := H
  have A4 := Aside0.mk A40
  clear A40
  replace H := Option.bind_eq_some_iff.mp H
  obtain ⟨⟨t312, t313, t314, t315, t316, t317, t318⟩, A50, H⟩ := H
  replace H : ((zone_sundays.f (⟨#[49, 57, 57, 54, 48, 51, 51, 49, 84, 48, 50, 48, 48, 48, 48]⟩ : ByteArray) 1 2 3 (-1)).bind fun bt322 => ((zone_sundays.f (⟨#[49, 57, 57, 54, 49, 48, 50, 55, 84, 48, 51, 48, 48, 48, 48]⟩ : ByteArray) 2 1 10 (-1)).bind fun bt329 => (some (([(⟨(⟨#[65, 109, 101, 114, 105, 99, 97, 47, 78, 101, 119, 95, 89, 111, 114, 107]⟩ : ByteArray), y298⟩ : S24), (⟨(⟨#[65, 115, 105, 97, 47, 75, 111, 108, 107, 97, 116, 97]⟩ : ByteArray), y302⟩ : S24), (⟨(⟨#[65, 117, 115, 116, 114, 97, 108, 105, 97, 47, 83, 121, 100, 110, 101, 121]⟩ : ByteArray), (([(⟨t305, t306, t307, t308, t309, (⟨t310, t311⟩ : S30)⟩ : S32), (⟨t312, t313, t314, t315, t316, (⟨t317, t318⟩ : S30)⟩ : S32)] : List (S32)))⟩ : S24), (⟨(⟨#[69, 116, 99, 47, 85, 84, 67]⟩ : ByteArray), ([] : List (S32))⟩ : S24), (⟨(⟨#[69, 117, 114, 111, 112, 101, 47, 66, 101, 114, 108, 105, 110]⟩ : ByteArray), (([(⟨bt322.1, bt322.2.1, bt322.2.2.1, bt322.2.2.2.1, bt322.2.2.2.2.1, (⟨bt322.2.2.2.2.2.1, bt322.2.2.2.2.2.2⟩ : S30)⟩ : S32), (⟨bt329.1, bt329.2.1, bt329.2.2.1, bt329.2.2.2.1, bt329.2.2.2.2.1, (⟨bt329.2.2.2.2.2.1, bt329.2.2.2.2.2.2⟩ : S30)⟩ : S32)] : List (S32)))⟩ : S24), (⟨(⟨#[85, 84, 67]⟩ : ByteArray), ([] : List (S32))⟩ : S24)] : List (S24)))))) = some r := H
  have A5 := Aside0.mk A50
  clear A50
  obtain ⟨y319, hy319⟩ : ∃ y_ : List (S32), y_ = (([(⟨t305, t306, t307, t308, t309, (⟨t310, t311⟩ : S30)⟩ : S32), (⟨t312, t313, t314, t315, t316, (⟨t317, t318⟩ : S30)⟩ : S32)] : List (S32))) := ⟨_, rfl⟩
  replace H : ((zone_sundays.f (⟨#[49, 57, 57, 54, 48, 51, 51, 49, 84, 48, 50, 48, 48, 48, 48]⟩ : ByteArray) 1 2 3 (-1)).bind fun bt322 => ((zone_sundays.f (⟨#[49, 57, 57, 54, 49, 48, 50, 55, 84, 48, 51, 48, 48, 48, 48]⟩ : ByteArray) 2 1 10 (-1)).bind fun bt329 => (some (([(⟨(⟨#[65, 109, 101, 114, 105, 99, 97, 47, 78, 101, 119, 95, 89, 111, 114, 107]⟩ : ByteArray), y298⟩ : S24), (⟨(⟨#[65, 115, 105, 97, 47, 75, 111, 108, 107, 97, 116, 97]⟩ : ByteArray), y302⟩ : S24), (⟨(⟨#[65, 117, 115, 116, 114, 97, 108, 105, 97, 47, 83, 121, 100, 110, 101, 121]⟩ : ByteArray), y319⟩ : S24), (⟨(⟨#[69, 116, 99, 47, 85, 84, 67]⟩ : ByteArray), ([] : List (S32))⟩ : S24), (⟨(⟨#[69, 117, 114, 111, 112, 101, 47, 66, 101, 114, 108, 105, 110]⟩ : ByteArray), (([(⟨bt322.1, bt322.2.1, bt322.2.2.1, bt322.2.2.2.1, bt322.2.2.2.2.1, (⟨bt322.2.2.2.2.2.1, bt322.2.2.2.2.2.2⟩ : S30)⟩ : S32), (⟨bt329.1, bt329.2.1, bt329.2.2.1, bt329.2.2.2.1, bt329.2.2.2.2.1, (⟨bt329.2.2.2.2.2.1, bt329.2.2.2.2.2.2⟩ : S30)⟩ : S32)] : List (S32)))⟩ : S24), (⟨(⟨#[85, 84, 67]⟩ : ByteArray), ([] : List (S32))⟩ : S24)] : List (S24)))))) = some r := by first | (rw [hy319]; with_reducible exact H) | (have H2_ := (Option.bind_some _ _).symm.trans H; rw [hy319]; with_reducible exact H2_) | (have H2_ := (Option.bind_some _ _).symm.trans H; with_reducible exact H2_) | with_reducible exact H | (rw [hy319]; exact H) | exact H
  have Ny319 := Aside0.mk hy319
  clear hy319
  replace H := Option.bind_eq_some_iff.mp H
  obtain ⟨⟨t322, t323, t324, t325, t326, t327, t328⟩, A60, H⟩ := H
  replace H : ((zone_sundays.f (⟨#[49, 57, 57, 54, 49, 48, 50, 55, 84, 48, 51, 48, 48, 48, 48]⟩ : ByteArray) 2 1 10 (-1)).bind fun bt329 => (some (([(⟨(⟨#[65, 109, 101, 114, 105, 99, 97, 47, 78, 101, 119, 95, 89, 111, 114, 107]⟩ : ByteArray), y298⟩ : S24), (⟨(⟨#[65, 115, 105, 97, 47, 75, 111, 108, 107, 97, 116, 97]⟩ : ByteArray), y302⟩ : S24), (⟨(⟨#[65, 117, 115, 116, 114, 97, 108, 105, 97, 47, 83, 121, 100, 110, 101, 121]⟩ : ByteArray), y319⟩ : S24), (⟨(⟨#[69, 116, 99, 47, 85, 84, 67]⟩ : ByteArray), ([] : List (S32))⟩ : S24), (⟨(⟨#[69, 117, 114, 111, 112, 101, 47, 66, 101, 114, 108, 105, 110]⟩ : ByteArray), (([(⟨t322, t323, t324, t325, t326, (⟨t327, t328⟩ : S30)⟩ : S32), (⟨bt329.1, bt329.2.1, bt329.2.2.1, bt329.2.2.2.1, bt329.2.2.2.2.1, (⟨bt329.2.2.2.2.2.1, bt329.2.2.2.2.2.2⟩ : S30)⟩ : S32)] : List (S32)))⟩ : S24), (⟨(⟨#[85, 84, 67]⟩ : ByteArray), ([] : List (S32))⟩ : S24)] : List (S24))))) = some r := H
  have A6 := Aside0.mk A60
  clear A60
  replace H := Option.bind_eq_some_iff.mp H
  obtain ⟨⟨t329, t330, t331, t332, t333, t334, t335⟩, A70, H⟩ := H
  replace H : (some (([(⟨(⟨#[65, 109, 101, 114, 105, 99, 97, 47, 78, 101, 119, 95, 89, 111, 114, 107]⟩ : ByteArray), y298⟩ : S24), (⟨(⟨#[65, 115, 105, 97, 47, 75, 111, 108, 107, 97, 116, 97]⟩ : ByteArray), y302⟩ : S24), (⟨(⟨#[65, 117, 115, 116, 114, 97, 108, 105, 97, 47, 83, 121, 100, 110, 101, 121]⟩ : ByteArray), y319⟩ : S24), (⟨(⟨#[69, 116, 99, 47, 85, 84, 67]⟩ : ByteArray), ([] : List (S32))⟩ : S24), (⟨(⟨#[69, 117, 114, 111, 112, 101, 47, 66, 101, 114, 108, 105, 110]⟩ : ByteArray), (([(⟨t322, t323, t324, t325, t326, (⟨t327, t328⟩ : S30)⟩ : S32), (⟨t329, t330, t331, t332, t333, (⟨t334, t335⟩ : S30)⟩ : S32)] : List (S32)))⟩ : S24), (⟨(⟨#[85, 84, 67]⟩ : ByteArray), ([] : List (S32))⟩ : S24)] : List (S24)))) = some r := H
  have A7 := Aside0.mk A70
  clear A70
  obtain ⟨y336, hy336⟩ : ∃ y_ : List (S32), y_ = (([(⟨t322, t323, t324, t325, t326, (⟨t327, t328⟩ : S30)⟩ : S32), (⟨t329, t330, t331, t332, t333, (⟨t334, t335⟩ : S30)⟩ : S32)] : List (S32))) := ⟨_, rfl⟩
  replace H : (some (([(⟨(⟨#[65, 109, 101, 114, 105, 99, 97, 47, 78, 101, 119, 95, 89, 111, 114, 107]⟩ : ByteArray), y298⟩ : S24), (⟨(⟨#[65, 115, 105, 97, 47, 75, 111, 108, 107, 97, 116, 97]⟩ : ByteArray), y302⟩ : S24), (⟨(⟨#[65, 117, 115, 116, 114, 97, 108, 105, 97, 47, 83, 121, 100, 110, 101, 121]⟩ : ByteArray), y319⟩ : S24), (⟨(⟨#[69, 116, 99, 47, 85, 84, 67]⟩ : ByteArray), ([] : List (S32))⟩ : S24), (⟨(⟨#[69, 117, 114, 111, 112, 101, 47, 66, 101, 114, 108, 105, 110]⟩ : ByteArray), y336⟩ : S24), (⟨(⟨#[85, 84, 67]⟩ : ByteArray), ([] : List (S32))⟩ : S24)] : List (S24)))) = some r := by first | (rw [hy336]; with_reducible exact H) | (have H2_ := (Option.bind_some _ _).symm.trans H; rw [hy336]; with_reducible exact H2_) | (have H2_ := (Option.bind_some _ _).symm.trans H; with_reducible exact H2_) | with_reducible exact H | (rw [hy336]; exact H) | exact H
  have Ny336 := Aside0.mk hy336
  clear hy336
  obtain ⟨y339, hy339⟩ : ∃ y_ : List (S24), y_ = (([(⟨(⟨#[65, 109, 101, 114, 105, 99, 97, 47, 78, 101, 119, 95, 89, 111, 114, 107]⟩ : ByteArray), y298⟩ : S24), (⟨(⟨#[65, 115, 105, 97, 47, 75, 111, 108, 107, 97, 116, 97]⟩ : ByteArray), y302⟩ : S24), (⟨(⟨#[65, 117, 115, 116, 114, 97, 108, 105, 97, 47, 83, 121, 100, 110, 101, 121]⟩ : ByteArray), y319⟩ : S24), (⟨(⟨#[69, 116, 99, 47, 85, 84, 67]⟩ : ByteArray), ([] : List (S32))⟩ : S24), (⟨(⟨#[69, 117, 114, 111, 112, 101, 47, 66, 101, 114, 108, 105, 110]⟩ : ByteArray), y336⟩ : S24), (⟨(⟨#[85, 84, 67]⟩ : ByteArray), ([] : List (S32))⟩ : S24)] : List (S24))) := ⟨_, rfl⟩
  replace H : (some y339) = some r := by first | (rw [hy339]; with_reducible exact H) | (have H2_ := (Option.bind_some _ _).symm.trans H; rw [hy339]; with_reducible exact H2_) | (have H2_ := (Option.bind_some _ _).symm.trans H; with_reducible exact H2_) | with_reducible exact H | (rw [hy339]; exact H) | exact H
  have Ny339 := Aside0.mk hy339
  clear hy339
  obtain rfl := Option.some.inj H
  go_enter Tryz.func34, Tryz.ntmps34
  go_wp2_with (first | ((with_reducible refine gate_callee (f := 53) rfl ?_); refine goesL_ (some 1) rfl rfl Tryz.func53 (by kernel_rfl) rfl #[.string (⟨#[50, 48, 48, 55, 48, 51, 49, 49, 84, 48, 50, 48, 48, 48, 48]⟩ : ByteArray), .int .i64 (-5), .int .i64 (-4), .int .i64 3, .int .i64 2] rfl (by (try simp only [List.map_toArray, List.map_cons, List.map_nil]); first | done | rfl | (simp only [List.length_drop, List.length_take]; rfl)) ?_; (with_reducible refine (zone_sundays.calls (⟨#[50, 48, 48, 55, 48, 51, 49, 49, 84, 48, 50, 48, 48, 48, 48]⟩ : ByteArray) (-5) (-4) 3 2 t284 t285 t286 t287 t288 t289 t290 _ A1.out (HTab.out.below (by repeat (first | (with_reducible first | exact HB.out | apply below_alloc | apply pw_below_drewN | apply below_drew1) | exact HB.out)))).mono ?_); rintro e w8 ⟨rfl, hb⟩; refine ⟨_, rfl, ?_⟩; have n0_ := Aside0.mk (below_step (by repeat (first | (with_reducible first | exact HB.out | apply below_alloc | apply pw_below_drewN | apply below_drew1) | exact HB.out)) hb); clear HB; have HB := n0_; clear n0_; (try clear hb); (try clear hb2); (try clear hk); (try clear hi)) | ((with_reducible refine gate_callee (f := 53) rfl ?_); refine goesL_ (some 2) rfl rfl Tryz.func53 (by kernel_rfl) rfl #[.string (⟨#[50, 48, 48, 55, 49, 49, 48, 52, 84, 48, 50, 48, 48, 48, 48]⟩ : ByteArray), .int .i64 (-4), .int .i64 (-5), .int .i64 11, .int .i64 1] rfl (by (try simp only [List.map_toArray, List.map_cons, List.map_nil]); first | done | rfl | (simp only [List.length_drop, List.length_take]; rfl)) ?_; (with_reducible refine (zone_sundays.calls (⟨#[50, 48, 48, 55, 49, 49, 48, 52, 84, 48, 50, 48, 48, 48, 48]⟩ : ByteArray) (-4) (-5) 11 1 t291 t292 t293 t294 t295 t296 t297 _ A2.out (HTab.out.below (by repeat (first | (with_reducible first | exact HB.out | apply below_alloc | apply pw_below_drewN | apply below_drew1) | exact HB.out)))).mono ?_); rintro e w9 ⟨rfl, hb⟩; refine ⟨_, rfl, ?_⟩; have n0_ := Aside0.mk (below_step (by repeat (first | (with_reducible first | exact HB.out | apply below_alloc | apply pw_below_drewN | apply below_drew1) | exact HB.out)) hb); clear HB; have HB := n0_; clear n0_; (try clear hb); (try clear hb2); (try clear hk); (try clear hi)) | ((with_reducible refine gate_dst (N := 3) rfl ?_); refine Kd.R_lit k32 _ 32 ?hg (N := 3) ?hd (xs := ([(⟨t284, t285, t286, t287, t288, (⟨t289, t290⟩ : S30)⟩ : S32), (⟨t291, t292, t293, t294, t295, (⟨t296, t297⟩ : S30)⟩ : S32)] : List (S32))) (inner := [.int .i64 t284, .int .i64 t285, .int .i64 t286, .bool t287, .int .i64 t288, .int .i64 t289, .int .i64 t290, .int .i64 t291, .int .i64 t292, .int .i64 t293, .bool t294, .int .i64 t295, .int .i64 t296, .int .i64 t297]) (ok := fun _ => True) (okp := fun _ => True) ?hr ?hp (fun _ hk => hk) trivial (Below.refl _ _) (Nat.le_refl _) (by simp) ?_; (case hd => rfl); (case hg => rfl); (case hr => first | (go_simp; done) | (go_simp; rfl)); (case hp => exact (Reps.c7 (show Kd.M k32 _ _ _ (⟨t284, t285, t286, t287, t288, (⟨t289, t290⟩ : S30)⟩ : S32) [.int .i64 t284, .int .i64 t285, .int .i64 t286, .bool t287, .int .i64 t288, .int .i64 t289, .int .i64 t290] from (k32_mkM _ _ _ (⟨t284, t285, t286, t287, t288, (⟨t289, t290⟩ : S30)⟩ : S32) )) (Reps.c7 (show Kd.M k32 _ _ _ (⟨t291, t292, t293, t294, t295, (⟨t296, t297⟩ : S30)⟩ : S32) [.int .i64 t291, .int .i64 t292, .int .i64 t293, .bool t294, .int .i64 t295, .int .i64 t296, .int .i64 t297] from (k32_mkM _ _ _ (⟨t291, t292, t293, t294, t295, (⟨t296, t297⟩ : S30)⟩ : S32) )) (Reps.none _ _)))); intro v299 w10 ho11 hb hg_ hnew_; clear hg_ hnew_; (first | rw [← Ny298.out] at ho11 | (simp only [Int.reduceToNat] at ho11; rw [← Ny298.out] at ho11)); have n0_ := Aside0.mk (Kd.R_lower (Kd.R_newM (M := fun k_ => (w.heap.size ≤ k_)) ho11 (below_size (by repeat (first | (with_reducible first | exact HB.out | apply below_alloc | apply pw_below_drewN | apply below_drew1) | exact HB.out))) (fun k_ h_ => h_)) (below_size (by repeat (first | (with_reducible first | exact HB.out | apply below_alloc | apply pw_below_drewN | apply below_drew1) | exact HB.out)))); have n1_ := Aside0.mk (below_step (by repeat (first | (with_reducible first | exact HB.out | apply below_alloc | apply pw_below_drewN | apply below_drew1) | exact HB.out)) hb); clear HB; have HO300 := n0_; have HB := n1_; clear n0_ n1_; clear hb ho11; obtain ⟨Ao12, co12, eo12⟩ := Kd.R_slice HO300.out; subst eo12) | ((with_reducible refine gate_callee (f := 54) rfl ?_); refine goesL_ (some 5) rfl rfl Tryz.func54 (by kernel_rfl) rfl #[.string (⟨#[49, 57, 52, 53, 49, 48, 49, 53, 84, 48, 48, 48, 48, 48, 48]⟩ : ByteArray)] rfl (by (try simp only [List.map_toArray, List.map_cons, List.map_nil]); first | done | rfl | (simp only [List.length_drop, List.length_take]; rfl)) ?_; (with_reducible refine (zone_stamp.calls (⟨#[49, 57, 52, 53, 49, 48, 49, 53, 84, 48, 48, 48, 48, 48, 48]⟩ : ByteArray) t301 _ A3.out (HTab.out.below (by repeat (first | (with_reducible first | exact HB.out | apply below_alloc | apply pw_below_drewN | apply below_drew1) | exact HB.out)))).mono ?_); rintro e w13 ⟨rfl, hb⟩; refine ⟨_, rfl, ?_⟩; have n0_ := Aside0.mk (Kd.R_below (by (with_reducible repeat (first | apply Kd.R_alloc | apply Kd.R_drewN | apply Kd.R_drew)); exact HO300.out) hb); have n1_ := Aside0.mk (below_step (by repeat (first | (with_reducible first | exact HB.out | apply below_alloc | apply pw_below_drewN | apply below_drew1) | exact HB.out)) hb); clear HO300; clear HB; have HO300 := n0_; have HB := n1_; clear n0_ n1_; (try clear hb); (try clear hb2); (try clear hk); (try clear hi)) | ((with_reducible refine gate_dst (N := 7) rfl ?_); refine Kd.R_lit k32 _ 32 ?hg (N := 7) ?hd (xs := ([(⟨t301, 19800, 19800, false, 0, (⟨0, 0⟩ : S30)⟩ : S32)] : List (S32))) (inner := [.int .i64 t301, .int .i64 19800, .int .i64 19800, .bool false, .int .i64 0, .int .i64 0, .int .i64 0]) (ok := fun _ => True) (okp := fun _ => True) ?hr ?hp (fun _ hk => hk) trivial (Below.refl _ _) (Nat.le_refl _) (by simp) ?_; (case hd => rfl); (case hg => rfl); (case hr => first | (go_simp; done) | (go_simp; rfl)); (case hp => exact (Reps.c7 (show Kd.M k32 _ _ _ (⟨t301, 19800, 19800, false, 0, (⟨0, 0⟩ : S30)⟩ : S32) [.int .i64 t301, .int .i64 19800, .int .i64 19800, .bool false, .int .i64 0, .int .i64 0, .int .i64 0] from (k32_mkM _ _ _ (⟨t301, 19800, 19800, false, 0, (⟨0, 0⟩ : S30)⟩ : S32) )) (Reps.none _ _))); intro v303 w14 ho15 hb hg_ hnew_; clear hg_ hnew_; (first | rw [← Ny302.out] at ho15 | (simp only [Int.reduceToNat] at ho15; rw [← Ny302.out] at ho15)); have n0_ := Aside0.mk (Kd.R_elder' (by (with_reducible repeat (first | apply Kd.R_alloc | apply Kd.R_drewN | apply Kd.R_drew)); exact HO300.out) (Kd.R_base ho15) hb); have n1_ := Aside0.mk (Kd.R_lower (Kd.R_new' (Kd.R_newM (M := fun k_ => (w.heap.size ≤ k_)) ho15 (below_size (by repeat (first | (with_reducible first | exact HB.out | apply below_alloc | apply pw_below_drewN | apply below_drew1) | exact HB.out))) (fun k_ h_ => h_)) (Kd.R_lt (by (with_reducible repeat (first | apply Kd.R_alloc | apply Kd.R_drewN | apply Kd.R_drew)); exact HO300.out))) (below_size (by repeat (first | (with_reducible first | exact HB.out | apply below_alloc | apply pw_below_drewN | apply below_drew1) | exact HB.out)))); have n2_ := Aside0.mk (below_step (by repeat (first | (with_reducible first | exact HB.out | apply below_alloc | apply pw_below_drewN | apply below_drew1) | exact HB.out)) hb); clear HO300; clear HB; have HO300 := n0_; have HO304 := n1_; have HB := n2_; clear n0_ n1_ n2_; clear hb ho15; obtain ⟨Ao16, co16, eo16⟩ := Kd.R_slice HO304.out; subst eo16) | ((with_reducible refine gate_callee (f := 53) rfl ?_); refine goesL_ (some 9) rfl rfl Tryz.func53 (by kernel_rfl) rfl #[.string (⟨#[50, 48, 48, 56, 48, 52, 48, 54, 84, 48, 51, 48, 48, 48, 48]⟩ : ByteArray), .int .i64 11, .int .i64 10, .int .i64 4, .int .i64 1] rfl (by (try simp only [List.map_toArray, List.map_cons, List.map_nil]); first | done | rfl | (simp only [List.length_drop, List.length_take]; rfl)) ?_; (with_reducible refine (zone_sundays.calls (⟨#[50, 48, 48, 56, 48, 52, 48, 54, 84, 48, 51, 48, 48, 48, 48]⟩ : ByteArray) 11 10 4 1 t305 t306 t307 t308 t309 t310 t311 _ A4.out (HTab.out.below (by repeat (first | (with_reducible first | exact HB.out | apply below_alloc | apply pw_below_drewN | apply below_drew1) | exact HB.out)))).mono ?_); rintro e w17 ⟨rfl, hb⟩; refine ⟨_, rfl, ?_⟩; have n0_ := Aside0.mk (Kd.R_below (by (with_reducible repeat (first | apply Kd.R_alloc | apply Kd.R_drewN | apply Kd.R_drew)); exact HO300.out) hb); have n1_ := Aside0.mk (Kd.R_below (by (with_reducible repeat (first | apply Kd.R_alloc | apply Kd.R_drewN | apply Kd.R_drew)); exact HO304.out) hb); have n2_ := Aside0.mk (below_step (by repeat (first | (with_reducible first | exact HB.out | apply below_alloc | apply pw_below_drewN | apply below_drew1) | exact HB.out)) hb); clear HO300; clear HO304; clear HB; have HO300 := n0_; have HO304 := n1_; have HB := n2_; clear n0_ n1_ n2_; (try clear hb); (try clear hb2); (try clear hk); (try clear hi)) | ((with_reducible refine gate_callee (f := 53) rfl ?_); refine goesL_ (some 10) rfl rfl Tryz.func53 (by kernel_rfl) rfl #[.string (⟨#[50, 48, 48, 56, 49, 48, 48, 53, 84, 48, 50, 48, 48, 48, 48]⟩ : ByteArray), .int .i64 10, .int .i64 11, .int .i64 10, .int .i64 1] rfl (by (try simp only [List.map_toArray, List.map_cons, List.map_nil]); first | done | rfl | (simp only [List.length_drop, List.length_take]; rfl)) ?_; (with_reducible refine (zone_sundays.calls (⟨#[50, 48, 48, 56, 49, 48, 48, 53, 84, 48, 50, 48, 48, 48, 48]⟩ : ByteArray) 10 11 10 1 t312 t313 t314 t315 t316 t317 t318 _ A5.out (HTab.out.below (by repeat (first | (with_reducible first | exact HB.out | apply below_alloc | apply pw_below_drewN | apply below_drew1) | exact HB.out)))).mono ?_); rintro e w18 ⟨rfl, hb⟩; refine ⟨_, rfl, ?_⟩; have n0_ := Aside0.mk (Kd.R_below (by (with_reducible repeat (first | apply Kd.R_alloc | apply Kd.R_drewN | apply Kd.R_drew)); exact HO300.out) hb); have n1_ := Aside0.mk (Kd.R_below (by (with_reducible repeat (first | apply Kd.R_alloc | apply Kd.R_drewN | apply Kd.R_drew)); exact HO304.out) hb); have n2_ := Aside0.mk (below_step (by repeat (first | (with_reducible first | exact HB.out | apply below_alloc | apply pw_below_drewN | apply below_drew1) | exact HB.out)) hb); clear HO300; clear HO304; clear HB; have HO300 := n0_; have HO304 := n1_; have HB := n2_; clear n0_ n1_ n2_; (try clear hb); (try clear hb2); (try clear hk); (try clear hi)) | ((with_reducible refine gate_dst (N := 11) rfl ?_); refine Kd.R_lit k32 _ 32 ?hg (N := 11) ?hd (xs := ([(⟨t305, t306, t307, t308, t309, (⟨t310, t311⟩ : S30)⟩ : S32), (⟨t312, t313, t314, t315, t316, (⟨t317, t318⟩ : S30)⟩ : S32)] : List (S32))) (inner := [.int .i64 t305, .int .i64 t306, .int .i64 t307, .bool t308, .int .i64 t309, .int .i64 t310, .int .i64 t311, .int .i64 t312, .int .i64 t313, .int .i64 t314, .bool t315, .int .i64 t316, .int .i64 t317, .int .i64 t318]) (ok := fun _ => True) (okp := fun _ => True) ?hr ?hp (fun _ hk => hk) trivial (Below.refl _ _) (Nat.le_refl _) (by simp) ?_; (case hd => rfl); (case hg => rfl); (case hr => first | (go_simp; done) | (go_simp; rfl)); (case hp => exact (Reps.c7 (show Kd.M k32 _ _ _ (⟨t305, t306, t307, t308, t309, (⟨t310, t311⟩ : S30)⟩ : S32) [.int .i64 t305, .int .i64 t306, .int .i64 t307, .bool t308, .int .i64 t309, .int .i64 t310, .int .i64 t311] from (k32_mkM _ _ _ (⟨t305, t306, t307, t308, t309, (⟨t310, t311⟩ : S30)⟩ : S32) )) (Reps.c7 (show Kd.M k32 _ _ _ (⟨t312, t313, t314, t315, t316, (⟨t317, t318⟩ : S30)⟩ : S32) [.int .i64 t312, .int .i64 t313, .int .i64 t314, .bool t315, .int .i64 t316, .int .i64 t317, .int .i64 t318] from (k32_mkM _ _ _ (⟨t312, t313, t314, t315, t316, (⟨t317, t318⟩ : S30)⟩ : S32) )) (Reps.none _ _)))); intro v320 w19 ho20 hb hg_ hnew_; clear hg_ hnew_; (first | rw [← Ny319.out] at ho20 | (simp only [Int.reduceToNat] at ho20; rw [← Ny319.out] at ho20)); have n0_ := Aside0.mk (Kd.R_elder' (by (with_reducible repeat (first | apply Kd.R_alloc | apply Kd.R_drewN | apply Kd.R_drew)); exact HO300.out) (Kd.R_base ho20) hb); have n1_ := Aside0.mk (Kd.R_elder' (by (with_reducible repeat (first | apply Kd.R_alloc | apply Kd.R_drewN | apply Kd.R_drew)); exact HO304.out) (Kd.R_base ho20) hb); have n2_ := Aside0.mk (Kd.R_lower (Kd.R_new' (Kd.R_new' (Kd.R_newM (M := fun k_ => (w.heap.size ≤ k_)) ho20 (below_size (by repeat (first | (with_reducible first | exact HB.out | apply below_alloc | apply pw_below_drewN | apply below_drew1) | exact HB.out))) (fun k_ h_ => h_)) (Kd.R_lt (by (with_reducible repeat (first | apply Kd.R_alloc | apply Kd.R_drewN | apply Kd.R_drew)); exact HO300.out))) (Kd.R_lt (by (with_reducible repeat (first | apply Kd.R_alloc | apply Kd.R_drewN | apply Kd.R_drew)); exact HO304.out))) (below_size (by repeat (first | (with_reducible first | exact HB.out | apply below_alloc | apply pw_below_drewN | apply below_drew1) | exact HB.out)))); have n3_ := Aside0.mk (below_step (by repeat (first | (with_reducible first | exact HB.out | apply below_alloc | apply pw_below_drewN | apply below_drew1) | exact HB.out)) hb); clear HO300; clear HO304; clear HB; have HO300 := n0_; have HO304 := n1_; have HO321 := n2_; have HB := n3_; clear n0_ n1_ n2_ n3_; clear hb ho20; obtain ⟨Ao21, co21, eo21⟩ := Kd.R_slice HO321.out; subst eo21) | ((with_reducible refine gate_callee (f := 53) rfl ?_); refine goesL_ (some 14) rfl rfl Tryz.func53 (by kernel_rfl) rfl #[.string (⟨#[49, 57, 57, 54, 48, 51, 51, 49, 84, 48, 50, 48, 48, 48, 48]⟩ : ByteArray), .int .i64 1, .int .i64 2, .int .i64 3, .int .i64 (-1)] rfl (by (try simp only [List.map_toArray, List.map_cons, List.map_nil]); first | done | rfl | (simp only [List.length_drop, List.length_take]; rfl)) ?_; (with_reducible refine (zone_sundays.calls (⟨#[49, 57, 57, 54, 48, 51, 51, 49, 84, 48, 50, 48, 48, 48, 48]⟩ : ByteArray) 1 2 3 (-1) t322 t323 t324 t325 t326 t327 t328 _ A6.out (HTab.out.below (by repeat (first | (with_reducible first | exact HB.out | apply below_alloc | apply pw_below_drewN | apply below_drew1) | exact HB.out)))).mono ?_); rintro e w22 ⟨rfl, hb⟩; refine ⟨_, rfl, ?_⟩; have n0_ := Aside0.mk (Kd.R_below (by (with_reducible repeat (first | apply Kd.R_alloc | apply Kd.R_drewN | apply Kd.R_drew)); exact HO300.out) hb); have n1_ := Aside0.mk (Kd.R_below (by (with_reducible repeat (first | apply Kd.R_alloc | apply Kd.R_drewN | apply Kd.R_drew)); exact HO304.out) hb); have n2_ := Aside0.mk (Kd.R_below (by (with_reducible repeat (first | apply Kd.R_alloc | apply Kd.R_drewN | apply Kd.R_drew)); exact HO321.out) hb); have n3_ := Aside0.mk (below_step (by repeat (first | (with_reducible first | exact HB.out | apply below_alloc | apply pw_below_drewN | apply below_drew1) | exact HB.out)) hb); clear HO300; clear HO304; clear HO321; clear HB; have HO300 := n0_; have HO304 := n1_; have HO321 := n2_; have HB := n3_; clear n0_ n1_ n2_ n3_; (try clear hb); (try clear hb2); (try clear hk); (try clear hi)) | ((with_reducible refine gate_callee (f := 53) rfl ?_); refine goesL_ (some 15) rfl rfl Tryz.func53 (by kernel_rfl) rfl #[.string (⟨#[49, 57, 57, 54, 49, 48, 50, 55, 84, 48, 51, 48, 48, 48, 48]⟩ : ByteArray), .int .i64 2, .int .i64 1, .int .i64 10, .int .i64 (-1)] rfl (by (try simp only [List.map_toArray, List.map_cons, List.map_nil]); first | done | rfl | (simp only [List.length_drop, List.length_take]; rfl)) ?_; (with_reducible refine (zone_sundays.calls (⟨#[49, 57, 57, 54, 49, 48, 50, 55, 84, 48, 51, 48, 48, 48, 48]⟩ : ByteArray) 2 1 10 (-1) t329 t330 t331 t332 t333 t334 t335 _ A7.out (HTab.out.below (by repeat (first | (with_reducible first | exact HB.out | apply below_alloc | apply pw_below_drewN | apply below_drew1) | exact HB.out)))).mono ?_); rintro e w23 ⟨rfl, hb⟩; refine ⟨_, rfl, ?_⟩; have n0_ := Aside0.mk (Kd.R_below (by (with_reducible repeat (first | apply Kd.R_alloc | apply Kd.R_drewN | apply Kd.R_drew)); exact HO300.out) hb); have n1_ := Aside0.mk (Kd.R_below (by (with_reducible repeat (first | apply Kd.R_alloc | apply Kd.R_drewN | apply Kd.R_drew)); exact HO304.out) hb); have n2_ := Aside0.mk (Kd.R_below (by (with_reducible repeat (first | apply Kd.R_alloc | apply Kd.R_drewN | apply Kd.R_drew)); exact HO321.out) hb); have n3_ := Aside0.mk (below_step (by repeat (first | (with_reducible first | exact HB.out | apply below_alloc | apply pw_below_drewN | apply below_drew1) | exact HB.out)) hb); clear HO300; clear HO304; clear HO321; clear HB; have HO300 := n0_; have HO304 := n1_; have HO321 := n2_; have HB := n3_; clear n0_ n1_ n2_ n3_; (try clear hb); (try clear hb2); (try clear hk); (try clear hi)) | ((with_reducible refine gate_dst (N := 16) rfl ?_); refine Kd.R_lit k32 _ 32 ?hg (N := 16) ?hd (xs := ([(⟨t322, t323, t324, t325, t326, (⟨t327, t328⟩ : S30)⟩ : S32), (⟨t329, t330, t331, t332, t333, (⟨t334, t335⟩ : S30)⟩ : S32)] : List (S32))) (inner := [.int .i64 t322, .int .i64 t323, .int .i64 t324, .bool t325, .int .i64 t326, .int .i64 t327, .int .i64 t328, .int .i64 t329, .int .i64 t330, .int .i64 t331, .bool t332, .int .i64 t333, .int .i64 t334, .int .i64 t335]) (ok := fun _ => True) (okp := fun _ => True) ?hr ?hp (fun _ hk => hk) trivial (Below.refl _ _) (Nat.le_refl _) (by simp) ?_; (case hd => rfl); (case hg => rfl); (case hr => first | (go_simp; done) | (go_simp; rfl)); (case hp => exact (Reps.c7 (show Kd.M k32 _ _ _ (⟨t322, t323, t324, t325, t326, (⟨t327, t328⟩ : S30)⟩ : S32) [.int .i64 t322, .int .i64 t323, .int .i64 t324, .bool t325, .int .i64 t326, .int .i64 t327, .int .i64 t328] from (k32_mkM _ _ _ (⟨t322, t323, t324, t325, t326, (⟨t327, t328⟩ : S30)⟩ : S32) )) (Reps.c7 (show Kd.M k32 _ _ _ (⟨t329, t330, t331, t332, t333, (⟨t334, t335⟩ : S30)⟩ : S32) [.int .i64 t329, .int .i64 t330, .int .i64 t331, .bool t332, .int .i64 t333, .int .i64 t334, .int .i64 t335] from (k32_mkM _ _ _ (⟨t329, t330, t331, t332, t333, (⟨t334, t335⟩ : S30)⟩ : S32) )) (Reps.none _ _)))); intro v337 w24 ho25 hb hg_ hnew_; clear hg_ hnew_; (first | rw [← Ny336.out] at ho25 | (simp only [Int.reduceToNat] at ho25; rw [← Ny336.out] at ho25)); have n0_ := Aside0.mk (Kd.R_elder' (by (with_reducible repeat (first | apply Kd.R_alloc | apply Kd.R_drewN | apply Kd.R_drew)); exact HO300.out) (Kd.R_base ho25) hb); have n1_ := Aside0.mk (Kd.R_elder' (by (with_reducible repeat (first | apply Kd.R_alloc | apply Kd.R_drewN | apply Kd.R_drew)); exact HO304.out) (Kd.R_base ho25) hb); have n2_ := Aside0.mk (Kd.R_elder' (by (with_reducible repeat (first | apply Kd.R_alloc | apply Kd.R_drewN | apply Kd.R_drew)); exact HO321.out) (Kd.R_base ho25) hb); have n3_ := Aside0.mk (Kd.R_lower (Kd.R_new' (Kd.R_new' (Kd.R_new' (Kd.R_newM (M := fun k_ => (w.heap.size ≤ k_)) ho25 (below_size (by repeat (first | (with_reducible first | exact HB.out | apply below_alloc | apply pw_below_drewN | apply below_drew1) | exact HB.out))) (fun k_ h_ => h_)) (Kd.R_lt (by (with_reducible repeat (first | apply Kd.R_alloc | apply Kd.R_drewN | apply Kd.R_drew)); exact HO300.out))) (Kd.R_lt (by (with_reducible repeat (first | apply Kd.R_alloc | apply Kd.R_drewN | apply Kd.R_drew)); exact HO304.out))) (Kd.R_lt (by (with_reducible repeat (first | apply Kd.R_alloc | apply Kd.R_drewN | apply Kd.R_drew)); exact HO321.out))) (below_size (by repeat (first | (with_reducible first | exact HB.out | apply below_alloc | apply pw_below_drewN | apply below_drew1) | exact HB.out)))); have n4_ := Aside0.mk (below_step (by repeat (first | (with_reducible first | exact HB.out | apply below_alloc | apply pw_below_drewN | apply below_drew1) | exact HB.out)) hb); clear HO300; clear HO304; clear HO321; clear HB; have HO300 := n0_; have HO304 := n1_; have HO321 := n2_; have HO338 := n3_; have HB := n4_; clear n0_ n1_ n2_ n3_ n4_; clear hb ho25; obtain ⟨Ao26, co26, eo26⟩ := Kd.R_slice HO338.out; subst eo26) | ((with_reducible refine gate_dst (N := 19) rfl ?_); refine Kd.N_lit k24 _ 24 ?hg (N' := 19) ?hd (xs := ([(⟨(⟨#[65, 109, 101, 114, 105, 99, 97, 47, 78, 101, 119, 95, 89, 111, 114, 107]⟩ : ByteArray), y298⟩ : S24), (⟨(⟨#[65, 115, 105, 97, 47, 75, 111, 108, 107, 97, 116, 97]⟩ : ByteArray), y302⟩ : S24), (⟨(⟨#[65, 117, 115, 116, 114, 97, 108, 105, 97, 47, 83, 121, 100, 110, 101, 121]⟩ : ByteArray), y319⟩ : S24), (⟨(⟨#[69, 116, 99, 47, 85, 84, 67]⟩ : ByteArray), ([] : List (S32))⟩ : S24), (⟨(⟨#[69, 117, 114, 111, 112, 101, 47, 66, 101, 114, 108, 105, 110]⟩ : ByteArray), y336⟩ : S24), (⟨(⟨#[85, 84, 67]⟩ : ByteArray), ([] : List (S32))⟩ : S24)] : List (S24))) (inner := [.string (⟨#[65, 109, 101, 114, 105, 99, 97, 47, 78, 101, 119, 95, 89, 111, 114, 107]⟩ : ByteArray), .slice Ao12 y298.length co12, .string (⟨#[65, 115, 105, 97, 47, 75, 111, 108, 107, 97, 116, 97]⟩ : ByteArray), .slice Ao16 y302.length co16, .string (⟨#[65, 117, 115, 116, 114, 97, 108, 105, 97, 47, 83, 121, 100, 110, 101, 121]⟩ : ByteArray), .slice Ao21 y319.length co21, .string (⟨#[69, 116, 99, 47, 85, 84, 67]⟩ : ByteArray), .slice none 0 0, .string (⟨#[69, 117, 114, 111, 112, 101, 47, 66, 101, 114, 108, 105, 110]⟩ : ByteArray), .slice Ao26 y336.length co26, .string (⟨#[85, 84, 67]⟩ : ByteArray), .slice none 0 0]) (ok := (fun k_ => (w.heap.size ≤ k_))) (okp := (fun k_ => (w.heap.size ≤ k_))) ?hr ?hp (fun _ hk => hk) ((show ∀ k_, w24.heap.size ≤ k_ → (fun k_ => (w.heap.size ≤ k_)) k_ from fun k_ hk => (Nat.le_trans (below_size (by repeat (first | (with_reducible first | exact HB.out | apply below_alloc | apply pw_below_drewN | apply below_drew1) | exact HB.out))) hk)) _ (Nat.le_refl _)) (Below.refl _ _) (Nat.le_refl _) (by simp) ?_; (case hd => rfl); (case hg => rfl); (case hr => first | (go_simp; done) | (go_simp; rfl)); (case hp => exact (Reps.c2 (show Kd.FK k24 _ _ (⟨(⟨#[65, 109, 101, 114, 105, 99, 97, 47, 78, 101, 119, 95, 89, 111, 114, 107]⟩ : ByteArray), y298⟩ : S24) [.string (⟨#[65, 109, 101, 114, 105, 99, 97, 47, 78, 101, 119, 95, 89, 111, 114, 107]⟩ : ByteArray), .slice Ao12 y298.length co12] from (k24_mkF _ _ (⟨(⟨#[65, 109, 101, 114, 105, 99, 97, 47, 78, 101, 119, 95, 89, 111, 114, 107]⟩ : ByteArray), y298⟩ : S24) (Kd.R_reads' (Kd.R_mono (ok' := (fun k_ => (w.heap.size ≤ k_))) (HO300.out) (fun k_ hk => hk.1.1.1.1))).2.1 (Kd.R_F (Kd.R_mono (ok' := (fun k_ => (w.heap.size ≤ k_))) (HO300.out) (fun k_ hk => hk.1.1.1.1))))) (Reps.c2 (show Kd.FK k24 _ _ (⟨(⟨#[65, 115, 105, 97, 47, 75, 111, 108, 107, 97, 116, 97]⟩ : ByteArray), y302⟩ : S24) [.string (⟨#[65, 115, 105, 97, 47, 75, 111, 108, 107, 97, 116, 97]⟩ : ByteArray), .slice Ao16 y302.length co16] from (k24_mkF _ _ (⟨(⟨#[65, 115, 105, 97, 47, 75, 111, 108, 107, 97, 116, 97]⟩ : ByteArray), y302⟩ : S24) (Kd.R_reads' (Kd.R_mono (ok' := (fun k_ => (w.heap.size ≤ k_))) (HO304.out) (fun k_ hk => hk.1.1.1.1))).2.1 (Kd.R_F (Kd.R_mono (ok' := (fun k_ => (w.heap.size ≤ k_))) (HO304.out) (fun k_ hk => hk.1.1.1.1))))) (Reps.c2 (show Kd.FK k24 _ _ (⟨(⟨#[65, 117, 115, 116, 114, 97, 108, 105, 97, 47, 83, 121, 100, 110, 101, 121]⟩ : ByteArray), y319⟩ : S24) [.string (⟨#[65, 117, 115, 116, 114, 97, 108, 105, 97, 47, 83, 121, 100, 110, 101, 121]⟩ : ByteArray), .slice Ao21 y319.length co21] from (k24_mkF _ _ (⟨(⟨#[65, 117, 115, 116, 114, 97, 108, 105, 97, 47, 83, 121, 100, 110, 101, 121]⟩ : ByteArray), y319⟩ : S24) (Kd.R_reads' (Kd.R_mono (ok' := (fun k_ => (w.heap.size ≤ k_))) (HO321.out) (fun k_ hk => hk.1.1.1.1))).2.1 (Kd.R_F (Kd.R_mono (ok' := (fun k_ => (w.heap.size ≤ k_))) (HO321.out) (fun k_ hk => hk.1.1.1.1))))) (Reps.c2 (show Kd.FK k24 _ _ (⟨(⟨#[69, 116, 99, 47, 85, 84, 67]⟩ : ByteArray), ([] : List (S32))⟩ : S24) [.string (⟨#[69, 116, 99, 47, 85, 84, 67]⟩ : ByteArray), .slice none 0 0] from (k24_mkF _ _ (⟨(⟨#[69, 116, 99, 47, 85, 84, 67]⟩ : ByteArray), ([] : List (S32))⟩ : S24) (Nat.le_refl _) (Kd.F_nil _ _ _))) (Reps.c2 (show Kd.FK k24 _ _ (⟨(⟨#[69, 117, 114, 111, 112, 101, 47, 66, 101, 114, 108, 105, 110]⟩ : ByteArray), y336⟩ : S24) [.string (⟨#[69, 117, 114, 111, 112, 101, 47, 66, 101, 114, 108, 105, 110]⟩ : ByteArray), .slice Ao26 y336.length co26] from (k24_mkF _ _ (⟨(⟨#[69, 117, 114, 111, 112, 101, 47, 66, 101, 114, 108, 105, 110]⟩ : ByteArray), y336⟩ : S24) (Kd.R_reads' (Kd.R_mono (ok' := (fun k_ => (w.heap.size ≤ k_))) (HO338.out) (fun k_ hk => hk.1.1.1.1))).2.1 (Kd.R_F (Kd.R_mono (ok' := (fun k_ => (w.heap.size ≤ k_))) (HO338.out) (fun k_ hk => hk.1.1.1.1))))) (Reps.c2 (show Kd.FK k24 _ _ (⟨(⟨#[85, 84, 67]⟩ : ByteArray), ([] : List (S32))⟩ : S24) [.string (⟨#[85, 84, 67]⟩ : ByteArray), .slice none 0 0] from (k24_mkF _ _ (⟨(⟨#[85, 84, 67]⟩ : ByteArray), ([] : List (S32))⟩ : S24) (Nat.le_refl _) (Kd.F_nil _ _ _))) (Reps.none _ _)))))))); intro v340 w27 ho28 hb hg_ hnew_; clear hg_ hnew_; (first | rw [← Ny339.out] at ho28 | (simp only [Int.reduceToNat] at ho28; rw [← Ny339.out] at ho28)); have n0_ := Aside0.mk (Kd.N_lower ho28 (below_size (by repeat (first | (with_reducible first | exact HB.out | apply below_alloc | apply pw_below_drewN | apply below_drew1) | exact HB.out)))); have n1_ := Aside0.mk (below_step (by repeat (first | (with_reducible first | exact HB.out | apply below_alloc | apply pw_below_drewN | apply below_drew1) | exact HB.out)) hb); clear HB; clear HO300; clear HO304; clear HO321; clear HO338; have HO341 := n0_; have HB := n1_; clear n0_ n1_; clear hb ho28))
  go_ret
  exact ⟨_, by first | rfl | (simp [errW_none, errW_some] <;> rfl) | (simp [*, errW_none, errW_some] <;> rfl), by (with_reducible repeat (first | apply Kd.N_alloc | apply Kd.N_drewN | apply Kd.N_drew)); exact HO341.out, by repeat (first | (with_reducible first | exact HB.out | apply below_alloc | apply pw_below_drewN | apply below_drew1) | exact HB.out)⟩
end Go.Proofs.YtmajmolbjiahlaaGreatDoor.PD
namespace Go.Proofs.YtmajmolbjiahlaaGreatDoor.PD
open Go.RowKit Go.Proofs.YtmajmolbjiahlaaGreatDoorW.PrintWords Go.Proofs.YtmajmolbjiahlaaGreatDoorW.PrintLast Go.Proofs.YtmajmolbjiahlaaGreatDoorW.PrintMore
attribute [local go_sem] isSome_setCell
set_option linter.unusedVariables false
set_option linter.unusedSimpArgs false
set_option maxRecDepth 100000 in
set_option maxHeartbeats 1600000 in
theorem named1_calls (nm : ByteArray) (G : Nat) (s : ByteArray) (A : Option Addr) (n c : Nat) (W : World) (hG : W.heap[G]? = some (.cells #[.string nm] 9 (0, 0))) :
    Calls Tryz.prog 36 (#[.agg #[.string s, .slice A n c]] ++ #[.pointer (some ⟨G, 0, none⟩)]) W fun e W' => e = .returned (.bool (s.toList == nm.toList)) ∧ Below W.heap.size W W' := by
  have hc : (W.alloc (.cells #[.string s, .slice A n c] 24)).cell? ⟨G, 0, none⟩ = some (.string nm) := (blk_cell (blk_alloc hG _) 0).trans rfl
  have HB0 := Aside0.mk (below_alloc (Below.refl W.heap.size W) (.cells #[.string s, .slice A n c] 24))
  go_enter Tryz.func36, Tryz.ntmps36
  go_wp2
  go_ret
  exact ⟨rfl, HB0.out⟩
set_option maxRecDepth 100000 in
set_option maxHeartbeats 1600000 in
theorem indexZ (fk : Nat) (fn : Func) (hfn : Tryz.prog.funcs[fk]? = some fn) (hname : (fn.name == "runtime.NumGoroutine") = false) (hbody : fn.body.isSome = true) (lb : Array Value) (p : ByteArray → Bool)
    (A0 : Option Addr) (c0 : Nat) (l0 : List S24) (w : World) (hr0 : Kd.C k24 w A0 l0.length l0)
    (hp : ∀ s A n c W, Below w.heap.size w W → Calls Tryz.prog fk (#[.agg #[.string s, .slice A n c]] ++ lb) W fun e W' => e = .returned (.bool (p s)) ∧ Below W.heap.size W W') :
    Calls Tryz.prog 35 #[.slice A0 l0.length c0, .func (.func fk) #[] lb] w fun e w' => e = .returned (.int .i64 (idxP (fun z => p z.f0) l0)) ∧ Below w.heap.size w w' := by
  have HR0 := Aside0.mk hr0
  have hml : l0.length ≤ 9223372036854775807 := by have := hr0.2.1; unfold maxLen at this; omega
  clear hr0
  have HP := Aside0.mk hp
  clear hp
  have HB := Aside0.mk (Below.refl w.heap.size w)
  go_enter Tryz.func35, Tryz.ntmps35
  go_wp2
  go_loopw [8] (fun v wr => ∃ k : Nat, v = .int .i64 k ∧ k ≤ l0.length ∧ Aside0 (∀ j, (hj : j < l0.length) → j < k → p l0[j].f0 = false) ∧ Aside0 (Below w.heap.size w wr)) (fun v _ => l0.length - (intOf v).toNat)
  case atStart => exact ⟨0, rfl, Nat.zero_le _, ⟨fun j _ hj => absurd hj (Nat.not_lt_zero _)⟩, HB⟩
  case round =>
    obtain ⟨k, rfl, hk, hno, hb⟩ := hrel
    by_cases hlt : k < l0.length
    · have hlt0 : decide ((k : Int) < (l0.length : Int)) = true := decide_eq_true (by omega)
      obtain ⟨ad, A1, c1, e, hx0, hx1, _, _⟩ := at_T24 HR0.out (k : Int) (by omega) (by omega)
      subst e
      replace hx0 := (hb.out.cell (World.block_lt_of_cell? w _ hx0)).trans hx0
      replace hx1 := (hb.out.cell (World.block_lt_of_cell? w _ hx1)).trans hx1
      have hget : rd_T24 l0 (k : Int) = l0[k] := by simp [rd_T24, hlt]
      rw [hget] at hx0 hx1
      have hc := HP.out l0[k].f0 A1 l0[k].f1.length c1 wr hb.out
      simp only [Int.toNat_natCast] at hx0 hx1
      cases hpk : p l0[k].f0 with
      | true =>
        rw [hpk] at hc
        have HC := Aside0.mk hc
        clear hc
        go_wp2_with ((with_reducible refine gate_tmp (t := 11) rfl ?_); refine goesF_ (some 16) rfl rfl hfn hname hbody (args := #[.agg #[.string l0[k].f0, .slice A1 l0[k].f1.length c1]] ++ lb) rfl rfl (by (try simp only [List.map_toArray, List.map_cons, List.map_nil]); first | done | rfl) ?_; refine HC.out.mono ?_; rintro e W' ⟨rfl, hb'⟩; refine ⟨_, rfl, ?_⟩)
        go_ret
        refine ⟨?_, hb.out.trans (hb'.mono hb.out.size)⟩
        rw [idxP_at (fun z => p z.f0) l0 k hlt hpk (fun j hj => hno.out j (by omega) hj)]
        rfl
      | false =>
        rw [hpk] at hc
        have HC := Aside0.mk hc
        clear hc
        go_wp2_with ((with_reducible refine gate_tmp (t := 11) rfl ?_); refine goesF_ (some 16) rfl rfl hfn hname hbody (args := #[.agg #[.string l0[k].f0, .slice A1 l0[k].f1.length c1]] ++ lb) rfl rfl (by (try simp only [List.map_toArray, List.map_cons, List.map_nil]); first | done | rfl) ?_; refine HC.out.mono ?_; rintro e W' ⟨rfl, hb'⟩; refine ⟨_, rfl, ?_⟩)
        go_roundw
        case rel =>
          refine ⟨k + 1, by simp, hlt, ⟨fun j hj hjk => ?_⟩, ⟨hb.out.trans (hb'.mono hb.out.size)⟩⟩
          rcases Nat.lt_or_ge j k with h | h
          · exact hno.out j hj h
          · obtain rfl : j = k := by omega
            exact hpk
        case measure => show l0.length - (((k : Int) + 1)).toNat < l0.length - ((k : Int)).toNat; omega
    · have hlt0 : decide ((k : Int) < (l0.length : Int)) = false := decide_eq_false (by omega)
      go_wp2
      go_ret
      refine ⟨?_, hb.out⟩
      rw [idxP_none (fun z => p z.f0) l0 (fun j hj => hno.out j hj (by omega))]
      rfl
def pickZ (a0 : ByteArray) (l : List S24) : ByteArray × List S32 × Bool := match l.find? (fun z => z.f0.toList == a0.toList) with
  | some z => (z.f0, z.f1, true)
  | none => ((⟨#[]⟩ : ByteArray), [], false)
def zone_Named.f (k : Nat) (a0 : ByteArray) : Option (ByteArray × (List (S32)) × Bool) := zone_known.f.bind fun l => some (pickZ a0 l)
theorem idx_find {α : Type} (p : α → Bool) (l : List α) : (idxP p l = -1 ∧ l.find? p = none) ∨ ∃ i : Nat, ∃ hi : i < l.length, idxP p l = i ∧ l.find? p = some l[i] := by
  unfold idxP
  cases h : l.findIdx? p with
  | none =>
    left
    rw [List.findIdx?_eq_none_iff] at h
    exact ⟨rfl, List.find?_eq_none.2 (fun x hx => by simp [h x hx])⟩
  | some i =>
    right
    obtain ⟨h1, h2, h3⟩ := List.findIdx?_eq_some_iff_getElem.1 h
    refine ⟨i, h1, rfl, ?_⟩
    rw [List.find?_eq_some_iff_getElem]
    exact ⟨h2, i, h1, rfl, fun j hj => by have := h3 j hj; simpa using this⟩
theorem elemZ {W : World} {l : List S24} {base : Nat} {ok : Nat → Prop} {Ao : Option Addr} {co : Nat} (h : Kd.N k24 24 W base ok (.slice Ao l.length co) l) (i : Nat) (hi : i < l.length) (base' : Nat) :
    ∃ ad A1 c1, Ao = some ad ∧ W.cell? (ad.add (i * 2)) = some (.string l[i].f0) ∧ W.cell? ⟨(ad.add (i * 2)).block, (ad.add (i * 2)).off + 1, none⟩ = some (.slice A1 l[i].f1.length c1) ∧ Kd.V k32 32 W base' ok (.slice A1 l[i].f1.length c1) l[i].f1 := by
  obtain ⟨ad, A1, c1, rfl, hx0, hx1, hl1, hc1⟩ := at_T24 (Kd.N_reads' h).2.2 (i : Int) (by omega) (by omega)
  have hgd : l.getD (i : Int).toNat z24 = l[i] := by simp [hi]
  have hgr : rd_T24 l (i : Int) = l[i] := hgd
  obtain ⟨ce, hce, hMe, hcc⟩ := Kd.N_get h z24 (i : Int) (by omega) (by omega)
  rw [hgd] at hMe
  obtain ⟨ua, uc, rfl, ul, ge⟩ := k24_openF hMe
  have hv := hcc 1 _ rfl
  rw [add_field _ _ 1 (by omega)] at hv
  replace hv := Option.some.inj (hv.symm.trans hx1)
  rw [hgr] at hx0 hx1 hv
  injection hv with hva hvn hvc
  rw [hva] at ge
  rw [hvc] at ul
  exact ⟨ad, A1, c1, rfl, hx0, hx1, Kd.V_mono (Kd.V_mk ul ge) (fun _ hk => hk.1)⟩
set_option maxRecDepth 100000 in
set_option maxHeartbeats 8000000 in
theorem zone_Named.calls (k : Nat) (a0 : ByteArray) (r1 : ByteArray) (r2 : List (S32)) (r3 : Bool) (w : World) (h : zone_Named.f k a0 = some (r1, r2, r3)) (hTab : Tab w) :
    Calls Tryz.prog 14 #[.string a0] w fun e w' => ∃ v1_ : Value, e = .returned (.tuple #[.agg #[.string r1, v1_], .bool r3]) ∧ Kd.V k32 32 w' w.heap.size (fun k_ => (w.heap.size ≤ k_)) v1_ r2 ∧ Below w.heap.size w w' := by
  obtain ⟨l, hl, hr⟩ := Option.bind_eq_some_iff.1 h
  have hr' := Option.some.inj hr
  clear h hr
  have HL := Aside0.mk hl
  have HTab := Aside0.mk hTab
  clear hl hTab
  have hu24 := Tryz.underlying24
  have HB := Aside0.mk (below_alloc (Below.refl w.heap.size w) (.cells #[.string a0] 9))
  have HN := Aside0.mk (heap_alloc_new w (.cells #[.string a0] 9))
  rcases idx_find (fun z : S24 => z.f0.toList == a0.toList) l with ⟨hi, hf⟩ | ⟨i, hi, he, hf⟩
  · have hP : pickZ a0 l = ((⟨#[]⟩ : ByteArray), [], false) := by unfold pickZ; rw [hf]
    rw [hP] at hr'
    obtain ⟨rfl, rfl, rfl⟩ : r1 = (⟨#[]⟩ : ByteArray) ∧ r2 = [] ∧ r3 = false := by simp only [Prod.mk.injEq] at hr'; exact ⟨hr'.1.symm, hr'.2.1.symm, hr'.2.2.symm⟩
    have HI := Aside0.mk hi
    clear hr' hP hf hi
    go_enter Tryz.func14, Tryz.ntmps14
    go_wp2_with (first | ((with_reducible refine gate_dst (N := 2) rfl ?_); refine box_event ?hg (N := 2) ?hd (cs := #[.string (⟨#[]⟩ : ByteArray), .slice none 0 0]) (t := 24) ?hr ?_; (case hd => rfl); (case hg => rfl); (case hr => first | (go_simp; done) | (go_simp; rfl)); intro gb hg w2 hbox hb; have BK := Aside0.mk hbox; have HB2 := Aside0.mk (below_step HB.out hb); have HN2 := Aside0.mk (blk_below HN.out hb); have GB := Aside0.mk (show w.heap.size + 1 = gb by rw [hg]; simp); clear HB HN hbox hb hg) | (go_at_call 34; refine (zone_known.calls l _ HL.out (HTab.out.below HB2.out)).mono ?_; rintro e w3 ⟨v0, rfl, hn, hb⟩; obtain ⟨Ao, co, eo⟩ := Kd.N_slice hn; subst eo; have HNN := Aside0.mk (show Kd.N k24 24 w3 w2.heap.size (fun k_ => w2.heap.size ≤ k_) (.slice Ao l.length co) l from hn); have BK3 := Aside0.mk (blk_below BK.out hb); have HN3 := Aside0.mk (blk_below HN2.out hb); have HB3 := Aside0.mk (below_step HB2.out hb); have GW := Aside0.mk (blk_lt BK.out); clear hn hb BK HN2 HB2) | (go_at_call 35; refine (indexZ 36 _ Tryz.func36 (by kernel_rfl) rfl #[.pointer (some ⟨w.heap.size, 0, none⟩)] (fun s => s.toList == a0.toList) Ao co l w3 (Kd.N_reads' HNN.out).2.2 (fun s A n c W hW => named1_calls a0 w.heap.size s A n c W (blk_below HN3.out hW))).mono ?_; rw [HI.out]; rintro e w4 ⟨rfl, hb⟩; have HN4 := Aside0.mk (Kd.N_below HNN.out hb); have BK4 := Aside0.mk (blk_below BK3.out hb); have HB4 := Aside0.mk (below_step HB3.out hb); clear hb HNN BK3 HN3 HB3; have f0 : w4.cell? ⟨gb, 0, none⟩ = some (.string ⟨#[]⟩) := (blk_cell BK4.out 0).trans rfl; have f1 : w4.cell? ⟨gb, 1, none⟩ = some (.slice none 0 0) := (blk_cell BK4.out 1).trans rfl; have z0 := blk_frozen BK4.out 0; have z1 := blk_frozen BK4.out 1))
    refine bodyPost_ret (results_ct rfl _ _ gb 24 #[.string (⟨#[]⟩ : ByteArray), .slice none 0 0] (0, 0) _ rfl (by refine blk_put (cs := #[.string (⟨#[]⟩ : ByteArray), .slice none 0 0]) ?_ 1 _ rfl; refine blk_put (cs := #[.string (⟨#[]⟩ : ByteArray), .slice none 0 0]) ?_ 0 _ rfl; exact BK4.out) Tryz.underlying24 rfl (by kernel_rfl)) rfl ?_
    exact ⟨_, rfl, Kd.V_nil _ _ _ _ _, below_set (below_set HB4.out (by have := GB.out; omega)) (by have := GB.out; omega)⟩
  · have hP : pickZ a0 l = (l[i].f0, l[i].f1, true) := by unfold pickZ; rw [hf]
    rw [hP] at hr'
    obtain ⟨rfl, rfl, rfl⟩ : r1 = l[i].f0 ∧ r2 = l[i].f1 ∧ r3 = true := by simp only [Prod.mk.injEq] at hr'; exact ⟨hr'.1.symm, hr'.2.1.symm, hr'.2.2.symm⟩
    have HI := Aside0.mk he
    have e0 : decide ((i : Int) < 0) = false := decide_eq_false (by omega)
    have p0 : (0 ≤ (i : Int)) = True := eq_true (by omega)
    have q0 : ((i : Int) < (l.length : Int)) = True := eq_true (by omega)
    have HIL := Aside0.mk hi
    have hget : rd_T24 l (i : Int) = l[i] := by simp [rd_T24, hi]
    have HG := Aside0.mk hget
    clear hr' hP hf he hget
    go_enter Tryz.func14, Tryz.ntmps14
    go_wp2_with (first | ((with_reducible refine gate_dst (N := 2) rfl ?_); refine box_event ?hg (N := 2) ?hd (cs := #[.string (⟨#[]⟩ : ByteArray), .slice none 0 0]) (t := 24) ?hr ?_; (case hd => rfl); (case hg => rfl); (case hr => first | (go_simp; done) | (go_simp; rfl)); intro gb hg w2 hbox hb; have BK := Aside0.mk hbox; have HB2 := Aside0.mk (below_step HB.out hb); have HN2 := Aside0.mk (blk_below HN.out hb); have GB := Aside0.mk (show w.heap.size + 1 = gb by rw [hg]; simp); clear HB HN hbox hb hg) | (go_at_call 34; refine (zone_known.calls l _ HL.out (HTab.out.below HB2.out)).mono ?_; rintro e w3 ⟨v0, rfl, hn, hb⟩; obtain ⟨Ao, co, eo⟩ := Kd.N_slice hn; subst eo; have HNN := Aside0.mk (show Kd.N k24 24 w3 w2.heap.size (fun k_ => w2.heap.size ≤ k_) (.slice Ao l.length co) l from hn); have BK3 := Aside0.mk (blk_below BK.out hb); have HN3 := Aside0.mk (blk_below HN2.out hb); have HB3 := Aside0.mk (below_step HB2.out hb); have GW := Aside0.mk (blk_lt BK.out); clear hn hb BK HN2 HB2) | (go_at_call 35; refine (indexZ 36 _ Tryz.func36 (by kernel_rfl) rfl #[.pointer (some ⟨w.heap.size, 0, none⟩)] (fun s => s.toList == a0.toList) Ao co l w3 (Kd.N_reads' HNN.out).2.2 (fun s A n c W hW => named1_calls a0 w.heap.size s A n c W (blk_below HN3.out hW))).mono ?_; rw [HI.out]; rintro e w4 ⟨rfl, hb⟩; have HN4 := Aside0.mk (Kd.N_below HNN.out hb); have BK4 := Aside0.mk (blk_below BK3.out hb); have HB4 := Aside0.mk (below_step HB3.out hb); clear hb HNN BK3 HN3 HB3; have f0 : w4.cell? ⟨gb, 0, none⟩ = some (.string ⟨#[]⟩) := (blk_cell BK4.out 0).trans rfl; have f1 : w4.cell? ⟨gb, 1, none⟩ = some (.slice none 0 0) := (blk_cell BK4.out 1).trans rfl; have z0 := blk_frozen BK4.out 0; have z1 := blk_frozen BK4.out 1; obtain ⟨ad, A1, c1, ea, hx0, hx1, hv⟩ := elemZ HN4.out i HIL.out w.heap.size; subst ea; have HV := Aside0.mk hv; clear hv))
    refine bodyPost_ret (results_ct rfl _ _ gb 24 #[.string l[i].f0, .slice A1 l[i].f1.length c1] (0, 0) _ rfl (by refine blk_put (cs := #[.string l[i].f0, .slice none 0 0]) ?_ 1 _ rfl; refine blk_put (cs := #[.string (⟨#[]⟩ : ByteArray), .slice none 0 0]) ?_ 0 _ rfl; exact BK4.out) Tryz.underlying24 rfl (by kernel_rfl)) rfl ?_
    exact ⟨_, rfl, Kd.V_mono (Kd.V_far (Kd.V_far HV.out (p := ⟨gb, 0, none⟩) (fun k hk e => by have := GW.out; have e' : k = gb := e; omega) _) (p := ⟨gb, 1, none⟩) (fun k hk e => by have := GW.out; have e' : k = gb := e; omega) _) (fun k hk => by have h1 := GW.out; have h2 := GB.out; have h3 : w2.heap.size ≤ k := hk; omega), below_set (below_set HB4.out (by have := GB.out; omega)) (by have := GB.out; omega)⟩
end Go.Proofs.YtmajmolbjiahlaaGreatDoor.PD
namespace Go.Proofs.YtmajmolbjiahlaaGreatDoor.PD
open Go.RowKit Go.Shelf Go.Proofs.YtmajmolbjiahlaaGreatDoorW.PrintWords Go.Proofs.YtmajmolbjiahlaaGreatDoorW.PrintLast Go.Proofs.YtmajmolbjiahlaaGreatDoorW.PrintMore
attribute [local go_sem] isSome_setCell
set_option linter.unusedVariables false
set_option linter.unusedSimpArgs false
abbrev berlin : ByteArray := ⟨#[69, 117, 114, 111, 112, 101, 47, 66, 101, 114, 108, 105, 110]⟩
abbrev nowhere : ByteArray := ⟨#[78, 111, 119, 104, 101, 114, 101]⟩
abbrev obsB : List S32 := [⟨828237600, 3600, 7200, true, 3, ⟨-1, 6⟩⟩, ⟨846385200, 7200, 3600, true, 10, ⟨-1, 6⟩⟩]
theorem nmB : zone_Named.f 0 berlin = some (berlin, obsB, true) := by kernel_rfl
theorem nmN : zone_Named.f 0 nowhere = some (⟨#[]⟩, [], false) := by kernel_rfl
theorem st20250330T013000 : date_ReadStamp.f ⟨#[50, 48, 50, 53, 48, 51, 51, 48, 84, 48, 49, 51, 48, 48, 48]⟩ = some (1743298200, 0) := by decide +kernel
theorem st20250330T003000 : date_ReadStamp.f ⟨#[50, 48, 50, 53, 48, 51, 51, 48, 84, 48, 48, 51, 48, 48, 48]⟩ = some (1743294600, 0) := by decide +kernel
theorem st20250330T023000 : date_ReadStamp.f ⟨#[50, 48, 50, 53, 48, 51, 51, 48, 84, 48, 50, 51, 48, 48, 48]⟩ = some (1743301800, 0) := by decide +kernel
theorem st20251026T023000 : date_ReadStamp.f ⟨#[50, 48, 50, 53, 49, 48, 50, 54, 84, 48, 50, 51, 48, 48, 48]⟩ = some (1761445800, 0) := by decide +kernel
theorem st20251026T003000 : date_ReadStamp.f ⟨#[50, 48, 50, 53, 49, 48, 50, 54, 84, 48, 48, 51, 48, 48, 48]⟩ = some (1761438600, 0) := by decide +kernel
theorem of0 : zone_Offset.f 20 berlin obsB 0 = some 3600 := by decide +kernel
theorem sort4 : sortDesc [3600, 7200, 7200, 3600] = [7200, 7200, 3600, 3600] := by
  simp [sortDesc, List.mergeSort, List.MergeSort.Internal.splitInTwo, List.merge]
theorem utS (x : Int) (h : inO x = true) : zone_Utc.f 20 berlin obsB x = zone_Utc.l1 16 x [7200, 7200, 3600, 3600] [7200, 7200, 3600, 3600] 4 0 berlin obsB := by
  have e1 : zone_Fit.f berlin obsB = some true := by decide
  have e2 : date_In.f x = some true := by rw [in_val, h]
  have e3 : slices_SortFunc_int64_int64.f 16 [3600, 7200, 7200, 3600] = some [7200, 7200, 3600, 3600] := by
    unfold slices_SortFunc_int64_int64.f
    rw [if_pos (by decide), sort4]
  have e4 : zone_Utc.j0 20 x (((obsB.length : Nat) : Int) == 0) berlin obsB = (slices_SortFunc_int64_int64.f 16 [3600, 7200, 7200, 3600]).bind fun t199 => (zone_Utc.l1 16 x t199 t199 4 0 berlin obsB) := by kernel_rfl
  unfold zone_Utc.f
  rw [e1, Option.bind_some, if_pos rfl, e2, Option.bind_some, if_pos rfl, e4, e3, Option.bind_some]
theorem ut1743298200 : zone_Utc.f 20 berlin obsB 1743298200 = some 1743294600 := by rw [utS _ (by decide)]; decide +kernel
theorem ut1743301800 : zone_Utc.f 20 berlin obsB 1743301800 = some 1743298200 := by rw [utS _ (by decide)]; decide +kernel
theorem ut1761445800 : zone_Utc.f 20 berlin obsB 1761445800 = some 1761438600 := by rw [utS _ (by decide)]; decide +kernel
set_option maxRecDepth 100000 in
set_option maxHeartbeats 1600000 in
theorem t_calls (s : ByteArray) (v : Int) (w : World) (h : date_ReadStamp.f s = some (v, 0)) (hTab : Tab w) : Calls Tryz.prog 30 #[.string s] w fun e w' => e = .returned (.int .i64 v) ∧ Below w.heap.size w w' := by
  have HR := Aside0.mk (date_ReadStamp.calls s v 0 w h hTab)
  clear h hTab
  go_enter Tryz.func30, Tryz.ntmps30
  go_wp2_with (go_at_call 31; refine HR.out.mono ?_; rintro e w1 ⟨rfl, hb⟩; have HB1 := Aside0.mk hb; clear hb)
  go_ret
  exact ⟨rfl, HB1.out⟩
def almanaclaw16_awake.f : Option Bool := some true
set_option maxRecDepth 100000 in
set_option maxHeartbeats 8000000 in
theorem almanaclaw16_awake.calls (r : Bool) (w : World) (h : almanaclaw16_awake.f = some r) (hTab : Tab w) : Calls Tryz.prog 12 #[] w fun e w' => e = .returned (.bool r) ∧ Below w.heap.size w w' := by
  obtain rfl : true = r := Option.some.inj h
  clear h
  have HT := Aside0.mk hTab
  clear hTab
  have hu24 := Tryz.underlying24
  have HB := Aside0.mk (Below.refl w.heap.size w)
  go_enter Tryz.func12, Tryz.ntmps12
  go_wp2_with (first
    | (go_at_call 14; refine (zone_Named.calls 0 berlin berlin obsB true _ nmB (HT.out.below HB.out)).mono ?_; rintro e w1 ⟨v1, rfl, hv1, hb⟩; obtain ⟨A, cp, rfl⟩ := Kd.V_slice hv1; have HP := Aside0.mk (show obsB.length ≤ cp from (Kd.V_reads' hv1).2.1); have HCa := Aside0.mk (Kd.C_below (show Kd.C k32 w1 A obsB.length obsB from (Kd.V_reads' hv1).2.2) (below_alloc (Below.refl _ _) (.cells #[.string berlin, .slice A 2 cp] 24))); have HBa := Aside0.mk (below_alloc (below_step HB.out hb) (.cells #[.string berlin, .slice A 2 cp] 24)); have BKa := Aside0.mk (heap_alloc_new w1 (.cells #[.string berlin, .slice A 2 cp] 24)); clear HB hv1 hb)
    | (go_at_call 14; refine (zone_Named.calls 0 nowhere ⟨#[]⟩ [] false _ nmN (HT.out.below HBa.out)).mono ?_; rintro e w2 ⟨v2, rfl, hv2, hb⟩; obtain ⟨A2, cp2, rfl⟩ := Kd.V_slice hv2; have HC0 := Aside0.mk (Kd.C_alloc (Kd.C_below HCa.out hb) (.cells #[.string ⟨#[]⟩, .slice A2 0 cp2] 24)); have HB0 := Aside0.mk (below_alloc (below_step HBa.out hb) (.cells #[.string ⟨#[]⟩, .slice A2 0 cp2] 24)); have BK0 := Aside0.mk (blk_alloc (blk_below BKa.out hb) (.cells #[.string ⟨#[]⟩, .slice A2 0 cp2] 24)); clear hv2 hb HCa HBa BKa))
  obtain ⟨gz, hgz⟩ : ∃ g, w1.heap.size = g := ⟨_, rfl⟩
  rw [hgz] at BK0 ⊢
  clear hgz
  refine start_ (n := 47) (S := fun w' => w'.cell? ⟨gz, 0, none⟩ = some (.string berlin) ∧ w'.cell? ⟨gz, 1, none⟩ = some (.slice A 2 cp)) (ds := []) #[false, false, false, false, false, false, false, false, false, false, false, false, false, false, false, false, false, false, false, false, false, false, false, false, false, false, false, false, false, false, false, false, false, false, false, false, false, false, false, false, false, false, false, false, false, false, false] (by kernel_rfl) rfl rfl ⟨(blk_cell (blk_drew BK0.out) 0).trans rfl, (blk_cell (blk_drew BK0.out) 1).trans rfl⟩ (fun hHeld => ?_)
  replace BK0 := Aside0.mk (blk_drew BK0.out)
  replace HB0 := Aside0.mk (below_drew1 HB0.out)
  replace HC0 := Aside0.mk (Kd.C_drew HC0.out)
  refine pure_ (i := 0) (N := some 14) (v := ?_) (a' := ?_) #[true, false, false, false, false, false, false, false, false, false, false, false, false, false, false, false, false, false, false, false, false, false, false, false, false, false, false, false, false, false, false, false, false, false, false, false, false, false, false, false, false, false, false, false, false, false, false] rfl rfl (by kernel_rfl) (fun _ _ _ h => h) (Or.inl ⟨by rfl, ?_⟩) ?_ ?_
  rotate_left
  · intro w'
    go_simp
    with_reducible rfl
  rotate_left
  · simp only [Act.put, List.setIfInBounds_toArray, List.set_cons_zero, List.set_cons_succ, i64_w, i32_w]
    rfl
  refine pure_ (i := 1) (N := some 15) (v := ?_) (a' := ?_) #[true, true, false, false, false, false, false, false, false, false, false, false, false, false, false, false, false, false, false, false, false, false, false, false, false, false, false, false, false, false, false, false, false, false, false, false, false, false, false, false, false, false, false, false, false, false, false] rfl rfl (by kernel_rfl) (fun _ _ _ h => h) (Or.inl ⟨by rfl, ?_⟩) ?_ ?_
  rotate_left
  · intro w'
    go_simp
    with_reducible rfl
  rotate_left
  · simp only [Act.put, List.setIfInBounds_toArray, List.set_cons_zero, List.set_cons_succ, i64_w, i32_w]
    rfl
  refine pure_ (i := 2) (N := some 16) (v := ?_) (a' := ?_) #[true, true, true, false, false, false, false, false, false, false, false, false, false, false, false, false, false, false, false, false, false, false, false, false, false, false, false, false, false, false, false, false, false, false, false, false, false, false, false, false, false, false, false, false, false, false, false] rfl rfl (by kernel_rfl) (fun _ _ _ h => h) (Or.inl ⟨by rfl, ?_⟩) ?_ ?_
  rotate_left
  · intro w'
    go_simp
    with_reducible rfl
  rotate_left
  · simp only [Act.put, List.setIfInBounds_toArray, List.set_cons_zero, List.set_cons_succ, i64_w, i32_w]
    rfl
  refine pure_ (i := 3) (N := some 17) (v := ?_) (a' := ?_) #[true, true, true, true, false, false, false, false, false, false, false, false, false, false, false, false, false, false, false, false, false, false, false, false, false, false, false, false, false, false, false, false, false, false, false, false, false, false, false, false, false, false, false, false, false, false, false] rfl rfl (by kernel_rfl) (fun _ _ _ h => h) (Or.inl ⟨by rfl, ?_⟩) ?_ ?_
  rotate_left
  · intro w'
    go_simp
    with_reducible rfl
  rotate_left
  · simp only [Act.put, List.setIfInBounds_toArray, List.set_cons_zero, List.set_cons_succ, i64_w, i32_w]
    rfl
  refine pure_ (i := 4) (N := some 18) (v := ?_) (a' := ?_) #[true, true, true, true, true, false, false, false, false, false, false, false, false, false, false, false, false, false, false, false, false, false, false, false, false, false, false, false, false, false, false, false, false, false, false, false, false, false, false, false, false, false, false, false, false, false, false] rfl rfl (by kernel_rfl) (fun _ _ _ h => h) (Or.inl ⟨by rfl, ?_⟩) ?_ ?_
  rotate_left
  · intro w'
    go_simp
    with_reducible rfl
  rotate_left
  · simp only [Act.put, List.setIfInBounds_toArray, List.set_cons_zero, List.set_cons_succ, i64_w, i32_w]
    rfl
  refine pure_ (i := 5) (N := some 19) (v := ?_) (a' := ?_) #[true, true, true, true, true, true, false, false, false, false, false, false, false, false, false, false, false, false, false, false, false, false, false, false, false, false, false, false, false, false, false, false, false, false, false, false, false, false, false, false, false, false, false, false, false, false, false] rfl rfl (by kernel_rfl) (fun _ _ _ h => h) (Or.inl ⟨by rfl, ?_⟩) ?_ ?_
  rotate_left
  · intro w'
    go_simp
    with_reducible rfl
  rotate_left
  · simp only [Act.put, List.setIfInBounds_toArray, List.set_cons_zero, List.set_cons_succ, i64_w, i32_w]
    rfl
  refine pure_ (i := 6) (N := some 20) (v := ?_) (a' := ?_) #[true, true, true, true, true, true, true, false, false, false, false, false, false, false, false, false, false, false, false, false, false, false, false, false, false, false, false, false, false, false, false, false, false, false, false, false, false, false, false, false, false, false, false, false, false, false, false] rfl rfl (by kernel_rfl) (fun _ _ _ h => h) (Or.inl ⟨by rfl, ?_⟩) ?_ ?_
  rotate_left
  · intro w'
    go_simp
    with_reducible rfl
  rotate_left
  · simp only [Act.put, List.setIfInBounds_toArray, List.set_cons_zero, List.set_cons_succ, i64_w, i32_w]
    rfl
  refine one_ (i := 7) (N := some 21) #[true, true, true, true, true, true, true, true, false, false, false, false, false, false, false, false, false, false, false, false, false, false, false, false, false, false, false, false, false, false, false, false, false, false, false, false, false, false, false, false, false, false, false, false, false, false, false] rfl rfl (by kernel_rfl) (by decide) (fun K hK => ?_)
  refine goesV_ Tryz.func30 (by kernel_rfl) rfl #[.string ⟨#[50, 48, 50, 53, 48, 51, 51, 48, 84, 48, 49, 51, 48, 48, 48]⟩] (by rfl) rfl rfl (by rfl) (by (try simp only [List.map_toArray, List.map_cons, List.map_nil]); first | done | rfl) ?_
  refine (t_calls ⟨#[50, 48, 50, 53, 48, 51, 51, 48, 84, 48, 49, 51, 48, 48, 48]⟩ 1743298200 _ st20250330T013000 (HT.out.below HB0.out)).mono ?_
  rintro e x1 ⟨rfl, hb⟩
  refine ⟨_, rfl, ?_⟩
  have BK1 := Aside0.mk (blk_below BK0.out hb)
  have HC1 := Aside0.mk (Kd.C_below HC0.out hb)
  have HB1 := Aside0.mk (below_step HB0.out hb)
  clear hb BK0 HC0 HB0
  refine hK.out _ _ (⟨(blk_cell BK1.out 0).trans rfl, (blk_cell BK1.out 1).trans rfl⟩) (fun hHeld => ?_)
  clear hK K
  refine norm_ (a' := ?_) ?_ ?_
  rotate_left
  · show Act.put _ (some 21) _ = _
    simp only [Act.put, List.setIfInBounds_toArray, List.set_cons_zero, List.set_cons_succ, i64_w, i32_w]
    rfl
  refine one_ (i := 8) (N := some 22) #[true, true, true, true, true, true, true, true, true, false, false, false, false, false, false, false, false, false, false, false, false, false, false, false, false, false, false, false, false, false, false, false, false, false, false, false, false, false, false, false, false, false, false, false, false, false, false] rfl rfl (by kernel_rfl) (by decide) (fun K hK => ?_)
  refine goes_ Tryz.func26 (by kernel_rfl) rfl #[.int .i64 1743298200] (by rfl) rfl rfl (by (try simp only [List.map_toArray, List.map_cons, List.map_nil]); first | done | rfl) ?_
  refine (almanacref10_In.calls 1743298200 true _ (by decide)).mono ?_
  rintro e x2 ⟨rfl, hd⟩
  have hb := drawn_below hd
  clear hd
  refine ⟨_, rfl, ?_⟩
  have BK2 := Aside0.mk (blk_below BK1.out hb)
  have HC2 := Aside0.mk (Kd.C_below HC1.out hb)
  have HB2 := Aside0.mk (below_step HB1.out hb)
  clear hb BK1 HC1 HB1
  refine hK.out _ _ (⟨(blk_cell BK2.out 0).trans rfl, (blk_cell BK2.out 1).trans rfl⟩) (fun hHeld => ?_)
  clear hK K
  refine norm_ (a' := ?_) ?_ ?_
  rotate_left
  · show Act.put _ (some 22) _ = _
    simp only [Act.put, List.setIfInBounds_toArray, List.set_cons_zero, List.set_cons_succ, i64_w, i32_w]
    rfl
  refine pure_ (i := 9) (N := some 23) (v := ?_) (a' := ?_) #[true, true, true, true, true, true, true, true, true, true, false, false, false, false, false, false, false, false, false, false, false, false, false, false, false, false, false, false, false, false, false, false, false, false, false, false, false, false, false, false, false, false, false, false, false, false, false] rfl rfl (by kernel_rfl) (fun _ _ _ h => h) (Or.inl ⟨by rfl, ?_⟩) ?_ ?_
  rotate_left
  · intro w'
    go_simp
    with_reducible rfl
  rotate_left
  · simp only [Act.put, List.setIfInBounds_toArray, List.set_cons_zero, List.set_cons_succ, i64_w, i32_w]
    rfl
  refine pure_ (i := 10) (N := some 24) (v := ?_) (a' := ?_) #[true, true, true, true, true, true, true, true, true, true, true, false, false, false, false, false, false, false, false, false, false, false, false, false, false, false, false, false, false, false, false, false, false, false, false, false, false, false, false, false, false, false, false, false, false, false, false] rfl rfl (by kernel_rfl) (fun _ _ _ h => h) (Or.inl ⟨by rfl, ?_⟩) ?_ ?_
  rotate_left
  · intro w'
    go_simp
    with_reducible rfl
  rotate_left
  · simp only [Act.put, List.setIfInBounds_toArray, List.set_cons_zero, List.set_cons_succ, i64_w, i32_w]
    rfl
  refine pure_ (i := 12) (N := some 26) (v := ?_) (a' := ?_) #[true, true, true, true, true, true, true, true, true, true, true, false, true, false, false, false, false, false, false, false, false, false, false, false, false, false, false, false, false, false, false, false, false, false, false, false, false, false, false, false, false, false, false, false, false, false, false] rfl rfl (by kernel_rfl) (fun _ _ _ h => h) (Or.inl ⟨by rfl, ?_⟩) ?_ ?_
  rotate_left
  · intro w'
    go_simp
    with_reducible rfl
  rotate_left
  · simp only [Act.put, List.setIfInBounds_toArray, List.set_cons_zero, List.set_cons_succ, i64_w, i32_w]
    rfl
  refine pure_ (i := 15) (N := some 29) (v := ?_) (a' := ?_) #[true, true, true, true, true, true, true, true, true, true, true, false, true, false, false, true, false, false, false, false, false, false, false, false, false, false, false, false, false, false, false, false, false, false, false, false, false, false, false, false, false, false, false, false, false, false, false] rfl rfl (by kernel_rfl) (fun _ _ _ h => h) (Or.inl ⟨by rfl, ?_⟩) ?_ ?_
  rotate_left
  · intro w'
    go_simp
    with_reducible rfl
  rotate_left
  · simp only [Act.put, List.setIfInBounds_toArray, List.set_cons_zero, List.set_cons_succ, i64_w, i32_w]
    rfl
  refine take_ (i := 11) (N := some 25) (v := ?_) (a' := ?_) #[true, true, true, true, true, true, true, true, true, true, true, true, true, false, false, true, false, false, false, false, false, false, false, false, false, false, false, false, false, false, false, false, false, false, false, false, false, false, false, false, false, false, false, false, false, false, false] rfl rfl (by kernel_rfl) (fun _ _ _ h => h) (Or.inl ⟨by rfl, ?_⟩) hHeld ?_ ?_
  rotate_left
  · rintro w' ⟨s0, s1⟩
    go_simp
    with_reducible rfl
  rotate_left
  · simp only [Act.put, List.setIfInBounds_toArray, List.set_cons_zero, List.set_cons_succ, i64_w, i32_w]
    rfl
  refine one_ (i := 13) (N := some 27) #[true, true, true, true, true, true, true, true, true, true, true, true, true, true, false, true, false, false, false, false, false, false, false, false, false, false, false, false, false, false, false, false, false, false, false, false, false, false, false, false, false, false, false, false, false, false, false] rfl rfl (by kernel_rfl) (by decide) (fun K hK => ?_)
  refine goesV_ Tryz.func30 (by kernel_rfl) rfl #[.string ⟨#[50, 48, 50, 53, 48, 51, 51, 48, 84, 48, 49, 51, 48, 48, 48]⟩] (by rfl) rfl rfl (by rfl) (by (try simp only [List.map_toArray, List.map_cons, List.map_nil]); first | done | rfl) ?_
  refine (t_calls ⟨#[50, 48, 50, 53, 48, 51, 51, 48, 84, 48, 49, 51, 48, 48, 48]⟩ 1743298200 _ st20250330T013000 (HT.out.below HB2.out)).mono ?_
  rintro e x3 ⟨rfl, hb⟩
  refine ⟨_, rfl, ?_⟩
  have BK3 := Aside0.mk (blk_below BK2.out hb)
  have HC3 := Aside0.mk (Kd.C_below HC2.out hb)
  have HB3 := Aside0.mk (below_step HB2.out hb)
  clear hb BK2 HC2 HB2
  refine hK.out _ _ (⟨(blk_cell BK3.out 0).trans rfl, (blk_cell BK3.out 1).trans rfl⟩) (fun hHeld => ?_)
  clear hK K
  refine norm_ (a' := ?_) ?_ ?_
  rotate_left
  · show Act.put _ (some 27) _ = _
    simp only [Act.put, List.setIfInBounds_toArray, List.set_cons_zero, List.set_cons_succ, i64_w, i32_w]
    rfl
  refine one_ (i := 14) (N := some 28) #[true, true, true, true, true, true, true, true, true, true, true, true, true, true, true, true, false, false, false, false, false, false, false, false, false, false, false, false, false, false, false, false, false, false, false, false, false, false, false, false, false, false, false, false, false, false, false] rfl rfl (by kernel_rfl) (by decide) (fun K hK => ?_)
  refine goes_ Tryz.func10 (by kernel_rfl) rfl #[.agg #[.string berlin, .slice A 2 cp], .int .i64 1743298200] (by rfl) rfl rfl (by (try simp only [List.map_toArray, List.map_cons, List.map_nil]); first | done | rfl) ?_
  refine (zone_Utc.calls 20 berlin A cp obsB 1743298200 1743294600 _ HC3.out HP.out ut1743298200).mono ?_
  rintro e x4 ⟨rfl, hb⟩
  refine ⟨_, rfl, ?_⟩
  have BK4 := Aside0.mk (blk_below BK3.out hb)
  have HC4 := Aside0.mk (Kd.C_below HC3.out hb)
  have HB4 := Aside0.mk (below_step HB3.out hb)
  clear hb BK3 HC3 HB3
  refine hK.out _ _ (⟨(blk_cell BK4.out 0).trans rfl, (blk_cell BK4.out 1).trans rfl⟩) (fun hHeld => ?_)
  clear hK K
  refine norm_ (a' := ?_) ?_ ?_
  rotate_left
  · show Act.put _ (some 28) _ = _
    simp only [Act.put, List.setIfInBounds_toArray, List.set_cons_zero, List.set_cons_succ, i64_w, i32_w]
    rfl
  refine one_ (i := 16) (N := some 30) #[true, true, true, true, true, true, true, true, true, true, true, true, true, true, true, true, true, false, false, false, false, false, false, false, false, false, false, false, false, false, false, false, false, false, false, false, false, false, false, false, false, false, false, false, false, false, false] rfl rfl (by kernel_rfl) (by decide) (fun K hK => ?_)
  refine goesV_ Tryz.func30 (by kernel_rfl) rfl #[.string ⟨#[50, 48, 50, 53, 48, 51, 51, 48, 84, 48, 48, 51, 48, 48, 48]⟩] (by rfl) rfl rfl (by rfl) (by (try simp only [List.map_toArray, List.map_cons, List.map_nil]); first | done | rfl) ?_
  refine (t_calls ⟨#[50, 48, 50, 53, 48, 51, 51, 48, 84, 48, 48, 51, 48, 48, 48]⟩ 1743294600 _ st20250330T003000 (HT.out.below HB4.out)).mono ?_
  rintro e x5 ⟨rfl, hb⟩
  refine ⟨_, rfl, ?_⟩
  have BK5 := Aside0.mk (blk_below BK4.out hb)
  have HC5 := Aside0.mk (Kd.C_below HC4.out hb)
  have HB5 := Aside0.mk (below_step HB4.out hb)
  clear hb BK4 HC4 HB4
  refine hK.out _ _ (⟨(blk_cell BK5.out 0).trans rfl, (blk_cell BK5.out 1).trans rfl⟩) (fun hHeld => ?_)
  clear hK K
  refine norm_ (a' := ?_) ?_ ?_
  rotate_left
  · show Act.put _ (some 30) _ = _
    simp only [Act.put, List.setIfInBounds_toArray, List.set_cons_zero, List.set_cons_succ, i64_w, i32_w]
    rfl
  refine pure_ (i := 17) (N := some 31) (v := ?_) (a' := ?_) #[true, true, true, true, true, true, true, true, true, true, true, true, true, true, true, true, true, true, false, false, false, false, false, false, false, false, false, false, false, false, false, false, false, false, false, false, false, false, false, false, false, false, false, false, false, false, false] rfl rfl (by kernel_rfl) (fun _ _ _ h => h) (Or.inl ⟨by rfl, ?_⟩) ?_ ?_
  rotate_left
  · intro w'
    go_simp
    with_reducible rfl
  rotate_left
  · simp only [Act.put, List.setIfInBounds_toArray, List.set_cons_zero, List.set_cons_succ, i64_w, i32_w]
    rfl
  refine pure_ (i := 18) (N := some 32) (v := ?_) (a' := ?_) #[true, true, true, true, true, true, true, true, true, true, true, true, true, true, true, true, true, true, true, false, false, false, false, false, false, false, false, false, false, false, false, false, false, false, false, false, false, false, false, false, false, false, false, false, false, false, false] rfl rfl (by kernel_rfl) (fun _ _ _ h => h) (Or.inl ⟨by rfl, ?_⟩) ?_ ?_
  rotate_left
  · intro w'
    go_simp
    with_reducible rfl
  rotate_left
  · simp only [Act.put, List.setIfInBounds_toArray, List.set_cons_zero, List.set_cons_succ, i64_w, i32_w]
    rfl
  refine pure_ (i := 19) (N := some 33) (v := ?_) (a' := ?_) #[true, true, true, true, true, true, true, true, true, true, true, true, true, true, true, true, true, true, true, true, false, false, false, false, false, false, false, false, false, false, false, false, false, false, false, false, false, false, false, false, false, false, false, false, false, false, false] rfl rfl (by kernel_rfl) (fun _ _ _ h => h) (Or.inl ⟨by rfl, ?_⟩) ?_ ?_
  rotate_left
  · intro w'
    go_simp
    with_reducible rfl
  rotate_left
  · simp only [Act.put, List.setIfInBounds_toArray, List.set_cons_zero, List.set_cons_succ, i64_w, i32_w]
    rfl
  refine pure_ (i := 21) (N := some 35) (v := ?_) (a' := ?_) #[true, true, true, true, true, true, true, true, true, true, true, true, true, true, true, true, true, true, true, true, false, true, false, false, false, false, false, false, false, false, false, false, false, false, false, false, false, false, false, false, false, false, false, false, false, false, false] rfl rfl (by kernel_rfl) (fun _ _ _ h => h) (Or.inl ⟨by rfl, ?_⟩) ?_ ?_
  rotate_left
  · intro w'
    go_simp
    with_reducible rfl
  rotate_left
  · simp only [Act.put, List.setIfInBounds_toArray, List.set_cons_zero, List.set_cons_succ, i64_w, i32_w]
    rfl
  refine pure_ (i := 24) (N := some 38) (v := ?_) (a' := ?_) #[true, true, true, true, true, true, true, true, true, true, true, true, true, true, true, true, true, true, true, true, false, true, false, false, true, false, false, false, false, false, false, false, false, false, false, false, false, false, false, false, false, false, false, false, false, false, false] rfl rfl (by kernel_rfl) (fun _ _ _ h => h) (Or.inl ⟨by rfl, ?_⟩) ?_ ?_
  rotate_left
  · intro w'
    go_simp
    with_reducible rfl
  rotate_left
  · simp only [Act.put, List.setIfInBounds_toArray, List.set_cons_zero, List.set_cons_succ, i64_w, i32_w]
    rfl
  refine take_ (i := 20) (N := some 34) (v := ?_) (a' := ?_) #[true, true, true, true, true, true, true, true, true, true, true, true, true, true, true, true, true, true, true, true, true, true, false, false, true, false, false, false, false, false, false, false, false, false, false, false, false, false, false, false, false, false, false, false, false, false, false] rfl rfl (by kernel_rfl) (fun _ _ _ h => h) (Or.inl ⟨by rfl, ?_⟩) hHeld ?_ ?_
  rotate_left
  · rintro w' ⟨s0, s1⟩
    go_simp
    with_reducible rfl
  rotate_left
  · simp only [Act.put, List.setIfInBounds_toArray, List.set_cons_zero, List.set_cons_succ, i64_w, i32_w]
    rfl
  refine one_ (i := 22) (N := some 36) #[true, true, true, true, true, true, true, true, true, true, true, true, true, true, true, true, true, true, true, true, true, true, true, false, true, false, false, false, false, false, false, false, false, false, false, false, false, false, false, false, false, false, false, false, false, false, false] rfl rfl (by kernel_rfl) (by decide) (fun K hK => ?_)
  refine goesV_ Tryz.func30 (by kernel_rfl) rfl #[.string ⟨#[50, 48, 50, 53, 48, 51, 51, 48, 84, 48, 50, 51, 48, 48, 48]⟩] (by rfl) rfl rfl (by rfl) (by (try simp only [List.map_toArray, List.map_cons, List.map_nil]); first | done | rfl) ?_
  refine (t_calls ⟨#[50, 48, 50, 53, 48, 51, 51, 48, 84, 48, 50, 51, 48, 48, 48]⟩ 1743301800 _ st20250330T023000 (HT.out.below HB5.out)).mono ?_
  rintro e x6 ⟨rfl, hb⟩
  refine ⟨_, rfl, ?_⟩
  have BK6 := Aside0.mk (blk_below BK5.out hb)
  have HC6 := Aside0.mk (Kd.C_below HC5.out hb)
  have HB6 := Aside0.mk (below_step HB5.out hb)
  clear hb BK5 HC5 HB5
  refine hK.out _ _ (⟨(blk_cell BK6.out 0).trans rfl, (blk_cell BK6.out 1).trans rfl⟩) (fun hHeld => ?_)
  clear hK K
  refine norm_ (a' := ?_) ?_ ?_
  rotate_left
  · show Act.put _ (some 36) _ = _
    simp only [Act.put, List.setIfInBounds_toArray, List.set_cons_zero, List.set_cons_succ, i64_w, i32_w]
    rfl
  refine one_ (i := 23) (N := some 37) #[true, true, true, true, true, true, true, true, true, true, true, true, true, true, true, true, true, true, true, true, true, true, true, true, true, false, false, false, false, false, false, false, false, false, false, false, false, false, false, false, false, false, false, false, false, false, false] rfl rfl (by kernel_rfl) (by decide) (fun K hK => ?_)
  refine goes_ Tryz.func10 (by kernel_rfl) rfl #[.agg #[.string berlin, .slice A 2 cp], .int .i64 1743301800] (by rfl) rfl rfl (by (try simp only [List.map_toArray, List.map_cons, List.map_nil]); first | done | rfl) ?_
  refine (zone_Utc.calls 20 berlin A cp obsB 1743301800 1743298200 _ HC6.out HP.out ut1743301800).mono ?_
  rintro e x7 ⟨rfl, hb⟩
  refine ⟨_, rfl, ?_⟩
  have BK7 := Aside0.mk (blk_below BK6.out hb)
  have HC7 := Aside0.mk (Kd.C_below HC6.out hb)
  have HB7 := Aside0.mk (below_step HB6.out hb)
  clear hb BK6 HC6 HB6
  refine hK.out _ _ (⟨(blk_cell BK7.out 0).trans rfl, (blk_cell BK7.out 1).trans rfl⟩) (fun hHeld => ?_)
  clear hK K
  refine norm_ (a' := ?_) ?_ ?_
  rotate_left
  · show Act.put _ (some 37) _ = _
    simp only [Act.put, List.setIfInBounds_toArray, List.set_cons_zero, List.set_cons_succ, i64_w, i32_w]
    rfl
  refine one_ (i := 25) (N := some 39) #[true, true, true, true, true, true, true, true, true, true, true, true, true, true, true, true, true, true, true, true, true, true, true, true, true, true, false, false, false, false, false, false, false, false, false, false, false, false, false, false, false, false, false, false, false, false, false] rfl rfl (by kernel_rfl) (by decide) (fun K hK => ?_)
  refine goesV_ Tryz.func30 (by kernel_rfl) rfl #[.string ⟨#[50, 48, 50, 53, 48, 51, 51, 48, 84, 48, 49, 51, 48, 48, 48]⟩] (by rfl) rfl rfl (by rfl) (by (try simp only [List.map_toArray, List.map_cons, List.map_nil]); first | done | rfl) ?_
  refine (t_calls ⟨#[50, 48, 50, 53, 48, 51, 51, 48, 84, 48, 49, 51, 48, 48, 48]⟩ 1743298200 _ st20250330T013000 (HT.out.below HB7.out)).mono ?_
  rintro e x8 ⟨rfl, hb⟩
  refine ⟨_, rfl, ?_⟩
  have BK8 := Aside0.mk (blk_below BK7.out hb)
  have HC8 := Aside0.mk (Kd.C_below HC7.out hb)
  have HB8 := Aside0.mk (below_step HB7.out hb)
  clear hb BK7 HC7 HB7
  refine hK.out _ _ (⟨(blk_cell BK8.out 0).trans rfl, (blk_cell BK8.out 1).trans rfl⟩) (fun hHeld => ?_)
  clear hK K
  refine norm_ (a' := ?_) ?_ ?_
  rotate_left
  · show Act.put _ (some 39) _ = _
    simp only [Act.put, List.setIfInBounds_toArray, List.set_cons_zero, List.set_cons_succ, i64_w, i32_w]
    rfl
  refine pure_ (i := 26) (N := some 40) (v := ?_) (a' := ?_) #[true, true, true, true, true, true, true, true, true, true, true, true, true, true, true, true, true, true, true, true, true, true, true, true, true, true, true, false, false, false, false, false, false, false, false, false, false, false, false, false, false, false, false, false, false, false, false] rfl rfl (by kernel_rfl) (fun _ _ _ h => h) (Or.inl ⟨by rfl, ?_⟩) ?_ ?_
  rotate_left
  · intro w'
    go_simp
    with_reducible rfl
  rotate_left
  · simp only [Act.put, List.setIfInBounds_toArray, List.set_cons_zero, List.set_cons_succ, i64_w, i32_w]
    rfl
  refine pure_ (i := 27) (N := some 41) (v := ?_) (a' := ?_) #[true, true, true, true, true, true, true, true, true, true, true, true, true, true, true, true, true, true, true, true, true, true, true, true, true, true, true, true, false, false, false, false, false, false, false, false, false, false, false, false, false, false, false, false, false, false, false] rfl rfl (by kernel_rfl) (fun _ _ _ h => h) (Or.inl ⟨by rfl, ?_⟩) ?_ ?_
  rotate_left
  · intro w'
    go_simp
    with_reducible rfl
  rotate_left
  · simp only [Act.put, List.setIfInBounds_toArray, List.set_cons_zero, List.set_cons_succ, i64_w, i32_w]
    rfl
  refine pure_ (i := 28) (N := some 42) (v := ?_) (a' := ?_) #[true, true, true, true, true, true, true, true, true, true, true, true, true, true, true, true, true, true, true, true, true, true, true, true, true, true, true, true, true, false, false, false, false, false, false, false, false, false, false, false, false, false, false, false, false, false, false] rfl rfl (by kernel_rfl) (fun _ _ _ h => h) (Or.inl ⟨by rfl, ?_⟩) ?_ ?_
  rotate_left
  · intro w'
    go_simp
    with_reducible rfl
  rotate_left
  · simp only [Act.put, List.setIfInBounds_toArray, List.set_cons_zero, List.set_cons_succ, i64_w, i32_w]
    rfl
  refine pure_ (i := 30) (N := some 44) (v := ?_) (a' := ?_) #[true, true, true, true, true, true, true, true, true, true, true, true, true, true, true, true, true, true, true, true, true, true, true, true, true, true, true, true, true, false, true, false, false, false, false, false, false, false, false, false, false, false, false, false, false, false, false] rfl rfl (by kernel_rfl) (fun _ _ _ h => h) (Or.inl ⟨by rfl, ?_⟩) ?_ ?_
  rotate_left
  · intro w'
    go_simp
    with_reducible rfl
  rotate_left
  · simp only [Act.put, List.setIfInBounds_toArray, List.set_cons_zero, List.set_cons_succ, i64_w, i32_w]
    rfl
  refine pure_ (i := 33) (N := some 47) (v := ?_) (a' := ?_) #[true, true, true, true, true, true, true, true, true, true, true, true, true, true, true, true, true, true, true, true, true, true, true, true, true, true, true, true, true, false, true, false, false, true, false, false, false, false, false, false, false, false, false, false, false, false, false] rfl rfl (by kernel_rfl) (fun _ _ _ h => h) (Or.inl ⟨by rfl, ?_⟩) ?_ ?_
  rotate_left
  · intro w'
    go_simp
    with_reducible rfl
  rotate_left
  · simp only [Act.put, List.setIfInBounds_toArray, List.set_cons_zero, List.set_cons_succ, i64_w, i32_w]
    rfl
  refine take_ (i := 29) (N := some 43) (v := ?_) (a' := ?_) #[true, true, true, true, true, true, true, true, true, true, true, true, true, true, true, true, true, true, true, true, true, true, true, true, true, true, true, true, true, true, true, false, false, true, false, false, false, false, false, false, false, false, false, false, false, false, false] rfl rfl (by kernel_rfl) (fun _ _ _ h => h) (Or.inl ⟨by rfl, ?_⟩) hHeld ?_ ?_
  rotate_left
  · rintro w' ⟨s0, s1⟩
    go_simp
    with_reducible rfl
  rotate_left
  · simp only [Act.put, List.setIfInBounds_toArray, List.set_cons_zero, List.set_cons_succ, i64_w, i32_w]
    rfl
  refine one_ (i := 31) (N := some 45) #[true, true, true, true, true, true, true, true, true, true, true, true, true, true, true, true, true, true, true, true, true, true, true, true, true, true, true, true, true, true, true, true, false, true, false, false, false, false, false, false, false, false, false, false, false, false, false] rfl rfl (by kernel_rfl) (by decide) (fun K hK => ?_)
  refine goesV_ Tryz.func30 (by kernel_rfl) rfl #[.string ⟨#[50, 48, 50, 53, 49, 48, 50, 54, 84, 48, 50, 51, 48, 48, 48]⟩] (by rfl) rfl rfl (by rfl) (by (try simp only [List.map_toArray, List.map_cons, List.map_nil]); first | done | rfl) ?_
  refine (t_calls ⟨#[50, 48, 50, 53, 49, 48, 50, 54, 84, 48, 50, 51, 48, 48, 48]⟩ 1761445800 _ st20251026T023000 (HT.out.below HB8.out)).mono ?_
  rintro e x9 ⟨rfl, hb⟩
  refine ⟨_, rfl, ?_⟩
  have BK9 := Aside0.mk (blk_below BK8.out hb)
  have HC9 := Aside0.mk (Kd.C_below HC8.out hb)
  have HB9 := Aside0.mk (below_step HB8.out hb)
  clear hb BK8 HC8 HB8
  refine hK.out _ _ (⟨(blk_cell BK9.out 0).trans rfl, (blk_cell BK9.out 1).trans rfl⟩) (fun hHeld => ?_)
  clear hK K
  refine norm_ (a' := ?_) ?_ ?_
  rotate_left
  · show Act.put _ (some 45) _ = _
    simp only [Act.put, List.setIfInBounds_toArray, List.set_cons_zero, List.set_cons_succ, i64_w, i32_w]
    rfl
  refine one_ (i := 32) (N := some 46) #[true, true, true, true, true, true, true, true, true, true, true, true, true, true, true, true, true, true, true, true, true, true, true, true, true, true, true, true, true, true, true, true, true, true, false, false, false, false, false, false, false, false, false, false, false, false, false] rfl rfl (by kernel_rfl) (by decide) (fun K hK => ?_)
  refine goes_ Tryz.func10 (by kernel_rfl) rfl #[.agg #[.string berlin, .slice A 2 cp], .int .i64 1761445800] (by rfl) rfl rfl (by (try simp only [List.map_toArray, List.map_cons, List.map_nil]); first | done | rfl) ?_
  refine (zone_Utc.calls 20 berlin A cp obsB 1761445800 1761438600 _ HC9.out HP.out ut1761445800).mono ?_
  rintro e x10 ⟨rfl, hb⟩
  refine ⟨_, rfl, ?_⟩
  have BK10 := Aside0.mk (blk_below BK9.out hb)
  have HC10 := Aside0.mk (Kd.C_below HC9.out hb)
  have HB10 := Aside0.mk (below_step HB9.out hb)
  clear hb BK9 HC9 HB9
  refine hK.out _ _ (⟨(blk_cell BK10.out 0).trans rfl, (blk_cell BK10.out 1).trans rfl⟩) (fun hHeld => ?_)
  clear hK K
  refine norm_ (a' := ?_) ?_ ?_
  rotate_left
  · show Act.put _ (some 46) _ = _
    simp only [Act.put, List.setIfInBounds_toArray, List.set_cons_zero, List.set_cons_succ, i64_w, i32_w]
    rfl
  refine one_ (i := 34) (N := some 48) #[true, true, true, true, true, true, true, true, true, true, true, true, true, true, true, true, true, true, true, true, true, true, true, true, true, true, true, true, true, true, true, true, true, true, true, false, false, false, false, false, false, false, false, false, false, false, false] rfl rfl (by kernel_rfl) (by decide) (fun K hK => ?_)
  refine goesV_ Tryz.func30 (by kernel_rfl) rfl #[.string ⟨#[50, 48, 50, 53, 49, 48, 50, 54, 84, 48, 48, 51, 48, 48, 48]⟩] (by rfl) rfl rfl (by rfl) (by (try simp only [List.map_toArray, List.map_cons, List.map_nil]); first | done | rfl) ?_
  refine (t_calls ⟨#[50, 48, 50, 53, 49, 48, 50, 54, 84, 48, 48, 51, 48, 48, 48]⟩ 1761438600 _ st20251026T003000 (HT.out.below HB10.out)).mono ?_
  rintro e x11 ⟨rfl, hb⟩
  refine ⟨_, rfl, ?_⟩
  have BK11 := Aside0.mk (blk_below BK10.out hb)
  have HC11 := Aside0.mk (Kd.C_below HC10.out hb)
  have HB11 := Aside0.mk (below_step HB10.out hb)
  clear hb BK10 HC10 HB10
  refine hK.out _ _ (⟨(blk_cell BK11.out 0).trans rfl, (blk_cell BK11.out 1).trans rfl⟩) (fun hHeld => ?_)
  clear hK K
  refine norm_ (a' := ?_) ?_ ?_
  rotate_left
  · show Act.put _ (some 48) _ = _
    simp only [Act.put, List.setIfInBounds_toArray, List.set_cons_zero, List.set_cons_succ, i64_w, i32_w]
    rfl
  refine pure_ (i := 35) (N := some 49) (v := ?_) (a' := ?_) #[true, true, true, true, true, true, true, true, true, true, true, true, true, true, true, true, true, true, true, true, true, true, true, true, true, true, true, true, true, true, true, true, true, true, true, true, false, false, false, false, false, false, false, false, false, false, false] rfl rfl (by kernel_rfl) (fun _ _ _ h => h) (Or.inl ⟨by rfl, ?_⟩) ?_ ?_
  rotate_left
  · intro w'
    go_simp
    with_reducible rfl
  rotate_left
  · simp only [Act.put, List.setIfInBounds_toArray, List.set_cons_zero, List.set_cons_succ, i64_w, i32_w]
    rfl
  refine pure_ (i := 36) (N := some 50) (v := ?_) (a' := ?_) #[true, true, true, true, true, true, true, true, true, true, true, true, true, true, true, true, true, true, true, true, true, true, true, true, true, true, true, true, true, true, true, true, true, true, true, true, true, false, false, false, false, false, false, false, false, false, false] rfl rfl (by kernel_rfl) (fun _ _ _ h => h) (Or.inl ⟨by rfl, ?_⟩) ?_ ?_
  rotate_left
  · intro w'
    go_simp
    with_reducible rfl
  rotate_left
  · simp only [Act.put, List.setIfInBounds_toArray, List.set_cons_zero, List.set_cons_succ, i64_w, i32_w]
    rfl
  refine pure_ (i := 37) (N := some 51) (v := ?_) (a' := ?_) #[true, true, true, true, true, true, true, true, true, true, true, true, true, true, true, true, true, true, true, true, true, true, true, true, true, true, true, true, true, true, true, true, true, true, true, true, true, true, false, false, false, false, false, false, false, false, false] rfl rfl (by kernel_rfl) (fun _ _ _ h => h) (Or.inl ⟨by rfl, ?_⟩) ?_ ?_
  rotate_left
  · intro w'
    go_simp
    with_reducible rfl
  rotate_left
  · simp only [Act.put, List.setIfInBounds_toArray, List.set_cons_zero, List.set_cons_succ, i64_w, i32_w]
    rfl
  refine take_ (i := 38) (N := some 52) (v := ?_) (a' := ?_) #[true, true, true, true, true, true, true, true, true, true, true, true, true, true, true, true, true, true, true, true, true, true, true, true, true, true, true, true, true, true, true, true, true, true, true, true, true, true, true, false, false, false, false, false, false, false, false] rfl rfl (by kernel_rfl) (fun _ _ _ h => h) (Or.inl ⟨by rfl, ?_⟩) hHeld ?_ ?_
  rotate_left
  · rintro w' ⟨s0, s1⟩
    go_simp
    with_reducible rfl
  rotate_left
  · simp only [Act.put, List.setIfInBounds_toArray, List.set_cons_zero, List.set_cons_succ, i64_w, i32_w]
    rfl
  refine one_ (i := 39) (N := some 53) #[true, true, true, true, true, true, true, true, true, true, true, true, true, true, true, true, true, true, true, true, true, true, true, true, true, true, true, true, true, true, true, true, true, true, true, true, true, true, true, true, false, false, false, false, false, false, false] rfl rfl (by kernel_rfl) (by decide) (fun K hK => ?_)
  refine goes_ Tryz.func6 (by kernel_rfl) rfl #[.agg #[.string berlin, .slice A 2 cp], .int .i64 0] (by rfl) rfl rfl (by (try simp only [List.map_toArray, List.map_cons, List.map_nil]); first | done | rfl) ?_
  refine (zone_Offset.calls 20 berlin A cp obsB 0 3600 _ HC11.out HP.out of0).mono ?_
  rintro e x12 ⟨rfl, hb⟩
  refine ⟨_, rfl, ?_⟩
  have BK12 := Aside0.mk (blk_below BK11.out hb)
  have HC12 := Aside0.mk (Kd.C_below HC11.out hb)
  have HB12 := Aside0.mk (below_step HB11.out hb)
  clear hb BK11 HC11 HB11
  refine hK.out _ _ (⟨(blk_cell BK12.out 0).trans rfl, (blk_cell BK12.out 1).trans rfl⟩) (fun hHeld => ?_)
  clear hK K
  refine norm_ (a' := ?_) ?_ ?_
  rotate_left
  · show Act.put _ (some 53) _ = _
    simp only [Act.put, List.setIfInBounds_toArray, List.set_cons_zero, List.set_cons_succ, i64_w, i32_w]
    rfl
  refine pure_ (i := 40) (N := some 54) (v := ?_) (a' := ?_) #[true, true, true, true, true, true, true, true, true, true, true, true, true, true, true, true, true, true, true, true, true, true, true, true, true, true, true, true, true, true, true, true, true, true, true, true, true, true, true, true, true, false, false, false, false, false, false] rfl rfl (by kernel_rfl) (fun _ _ _ h => h) (Or.inl ⟨by rfl, ?_⟩) ?_ ?_
  rotate_left
  · intro w'
    go_simp
    with_reducible rfl
  rotate_left
  · simp only [Act.put, List.setIfInBounds_toArray, List.set_cons_zero, List.set_cons_succ, i64_w, i32_w]
    rfl
  refine pure_ (i := 41) (N := some 55) (v := ?_) (a' := ?_) #[true, true, true, true, true, true, true, true, true, true, true, true, true, true, true, true, true, true, true, true, true, true, true, true, true, true, true, true, true, true, true, true, true, true, true, true, true, true, true, true, true, true, false, false, false, false, false] rfl rfl (by kernel_rfl) (fun _ _ _ h => h) (Or.inl ⟨by rfl, ?_⟩) ?_ ?_
  rotate_left
  · intro w'
    go_simp
    with_reducible rfl
  rotate_left
  · simp only [Act.put, List.setIfInBounds_toArray, List.set_cons_zero, List.set_cons_succ, i64_w, i32_w]
    rfl
  refine pure_ (i := 42) (N := some 56) (v := ?_) (a' := ?_) #[true, true, true, true, true, true, true, true, true, true, true, true, true, true, true, true, true, true, true, true, true, true, true, true, true, true, true, true, true, true, true, true, true, true, true, true, true, true, true, true, true, true, true, false, false, false, false] rfl rfl (by kernel_rfl) (fun _ _ _ h => h) (Or.inl ⟨by rfl, ?_⟩) ?_ ?_
  rotate_left
  · intro w'
    go_simp
    with_reducible rfl
  rotate_left
  · simp only [Act.put, List.setIfInBounds_toArray, List.set_cons_zero, List.set_cons_succ, i64_w, i32_w]
    rfl
  refine take_ (i := 43) (N := some 57) (v := ?_) (a' := ?_) #[true, true, true, true, true, true, true, true, true, true, true, true, true, true, true, true, true, true, true, true, true, true, true, true, true, true, true, true, true, true, true, true, true, true, true, true, true, true, true, true, true, true, true, true, false, false, false] rfl rfl (by kernel_rfl) (fun _ _ _ h => h) (Or.inl ⟨by rfl, ?_⟩) hHeld ?_ ?_
  rotate_left
  · rintro w' ⟨s0, s1⟩
    go_simp
    with_reducible rfl
  rotate_left
  · simp only [Act.put, List.setIfInBounds_toArray, List.set_cons_zero, List.set_cons_succ, i64_w, i32_w]
    rfl
  refine one_ (i := 44) (N := some 58) #[true, true, true, true, true, true, true, true, true, true, true, true, true, true, true, true, true, true, true, true, true, true, true, true, true, true, true, true, true, true, true, true, true, true, true, true, true, true, true, true, true, true, true, true, true, false, false] rfl rfl (by kernel_rfl) (by decide) (fun K hK => ?_)
  refine goes_ Tryz.func20 (by kernel_rfl) rfl #[.agg #[.string berlin, .slice A 2 cp]] (by rfl) rfl rfl (by (try simp only [List.map_toArray, List.map_cons, List.map_nil]); first | done | rfl) ?_
  refine (zone_Fit.calls berlin A cp obsB true _ HC12.out HP.out (by decide)).mono ?_
  rintro e x13 ⟨rfl, hb⟩
  refine ⟨_, rfl, ?_⟩
  have BK13 := Aside0.mk (blk_below BK12.out hb)
  have HC13 := Aside0.mk (Kd.C_below HC12.out hb)
  have HB13 := Aside0.mk (below_step HB12.out hb)
  clear hb BK12 HC12 HB12
  refine hK.out _ _ (⟨(blk_cell BK13.out 0).trans rfl, (blk_cell BK13.out 1).trans rfl⟩) (fun hHeld => ?_)
  clear hK K
  refine norm_ (a' := ?_) ?_ ?_
  rotate_left
  · show Act.put _ (some 58) _ = _
    simp only [Act.put, List.setIfInBounds_toArray, List.set_cons_zero, List.set_cons_succ, i64_w, i32_w]
    rfl
  refine pure_ (i := 45) (N := some 59) (v := ?_) (a' := ?_) #[true, true, true, true, true, true, true, true, true, true, true, true, true, true, true, true, true, true, true, true, true, true, true, true, true, true, true, true, true, true, true, true, true, true, true, true, true, true, true, true, true, true, true, true, true, true, false] rfl rfl (by kernel_rfl) (fun _ _ _ h => h) (Or.inl ⟨by rfl, ?_⟩) ?_ ?_
  rotate_left
  · intro w'
    go_simp
    with_reducible rfl
  rotate_left
  · simp only [Act.put, List.setIfInBounds_toArray, List.set_cons_zero, List.set_cons_succ, i64_w, i32_w]
    rfl
  refine pure_ (i := 46) (N := some 0) (v := ?_) (a' := ?_) #[true, true, true, true, true, true, true, true, true, true, true, true, true, true, true, true, true, true, true, true, true, true, true, true, true, true, true, true, true, true, true, true, true, true, true, true, true, true, true, true, true, true, true, true, true, true, true] rfl rfl (by kernel_rfl) (fun _ _ _ h => h) (Or.inl ⟨by rfl, ?_⟩) ?_ ?_
  rotate_left
  · intro w'
    go_simp
    with_reducible rfl
  rotate_left
  · simp only [Act.put, List.setIfInBounds_toArray, List.set_cons_zero, List.set_cons_succ, i64_w, i32_w]
    rfl
  refine done_ (by kernel_rfl) ?_
  go_wp2
  go_ret
  exact ⟨rfl, HB13.out⟩
end Go.Proofs.YtmajmolbjiahlaaGreatDoor.PD
namespace Go.Proofs.YtmajmolbjiahlaaGreatDoor.PD
open Go.RowKit Go.Proofs.YtmajmolbjiahlaaGreatDoorW.PrintWords Go.Proofs.YtmajmolbjiahlaaGreatDoorW.PrintLast Go.Proofs.YtmajmolbjiahlaaGreatDoorW.PrintMore
attribute [local go_sem] isSome_setCell max2_int min2_int max_two min_two max_three min_three max_four min_four
set_option linter.unusedVariables false
set_option linter.unusedSimpArgs false
def almanaclaw16_ZoneTells.f (k : Nat) (a0_0 : ByteArray) (l0_1 : List (S32)) (a1 : Int) : Option (Bool) := (zone_Offset.f k a0_0 l0_1 a1).bind fun t355 => ((almanacref16_Offset.f k a0_0 l0_1 a1).bind fun t356 => (if t355 = t356 then ((zone_Local.f k a0_0 l0_1 a1).bind fun t357 => ((almanacref16_Local.f k a0_0 l0_1 a1).bind fun t358 => (if t357 = t358 then ((zone_Utc.f k a0_0 l0_1 a1).bind fun t359 => ((almanacref16_Utc.f k a0_0 l0_1 a1).bind fun t360 => (if t359 = t360 then ((almanaclaw16_awake.f).bind fun t361 => (some t361)) else (some false)))) else (some false)))) else (some false)))
def almanaclaw16_ZoneTells.T1 : Bool × List (List Nat × List Nat) := (true, [([], []), ([], []), ([0, 1], [0, 1]), ([], []), ([], []), ([3, 4, 2], [3, 4]), ([2, 5], [2, 5]), ([6, 5], [6]), ([7], [7]), ([7], [7]), ([8, 9, 7, 7], [7, 8, 9]), ([7], [7]), ([7], [7]), ([11, 12, 10, 7], [7, 11, 12]), ([10, 13, 7], [7, 10, 13]), ([7, 14], [7, 14]), ([15, 13], [15]), ([16], [16]), ([16], [16]), ([17, 18, 16, 16], [16, 17, 18]), ([16], [16]), ([16], [16]), ([20, 21, 19, 16], [16, 20, 21]), ([19, 22, 16], [16, 19, 22]), ([16, 23], [16, 23]), ([24, 22], [24]), ([25, 25], [25]), ([25, 26], [25, 26]), ([27, 26, 0, 1, 2, 3, 4, 5, 6, 7, 8, 9, 10, 11, 12, 13, 14, 15, 16, 17, 18, 19, 20, 21, 22, 23, 24, 25, 26, 27], [27])])
def almanaclaw16_ZoneTells.B1 : List Nat := [0, 0, 3, 0, 0, 31, 63, 127, 255, 255, 1023, 255, 255, 8191, 16383, 32767, 65535, 131071, 131071, 524287, 131071, 131071, 4194303, 8388607, 16777215, 33554431, 67108863, 134217727, 268435455]
theorem almanaclaw16_ZoneTells.tab1 : rtab .any (opsOf Tryz.f3 1) = almanaclaw16_ZoneTells.T1 := by kernel_rfl
theorem almanaclaw16_ZoneTells.bits1 : waitsOk almanaclaw16_ZoneTells.T1.2 almanaclaw16_ZoneTells.B1 = true := by kernel_rfl
set_option maxHeartbeats 8000000 in
set_option maxRecDepth 100000 in
theorem almanaclaw16_ZoneTells.callsT (k : Nat) (a0_0 : ByteArray) (A0_1 : Option Addr) (c0_1 : Nat) (l0_1 : List (S32)) (a1 : Int) (r : Bool) (w : World) (hr0_1 : Kd.C k32 w A0_1 l0_1.length l0_1) (hc0_1 : l0_1.length ≤ c0_1) (h : almanaclaw16_ZoneTells.f k a0_0 l0_1 a1 = some r) (hr : r = true) (hTab : Tab w) :
    Calls Tryz.prog 3 #[.agg #[.string a0_0, .slice A0_1 l0_1.length c0_1], .int .i64 a1] w fun e w' => e = .returned (.bool r) ∧ Below w.heap.size w w' := by
  have HTab := Aside0.mk hTab
  clear hTab
  have HRT := Aside0.mk hr
  clear hr
  have hu24 := Tryz.underlying24
  have HR0_1 := Aside0.mk hr0_1
  have HC0_1 := Aside0.mk hc0_1
  clear hr0_1 hc0_1
  have HB := Aside0.mk (Below.refl w.heap.size w)
  have H : ((zone_Offset.f k a0_0 l0_1 a1).bind fun t355 => ((almanacref16_Offset.f k a0_0 l0_1 a1).bind fun t356 => (if t355 = t356 then ((zone_Local.f k a0_0 l0_1 a1).bind fun t357 => ((almanacref16_Local.f k a0_0 l0_1 a1).bind fun t358 => (if t357 = t358 then ((zone_Utc.f k a0_0 l0_1 a1).bind fun t359 => ((almanacref16_Utc.f k a0_0 l0_1 a1).bind fun t360 => (if t359 = t360 then ((almanaclaw16_awake.f).bind fun t361 => (some t361)) else (some false)))) else (some false)))) else (some false)))) = some r := h
  clear h
  replace H := Option.bind_eq_some_iff.mp H
  obtain ⟨t355, A30, H⟩ := H
  replace H : ((almanacref16_Offset.f k a0_0 l0_1 a1).bind fun t356 => (if t355 = t356 then ((zone_Local.f k a0_0 l0_1 a1).bind fun t357 => ((almanacref16_Local.f k a0_0 l0_1 a1).bind fun t358 => (if t357 = t358 then ((zone_Utc.f k a0_0 l0_1 a1).bind fun t359 => ((almanacref16_Utc.f k a0_0 l0_1 a1).bind fun t360 => (if t359 = t360 then ((almanaclaw16_awake.f).bind fun t361 => (some t361)) else (some false)))) else (some false)))) else (some false))) = some r := H
  have A3 := Aside0.mk A30
  clear A30
  replace H := Option.bind_eq_some_iff.mp H
  obtain ⟨t356, A40, H⟩ := H
  replace H : (if t355 = t356 then ((zone_Local.f k a0_0 l0_1 a1).bind fun t357 => ((almanacref16_Local.f k a0_0 l0_1 a1).bind fun t358 => (if t357 = t358 then ((zone_Utc.f k a0_0 l0_1 a1).bind fun t359 => ((almanacref16_Utc.f k a0_0 l0_1 a1).bind fun t360 => (if t359 = t360 then ((almanaclaw16_awake.f).bind fun t361 => (some t361)) else (some false)))) else (some false)))) else (some false)) = some r := H
  have A4 := Aside0.mk A40
  clear A40
  by_cases c5 : t355 = t356
  · rw [if_pos c5] at H
    have c5b0 : (t355 == t356) = true := beq_iff_eq.mpr c5
    have c5b1 : (t355 != t356) = false := bne_eq_false_iff_eq.mpr c5
    clear c5
    replace H := Option.bind_eq_some_iff.mp H
    obtain ⟨t357, A60, H⟩ := H
    replace H : ((almanacref16_Local.f k a0_0 l0_1 a1).bind fun t358 => (if t357 = t358 then ((zone_Utc.f k a0_0 l0_1 a1).bind fun t359 => ((almanacref16_Utc.f k a0_0 l0_1 a1).bind fun t360 => (if t359 = t360 then ((almanaclaw16_awake.f).bind fun t361 => (some t361)) else (some false)))) else (some false))) = some r := H
    have A6 := Aside0.mk A60
    clear A60
    replace H := Option.bind_eq_some_iff.mp H
    obtain ⟨t358, A70, H⟩ := H
    replace H : (if t357 = t358 then ((zone_Utc.f k a0_0 l0_1 a1).bind fun t359 => ((almanacref16_Utc.f k a0_0 l0_1 a1).bind fun t360 => (if t359 = t360 then ((almanaclaw16_awake.f).bind fun t361 => (some t361)) else (some false)))) else (some false)) = some r := H
    have A7 := Aside0.mk A70
    clear A70
    by_cases c8 : t357 = t358
    · rw [if_pos c8] at H
      have c8b0 : (t357 == t358) = true := beq_iff_eq.mpr c8
      have c8b1 : (t357 != t358) = false := bne_eq_false_iff_eq.mpr c8
      clear c8
      replace H := Option.bind_eq_some_iff.mp H
      obtain ⟨t359, A90, H⟩ := H
      replace H : ((almanacref16_Utc.f k a0_0 l0_1 a1).bind fun t360 => (if t359 = t360 then ((almanaclaw16_awake.f).bind fun t361 => (some t361)) else (some false))) = some r := H
      have A9 := Aside0.mk A90
      clear A90
      replace H := Option.bind_eq_some_iff.mp H
      obtain ⟨t360, A100, H⟩ := H
      replace H : (if t359 = t360 then ((almanaclaw16_awake.f).bind fun t361 => (some t361)) else (some false)) = some r := H
      have A10 := Aside0.mk A100
      clear A100
      by_cases c11 : t359 = t360
      · rw [if_pos c11] at H
        have c11b0 : (t359 == t360) = true := beq_iff_eq.mpr c11
        have c11b1 : (t359 != t360) = false := bne_eq_false_iff_eq.mpr c11
        clear c11
        replace H := Option.bind_eq_some_iff.mp H
        obtain ⟨t361, A120, H⟩ := H
        replace H : (some t361) = some r := H
        have A12 := Aside0.mk A120
        clear A120
        obtain rfl := Option.some.inj H
        go_enter Tryz.func3, Tryz.ntmps3
        try go_wp2_with (first | ((with_reducible refine gate_dst (N := 2) rfl ?_); refine box_event ?hg (N := 2) ?hd (cs := #[.string a0_0, .slice A0_1 l0_1.length c0_1]) (t := 24) ?hr ?_; (case hd => rfl); (case hg => rfl); (case hr => first | (go_simp; done) | (go_simp; rfl)); intro gb354 hg w13 hbox hb; have n0_ := Aside0.mk (below_step (by repeat (first | (with_reducible first | exact HB.out | apply below_alloc | apply pw_below_drewN | apply below_drew1) | exact HB.out)) hb); have n1_ := Aside0.mk (hbox); have n2_ := Aside0.mk ((by rw [hg]; exact (below_size (by repeat (first | (with_reducible first | exact HB.out | apply below_alloc | apply pw_below_drewN | apply below_drew1) | exact HB.out))) : w.heap.size ≤ gb354)); have n3_ := Aside0.mk ((by rw [hg]; exact (below_size (by repeat (first | (with_reducible first | exact HB.out | apply below_alloc | apply pw_below_drewN | apply below_drew1) | exact HB.out))) : w.heap.size ≤ gb354)); clear HB; have HB := n0_; have BK354 := n1_; have GW354 := n2_; have GE354 := n3_; clear n0_ n1_ n2_ n3_; clear hb hbox hg))
        have n0_ := Aside0.mk (blk_drew BK354.out)
        have n1_ := Aside0.mk (below_drew1 HB.out)
        clear BK354
        clear HB
        have BK354 := n0_
        have HB := n1_
        clear n0_ n1_
        refine start_ (n := 29) (S := fun w' => w'.cell? ⟨gb354, 0, none⟩ = some (.string a0_0) ∧ w'.cell? ⟨gb354, 1, none⟩ = some (.slice A0_1 l0_1.length c0_1)) (ds := []) #[false, false, false, false, false, false, false, false, false, false, false, false, false, false, false, false, false, false, false, false, false, false, false, false, false, false, false, false, false] (by kernel_rfl) rfl rfl ⟨(blk_cell BK354.out 0).trans rfl, (blk_cell BK354.out 1).trans rfl⟩ (fun hHeld => ?_); refine with_tabW almanaclaw16_ZoneTells.tab1 almanaclaw16_ZoneTells.bits1 (fun HT_ HW_ => ?_)
        generalize w13.drew = w14 at BK354 HB hHeld ⊢
        refine pure_ (i := 1) (N := some 6) (v := ?_) (a' := ?_) #[false, true, false, false, false, false, false, false, false, false, false, false, false, false, false, false, false, false, false, false, false, false, false, false, false, false, false, false, false] rfl rfl (any_of HT_.out (by kernel_rfl)) (fun _ _ _ h => h) (Or.inl ⟨by rfl, ?_⟩) ?_ ?_
        rotate_left
        · intro w'
          go_simp
          with_reducible rfl
        rotate_left
        · simp only [Act.put, List.setIfInBounds_toArray, List.set_cons_zero, List.set_cons_succ, i64_w, i32_w]
          rfl
        refine pure_ (i := 4) (N := some 9) (v := ?_) (a' := ?_) #[false, true, false, false, true, false, false, false, false, false, false, false, false, false, false, false, false, false, false, false, false, false, false, false, false, false, false, false, false] rfl rfl (any_of HT_.out (by kernel_rfl)) (fun _ _ _ h => h) (Or.inl ⟨by rfl, ?_⟩) ?_ ?_
        rotate_left
        · intro w'
          go_simp
          with_reducible rfl
        rotate_left
        · simp only [Act.put, List.setIfInBounds_toArray, List.set_cons_zero, List.set_cons_succ, i64_w, i32_w]
          rfl
        refine take_ (i := 0) (N := some 5) (v := ?_) (a' := ?_) #[true, true, false, false, true, false, false, false, false, false, false, false, false, false, false, false, false, false, false, false, false, false, false, false, false, false, false, false, false] rfl rfl (take_ofW HT_.out HW_.out (by kernel_rfl)) (fun _ _ _ h => h) (Or.inl ⟨by rfl, ?_⟩) hHeld ?_ ?_
        rotate_left
        · rintro w' ⟨s0, s1⟩
          go_simp
          with_reducible rfl
        rotate_left
        · simp only [Act.put, List.setIfInBounds_toArray, List.set_cons_zero, List.set_cons_succ, i64_w, i32_w]
          rfl
        refine take_ (i := 3) (N := some 8) (v := ?_) (a' := ?_) #[true, true, false, true, true, false, false, false, false, false, false, false, false, false, false, false, false, false, false, false, false, false, false, false, false, false, false, false, false] rfl rfl (take_ofW HT_.out HW_.out (by kernel_rfl)) (fun _ _ _ h => h) (Or.inl ⟨by rfl, ?_⟩) hHeld ?_ ?_
        rotate_left
        · rintro w' ⟨s0, s1⟩
          go_simp
          with_reducible rfl
        rotate_left
        · simp only [Act.put, List.setIfInBounds_toArray, List.set_cons_zero, List.set_cons_succ, i64_w, i32_w]
          rfl
        refine one_ (i := 2) (N := some 7) #[true, true, true, true, true, false, false, false, false, false, false, false, false, false, false, false, false, false, false, false, false, false, false, false, false, false, false, false, false] rfl rfl (one_of HT_.out (by kernel_rfl)) (by decide) (fun K hK => ?_)
        refine goes_ Tryz.func6 (by kernel_rfl) rfl #[.agg #[.string a0_0, .slice A0_1 l0_1.length c0_1], .int .i64 a1] (by rfl) rfl rfl (by (try simp only [List.map_toArray, List.map_cons, List.map_nil]); first | done | rfl | (simp only [List.length_drop, List.length_take]; rfl)) ?_
        with_reducible refine (zone_Offset.calls k a0_0 _ _ l0_1 a1 t355 _ ?side1 ?side2 A3.out).mono ?_
        (case side1 => repeat (first | exact (Kd.C_below HR0_1.out HB.out) | (with_reducible refine Kd.C_alloc ?_ _) | (with_reducible refine Kd.C_drewN ?_ _) | (with_reducible refine Kd.C_drew ?_)))
        (case side2 => exact HC0_1.out)
        rintro e w15 ⟨rfl, hb⟩
        refine ⟨_, rfl, ?_⟩
        have n0_ := Aside0.mk (blk_below (g := gb354) (o := .cells #[.string a0_0, .slice A0_1 l0_1.length c0_1] 24 (0, 0)) (by (with_reducible repeat (first | refine blk_drewN ?_ _ | refine blk_drew ?_ | refine blk_alloc ?_ _)); exact BK354.out) hb)
        have n1_ := Aside0.mk (below_step (by repeat (first | (with_reducible first | exact HB.out | apply below_alloc | apply pw_below_drewN | apply below_drew1 | refine below_set ?_ GE354.out) | exact HB.out)) hb)
        clear BK354
        clear HB
        have BK354 := n0_
        have HB := n1_
        clear n0_ n1_
        (try clear hb)
        (try clear hb2)
        (try clear hk)
        (try clear hi)
        refine hK.out _ _ ⟨(blk_cell BK354.out 0).trans rfl, (blk_cell BK354.out 1).trans rfl⟩ (fun hHeld => ?_)
        clear hK K
        refine norm_ (a' := ?_) ?_ ?_
        rotate_left
        · show Act.put _ (some 7) _ = _
          simp only [Act.put, List.setIfInBounds_toArray, List.set_cons_zero, List.set_cons_succ, i64_w, i32_w]
          rfl
        refine one_ (i := 5) (N := some 10) #[true, true, true, true, true, true, false, false, false, false, false, false, false, false, false, false, false, false, false, false, false, false, false, false, false, false, false, false, false] rfl rfl (one_of HT_.out (by kernel_rfl)) (by decide) (fun K hK => ?_)
        refine goes_ Tryz.func7 (by kernel_rfl) rfl #[.agg #[.string a0_0, .slice A0_1 l0_1.length c0_1], .int .i64 a1] (by rfl) rfl rfl (by (try simp only [List.map_toArray, List.map_cons, List.map_nil]); first | done | rfl | (simp only [List.length_drop, List.length_take]; rfl)) ?_
        with_reducible refine (almanacref16_Offset.calls k a0_0 _ _ l0_1 a1 t356 _ ?side1 ?side2 A4.out).mono ?_
        (case side1 => repeat (first | exact (Kd.C_below HR0_1.out HB.out) | (with_reducible refine Kd.C_alloc ?_ _) | (with_reducible refine Kd.C_drewN ?_ _) | (with_reducible refine Kd.C_drew ?_)))
        (case side2 => exact HC0_1.out)
        rintro e w16 ⟨rfl, hb⟩
        refine ⟨_, rfl, ?_⟩
        have n0_ := Aside0.mk (blk_below (g := gb354) (o := .cells #[.string a0_0, .slice A0_1 l0_1.length c0_1] 24 (0, 0)) (by (with_reducible repeat (first | refine blk_drewN ?_ _ | refine blk_drew ?_ | refine blk_alloc ?_ _)); exact BK354.out) hb)
        have n1_ := Aside0.mk (below_step (by repeat (first | (with_reducible first | exact HB.out | apply below_alloc | apply pw_below_drewN | apply below_drew1 | refine below_set ?_ GE354.out) | exact HB.out)) hb)
        clear BK354
        clear HB
        have BK354 := n0_
        have HB := n1_
        clear n0_ n1_
        (try clear hb)
        (try clear hb2)
        (try clear hk)
        (try clear hi)
        refine hK.out _ _ ⟨(blk_cell BK354.out 0).trans rfl, (blk_cell BK354.out 1).trans rfl⟩ (fun hHeld => ?_)
        clear hK K
        refine norm_ (a' := ?_) ?_ ?_
        rotate_left
        · show Act.put _ (some 10) _ = _
          simp only [Act.put, List.setIfInBounds_toArray, List.set_cons_zero, List.set_cons_succ, i64_w, i32_w]
          rfl
        refine pure_ (i := 6) (N := some 11) (v := ?_) (a' := ?_) #[true, true, true, true, true, true, true, false, false, false, false, false, false, false, false, false, false, false, false, false, false, false, false, false, false, false, false, false, false] rfl rfl (any_of HT_.out (by kernel_rfl)) (fun _ _ _ h => h) (Or.inl ⟨by rfl, ?_⟩) ?_ ?_
        rotate_left
        · intro w'
          go_simp
          with_reducible rfl
        rotate_left
        · simp only [Act.put, List.setIfInBounds_toArray, List.set_cons_zero, List.set_cons_succ, i64_w, i32_w]
          rfl
        refine pure_ (i := 7) (N := some 12) (v := ?_) (a' := ?_) #[true, true, true, true, true, true, true, true, false, false, false, false, false, false, false, false, false, false, false, false, false, false, false, false, false, false, false, false, false] rfl rfl (any_of HT_.out (by kernel_rfl)) (fun _ _ _ h => h) (Or.inl ⟨by rfl, ?_⟩) ?_ ?_
        rotate_left
        · intro w'
          go_simp
          with_reducible rfl
        rotate_left
        · simp only [Act.put, List.setIfInBounds_toArray, List.set_cons_zero, List.set_cons_succ, i64_w, i32_w]
          rfl
        refine pure_ (i := 9) (N := some 14) (v := ?_) (a' := ?_) #[true, true, true, true, true, true, true, true, false, true, false, false, false, false, false, false, false, false, false, false, false, false, false, false, false, false, false, false, false] rfl rfl (any_of HT_.out (by kernel_rfl)) (fun _ _ _ h => h) (Or.inl ⟨by rfl, ?_⟩) ?_ ?_
        rotate_left
        · intro w'
          go_simp
          with_reducible rfl
        rotate_left
        · simp only [Act.put, List.setIfInBounds_toArray, List.set_cons_zero, List.set_cons_succ, i64_w, i32_w]
          rfl
        refine pure_ (i := 12) (N := some 17) (v := ?_) (a' := ?_) #[true, true, true, true, true, true, true, true, false, true, false, false, true, false, false, false, false, false, false, false, false, false, false, false, false, false, false, false, false] rfl rfl (any_of HT_.out (by kernel_rfl)) (fun _ _ _ h => h) (Or.inl ⟨by rfl, ?_⟩) ?_ ?_
        rotate_left
        · intro w'
          go_simp
          with_reducible rfl
        rotate_left
        · simp only [Act.put, List.setIfInBounds_toArray, List.set_cons_zero, List.set_cons_succ, i64_w, i32_w]
          rfl
        refine take_ (i := 8) (N := some 13) (v := ?_) (a' := ?_) #[true, true, true, true, true, true, true, true, true, true, false, false, true, false, false, false, false, false, false, false, false, false, false, false, false, false, false, false, false] rfl rfl (take_ofW HT_.out HW_.out (by kernel_rfl)) (fun _ _ _ h => h) (Or.inl ⟨by rfl, ?_⟩) hHeld ?_ ?_
        rotate_left
        · rintro w' ⟨s0, s1⟩
          go_simp
          with_reducible rfl
        rotate_left
        · simp only [Act.put, List.setIfInBounds_toArray, List.set_cons_zero, List.set_cons_succ, i64_w, i32_w]
          rfl
        refine take_ (i := 11) (N := some 16) (v := ?_) (a' := ?_) #[true, true, true, true, true, true, true, true, true, true, false, true, true, false, false, false, false, false, false, false, false, false, false, false, false, false, false, false, false] rfl rfl (take_ofW HT_.out HW_.out (by kernel_rfl)) (fun _ _ _ h => h) (Or.inl ⟨by rfl, ?_⟩) hHeld ?_ ?_
        rotate_left
        · rintro w' ⟨s0, s1⟩
          go_simp
          with_reducible rfl
        rotate_left
        · simp only [Act.put, List.setIfInBounds_toArray, List.set_cons_zero, List.set_cons_succ, i64_w, i32_w]
          rfl
        refine one_ (i := 10) (N := some 15) #[true, true, true, true, true, true, true, true, true, true, true, true, true, false, false, false, false, false, false, false, false, false, false, false, false, false, false, false, false] rfl rfl (one_of HT_.out (by kernel_rfl)) (by decide) (fun K hK => ?_)
        refine goes_ Tryz.func8 (by kernel_rfl) rfl #[.agg #[.string a0_0, .slice A0_1 l0_1.length c0_1], .int .i64 a1] (by rfl) rfl rfl (by (try simp only [List.map_toArray, List.map_cons, List.map_nil]); first | done | rfl | (simp only [List.length_drop, List.length_take]; rfl)) ?_
        with_reducible refine (zone_Local.calls k a0_0 _ _ l0_1 a1 t357 _ ?side1 ?side2 A6.out).mono ?_
        (case side1 => repeat (first | exact (Kd.C_below HR0_1.out HB.out) | (with_reducible refine Kd.C_alloc ?_ _) | (with_reducible refine Kd.C_drewN ?_ _) | (with_reducible refine Kd.C_drew ?_)))
        (case side2 => exact HC0_1.out)
        rintro e w17 ⟨rfl, hb⟩
        refine ⟨_, rfl, ?_⟩
        have n0_ := Aside0.mk (blk_below (g := gb354) (o := .cells #[.string a0_0, .slice A0_1 l0_1.length c0_1] 24 (0, 0)) (by (with_reducible repeat (first | refine blk_drewN ?_ _ | refine blk_drew ?_ | refine blk_alloc ?_ _)); exact BK354.out) hb)
        have n1_ := Aside0.mk (below_step (by repeat (first | (with_reducible first | exact HB.out | apply below_alloc | apply pw_below_drewN | apply below_drew1 | refine below_set ?_ GE354.out) | exact HB.out)) hb)
        clear BK354
        clear HB
        have BK354 := n0_
        have HB := n1_
        clear n0_ n1_
        (try clear hb)
        (try clear hb2)
        (try clear hk)
        (try clear hi)
        refine hK.out _ _ ⟨(blk_cell BK354.out 0).trans rfl, (blk_cell BK354.out 1).trans rfl⟩ (fun hHeld => ?_)
        clear hK K
        refine norm_ (a' := ?_) ?_ ?_
        rotate_left
        · show Act.put _ (some 15) _ = _
          simp only [Act.put, List.setIfInBounds_toArray, List.set_cons_zero, List.set_cons_succ, i64_w, i32_w]
          rfl
        refine one_ (i := 13) (N := some 18) #[true, true, true, true, true, true, true, true, true, true, true, true, true, true, false, false, false, false, false, false, false, false, false, false, false, false, false, false, false] rfl rfl (one_of HT_.out (by kernel_rfl)) (by decide) (fun K hK => ?_)
        refine goes_ Tryz.func9 (by kernel_rfl) rfl #[.agg #[.string a0_0, .slice A0_1 l0_1.length c0_1], .int .i64 a1] (by rfl) rfl rfl (by (try simp only [List.map_toArray, List.map_cons, List.map_nil]); first | done | rfl | (simp only [List.length_drop, List.length_take]; rfl)) ?_
        with_reducible refine (almanacref16_Local.calls k a0_0 _ _ l0_1 a1 t358 _ ?side1 ?side2 A7.out).mono ?_
        (case side1 => repeat (first | exact (Kd.C_below HR0_1.out HB.out) | (with_reducible refine Kd.C_alloc ?_ _) | (with_reducible refine Kd.C_drewN ?_ _) | (with_reducible refine Kd.C_drew ?_)))
        (case side2 => exact HC0_1.out)
        rintro e w18 ⟨rfl, hb⟩
        refine ⟨_, rfl, ?_⟩
        have n0_ := Aside0.mk (blk_below (g := gb354) (o := .cells #[.string a0_0, .slice A0_1 l0_1.length c0_1] 24 (0, 0)) (by (with_reducible repeat (first | refine blk_drewN ?_ _ | refine blk_drew ?_ | refine blk_alloc ?_ _)); exact BK354.out) hb)
        have n1_ := Aside0.mk (below_step (by repeat (first | (with_reducible first | exact HB.out | apply below_alloc | apply pw_below_drewN | apply below_drew1 | refine below_set ?_ GE354.out) | exact HB.out)) hb)
        clear BK354
        clear HB
        have BK354 := n0_
        have HB := n1_
        clear n0_ n1_
        (try clear hb)
        (try clear hb2)
        (try clear hk)
        (try clear hi)
        refine hK.out _ _ ⟨(blk_cell BK354.out 0).trans rfl, (blk_cell BK354.out 1).trans rfl⟩ (fun hHeld => ?_)
        clear hK K
        refine norm_ (a' := ?_) ?_ ?_
        rotate_left
        · show Act.put _ (some 18) _ = _
          simp only [Act.put, List.setIfInBounds_toArray, List.set_cons_zero, List.set_cons_succ, i64_w, i32_w]
          rfl
        refine pure_ (i := 14) (N := some 19) (v := ?_) (a' := ?_) #[true, true, true, true, true, true, true, true, true, true, true, true, true, true, true, false, false, false, false, false, false, false, false, false, false, false, false, false, false] rfl rfl (any_of HT_.out (by kernel_rfl)) (fun _ _ _ h => h) (Or.inl ⟨by rfl, ?_⟩) ?_ ?_
        rotate_left
        · intro w'
          go_simp
          with_reducible rfl
        rotate_left
        · simp only [Act.put, List.setIfInBounds_toArray, List.set_cons_zero, List.set_cons_succ, i64_w, i32_w]
          rfl
        refine pure_ (i := 15) (N := some 20) (v := ?_) (a' := ?_) #[true, true, true, true, true, true, true, true, true, true, true, true, true, true, true, true, false, false, false, false, false, false, false, false, false, false, false, false, false] rfl rfl (any_of HT_.out (by kernel_rfl)) (fun _ _ _ h => h) (Or.inl ⟨by rfl, ?_⟩) ?_ ?_
        rotate_left
        · intro w'
          go_simp
          with_reducible rfl
        rotate_left
        · simp only [Act.put, List.setIfInBounds_toArray, List.set_cons_zero, List.set_cons_succ, i64_w, i32_w]
          rfl
        refine pure_ (i := 16) (N := some 21) (v := ?_) (a' := ?_) #[true, true, true, true, true, true, true, true, true, true, true, true, true, true, true, true, true, false, false, false, false, false, false, false, false, false, false, false, false] rfl rfl (any_of HT_.out (by kernel_rfl)) (fun _ _ _ h => h) (Or.inl ⟨by rfl, ?_⟩) ?_ ?_
        rotate_left
        · intro w'
          go_simp
          with_reducible rfl
        rotate_left
        · simp only [Act.put, List.setIfInBounds_toArray, List.set_cons_zero, List.set_cons_succ, i64_w, i32_w]
          rfl
        refine pure_ (i := 18) (N := some 23) (v := ?_) (a' := ?_) #[true, true, true, true, true, true, true, true, true, true, true, true, true, true, true, true, true, false, true, false, false, false, false, false, false, false, false, false, false] rfl rfl (any_of HT_.out (by kernel_rfl)) (fun _ _ _ h => h) (Or.inl ⟨by rfl, ?_⟩) ?_ ?_
        rotate_left
        · intro w'
          go_simp
          with_reducible rfl
        rotate_left
        · simp only [Act.put, List.setIfInBounds_toArray, List.set_cons_zero, List.set_cons_succ, i64_w, i32_w]
          rfl
        refine pure_ (i := 21) (N := some 26) (v := ?_) (a' := ?_) #[true, true, true, true, true, true, true, true, true, true, true, true, true, true, true, true, true, false, true, false, false, true, false, false, false, false, false, false, false] rfl rfl (any_of HT_.out (by kernel_rfl)) (fun _ _ _ h => h) (Or.inl ⟨by rfl, ?_⟩) ?_ ?_
        rotate_left
        · intro w'
          go_simp
          with_reducible rfl
        rotate_left
        · simp only [Act.put, List.setIfInBounds_toArray, List.set_cons_zero, List.set_cons_succ, i64_w, i32_w]
          rfl
        refine take_ (i := 17) (N := some 22) (v := ?_) (a' := ?_) #[true, true, true, true, true, true, true, true, true, true, true, true, true, true, true, true, true, true, true, false, false, true, false, false, false, false, false, false, false] rfl rfl (take_ofW HT_.out HW_.out (by kernel_rfl)) (fun _ _ _ h => h) (Or.inl ⟨by rfl, ?_⟩) hHeld ?_ ?_
        rotate_left
        · rintro w' ⟨s0, s1⟩
          go_simp
          with_reducible rfl
        rotate_left
        · simp only [Act.put, List.setIfInBounds_toArray, List.set_cons_zero, List.set_cons_succ, i64_w, i32_w]
          rfl
        refine take_ (i := 20) (N := some 25) (v := ?_) (a' := ?_) #[true, true, true, true, true, true, true, true, true, true, true, true, true, true, true, true, true, true, true, false, true, true, false, false, false, false, false, false, false] rfl rfl (take_ofW HT_.out HW_.out (by kernel_rfl)) (fun _ _ _ h => h) (Or.inl ⟨by rfl, ?_⟩) hHeld ?_ ?_
        rotate_left
        · rintro w' ⟨s0, s1⟩
          go_simp
          with_reducible rfl
        rotate_left
        · simp only [Act.put, List.setIfInBounds_toArray, List.set_cons_zero, List.set_cons_succ, i64_w, i32_w]
          rfl
        refine one_ (i := 19) (N := some 24) #[true, true, true, true, true, true, true, true, true, true, true, true, true, true, true, true, true, true, true, true, true, true, false, false, false, false, false, false, false] rfl rfl (one_of HT_.out (by kernel_rfl)) (by decide) (fun K hK => ?_)
        refine goes_ Tryz.func10 (by kernel_rfl) rfl #[.agg #[.string a0_0, .slice A0_1 l0_1.length c0_1], .int .i64 a1] (by rfl) rfl rfl (by (try simp only [List.map_toArray, List.map_cons, List.map_nil]); first | done | rfl | (simp only [List.length_drop, List.length_take]; rfl)) ?_
        with_reducible refine (zone_Utc.calls k a0_0 _ _ l0_1 a1 t359 _ ?side1 ?side2 A9.out).mono ?_
        (case side1 => repeat (first | exact (Kd.C_below HR0_1.out HB.out) | (with_reducible refine Kd.C_alloc ?_ _) | (with_reducible refine Kd.C_drewN ?_ _) | (with_reducible refine Kd.C_drew ?_)))
        (case side2 => exact HC0_1.out)
        rintro e w19 ⟨rfl, hb⟩
        refine ⟨_, rfl, ?_⟩
        have n0_ := Aside0.mk (blk_below (g := gb354) (o := .cells #[.string a0_0, .slice A0_1 l0_1.length c0_1] 24 (0, 0)) (by (with_reducible repeat (first | refine blk_drewN ?_ _ | refine blk_drew ?_ | refine blk_alloc ?_ _)); exact BK354.out) hb)
        have n1_ := Aside0.mk (below_step (by repeat (first | (with_reducible first | exact HB.out | apply below_alloc | apply pw_below_drewN | apply below_drew1 | refine below_set ?_ GE354.out) | exact HB.out)) hb)
        clear BK354
        clear HB
        have BK354 := n0_
        have HB := n1_
        clear n0_ n1_
        (try clear hb)
        (try clear hb2)
        (try clear hk)
        (try clear hi)
        refine hK.out _ _ ⟨(blk_cell BK354.out 0).trans rfl, (blk_cell BK354.out 1).trans rfl⟩ (fun hHeld => ?_)
        clear hK K
        refine norm_ (a' := ?_) ?_ ?_
        rotate_left
        · show Act.put _ (some 24) _ = _
          simp only [Act.put, List.setIfInBounds_toArray, List.set_cons_zero, List.set_cons_succ, i64_w, i32_w]
          rfl
        refine one_ (i := 22) (N := some 27) #[true, true, true, true, true, true, true, true, true, true, true, true, true, true, true, true, true, true, true, true, true, true, true, false, false, false, false, false, false] rfl rfl (one_of HT_.out (by kernel_rfl)) (by decide) (fun K hK => ?_)
        refine goes_ Tryz.func11 (by kernel_rfl) rfl #[.agg #[.string a0_0, .slice A0_1 l0_1.length c0_1], .int .i64 a1] (by rfl) rfl rfl (by (try simp only [List.map_toArray, List.map_cons, List.map_nil]); first | done | rfl | (simp only [List.length_drop, List.length_take]; rfl)) ?_
        with_reducible refine (almanacref16_Utc.calls k a0_0 _ _ l0_1 a1 t360 _ ?side1 ?side2 A10.out).mono ?_
        (case side1 => repeat (first | exact (Kd.C_below HR0_1.out HB.out) | (with_reducible refine Kd.C_alloc ?_ _) | (with_reducible refine Kd.C_drewN ?_ _) | (with_reducible refine Kd.C_drew ?_)))
        (case side2 => exact HC0_1.out)
        rintro e w20 ⟨rfl, hb⟩
        refine ⟨_, rfl, ?_⟩
        have n0_ := Aside0.mk (blk_below (g := gb354) (o := .cells #[.string a0_0, .slice A0_1 l0_1.length c0_1] 24 (0, 0)) (by (with_reducible repeat (first | refine blk_drewN ?_ _ | refine blk_drew ?_ | refine blk_alloc ?_ _)); exact BK354.out) hb)
        have n1_ := Aside0.mk (below_step (by repeat (first | (with_reducible first | exact HB.out | apply below_alloc | apply pw_below_drewN | apply below_drew1 | refine below_set ?_ GE354.out) | exact HB.out)) hb)
        clear BK354
        clear HB
        have BK354 := n0_
        have HB := n1_
        clear n0_ n1_
        (try clear hb)
        (try clear hb2)
        (try clear hk)
        (try clear hi)
        refine hK.out _ _ ⟨(blk_cell BK354.out 0).trans rfl, (blk_cell BK354.out 1).trans rfl⟩ (fun hHeld => ?_)
        clear hK K
        refine norm_ (a' := ?_) ?_ ?_
        rotate_left
        · show Act.put _ (some 27) _ = _
          simp only [Act.put, List.setIfInBounds_toArray, List.set_cons_zero, List.set_cons_succ, i64_w, i32_w]
          rfl
        refine pure_ (i := 23) (N := some 28) (v := ?_) (a' := ?_) #[true, true, true, true, true, true, true, true, true, true, true, true, true, true, true, true, true, true, true, true, true, true, true, true, false, false, false, false, false] rfl rfl (any_of HT_.out (by kernel_rfl)) (fun _ _ _ h => h) (Or.inl ⟨by rfl, ?_⟩) ?_ ?_
        rotate_left
        · intro w'
          go_simp
          with_reducible rfl
        rotate_left
        · simp only [Act.put, List.setIfInBounds_toArray, List.set_cons_zero, List.set_cons_succ, i64_w, i32_w]
          rfl
        refine pure_ (i := 24) (N := some 29) (v := ?_) (a' := ?_) #[true, true, true, true, true, true, true, true, true, true, true, true, true, true, true, true, true, true, true, true, true, true, true, true, true, false, false, false, false] rfl rfl (any_of HT_.out (by kernel_rfl)) (fun _ _ _ h => h) (Or.inl ⟨by rfl, ?_⟩) ?_ ?_
        rotate_left
        · intro w'
          go_simp
          with_reducible rfl
        rotate_left
        · simp only [Act.put, List.setIfInBounds_toArray, List.set_cons_zero, List.set_cons_succ, i64_w, i32_w]
          rfl
        refine pure_ (i := 25) (N := some 30) (v := ?_) (a' := ?_) #[true, true, true, true, true, true, true, true, true, true, true, true, true, true, true, true, true, true, true, true, true, true, true, true, true, true, false, false, false] rfl rfl (any_of HT_.out (by kernel_rfl)) (fun _ _ _ h => h) (Or.inl ⟨by rfl, ?_⟩) ?_ ?_
        rotate_left
        · intro w'
          go_simp
          with_reducible rfl
        rotate_left
        · simp only [Act.put, List.setIfInBounds_toArray, List.set_cons_zero, List.set_cons_succ, i64_w, i32_w]
          rfl
        refine one_ (i := 26) (N := some 31) #[true, true, true, true, true, true, true, true, true, true, true, true, true, true, true, true, true, true, true, true, true, true, true, true, true, true, true, false, false] rfl rfl (one_of HT_.out (by kernel_rfl)) (by decide) (fun K hK => ?_)
        refine goes_ Tryz.func12 (by kernel_rfl) rfl #[] (by rfl) rfl rfl (by (try simp only [List.map_toArray, List.map_cons, List.map_nil]); first | done | rfl | (simp only [List.length_drop, List.length_take]; rfl)) ?_
        with_reducible refine (almanaclaw16_awake.calls  t361 _ A12.out (HTab.out.below (by repeat (first | (with_reducible first | exact HB.out | apply below_alloc | apply pw_below_drewN | apply below_drew1) | exact HB.out)))).mono ?_
        rintro e w21 ⟨rfl, hb⟩
        refine ⟨_, rfl, ?_⟩
        have n0_ := Aside0.mk (blk_below (g := gb354) (o := .cells #[.string a0_0, .slice A0_1 l0_1.length c0_1] 24 (0, 0)) (by (with_reducible repeat (first | refine blk_drewN ?_ _ | refine blk_drew ?_ | refine blk_alloc ?_ _)); exact BK354.out) hb)
        have n1_ := Aside0.mk (below_step (by repeat (first | (with_reducible first | exact HB.out | apply below_alloc | apply pw_below_drewN | apply below_drew1 | refine below_set ?_ GE354.out) | exact HB.out)) hb)
        clear BK354
        clear HB
        have BK354 := n0_
        have HB := n1_
        clear n0_ n1_
        (try clear hb)
        (try clear hb2)
        (try clear hk)
        (try clear hi)
        refine hK.out _ _ ⟨(blk_cell BK354.out 0).trans rfl, (blk_cell BK354.out 1).trans rfl⟩ (fun hHeld => ?_)
        clear hK K
        refine norm_ (a' := ?_) ?_ ?_
        rotate_left
        · show Act.put _ (some 31) _ = _
          simp only [Act.put, List.setIfInBounds_toArray, List.set_cons_zero, List.set_cons_succ, i64_w, i32_w]
          rfl
        refine pure_ (i := 27) (N := some 32) (v := ?_) (a' := ?_) #[true, true, true, true, true, true, true, true, true, true, true, true, true, true, true, true, true, true, true, true, true, true, true, true, true, true, true, true, false] rfl rfl (any_of HT_.out (by kernel_rfl)) (fun _ _ _ h => h) (Or.inl ⟨by rfl, ?_⟩) ?_ ?_
        rotate_left
        · intro w'
          go_simp
          with_reducible rfl
        rotate_left
        · simp only [Act.put, List.setIfInBounds_toArray, List.set_cons_zero, List.set_cons_succ, i64_w, i32_w]
          rfl
        refine pure_ (i := 28) (N := some 4) (v := ?_) (a' := ?_) #[true, true, true, true, true, true, true, true, true, true, true, true, true, true, true, true, true, true, true, true, true, true, true, true, true, true, true, true, true] rfl rfl (any_of HT_.out (by kernel_rfl)) (fun _ _ _ h => h) (Or.inl ⟨by rfl, ?_⟩) ?_ ?_
        rotate_left
        · intro w'
          go_simp
          with_reducible rfl
        rotate_left
        · simp only [Act.put, List.setIfInBounds_toArray, List.set_cons_zero, List.set_cons_succ, i64_w, i32_w]
          rfl
        refine done_ (done_of HT_.out (by kernel_rfl)) ?_
        try go_wp2
        go_ret
        exact ⟨by first | rfl | (simp [errW_none, errW_some] <;> rfl) | (simp [*, errW_none, errW_some] <;> rfl), by repeat (first | (with_reducible first | exact HB.out | apply below_alloc | apply pw_below_drewN | apply below_drew1 | refine below_set ?_ GE354.out) | exact HB.out)⟩
      · rw [if_neg c11] at H
        have c11b0 : (t359 == t360) = false := beq_eq_false_iff_ne.mpr c11
        have c11b1 : (t359 != t360) = true := bne_iff_ne.mpr c11
        exact absurd ((Option.some.inj H).trans HRT.out) (by decide)
    · rw [if_neg c8] at H
      have c8b0 : (t357 == t358) = false := beq_eq_false_iff_ne.mpr c8
      have c8b1 : (t357 != t358) = true := bne_iff_ne.mpr c8
      exact absurd ((Option.some.inj H).trans HRT.out) (by decide)
  · rw [if_neg c5] at H
    have c5b0 : (t355 == t356) = false := beq_eq_false_iff_ne.mpr c5
    have c5b1 : (t355 != t356) = true := bne_iff_ne.mpr c5
    exact absurd ((Option.some.inj H).trans HRT.out) (by decide)
end Go.Proofs.YtmajmolbjiahlaaGreatDoor.PD
namespace Go.Proofs.YtmajmolbjiahlaaGreatDoor.PD
open Go.RowKit Go.Proofs.YtmajmolbjiahlaaGreatDoorW.PrintWords Go.Proofs.YtmajmolbjiahlaaGreatDoorW.PrintLast Go.Proofs.YtmajmolbjiahlaaGreatDoorW.PrintMore
set_option linter.unusedVariables false
set_option linter.unusedSimpArgs false
theorem tells_true (nm : ByteArray) (l : List S32) (t : Int) (hb : l.length < 4398046511104) : ∃ k, almanaclaw16_ZoneTells.f k nm l t = some true := by
  refine Ev.rounds ?_
  refine Ev.bind (zoff_val nm l t) (Ev.bind (roff_val nm l t hb) ?_)
  refine Ev.congr (fun k => if_pos rfl) ?_
  refine Ev.bind (zloc_val nm l t) (Ev.bind (rloc_val nm l t hb) ?_)
  refine Ev.congr (fun k => if_pos rfl) ?_
  refine Ev.bind (zutc_val nm l t) (Ev.bind (rutc_val nm l t hb) ?_)
  exact Ev.congr (f := fun _ => some true) (fun k => by rw [if_pos rfl]; rfl) (Ev.now _)
end Go.Proofs.YtmajmolbjiahlaaGreatDoor.PD
namespace Go.Proofs.YtmajmolbjiahlaaGreatDoor.PD
open Go.ChangeShapes Go.WideShapes Go.ChangeAt Go.RowKit Go.Proofs.YtmajmolbjiahlaaGreatDoorW.PrintWords
set_option linter.unusedVariables false
open _root_.Go.Proofs.YtmajmolbjiahlaaGreatDoor.Rows
set_option maxRecDepth 100000 in
theorem zoneTells_lifted (os : Os) (started : os.Started) (H : Type) (enc : TypeId × Value → H) :
    ReturnsInHanded {} Tryz.checked os 3 .any (fun w args => (zoneTellsSpec.pre enc Tryz.prog Tryz.f3 zoneTellsRow.domain false w args ∧ laidMetH Tryz.prog laidL w) ∧ sizedMet enc Tryz.prog Tryz.f3 (OpenSpec.ofChange zoneTellsSpec) false w args)
      (zoneTellsSpec.post enc Tryz.prog Tryz.f3 false true false false) := by
  refine returnsInHanded_of_change_and (C := Tryz.checked) (X := fun w _ => laidMetH Tryz.prog laidL w) (fun _ _ _ hh h => h.of_heap hh) own started (by kernel_rfl) Tryz.func3
    (ChangeSpec.witness_shaped (enc := enc) (C := Tryz.checked) (os := os) (X := fun w _ => laidMetH Tryz.prog laidL w) false (World.doorLaid Tryz.prog 400 os) #[.agg #[.string ⟨#[]⟩, .slice none 0 0], .int .i64 0] 8 rfl (World.shaped_of_RefB (by kernel_rfl) (by kernel_rfl)) (by kernel_rfl) (by kernel_rfl) (by kernel_rfl) (door_met os _)) ?_
  intro W base args ds gs before hval0 hW hcnd hsz0 hL _
  have hsz : (DataW.weightsEach Tryz.prog (Tryz.f3.params.toList ++ zoneTellsSpec.plain.varTypes Tryz.prog) (ds ++ gs)).all (· ≤ reachBytes) = true := hsz0
  have hval : ∀ (j : Nat) t v, Tryz.f3.params[j]? = some t → args[j]? = some v → Value.okWide Tryz.prog W .any base t v := hval0
  have hW' := hW
  obtain ⟨p, q, hA0, hV, rfl, hfz, hnd⟩ := hW
  have hA : DataW.TrodAll enc Tryz.prog W 0 (fun _ => true) true Tryz.f3.params.toList args.toList ds p := hA0
  rw [Tryz.params3] at hA hval hsz
  obtain ⟨v0, vs0, d0, ds0, p0, q0, hargs, rfl, rfl, h0, r0⟩ := trodAll_cons hA
  obtain ⟨v1, vs1, d1, ds1, p1, q1, rfl, rfl, rfl, h1, r1⟩ := trodAll_cons r0
  obtain ⟨rfl, rfl, rfl⟩ := trodAll_nil r1
  obtain rfl : args = #[v0, v1] := by cases args; simp_all
  obtain ⟨rfl, rfl⟩ := trodVars_none hV
  obtain ⟨s0, A0, c0, l0, rfl, x0, y0, z0⟩ := open_zone (hval 0 24 v0 rfl rfl) h0 (weighs hsz (j := 0) rfl rfl)
  obtain ⟨n1, rfl, rfl, rfl, w1⟩ := open_int Tryz.underlying2 (hval 1 2 v1 rfl rfl) h1
  have k0 := h0
  have lt0 : ∀ x ∈ p0, x.block < W.heap.size := by obtain ⟨m, hm⟩ := k0; exact DataW.trod_lt m _ _ _ hm
  clear hA0 hval0 hsz0 hsz
  obtain ⟨k, hk⟩ := tells_true s0 l0 n1 z0
  refine (almanaclaw16_ZoneTells.callsT k s0 A0 c0 l0 n1 true W x0 y0 hk rfl (tab_of hL)).mono fun e W' ⟨he, bel⟩ => ?_
  subst he
  exact ⟨_, rfl, _, _, _, [], _, [], hW', trodAll_mk1 (shut_bool Tryz.underlying4 _), (trodAll_cons_mk (Below.trod laidOut (by kernel_rfl) (of_decide_eq_true (by kernel_rfl)) k0 bel lt0) (trodAll_cons_mk (shut_int Tryz.underlying2 w1) trodAll_mk0)), rfl, bel.frame _, fun h => by cases h⟩
theorem zoneTells_row : zoneTellsRow.holds Tryz.pinned (OpenSpec.ofChange zoneTellsSpec) :=
  OpenClaim.holds_of_wide 3 Tryz.f3 rfl rfl rfl rfl rfl rfl rfl ⟨rfl, rfl, rfl, rfl, rfl⟩ rfl rfl rfl rfl rfl (by kernel_rfl) Tryz.func3 (by kernel_rfl)
    (of_decide_eq_true (by kernel_rfl)) (by unfold Func.isWrapper; first | (rw [if_pos (by decide +kernel)]; kernel_rfl) | (rw [if_neg (by decide +kernel)]; exact ⟨rfl, rfl⟩))
    (fun os started H enc _ => zoneTells_lifted os started H enc)
end Go.Proofs.YtmajmolbjiahlaaGreatDoor.PD
namespace Go.Proofs.YtmajmolbjiahlaaGreatDoor.PD
open _root_.Go.Proofs.YtmajmolbjiahlaaGreatDoor.Rows
theorem zoneTells_card : ZoneTellsCardSaid :=
  Claim7.holds_tied_plain_at .later [] [.data, .data, .data] true (true, "caf13726c208a16d25baa9bb3af26a78e00e2f0a48de74af47d1b6c661e961a8") false
    zoneTells_row (fun _ h => by cases h) (by kernel_rfl) (fun _ h => by cases h) zoneTells_row_tie rfl ⟨rfl, rfl⟩ (by kernel_rfl) rfl
    (fun f fn hf hfn => by
      obtain rfl : f = 3 := Option.some.inj ((show Tryz.prog.funcNamed "almanac/almanaclaw16.ZoneTells" = some 3 by kernel_rfl).symm.trans hf) |>.symm
      obtain rfl : fn = Tryz.f3 := (Option.some.inj (Tryz.func3.symm.trans hfn)).symm
      exact ⟨by kernel_rfl, fun j t ht => by
        rw [Tryz.params3] at ht
        have hm : t ∈ [24, 2] := by simpa using Array.mem_of_getElem? ht
        have hall : ([24, 2].all fun u => !Tryz.prog.wantsStandIn u) = true := by kernel_rfl
        exact (show Tryz.prog.wantsStandIn t = false by simpa using List.all_eq_true.1 hall t hm)⟩)
    (by kernel_rfl)
#print axioms zoneTells_card
end Go.Proofs.YtmajmolbjiahlaaGreatDoor.PD
