/- The law ZoneKnows holds of every name and every two zones (the tied card): the three tables of the library that the row lists are tied to the program's text. -/
import Derived.Test.YtmajmolbjiahlaaGreatDoorZoneKnows5
import Derived.Test.YtmajmolbjiahlaaGreatDoorZoneKnows2
import Derived.Test.YtmajmolbjiahlaaGreatDoorZoneKnows3
import Derived.Test.YtmajmolbjiahlaaGreatDoorZoneKnows4
import Derived.Test.YtmajmolbjiahlaaGreatDoorTie
import Derived.Test.YtmajmolbjiahlaaGreatDoorCards
import Derived.SevenTiedAt
namespace Go.Proofs.YtmajmolbjiahlaaGreatDoor.PD
open Go.RowKit Go.Proofs.YtmajmolbjiahlaaGreatDoorW.PrintWords Go.Proofs.YtmajmolbjiahlaaGreatDoorW.PrintLast Go.Proofs.YtmajmolbjiahlaaGreatDoorW.PrintMore
attribute [local go_sem] isSome_setCell max2_int min2_int max_two min_two max_three min_three max_four min_four
set_option linter.unusedVariables false
set_option linter.unusedSimpArgs false
def almanaclaw16_ZoneKnows.f (k : Nat) (a0 : ByteArray) (a1_0 : ByteArray) (l1_1 : List (S32)) (a2_0 : ByteArray) (l2_1 : List (S32)) : Option (Bool) := (zone_Named.f k a0).bind fun bt478 => ((almanacref16_Named.f k a0).bind fun bt484 => ((almanacref16_Same.f k bt478.1 bt478.2.1 bt484.1 bt484.2.1).bind fun t490 => (if t490 = true then (if (bt478.2.2 == bt484.2.2) = true then ((zone_Names.f k).bind fun t491 => ((almanacref16_Names.f k).bind fun t494 => ((almanacref08_Texts.f k t491 t494).bind fun t497 => (if t497 = true then ((zone_Fit.f a1_0 l1_1).bind fun t498 => ((almanacref16_Fit.f k a1_0 l1_1).bind fun t499 => (if (t498 == t499) = true then ((zone_Same.f k a1_0 l1_1 a2_0 l2_1).bind fun t500 => ((almanacref16_Same.f k a1_0 l1_1 a2_0 l2_1).bind fun t501 => (if (t500 == t501) = true then ((zone_Same.f k a1_0 l1_1 a1_0 l1_1).bind fun t502 => (if t502 = true then ((almanaclaw16_awake.f).bind fun t503 => (some t503)) else (some false))) else (some false)))) else (some false)))) else (some false))))) else (some false)) else (some false))))
def almanaclaw16_ZoneKnows.T3 : Bool × List (List Nat × List Nat) := (true, [([], []), ([], []), ([0, 1], [0, 1]), ([2, 2], [2]), ([3], [3]), ([3], [3]), ([4, 5, 3], [3, 4, 5]), ([3, 6], [3, 6]), ([7, 3], [7]), ([8, 8], [8]), ([9, 8], [8]), ([9, 10, 10, 8], [8, 9, 10]), ([8, 11], [8, 11]), ([12, 11], [12]), ([13], [13]), ([14, 13, 13], [13, 14]), ([13], [13]), ([16, 15, 13], [13, 16]), ([15, 17, 13], [13, 15, 17]), ([13, 18], [13, 18]), ([19, 17], [19]), ([20], [20]), ([20], [20]), ([21, 22, 20, 20], [20, 21, 22]), ([20], [20]), ([20], [20]), ([24, 25, 23, 20], [20, 24, 25]), ([23, 26, 20], [20, 23, 26]), ([20, 27], [20, 27]), ([28, 26], [28]), ([29], [29]), ([29], [29]), ([30, 31, 29, 29], [29, 30, 31]), ([29, 32], [29, 32]), ([33, 32], [33]), ([34, 34], [34]), ([34, 35], [34, 35]), ([36, 35, 0, 1, 2, 3, 4, 5, 6, 7, 8, 9, 10, 11, 12, 13, 14, 15, 16, 17, 18, 19, 20, 21, 22, 23, 24, 25, 26, 27, 28, 29, 30, 31, 32, 33, 34, 35, 36], [36])])
def almanaclaw16_ZoneKnows.B3 : List Nat := [0, 0, 3, 7, 15, 15, 63, 127, 255, 511, 1023, 2047, 4095, 8191, 16383, 32767, 16383, 131071, 262143, 524287, 1048575, 2097151, 2097151, 8388607, 2097151, 2097151, 67108863, 134217727, 268435455, 536870911, 1073741823, 1073741823, 4294967295, 8589934591, 17179869183, 34359738367, 68719476735, 137438953471]
theorem almanaclaw16_ZoneKnows.tab3 : rtab .any (opsOf Tryz.f5 3) = almanaclaw16_ZoneKnows.T3 := by kernel_rfl
theorem almanaclaw16_ZoneKnows.bits3 : waitsOk almanaclaw16_ZoneKnows.T3.2 almanaclaw16_ZoneKnows.B3 = true := by kernel_rfl
set_option maxHeartbeats 8000000 in
set_option maxRecDepth 100000 in
theorem almanaclaw16_ZoneKnows.callsT (k : Nat) (a0 : ByteArray) (a1_0 : ByteArray) (A1_1 : Option Addr) (c1_1 : Nat) (l1_1 : List (S32)) (a2_0 : ByteArray) (A2_1 : Option Addr) (c2_1 : Nat) (l2_1 : List (S32)) (r : Bool) (w : World) (hr1_1 : Kd.C k32 w A1_1 l1_1.length l1_1) (hc1_1 : l1_1.length ≤ c1_1) (hr2_1 : Kd.C k32 w A2_1 l2_1.length l2_1) (hc2_1 : l2_1.length ≤ c2_1) (h : almanaclaw16_ZoneKnows.f k a0 a1_0 l1_1 a2_0 l2_1 = some r) (hr : r = true) (hTab : Tab w) :
    Calls Tryz.prog 5 #[.string a0, .agg #[.string a1_0, .slice A1_1 l1_1.length c1_1], .agg #[.string a2_0, .slice A2_1 l2_1.length c2_1]] w fun e w' => e = .returned (.bool r) ∧ Below w.heap.size w w' := by
  have HTab := Aside0.mk hTab
  clear hTab
  have HRT := Aside0.mk hr
  clear hr
  have hu24 := Tryz.underlying24
  have HR1_1 := Aside0.mk hr1_1
  have HC1_1 := Aside0.mk hc1_1
  clear hr1_1 hc1_1
  have HR2_1 := Aside0.mk hr2_1
  have HC2_1 := Aside0.mk hc2_1
  clear hr2_1 hc2_1
  have HB := Aside0.mk (Below.refl w.heap.size w)
  have H : ((zone_Named.f k a0).bind fun bt478 => ((almanacref16_Named.f k a0).bind fun bt484 => ((almanacref16_Same.f k bt478.1 bt478.2.1 bt484.1 bt484.2.1).bind fun t490 => (if t490 = true then (if (bt478.2.2 == bt484.2.2) = true then ((zone_Names.f k).bind fun t491 => ((almanacref16_Names.f k).bind fun t494 => ((almanacref08_Texts.f k t491 t494).bind fun t497 => (if t497 = true then ((zone_Fit.f a1_0 l1_1).bind fun t498 => ((almanacref16_Fit.f k a1_0 l1_1).bind fun t499 => (if (t498 == t499) = true then ((zone_Same.f k a1_0 l1_1 a2_0 l2_1).bind fun t500 => ((almanacref16_Same.f k a1_0 l1_1 a2_0 l2_1).bind fun t501 => (if (t500 == t501) = true then ((zone_Same.f k a1_0 l1_1 a1_0 l1_1).bind fun t502 => (if t502 = true then ((almanaclaw16_awake.f).bind fun t503 => (some t503)) else (some false))) else (some false)))) else (some false)))) else (some false))))) else (some false)) else (some false))))) = some r := h
  clear h
  replace H := Option.bind_eq_some_iff.mp H
  obtain ⟨⟨t478, t479, t482⟩, A40, H⟩ := H
  replace H : ((almanacref16_Named.f k a0).bind fun bt484 => ((almanacref16_Same.f k t478 t479 bt484.1 bt484.2.1).bind fun t490 => (if t490 = true then (if (t482 == bt484.2.2) = true then ((zone_Names.f k).bind fun t491 => ((almanacref16_Names.f k).bind fun t494 => ((almanacref08_Texts.f k t491 t494).bind fun t497 => (if t497 = true then ((zone_Fit.f a1_0 l1_1).bind fun t498 => ((almanacref16_Fit.f k a1_0 l1_1).bind fun t499 => (if (t498 == t499) = true then ((zone_Same.f k a1_0 l1_1 a2_0 l2_1).bind fun t500 => ((almanacref16_Same.f k a1_0 l1_1 a2_0 l2_1).bind fun t501 => (if (t500 == t501) = true then ((zone_Same.f k a1_0 l1_1 a1_0 l1_1).bind fun t502 => (if t502 = true then ((almanaclaw16_awake.f).bind fun t503 => (some t503)) else (some false))) else (some false)))) else (some false)))) else (some false))))) else (some false)) else (some false)))) = some r := H
  have A4 := Aside0.mk A40
  clear A40
  replace H := Option.bind_eq_some_iff.mp H
  obtain ⟨⟨t484, t485, t488⟩, A50, H⟩ := H
  replace H : ((almanacref16_Same.f k t478 t479 t484 t485).bind fun t490 => (if t490 = true then (if (t482 == t488) = true then ((zone_Names.f k).bind fun t491 => ((almanacref16_Names.f k).bind fun t494 => ((almanacref08_Texts.f k t491 t494).bind fun t497 => (if t497 = true then ((zone_Fit.f a1_0 l1_1).bind fun t498 => ((almanacref16_Fit.f k a1_0 l1_1).bind fun t499 => (if (t498 == t499) = true then ((zone_Same.f k a1_0 l1_1 a2_0 l2_1).bind fun t500 => ((almanacref16_Same.f k a1_0 l1_1 a2_0 l2_1).bind fun t501 => (if (t500 == t501) = true then ((zone_Same.f k a1_0 l1_1 a1_0 l1_1).bind fun t502 => (if t502 = true then ((almanaclaw16_awake.f).bind fun t503 => (some t503)) else (some false))) else (some false)))) else (some false)))) else (some false))))) else (some false)) else (some false))) = some r := H
  have A5 := Aside0.mk A50
  clear A50
  replace H := Option.bind_eq_some_iff.mp H
  obtain ⟨t490, A60, H⟩ := H
  replace H : (if t490 = true then (if (t482 == t488) = true then ((zone_Names.f k).bind fun t491 => ((almanacref16_Names.f k).bind fun t494 => ((almanacref08_Texts.f k t491 t494).bind fun t497 => (if t497 = true then ((zone_Fit.f a1_0 l1_1).bind fun t498 => ((almanacref16_Fit.f k a1_0 l1_1).bind fun t499 => (if (t498 == t499) = true then ((zone_Same.f k a1_0 l1_1 a2_0 l2_1).bind fun t500 => ((almanacref16_Same.f k a1_0 l1_1 a2_0 l2_1).bind fun t501 => (if (t500 == t501) = true then ((zone_Same.f k a1_0 l1_1 a1_0 l1_1).bind fun t502 => (if t502 = true then ((almanaclaw16_awake.f).bind fun t503 => (some t503)) else (some false))) else (some false)))) else (some false)))) else (some false))))) else (some false)) else (some false)) = some r := H
  have A6 := Aside0.mk A60
  clear A60
  by_cases c7 : t490 = true
  · subst c7
    have H1 : (if (t482 == t488) = true then ((zone_Names.f k).bind fun t491 => ((almanacref16_Names.f k).bind fun t494 => ((almanacref08_Texts.f k t491 t494).bind fun t497 => (if t497 = true then ((zone_Fit.f a1_0 l1_1).bind fun t498 => ((almanacref16_Fit.f k a1_0 l1_1).bind fun t499 => (if (t498 == t499) = true then ((zone_Same.f k a1_0 l1_1 a2_0 l2_1).bind fun t500 => ((almanacref16_Same.f k a1_0 l1_1 a2_0 l2_1).bind fun t501 => (if (t500 == t501) = true then ((zone_Same.f k a1_0 l1_1 a1_0 l1_1).bind fun t502 => (if t502 = true then ((almanaclaw16_awake.f).bind fun t503 => (some t503)) else (some false))) else (some false)))) else (some false)))) else (some false))))) else (some false)) = some r := by rw [if_pos rfl] at H; exact H
    clear H
    have H := H1
    clear H1
    by_cases c8 : (t482 == t488) = true
    · rw [if_pos c8] at H
      have c8b0 : (t482 == t488) = true := c8
      (try (have c8b1 : decide (t482 = t488) = true := by simpa using c8))
      (try (have c8b2 : (t482 == t488) = true := by simpa using c8))
      clear c8
      replace H := Option.bind_eq_some_iff.mp H
      obtain ⟨t491, A90, H⟩ := H
      replace H : ((almanacref16_Names.f k).bind fun t494 => ((almanacref08_Texts.f k t491 t494).bind fun t497 => (if t497 = true then ((zone_Fit.f a1_0 l1_1).bind fun t498 => ((almanacref16_Fit.f k a1_0 l1_1).bind fun t499 => (if (t498 == t499) = true then ((zone_Same.f k a1_0 l1_1 a2_0 l2_1).bind fun t500 => ((almanacref16_Same.f k a1_0 l1_1 a2_0 l2_1).bind fun t501 => (if (t500 == t501) = true then ((zone_Same.f k a1_0 l1_1 a1_0 l1_1).bind fun t502 => (if t502 = true then ((almanaclaw16_awake.f).bind fun t503 => (some t503)) else (some false))) else (some false)))) else (some false)))) else (some false)))) = some r := H
      have A9 := Aside0.mk A90
      clear A90
      replace H := Option.bind_eq_some_iff.mp H
      obtain ⟨t494, A100, H⟩ := H
      replace H : ((almanacref08_Texts.f k t491 t494).bind fun t497 => (if t497 = true then ((zone_Fit.f a1_0 l1_1).bind fun t498 => ((almanacref16_Fit.f k a1_0 l1_1).bind fun t499 => (if (t498 == t499) = true then ((zone_Same.f k a1_0 l1_1 a2_0 l2_1).bind fun t500 => ((almanacref16_Same.f k a1_0 l1_1 a2_0 l2_1).bind fun t501 => (if (t500 == t501) = true then ((zone_Same.f k a1_0 l1_1 a1_0 l1_1).bind fun t502 => (if t502 = true then ((almanaclaw16_awake.f).bind fun t503 => (some t503)) else (some false))) else (some false)))) else (some false)))) else (some false))) = some r := H
      have A10 := Aside0.mk A100
      clear A100
      replace H := Option.bind_eq_some_iff.mp H
      obtain ⟨t497, A110, H⟩ := H
      replace H : (if t497 = true then ((zone_Fit.f a1_0 l1_1).bind fun t498 => ((almanacref16_Fit.f k a1_0 l1_1).bind fun t499 => (if (t498 == t499) = true then ((zone_Same.f k a1_0 l1_1 a2_0 l2_1).bind fun t500 => ((almanacref16_Same.f k a1_0 l1_1 a2_0 l2_1).bind fun t501 => (if (t500 == t501) = true then ((zone_Same.f k a1_0 l1_1 a1_0 l1_1).bind fun t502 => (if t502 = true then ((almanaclaw16_awake.f).bind fun t503 => (some t503)) else (some false))) else (some false)))) else (some false)))) else (some false)) = some r := H
      have A11 := Aside0.mk A110
      clear A110
      by_cases c12 : t497 = true
      · subst c12
        have H1 : ((zone_Fit.f a1_0 l1_1).bind fun t498 => ((almanacref16_Fit.f k a1_0 l1_1).bind fun t499 => (if (t498 == t499) = true then ((zone_Same.f k a1_0 l1_1 a2_0 l2_1).bind fun t500 => ((almanacref16_Same.f k a1_0 l1_1 a2_0 l2_1).bind fun t501 => (if (t500 == t501) = true then ((zone_Same.f k a1_0 l1_1 a1_0 l1_1).bind fun t502 => (if t502 = true then ((almanaclaw16_awake.f).bind fun t503 => (some t503)) else (some false))) else (some false)))) else (some false)))) = some r := by rw [if_pos rfl] at H; exact H
        clear H
        have H := H1
        clear H1
        replace H := Option.bind_eq_some_iff.mp H
        obtain ⟨t498, A130, H⟩ := H
        replace H : ((almanacref16_Fit.f k a1_0 l1_1).bind fun t499 => (if (t498 == t499) = true then ((zone_Same.f k a1_0 l1_1 a2_0 l2_1).bind fun t500 => ((almanacref16_Same.f k a1_0 l1_1 a2_0 l2_1).bind fun t501 => (if (t500 == t501) = true then ((zone_Same.f k a1_0 l1_1 a1_0 l1_1).bind fun t502 => (if t502 = true then ((almanaclaw16_awake.f).bind fun t503 => (some t503)) else (some false))) else (some false)))) else (some false))) = some r := H
        have A13 := Aside0.mk A130
        clear A130
        replace H := Option.bind_eq_some_iff.mp H
        obtain ⟨t499, A140, H⟩ := H
        replace H : (if (t498 == t499) = true then ((zone_Same.f k a1_0 l1_1 a2_0 l2_1).bind fun t500 => ((almanacref16_Same.f k a1_0 l1_1 a2_0 l2_1).bind fun t501 => (if (t500 == t501) = true then ((zone_Same.f k a1_0 l1_1 a1_0 l1_1).bind fun t502 => (if t502 = true then ((almanaclaw16_awake.f).bind fun t503 => (some t503)) else (some false))) else (some false)))) else (some false)) = some r := H
        have A14 := Aside0.mk A140
        clear A140
        by_cases c15 : (t498 == t499) = true
        · rw [if_pos c15] at H
          have c15b0 : (t498 == t499) = true := c15
          (try (have c15b1 : decide (t498 = t499) = true := by simpa using c15))
          (try (have c15b2 : (t498 == t499) = true := by simpa using c15))
          clear c15
          replace H := Option.bind_eq_some_iff.mp H
          obtain ⟨t500, A160, H⟩ := H
          replace H : ((almanacref16_Same.f k a1_0 l1_1 a2_0 l2_1).bind fun t501 => (if (t500 == t501) = true then ((zone_Same.f k a1_0 l1_1 a1_0 l1_1).bind fun t502 => (if t502 = true then ((almanaclaw16_awake.f).bind fun t503 => (some t503)) else (some false))) else (some false))) = some r := H
          have A16 := Aside0.mk A160
          clear A160
          replace H := Option.bind_eq_some_iff.mp H
          obtain ⟨t501, A170, H⟩ := H
          replace H : (if (t500 == t501) = true then ((zone_Same.f k a1_0 l1_1 a1_0 l1_1).bind fun t502 => (if t502 = true then ((almanaclaw16_awake.f).bind fun t503 => (some t503)) else (some false))) else (some false)) = some r := H
          have A17 := Aside0.mk A170
          clear A170
          by_cases c18 : (t500 == t501) = true
          · rw [if_pos c18] at H
            have c18b0 : (t500 == t501) = true := c18
            (try (have c18b1 : decide (t500 = t501) = true := by simpa using c18))
            (try (have c18b2 : (t500 == t501) = true := by simpa using c18))
            clear c18
            replace H := Option.bind_eq_some_iff.mp H
            obtain ⟨t502, A190, H⟩ := H
            replace H : (if t502 = true then ((almanaclaw16_awake.f).bind fun t503 => (some t503)) else (some false)) = some r := H
            have A19 := Aside0.mk A190
            clear A190
            by_cases c20 : t502 = true
            · subst c20
              have H1 : ((almanaclaw16_awake.f).bind fun t503 => (some t503)) = some r := by rw [if_pos rfl] at H; exact H
              clear H
              have H := H1
              clear H1
              replace H := Option.bind_eq_some_iff.mp H
              obtain ⟨t503, A210, H⟩ := H
              replace H : (some t503) = some r := H
              have A21 := Aside0.mk A210
              clear A210
              obtain rfl := Option.some.inj H
              go_enter Tryz.func5, Tryz.ntmps5
              try go_wp2_with (first | ((with_reducible refine gate_dst (N := 4) rfl ?_); refine box_event ?hg (N := 4) ?hd (cs := #[.string a1_0, .slice A1_1 l1_1.length c1_1]) (t := 24) ?hr ?_; (case hd => rfl); (case hg => rfl); (case hr => first | (go_simp; done) | (go_simp; rfl)); intro gb476 hg w22 hbox hb; have n0_ := Aside0.mk (below_step (by repeat (first | (with_reducible first | exact HB.out | apply below_alloc | apply pw_below_drewN | apply below_drew1) | exact HB.out)) hb); have n1_ := Aside0.mk (hbox); have n2_ := Aside0.mk ((by rw [hg]; exact (below_size (by repeat (first | (with_reducible first | exact HB.out | apply below_alloc | apply pw_below_drewN | apply below_drew1) | exact HB.out))) : w.heap.size ≤ gb476)); have n3_ := Aside0.mk ((by rw [hg]; exact (below_size (by repeat (first | (with_reducible first | exact HB.out | apply below_alloc | apply pw_below_drewN | apply below_drew1) | exact HB.out))) : w.heap.size ≤ gb476)); clear HB; have HB := n0_; have BK476 := n1_; have GW476 := n2_; have GE476 := n3_; clear n0_ n1_ n2_ n3_; clear hb hbox hg) | ((with_reducible refine gate_dst (N := 5) rfl ?_); refine box_event ?hg (N := 5) ?hd (cs := #[.string a2_0, .slice A2_1 l2_1.length c2_1]) (t := 24) ?hr ?_; (case hd => rfl); (case hg => rfl); (case hr => first | (go_simp; done) | (go_simp; rfl)); intro gb477 hg w23 hbox hb; have n0_ := Aside0.mk (blk_below (g := gb476) (o := .cells #[.string a1_0, .slice A1_1 l1_1.length c1_1] 24 (0, 0)) (by (with_reducible repeat (first | refine blk_drewN ?_ _ | refine blk_drew ?_ | refine blk_alloc ?_ _)); exact BK476.out) hb); have n1_ := Aside0.mk (below_step (by repeat (first | (with_reducible first | exact HB.out | apply below_alloc | apply pw_below_drewN | apply below_drew1 | refine below_set ?_ GE476.out) | exact HB.out)) hb); have n2_ := Aside0.mk (hbox); have n3_ := Aside0.mk ((by rw [hg]; exact (below_size (by repeat (first | (with_reducible first | exact HB.out | apply below_alloc | apply pw_below_drewN | apply below_drew1 | refine below_set ?_ GE476.out) | exact HB.out))) : w.heap.size ≤ gb477)); have n4_ := Aside0.mk ((by rw [hg]; exact (below_size (by repeat (first | (with_reducible first | exact HB.out | apply below_alloc | apply pw_below_drewN | apply below_drew1 | refine below_set ?_ GE476.out) | exact HB.out))) : w.heap.size ≤ gb477)); have n5_ := Aside0.mk ((by rw [hg]; exact Nat.ne_of_lt (blk_lt (g := gb476) (o := .cells #[.string a1_0, .slice A1_1 l1_1.length c1_1] 24 (0, 0)) (by (with_reducible repeat (first | refine blk_drewN ?_ _ | refine blk_drew ?_ | refine blk_alloc ?_ _)); exact BK476.out)) : gb476 ≠ gb477)); have n6_ := Aside0.mk ((by rw [hg]; exact Nat.ne_of_gt (blk_lt (g := gb476) (o := .cells #[.string a1_0, .slice A1_1 l1_1.length c1_1] 24 (0, 0)) (by (with_reducible repeat (first | refine blk_drewN ?_ _ | refine blk_drew ?_ | refine blk_alloc ?_ _)); exact BK476.out)) : gb477 ≠ gb476)); clear BK476; clear HB; have BK476 := n0_; have HB := n1_; have BK477 := n2_; have GW477 := n3_; have GE477 := n4_; have NB476_477 := n5_; have NB477_476 := n6_; clear n0_ n1_ n2_ n3_ n4_ n5_ n6_; clear hb hbox hg) | ((with_reducible refine gate_callee (f := 14) rfl ?_); refine goesL_ (some 13) rfl rfl Tryz.func14 (by kernel_rfl) rfl #[.string a0] rfl (by (try simp only [List.map_toArray, List.map_cons, List.map_nil]); first | done | rfl | (simp only [List.length_drop, List.length_take]; rfl)) ?_; (with_reducible refine (zone_Named.calls k a0 t478 t479 t482 _ A4.out (HTab.out.below (by repeat (first | (with_reducible first | exact HB.out | apply below_alloc | apply pw_below_drewN | apply below_drew1) | exact HB.out)))).mono ?_); rintro e w24 ⟨v480, rfl, ho0, hb⟩; refine ⟨_, rfl, ?_⟩; have n0_ := Aside0.mk (Kd.V_lower (Kd.V_mono (ok' := fun k_ => k_ ≠ gb476 ∧ k_ ≠ gb477) ho0 (fun k_ hk_ => ⟨(Kd.freshB (g := gb476) (o := .cells #[.string a1_0, .slice A1_1 l1_1.length c1_1] 24 (0, 0)) (by (with_reducible repeat (first | refine blk_drewN ?_ _ | refine blk_drew ?_ | refine blk_alloc ?_ _)); exact BK476.out) k_ hk_), (Kd.freshB (g := gb477) (o := .cells #[.string a2_0, .slice A2_1 l2_1.length c2_1] 24 (0, 0)) (by (with_reducible repeat (first | refine blk_drewN ?_ _ | refine blk_drew ?_ | refine blk_alloc ?_ _)); exact BK477.out) k_ hk_)⟩)) (below_size (by repeat (first | (with_reducible first | exact HB.out | apply below_alloc | apply pw_below_drewN | apply below_drew1 | refine below_set ?_ GE476.out | refine below_set ?_ GE477.out) | exact HB.out)))); have n1_ := Aside0.mk (blk_below (g := gb476) (o := .cells #[.string a1_0, .slice A1_1 l1_1.length c1_1] 24 (0, 0)) (by (with_reducible repeat (first | refine blk_drewN ?_ _ | refine blk_drew ?_ | refine blk_alloc ?_ _)); exact BK476.out) hb); have n2_ := Aside0.mk (blk_below (g := gb477) (o := .cells #[.string a2_0, .slice A2_1 l2_1.length c2_1] 24 (0, 0)) (by (with_reducible repeat (first | refine blk_drewN ?_ _ | refine blk_drew ?_ | refine blk_alloc ?_ _)); exact BK477.out) hb); have n3_ := Aside0.mk (below_step (by repeat (first | (with_reducible first | exact HB.out | apply below_alloc | apply pw_below_drewN | apply below_drew1 | refine below_set ?_ GE476.out | refine below_set ?_ GE477.out) | exact HB.out)) hb); clear BK476; clear BK477; clear HB; have HO481 := n0_; have BK476 := n1_; have BK477 := n2_; have HB := n3_; clear n0_ n1_ n2_ n3_; (try clear hb); (try clear hb2); (try clear hk); (try clear hi); (try clear ho0)) | ((with_reducible refine gate_dst (N := 7) rfl ?_); refine box_event ?hg (N := 7) ?hd (cs := #[.string (⟨#[]⟩ : ByteArray), .slice none 0 0]) (t := 24) ?hr ?_; (case hd => rfl); (case hg => rfl); (case hr => first | (go_simp; done) | (go_simp; rfl)); intro gb483 hg w25 hbox hb; have n0_ := Aside0.mk (Kd.V_below (Kd.V_elderB (by (with_reducible repeat (first | apply Kd.V_alloc | apply Kd.V_drewN | apply Kd.V_drew)); exact HO481.out) gb483 (Nat.le_of_eq hg.symm)) hb); have n1_ := Aside0.mk (blk_below (g := gb476) (o := .cells #[.string a1_0, .slice A1_1 l1_1.length c1_1] 24 (0, 0)) (by (with_reducible repeat (first | refine blk_drewN ?_ _ | refine blk_drew ?_ | refine blk_alloc ?_ _)); exact BK476.out) hb); have n2_ := Aside0.mk (blk_below (g := gb477) (o := .cells #[.string a2_0, .slice A2_1 l2_1.length c2_1] 24 (0, 0)) (by (with_reducible repeat (first | refine blk_drewN ?_ _ | refine blk_drew ?_ | refine blk_alloc ?_ _)); exact BK477.out) hb); have n3_ := Aside0.mk (below_step (by repeat (first | (with_reducible first | exact HB.out | apply below_alloc | apply pw_below_drewN | apply below_drew1 | refine below_set ?_ GE476.out | refine below_set ?_ GE477.out) | exact HB.out)) hb); have n4_ := Aside0.mk (hbox); have n5_ := Aside0.mk ((by rw [hg]; exact (below_size (by repeat (first | (with_reducible first | exact HB.out | apply below_alloc | apply pw_below_drewN | apply below_drew1 | refine below_set ?_ GE476.out | refine below_set ?_ GE477.out) | exact HB.out))) : w.heap.size ≤ gb483)); have n6_ := Aside0.mk ((by rw [hg]; exact (below_size (by repeat (first | (with_reducible first | exact HB.out | apply below_alloc | apply pw_below_drewN | apply below_drew1 | refine below_set ?_ GE476.out | refine below_set ?_ GE477.out) | exact HB.out))) : w.heap.size ≤ gb483)); have n7_ := Aside0.mk ((by rw [hg]; exact Nat.ne_of_lt (blk_lt (g := gb476) (o := .cells #[.string a1_0, .slice A1_1 l1_1.length c1_1] 24 (0, 0)) (by (with_reducible repeat (first | refine blk_drewN ?_ _ | refine blk_drew ?_ | refine blk_alloc ?_ _)); exact BK476.out)) : gb476 ≠ gb483)); have n8_ := Aside0.mk ((by rw [hg]; exact Nat.ne_of_gt (blk_lt (g := gb476) (o := .cells #[.string a1_0, .slice A1_1 l1_1.length c1_1] 24 (0, 0)) (by (with_reducible repeat (first | refine blk_drewN ?_ _ | refine blk_drew ?_ | refine blk_alloc ?_ _)); exact BK476.out)) : gb483 ≠ gb476)); have n9_ := Aside0.mk ((by rw [hg]; exact Nat.ne_of_lt (blk_lt (g := gb477) (o := .cells #[.string a2_0, .slice A2_1 l2_1.length c2_1] 24 (0, 0)) (by (with_reducible repeat (first | refine blk_drewN ?_ _ | refine blk_drew ?_ | refine blk_alloc ?_ _)); exact BK477.out)) : gb477 ≠ gb483)); have n10_ := Aside0.mk ((by rw [hg]; exact Nat.ne_of_gt (blk_lt (g := gb477) (o := .cells #[.string a2_0, .slice A2_1 l2_1.length c2_1] 24 (0, 0)) (by (with_reducible repeat (first | refine blk_drewN ?_ _ | refine blk_drew ?_ | refine blk_alloc ?_ _)); exact BK477.out)) : gb483 ≠ gb477)); clear HO481; clear BK476; clear BK477; clear HB; have HO481 := n0_; have BK476 := n1_; have BK477 := n2_; have HB := n3_; have BK483 := n4_; have GW483 := n5_; have GE483 := n6_; have NB476_483 := n7_; have NB483_476 := n8_; have NB477_483 := n9_; have NB483_477 := n10_; clear n0_ n1_ n2_ n3_ n4_ n5_ n6_ n7_ n8_ n9_ n10_; clear hb hbox hg; have hnb26 := NB483_476.out; have hnc26 := NB476_483.out; have hnb27 := NB483_477.out; have hnc27 := NB477_483.out; have hcz28_0 : w25.cell? ⟨gb483, 0, none⟩ = some (.string (⟨#[]⟩ : ByteArray)) := (blk_cell BK483.out 0).trans rfl; have hcz28_1 : w25.cell? ⟨gb483, 1, none⟩ = some (.slice none 0 0) := (blk_cell BK483.out 1).trans rfl; have hfz28_0 := blk_frozen BK483.out 0; have hfz28_1 := blk_frozen BK483.out 1; obtain ⟨Ao29, co29, eo29⟩ := Kd.V_slice HO481.out; subst eo29) | ((with_reducible refine gate_callee (f := 15) rfl ?_); refine goesL_ (some 18) rfl rfl Tryz.func15 (by kernel_rfl) rfl #[.string a0] rfl (by (try simp only [List.map_toArray, List.map_cons, List.map_nil]); first | done | rfl | (simp only [List.length_drop, List.length_take]; rfl)) ?_; (with_reducible refine (almanacref16_Named.calls k a0 t484 t485 t488 _ A5.out).mono ?_); rintro e w30 ⟨v486, rfl, ho0, hb⟩; refine ⟨_, rfl, ?_⟩; have n0_ := Aside0.mk (Kd.V_below (by (with_reducible repeat (first | apply Kd.V_alloc | apply Kd.V_drewN | apply Kd.V_drew)); exact (Kd.V_mono (Kd.V_far (p := ⟨gb483, 1, none⟩) (Kd.V_far (p := ⟨gb483, 0, none⟩) (Kd.V_mono HO481.out (fun k_ hk => (⟨hk, hk.2⟩ : _ ∧ k_ ≠ gb483))) (fun _ hk => hk.2) (.string t478)) (fun _ hk => hk.2) (.slice Ao29 t479.length co29)) (fun _ h_ => h_.1))) hb); have n1_ := Aside0.mk (Kd.V_lower (Kd.V_mono (ok' := fun k_ => k_ ≠ gb476 ∧ k_ ≠ gb477 ∧ k_ ≠ gb483) ho0 (fun k_ hk_ => ⟨(Kd.freshB (g := gb476) (o := .cells #[.string a1_0, .slice A1_1 l1_1.length c1_1] 24 (0, 0)) (by (with_reducible repeat (first | refine blk_drewN ?_ _ | refine blk_drew ?_ | refine blk_alloc ?_ _)); refine blk_far ?_ NB476_483.out _; (with_reducible repeat (first | refine blk_drewN ?_ _ | refine blk_drew ?_ | refine blk_alloc ?_ _)); refine blk_far ?_ NB476_483.out _; (with_reducible repeat (first | refine blk_drewN ?_ _ | refine blk_drew ?_ | refine blk_alloc ?_ _)); exact BK476.out) k_ hk_), (Kd.freshB (g := gb477) (o := .cells #[.string a2_0, .slice A2_1 l2_1.length c2_1] 24 (0, 0)) (by (with_reducible repeat (first | refine blk_drewN ?_ _ | refine blk_drew ?_ | refine blk_alloc ?_ _)); refine blk_far ?_ NB477_483.out _; (with_reducible repeat (first | refine blk_drewN ?_ _ | refine blk_drew ?_ | refine blk_alloc ?_ _)); refine blk_far ?_ NB477_483.out _; (with_reducible repeat (first | refine blk_drewN ?_ _ | refine blk_drew ?_ | refine blk_alloc ?_ _)); exact BK477.out) k_ hk_), (Kd.freshB (g := gb483) (o := .cells #[.string t478, .slice Ao29 t479.length co29] 24 (0, 0)) (by (with_reducible repeat (first | refine blk_drewN ?_ _ | refine blk_drew ?_ | refine blk_alloc ?_ _)); refine blk_put (cs := #[.string t478, .slice none 0 0]) ?_ 1 _ rfl; (with_reducible repeat (first | refine blk_drewN ?_ _ | refine blk_drew ?_ | refine blk_alloc ?_ _)); refine blk_put (cs := #[.string (⟨#[]⟩ : ByteArray), .slice none 0 0]) ?_ 0 _ rfl; (with_reducible repeat (first | refine blk_drewN ?_ _ | refine blk_drew ?_ | refine blk_alloc ?_ _)); exact BK483.out) k_ hk_)⟩)) (below_size (by repeat (first | (with_reducible first | exact HB.out | apply below_alloc | apply pw_below_drewN | apply below_drew1 | refine below_set ?_ GE476.out | refine below_set ?_ GE477.out | refine below_set ?_ GE483.out) | exact HB.out)))); have n2_ := Aside0.mk (blk_below (g := gb476) (o := .cells #[.string a1_0, .slice A1_1 l1_1.length c1_1] 24 (0, 0)) (by (with_reducible repeat (first | refine blk_drewN ?_ _ | refine blk_drew ?_ | refine blk_alloc ?_ _)); refine blk_far ?_ NB476_483.out _; (with_reducible repeat (first | refine blk_drewN ?_ _ | refine blk_drew ?_ | refine blk_alloc ?_ _)); refine blk_far ?_ NB476_483.out _; (with_reducible repeat (first | refine blk_drewN ?_ _ | refine blk_drew ?_ | refine blk_alloc ?_ _)); exact BK476.out) hb); have n3_ := Aside0.mk (blk_below (g := gb477) (o := .cells #[.string a2_0, .slice A2_1 l2_1.length c2_1] 24 (0, 0)) (by (with_reducible repeat (first | refine blk_drewN ?_ _ | refine blk_drew ?_ | refine blk_alloc ?_ _)); refine blk_far ?_ NB477_483.out _; (with_reducible repeat (first | refine blk_drewN ?_ _ | refine blk_drew ?_ | refine blk_alloc ?_ _)); refine blk_far ?_ NB477_483.out _; (with_reducible repeat (first | refine blk_drewN ?_ _ | refine blk_drew ?_ | refine blk_alloc ?_ _)); exact BK477.out) hb); have n4_ := Aside0.mk (blk_below (g := gb483) (o := .cells #[.string t478, .slice Ao29 t479.length co29] 24 (0, 0)) (by (with_reducible repeat (first | refine blk_drewN ?_ _ | refine blk_drew ?_ | refine blk_alloc ?_ _)); refine blk_put (cs := #[.string t478, .slice none 0 0]) ?_ 1 _ rfl; (with_reducible repeat (first | refine blk_drewN ?_ _ | refine blk_drew ?_ | refine blk_alloc ?_ _)); refine blk_put (cs := #[.string (⟨#[]⟩ : ByteArray), .slice none 0 0]) ?_ 0 _ rfl; (with_reducible repeat (first | refine blk_drewN ?_ _ | refine blk_drew ?_ | refine blk_alloc ?_ _)); exact BK483.out) hb); have n5_ := Aside0.mk (below_step (by repeat (first | (with_reducible first | exact HB.out | apply below_alloc | apply pw_below_drewN | apply below_drew1 | refine below_set ?_ GE476.out | refine below_set ?_ GE477.out | refine below_set ?_ GE483.out) | exact HB.out)) hb); clear HO481; clear BK476; clear BK477; clear BK483; clear HB; have HO481 := n0_; have HO487 := n1_; have BK476 := n2_; have BK477 := n3_; have BK483 := n4_; have HB := n5_; clear n0_ n1_ n2_ n3_ n4_ n5_; (try clear hb); (try clear hb2); (try clear hk); (try clear hi); (try clear ho0)) | ((with_reducible refine gate_dst (N := 9) rfl ?_); refine box_event ?hg (N := 9) ?hd (cs := #[.string (⟨#[]⟩ : ByteArray), .slice none 0 0]) (t := 24) ?hr ?_; (case hd => rfl); (case hg => rfl); (case hr => first | (go_simp; done) | (go_simp; rfl)); intro gb489 hg w31 hbox hb; have n0_ := Aside0.mk (Kd.V_below (Kd.V_elderB (by (with_reducible repeat (first | apply Kd.V_alloc | apply Kd.V_drewN | apply Kd.V_drew)); exact HO481.out) gb489 (Nat.le_of_eq hg.symm)) hb); have n1_ := Aside0.mk (Kd.V_below (Kd.V_elderB (by (with_reducible repeat (first | apply Kd.V_alloc | apply Kd.V_drewN | apply Kd.V_drew)); exact HO487.out) gb489 (Nat.le_of_eq hg.symm)) hb); have n2_ := Aside0.mk (blk_below (g := gb476) (o := .cells #[.string a1_0, .slice A1_1 l1_1.length c1_1] 24 (0, 0)) (by (with_reducible repeat (first | refine blk_drewN ?_ _ | refine blk_drew ?_ | refine blk_alloc ?_ _)); exact BK476.out) hb); have n3_ := Aside0.mk (blk_below (g := gb477) (o := .cells #[.string a2_0, .slice A2_1 l2_1.length c2_1] 24 (0, 0)) (by (with_reducible repeat (first | refine blk_drewN ?_ _ | refine blk_drew ?_ | refine blk_alloc ?_ _)); exact BK477.out) hb); have n4_ := Aside0.mk (blk_below (g := gb483) (o := .cells #[.string t478, .slice Ao29 t479.length co29] 24 (0, 0)) (by (with_reducible repeat (first | refine blk_drewN ?_ _ | refine blk_drew ?_ | refine blk_alloc ?_ _)); exact BK483.out) hb); have n5_ := Aside0.mk (below_step (by repeat (first | (with_reducible first | exact HB.out | apply below_alloc | apply pw_below_drewN | apply below_drew1 | refine below_set ?_ GE476.out | refine below_set ?_ GE477.out | refine below_set ?_ GE483.out) | exact HB.out)) hb); have n6_ := Aside0.mk (hbox); have n7_ := Aside0.mk ((by rw [hg]; exact (below_size (by repeat (first | (with_reducible first | exact HB.out | apply below_alloc | apply pw_below_drewN | apply below_drew1 | refine below_set ?_ GE476.out | refine below_set ?_ GE477.out | refine below_set ?_ GE483.out) | exact HB.out))) : w.heap.size ≤ gb489)); have n8_ := Aside0.mk ((by rw [hg]; exact (below_size (by repeat (first | (with_reducible first | exact HB.out | apply below_alloc | apply pw_below_drewN | apply below_drew1 | refine below_set ?_ GE476.out | refine below_set ?_ GE477.out | refine below_set ?_ GE483.out) | exact HB.out))) : w.heap.size ≤ gb489)); have n9_ := Aside0.mk ((by rw [hg]; exact Nat.ne_of_lt (blk_lt (g := gb476) (o := .cells #[.string a1_0, .slice A1_1 l1_1.length c1_1] 24 (0, 0)) (by (with_reducible repeat (first | refine blk_drewN ?_ _ | refine blk_drew ?_ | refine blk_alloc ?_ _)); exact BK476.out)) : gb476 ≠ gb489)); have n10_ := Aside0.mk ((by rw [hg]; exact Nat.ne_of_gt (blk_lt (g := gb476) (o := .cells #[.string a1_0, .slice A1_1 l1_1.length c1_1] 24 (0, 0)) (by (with_reducible repeat (first | refine blk_drewN ?_ _ | refine blk_drew ?_ | refine blk_alloc ?_ _)); exact BK476.out)) : gb489 ≠ gb476)); have n11_ := Aside0.mk ((by rw [hg]; exact Nat.ne_of_lt (blk_lt (g := gb477) (o := .cells #[.string a2_0, .slice A2_1 l2_1.length c2_1] 24 (0, 0)) (by (with_reducible repeat (first | refine blk_drewN ?_ _ | refine blk_drew ?_ | refine blk_alloc ?_ _)); exact BK477.out)) : gb477 ≠ gb489)); have n12_ := Aside0.mk ((by rw [hg]; exact Nat.ne_of_gt (blk_lt (g := gb477) (o := .cells #[.string a2_0, .slice A2_1 l2_1.length c2_1] 24 (0, 0)) (by (with_reducible repeat (first | refine blk_drewN ?_ _ | refine blk_drew ?_ | refine blk_alloc ?_ _)); exact BK477.out)) : gb489 ≠ gb477)); have n13_ := Aside0.mk ((by rw [hg]; exact Nat.ne_of_lt (blk_lt (g := gb483) (o := .cells #[.string t478, .slice Ao29 t479.length co29] 24 (0, 0)) (by (with_reducible repeat (first | refine blk_drewN ?_ _ | refine blk_drew ?_ | refine blk_alloc ?_ _)); exact BK483.out)) : gb483 ≠ gb489)); have n14_ := Aside0.mk ((by rw [hg]; exact Nat.ne_of_gt (blk_lt (g := gb483) (o := .cells #[.string t478, .slice Ao29 t479.length co29] 24 (0, 0)) (by (with_reducible repeat (first | refine blk_drewN ?_ _ | refine blk_drew ?_ | refine blk_alloc ?_ _)); exact BK483.out)) : gb489 ≠ gb483)); clear HO481; clear HO487; clear BK476; clear BK477; clear BK483; clear HB; have HO481 := n0_; have HO487 := n1_; have BK476 := n2_; have BK477 := n3_; have BK483 := n4_; have HB := n5_; have BK489 := n6_; have GW489 := n7_; have GE489 := n8_; have NB476_489 := n9_; have NB489_476 := n10_; have NB477_489 := n11_; have NB489_477 := n12_; have NB483_489 := n13_; have NB489_483 := n14_; clear n0_ n1_ n2_ n3_ n4_ n5_ n6_ n7_ n8_ n9_ n10_ n11_ n12_ n13_ n14_; clear hb hbox hg; have hnb32 := NB489_476.out; have hnc32 := NB476_489.out; have hnb33 := NB489_477.out; have hnc33 := NB477_489.out; have hnb34 := NB489_483.out; have hnc34 := NB483_489.out; have hcz35_0 : w31.cell? ⟨gb489, 0, none⟩ = some (.string (⟨#[]⟩ : ByteArray)) := (blk_cell BK489.out 0).trans rfl; have hcz35_1 : w31.cell? ⟨gb489, 1, none⟩ = some (.slice none 0 0) := (blk_cell BK489.out 1).trans rfl; have hfz35_0 := blk_frozen BK489.out 0; have hfz35_1 := blk_frozen BK489.out 1; obtain ⟨Ao36, co36, eo36⟩ := Kd.V_slice HO487.out; subst eo36))
              have n0_ : Aside0 (Kd.V k32 32 ((w31.setCell ⟨gb489, 0, none⟩ (.string t484)).setCell ⟨gb489, 1, none⟩ (.slice Ao36 t485.length co36)) w.heap.size (fun k_ => k_ ≠ gb476 ∧ k_ ≠ gb477 ∧ k_ ≠ gb483 ∧ k_ ≠ gb489) (.slice Ao29 t479.length co29) t479) := ⟨by (with_reducible repeat (first | apply Kd.V_alloc | apply Kd.V_drewN | apply Kd.V_drew)); exact Kd.V_mono (Kd.V_far (p := ⟨gb489, 1, none⟩) (Kd.V_far (p := ⟨gb489, 0, none⟩) (Kd.V_mono HO481.out (fun k_ hk => (⟨hk, hk.2⟩ : _ ∧ k_ ≠ gb489))) (fun _ hk => hk.2) (.string t484)) (fun _ hk => hk.2) (.slice Ao36 t485.length co36)) (fun _ hk => ⟨hk.1.1.1.1, ⟨hk.1.1.1.2, ⟨hk.1.1.2, hk.1.2⟩⟩⟩)⟩
              have n1_ : Aside0 (Kd.V k32 32 ((w31.setCell ⟨gb489, 0, none⟩ (.string t484)).setCell ⟨gb489, 1, none⟩ (.slice Ao36 t485.length co36)) w.heap.size (fun k_ => k_ ≠ gb476 ∧ k_ ≠ gb477 ∧ k_ ≠ gb483 ∧ k_ ≠ gb489) (.slice Ao36 t485.length co36) t485) := ⟨by (with_reducible repeat (first | apply Kd.V_alloc | apply Kd.V_drewN | apply Kd.V_drew)); exact Kd.V_mono (Kd.V_far (p := ⟨gb489, 1, none⟩) (Kd.V_far (p := ⟨gb489, 0, none⟩) (Kd.V_mono HO487.out (fun k_ hk => (⟨hk, hk.2⟩ : _ ∧ k_ ≠ gb489))) (fun _ hk => hk.2) (.string t484)) (fun _ hk => hk.2) (.slice Ao36 t485.length co36)) (fun _ hk => ⟨hk.1.1.1, ⟨hk.1.1.2.1, ⟨hk.1.1.2.2, hk.1.2⟩⟩⟩)⟩
              have n2_ : Aside0 (((w31.setCell ⟨gb489, 0, none⟩ (.string t484)).setCell ⟨gb489, 1, none⟩ (.slice Ao36 t485.length co36)).heap[gb476]? = some (.cells #[.string a1_0, .slice A1_1 l1_1.length c1_1] 24 (0, 0))) := ⟨by (with_reducible repeat (first | refine blk_drewN ?_ _ | refine blk_drew ?_ | refine blk_alloc ?_ _)); refine blk_far ?_ NB476_489.out _; (with_reducible repeat (first | refine blk_drewN ?_ _ | refine blk_drew ?_ | refine blk_alloc ?_ _)); refine blk_far ?_ NB476_489.out _; (with_reducible repeat (first | refine blk_drewN ?_ _ | refine blk_drew ?_ | refine blk_alloc ?_ _)); exact BK476.out⟩
              have n3_ : Aside0 (((w31.setCell ⟨gb489, 0, none⟩ (.string t484)).setCell ⟨gb489, 1, none⟩ (.slice Ao36 t485.length co36)).heap[gb477]? = some (.cells #[.string a2_0, .slice A2_1 l2_1.length c2_1] 24 (0, 0))) := ⟨by (with_reducible repeat (first | refine blk_drewN ?_ _ | refine blk_drew ?_ | refine blk_alloc ?_ _)); refine blk_far ?_ NB477_489.out _; (with_reducible repeat (first | refine blk_drewN ?_ _ | refine blk_drew ?_ | refine blk_alloc ?_ _)); refine blk_far ?_ NB477_489.out _; (with_reducible repeat (first | refine blk_drewN ?_ _ | refine blk_drew ?_ | refine blk_alloc ?_ _)); exact BK477.out⟩
              have n4_ : Aside0 (((w31.setCell ⟨gb489, 0, none⟩ (.string t484)).setCell ⟨gb489, 1, none⟩ (.slice Ao36 t485.length co36)).heap[gb483]? = some (.cells #[.string t478, .slice Ao29 t479.length co29] 24 (0, 0))) := ⟨by (with_reducible repeat (first | refine blk_drewN ?_ _ | refine blk_drew ?_ | refine blk_alloc ?_ _)); refine blk_far ?_ NB483_489.out _; (with_reducible repeat (first | refine blk_drewN ?_ _ | refine blk_drew ?_ | refine blk_alloc ?_ _)); refine blk_far ?_ NB483_489.out _; (with_reducible repeat (first | refine blk_drewN ?_ _ | refine blk_drew ?_ | refine blk_alloc ?_ _)); exact BK483.out⟩
              have n5_ : Aside0 (((w31.setCell ⟨gb489, 0, none⟩ (.string t484)).setCell ⟨gb489, 1, none⟩ (.slice Ao36 t485.length co36)).heap[gb489]? = some (.cells #[.string t484, .slice Ao36 t485.length co36] 24 (0, 0))) := ⟨by (with_reducible repeat (first | refine blk_drewN ?_ _ | refine blk_drew ?_ | refine blk_alloc ?_ _)); refine blk_put (cs := #[.string t484, .slice none 0 0]) ?_ 1 _ rfl; (with_reducible repeat (first | refine blk_drewN ?_ _ | refine blk_drew ?_ | refine blk_alloc ?_ _)); refine blk_put (cs := #[.string (⟨#[]⟩ : ByteArray), .slice none 0 0]) ?_ 0 _ rfl; (with_reducible repeat (first | refine blk_drewN ?_ _ | refine blk_drew ?_ | refine blk_alloc ?_ _)); exact BK489.out⟩
              have n6_ : Aside0 (Below w.heap.size w ((w31.setCell ⟨gb489, 0, none⟩ (.string t484)).setCell ⟨gb489, 1, none⟩ (.slice Ao36 t485.length co36))) := ⟨by repeat (first | (with_reducible first | exact HB.out | apply below_alloc | apply pw_below_drewN | apply below_drew1 | refine below_set ?_ GE476.out | refine below_set ?_ GE477.out | refine below_set ?_ GE483.out | refine below_set ?_ GE489.out) | exact HB.out)⟩
              (try clear HO481)
              (try clear HO487)
              (try clear BK476)
              (try clear BK477)
              (try clear BK483)
              (try clear BK489)
              (try clear HB)
              generalize ((w31.setCell ⟨gb489, 0, none⟩ (.string t484)).setCell ⟨gb489, 1, none⟩ (.slice Ao36 t485.length co36)) = w37 at n0_ n1_ n2_ n3_ n4_ n5_ n6_ ⊢
              have HO481 := n0_
              have HO487 := n1_
              have BK476 := n2_
              have BK477 := n3_
              have BK483 := n4_
              have BK489 := n5_
              have HB := n6_
              clear n0_ n1_ n2_ n3_ n4_ n5_ n6_
              have n0_ := Aside0.mk (Kd.V_drew HO481.out)
              have n1_ := Aside0.mk (Kd.V_drew HO487.out)
              have n2_ := Aside0.mk (blk_drew BK476.out)
              have n3_ := Aside0.mk (blk_drew BK477.out)
              have n4_ := Aside0.mk (blk_drew BK483.out)
              have n5_ := Aside0.mk (blk_drew BK489.out)
              have n6_ := Aside0.mk (below_drew1 HB.out)
              clear HO481
              clear HO487
              clear BK476
              clear BK477
              clear BK483
              clear BK489
              clear HB
              have HO481 := n0_
              have HO487 := n1_
              have BK476 := n2_
              have BK477 := n3_
              have BK483 := n4_
              have BK489 := n5_
              have HB := n6_
              clear n0_ n1_ n2_ n3_ n4_ n5_ n6_
              refine start_ (n := 38) (S := fun w' => w'.cell? ⟨gb483, 0, none⟩ = some (.string t478) ∧ w'.cell? ⟨gb483, 1, none⟩ = some (.slice Ao29 t479.length co29) ∧ w'.cell? ⟨gb489, 0, none⟩ = some (.string t484) ∧ w'.cell? ⟨gb489, 1, none⟩ = some (.slice Ao36 t485.length co36) ∧ w'.cell? ⟨gb476, 0, none⟩ = some (.string a1_0) ∧ w'.cell? ⟨gb476, 1, none⟩ = some (.slice A1_1 l1_1.length c1_1) ∧ w'.cell? ⟨gb477, 0, none⟩ = some (.string a2_0) ∧ w'.cell? ⟨gb477, 1, none⟩ = some (.slice A2_1 l2_1.length c2_1)) (ds := []) #[false, false, false, false, false, false, false, false, false, false, false, false, false, false, false, false, false, false, false, false, false, false, false, false, false, false, false, false, false, false, false, false, false, false, false, false, false, false] (by kernel_rfl) rfl rfl ⟨(blk_cell BK483.out 0).trans rfl, (blk_cell BK483.out 1).trans rfl, (blk_cell BK489.out 0).trans rfl, (blk_cell BK489.out 1).trans rfl, (blk_cell BK476.out 0).trans rfl, (blk_cell BK476.out 1).trans rfl, (blk_cell BK477.out 0).trans rfl, (blk_cell BK477.out 1).trans rfl⟩ (fun hHeld => ?_); refine with_tabW almanaclaw16_ZoneKnows.tab3 almanaclaw16_ZoneKnows.bits3 (fun HT_ HW_ => ?_)
              generalize w37.drew = w38 at HO481 HO487 BK476 BK477 BK483 BK489 HB hHeld ⊢
              refine take_ (i := 0) (N := some 21) (v := ?_) (a' := ?_) #[true, false, false, false, false, false, false, false, false, false, false, false, false, false, false, false, false, false, false, false, false, false, false, false, false, false, false, false, false, false, false, false, false, false, false, false, false, false] rfl rfl (take_ofW HT_.out HW_.out (by kernel_rfl)) (fun _ _ _ h => h) (Or.inl ⟨by rfl, ?_⟩) hHeld ?_ ?_
              rotate_left
              · rintro w' ⟨s0, s1, s2, s3, s4, s5, s6, s7⟩
                go_simp
                with_reducible rfl
              rotate_left
              · simp only [Act.put, List.setIfInBounds_toArray, List.set_cons_zero, List.set_cons_succ, i64_w, i32_w]
                rfl
              refine take_ (i := 1) (N := some 22) (v := ?_) (a' := ?_) #[true, true, false, false, false, false, false, false, false, false, false, false, false, false, false, false, false, false, false, false, false, false, false, false, false, false, false, false, false, false, false, false, false, false, false, false, false, false] rfl rfl (take_ofW HT_.out HW_.out (by kernel_rfl)) (fun _ _ _ h => h) (Or.inl ⟨by rfl, ?_⟩) hHeld ?_ ?_
              rotate_left
              · rintro w' ⟨s0, s1, s2, s3, s4, s5, s6, s7⟩
                go_simp
                with_reducible rfl
              rotate_left
              · simp only [Act.put, List.setIfInBounds_toArray, List.set_cons_zero, List.set_cons_succ, i64_w, i32_w]
                rfl
              refine one_ (i := 2) (N := some 23) #[true, true, true, false, false, false, false, false, false, false, false, false, false, false, false, false, false, false, false, false, false, false, false, false, false, false, false, false, false, false, false, false, false, false, false, false, false, false] rfl rfl (one_of HT_.out (by kernel_rfl)) (by decide) (fun K hK => ?_)
              refine goes_ Tryz.func16 (by kernel_rfl) rfl #[.agg #[.string t478, .slice Ao29 t479.length co29], .agg #[.string t484, .slice Ao36 t485.length co36]] (by rfl) rfl rfl (by (try simp only [List.map_toArray, List.map_cons, List.map_nil]); first | done | rfl | (simp only [List.length_drop, List.length_take]; rfl)) ?_
              with_reducible refine (almanacref16_Same.calls k t478 _ _ t479 t484 _ _ t485 true _ ?side1 ?side2 ?side3 ?side4 A6.out).mono ?_
              (case side1 => repeat (first | exact (Kd.V_reads' HO481.out).2.2 | (with_reducible refine Kd.C_alloc ?_ _) | (with_reducible refine Kd.C_drewN ?_ _) | (with_reducible refine Kd.C_drew ?_)))
              (case side2 => exact (Kd.V_reads' HO481.out).2.1)
              (case side3 => repeat (first | exact (Kd.V_reads' HO487.out).2.2 | (with_reducible refine Kd.C_alloc ?_ _) | (with_reducible refine Kd.C_drewN ?_ _) | (with_reducible refine Kd.C_drew ?_)))
              (case side4 => exact (Kd.V_reads' HO487.out).2.1)
              rintro e w39 ⟨rfl, hb⟩
              refine ⟨_, rfl, ?_⟩
              have n0_ := Aside0.mk (Kd.V_below (by (with_reducible repeat (first | apply Kd.V_alloc | apply Kd.V_drewN | apply Kd.V_drew)); exact HO481.out) hb)
              have n1_ := Aside0.mk (Kd.V_below (by (with_reducible repeat (first | apply Kd.V_alloc | apply Kd.V_drewN | apply Kd.V_drew)); exact HO487.out) hb)
              have n2_ := Aside0.mk (blk_below (g := gb476) (o := .cells #[.string a1_0, .slice A1_1 l1_1.length c1_1] 24 (0, 0)) (by (with_reducible repeat (first | refine blk_drewN ?_ _ | refine blk_drew ?_ | refine blk_alloc ?_ _)); exact BK476.out) hb)
              have n3_ := Aside0.mk (blk_below (g := gb477) (o := .cells #[.string a2_0, .slice A2_1 l2_1.length c2_1] 24 (0, 0)) (by (with_reducible repeat (first | refine blk_drewN ?_ _ | refine blk_drew ?_ | refine blk_alloc ?_ _)); exact BK477.out) hb)
              have n4_ := Aside0.mk (blk_below (g := gb483) (o := .cells #[.string t478, .slice Ao29 t479.length co29] 24 (0, 0)) (by (with_reducible repeat (first | refine blk_drewN ?_ _ | refine blk_drew ?_ | refine blk_alloc ?_ _)); exact BK483.out) hb)
              have n5_ := Aside0.mk (blk_below (g := gb489) (o := .cells #[.string t484, .slice Ao36 t485.length co36] 24 (0, 0)) (by (with_reducible repeat (first | refine blk_drewN ?_ _ | refine blk_drew ?_ | refine blk_alloc ?_ _)); exact BK489.out) hb)
              have n6_ := Aside0.mk (below_step (by repeat (first | (with_reducible first | exact HB.out | apply below_alloc | apply pw_below_drewN | apply below_drew1 | refine below_set ?_ GE476.out | refine below_set ?_ GE477.out | refine below_set ?_ GE483.out | refine below_set ?_ GE489.out) | exact HB.out)) hb)
              clear HO481
              clear HO487
              clear BK476
              clear BK477
              clear BK483
              clear BK489
              clear HB
              have HO481 := n0_
              have HO487 := n1_
              have BK476 := n2_
              have BK477 := n3_
              have BK483 := n4_
              have BK489 := n5_
              have HB := n6_
              clear n0_ n1_ n2_ n3_ n4_ n5_ n6_
              (try clear hb)
              (try clear hb2)
              (try clear hk)
              (try clear hi)
              refine hK.out _ _ ⟨(blk_cell BK483.out 0).trans rfl, (blk_cell BK483.out 1).trans rfl, (blk_cell BK489.out 0).trans rfl, (blk_cell BK489.out 1).trans rfl, (blk_cell BK476.out 0).trans rfl, (blk_cell BK476.out 1).trans rfl, (blk_cell BK477.out 0).trans rfl, (blk_cell BK477.out 1).trans rfl⟩ (fun hHeld => ?_)
              clear hK K
              refine norm_ (a' := ?_) ?_ ?_
              rotate_left
              · show Act.put _ (some 23) _ = _
                simp only [Act.put, List.setIfInBounds_toArray, List.set_cons_zero, List.set_cons_succ, i64_w, i32_w]
                rfl
              refine pure_ (i := 3) (N := some 24) (v := ?_) (a' := ?_) #[true, true, true, true, false, false, false, false, false, false, false, false, false, false, false, false, false, false, false, false, false, false, false, false, false, false, false, false, false, false, false, false, false, false, false, false, false, false] rfl rfl (any_of HT_.out (by kernel_rfl)) (fun _ _ _ h => h) (Or.inl ⟨by rfl, ?_⟩) ?_ ?_
              rotate_left
              · intro w'
                go_simp
                with_reducible rfl
              rotate_left
              · simp only [Act.put, List.setIfInBounds_toArray, List.set_cons_zero, List.set_cons_succ, i64_w, i32_w]
                rfl
              refine pure_ (i := 4) (N := some 25) (v := ?_) (a' := ?_) #[true, true, true, true, true, false, false, false, false, false, false, false, false, false, false, false, false, false, false, false, false, false, false, false, false, false, false, false, false, false, false, false, false, false, false, false, false, false] rfl rfl (any_of HT_.out (by kernel_rfl)) (fun _ _ _ h => h) (Or.inl ⟨by rfl, ?_⟩) ?_ ?_
              rotate_left
              · intro w'
                go_simp
                with_reducible rfl
              rotate_left
              · simp only [Act.put, List.setIfInBounds_toArray, List.set_cons_zero, List.set_cons_succ, i64_w, i32_w]
                rfl
              refine pure_ (i := 5) (N := some 26) (v := ?_) (a' := ?_) #[true, true, true, true, true, true, false, false, false, false, false, false, false, false, false, false, false, false, false, false, false, false, false, false, false, false, false, false, false, false, false, false, false, false, false, false, false, false] rfl rfl (any_of HT_.out (by kernel_rfl)) (fun _ _ _ h => h) (Or.inl ⟨by rfl, ?_⟩) ?_ ?_
              rotate_left
              · intro w'
                go_simp
                with_reducible rfl
              rotate_left
              · simp only [Act.put, List.setIfInBounds_toArray, List.set_cons_zero, List.set_cons_succ, i64_w, i32_w]
                rfl
              refine pure_ (i := 6) (N := some 27) (v := ?_) (a' := ?_) #[true, true, true, true, true, true, true, false, false, false, false, false, false, false, false, false, false, false, false, false, false, false, false, false, false, false, false, false, false, false, false, false, false, false, false, false, false, false] rfl rfl (any_of HT_.out (by kernel_rfl)) (fun _ _ _ h => h) (Or.inl ⟨by rfl, ?_⟩) ?_ ?_
              rotate_left
              · intro w'
                go_simp
                with_reducible rfl
              rotate_left
              · simp only [Act.put, List.setIfInBounds_toArray, List.set_cons_zero, List.set_cons_succ, i64_w, i32_w]
                rfl
              refine pure_ (i := 7) (N := some 28) (v := ?_) (a' := ?_) #[true, true, true, true, true, true, true, true, false, false, false, false, false, false, false, false, false, false, false, false, false, false, false, false, false, false, false, false, false, false, false, false, false, false, false, false, false, false] rfl rfl (any_of HT_.out (by kernel_rfl)) (fun _ _ _ h => h) (Or.inl ⟨by rfl, ?_⟩) ?_ ?_
              rotate_left
              · intro w'
                go_simp
                with_reducible rfl
              rotate_left
              · simp only [Act.put, List.setIfInBounds_toArray, List.set_cons_zero, List.set_cons_succ, i64_w, i32_w]
                rfl
              refine pure_ (i := 8) (N := some 29) (v := ?_) (a' := ?_) #[true, true, true, true, true, true, true, true, true, false, false, false, false, false, false, false, false, false, false, false, false, false, false, false, false, false, false, false, false, false, false, false, false, false, false, false, false, false] rfl rfl (any_of HT_.out (by kernel_rfl)) (fun _ _ _ h => h) (Or.inl ⟨by rfl, ?_⟩) ?_ ?_
              rotate_left
              · intro w'
                go_simp
                with_reducible rfl
              rotate_left
              · simp only [Act.put, List.setIfInBounds_toArray, List.set_cons_zero, List.set_cons_succ, i64_w, i32_w]
                rfl
              refine one_ (i := 9) (N := some 30) #[true, true, true, true, true, true, true, true, true, true, false, false, false, false, false, false, false, false, false, false, false, false, false, false, false, false, false, false, false, false, false, false, false, false, false, false, false, false] rfl rfl (one_of HT_.out (by kernel_rfl)) (by decide) (fun K hK => ?_)
              refine goes_ Tryz.func18 (by kernel_rfl) rfl #[] (by rfl) rfl rfl (by (try simp only [List.map_toArray, List.map_cons, List.map_nil]); first | done | rfl | (simp only [List.length_drop, List.length_take]; rfl)) ?_
              with_reducible refine (zone_Names.calls k  t491 _ A9.out (HTab.out.below (by repeat (first | (with_reducible first | exact HB.out | apply below_alloc | apply pw_below_drewN | apply below_drew1) | exact HB.out)))).mono ?_
              rintro e w40 ⟨v492, rfl, ho0, hb⟩
              refine ⟨_, rfl, ?_⟩
              have n0_ := Aside0.mk (Kd.V_elder' (by (with_reducible repeat (first | apply Kd.V_alloc | apply Kd.V_drewN | apply Kd.V_drew)); exact HO481.out) (Kd.R_base ho0) hb)
              have n1_ := Aside0.mk (Kd.V_elder' (by (with_reducible repeat (first | apply Kd.V_alloc | apply Kd.V_drewN | apply Kd.V_drew)); exact HO487.out) (Kd.R_base ho0) hb)
              have n2_ := Aside0.mk (Kd.R_lower ho0 (below_size (by repeat (first | (with_reducible first | exact HB.out | apply below_alloc | apply pw_below_drewN | apply below_drew1 | refine below_set ?_ GE476.out | refine below_set ?_ GE477.out | refine below_set ?_ GE483.out | refine below_set ?_ GE489.out) | exact HB.out))))
              have n3_ := Aside0.mk (blk_below (g := gb476) (o := .cells #[.string a1_0, .slice A1_1 l1_1.length c1_1] 24 (0, 0)) (by (with_reducible repeat (first | refine blk_drewN ?_ _ | refine blk_drew ?_ | refine blk_alloc ?_ _)); exact BK476.out) hb)
              have n4_ := Aside0.mk (blk_below (g := gb477) (o := .cells #[.string a2_0, .slice A2_1 l2_1.length c2_1] 24 (0, 0)) (by (with_reducible repeat (first | refine blk_drewN ?_ _ | refine blk_drew ?_ | refine blk_alloc ?_ _)); exact BK477.out) hb)
              have n5_ := Aside0.mk (blk_below (g := gb483) (o := .cells #[.string t478, .slice Ao29 t479.length co29] 24 (0, 0)) (by (with_reducible repeat (first | refine blk_drewN ?_ _ | refine blk_drew ?_ | refine blk_alloc ?_ _)); exact BK483.out) hb)
              have n6_ := Aside0.mk (blk_below (g := gb489) (o := .cells #[.string t484, .slice Ao36 t485.length co36] 24 (0, 0)) (by (with_reducible repeat (first | refine blk_drewN ?_ _ | refine blk_drew ?_ | refine blk_alloc ?_ _)); exact BK489.out) hb)
              have n7_ := Aside0.mk (below_step (by repeat (first | (with_reducible first | exact HB.out | apply below_alloc | apply pw_below_drewN | apply below_drew1 | refine below_set ?_ GE476.out | refine below_set ?_ GE477.out | refine below_set ?_ GE483.out | refine below_set ?_ GE489.out) | exact HB.out)) hb)
              clear HO481
              clear HO487
              clear BK476
              clear BK477
              clear BK483
              clear BK489
              clear HB
              have HO481 := n0_
              have HO487 := n1_
              have HO493 := n2_
              have BK476 := n3_
              have BK477 := n4_
              have BK483 := n5_
              have BK489 := n6_
              have HB := n7_
              clear n0_ n1_ n2_ n3_ n4_ n5_ n6_ n7_
              (try clear hb)
              (try clear hb2)
              (try clear hk)
              (try clear hi)
              (try clear ho0)
              refine hK.out _ _ ⟨(blk_cell BK483.out 0).trans rfl, (blk_cell BK483.out 1).trans rfl, (blk_cell BK489.out 0).trans rfl, (blk_cell BK489.out 1).trans rfl, (blk_cell BK476.out 0).trans rfl, (blk_cell BK476.out 1).trans rfl, (blk_cell BK477.out 0).trans rfl, (blk_cell BK477.out 1).trans rfl⟩ (fun hHeld => ?_)
              clear hK K
              refine norm_ (a' := ?_) ?_ ?_
              rotate_left
              · show Act.put _ (some 30) _ = _
                simp only [Act.put, List.setIfInBounds_toArray, List.set_cons_zero, List.set_cons_succ, i64_w, i32_w]
                rfl
              refine one_ (i := 10) (N := some 31) #[true, true, true, true, true, true, true, true, true, true, true, false, false, false, false, false, false, false, false, false, false, false, false, false, false, false, false, false, false, false, false, false, false, false, false, false, false, false] rfl rfl (one_of HT_.out (by kernel_rfl)) (by decide) (fun K hK => ?_)
              refine goes_ Tryz.func19 (by kernel_rfl) rfl #[] (by rfl) rfl rfl (by (try simp only [List.map_toArray, List.map_cons, List.map_nil]); first | done | rfl | (simp only [List.length_drop, List.length_take]; rfl)) ?_
              with_reducible refine (almanacref16_Names.calls k  t494 _ A10.out).mono ?_
              rintro e w41 ⟨v495, rfl, ho0, hb⟩
              refine ⟨_, rfl, ?_⟩
              have n0_ := Aside0.mk (Kd.V_elder' (by (with_reducible repeat (first | apply Kd.V_alloc | apply Kd.V_drewN | apply Kd.V_drew)); exact HO481.out) (Kd.R_base ho0) hb)
              have n1_ := Aside0.mk (Kd.V_elder' (by (with_reducible repeat (first | apply Kd.V_alloc | apply Kd.V_drewN | apply Kd.V_drew)); exact HO487.out) (Kd.R_base ho0) hb)
              have n2_ := Aside0.mk (Kd.R_elder' (by (with_reducible repeat (first | apply Kd.R_alloc | apply Kd.R_drewN | apply Kd.R_drew)); exact HO493.out) (Kd.R_base ho0) hb)
              have n3_ := Aside0.mk (Kd.R_lower (Kd.R_new' ho0 (Kd.R_lt (by (with_reducible repeat (first | apply Kd.R_alloc | apply Kd.R_drewN | apply Kd.R_drew)); exact HO493.out))) (below_size (by repeat (first | (with_reducible first | exact HB.out | apply below_alloc | apply pw_below_drewN | apply below_drew1 | refine below_set ?_ GE476.out | refine below_set ?_ GE477.out | refine below_set ?_ GE483.out | refine below_set ?_ GE489.out) | exact HB.out))))
              have n4_ := Aside0.mk (blk_below (g := gb476) (o := .cells #[.string a1_0, .slice A1_1 l1_1.length c1_1] 24 (0, 0)) (by (with_reducible repeat (first | refine blk_drewN ?_ _ | refine blk_drew ?_ | refine blk_alloc ?_ _)); exact BK476.out) hb)
              have n5_ := Aside0.mk (blk_below (g := gb477) (o := .cells #[.string a2_0, .slice A2_1 l2_1.length c2_1] 24 (0, 0)) (by (with_reducible repeat (first | refine blk_drewN ?_ _ | refine blk_drew ?_ | refine blk_alloc ?_ _)); exact BK477.out) hb)
              have n6_ := Aside0.mk (blk_below (g := gb483) (o := .cells #[.string t478, .slice Ao29 t479.length co29] 24 (0, 0)) (by (with_reducible repeat (first | refine blk_drewN ?_ _ | refine blk_drew ?_ | refine blk_alloc ?_ _)); exact BK483.out) hb)
              have n7_ := Aside0.mk (blk_below (g := gb489) (o := .cells #[.string t484, .slice Ao36 t485.length co36] 24 (0, 0)) (by (with_reducible repeat (first | refine blk_drewN ?_ _ | refine blk_drew ?_ | refine blk_alloc ?_ _)); exact BK489.out) hb)
              have n8_ := Aside0.mk (below_step (by repeat (first | (with_reducible first | exact HB.out | apply below_alloc | apply pw_below_drewN | apply below_drew1 | refine below_set ?_ GE476.out | refine below_set ?_ GE477.out | refine below_set ?_ GE483.out | refine below_set ?_ GE489.out) | exact HB.out)) hb)
              clear HO481
              clear HO487
              clear HO493
              clear BK476
              clear BK477
              clear BK483
              clear BK489
              clear HB
              have HO481 := n0_
              have HO487 := n1_
              have HO493 := n2_
              have HO496 := n3_
              have BK476 := n4_
              have BK477 := n5_
              have BK483 := n6_
              have BK489 := n7_
              have HB := n8_
              clear n0_ n1_ n2_ n3_ n4_ n5_ n6_ n7_ n8_
              (try clear hb)
              (try clear hb2)
              (try clear hk)
              (try clear hi)
              (try clear ho0)
              obtain ⟨Ao42, co42, eo42⟩ := Kd.R_slice HO493.out
              (first | subst eo42 | (injection eo42 with f1_ f2_ f3_; have f4_ := f1_.symm; have f5_ := f3_.symm; clear f1_ f2_ f3_; subst f4_; subst f5_))
              obtain ⟨Ao43, co43, eo43⟩ := Kd.R_slice HO496.out
              (first | subst eo43 | (injection eo43 with f1_ f2_ f3_; have f4_ := f1_.symm; have f5_ := f3_.symm; clear f1_ f2_ f3_; subst f4_; subst f5_))
              refine hK.out _ _ ⟨(blk_cell BK483.out 0).trans rfl, (blk_cell BK483.out 1).trans rfl, (blk_cell BK489.out 0).trans rfl, (blk_cell BK489.out 1).trans rfl, (blk_cell BK476.out 0).trans rfl, (blk_cell BK476.out 1).trans rfl, (blk_cell BK477.out 0).trans rfl, (blk_cell BK477.out 1).trans rfl⟩ (fun hHeld => ?_)
              clear hK K
              refine norm_ (a' := ?_) ?_ ?_
              rotate_left
              · show Act.put _ (some 31) _ = _
                simp only [Act.put, List.setIfInBounds_toArray, List.set_cons_zero, List.set_cons_succ, i64_w, i32_w]
                rfl
              refine one_ (i := 11) (N := some 32) #[true, true, true, true, true, true, true, true, true, true, true, true, false, false, false, false, false, false, false, false, false, false, false, false, false, false, false, false, false, false, false, false, false, false, false, false, false, false] rfl rfl (one_of HT_.out (by kernel_rfl)) (by decide) (fun K hK => ?_)
              refine goes_ Tryz.func17 (by kernel_rfl) rfl #[.slice Ao42 t491.length co42, .slice Ao43 t494.length co43] (by rfl) rfl rfl (by (try simp only [List.map_toArray, List.map_cons, List.map_nil]); first | done | rfl | (simp only [List.length_drop, List.length_take]; rfl)) ?_
              with_reducible refine (almanacref08_Texts.calls k _ _ t491 _ _ t494 true _ ?side1 ?side2 ?side3 ?side4 A11.out).mono ?_
              (case side1 => repeat (first | exact (Kd.R_reads' HO493.out).2.2 | (with_reducible refine Kd.C_alloc ?_ _) | (with_reducible refine Kd.C_drewN ?_ _) | (with_reducible refine Kd.C_drew ?_)))
              (case side2 => exact (Kd.R_reads' HO493.out).2.1)
              (case side3 => repeat (first | exact (Kd.R_reads' HO496.out).2.2 | (with_reducible refine Kd.C_alloc ?_ _) | (with_reducible refine Kd.C_drewN ?_ _) | (with_reducible refine Kd.C_drew ?_)))
              (case side4 => exact (Kd.R_reads' HO496.out).2.1)
              rintro e w' ⟨rfl, ⟨nd, rfl⟩⟩
              refine ⟨_, rfl, ?_⟩
              refine hK.out _ _ ⟨(blk_cell BK483.out 0).trans rfl, (blk_cell BK483.out 1).trans rfl, (blk_cell BK489.out 0).trans rfl, (blk_cell BK489.out 1).trans rfl, (blk_cell BK476.out 0).trans rfl, (blk_cell BK476.out 1).trans rfl, (blk_cell BK477.out 0).trans rfl, (blk_cell BK477.out 1).trans rfl⟩ (fun hHeld => ?_)
              clear hK K
              refine norm_ (a' := ?_) ?_ ?_
              rotate_left
              · show Act.put _ (some 32) _ = _
                simp only [Act.put, List.setIfInBounds_toArray, List.set_cons_zero, List.set_cons_succ, i64_w, i32_w]
                rfl
              refine pure_ (i := 12) (N := some 33) (v := ?_) (a' := ?_) #[true, true, true, true, true, true, true, true, true, true, true, true, true, false, false, false, false, false, false, false, false, false, false, false, false, false, false, false, false, false, false, false, false, false, false, false, false, false] rfl rfl (any_of HT_.out (by kernel_rfl)) (fun _ _ _ h => h) (Or.inl ⟨by rfl, ?_⟩) ?_ ?_
              rotate_left
              · intro w'
                go_simp
                with_reducible rfl
              rotate_left
              · simp only [Act.put, List.setIfInBounds_toArray, List.set_cons_zero, List.set_cons_succ, i64_w, i32_w]
                rfl
              refine pure_ (i := 13) (N := some 34) (v := ?_) (a' := ?_) #[true, true, true, true, true, true, true, true, true, true, true, true, true, true, false, false, false, false, false, false, false, false, false, false, false, false, false, false, false, false, false, false, false, false, false, false, false, false] rfl rfl (any_of HT_.out (by kernel_rfl)) (fun _ _ _ h => h) (Or.inl ⟨by rfl, ?_⟩) ?_ ?_
              rotate_left
              · intro w'
                go_simp
                with_reducible rfl
              rotate_left
              · simp only [Act.put, List.setIfInBounds_toArray, List.set_cons_zero, List.set_cons_succ, i64_w, i32_w]
                rfl
              refine take_ (i := 14) (N := some 35) (v := ?_) (a' := ?_) #[true, true, true, true, true, true, true, true, true, true, true, true, true, true, true, false, false, false, false, false, false, false, false, false, false, false, false, false, false, false, false, false, false, false, false, false, false, false] rfl rfl (take_ofW HT_.out HW_.out (by kernel_rfl)) (fun _ _ _ h => h) (Or.inl ⟨by rfl, ?_⟩) hHeld ?_ ?_
              rotate_left
              · rintro w' ⟨s0, s1, s2, s3, s4, s5, s6, s7⟩
                go_simp
                with_reducible rfl
              rotate_left
              · simp only [Act.put, List.setIfInBounds_toArray, List.set_cons_zero, List.set_cons_succ, i64_w, i32_w]
                rfl
              refine take_ (i := 16) (N := some 37) (v := ?_) (a' := ?_) #[true, true, true, true, true, true, true, true, true, true, true, true, true, true, true, false, true, false, false, false, false, false, false, false, false, false, false, false, false, false, false, false, false, false, false, false, false, false] rfl rfl (take_ofW HT_.out HW_.out (by kernel_rfl)) (fun _ _ _ h => h) (Or.inl ⟨by rfl, ?_⟩) hHeld ?_ ?_
              rotate_left
              · rintro w' ⟨s0, s1, s2, s3, s4, s5, s6, s7⟩
                go_simp
                with_reducible rfl
              rotate_left
              · simp only [Act.put, List.setIfInBounds_toArray, List.set_cons_zero, List.set_cons_succ, i64_w, i32_w]
                rfl
              refine one_ (i := 15) (N := some 36) #[true, true, true, true, true, true, true, true, true, true, true, true, true, true, true, true, true, false, false, false, false, false, false, false, false, false, false, false, false, false, false, false, false, false, false, false, false, false] rfl rfl (one_of HT_.out (by kernel_rfl)) (by decide) (fun K hK => ?_)
              refine goes_ Tryz.func20 (by kernel_rfl) rfl #[.agg #[.string a1_0, .slice A1_1 l1_1.length c1_1]] (by rfl) rfl rfl (by (try simp only [List.map_toArray, List.map_cons, List.map_nil]); first | done | rfl | (simp only [List.length_drop, List.length_take]; rfl)) ?_
              with_reducible refine (zone_Fit.calls a1_0 _ _ l1_1 t498 _ ?side1 ?side2 A13.out).mono ?_
              (case side1 => repeat (first | exact (Kd.C_below HR1_1.out (by repeat (first | (with_reducible first | exact HB.out | apply below_alloc | apply pw_below_drewN | apply below_drew1 | refine below_set ?_ GE476.out | refine below_set ?_ GE477.out | refine below_set ?_ GE483.out | refine below_set ?_ GE489.out) | exact HB.out))) | (with_reducible refine Kd.C_alloc ?_ _) | (with_reducible refine Kd.C_drewN ?_ _) | (with_reducible refine Kd.C_drew ?_)))
              (case side2 => exact HC1_1.out)
              rintro e w44 ⟨rfl, hb⟩
              refine ⟨_, rfl, ?_⟩
              have n0_ := Aside0.mk (Kd.V_below (by (with_reducible repeat (first | apply Kd.V_alloc | apply Kd.V_drewN | apply Kd.V_drew)); exact HO481.out) hb)
              have n1_ := Aside0.mk (Kd.V_below (by (with_reducible repeat (first | apply Kd.V_alloc | apply Kd.V_drewN | apply Kd.V_drew)); exact HO487.out) hb)
              have n2_ := Aside0.mk (Kd.R_below (by (with_reducible repeat (first | apply Kd.R_alloc | apply Kd.R_drewN | apply Kd.R_drew)); exact HO493.out) hb)
              have n3_ := Aside0.mk (Kd.R_below (by (with_reducible repeat (first | apply Kd.R_alloc | apply Kd.R_drewN | apply Kd.R_drew)); exact HO496.out) hb)
              have n4_ := Aside0.mk (blk_below (g := gb476) (o := .cells #[.string a1_0, .slice A1_1 l1_1.length c1_1] 24 (0, 0)) (by (with_reducible repeat (first | refine blk_drewN ?_ _ | refine blk_drew ?_ | refine blk_alloc ?_ _)); exact BK476.out) hb)
              have n5_ := Aside0.mk (blk_below (g := gb477) (o := .cells #[.string a2_0, .slice A2_1 l2_1.length c2_1] 24 (0, 0)) (by (with_reducible repeat (first | refine blk_drewN ?_ _ | refine blk_drew ?_ | refine blk_alloc ?_ _)); exact BK477.out) hb)
              have n6_ := Aside0.mk (blk_below (g := gb483) (o := .cells #[.string t478, .slice Ao29 t479.length co29] 24 (0, 0)) (by (with_reducible repeat (first | refine blk_drewN ?_ _ | refine blk_drew ?_ | refine blk_alloc ?_ _)); exact BK483.out) hb)
              have n7_ := Aside0.mk (blk_below (g := gb489) (o := .cells #[.string t484, .slice Ao36 t485.length co36] 24 (0, 0)) (by (with_reducible repeat (first | refine blk_drewN ?_ _ | refine blk_drew ?_ | refine blk_alloc ?_ _)); exact BK489.out) hb)
              have n8_ := Aside0.mk (below_step (by repeat (first | (with_reducible first | exact HB.out | apply below_alloc | apply pw_below_drewN | apply below_drew1 | refine below_set ?_ GE476.out | refine below_set ?_ GE477.out | refine below_set ?_ GE483.out | refine below_set ?_ GE489.out) | exact HB.out)) hb)
              clear HO481
              clear HO487
              clear HO493
              clear HO496
              clear BK476
              clear BK477
              clear BK483
              clear BK489
              clear HB
              have HO481 := n0_
              have HO487 := n1_
              have HO493 := n2_
              have HO496 := n3_
              have BK476 := n4_
              have BK477 := n5_
              have BK483 := n6_
              have BK489 := n7_
              have HB := n8_
              clear n0_ n1_ n2_ n3_ n4_ n5_ n6_ n7_ n8_
              (try clear hb)
              (try clear hb2)
              (try clear hk)
              (try clear hi)
              refine hK.out _ _ ⟨(blk_cell BK483.out 0).trans rfl, (blk_cell BK483.out 1).trans rfl, (blk_cell BK489.out 0).trans rfl, (blk_cell BK489.out 1).trans rfl, (blk_cell BK476.out 0).trans rfl, (blk_cell BK476.out 1).trans rfl, (blk_cell BK477.out 0).trans rfl, (blk_cell BK477.out 1).trans rfl⟩ (fun hHeld => ?_)
              clear hK K
              refine norm_ (a' := ?_) ?_ ?_
              rotate_left
              · show Act.put _ (some 36) _ = _
                simp only [Act.put, List.setIfInBounds_toArray, List.set_cons_zero, List.set_cons_succ, i64_w, i32_w]
                rfl
              refine one_ (i := 17) (N := some 38) #[true, true, true, true, true, true, true, true, true, true, true, true, true, true, true, true, true, true, false, false, false, false, false, false, false, false, false, false, false, false, false, false, false, false, false, false, false, false] rfl rfl (one_of HT_.out (by kernel_rfl)) (by decide) (fun K hK => ?_)
              refine goes_ Tryz.func13 (by kernel_rfl) rfl #[.agg #[.string a1_0, .slice A1_1 l1_1.length c1_1]] (by rfl) rfl rfl (by (try simp only [List.map_toArray, List.map_cons, List.map_nil]); first | done | rfl | (simp only [List.length_drop, List.length_take]; rfl)) ?_
              with_reducible refine (almanacref16_Fit.calls k a1_0 _ _ l1_1 t499 _ ?side1 ?side2 A14.out).mono ?_
              (case side1 => repeat (first | exact (Kd.C_below HR1_1.out HB.out) | (with_reducible refine Kd.C_alloc ?_ _) | (with_reducible refine Kd.C_drewN ?_ _) | (with_reducible refine Kd.C_drew ?_)))
              (case side2 => exact HC1_1.out)
              rintro e w45 ⟨rfl, hb⟩
              refine ⟨_, rfl, ?_⟩
              have n0_ := Aside0.mk (Kd.V_below (by (with_reducible repeat (first | apply Kd.V_alloc | apply Kd.V_drewN | apply Kd.V_drew)); exact HO481.out) hb)
              have n1_ := Aside0.mk (Kd.V_below (by (with_reducible repeat (first | apply Kd.V_alloc | apply Kd.V_drewN | apply Kd.V_drew)); exact HO487.out) hb)
              have n2_ := Aside0.mk (Kd.R_below (by (with_reducible repeat (first | apply Kd.R_alloc | apply Kd.R_drewN | apply Kd.R_drew)); exact HO493.out) hb)
              have n3_ := Aside0.mk (Kd.R_below (by (with_reducible repeat (first | apply Kd.R_alloc | apply Kd.R_drewN | apply Kd.R_drew)); exact HO496.out) hb)
              have n4_ := Aside0.mk (blk_below (g := gb476) (o := .cells #[.string a1_0, .slice A1_1 l1_1.length c1_1] 24 (0, 0)) (by (with_reducible repeat (first | refine blk_drewN ?_ _ | refine blk_drew ?_ | refine blk_alloc ?_ _)); exact BK476.out) hb)
              have n5_ := Aside0.mk (blk_below (g := gb477) (o := .cells #[.string a2_0, .slice A2_1 l2_1.length c2_1] 24 (0, 0)) (by (with_reducible repeat (first | refine blk_drewN ?_ _ | refine blk_drew ?_ | refine blk_alloc ?_ _)); exact BK477.out) hb)
              have n6_ := Aside0.mk (blk_below (g := gb483) (o := .cells #[.string t478, .slice Ao29 t479.length co29] 24 (0, 0)) (by (with_reducible repeat (first | refine blk_drewN ?_ _ | refine blk_drew ?_ | refine blk_alloc ?_ _)); exact BK483.out) hb)
              have n7_ := Aside0.mk (blk_below (g := gb489) (o := .cells #[.string t484, .slice Ao36 t485.length co36] 24 (0, 0)) (by (with_reducible repeat (first | refine blk_drewN ?_ _ | refine blk_drew ?_ | refine blk_alloc ?_ _)); exact BK489.out) hb)
              have n8_ := Aside0.mk (below_step (by repeat (first | (with_reducible first | exact HB.out | apply below_alloc | apply pw_below_drewN | apply below_drew1 | refine below_set ?_ GE476.out | refine below_set ?_ GE477.out | refine below_set ?_ GE483.out | refine below_set ?_ GE489.out) | exact HB.out)) hb)
              clear HO481
              clear HO487
              clear HO493
              clear HO496
              clear BK476
              clear BK477
              clear BK483
              clear BK489
              clear HB
              have HO481 := n0_
              have HO487 := n1_
              have HO493 := n2_
              have HO496 := n3_
              have BK476 := n4_
              have BK477 := n5_
              have BK483 := n6_
              have BK489 := n7_
              have HB := n8_
              clear n0_ n1_ n2_ n3_ n4_ n5_ n6_ n7_ n8_
              (try clear hb)
              (try clear hb2)
              (try clear hk)
              (try clear hi)
              refine hK.out _ _ ⟨(blk_cell BK483.out 0).trans rfl, (blk_cell BK483.out 1).trans rfl, (blk_cell BK489.out 0).trans rfl, (blk_cell BK489.out 1).trans rfl, (blk_cell BK476.out 0).trans rfl, (blk_cell BK476.out 1).trans rfl, (blk_cell BK477.out 0).trans rfl, (blk_cell BK477.out 1).trans rfl⟩ (fun hHeld => ?_)
              clear hK K
              refine norm_ (a' := ?_) ?_ ?_
              rotate_left
              · show Act.put _ (some 38) _ = _
                simp only [Act.put, List.setIfInBounds_toArray, List.set_cons_zero, List.set_cons_succ, i64_w, i32_w]
                rfl
              refine pure_ (i := 18) (N := some 39) (v := ?_) (a' := ?_) #[true, true, true, true, true, true, true, true, true, true, true, true, true, true, true, true, true, true, true, false, false, false, false, false, false, false, false, false, false, false, false, false, false, false, false, false, false, false] rfl rfl (any_of HT_.out (by kernel_rfl)) (fun _ _ _ h => h) (Or.inl ⟨by rfl, ?_⟩) ?_ ?_
              rotate_left
              · intro w'
                go_simp
                with_reducible rfl
              rotate_left
              · simp only [Act.put, List.setIfInBounds_toArray, List.set_cons_zero, List.set_cons_succ, i64_w, i32_w]
                rfl
              refine pure_ (i := 19) (N := some 40) (v := ?_) (a' := ?_) #[true, true, true, true, true, true, true, true, true, true, true, true, true, true, true, true, true, true, true, true, false, false, false, false, false, false, false, false, false, false, false, false, false, false, false, false, false, false] rfl rfl (any_of HT_.out (by kernel_rfl)) (fun _ _ _ h => h) (Or.inl ⟨by rfl, ?_⟩) ?_ ?_
              rotate_left
              · intro w'
                go_simp
                with_reducible rfl
              rotate_left
              · simp only [Act.put, List.setIfInBounds_toArray, List.set_cons_zero, List.set_cons_succ, i64_w, i32_w]
                rfl
              refine pure_ (i := 20) (N := some 41) (v := ?_) (a' := ?_) #[true, true, true, true, true, true, true, true, true, true, true, true, true, true, true, true, true, true, true, true, true, false, false, false, false, false, false, false, false, false, false, false, false, false, false, false, false, false] rfl rfl (any_of HT_.out (by kernel_rfl)) (fun _ _ _ h => h) (Or.inl ⟨by rfl, ?_⟩) ?_ ?_
              rotate_left
              · intro w'
                go_simp
                with_reducible rfl
              rotate_left
              · simp only [Act.put, List.setIfInBounds_toArray, List.set_cons_zero, List.set_cons_succ, i64_w, i32_w]
                rfl
              refine take_ (i := 21) (N := some 42) (v := ?_) (a' := ?_) #[true, true, true, true, true, true, true, true, true, true, true, true, true, true, true, true, true, true, true, true, true, true, false, false, false, false, false, false, false, false, false, false, false, false, false, false, false, false] rfl rfl (take_ofW HT_.out HW_.out (by kernel_rfl)) (fun _ _ _ h => h) (Or.inl ⟨by rfl, ?_⟩) hHeld ?_ ?_
              rotate_left
              · rintro w' ⟨s0, s1, s2, s3, s4, s5, s6, s7⟩
                go_simp
                with_reducible rfl
              rotate_left
              · simp only [Act.put, List.setIfInBounds_toArray, List.set_cons_zero, List.set_cons_succ, i64_w, i32_w]
                rfl
              refine take_ (i := 22) (N := some 43) (v := ?_) (a' := ?_) #[true, true, true, true, true, true, true, true, true, true, true, true, true, true, true, true, true, true, true, true, true, true, true, false, false, false, false, false, false, false, false, false, false, false, false, false, false, false] rfl rfl (take_ofW HT_.out HW_.out (by kernel_rfl)) (fun _ _ _ h => h) (Or.inl ⟨by rfl, ?_⟩) hHeld ?_ ?_
              rotate_left
              · rintro w' ⟨s0, s1, s2, s3, s4, s5, s6, s7⟩
                go_simp
                with_reducible rfl
              rotate_left
              · simp only [Act.put, List.setIfInBounds_toArray, List.set_cons_zero, List.set_cons_succ, i64_w, i32_w]
                rfl
              refine take_ (i := 24) (N := some 45) (v := ?_) (a' := ?_) #[true, true, true, true, true, true, true, true, true, true, true, true, true, true, true, true, true, true, true, true, true, true, true, false, true, false, false, false, false, false, false, false, false, false, false, false, false, false] rfl rfl (take_ofW HT_.out HW_.out (by kernel_rfl)) (fun _ _ _ h => h) (Or.inl ⟨by rfl, ?_⟩) hHeld ?_ ?_
              rotate_left
              · rintro w' ⟨s0, s1, s2, s3, s4, s5, s6, s7⟩
                go_simp
                with_reducible rfl
              rotate_left
              · simp only [Act.put, List.setIfInBounds_toArray, List.set_cons_zero, List.set_cons_succ, i64_w, i32_w]
                rfl
              refine take_ (i := 25) (N := some 46) (v := ?_) (a' := ?_) #[true, true, true, true, true, true, true, true, true, true, true, true, true, true, true, true, true, true, true, true, true, true, true, false, true, true, false, false, false, false, false, false, false, false, false, false, false, false] rfl rfl (take_ofW HT_.out HW_.out (by kernel_rfl)) (fun _ _ _ h => h) (Or.inl ⟨by rfl, ?_⟩) hHeld ?_ ?_
              rotate_left
              · rintro w' ⟨s0, s1, s2, s3, s4, s5, s6, s7⟩
                go_simp
                with_reducible rfl
              rotate_left
              · simp only [Act.put, List.setIfInBounds_toArray, List.set_cons_zero, List.set_cons_succ, i64_w, i32_w]
                rfl
              refine one_ (i := 23) (N := some 44) #[true, true, true, true, true, true, true, true, true, true, true, true, true, true, true, true, true, true, true, true, true, true, true, true, true, true, false, false, false, false, false, false, false, false, false, false, false, false] rfl rfl (one_of HT_.out (by kernel_rfl)) (by decide) (fun K hK => ?_)
              refine goes_ Tryz.func21 (by kernel_rfl) rfl #[.agg #[.string a1_0, .slice A1_1 l1_1.length c1_1], .agg #[.string a2_0, .slice A2_1 l2_1.length c2_1]] (by rfl) rfl rfl (by (try simp only [List.map_toArray, List.map_cons, List.map_nil]); first | done | rfl | (simp only [List.length_drop, List.length_take]; rfl)) ?_
              with_reducible refine (zone_Same.calls k a1_0 _ _ l1_1 a2_0 _ _ l2_1 t500 _ ?side1 ?side2 ?side3 ?side4 A16.out).mono ?_
              (case side1 => repeat (first | exact (Kd.C_below HR1_1.out HB.out) | (with_reducible refine Kd.C_alloc ?_ _) | (with_reducible refine Kd.C_drewN ?_ _) | (with_reducible refine Kd.C_drew ?_)))
              (case side2 => exact HC1_1.out)
              (case side3 => repeat (first | exact (Kd.C_below HR2_1.out HB.out) | (with_reducible refine Kd.C_alloc ?_ _) | (with_reducible refine Kd.C_drewN ?_ _) | (with_reducible refine Kd.C_drew ?_)))
              (case side4 => exact HC2_1.out)
              rintro e w46 ⟨rfl, hb⟩
              refine ⟨_, rfl, ?_⟩
              have n0_ := Aside0.mk (Kd.V_below (by (with_reducible repeat (first | apply Kd.V_alloc | apply Kd.V_drewN | apply Kd.V_drew)); exact HO481.out) hb)
              have n1_ := Aside0.mk (Kd.V_below (by (with_reducible repeat (first | apply Kd.V_alloc | apply Kd.V_drewN | apply Kd.V_drew)); exact HO487.out) hb)
              have n2_ := Aside0.mk (Kd.R_below (by (with_reducible repeat (first | apply Kd.R_alloc | apply Kd.R_drewN | apply Kd.R_drew)); exact HO493.out) hb)
              have n3_ := Aside0.mk (Kd.R_below (by (with_reducible repeat (first | apply Kd.R_alloc | apply Kd.R_drewN | apply Kd.R_drew)); exact HO496.out) hb)
              have n4_ := Aside0.mk (blk_below (g := gb476) (o := .cells #[.string a1_0, .slice A1_1 l1_1.length c1_1] 24 (0, 0)) (by (with_reducible repeat (first | refine blk_drewN ?_ _ | refine blk_drew ?_ | refine blk_alloc ?_ _)); exact BK476.out) hb)
              have n5_ := Aside0.mk (blk_below (g := gb477) (o := .cells #[.string a2_0, .slice A2_1 l2_1.length c2_1] 24 (0, 0)) (by (with_reducible repeat (first | refine blk_drewN ?_ _ | refine blk_drew ?_ | refine blk_alloc ?_ _)); exact BK477.out) hb)
              have n6_ := Aside0.mk (blk_below (g := gb483) (o := .cells #[.string t478, .slice Ao29 t479.length co29] 24 (0, 0)) (by (with_reducible repeat (first | refine blk_drewN ?_ _ | refine blk_drew ?_ | refine blk_alloc ?_ _)); exact BK483.out) hb)
              have n7_ := Aside0.mk (blk_below (g := gb489) (o := .cells #[.string t484, .slice Ao36 t485.length co36] 24 (0, 0)) (by (with_reducible repeat (first | refine blk_drewN ?_ _ | refine blk_drew ?_ | refine blk_alloc ?_ _)); exact BK489.out) hb)
              have n8_ := Aside0.mk (below_step (by repeat (first | (with_reducible first | exact HB.out | apply below_alloc | apply pw_below_drewN | apply below_drew1 | refine below_set ?_ GE476.out | refine below_set ?_ GE477.out | refine below_set ?_ GE483.out | refine below_set ?_ GE489.out) | exact HB.out)) hb)
              clear HO481
              clear HO487
              clear HO493
              clear HO496
              clear BK476
              clear BK477
              clear BK483
              clear BK489
              clear HB
              have HO481 := n0_
              have HO487 := n1_
              have HO493 := n2_
              have HO496 := n3_
              have BK476 := n4_
              have BK477 := n5_
              have BK483 := n6_
              have BK489 := n7_
              have HB := n8_
              clear n0_ n1_ n2_ n3_ n4_ n5_ n6_ n7_ n8_
              (try clear hb)
              (try clear hb2)
              (try clear hk)
              (try clear hi)
              refine hK.out _ _ ⟨(blk_cell BK483.out 0).trans rfl, (blk_cell BK483.out 1).trans rfl, (blk_cell BK489.out 0).trans rfl, (blk_cell BK489.out 1).trans rfl, (blk_cell BK476.out 0).trans rfl, (blk_cell BK476.out 1).trans rfl, (blk_cell BK477.out 0).trans rfl, (blk_cell BK477.out 1).trans rfl⟩ (fun hHeld => ?_)
              clear hK K
              refine norm_ (a' := ?_) ?_ ?_
              rotate_left
              · show Act.put _ (some 44) _ = _
                simp only [Act.put, List.setIfInBounds_toArray, List.set_cons_zero, List.set_cons_succ, i64_w, i32_w]
                rfl
              refine one_ (i := 26) (N := some 47) #[true, true, true, true, true, true, true, true, true, true, true, true, true, true, true, true, true, true, true, true, true, true, true, true, true, true, true, false, false, false, false, false, false, false, false, false, false, false] rfl rfl (one_of HT_.out (by kernel_rfl)) (by decide) (fun K hK => ?_)
              refine goes_ Tryz.func16 (by kernel_rfl) rfl #[.agg #[.string a1_0, .slice A1_1 l1_1.length c1_1], .agg #[.string a2_0, .slice A2_1 l2_1.length c2_1]] (by rfl) rfl rfl (by (try simp only [List.map_toArray, List.map_cons, List.map_nil]); first | done | rfl | (simp only [List.length_drop, List.length_take]; rfl)) ?_
              with_reducible refine (almanacref16_Same.calls k a1_0 _ _ l1_1 a2_0 _ _ l2_1 t501 _ ?side1 ?side2 ?side3 ?side4 A17.out).mono ?_
              (case side1 => repeat (first | exact (Kd.C_below HR1_1.out HB.out) | (with_reducible refine Kd.C_alloc ?_ _) | (with_reducible refine Kd.C_drewN ?_ _) | (with_reducible refine Kd.C_drew ?_)))
              (case side2 => exact HC1_1.out)
              (case side3 => repeat (first | exact (Kd.C_below HR2_1.out HB.out) | (with_reducible refine Kd.C_alloc ?_ _) | (with_reducible refine Kd.C_drewN ?_ _) | (with_reducible refine Kd.C_drew ?_)))
              (case side4 => exact HC2_1.out)
              rintro e w47 ⟨rfl, hb⟩
              refine ⟨_, rfl, ?_⟩
              have n0_ := Aside0.mk (Kd.V_below (by (with_reducible repeat (first | apply Kd.V_alloc | apply Kd.V_drewN | apply Kd.V_drew)); exact HO481.out) hb)
              have n1_ := Aside0.mk (Kd.V_below (by (with_reducible repeat (first | apply Kd.V_alloc | apply Kd.V_drewN | apply Kd.V_drew)); exact HO487.out) hb)
              have n2_ := Aside0.mk (Kd.R_below (by (with_reducible repeat (first | apply Kd.R_alloc | apply Kd.R_drewN | apply Kd.R_drew)); exact HO493.out) hb)
              have n3_ := Aside0.mk (Kd.R_below (by (with_reducible repeat (first | apply Kd.R_alloc | apply Kd.R_drewN | apply Kd.R_drew)); exact HO496.out) hb)
              have n4_ := Aside0.mk (blk_below (g := gb476) (o := .cells #[.string a1_0, .slice A1_1 l1_1.length c1_1] 24 (0, 0)) (by (with_reducible repeat (first | refine blk_drewN ?_ _ | refine blk_drew ?_ | refine blk_alloc ?_ _)); exact BK476.out) hb)
              have n5_ := Aside0.mk (blk_below (g := gb477) (o := .cells #[.string a2_0, .slice A2_1 l2_1.length c2_1] 24 (0, 0)) (by (with_reducible repeat (first | refine blk_drewN ?_ _ | refine blk_drew ?_ | refine blk_alloc ?_ _)); exact BK477.out) hb)
              have n6_ := Aside0.mk (blk_below (g := gb483) (o := .cells #[.string t478, .slice Ao29 t479.length co29] 24 (0, 0)) (by (with_reducible repeat (first | refine blk_drewN ?_ _ | refine blk_drew ?_ | refine blk_alloc ?_ _)); exact BK483.out) hb)
              have n7_ := Aside0.mk (blk_below (g := gb489) (o := .cells #[.string t484, .slice Ao36 t485.length co36] 24 (0, 0)) (by (with_reducible repeat (first | refine blk_drewN ?_ _ | refine blk_drew ?_ | refine blk_alloc ?_ _)); exact BK489.out) hb)
              have n8_ := Aside0.mk (below_step (by repeat (first | (with_reducible first | exact HB.out | apply below_alloc | apply pw_below_drewN | apply below_drew1 | refine below_set ?_ GE476.out | refine below_set ?_ GE477.out | refine below_set ?_ GE483.out | refine below_set ?_ GE489.out) | exact HB.out)) hb)
              clear HO481
              clear HO487
              clear HO493
              clear HO496
              clear BK476
              clear BK477
              clear BK483
              clear BK489
              clear HB
              have HO481 := n0_
              have HO487 := n1_
              have HO493 := n2_
              have HO496 := n3_
              have BK476 := n4_
              have BK477 := n5_
              have BK483 := n6_
              have BK489 := n7_
              have HB := n8_
              clear n0_ n1_ n2_ n3_ n4_ n5_ n6_ n7_ n8_
              (try clear hb)
              (try clear hb2)
              (try clear hk)
              (try clear hi)
              refine hK.out _ _ ⟨(blk_cell BK483.out 0).trans rfl, (blk_cell BK483.out 1).trans rfl, (blk_cell BK489.out 0).trans rfl, (blk_cell BK489.out 1).trans rfl, (blk_cell BK476.out 0).trans rfl, (blk_cell BK476.out 1).trans rfl, (blk_cell BK477.out 0).trans rfl, (blk_cell BK477.out 1).trans rfl⟩ (fun hHeld => ?_)
              clear hK K
              refine norm_ (a' := ?_) ?_ ?_
              rotate_left
              · show Act.put _ (some 47) _ = _
                simp only [Act.put, List.setIfInBounds_toArray, List.set_cons_zero, List.set_cons_succ, i64_w, i32_w]
                rfl
              refine pure_ (i := 27) (N := some 48) (v := ?_) (a' := ?_) #[true, true, true, true, true, true, true, true, true, true, true, true, true, true, true, true, true, true, true, true, true, true, true, true, true, true, true, true, false, false, false, false, false, false, false, false, false, false] rfl rfl (any_of HT_.out (by kernel_rfl)) (fun _ _ _ h => h) (Or.inl ⟨by rfl, ?_⟩) ?_ ?_
              rotate_left
              · intro w'
                go_simp
                with_reducible rfl
              rotate_left
              · simp only [Act.put, List.setIfInBounds_toArray, List.set_cons_zero, List.set_cons_succ, i64_w, i32_w]
                rfl
              refine pure_ (i := 28) (N := some 49) (v := ?_) (a' := ?_) #[true, true, true, true, true, true, true, true, true, true, true, true, true, true, true, true, true, true, true, true, true, true, true, true, true, true, true, true, true, false, false, false, false, false, false, false, false, false] rfl rfl (any_of HT_.out (by kernel_rfl)) (fun _ _ _ h => h) (Or.inl ⟨by rfl, ?_⟩) ?_ ?_
              rotate_left
              · intro w'
                go_simp
                with_reducible rfl
              rotate_left
              · simp only [Act.put, List.setIfInBounds_toArray, List.set_cons_zero, List.set_cons_succ, i64_w, i32_w]
                rfl
              refine pure_ (i := 29) (N := some 50) (v := ?_) (a' := ?_) #[true, true, true, true, true, true, true, true, true, true, true, true, true, true, true, true, true, true, true, true, true, true, true, true, true, true, true, true, true, true, false, false, false, false, false, false, false, false] rfl rfl (any_of HT_.out (by kernel_rfl)) (fun _ _ _ h => h) (Or.inl ⟨by rfl, ?_⟩) ?_ ?_
              rotate_left
              · intro w'
                go_simp
                with_reducible rfl
              rotate_left
              · simp only [Act.put, List.setIfInBounds_toArray, List.set_cons_zero, List.set_cons_succ, i64_w, i32_w]
                rfl
              refine take_ (i := 30) (N := some 51) (v := ?_) (a' := ?_) #[true, true, true, true, true, true, true, true, true, true, true, true, true, true, true, true, true, true, true, true, true, true, true, true, true, true, true, true, true, true, true, false, false, false, false, false, false, false] rfl rfl (take_ofW HT_.out HW_.out (by kernel_rfl)) (fun _ _ _ h => h) (Or.inl ⟨by rfl, ?_⟩) hHeld ?_ ?_
              rotate_left
              · rintro w' ⟨s0, s1, s2, s3, s4, s5, s6, s7⟩
                go_simp
                with_reducible rfl
              rotate_left
              · simp only [Act.put, List.setIfInBounds_toArray, List.set_cons_zero, List.set_cons_succ, i64_w, i32_w]
                rfl
              refine take_ (i := 31) (N := some 52) (v := ?_) (a' := ?_) #[true, true, true, true, true, true, true, true, true, true, true, true, true, true, true, true, true, true, true, true, true, true, true, true, true, true, true, true, true, true, true, true, false, false, false, false, false, false] rfl rfl (take_ofW HT_.out HW_.out (by kernel_rfl)) (fun _ _ _ h => h) (Or.inl ⟨by rfl, ?_⟩) hHeld ?_ ?_
              rotate_left
              · rintro w' ⟨s0, s1, s2, s3, s4, s5, s6, s7⟩
                go_simp
                with_reducible rfl
              rotate_left
              · simp only [Act.put, List.setIfInBounds_toArray, List.set_cons_zero, List.set_cons_succ, i64_w, i32_w]
                rfl
              refine one_ (i := 32) (N := some 53) #[true, true, true, true, true, true, true, true, true, true, true, true, true, true, true, true, true, true, true, true, true, true, true, true, true, true, true, true, true, true, true, true, true, false, false, false, false, false] rfl rfl (one_of HT_.out (by kernel_rfl)) (by decide) (fun K hK => ?_)
              refine goes_ Tryz.func21 (by kernel_rfl) rfl #[.agg #[.string a1_0, .slice A1_1 l1_1.length c1_1], .agg #[.string a1_0, .slice A1_1 l1_1.length c1_1]] (by rfl) rfl rfl (by (try simp only [List.map_toArray, List.map_cons, List.map_nil]); first | done | rfl | (simp only [List.length_drop, List.length_take]; rfl)) ?_
              with_reducible refine (zone_Same.calls k a1_0 _ _ l1_1 a1_0 _ _ l1_1 true _ ?side1 ?side2 ?side3 ?side4 A19.out).mono ?_
              (case side1 => repeat (first | exact (Kd.C_below HR1_1.out HB.out) | (with_reducible refine Kd.C_alloc ?_ _) | (with_reducible refine Kd.C_drewN ?_ _) | (with_reducible refine Kd.C_drew ?_)))
              (case side2 => exact HC1_1.out)
              (case side3 => repeat (first | exact (Kd.C_below HR1_1.out HB.out) | (with_reducible refine Kd.C_alloc ?_ _) | (with_reducible refine Kd.C_drewN ?_ _) | (with_reducible refine Kd.C_drew ?_)))
              (case side4 => exact HC1_1.out)
              rintro e w48 ⟨rfl, hb⟩
              refine ⟨_, rfl, ?_⟩
              have n0_ := Aside0.mk (Kd.V_below (by (with_reducible repeat (first | apply Kd.V_alloc | apply Kd.V_drewN | apply Kd.V_drew)); exact HO481.out) hb)
              have n1_ := Aside0.mk (Kd.V_below (by (with_reducible repeat (first | apply Kd.V_alloc | apply Kd.V_drewN | apply Kd.V_drew)); exact HO487.out) hb)
              have n2_ := Aside0.mk (Kd.R_below (by (with_reducible repeat (first | apply Kd.R_alloc | apply Kd.R_drewN | apply Kd.R_drew)); exact HO493.out) hb)
              have n3_ := Aside0.mk (Kd.R_below (by (with_reducible repeat (first | apply Kd.R_alloc | apply Kd.R_drewN | apply Kd.R_drew)); exact HO496.out) hb)
              have n4_ := Aside0.mk (blk_below (g := gb476) (o := .cells #[.string a1_0, .slice A1_1 l1_1.length c1_1] 24 (0, 0)) (by (with_reducible repeat (first | refine blk_drewN ?_ _ | refine blk_drew ?_ | refine blk_alloc ?_ _)); exact BK476.out) hb)
              have n5_ := Aside0.mk (blk_below (g := gb477) (o := .cells #[.string a2_0, .slice A2_1 l2_1.length c2_1] 24 (0, 0)) (by (with_reducible repeat (first | refine blk_drewN ?_ _ | refine blk_drew ?_ | refine blk_alloc ?_ _)); exact BK477.out) hb)
              have n6_ := Aside0.mk (blk_below (g := gb483) (o := .cells #[.string t478, .slice Ao29 t479.length co29] 24 (0, 0)) (by (with_reducible repeat (first | refine blk_drewN ?_ _ | refine blk_drew ?_ | refine blk_alloc ?_ _)); exact BK483.out) hb)
              have n7_ := Aside0.mk (blk_below (g := gb489) (o := .cells #[.string t484, .slice Ao36 t485.length co36] 24 (0, 0)) (by (with_reducible repeat (first | refine blk_drewN ?_ _ | refine blk_drew ?_ | refine blk_alloc ?_ _)); exact BK489.out) hb)
              have n8_ := Aside0.mk (below_step (by repeat (first | (with_reducible first | exact HB.out | apply below_alloc | apply pw_below_drewN | apply below_drew1 | refine below_set ?_ GE476.out | refine below_set ?_ GE477.out | refine below_set ?_ GE483.out | refine below_set ?_ GE489.out) | exact HB.out)) hb)
              clear HO481
              clear HO487
              clear HO493
              clear HO496
              clear BK476
              clear BK477
              clear BK483
              clear BK489
              clear HB
              have HO481 := n0_
              have HO487 := n1_
              have HO493 := n2_
              have HO496 := n3_
              have BK476 := n4_
              have BK477 := n5_
              have BK483 := n6_
              have BK489 := n7_
              have HB := n8_
              clear n0_ n1_ n2_ n3_ n4_ n5_ n6_ n7_ n8_
              (try clear hb)
              (try clear hb2)
              (try clear hk)
              (try clear hi)
              refine hK.out _ _ ⟨(blk_cell BK483.out 0).trans rfl, (blk_cell BK483.out 1).trans rfl, (blk_cell BK489.out 0).trans rfl, (blk_cell BK489.out 1).trans rfl, (blk_cell BK476.out 0).trans rfl, (blk_cell BK476.out 1).trans rfl, (blk_cell BK477.out 0).trans rfl, (blk_cell BK477.out 1).trans rfl⟩ (fun hHeld => ?_)
              clear hK K
              refine norm_ (a' := ?_) ?_ ?_
              rotate_left
              · show Act.put _ (some 53) _ = _
                simp only [Act.put, List.setIfInBounds_toArray, List.set_cons_zero, List.set_cons_succ, i64_w, i32_w]
                rfl
              refine pure_ (i := 33) (N := some 54) (v := ?_) (a' := ?_) #[true, true, true, true, true, true, true, true, true, true, true, true, true, true, true, true, true, true, true, true, true, true, true, true, true, true, true, true, true, true, true, true, true, true, false, false, false, false] rfl rfl (any_of HT_.out (by kernel_rfl)) (fun _ _ _ h => h) (Or.inl ⟨by rfl, ?_⟩) ?_ ?_
              rotate_left
              · intro w'
                go_simp
                with_reducible rfl
              rotate_left
              · simp only [Act.put, List.setIfInBounds_toArray, List.set_cons_zero, List.set_cons_succ, i64_w, i32_w]
                rfl
              refine pure_ (i := 34) (N := some 55) (v := ?_) (a' := ?_) #[true, true, true, true, true, true, true, true, true, true, true, true, true, true, true, true, true, true, true, true, true, true, true, true, true, true, true, true, true, true, true, true, true, true, true, false, false, false] rfl rfl (any_of HT_.out (by kernel_rfl)) (fun _ _ _ h => h) (Or.inl ⟨by rfl, ?_⟩) ?_ ?_
              rotate_left
              · intro w'
                go_simp
                with_reducible rfl
              rotate_left
              · simp only [Act.put, List.setIfInBounds_toArray, List.set_cons_zero, List.set_cons_succ, i64_w, i32_w]
                rfl
              refine one_ (i := 35) (N := some 56) #[true, true, true, true, true, true, true, true, true, true, true, true, true, true, true, true, true, true, true, true, true, true, true, true, true, true, true, true, true, true, true, true, true, true, true, true, false, false] rfl rfl (one_of HT_.out (by kernel_rfl)) (by decide) (fun K hK => ?_)
              refine goes_ Tryz.func12 (by kernel_rfl) rfl #[] (by rfl) rfl rfl (by (try simp only [List.map_toArray, List.map_cons, List.map_nil]); first | done | rfl | (simp only [List.length_drop, List.length_take]; rfl)) ?_
              with_reducible refine (almanaclaw16_awake.calls  t503 _ A21.out (HTab.out.below (by repeat (first | (with_reducible first | exact HB.out | apply below_alloc | apply pw_below_drewN | apply below_drew1) | exact HB.out)))).mono ?_
              rintro e w49 ⟨rfl, hb⟩
              refine ⟨_, rfl, ?_⟩
              have n0_ := Aside0.mk (Kd.V_below (by (with_reducible repeat (first | apply Kd.V_alloc | apply Kd.V_drewN | apply Kd.V_drew)); exact HO481.out) hb)
              have n1_ := Aside0.mk (Kd.V_below (by (with_reducible repeat (first | apply Kd.V_alloc | apply Kd.V_drewN | apply Kd.V_drew)); exact HO487.out) hb)
              have n2_ := Aside0.mk (Kd.R_below (by (with_reducible repeat (first | apply Kd.R_alloc | apply Kd.R_drewN | apply Kd.R_drew)); exact HO493.out) hb)
              have n3_ := Aside0.mk (Kd.R_below (by (with_reducible repeat (first | apply Kd.R_alloc | apply Kd.R_drewN | apply Kd.R_drew)); exact HO496.out) hb)
              have n4_ := Aside0.mk (blk_below (g := gb476) (o := .cells #[.string a1_0, .slice A1_1 l1_1.length c1_1] 24 (0, 0)) (by (with_reducible repeat (first | refine blk_drewN ?_ _ | refine blk_drew ?_ | refine blk_alloc ?_ _)); exact BK476.out) hb)
              have n5_ := Aside0.mk (blk_below (g := gb477) (o := .cells #[.string a2_0, .slice A2_1 l2_1.length c2_1] 24 (0, 0)) (by (with_reducible repeat (first | refine blk_drewN ?_ _ | refine blk_drew ?_ | refine blk_alloc ?_ _)); exact BK477.out) hb)
              have n6_ := Aside0.mk (blk_below (g := gb483) (o := .cells #[.string t478, .slice Ao29 t479.length co29] 24 (0, 0)) (by (with_reducible repeat (first | refine blk_drewN ?_ _ | refine blk_drew ?_ | refine blk_alloc ?_ _)); exact BK483.out) hb)
              have n7_ := Aside0.mk (blk_below (g := gb489) (o := .cells #[.string t484, .slice Ao36 t485.length co36] 24 (0, 0)) (by (with_reducible repeat (first | refine blk_drewN ?_ _ | refine blk_drew ?_ | refine blk_alloc ?_ _)); exact BK489.out) hb)
              have n8_ := Aside0.mk (below_step (by repeat (first | (with_reducible first | exact HB.out | apply below_alloc | apply pw_below_drewN | apply below_drew1 | refine below_set ?_ GE476.out | refine below_set ?_ GE477.out | refine below_set ?_ GE483.out | refine below_set ?_ GE489.out) | exact HB.out)) hb)
              clear HO481
              clear HO487
              clear HO493
              clear HO496
              clear BK476
              clear BK477
              clear BK483
              clear BK489
              clear HB
              have HO481 := n0_
              have HO487 := n1_
              have HO493 := n2_
              have HO496 := n3_
              have BK476 := n4_
              have BK477 := n5_
              have BK483 := n6_
              have BK489 := n7_
              have HB := n8_
              clear n0_ n1_ n2_ n3_ n4_ n5_ n6_ n7_ n8_
              (try clear hb)
              (try clear hb2)
              (try clear hk)
              (try clear hi)
              refine hK.out _ _ ⟨(blk_cell BK483.out 0).trans rfl, (blk_cell BK483.out 1).trans rfl, (blk_cell BK489.out 0).trans rfl, (blk_cell BK489.out 1).trans rfl, (blk_cell BK476.out 0).trans rfl, (blk_cell BK476.out 1).trans rfl, (blk_cell BK477.out 0).trans rfl, (blk_cell BK477.out 1).trans rfl⟩ (fun hHeld => ?_)
              clear hK K
              refine norm_ (a' := ?_) ?_ ?_
              rotate_left
              · show Act.put _ (some 56) _ = _
                simp only [Act.put, List.setIfInBounds_toArray, List.set_cons_zero, List.set_cons_succ, i64_w, i32_w]
                rfl
              refine pure_ (i := 36) (N := some 57) (v := ?_) (a' := ?_) #[true, true, true, true, true, true, true, true, true, true, true, true, true, true, true, true, true, true, true, true, true, true, true, true, true, true, true, true, true, true, true, true, true, true, true, true, true, false] rfl rfl (any_of HT_.out (by kernel_rfl)) (fun _ _ _ h => h) (Or.inl ⟨by rfl, ?_⟩) ?_ ?_
              rotate_left
              · intro w'
                go_simp
                with_reducible rfl
              rotate_left
              · simp only [Act.put, List.setIfInBounds_toArray, List.set_cons_zero, List.set_cons_succ, i64_w, i32_w]
                rfl
              refine pure_ (i := 37) (N := some 6) (v := ?_) (a' := ?_) #[true, true, true, true, true, true, true, true, true, true, true, true, true, true, true, true, true, true, true, true, true, true, true, true, true, true, true, true, true, true, true, true, true, true, true, true, true, true] rfl rfl (any_of HT_.out (by kernel_rfl)) (fun _ _ _ h => h) (Or.inl ⟨by rfl, ?_⟩) ?_ ?_
              rotate_left
              · intro w'
                go_simp
                with_reducible rfl
              rotate_left
              · simp only [Act.put, List.setIfInBounds_toArray, List.set_cons_zero, List.set_cons_succ, i64_w, i32_w]
                rfl
              refine done_ (done_of HT_.out (by kernel_rfl)) ?_
              try go_wp2
              go_ret
              exact ⟨by first | rfl | (simp [errW_none, errW_some] <;> rfl) | (simp [*, errW_none, errW_some] <;> rfl), by repeat (first | (with_reducible first | exact HB.out | apply below_alloc | apply pw_below_drewN | apply below_drew1 | refine below_set ?_ GE476.out | refine below_set ?_ GE477.out | refine below_set ?_ GE483.out | refine below_set ?_ GE489.out) | exact HB.out)⟩
            · replace c20 := Bool.eq_false_iff.mpr c20
              subst c20
              have H1 : (some false) = some r := by rw [if_neg (show ¬ (false = true) by decide)] at H; exact H
              clear H
              have H := H1
              clear H1
              exact absurd ((Option.some.inj H).trans HRT.out) (by decide)
          · rw [if_neg c18] at H
            have c18b0 : (t500 == t501) = false := by simpa using c18
            (try (have c18b1 : decide (t500 = t501) = false := by simpa using c18))
            (try (have c18b2 : (t500 == t501) = false := by simpa using c18))
            (try (have c18b3 : ¬ (t500 = t501) := by simpa using c18))
            clear c18
            exact absurd ((Option.some.inj H).trans HRT.out) (by decide)
        · rw [if_neg c15] at H
          have c15b0 : (t498 == t499) = false := by simpa using c15
          (try (have c15b1 : decide (t498 = t499) = false := by simpa using c15))
          (try (have c15b2 : (t498 == t499) = false := by simpa using c15))
          (try (have c15b3 : ¬ (t498 = t499) := by simpa using c15))
          clear c15
          exact absurd ((Option.some.inj H).trans HRT.out) (by decide)
      · replace c12 := Bool.eq_false_iff.mpr c12
        subst c12
        have H1 : (some false) = some r := by rw [if_neg (show ¬ (false = true) by decide)] at H; exact H
        clear H
        have H := H1
        clear H1
        exact absurd ((Option.some.inj H).trans HRT.out) (by decide)
    · rw [if_neg c8] at H
      have c8b0 : (t482 == t488) = false := by simpa using c8
      (try (have c8b1 : decide (t482 = t488) = false := by simpa using c8))
      (try (have c8b2 : (t482 == t488) = false := by simpa using c8))
      (try (have c8b3 : ¬ (t482 = t488) := by simpa using c8))
      clear c8
      exact absurd ((Option.some.inj H).trans HRT.out) (by decide)
  · replace c7 := Bool.eq_false_iff.mpr c7
    subst c7
    have H1 : (some false) = some r := by rw [if_neg (show ¬ (false = true) by decide)] at H; exact H
    clear H
    have H := H1
    clear H1
    exact absurd ((Option.some.inj H).trans HRT.out) (by decide)
end Go.Proofs.YtmajmolbjiahlaaGreatDoor.PD
namespace Go.Proofs.YtmajmolbjiahlaaGreatDoor.PD
open Go.RowKit Go.Proofs.YtmajmolbjiahlaaGreatDoorW.PrintWords Go.Proofs.YtmajmolbjiahlaaGreatDoorW.PrintLast Go.Proofs.YtmajmolbjiahlaaGreatDoorW.PrintMore
set_option linter.unusedVariables false
set_option linter.unusedSimpArgs false
def neO (a b : S32) : Bool := (!(a.f0 == b.f0) || (!(a.f1 == b.f1) || (!(a.f2 == b.f2) || (!(a.f3 == b.f3) || (!(a.f4 == b.f4) || ((!(a.f5.f0 == b.f5.f0) || (!(a.f5.f1 == b.f5.f1)))))))))
theorem neO_self (a : S32) : neO a a = false := by simp [neO]
def sameP : List S32 → List S32 → Bool
  | a :: l, b :: m => !neO a b && sameP l m
  | _, _ => true
theorem sameP_self : ∀ l : List S32, sameP l l = true
  | [] => rfl
  | a :: l => by show (!neO a a && sameP l l) = true; rw [neO_self, sameP_self l]; rfl
def sameZ (n : ByteArray) (l : List S32) (n' : ByteArray) (m : List S32) : Bool := decide (n.toList = n'.toList) && (decide (l.length = m.length) && sameP l m)
theorem sameZ_self (n : ByteArray) (l : List S32) : sameZ n l n l = true := by unfold sameZ; simp [sameP_self]
theorem rsame_loop (n : ByteArray) (l : List S32) (n' : ByteArray) (m : List S32) (hl : l.length = m.length) (hb : l.length < 4398046511104) : ∀ d i : Nat, l.length - i = d → i ≤ l.length →
    Ev (fun k => almanacref16_Same.l0 k (i : Int) n l n' m) (sameP (l.drop i) (m.drop i)) := by
  intro d
  induction d with
  | zero =>
    intro i hd hi
    rw [List.drop_eq_nil_of_le (by omega), List.drop_eq_nil_of_le (by omega)]
    exact Ev.step (f := fun _ => some true) (fun k => by simp only [almanacref16_Same.l0]; rw [if_neg (by omega)]) (Ev.now _)
  | succ d ih =>
    intro i hd hi
    have h1 : i < l.length := by omega
    have h2 : i < m.length := by omega
    have hw : Aside0 (wrap64 ((i : Int) + 1) = ((i + 1 : Nat) : Int)) := ⟨w64n (by omega)⟩
    rw [List.drop_eq_getElem_cons h1, List.drop_eq_getElem_cons h2]
    have ihj := ih (i + 1) (by omega) (by omega)
    by_cases h : neO l[i] m[i] = true
    · have e : sameP (l[i] :: l.drop (i + 1)) (m[i] :: m.drop (i + 1)) = false := by show (!neO l[i] m[i] && _) = false; rw [h]; rfl
      rw [e]
      refine Ev.step (f := fun _ => some false) (fun k => ?_) (Ev.now _)
      simp only [almanacref16_Same.l0]
      rw [if_pos (by omega), if_pos (by omega), if_pos (by omega), rd_atO h1, rd_atO h2]
      exact if_pos h
    · have e : sameP (l[i] :: l.drop (i + 1)) (m[i] :: m.drop (i + 1)) = sameP (l.drop (i + 1)) (m.drop (i + 1)) := by
        show (!neO l[i] m[i] && _) = _
        rw [show neO l[i] m[i] = false by simpa using h]
        rfl
      rw [e]
      refine Ev.step (fun k => ?_) ihj
      simp only [almanacref16_Same.l0]
      rw [if_pos (by omega), if_pos (by omega), if_pos (by omega), rd_atO h1, rd_atO h2, hw.out]
      exact if_neg h
theorem rsame_val (n : ByteArray) (l : List S32) (n' : ByteArray) (m : List S32) (hb : l.length < 4398046511104) : Ev (fun k => almanacref16_Same.f k n l n' m) (sameZ n l n' m) := by
  have hj : Ev (fun k => almanacref16_Same.j0 k true n l n' m) false := Ev.step (f := fun _ => some false) (fun k => by simp only [almanacref16_Same.j0]; rw [if_pos (by trivial)]) (Ev.now _)
  unfold sameZ
  by_cases h0 : n.toList = n'.toList
  · by_cases hl : l.length = m.length
    · refine Ev.congr (f := fun k => almanacref16_Same.j0 k false n l n' m) (fun k => by
        unfold almanacref16_Same.f
        rw [if_pos h0]
        congr 1
        rw [hl]
        simp) ?_
      rw [decide_eq_true h0, decide_eq_true hl, Bool.true_and, Bool.true_and]
      refine Ev.step (f := fun k => almanacref16_Same.l0 k ((0 : Nat) : Int) n l n' m) (fun k => by simp only [almanacref16_Same.j0]; rw [if_neg (by simp)]; rfl) ?_
      have := rsame_loop n l n' m hl hb _ 0 rfl (Nat.zero_le _)
      rwa [List.drop_zero, List.drop_zero] at this
    · refine Ev.congr (f := fun k => almanacref16_Same.j0 k true n l n' m) (fun k => by
        unfold almanacref16_Same.f
        rw [if_pos h0]
        congr 1
        simp only [bne_iff_ne, ne_eq]
        omega) ?_
      rw [decide_eq_false hl, Bool.false_and, Bool.and_false]
      exact hj
  · refine Ev.congr (f := fun k => almanacref16_Same.j0 k true n l n' m) (fun k => by unfold almanacref16_Same.f; rw [if_neg h0]) ?_
    rw [decide_eq_false h0, Bool.false_and]
    exact hj
theorem zsame_loop (l m : List S32) (hl : l.length = m.length) (hb : l.length < 4398046511104) : ∀ d i : Nat, l.length - i = d → i ≤ l.length →
    Ev (fun k => api_Obs_41.l0 k l m (l.length : Int) (i : Int)) (sameP (l.drop i) (m.drop i)) := by
  intro d
  induction d with
  | zero =>
    intro i hd hi
    rw [List.drop_eq_nil_of_le (by omega), List.drop_eq_nil_of_le (by omega)]
    exact Ev.step (f := fun _ => some true) (fun k => by simp only [api_Obs_41.l0]; rw [if_neg (by omega)]) (Ev.now _)
  | succ d ih =>
    intro i hd hi
    have h1 : i < l.length := by omega
    have h2 : i < m.length := by omega
    have hw : Aside0 (wrap64 ((i : Int) + 1) = ((i + 1 : Nat) : Int)) := ⟨w64n (by omega)⟩
    rw [List.drop_eq_getElem_cons h1, List.drop_eq_getElem_cons h2]
    have ihj := ih (i + 1) (by omega) (by omega)
    by_cases h : neO l[i] m[i] = true
    · have e : sameP (l[i] :: l.drop (i + 1)) (m[i] :: m.drop (i + 1)) = false := by show (!neO l[i] m[i] && _) = false; rw [h]; rfl
      rw [e]
      refine Ev.step (f := fun _ => some false) (fun k => ?_) (Ev.now _)
      simp only [api_Obs_41.l0]
      rw [if_pos (by omega), if_pos (by omega), if_pos (by omega), if_pos (by omega), rd_atO h1, rd_atO h2]
      exact if_pos h
    · have e : sameP (l[i] :: l.drop (i + 1)) (m[i] :: m.drop (i + 1)) = sameP (l.drop (i + 1)) (m.drop (i + 1)) := by
        show (!neO l[i] m[i] && _) = _
        rw [show neO l[i] m[i] = false by simpa using h]
        rfl
      rw [e]
      refine Ev.step (fun k => ?_) ihj
      simp only [api_Obs_41.l0]
      rw [if_pos (by omega), if_pos (by omega), if_pos (by omega), if_pos (by omega), rd_atO h1, rd_atO h2, hw.out]
      exact if_neg h
theorem zsame_val (n : ByteArray) (l : List S32) (n' : ByteArray) (m : List S32) (hb : l.length < 4398046511104) : Ev (fun k => zone_Same.f k n l n' m) (sameZ n l n' m) := by
  unfold sameZ
  by_cases h0 : n.toList = n'.toList
  · rw [decide_eq_true h0, Bool.true_and]
    refine Ev.congr (f := fun k => api_Obs_41.f k l m) (fun k => by unfold zone_Same.f; rw [if_pos h0]; cases api_Obs_41.f k l m <;> rfl) ?_
    by_cases hl : l.length = m.length
    · rw [decide_eq_true hl, Bool.true_and]
      refine Ev.congr (f := fun k => api_Obs_41.l0 k l m (l.length : Int) ((0 : Nat) : Int)) (fun k => by unfold api_Obs_41.f; rw [if_pos (by omega)]; rfl) ?_
      have := zsame_loop l m hl hb _ 0 rfl (Nat.zero_le _)
      rwa [List.drop_zero, List.drop_zero] at this
    · rw [decide_eq_false hl, Bool.false_and]
      exact Ev.congr (f := fun k => some false) (fun k => by unfold api_Obs_41.f; rw [if_neg (by omega)]) (Ev.now _)
  · rw [decide_eq_false h0, Bool.false_and]
    exact Ev.congr (f := fun k => some false) (fun k => by unfold zone_Same.f; rw [if_neg h0]) (Ev.now _)
theorem rd_at24 {l : List S24} {i : Nat} (h : i < l.length) : rd_T24 l (i : Int) = l[i] := by simp only [rd_T24, Int.toNat_natCast]; simp [h]
theorem named_loop (a0 : ByteArray) (l : List S24) (hb : l.length < 1000) : ∀ d i : Nat, l.length - i = d → i ≤ l.length → Ev (fun k => almanacref16_Named.l0 k a0 l (i : Int)) (pickZ a0 (l.drop i)) := by
  intro d
  induction d with
  | zero =>
    intro i hd hi
    rw [List.drop_eq_nil_of_le (by omega)]
    exact Ev.step (f := fun _ => some ((⟨#[]⟩ : ByteArray), [], false)) (fun k => by simp only [almanacref16_Named.l0]; rw [if_neg (by omega)]) (Ev.now _)
  | succ d ih =>
    intro i hd hi
    have h1 : i < l.length := by omega
    have hw : Aside0 (wrap64 ((i : Int) + 1) = ((i + 1 : Nat) : Int)) := ⟨w64n (by omega)⟩
    rw [List.drop_eq_getElem_cons h1]
    have ihj := ih (i + 1) (by omega) (by omega)
    by_cases h : l[i].f0.toList = a0.toList
    · have e : pickZ a0 (l[i] :: l.drop (i + 1)) = (l[i].f0, l[i].f1, true) := by unfold pickZ; rw [List.find?_cons_of_pos (by simpa using h)]
      rw [e]
      refine Ev.step (f := fun _ => some (l[i].f0, l[i].f1, true)) (fun k => ?_) (Ev.now _)
      simp only [almanacref16_Named.l0]
      rw [if_pos (by omega), if_pos (by omega), rd_at24 h1, if_pos h]
    · have e : pickZ a0 (l[i] :: l.drop (i + 1)) = pickZ a0 (l.drop (i + 1)) := by unfold pickZ; rw [List.find?_cons_of_neg (by simpa using h)]
      rw [e]
      refine Ev.step (fun k => ?_) ihj
      simp only [almanacref16_Named.l0]
      rw [if_pos (by omega), if_pos (by omega), rd_at24 h1, if_neg h, hw.out]
def smallZ (l : List S24) : Bool := decide (l.length < 1000) && l.all fun z => decide (z.f1.length < 1000)
set_option maxRecDepth 100000 in
theorem zones_small : (zone_known.f.all smallZ) = true := by decide +kernel
theorem toList_inj {a b : ByteArray} (h : a.toList = b.toList) : a = b := by
  rw [Lib.toList_data, Lib.toList_data] at h
  cases a; cases b
  simp only at h
  congr 1
  exact Array.toList_inj.1 h
def eqZ : List S24 → List S24 → Bool
  | a :: l, b :: m => decide (a.f0.toList = b.f0.toList) && (decide (a.f1.length = b.f1.length) && sameP a.f1 b.f1 && eqZ l m)
  | [], [] => true
  | _, _ => false
theorem neO_eq {a b : S32} (h : neO a b = false) : a = b := by
  obtain ⟨a0, a1, a2, a3, a4, ⟨a5, a6⟩⟩ := a
  obtain ⟨b0, b1, b2, b3, b4, ⟨b5, b6⟩⟩ := b
  simp only [neO, Bool.or_eq_false_iff, Bool.not_eq_false', beq_iff_eq] at h
  obtain ⟨rfl, rfl, rfl, rfl, rfl, rfl, rfl⟩ := h
  rfl
theorem sameP_eq : ∀ {l m : List S32}, l.length = m.length → sameP l m = true → l = m
  | [], [], _, _ => rfl
  | a :: l, b :: m, hl, h => by
    have h' : (!neO a b && sameP l m) = true := h
    rw [Bool.and_eq_true] at h'
    have e : a = b := neO_eq (by simpa using h'.1)
    rw [e, sameP_eq (by simpa using hl) h'.2]
  | [], b :: m, hl, _ => by simp at hl
  | a :: l, [], hl, _ => by simp at hl
theorem eqZ_eq : ∀ {l m : List S24}, eqZ l m = true → l = m
  | [], [], _ => rfl
  | a :: l, b :: m, h => by
    obtain ⟨a0, a1⟩ := a
    obtain ⟨b0, b1⟩ := b
    have h' : (decide (a0.toList = b0.toList) && (decide (a1.length = b1.length) && sameP a1 b1 && eqZ l m)) = true := h
    simp only [Bool.and_eq_true, decide_eq_true_eq] at h'
    obtain ⟨h0, ⟨h1, h2⟩, h3⟩ := h'
    rw [eqZ_eq h3, sameP_eq h1 h2, toList_inj h0]
  | [], b :: m, h => by cases h
  | a :: l, [], h => by cases h
def eqOZ (a b : Option (List S24)) : Bool := match a, b with | some l, some m => eqZ l m | _, _ => false
set_option maxRecDepth 100000 in
theorem zones_eqB : eqOZ (almanacref16_zones.f 40) zone_known.f = true := by decide +kernel
theorem zones_ex : ∃ l : List S24, zone_known.f = some l ∧ almanacref16_zones.f 40 = some l ∧ smallZ l = true := by
  have h := zones_eqB
  have hs := zones_small
  unfold eqOZ at h
  split at h
  · rename_i l m h1 h2
    rw [h2] at hs
    refine ⟨m, h2, ?_, hs⟩
    rw [h1, eqZ_eq h]
  · cases h
def eqT : List ByteArray → List ByteArray → Bool
  | a :: l, b :: m => decide (a.toList = b.toList) && eqT l m
  | [], [] => true
  | _, _ => false
theorem eqT_eq : ∀ {l m : List ByteArray}, eqT l m = true → l = m
  | [], [], _ => rfl
  | a :: l, b :: m, h => by
    have h' : (decide (a.toList = b.toList) && eqT l m) = true := h
    simp only [Bool.and_eq_true, decide_eq_true_eq] at h'
    rw [eqT_eq h'.2, toList_inj h'.1]
  | [], b :: m, h => by cases h
  | a :: l, [], h => by cases h
def eqOT (a b : Option (List ByteArray)) : Bool := match a, b with | some l, some m => eqT l m && (match almanacref08_Texts.f 40 m m with | some b => b | none => false) | _, _ => false
set_option maxRecDepth 100000 in
theorem names_eqB : eqOT (almanacref16_Names.f 40) (zone_Names.f 40) = true := by decide +kernel
theorem names_ex : ∃ l : List ByteArray, zone_Names.f 40 = some l ∧ almanacref16_Names.f 40 = some l ∧ almanacref08_Texts.f 40 l l = some true := by
  have h := names_eqB
  unfold eqOT at h
  split at h
  · rename_i l m h1 h2
    rw [Bool.and_eq_true] at h
    refine ⟨m, h2, by rw [h1, eqT_eq h.1], ?_⟩
    have h3 := h.2
    split at h3
    · rename_i b hb; rw [hb, h3]
    · cases h3
  · cases h
theorem knows_true (a0 n1 : ByteArray) (l1 : List S32) (n2 : ByteArray) (l2 : List S32) (h1 : l1.length < 4398046511104) : ∃ k, almanaclaw16_ZoneKnows.f k a0 n1 l1 n2 l2 = some true := by
  refine Ev.rounds ?_
  obtain ⟨Z, hz, hr, hs⟩ := zones_ex
  obtain ⟨T, ht, hu, hv⟩ := names_ex
  have hs' : Z.length < 1000 ∧ ∀ z ∈ Z, z.f1.length < 1000 := by unfold smallZ at hs; simpa using hs
  have hpl : (pickZ a0 Z).2.1.length < 4398046511104 := by
    unfold pickZ
    split
    · rename_i z hf
      have := hs'.2 z (List.mem_of_find?_eq_some hf)
      simp only
      omega
    · simp
  refine Ev.bind (a := pickZ a0 Z) (Ev.congr (fun k => by unfold zone_Named.f; rw [hz, Option.bind_some]) (Ev.now _)) ?_
  refine Ev.bind (a := pickZ a0 Z) ?_ ?_
  · refine Ev.bind (Ev.of (fun k => almanacref16_zones.mono k) hr) ?_
    have := named_loop a0 Z hs'.1 _ 0 rfl (Nat.zero_le _)
    rwa [List.drop_zero] at this
  refine Ev.bind (rsame_val _ _ _ _ hpl) ?_
  rw [sameZ_self]
  refine Ev.congr (fun k => by rw [if_pos (by trivial), if_pos (by simp)]) ?_
  refine Ev.bind (Ev.of (fun k => zone_Names.mono k) ht) ?_
  refine Ev.bind (Ev.of (fun k => almanacref16_Names.mono k) hu) ?_
  refine Ev.bind (Ev.of (fun k => almanacref08_Texts.mono T T k) hv) ?_
  refine Ev.congr (fun k => by rw [if_pos (by trivial)]) ?_
  refine Ev.bind (a := fitZ l1) (Ev.now _) ?_
  refine Ev.bind (fitR n1 l1 h1) ?_
  refine Ev.congr (fun k => by rw [if_pos (by simp)]) ?_
  refine Ev.bind (zsame_val n1 l1 n2 l2 h1) ?_
  refine Ev.bind (rsame_val n1 l1 n2 l2 h1) ?_
  refine Ev.congr (fun k => by rw [if_pos (by simp)]) ?_
  refine Ev.bind (zsame_val n1 l1 n1 l1 h1) ?_
  rw [sameZ_self]
  exact Ev.congr (f := fun _ => some true) (fun k => by rw [if_pos (by trivial)]; rfl) (Ev.now _)
end Go.Proofs.YtmajmolbjiahlaaGreatDoor.PD
namespace Go.Proofs.YtmajmolbjiahlaaGreatDoor.PD
open Go.ChangeShapes Go.WideShapes Go.ChangeAt Go.RowKit Go.Proofs.YtmajmolbjiahlaaGreatDoorW.PrintWords
set_option linter.unusedVariables false
open _root_.Go.Proofs.YtmajmolbjiahlaaGreatDoor.Rows
set_option maxRecDepth 100000 in
theorem zoneKnows_lifted (os : Os) (started : os.Started) (H : Type) (enc : TypeId × Value → H) :
    ReturnsInHanded {} Tryz.checked os 5 .any (fun w args => (zoneKnowsSpec.pre enc Tryz.prog Tryz.f5 zoneKnowsRow.domain false w args ∧ laidMetH Tryz.prog laidL w) ∧ sizedMet enc Tryz.prog Tryz.f5 (OpenSpec.ofChange zoneKnowsSpec) false w args)
      (zoneKnowsSpec.post enc Tryz.prog Tryz.f5 false true false false) := by
  refine returnsInHanded_of_change_and (C := Tryz.checked) (X := fun w _ => laidMetH Tryz.prog laidL w) (fun _ _ _ hh h => h.of_heap hh) own started (by kernel_rfl) Tryz.func5
    (ChangeSpec.witness_shaped (enc := enc) (C := Tryz.checked) (os := os) (X := fun w _ => laidMetH Tryz.prog laidL w) false (World.doorLaid Tryz.prog 400 os) #[.string ⟨#[]⟩, .agg #[.string ⟨#[]⟩, .slice none 0 0], .agg #[.string ⟨#[]⟩, .slice none 0 0]] 8 rfl (World.shaped_of_RefB (by kernel_rfl) (by kernel_rfl)) (by kernel_rfl) (by kernel_rfl) (by kernel_rfl) (door_met os _)) ?_
  intro W base args ds gs before hval0 hW hcnd hsz0 hL _
  have hsz : (DataW.weightsEach Tryz.prog (Tryz.f5.params.toList ++ zoneKnowsSpec.plain.varTypes Tryz.prog) (ds ++ gs)).all (· ≤ reachBytes) = true := hsz0
  have hval : ∀ (j : Nat) t v, Tryz.f5.params[j]? = some t → args[j]? = some v → Value.okWide Tryz.prog W .any base t v := hval0
  have hW' := hW
  obtain ⟨p, q, hA0, hV, rfl, hfz, hnd⟩ := hW
  have hA : DataW.TrodAll enc Tryz.prog W 0 (fun _ => true) true Tryz.f5.params.toList args.toList ds p := hA0
  rw [Tryz.params5] at hA hval hsz
  obtain ⟨v0, vs0, d0, ds0, p0, q0, hargs, rfl, rfl, h0, r0⟩ := trodAll_cons hA
  obtain ⟨v1, vs1, d1, ds1, p1, q1, rfl, rfl, rfl, h1, r1⟩ := trodAll_cons r0
  obtain ⟨v2, vs2, d2, ds2, p2, q2, rfl, rfl, rfl, h2, r2⟩ := trodAll_cons r1
  obtain ⟨rfl, rfl, rfl⟩ := trodAll_nil r2
  obtain rfl : args = #[v0, v1, v2] := by cases args; simp_all
  obtain ⟨rfl, rfl⟩ := trodVars_none hV
  obtain ⟨s0, rfl⟩ := open_text (hval 0 9 v0 rfl rfl) h0
  obtain ⟨s1, A1, c1, l1, rfl, x1, y1, z1⟩ := open_zone (hval 1 24 v1 rfl rfl) h1 (weighs hsz (j := 1) rfl rfl)
  obtain ⟨s2, A2, c2, l2, rfl, x2, y2, z2⟩ := open_zone (hval 2 24 v2 rfl rfl) h2 (weighs hsz (j := 2) rfl rfl)
  have k0 := h0
  have k1 := h1
  have k2 := h2
  have lt0 : ∀ x ∈ p0, x.block < W.heap.size := by obtain ⟨m, hm⟩ := k0; exact DataW.trod_lt m _ _ _ hm
  have lt1 : ∀ x ∈ p1, x.block < W.heap.size := by obtain ⟨m, hm⟩ := k1; exact DataW.trod_lt m _ _ _ hm
  have lt2 : ∀ x ∈ p2, x.block < W.heap.size := by obtain ⟨m, hm⟩ := k2; exact DataW.trod_lt m _ _ _ hm
  clear hA0 hval0 hsz0 hsz
  obtain ⟨k, hk⟩ := knows_true s0 s1 l1 s2 l2 z1
  refine (almanaclaw16_ZoneKnows.callsT k s0 s1 A1 c1 l1 s2 A2 c2 l2 true W x1 y1 x2 y2 hk rfl (tab_of hL)).mono fun e W' ⟨he, bel⟩ => ?_
  subst he
  exact ⟨_, rfl, _, _, _, [], _, [], hW', trodAll_mk1 (shut_bool Tryz.underlying4 _), (trodAll_cons_mk (Below.trod laidOut (by kernel_rfl) (of_decide_eq_true (by kernel_rfl)) k0 bel lt0) (trodAll_cons_mk (Below.trod laidOut (by kernel_rfl) (of_decide_eq_true (by kernel_rfl)) k1 bel lt1) (trodAll_cons_mk (Below.trod laidOut (by kernel_rfl) (of_decide_eq_true (by kernel_rfl)) k2 bel lt2) trodAll_mk0))), rfl, bel.frame _, fun h => by cases h⟩
theorem zoneKnows_row : zoneKnowsRow.holds Tryz.pinned (OpenSpec.ofChange zoneKnowsSpec) :=
  OpenClaim.holds_of_wide 5 Tryz.f5 rfl rfl rfl rfl rfl rfl rfl ⟨rfl, rfl, rfl, rfl, rfl⟩ rfl rfl rfl rfl rfl (by kernel_rfl) Tryz.func5 (by kernel_rfl)
    (of_decide_eq_true (by kernel_rfl)) (by unfold Func.isWrapper; first | (rw [if_pos (by decide +kernel)]; kernel_rfl) | (rw [if_neg (by decide +kernel)]; exact ⟨rfl, rfl⟩))
    (fun os started H enc _ => zoneKnows_lifted os started H enc)
end Go.Proofs.YtmajmolbjiahlaaGreatDoor.PD
namespace Go.Proofs.YtmajmolbjiahlaaGreatDoor.PD
open _root_.Go.Proofs.YtmajmolbjiahlaaGreatDoor.Rows
theorem zoneKnows_card : ZoneKnowsCardSaid :=
  Claim7.holds_tied_plain_at .later [] [.data, .data, .data] true (true, "caf13726c208a16d25baa9bb3af26a78e00e2f0a48de74af47d1b6c661e961a8") false
    zoneKnows_row (fun _ h => by cases h) (by kernel_rfl) (fun _ h => by cases h) zoneKnows_row_tie rfl ⟨rfl, rfl⟩ (by kernel_rfl) rfl
    (fun f fn hf hfn => by
      obtain rfl : f = 5 := Option.some.inj ((show Tryz.prog.funcNamed "almanac/almanaclaw16.ZoneKnows" = some 5 by kernel_rfl).symm.trans hf) |>.symm
      obtain rfl : fn = Tryz.f5 := (Option.some.inj (Tryz.func5.symm.trans hfn)).symm
      exact ⟨by kernel_rfl, fun j t ht => by
        rw [Tryz.params5] at ht
        have hm : t ∈ [9, 24, 24] := by simpa using Array.mem_of_getElem? ht
        have hall : ([9, 24, 24].all fun u => !Tryz.prog.wantsStandIn u) = true := by kernel_rfl
        exact (show Tryz.prog.wantsStandIn t = false by simpa using List.all_eq_true.1 hall t hm)⟩)
    (by kernel_rfl)
#print axioms zoneKnows_card
end Go.Proofs.YtmajmolbjiahlaaGreatDoor.PD
