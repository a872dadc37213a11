/- The law DevFits holds of every two devices: whatever the input, the call returns true, and its arguments read as they did. -/
import Derived.Test.YtaocplhijfkicaaDevFits1
import Derived.Test.YtaocplhijfkicaaAwake1
import Derived.Test.YtaocplhijfkicaaAwake
import Derived.Test.YtaocplhijfkicaaWWords
import Derived.Deep.Slices
import Derived.Deep.Fields
import Derived.ChangeArms
import Derived.SizedLaws
import Derived.Test.YtaocplhijfkicaaRows
import Derived.WalkKit
import Derived.ProofKit
import Derived.OpenShut
import Derived.ShutString
import Derived.ChangeOld
import Derived.Below
-- written by a program of this work (mk.sh, over the kit's print; stubs are proved by hand)
namespace Go.Proofs.Ytaocplhijfkicaa.PD
open Go.RowKit Go.Proofs.YtaocplhijfkicaaW.PrintWords Go.Proofs.YtaocplhijfkicaaW.PrintLast Go.Proofs.YtaocplhijfkicaaW.PrintMore
attribute [local go_sem] isSome_setCell max2_int min2_int max_two min_two max_three min_three max_four min_four   -- for this text's walks alone
set_option linter.unusedVariables false
set_option linter.unusedSimpArgs false

/-! ### almanaclaw02_DevFits: function 6 -/
def almanaclaw02_DevFits.f (k : Nat) (l0_0 : List ByteArray) (l0_1 : List (S40)) (a0_2 : Int) (a0_3 : Bool) (l1_0 : List ByteArray) (l1_1 : List (S40)) (a1_2 : Int) (a1_3 : Bool) : Option (Bool) := (dev_Fit.f k l0_0 l0_1 a0_2 a0_3).bind fun t304 => ((almanacref02_Fit.f k l0_0 l0_1 a0_2 a0_3).bind fun t305 => (if (t304 == t305) = true then ((dev_Same.f k l0_0 l0_1 a0_2 a0_3 l1_0 l1_1 a1_2 a1_3).bind fun t306 => ((almanacref02_Same.f k l0_0 l0_1 a0_2 a0_3 l1_0 l1_1 a1_2 a1_3).bind fun t307 => (if (t306 == t307) = true then ((almanacref02_Copy.f l0_0 l0_1 a0_2 a0_3).bind fun bt308 => ((dev_Same.f k l0_0 l0_1 a0_2 a0_3 bt308.1 bt308.2.1 bt308.2.2.1 bt308.2.2.2).bind fun t316 => (if t316 = true then ((almanaclaw02_awake.f k).bind fun t317 => (some t317)) else (some false)))) else (some false)))) else (some false)))
theorem almanaclaw02_DevFits.mono : ∀ a0 a1 a2 a3 a4 a5 a6 a7 k, LeO (almanaclaw02_DevFits.f k a0 a1 a2 a3 a4 a5 a6 a7) (almanaclaw02_DevFits.f (k + 1) a0 a1 a2 a3 a4 a5 a6 a7) := by
  intro a0 a1 a2 a3 a4 a5 a6 a7 k
  unfold almanaclaw02_DevFits.f
  repeat' first
      | (with_reducible exact almanaclaw02_awake.mono _)
      | (with_reducible exact almanacref02_Fit.mono _ _ _ _ _)
      | (with_reducible exact almanacref02_Same.mono _ _ _ _ _ _ _ _ _)
      | (with_reducible exact dev_Fit.mono _ _ _ _ _)
      | (with_reducible exact dev_Same.mono _ _ _ _ _ _ _ _ _)
      | (with_reducible exact LeO.refl _)
      | (with_reducible exact LeO.none _)
      | (with_reducible refine LeO.ite ?_ ?_)
      | (with_reducible refine LeO.bind ?_ (fun _ => ?_))
      | exact almanaclaw02_awake.mono _
      | exact almanacref02_Fit.mono _ _ _ _ _
      | exact almanacref02_Same.mono _ _ _ _ _ _ _ _ _
      | exact dev_Fit.mono _ _ _ _ _
      | exact dev_Same.mono _ _ _ _ _ _ _ _ _
      | exact LeO.none _
      | refine LeO.ite ?_ ?_
      | refine LeO.bind ?_ (fun _ => ?_)
def almanaclaw02_DevFits.T1 : Bool × List (List Nat × List Nat) := (true, [([], []), ([0], [0]), ([], []), ([2, 1], [2]), ([1, 3], [1, 3]), ([4, 3], [4]), ([5], [5]), ([5], [5]), ([6, 7, 5, 5], [5, 6, 7]), ([5], [5]), ([5], [5]), ([9, 10, 8, 5], [5, 9, 10]), ([8, 11, 5], [5, 8, 11]), ([5, 12], [5, 12]), ([13, 11], [13]), ([14], [14]), ([14], [14]), ([16, 14, 14], [14, 16]), ([15, 17, 17, 14], [14, 15, 17]), ([14, 18], [14, 18]), ([19, 18], [19]), ([20, 20], [20]), ([20, 21], [20, 21]), ([22, 21, 0, 1, 2, 3, 4, 5, 6, 7, 8, 9, 10, 11, 12, 13, 14, 15, 16, 17, 18, 19, 20, 21, 22], [22])])
def almanaclaw02_DevFits.B1 : List Nat := [0, 1, 0, 7, 15, 31, 63, 63, 255, 63, 63, 2047, 4095, 8191, 16383, 32767, 32767, 98303, 262143, 524287, 1048575, 2097151, 4194303, 8388607]
theorem almanaclaw02_DevFits.tab1 : rtab .any (opsOf Try.f6 1) = almanaclaw02_DevFits.T1 := by kernel_rfl
theorem almanaclaw02_DevFits.bits1 : waitsOk almanaclaw02_DevFits.T1.2 almanaclaw02_DevFits.B1 = true := by kernel_rfl
set_option maxHeartbeats 8000000 in
set_option maxRecDepth 100000 in
theorem almanaclaw02_DevFits.callsT (k : Nat) (A0_0 : Option Addr) (c0_0 : Nat) (l0_0 : List ByteArray) (A0_1 : Option Addr) (c0_1 : Nat) (l0_1 : List (S40)) (a0_2 : Int) (a0_3 : Bool) (A1_0 : Option Addr) (c1_0 : Nat) (l1_0 : List ByteArray) (A1_1 : Option Addr) (c1_1 : Nat) (l1_1 : List (S40)) (a1_2 : Int) (a1_3 : Bool) (r : Bool) (w : World) (hr0_0 : Kd.C Kd.string w A0_0 l0_0.length l0_0) (hc0_0 : l0_0.length ≤ c0_0) (hr0_1 : Kd.C k40 w A0_1 l0_1.length l0_1) (hc0_1 : l0_1.length ≤ c0_1) (hr1_0 : Kd.C Kd.string w A1_0 l1_0.length l1_0) (hc1_0 : l1_0.length ≤ c1_0) (hr1_1 : Kd.C k40 w A1_1 l1_1.length l1_1) (hc1_1 : l1_1.length ≤ c1_1) (h : almanaclaw02_DevFits.f k l0_0 l0_1 a0_2 a0_3 l1_0 l1_1 a1_2 a1_3 = some r) (hr : r = true) :
    Calls Try.prog 6 #[.agg #[.slice A0_0 l0_0.length c0_0, .slice A0_1 l0_1.length c0_1, .int .i64 a0_2, .bool a0_3], .agg #[.slice A1_0 l1_0.length c1_0, .slice A1_1 l1_1.length c1_1, .int .i64 a1_2, .bool a1_3]] w fun e w' => e = .returned (.bool r) ∧ Below w.heap.size w w' := by
  have HRT := Aside0.mk hr
  clear hr
  have hu25 := Try.underlying25
  have HR0_0 := Aside0.mk hr0_0
  have HC0_0 := Aside0.mk hc0_0
  clear hr0_0 hc0_0
  have HR0_1 := Aside0.mk hr0_1
  have HC0_1 := Aside0.mk hc0_1
  clear hr0_1 hc0_1
  have HR1_0 := Aside0.mk hr1_0
  have HC1_0 := Aside0.mk hc1_0
  clear hr1_0 hc1_0
  have HR1_1 := Aside0.mk hr1_1
  have HC1_1 := Aside0.mk hc1_1
  clear hr1_1 hc1_1
  have HB := Aside0.mk (Below.refl w.heap.size w)
  have H : ((dev_Fit.f k l0_0 l0_1 a0_2 a0_3).bind fun t304 => ((almanacref02_Fit.f k l0_0 l0_1 a0_2 a0_3).bind fun t305 => (if (t304 == t305) = true then ((dev_Same.f k l0_0 l0_1 a0_2 a0_3 l1_0 l1_1 a1_2 a1_3).bind fun t306 => ((almanacref02_Same.f k l0_0 l0_1 a0_2 a0_3 l1_0 l1_1 a1_2 a1_3).bind fun t307 => (if (t306 == t307) = true then ((almanacref02_Copy.f l0_0 l0_1 a0_2 a0_3).bind fun bt308 => ((dev_Same.f k l0_0 l0_1 a0_2 a0_3 bt308.1 bt308.2.1 bt308.2.2.1 bt308.2.2.2).bind fun t316 => (if t316 = true then ((almanaclaw02_awake.f k).bind fun t317 => (some t317)) else (some false)))) else (some false)))) else (some false)))) = some r := h
  clear h
  replace H := Option.bind_eq_some_iff.mp H
  obtain ⟨t304, A30, H⟩ := H
  replace H : ((almanacref02_Fit.f k l0_0 l0_1 a0_2 a0_3).bind fun t305 => (if (t304 == t305) = true then ((dev_Same.f k l0_0 l0_1 a0_2 a0_3 l1_0 l1_1 a1_2 a1_3).bind fun t306 => ((almanacref02_Same.f k l0_0 l0_1 a0_2 a0_3 l1_0 l1_1 a1_2 a1_3).bind fun t307 => (if (t306 == t307) = true then ((almanacref02_Copy.f l0_0 l0_1 a0_2 a0_3).bind fun bt308 => ((dev_Same.f k l0_0 l0_1 a0_2 a0_3 bt308.1 bt308.2.1 bt308.2.2.1 bt308.2.2.2).bind fun t316 => (if t316 = true then ((almanaclaw02_awake.f k).bind fun t317 => (some t317)) else (some false)))) else (some false)))) else (some false))) = some r := H
  have A3 := Aside0.mk A30
  clear A30
  replace H := Option.bind_eq_some_iff.mp H
  obtain ⟨t305, A40, H⟩ := H
  replace H : (if (t304 == t305) = true then ((dev_Same.f k l0_0 l0_1 a0_2 a0_3 l1_0 l1_1 a1_2 a1_3).bind fun t306 => ((almanacref02_Same.f k l0_0 l0_1 a0_2 a0_3 l1_0 l1_1 a1_2 a1_3).bind fun t307 => (if (t306 == t307) = true then ((almanacref02_Copy.f l0_0 l0_1 a0_2 a0_3).bind fun bt308 => ((dev_Same.f k l0_0 l0_1 a0_2 a0_3 bt308.1 bt308.2.1 bt308.2.2.1 bt308.2.2.2).bind fun t316 => (if t316 = true then ((almanaclaw02_awake.f k).bind fun t317 => (some t317)) else (some false)))) else (some false)))) else (some false)) = some r := H
  have A4 := Aside0.mk A40
  clear A40
  by_cases c5 : (t304 == t305) = true
  · rw [if_pos c5] at H
    have c5b0 : (t304 == t305) = true := c5
    (try (have c5b1 : decide (t304 = t305) = true := by simpa using c5))
    (try (have c5b2 : (t304 == t305) = true := by simpa using c5))
    clear c5
    replace H := Option.bind_eq_some_iff.mp H
    obtain ⟨t306, A60, H⟩ := H
    replace H : ((almanacref02_Same.f k l0_0 l0_1 a0_2 a0_3 l1_0 l1_1 a1_2 a1_3).bind fun t307 => (if (t306 == t307) = true then ((almanacref02_Copy.f l0_0 l0_1 a0_2 a0_3).bind fun bt308 => ((dev_Same.f k l0_0 l0_1 a0_2 a0_3 bt308.1 bt308.2.1 bt308.2.2.1 bt308.2.2.2).bind fun t316 => (if t316 = true then ((almanaclaw02_awake.f k).bind fun t317 => (some t317)) else (some false)))) else (some false))) = some r := H
    have A6 := Aside0.mk A60
    clear A60
    replace H := Option.bind_eq_some_iff.mp H
    obtain ⟨t307, A70, H⟩ := H
    replace H : (if (t306 == t307) = true then ((almanacref02_Copy.f l0_0 l0_1 a0_2 a0_3).bind fun bt308 => ((dev_Same.f k l0_0 l0_1 a0_2 a0_3 bt308.1 bt308.2.1 bt308.2.2.1 bt308.2.2.2).bind fun t316 => (if t316 = true then ((almanaclaw02_awake.f k).bind fun t317 => (some t317)) else (some false)))) else (some false)) = some r := H
    have A7 := Aside0.mk A70
    clear A70
    by_cases c8 : (t306 == t307) = true
    · rw [if_pos c8] at H
      have c8b0 : (t306 == t307) = true := c8
      (try (have c8b1 : decide (t306 = t307) = true := by simpa using c8))
      (try (have c8b2 : (t306 == t307) = true := by simpa using c8))
      clear c8
      replace H := Option.bind_eq_some_iff.mp H
      obtain ⟨⟨t308, t311, t314, t315⟩, A90, H⟩ := H
      replace H : ((dev_Same.f k l0_0 l0_1 a0_2 a0_3 t308 t311 t314 t315).bind fun t316 => (if t316 = true then ((almanaclaw02_awake.f k).bind fun t317 => (some t317)) else (some false))) = some r := H
      have A9 := Aside0.mk A90
      clear A90
      replace H := Option.bind_eq_some_iff.mp H
      obtain ⟨t316, A100, H⟩ := H
      replace H : (if t316 = true then ((almanaclaw02_awake.f k).bind fun t317 => (some t317)) else (some false)) = some r := H
      have A10 := Aside0.mk A100
      clear A100
      by_cases c11 : t316 = true
      · subst c11
        have H1 : ((almanaclaw02_awake.f k).bind fun t317 => (some t317)) = some r := by rw [if_pos rfl] at H; exact H
        clear H
        have H := H1
        clear H1
        replace H := Option.bind_eq_some_iff.mp H
        obtain ⟨t317, A120, H⟩ := H
        replace H : (some t317) = some r := H
        have A12 := Aside0.mk A120
        clear A120
        obtain rfl := Option.some.inj H
        go_enter Try.func6, Try.ntmps6
        try go_wp2_with (first | ((with_reducible refine gate_dst (N := 2) rfl ?_); refine box_event ?hg (N := 2) ?hd (cs := #[.slice A0_0 l0_0.length c0_0, .slice A0_1 l0_1.length c0_1, .int .i64 a0_2, .bool a0_3]) (t := 25) ?hr ?_; (case hd => rfl); (case hg => rfl); (case hr => first | (go_simp; done) | (go_simp; rfl)); intro gb302 hg w13 hbox hb; have n0_ := Aside0.mk (below_step (by repeat (first | (with_reducible first | exact HB.out | apply below_alloc | apply pw_below_drewN | apply below_drew1) | exact HB.out)) hb); have n1_ := Aside0.mk (hbox); have n2_ := Aside0.mk ((by rw [hg]; exact (below_size (by repeat (first | (with_reducible first | exact HB.out | apply below_alloc | apply pw_below_drewN | apply below_drew1) | exact HB.out))) : w.heap.size ≤ gb302)); have n3_ := Aside0.mk ((by rw [hg]; exact (below_size (by repeat (first | (with_reducible first | exact HB.out | apply below_alloc | apply pw_below_drewN | apply below_drew1) | exact HB.out))) : w.heap.size ≤ gb302)); clear HB; have HB := n0_; have BK302 := n1_; have GW302 := n2_; have GE302 := n3_; clear n0_ n1_ n2_ n3_; clear hb hbox hg) | ((with_reducible refine gate_dst (N := 3) rfl ?_); refine box_event ?hg (N := 3) ?hd (cs := #[.slice A1_0 l1_0.length c1_0, .slice A1_1 l1_1.length c1_1, .int .i64 a1_2, .bool a1_3]) (t := 25) ?hr ?_; (case hd => rfl); (case hg => rfl); (case hr => first | (go_simp; done) | (go_simp; rfl)); intro gb303 hg w14 hbox hb; have n0_ := Aside0.mk (blk_below (g := gb302) (o := .cells #[.slice A0_0 l0_0.length c0_0, .slice A0_1 l0_1.length c0_1, .int .i64 a0_2, .bool a0_3] 25 (0, 0)) (by (with_reducible repeat (first | refine blk_drewN ?_ _ | refine blk_drew ?_ | refine blk_alloc ?_ _)); exact BK302.out) hb); have n1_ := Aside0.mk (below_step (by repeat (first | (with_reducible first | exact HB.out | apply below_alloc | apply pw_below_drewN | apply below_drew1 | refine below_set ?_ GE302.out) | exact HB.out)) hb); have n2_ := Aside0.mk (hbox); have n3_ := Aside0.mk ((by rw [hg]; exact (below_size (by repeat (first | (with_reducible first | exact HB.out | apply below_alloc | apply pw_below_drewN | apply below_drew1 | refine below_set ?_ GE302.out) | exact HB.out))) : w.heap.size ≤ gb303)); have n4_ := Aside0.mk ((by rw [hg]; exact (below_size (by repeat (first | (with_reducible first | exact HB.out | apply below_alloc | apply pw_below_drewN | apply below_drew1 | refine below_set ?_ GE302.out) | exact HB.out))) : w.heap.size ≤ gb303)); have n5_ := Aside0.mk ((by rw [hg]; exact Nat.ne_of_lt (blk_lt (g := gb302) (o := .cells #[.slice A0_0 l0_0.length c0_0, .slice A0_1 l0_1.length c0_1, .int .i64 a0_2, .bool a0_3] 25 (0, 0)) (by (with_reducible repeat (first | refine blk_drewN ?_ _ | refine blk_drew ?_ | refine blk_alloc ?_ _)); exact BK302.out)) : gb302 ≠ gb303)); have n6_ := Aside0.mk ((by rw [hg]; exact Nat.ne_of_gt (blk_lt (g := gb302) (o := .cells #[.slice A0_0 l0_0.length c0_0, .slice A0_1 l0_1.length c0_1, .int .i64 a0_2, .bool a0_3] 25 (0, 0)) (by (with_reducible repeat (first | refine blk_drewN ?_ _ | refine blk_drew ?_ | refine blk_alloc ?_ _)); exact BK302.out)) : gb303 ≠ gb302)); clear BK302; clear HB; have BK302 := n0_; have HB := n1_; have BK303 := n2_; have GW303 := n3_; have GE303 := n4_; have NB302_303 := n5_; have NB303_302 := n6_; clear n0_ n1_ n2_ n3_ n4_ n5_ n6_; clear hb hbox hg))
        have n0_ := Aside0.mk (blk_drew BK302.out)
        have n1_ := Aside0.mk (blk_drew BK303.out)
        have n2_ := Aside0.mk (below_drew1 HB.out)
        clear BK302
        clear BK303
        clear HB
        have BK302 := n0_
        have BK303 := n1_
        have HB := n2_
        clear n0_ n1_ n2_
        refine start_ (n := 24) (S := fun w' => w'.cell? ⟨gb302, 0, none⟩ = some (.slice A0_0 l0_0.length c0_0) ∧ w'.cell? ⟨gb302, 1, none⟩ = some (.slice A0_1 l0_1.length c0_1) ∧ w'.cell? ⟨gb302, 2, none⟩ = some (.int .i64 a0_2) ∧ w'.cell? ⟨gb302, 3, none⟩ = some (.bool a0_3) ∧ w'.cell? ⟨gb303, 0, none⟩ = some (.slice A1_0 l1_0.length c1_0) ∧ w'.cell? ⟨gb303, 1, none⟩ = some (.slice A1_1 l1_1.length c1_1) ∧ w'.cell? ⟨gb303, 2, none⟩ = some (.int .i64 a1_2) ∧ w'.cell? ⟨gb303, 3, none⟩ = some (.bool a1_3)) (ds := []) #[false, false, false, false, false, false, false, false, false, false, false, false, false, false, false, false, false, false, false, false, false, false, false, false] (by kernel_rfl) rfl rfl ⟨(blk_cell BK302.out 0).trans rfl, (blk_cell BK302.out 1).trans rfl, (blk_cell BK302.out 2).trans rfl, (blk_cell BK302.out 3).trans rfl, (blk_cell BK303.out 0).trans rfl, (blk_cell BK303.out 1).trans rfl, (blk_cell BK303.out 2).trans rfl, (blk_cell BK303.out 3).trans rfl⟩ (fun hHeld => ?_); refine with_tabW almanaclaw02_DevFits.tab1 almanaclaw02_DevFits.bits1 (fun HT_ HW_ => ?_)
        generalize w14.drew = w15 at BK302 BK303 HB hHeld ⊢
        refine take_ (i := 0) (N := some 5) (v := ?_) (a' := ?_) #[true, false, false, false, false, false, false, false, false, false, false, false, false, false, false, false, false, false, false, false, false, false, false, false] rfl rfl (take_ofW HT_.out HW_.out (by kernel_rfl)) (fun _ _ _ h => h) (Or.inl ⟨by rfl, ?_⟩) hHeld ?_ ?_
        rotate_left
        · rintro w' ⟨s0, s1, s2, s3, s4, s5, s6, s7⟩
          go_simp
          with_reducible rfl
        rotate_left
        · simp only [Act.put, List.setIfInBounds_toArray, List.set_cons_zero, List.set_cons_succ, i64_w, i32_w]
          rfl
        refine take_ (i := 2) (N := some 7) (v := ?_) (a' := ?_) #[true, false, true, false, false, false, false, false, false, false, false, false, false, false, false, false, false, false, false, false, false, false, false, false] rfl rfl (take_ofW HT_.out HW_.out (by kernel_rfl)) (fun _ _ _ h => h) (Or.inl ⟨by rfl, ?_⟩) hHeld ?_ ?_
        rotate_left
        · rintro w' ⟨s0, s1, s2, s3, s4, s5, s6, s7⟩
          go_simp
          with_reducible rfl
        rotate_left
        · simp only [Act.put, List.setIfInBounds_toArray, List.set_cons_zero, List.set_cons_succ, i64_w, i32_w]
          rfl
        refine one_ (i := 1) (N := some 6) #[true, true, true, false, false, false, false, false, false, false, false, false, false, false, false, false, false, false, false, false, false, false, false, false] rfl rfl (one_of HT_.out (by kernel_rfl)) (by decide) (fun K hK => ?_)
        refine goes_ Try.func16 (by kernel_rfl) rfl #[.agg #[.slice A0_0 l0_0.length c0_0, .slice A0_1 l0_1.length c0_1, .int .i64 a0_2, .bool a0_3]] (by rfl) rfl rfl (by (try simp only [List.map_toArray, List.map_cons, List.map_nil]); first | done | rfl | (simp only [List.length_drop, List.length_take]; rfl)) ?_
        with_reducible refine (dev_Fit.calls k _ _ l0_0 _ _ l0_1 a0_2 a0_3 t304 _ ?side1 ?side2 ?side3 ?side4 A3.out).mono ?_
        (case side1 => repeat (first | exact (Kd.C_below HR0_0.out HB.out) | (with_reducible refine Kd.C_alloc ?_ _) | (with_reducible refine Kd.C_drewN ?_ _) | (with_reducible refine Kd.C_drew ?_)))
        (case side2 => exact HC0_0.out)
        (case side3 => repeat (first | exact (Kd.C_below HR0_1.out HB.out) | (with_reducible refine Kd.C_alloc ?_ _) | (with_reducible refine Kd.C_drewN ?_ _) | (with_reducible refine Kd.C_drew ?_)))
        (case side4 => exact HC0_1.out)
        rintro e w16 ⟨rfl, hb⟩
        refine ⟨_, rfl, ?_⟩
        have n0_ := Aside0.mk (blk_below (g := gb302) (o := .cells #[.slice A0_0 l0_0.length c0_0, .slice A0_1 l0_1.length c0_1, .int .i64 a0_2, .bool a0_3] 25 (0, 0)) (by (with_reducible repeat (first | refine blk_drewN ?_ _ | refine blk_drew ?_ | refine blk_alloc ?_ _)); exact BK302.out) hb)
        have n1_ := Aside0.mk (blk_below (g := gb303) (o := .cells #[.slice A1_0 l1_0.length c1_0, .slice A1_1 l1_1.length c1_1, .int .i64 a1_2, .bool a1_3] 25 (0, 0)) (by (with_reducible repeat (first | refine blk_drewN ?_ _ | refine blk_drew ?_ | refine blk_alloc ?_ _)); exact BK303.out) hb)
        have n2_ := Aside0.mk (below_step (by repeat (first | (with_reducible first | exact HB.out | apply below_alloc | apply pw_below_drewN | apply below_drew1 | refine below_set ?_ GE302.out | refine below_set ?_ GE303.out) | exact HB.out)) hb)
        clear BK302
        clear BK303
        clear HB
        have BK302 := n0_
        have BK303 := n1_
        have HB := n2_
        clear n0_ n1_ n2_
        (try clear hb)
        (try clear hb2)
        (try clear hk)
        (try clear hi)
        refine hK.out _ _ ⟨(blk_cell BK302.out 0).trans rfl, (blk_cell BK302.out 1).trans rfl, (blk_cell BK302.out 2).trans rfl, (blk_cell BK302.out 3).trans rfl, (blk_cell BK303.out 0).trans rfl, (blk_cell BK303.out 1).trans rfl, (blk_cell BK303.out 2).trans rfl, (blk_cell BK303.out 3).trans rfl⟩ (fun hHeld => ?_)
        clear hK K
        refine norm_ (a' := ?_) ?_ ?_
        rotate_left
        · show Act.put _ (some 6) _ = _
          simp only [Act.put, List.setIfInBounds_toArray, List.set_cons_zero, List.set_cons_succ, i64_w, i32_w]
          rfl
        refine one_ (i := 3) (N := some 8) #[true, true, true, true, false, false, false, false, false, false, false, false, false, false, false, false, false, false, false, false, false, false, false, false] rfl rfl (one_of HT_.out (by kernel_rfl)) (by decide) (fun K hK => ?_)
        refine goes_ Try.func7 (by kernel_rfl) rfl #[.agg #[.slice A0_0 l0_0.length c0_0, .slice A0_1 l0_1.length c0_1, .int .i64 a0_2, .bool a0_3]] (by rfl) rfl rfl (by (try simp only [List.map_toArray, List.map_cons, List.map_nil]); first | done | rfl | (simp only [List.length_drop, List.length_take]; rfl)) ?_
        with_reducible refine (almanacref02_Fit.calls k _ _ l0_0 _ _ l0_1 a0_2 a0_3 t305 _ ?side1 ?side2 ?side3 ?side4 A4.out).mono ?_
        (case side1 => repeat (first | exact (Kd.C_below HR0_0.out HB.out) | (with_reducible refine Kd.C_alloc ?_ _) | (with_reducible refine Kd.C_drewN ?_ _) | (with_reducible refine Kd.C_drew ?_)))
        (case side2 => exact HC0_0.out)
        (case side3 => repeat (first | exact (Kd.C_below HR0_1.out HB.out) | (with_reducible refine Kd.C_alloc ?_ _) | (with_reducible refine Kd.C_drewN ?_ _) | (with_reducible refine Kd.C_drew ?_)))
        (case side4 => exact HC0_1.out)
        rintro e w17 ⟨rfl, hb⟩
        refine ⟨_, rfl, ?_⟩
        have n0_ := Aside0.mk (blk_below (g := gb302) (o := .cells #[.slice A0_0 l0_0.length c0_0, .slice A0_1 l0_1.length c0_1, .int .i64 a0_2, .bool a0_3] 25 (0, 0)) (by (with_reducible repeat (first | refine blk_drewN ?_ _ | refine blk_drew ?_ | refine blk_alloc ?_ _)); exact BK302.out) hb)
        have n1_ := Aside0.mk (blk_below (g := gb303) (o := .cells #[.slice A1_0 l1_0.length c1_0, .slice A1_1 l1_1.length c1_1, .int .i64 a1_2, .bool a1_3] 25 (0, 0)) (by (with_reducible repeat (first | refine blk_drewN ?_ _ | refine blk_drew ?_ | refine blk_alloc ?_ _)); exact BK303.out) hb)
        have n2_ := Aside0.mk (below_step (by repeat (first | (with_reducible first | exact HB.out | apply below_alloc | apply pw_below_drewN | apply below_drew1 | refine below_set ?_ GE302.out | refine below_set ?_ GE303.out) | exact HB.out)) hb)
        clear BK302
        clear BK303
        clear HB
        have BK302 := n0_
        have BK303 := n1_
        have HB := n2_
        clear n0_ n1_ n2_
        (try clear hb)
        (try clear hb2)
        (try clear hk)
        (try clear hi)
        refine hK.out _ _ ⟨(blk_cell BK302.out 0).trans rfl, (blk_cell BK302.out 1).trans rfl, (blk_cell BK302.out 2).trans rfl, (blk_cell BK302.out 3).trans rfl, (blk_cell BK303.out 0).trans rfl, (blk_cell BK303.out 1).trans rfl, (blk_cell BK303.out 2).trans rfl, (blk_cell BK303.out 3).trans rfl⟩ (fun hHeld => ?_)
        clear hK K
        refine norm_ (a' := ?_) ?_ ?_
        rotate_left
        · show Act.put _ (some 8) _ = _
          simp only [Act.put, List.setIfInBounds_toArray, List.set_cons_zero, List.set_cons_succ, i64_w, i32_w]
          rfl
        refine pure_ (i := 4) (N := some 9) (v := ?_) (a' := ?_) #[true, true, true, true, true, false, false, false, false, false, false, false, false, false, false, false, false, false, false, false, false, false, false, false] rfl rfl (any_of HT_.out (by kernel_rfl)) (fun _ _ _ h => h) (Or.inl ⟨by rfl, ?_⟩) ?_ ?_
        rotate_left
        · intro w'
          go_simp
          with_reducible rfl
        rotate_left
        · simp only [Act.put, List.setIfInBounds_toArray, List.set_cons_zero, List.set_cons_succ, i64_w, i32_w]
          rfl
        refine pure_ (i := 5) (N := some 10) (v := ?_) (a' := ?_) #[true, true, true, true, true, true, false, false, false, false, false, false, false, false, false, false, false, false, false, false, false, false, false, false] rfl rfl (any_of HT_.out (by kernel_rfl)) (fun _ _ _ h => h) (Or.inl ⟨by rfl, ?_⟩) ?_ ?_
        rotate_left
        · intro w'
          go_simp
          with_reducible rfl
        rotate_left
        · simp only [Act.put, List.setIfInBounds_toArray, List.set_cons_zero, List.set_cons_succ, i64_w, i32_w]
          rfl
        refine take_ (i := 6) (N := some 11) (v := ?_) (a' := ?_) #[true, true, true, true, true, true, true, false, false, false, false, false, false, false, false, false, false, false, false, false, false, false, false, false] rfl rfl (take_ofW HT_.out HW_.out (by kernel_rfl)) (fun _ _ _ h => h) (Or.inl ⟨by rfl, ?_⟩) hHeld ?_ ?_
        rotate_left
        · rintro w' ⟨s0, s1, s2, s3, s4, s5, s6, s7⟩
          go_simp
          with_reducible rfl
        rotate_left
        · simp only [Act.put, List.setIfInBounds_toArray, List.set_cons_zero, List.set_cons_succ, i64_w, i32_w]
          rfl
        refine take_ (i := 7) (N := some 12) (v := ?_) (a' := ?_) #[true, true, true, true, true, true, true, true, false, false, false, false, false, false, false, false, false, false, false, false, false, false, false, false] rfl rfl (take_ofW HT_.out HW_.out (by kernel_rfl)) (fun _ _ _ h => h) (Or.inl ⟨by rfl, ?_⟩) hHeld ?_ ?_
        rotate_left
        · rintro w' ⟨s0, s1, s2, s3, s4, s5, s6, s7⟩
          go_simp
          with_reducible rfl
        rotate_left
        · simp only [Act.put, List.setIfInBounds_toArray, List.set_cons_zero, List.set_cons_succ, i64_w, i32_w]
          rfl
        refine take_ (i := 9) (N := some 14) (v := ?_) (a' := ?_) #[true, true, true, true, true, true, true, true, false, true, false, false, false, false, false, false, false, false, false, false, false, false, false, false] rfl rfl (take_ofW HT_.out HW_.out (by kernel_rfl)) (fun _ _ _ h => h) (Or.inl ⟨by rfl, ?_⟩) hHeld ?_ ?_
        rotate_left
        · rintro w' ⟨s0, s1, s2, s3, s4, s5, s6, s7⟩
          go_simp
          with_reducible rfl
        rotate_left
        · simp only [Act.put, List.setIfInBounds_toArray, List.set_cons_zero, List.set_cons_succ, i64_w, i32_w]
          rfl
        refine take_ (i := 10) (N := some 15) (v := ?_) (a' := ?_) #[true, true, true, true, true, true, true, true, false, true, true, false, false, false, false, false, false, false, false, false, false, false, false, false] rfl rfl (take_ofW HT_.out HW_.out (by kernel_rfl)) (fun _ _ _ h => h) (Or.inl ⟨by rfl, ?_⟩) hHeld ?_ ?_
        rotate_left
        · rintro w' ⟨s0, s1, s2, s3, s4, s5, s6, s7⟩
          go_simp
          with_reducible rfl
        rotate_left
        · simp only [Act.put, List.setIfInBounds_toArray, List.set_cons_zero, List.set_cons_succ, i64_w, i32_w]
          rfl
        refine one_ (i := 8) (N := some 13) #[true, true, true, true, true, true, true, true, true, true, true, false, false, false, false, false, false, false, false, false, false, false, false, false] rfl rfl (one_of HT_.out (by kernel_rfl)) (by decide) (fun K hK => ?_)
        refine goes_ Try.func19 (by kernel_rfl) rfl #[.agg #[.slice A0_0 l0_0.length c0_0, .slice A0_1 l0_1.length c0_1, .int .i64 a0_2, .bool a0_3], .agg #[.slice A1_0 l1_0.length c1_0, .slice A1_1 l1_1.length c1_1, .int .i64 a1_2, .bool a1_3]] (by rfl) rfl rfl (by (try simp only [List.map_toArray, List.map_cons, List.map_nil]); first | done | rfl | (simp only [List.length_drop, List.length_take]; rfl)) ?_
        with_reducible refine (dev_Same.calls k _ _ l0_0 _ _ l0_1 a0_2 a0_3 _ _ l1_0 _ _ l1_1 a1_2 a1_3 t306 _ ?side1 ?side2 ?side3 ?side4 ?side5 ?side6 ?side7 ?side8 A6.out).mono ?_
        (case side1 => repeat (first | exact (Kd.C_below HR0_0.out HB.out) | (with_reducible refine Kd.C_alloc ?_ _) | (with_reducible refine Kd.C_drewN ?_ _) | (with_reducible refine Kd.C_drew ?_)))
        (case side2 => exact HC0_0.out)
        (case side3 => repeat (first | exact (Kd.C_below HR0_1.out HB.out) | (with_reducible refine Kd.C_alloc ?_ _) | (with_reducible refine Kd.C_drewN ?_ _) | (with_reducible refine Kd.C_drew ?_)))
        (case side4 => exact HC0_1.out)
        (case side5 => repeat (first | exact (Kd.C_below HR1_0.out HB.out) | (with_reducible refine Kd.C_alloc ?_ _) | (with_reducible refine Kd.C_drewN ?_ _) | (with_reducible refine Kd.C_drew ?_)))
        (case side6 => exact HC1_0.out)
        (case side7 => repeat (first | exact (Kd.C_below HR1_1.out HB.out) | (with_reducible refine Kd.C_alloc ?_ _) | (with_reducible refine Kd.C_drewN ?_ _) | (with_reducible refine Kd.C_drew ?_)))
        (case side8 => exact HC1_1.out)
        rintro e w18 ⟨rfl, hb⟩
        refine ⟨_, rfl, ?_⟩
        have n0_ := Aside0.mk (blk_below (g := gb302) (o := .cells #[.slice A0_0 l0_0.length c0_0, .slice A0_1 l0_1.length c0_1, .int .i64 a0_2, .bool a0_3] 25 (0, 0)) (by (with_reducible repeat (first | refine blk_drewN ?_ _ | refine blk_drew ?_ | refine blk_alloc ?_ _)); exact BK302.out) hb)
        have n1_ := Aside0.mk (blk_below (g := gb303) (o := .cells #[.slice A1_0 l1_0.length c1_0, .slice A1_1 l1_1.length c1_1, .int .i64 a1_2, .bool a1_3] 25 (0, 0)) (by (with_reducible repeat (first | refine blk_drewN ?_ _ | refine blk_drew ?_ | refine blk_alloc ?_ _)); exact BK303.out) hb)
        have n2_ := Aside0.mk (below_step (by repeat (first | (with_reducible first | exact HB.out | apply below_alloc | apply pw_below_drewN | apply below_drew1 | refine below_set ?_ GE302.out | refine below_set ?_ GE303.out) | exact HB.out)) hb)
        clear BK302
        clear BK303
        clear HB
        have BK302 := n0_
        have BK303 := n1_
        have HB := n2_
        clear n0_ n1_ n2_
        (try clear hb)
        (try clear hb2)
        (try clear hk)
        (try clear hi)
        refine hK.out _ _ ⟨(blk_cell BK302.out 0).trans rfl, (blk_cell BK302.out 1).trans rfl, (blk_cell BK302.out 2).trans rfl, (blk_cell BK302.out 3).trans rfl, (blk_cell BK303.out 0).trans rfl, (blk_cell BK303.out 1).trans rfl, (blk_cell BK303.out 2).trans rfl, (blk_cell BK303.out 3).trans rfl⟩ (fun hHeld => ?_)
        clear hK K
        refine norm_ (a' := ?_) ?_ ?_
        rotate_left
        · show Act.put _ (some 13) _ = _
          simp only [Act.put, List.setIfInBounds_toArray, List.set_cons_zero, List.set_cons_succ, i64_w, i32_w]
          rfl
        refine one_ (i := 11) (N := some 16) #[true, true, true, true, true, true, true, true, true, true, true, true, false, false, false, false, false, false, false, false, false, false, false, false] rfl rfl (one_of HT_.out (by kernel_rfl)) (by decide) (fun K hK => ?_)
        refine goes_ Try.func14 (by kernel_rfl) rfl #[.agg #[.slice A0_0 l0_0.length c0_0, .slice A0_1 l0_1.length c0_1, .int .i64 a0_2, .bool a0_3], .agg #[.slice A1_0 l1_0.length c1_0, .slice A1_1 l1_1.length c1_1, .int .i64 a1_2, .bool a1_3]] (by rfl) rfl rfl (by (try simp only [List.map_toArray, List.map_cons, List.map_nil]); first | done | rfl | (simp only [List.length_drop, List.length_take]; rfl)) ?_
        with_reducible refine (almanacref02_Same.calls k _ _ l0_0 _ _ l0_1 a0_2 a0_3 _ _ l1_0 _ _ l1_1 a1_2 a1_3 t307 _ ?side1 ?side2 ?side3 ?side4 ?side5 ?side6 ?side7 ?side8 A7.out).mono ?_
        (case side1 => repeat (first | exact (Kd.C_below HR0_0.out HB.out) | (with_reducible refine Kd.C_alloc ?_ _) | (with_reducible refine Kd.C_drewN ?_ _) | (with_reducible refine Kd.C_drew ?_)))
        (case side2 => exact HC0_0.out)
        (case side3 => repeat (first | exact (Kd.C_below HR0_1.out HB.out) | (with_reducible refine Kd.C_alloc ?_ _) | (with_reducible refine Kd.C_drewN ?_ _) | (with_reducible refine Kd.C_drew ?_)))
        (case side4 => exact HC0_1.out)
        (case side5 => repeat (first | exact (Kd.C_below HR1_0.out HB.out) | (with_reducible refine Kd.C_alloc ?_ _) | (with_reducible refine Kd.C_drewN ?_ _) | (with_reducible refine Kd.C_drew ?_)))
        (case side6 => exact HC1_0.out)
        (case side7 => repeat (first | exact (Kd.C_below HR1_1.out HB.out) | (with_reducible refine Kd.C_alloc ?_ _) | (with_reducible refine Kd.C_drewN ?_ _) | (with_reducible refine Kd.C_drew ?_)))
        (case side8 => exact HC1_1.out)
        rintro e w19 ⟨rfl, hb⟩
        refine ⟨_, rfl, ?_⟩
        have n0_ := Aside0.mk (blk_below (g := gb302) (o := .cells #[.slice A0_0 l0_0.length c0_0, .slice A0_1 l0_1.length c0_1, .int .i64 a0_2, .bool a0_3] 25 (0, 0)) (by (with_reducible repeat (first | refine blk_drewN ?_ _ | refine blk_drew ?_ | refine blk_alloc ?_ _)); exact BK302.out) hb)
        have n1_ := Aside0.mk (blk_below (g := gb303) (o := .cells #[.slice A1_0 l1_0.length c1_0, .slice A1_1 l1_1.length c1_1, .int .i64 a1_2, .bool a1_3] 25 (0, 0)) (by (with_reducible repeat (first | refine blk_drewN ?_ _ | refine blk_drew ?_ | refine blk_alloc ?_ _)); exact BK303.out) hb)
        have n2_ := Aside0.mk (below_step (by repeat (first | (with_reducible first | exact HB.out | apply below_alloc | apply pw_below_drewN | apply below_drew1 | refine below_set ?_ GE302.out | refine below_set ?_ GE303.out) | exact HB.out)) hb)
        clear BK302
        clear BK303
        clear HB
        have BK302 := n0_
        have BK303 := n1_
        have HB := n2_
        clear n0_ n1_ n2_
        (try clear hb)
        (try clear hb2)
        (try clear hk)
        (try clear hi)
        refine hK.out _ _ ⟨(blk_cell BK302.out 0).trans rfl, (blk_cell BK302.out 1).trans rfl, (blk_cell BK302.out 2).trans rfl, (blk_cell BK302.out 3).trans rfl, (blk_cell BK303.out 0).trans rfl, (blk_cell BK303.out 1).trans rfl, (blk_cell BK303.out 2).trans rfl, (blk_cell BK303.out 3).trans rfl⟩ (fun hHeld => ?_)
        clear hK K
        refine norm_ (a' := ?_) ?_ ?_
        rotate_left
        · show Act.put _ (some 16) _ = _
          simp only [Act.put, List.setIfInBounds_toArray, List.set_cons_zero, List.set_cons_succ, i64_w, i32_w]
          rfl
        refine pure_ (i := 12) (N := some 17) (v := ?_) (a' := ?_) #[true, true, true, true, true, true, true, true, true, true, true, true, true, false, false, false, false, false, false, false, false, false, false, false] rfl rfl (any_of HT_.out (by kernel_rfl)) (fun _ _ _ h => h) (Or.inl ⟨by rfl, ?_⟩) ?_ ?_
        rotate_left
        · intro w'
          go_simp
          with_reducible rfl
        rotate_left
        · simp only [Act.put, List.setIfInBounds_toArray, List.set_cons_zero, List.set_cons_succ, i64_w, i32_w]
          rfl
        refine pure_ (i := 13) (N := some 18) (v := ?_) (a' := ?_) #[true, true, true, true, true, true, true, true, true, true, true, true, true, true, false, false, false, false, false, false, false, false, false, false] rfl rfl (any_of HT_.out (by kernel_rfl)) (fun _ _ _ h => h) (Or.inl ⟨by rfl, ?_⟩) ?_ ?_
        rotate_left
        · intro w'
          go_simp
          with_reducible rfl
        rotate_left
        · simp only [Act.put, List.setIfInBounds_toArray, List.set_cons_zero, List.set_cons_succ, i64_w, i32_w]
          rfl
        refine pure_ (i := 14) (N := some 19) (v := ?_) (a' := ?_) #[true, true, true, true, true, true, true, true, true, true, true, true, true, true, true, false, false, false, false, false, false, false, false, false] rfl rfl (any_of HT_.out (by kernel_rfl)) (fun _ _ _ h => h) (Or.inl ⟨by rfl, ?_⟩) ?_ ?_
        rotate_left
        · intro w'
          go_simp
          with_reducible rfl
        rotate_left
        · simp only [Act.put, List.setIfInBounds_toArray, List.set_cons_zero, List.set_cons_succ, i64_w, i32_w]
          rfl
        refine take_ (i := 15) (N := some 20) (v := ?_) (a' := ?_) #[true, true, true, true, true, true, true, true, true, true, true, true, true, true, true, true, false, false, false, false, false, false, false, false] rfl rfl (take_ofW HT_.out HW_.out (by kernel_rfl)) (fun _ _ _ h => h) (Or.inl ⟨by rfl, ?_⟩) hHeld ?_ ?_
        rotate_left
        · rintro w' ⟨s0, s1, s2, s3, s4, s5, s6, s7⟩
          go_simp
          with_reducible rfl
        rotate_left
        · simp only [Act.put, List.setIfInBounds_toArray, List.set_cons_zero, List.set_cons_succ, i64_w, i32_w]
          rfl
        refine take_ (i := 16) (N := some 21) (v := ?_) (a' := ?_) #[true, true, true, true, true, true, true, true, true, true, true, true, true, true, true, true, true, false, false, false, false, false, false, false] rfl rfl (take_ofW HT_.out HW_.out (by kernel_rfl)) (fun _ _ _ h => h) (Or.inl ⟨by rfl, ?_⟩) hHeld ?_ ?_
        rotate_left
        · rintro w' ⟨s0, s1, s2, s3, s4, s5, s6, s7⟩
          go_simp
          with_reducible rfl
        rotate_left
        · simp only [Act.put, List.setIfInBounds_toArray, List.set_cons_zero, List.set_cons_succ, i64_w, i32_w]
          rfl
        refine one_ (i := 17) (N := some 22) #[true, true, true, true, true, true, true, true, true, true, true, true, true, true, true, true, true, true, false, false, false, false, false, false] rfl rfl (one_of HT_.out (by kernel_rfl)) (by decide) (fun K hK => ?_)
        refine goes_ Try.func9 (by kernel_rfl) rfl #[.agg #[.slice A0_0 l0_0.length c0_0, .slice A0_1 l0_1.length c0_1, .int .i64 a0_2, .bool a0_3]] (by rfl) rfl rfl (by (try simp only [List.map_toArray, List.map_cons, List.map_nil]); first | done | rfl | (simp only [List.length_drop, List.length_take]; rfl)) ?_
        with_reducible refine (almanacref02_Copy.calls _ _ l0_0 _ _ l0_1 a0_2 a0_3 t308 t311 t314 t315 _ ?side1 ?side2 ?side3 ?side4 A9.out).mono ?_
        (case side1 => repeat (first | exact (Kd.C_below HR0_0.out HB.out) | (with_reducible refine Kd.C_alloc ?_ _) | (with_reducible refine Kd.C_drewN ?_ _) | (with_reducible refine Kd.C_drew ?_)))
        (case side2 => exact HC0_0.out)
        (case side3 => repeat (first | exact (Kd.C_below HR0_1.out HB.out) | (with_reducible refine Kd.C_alloc ?_ _) | (with_reducible refine Kd.C_drewN ?_ _) | (with_reducible refine Kd.C_drew ?_)))
        (case side4 => exact HC0_1.out)
        rintro e w20 ⟨v309, v312, rfl, ho0, ho1, hb⟩
        refine ⟨_, rfl, ?_⟩
        have n0_ := Aside0.mk (Kd.R_lower ho0 (below_size (by repeat (first | (with_reducible first | exact HB.out | apply below_alloc | apply pw_below_drewN | apply below_drew1 | refine below_set ?_ GE302.out | refine below_set ?_ GE303.out) | exact HB.out))))
        have n1_ := Aside0.mk (Kd.R_lower ho1 (below_size (by repeat (first | (with_reducible first | exact HB.out | apply below_alloc | apply pw_below_drewN | apply below_drew1 | refine below_set ?_ GE302.out | refine below_set ?_ GE303.out) | exact HB.out))))
        have n2_ := Aside0.mk (blk_below (g := gb302) (o := .cells #[.slice A0_0 l0_0.length c0_0, .slice A0_1 l0_1.length c0_1, .int .i64 a0_2, .bool a0_3] 25 (0, 0)) (by (with_reducible repeat (first | refine blk_drewN ?_ _ | refine blk_drew ?_ | refine blk_alloc ?_ _)); exact BK302.out) hb)
        have n3_ := Aside0.mk (blk_below (g := gb303) (o := .cells #[.slice A1_0 l1_0.length c1_0, .slice A1_1 l1_1.length c1_1, .int .i64 a1_2, .bool a1_3] 25 (0, 0)) (by (with_reducible repeat (first | refine blk_drewN ?_ _ | refine blk_drew ?_ | refine blk_alloc ?_ _)); exact BK303.out) hb)
        have n4_ := Aside0.mk (below_step (by repeat (first | (with_reducible first | exact HB.out | apply below_alloc | apply pw_below_drewN | apply below_drew1 | refine below_set ?_ GE302.out | refine below_set ?_ GE303.out) | exact HB.out)) hb)
        clear BK302
        clear BK303
        clear HB
        have HO310 := n0_
        have HO313 := n1_
        have BK302 := n2_
        have BK303 := n3_
        have HB := n4_
        clear n0_ n1_ n2_ n3_ n4_
        (try clear hb)
        (try clear hb2)
        (try clear hk)
        (try clear hi)
        (try clear ho0)
        (try clear ho1)
        obtain ⟨Ao21, co21, eo21⟩ := Kd.R_slice HO310.out
        (first | subst eo21 | (injection eo21 with f1_ f2_ f3_; have f4_ := f1_.symm; have f5_ := f3_.symm; clear f1_ f2_ f3_; subst f4_; subst f5_))
        obtain ⟨Ao22, co22, eo22⟩ := Kd.R_slice HO313.out
        (first | subst eo22 | (injection eo22 with f1_ f2_ f3_; have f4_ := f1_.symm; have f5_ := f3_.symm; clear f1_ f2_ f3_; subst f4_; subst f5_))
        refine hK.out _ _ ⟨(blk_cell BK302.out 0).trans rfl, (blk_cell BK302.out 1).trans rfl, (blk_cell BK302.out 2).trans rfl, (blk_cell BK302.out 3).trans rfl, (blk_cell BK303.out 0).trans rfl, (blk_cell BK303.out 1).trans rfl, (blk_cell BK303.out 2).trans rfl, (blk_cell BK303.out 3).trans rfl⟩ (fun hHeld => ?_)
        clear hK K
        refine norm_ (a' := ?_) ?_ ?_
        rotate_left
        · show Act.put _ (some 22) _ = _
          simp only [Act.put, List.setIfInBounds_toArray, List.set_cons_zero, List.set_cons_succ, i64_w, i32_w]
          rfl
        refine one_ (i := 18) (N := some 23) #[true, true, true, true, true, true, true, true, true, true, true, true, true, true, true, true, true, true, true, false, false, false, false, false] rfl rfl (one_of HT_.out (by kernel_rfl)) (by decide) (fun K hK => ?_)
        refine goes_ Try.func19 (by kernel_rfl) rfl #[.agg #[.slice A0_0 l0_0.length c0_0, .slice A0_1 l0_1.length c0_1, .int .i64 a0_2, .bool a0_3], .agg #[.slice Ao21 t308.length co21, .slice Ao22 t311.length co22, .int .i64 t314, .bool t315]] (by rfl) rfl rfl (by (try simp only [List.map_toArray, List.map_cons, List.map_nil]); first | done | rfl | (simp only [List.length_drop, List.length_take]; rfl)) ?_
        with_reducible refine (dev_Same.calls k _ _ l0_0 _ _ l0_1 a0_2 a0_3 _ _ t308 _ _ t311 t314 t315 true _ ?side1 ?side2 ?side3 ?side4 ?side5 ?side6 ?side7 ?side8 A10.out).mono ?_
        (case side1 => repeat (first | exact (Kd.C_below HR0_0.out HB.out) | (with_reducible refine Kd.C_alloc ?_ _) | (with_reducible refine Kd.C_drewN ?_ _) | (with_reducible refine Kd.C_drew ?_)))
        (case side2 => exact HC0_0.out)
        (case side3 => repeat (first | exact (Kd.C_below HR0_1.out HB.out) | (with_reducible refine Kd.C_alloc ?_ _) | (with_reducible refine Kd.C_drewN ?_ _) | (with_reducible refine Kd.C_drew ?_)))
        (case side4 => exact HC0_1.out)
        (case side5 => repeat (first | exact (Kd.R_reads' HO310.out).2.2 | (with_reducible refine Kd.C_alloc ?_ _) | (with_reducible refine Kd.C_drewN ?_ _) | (with_reducible refine Kd.C_drew ?_)))
        (case side6 => exact (Kd.R_reads' HO310.out).2.1)
        (case side7 => repeat (first | exact (Kd.R_reads' HO313.out).2.2 | (with_reducible refine Kd.C_alloc ?_ _) | (with_reducible refine Kd.C_drewN ?_ _) | (with_reducible refine Kd.C_drew ?_)))
        (case side8 => exact (Kd.R_reads' HO313.out).2.1)
        rintro e w23 ⟨rfl, hb⟩
        refine ⟨_, rfl, ?_⟩
        have n0_ := Aside0.mk (Kd.R_below (by (with_reducible repeat (first | apply Kd.R_alloc | apply Kd.R_drewN | apply Kd.R_drew)); exact HO310.out) hb)
        have n1_ := Aside0.mk (Kd.R_below (by (with_reducible repeat (first | apply Kd.R_alloc | apply Kd.R_drewN | apply Kd.R_drew)); exact HO313.out) hb)
        have n2_ := Aside0.mk (blk_below (g := gb302) (o := .cells #[.slice A0_0 l0_0.length c0_0, .slice A0_1 l0_1.length c0_1, .int .i64 a0_2, .bool a0_3] 25 (0, 0)) (by (with_reducible repeat (first | refine blk_drewN ?_ _ | refine blk_drew ?_ | refine blk_alloc ?_ _)); exact BK302.out) hb)
        have n3_ := Aside0.mk (blk_below (g := gb303) (o := .cells #[.slice A1_0 l1_0.length c1_0, .slice A1_1 l1_1.length c1_1, .int .i64 a1_2, .bool a1_3] 25 (0, 0)) (by (with_reducible repeat (first | refine blk_drewN ?_ _ | refine blk_drew ?_ | refine blk_alloc ?_ _)); exact BK303.out) hb)
        have n4_ := Aside0.mk (below_step (by repeat (first | (with_reducible first | exact HB.out | apply below_alloc | apply pw_below_drewN | apply below_drew1 | refine below_set ?_ GE302.out | refine below_set ?_ GE303.out) | exact HB.out)) hb)
        clear HO310
        clear HO313
        clear BK302
        clear BK303
        clear HB
        have HO310 := n0_
        have HO313 := n1_
        have BK302 := n2_
        have BK303 := n3_
        have HB := n4_
        clear n0_ n1_ n2_ n3_ n4_
        (try clear hb)
        (try clear hb2)
        (try clear hk)
        (try clear hi)
        refine hK.out _ _ ⟨(blk_cell BK302.out 0).trans rfl, (blk_cell BK302.out 1).trans rfl, (blk_cell BK302.out 2).trans rfl, (blk_cell BK302.out 3).trans rfl, (blk_cell BK303.out 0).trans rfl, (blk_cell BK303.out 1).trans rfl, (blk_cell BK303.out 2).trans rfl, (blk_cell BK303.out 3).trans rfl⟩ (fun hHeld => ?_)
        clear hK K
        refine norm_ (a' := ?_) ?_ ?_
        rotate_left
        · show Act.put _ (some 23) _ = _
          simp only [Act.put, List.setIfInBounds_toArray, List.set_cons_zero, List.set_cons_succ, i64_w, i32_w]
          rfl
        refine pure_ (i := 19) (N := some 24) (v := ?_) (a' := ?_) #[true, true, true, true, true, true, true, true, true, true, true, true, true, true, true, true, true, true, true, true, false, false, false, false] rfl rfl (any_of HT_.out (by kernel_rfl)) (fun _ _ _ h => h) (Or.inl ⟨by rfl, ?_⟩) ?_ ?_
        rotate_left
        · intro w'
          go_simp
          with_reducible rfl
        rotate_left
        · simp only [Act.put, List.setIfInBounds_toArray, List.set_cons_zero, List.set_cons_succ, i64_w, i32_w]
          rfl
        refine pure_ (i := 20) (N := some 25) (v := ?_) (a' := ?_) #[true, true, true, true, true, true, true, true, true, true, true, true, true, true, true, true, true, true, true, true, true, false, false, false] rfl rfl (any_of HT_.out (by kernel_rfl)) (fun _ _ _ h => h) (Or.inl ⟨by rfl, ?_⟩) ?_ ?_
        rotate_left
        · intro w'
          go_simp
          with_reducible rfl
        rotate_left
        · simp only [Act.put, List.setIfInBounds_toArray, List.set_cons_zero, List.set_cons_succ, i64_w, i32_w]
          rfl
        refine one_ (i := 21) (N := some 26) #[true, true, true, true, true, true, true, true, true, true, true, true, true, true, true, true, true, true, true, true, true, true, false, false] rfl rfl (one_of HT_.out (by kernel_rfl)) (by decide) (fun K hK => ?_)
        refine goes_ Try.func8 (by kernel_rfl) rfl #[] (by rfl) rfl rfl (by (try simp only [List.map_toArray, List.map_cons, List.map_nil]); first | done | rfl | (simp only [List.length_drop, List.length_take]; rfl)) ?_
        with_reducible refine (almanaclaw02_awake.calls k  t317 _ A12.out).mono ?_
        rintro e w24 ⟨rfl, hb⟩
        refine ⟨_, rfl, ?_⟩
        have n0_ := Aside0.mk (Kd.R_below (by (with_reducible repeat (first | apply Kd.R_alloc | apply Kd.R_drewN | apply Kd.R_drew)); exact HO310.out) hb)
        have n1_ := Aside0.mk (Kd.R_below (by (with_reducible repeat (first | apply Kd.R_alloc | apply Kd.R_drewN | apply Kd.R_drew)); exact HO313.out) hb)
        have n2_ := Aside0.mk (blk_below (g := gb302) (o := .cells #[.slice A0_0 l0_0.length c0_0, .slice A0_1 l0_1.length c0_1, .int .i64 a0_2, .bool a0_3] 25 (0, 0)) (by (with_reducible repeat (first | refine blk_drewN ?_ _ | refine blk_drew ?_ | refine blk_alloc ?_ _)); exact BK302.out) hb)
        have n3_ := Aside0.mk (blk_below (g := gb303) (o := .cells #[.slice A1_0 l1_0.length c1_0, .slice A1_1 l1_1.length c1_1, .int .i64 a1_2, .bool a1_3] 25 (0, 0)) (by (with_reducible repeat (first | refine blk_drewN ?_ _ | refine blk_drew ?_ | refine blk_alloc ?_ _)); exact BK303.out) hb)
        have n4_ := Aside0.mk (below_step (by repeat (first | (with_reducible first | exact HB.out | apply below_alloc | apply pw_below_drewN | apply below_drew1 | refine below_set ?_ GE302.out | refine below_set ?_ GE303.out) | exact HB.out)) hb)
        clear HO310
        clear HO313
        clear BK302
        clear BK303
        clear HB
        have HO310 := n0_
        have HO313 := n1_
        have BK302 := n2_
        have BK303 := n3_
        have HB := n4_
        clear n0_ n1_ n2_ n3_ n4_
        (try clear hb)
        (try clear hb2)
        (try clear hk)
        (try clear hi)
        refine hK.out _ _ ⟨(blk_cell BK302.out 0).trans rfl, (blk_cell BK302.out 1).trans rfl, (blk_cell BK302.out 2).trans rfl, (blk_cell BK302.out 3).trans rfl, (blk_cell BK303.out 0).trans rfl, (blk_cell BK303.out 1).trans rfl, (blk_cell BK303.out 2).trans rfl, (blk_cell BK303.out 3).trans rfl⟩ (fun hHeld => ?_)
        clear hK K
        refine norm_ (a' := ?_) ?_ ?_
        rotate_left
        · show Act.put _ (some 26) _ = _
          simp only [Act.put, List.setIfInBounds_toArray, List.set_cons_zero, List.set_cons_succ, i64_w, i32_w]
          rfl
        refine pure_ (i := 22) (N := some 27) (v := ?_) (a' := ?_) #[true, true, true, true, true, true, true, true, true, true, true, true, true, true, true, true, true, true, true, true, true, true, true, false] rfl rfl (any_of HT_.out (by kernel_rfl)) (fun _ _ _ h => h) (Or.inl ⟨by rfl, ?_⟩) ?_ ?_
        rotate_left
        · intro w'
          go_simp
          with_reducible rfl
        rotate_left
        · simp only [Act.put, List.setIfInBounds_toArray, List.set_cons_zero, List.set_cons_succ, i64_w, i32_w]
          rfl
        refine pure_ (i := 23) (N := some 4) (v := ?_) (a' := ?_) #[true, true, true, true, true, true, true, true, true, true, true, true, true, true, true, true, true, true, true, true, true, true, true, true] rfl rfl (any_of HT_.out (by kernel_rfl)) (fun _ _ _ h => h) (Or.inl ⟨by rfl, ?_⟩) ?_ ?_
        rotate_left
        · intro w'
          go_simp
          with_reducible rfl
        rotate_left
        · simp only [Act.put, List.setIfInBounds_toArray, List.set_cons_zero, List.set_cons_succ, i64_w, i32_w]
          rfl
        refine done_ (done_of HT_.out (by kernel_rfl)) ?_
        try go_wp2
        go_ret
        exact ⟨by first | rfl | (simp [errW_none, errW_some] <;> rfl) | (simp [*, errW_none, errW_some] <;> rfl), by repeat (first | (with_reducible first | exact HB.out | apply below_alloc | apply pw_below_drewN | apply below_drew1 | refine below_set ?_ GE302.out | refine below_set ?_ GE303.out) | exact HB.out)⟩
      · replace c11 := Bool.eq_false_iff.mpr c11
        subst c11
        have H1 : (some false) = some r := by rw [if_neg (show ¬ (false = true) by decide)] at H; exact H
        clear H
        have H := H1
        clear H1
        exact absurd ((Option.some.inj H).trans HRT.out) (by decide)
    · rw [if_neg c8] at H
      have c8b0 : (t306 == t307) = false := by simpa using c8
      (try (have c8b1 : decide (t306 = t307) = false := by simpa using c8))
      (try (have c8b2 : (t306 == t307) = false := by simpa using c8))
      (try (have c8b3 : ¬ (t306 = t307) := by simpa using c8))
      clear c8
      exact absurd ((Option.some.inj H).trans HRT.out) (by decide)
  · rw [if_neg c5] at H
    have c5b0 : (t304 == t305) = false := by simpa using c5
    (try (have c5b1 : decide (t304 = t305) = false := by simpa using c5))
    (try (have c5b2 : (t304 == t305) = false := by simpa using c5))
    (try (have c5b3 : ¬ (t304 = t305) := by simpa using c5))
    clear c5
    exact absurd ((Option.some.inj H).trans HRT.out) (by decide)

end Go.Proofs.Ytaocplhijfkicaa.PD
/- Plain lemmas on loops that go through a list, and on what it means that a device is fit, or two are the same: no walk. -/
namespace Go.Proofs.Ytaocplhijfkicaa.PD
open Go.RowKit Go.Proofs.YtaocplhijfkicaaW.PrintWords Go.Proofs.YtaocplhijfkicaaW.PrintLast Go.Proofs.YtaocplhijfkicaaW.PrintMore
def allFrom (p : Nat → Bool) : Nat → Nat → Bool
  | _, 0 => true
  | i, d + 1 => p i && allFrom p (i + 1) d
theorem allFrom_congr {p q : Nat → Bool} : ∀ (d i : Nat), (∀ j, i ≤ j → j < i + d → p j = q j) → allFrom p i d = allFrom q i d
  | 0, _, _ => rfl
  | d + 1, i, h => by
    simp only [allFrom]
    rw [h i (Nat.le_refl _) (by omega), allFrom_congr d (i + 1) (fun j h1 h2 => h j (by omega) (by omega))]
theorem allFrom_true (i d : Nat) : allFrom (fun _ => true) i d = true := by
  induction d generalizing i with
  | zero => rfl
  | succ d ih => simp only [allFrom, ih, Bool.and_self]
theorem allFrom_and (p q : Nat → Bool) : ∀ (d i : Nat), allFrom (fun j => p j && q j) i d = (allFrom p i d && allFrom q i d)
  | 0, _ => rfl
  | d + 1, i => by
    simp only [allFrom, allFrom_and p q d (i + 1)]
    cases p i <;> cases q i <;> simp
theorem allFrom_iff (p : Nat → Bool) : ∀ (d i : Nat), allFrom p i d = true ↔ ∀ j, i ≤ j → j < i + d → p j = true
  | 0, i => by simp [allFrom]; intro j h1 h2; omega
  | d + 1, i => by
    simp only [allFrom, Bool.and_eq_true, allFrom_iff p d (i + 1)]
    constructor
    · rintro ⟨h, h'⟩ j h1 h2
      rcases Nat.eq_or_lt_of_le h1 with rfl | h3
      · exact h
      · exact h' j h3 (by omega)
    · intro h
      exact ⟨h i (Nat.le_refl _) (by omega), fun j h1 h2 => h j (by omega) (by omega)⟩
theorem allFrom_list {α : Type} (q : α → Bool) (z : α) (l : List α) : allFrom (fun j => q (l.getD j z)) 0 l.length = l.all q := by
  rw [Bool.eq_iff_iff, allFrom_iff, List.all_eq_true]
  constructor
  · intro h x hx
    obtain ⟨j, hj, rfl⟩ := List.getElem_of_mem hx
    have := h j (Nat.zero_le _) (by omega)
    rwa [List.getD_eq_getElem?_getD, List.getElem?_eq_getElem hj] at this
  · intro h j _ hj
    have hj' : j < l.length := by omega
    simp only [List.getD_eq_getElem?_getD, List.getElem?_eq_getElem hj', Option.getD_some]
    exact h _ (List.getElem_mem hj')
/-- A loop that ends at the first place at which p fails. -/
theorem all_loop {β : Type} (L : Nat → Int → Option β) (n : Nat) (p : Nat → Bool) (bad : β) (Fin : Nat → Option β)
    (h1 : ∀ k i, i < n → p i = true → L (k + 1) (i : Nat) = L k ((i + 1 : Nat) : Int)) (h2 : ∀ k i, i < n → p i = false → L (k + 1) (i : Nat) = some bad) (h3 : ∀ k, L (k + 1) (n : Nat) = Fin k) :
    ∀ (d k i : Nat), i + d = n → d < k → L k (i : Nat) = if allFrom p i d = true then Fin (k - 1 - d) else some bad
  | 0, k, i, hi, hk => by
    obtain ⟨k, rfl⟩ : ∃ m, k = m + 1 := ⟨k - 1, by omega⟩
    obtain rfl : i = n := by omega
    rw [h3]; simp [allFrom]
  | d + 1, k, i, hi, hk => by
    obtain ⟨k, rfl⟩ : ∃ m, k = m + 1 := ⟨k - 1, by omega⟩
    cases hp : p i with
    | true =>
      rw [h1 k i (by omega) hp, all_loop L n p bad Fin h1 h2 h3 d k (i + 1) (by omega) (by omega)]
      simp only [allFrom, hp, Bool.true_and]
      rw [show k + 1 - 1 - (d + 1) = k - 1 - d by omega]
    | false =>
      rw [h2 k i (by omega) hp]
      simp [allFrom, hp]
/-- A loop that looks for the first place at which p holds. -/
theorem find_loop (L : Nat → Int → Option Int) (n : Nat) (p : Nat → Bool)
    (h1 : ∀ k i, i < n → p i = false → L (k + 1) (i : Nat) = L k ((i + 1 : Nat) : Int)) (h2 : ∀ k i, i < n → p i = true → L (k + 1) (i : Nat) = some (i : Int)) (h3 : ∀ k, L (k + 1) (n : Nat) = some (-1)) :
    ∀ (d k i : Nat), i + d = n → d < k → ∃ r : Int, L k (i : Nat) = some r ∧ decide (r ≥ 0) = !allFrom (fun j => !p j) i d
  | 0, k, i, hi, hk => by
    obtain ⟨k, rfl⟩ : ∃ m, k = m + 1 := ⟨k - 1, by omega⟩
    obtain rfl : i = n := by omega
    exact ⟨-1, h3 k, by simp [allFrom]⟩
  | d + 1, k, i, hi, hk => by
    obtain ⟨k, rfl⟩ : ∃ m, k = m + 1 := ⟨k - 1, by omega⟩
    cases hp : p i with
    | false =>
      obtain ⟨r, hr, h⟩ := find_loop L n p h1 h2 h3 d k (i + 1) (by omega) (by omega)
      exact ⟨r, by rw [h1 k i (by omega) hp, hr], by rw [h]; simp [allFrom, hp]⟩
    | true => exact ⟨i, h2 k i (by omega) hp, by simp [allFrom, hp]⟩
theorem wrapN {i n : Nat} (h : i < n) (hn : n ≤ 9223372036854775807) : wrap64 ((i : Int) + 1) = ((i + 1 : Nat) : Int) := by unfold wrap64; omega
theorem rdS (l : List ByteArray) (i : Nat) : rdOf ByteArray.empty l (i : Int) = l.getD i ByteArray.empty := by unfold rdOf; rw [Int.toNat_natCast]
theorem rdW (l : List S40) (i : Nat) : rd_T40 l (i : Int) = l.getD i z40 := by unfold rd_T40; rw [Int.toNat_natCast]
def fitB (bl : List ByteArray) (ca : List S40) (left : Int) (dead : Bool) : Bool := decide (0 < bl.length) && decide (bl.length ≤ 1024) && decide (ca.length ≤ 4096) && decide (-1 ≤ left) && (!dead || left == 0) && allFrom (fun j => (bl.getD j ByteArray.empty).size == 128) 0 bl.length && allFrom (fun j => decide (0 ≤ (ca.getD j z40).f0) && decide ((ca.getD j z40).f0 < bl.length) && (ca.getD j z40).f1.size == 128) 0 ca.length
theorem rfit_l1 (bl : List ByteArray) (ca : List S40) (hc : ca.length ≤ 9223372036854775807) (left : Int) (dead : Bool) (k : Nat) (hk : ca.length < k) :
    almanacref02_Fit.l1 k 0 bl ca left dead = some (allFrom (fun j => decide (0 ≤ (ca.getD j z40).f0) && decide ((ca.getD j z40).f0 < bl.length) && (ca.getD j z40).f1.size == 128) 0 ca.length) := by
  have h := all_loop (fun k i => almanacref02_Fit.l1 k i bl ca left dead) ca.length (fun j => decide (0 ≤ (ca.getD j z40).f0) && decide ((ca.getD j z40).f0 < bl.length) && (ca.getD j z40).f1.size == 128) false (fun _ => some true)
    (fun k i hi hp => by
      simp only [Bool.and_eq_true, decide_eq_true_eq, beq_iff_eq] at hp
      simp only [almanacref02_Fit.l1, rdW]
      rw [if_pos (by omega), if_pos (by omega), if_neg (by omega), if_neg (by omega), if_pos (by omega), wrapN hi hc])
    (fun k i hi hp => by
      simp only [Bool.and_eq_false_iff, decide_eq_false_iff_not, beq_eq_false_iff_ne, ne_eq] at hp
      simp only [almanacref02_Fit.l1, rdW]
      rw [if_pos (by omega), if_pos (by omega)]
      split
      · rfl
      · split
        · rfl
        · split
          · exfalso; omega
          · rfl)
    (fun k => by simp only [almanacref02_Fit.l1]; rw [if_neg (by omega)])
    ca.length k 0 (by omega) hk
  rw [show ((0 : Nat) : Int) = 0 from rfl] at h
  rw [h]
  split
  · rename_i h'; rw [h']
  · rename_i h'; rw [Bool.not_eq_true] at h'; rw [h']
theorem rfit_l0 (bl : List ByteArray) (ca : List S40) (hb : bl.length ≤ 9223372036854775807) (hc : ca.length ≤ 9223372036854775807) (left : Int) (dead : Bool) (k : Nat) (hk : bl.length + ca.length + 1 < k) :
    almanacref02_Fit.l0 k 0 bl ca left dead = some (allFrom (fun j => (bl.getD j ByteArray.empty).size == 128) 0 bl.length && allFrom (fun j => decide (0 ≤ (ca.getD j z40).f0) && decide ((ca.getD j z40).f0 < bl.length) && (ca.getD j z40).f1.size == 128) 0 ca.length) := by
  have h := all_loop (fun k i => almanacref02_Fit.l0 k i bl ca left dead) bl.length (fun j => (bl.getD j ByteArray.empty).size == 128) false (fun k => almanacref02_Fit.l1 k 0 bl ca left dead)
    (fun k i hi hp => by
      simp only [beq_iff_eq] at hp
      simp only [almanacref02_Fit.l0, rdS]
      rw [if_pos (by omega), if_pos (by omega), if_pos (by omega), wrapN hi hb])
    (fun k i hi hp => by
      simp only [beq_eq_false_iff_ne, ne_eq] at hp
      simp only [almanacref02_Fit.l0, rdS]
      rw [if_pos (by omega), if_pos (by omega), if_neg (by omega)])
    (fun k => by simp only [almanacref02_Fit.l0]; rw [if_neg (by omega)])
    bl.length k 0 (by omega) (by omega)
  rw [show ((0 : Nat) : Int) = 0 from rfl] at h
  rw [h]
  split
  · rename_i h'; rw [h', rfit_l1 bl ca hc left dead _ (by omega)]; rfl
  · rename_i h'; rw [Bool.not_eq_true] at h'; rw [h']; rfl
theorem rfit_f (bl : List ByteArray) (ca : List S40) (hb : bl.length ≤ 9223372036854775807) (hc : ca.length ≤ 9223372036854775807) (left : Int) (dead : Bool) (k : Nat) (hk : bl.length + ca.length + 2 < k) :
    almanacref02_Fit.f k bl ca left dead = some (fitB bl ca left dead) := by
  obtain ⟨k, rfl⟩ : ∃ m, k = m + 1 := ⟨k - 1, by omega⟩
  unfold almanacref02_Fit.f
  simp only [almanacref02_Fit.j0, if_true]
  rw [rfit_l0 bl ca hb hc left dead k (by omega)]
  unfold fitB
  generalize allFrom (fun j => (bl.getD j ByteArray.empty).size == 128) 0 bl.length = A
  generalize allFrom (fun j => decide (0 ≤ (ca.getD j z40).f0) && decide ((ca.getD j z40).f0 < bl.length) && (ca.getD j z40).f1.size == 128) 0 ca.length = B
  by_cases h1 : 0 < bl.length
  · rw [if_neg (by omega)]
    by_cases h2 : bl.length ≤ 1024
    · rw [if_neg (by omega)]
      by_cases h3 : ca.length ≤ 4096
      · rw [if_neg (by omega)]
        by_cases h4 : -1 ≤ left
        · rw [if_neg (by omega)]
          cases dead with
          | true =>
            by_cases h5 : left = 0
            · subst h5; simp [h1, h2, h3]
            · simp [h1, h2, h3, h4, h5]
          | false => simp [h1, h2, h3, h4]
        · rw [if_pos (by omega)]; simp [h4]
      · rw [if_pos (by omega)]; simp [h3]
    · rw [if_pos (by omega)]; simp [h2]
  · rw [if_pos (by omega)]; simp [h1]
theorem idxS (bl : List ByteArray) (hb : bl.length ≤ 9223372036854775807) (k : Nat) (hk : bl.length < k) :
    slices_ContainsFunc_string_string.f k bl = some (!allFrom (fun j => (bl.getD j ByteArray.empty).size == 128) 0 bl.length) := by
  obtain ⟨r, hr, h⟩ := find_loop (fun k i => slices_IndexFunc_string_string.l0 k bl bl.length i) bl.length (fun j => !((bl.getD j ByteArray.empty).size == 128))
    (fun k i hi hp => by
      simp only [Bool.not_eq_false', beq_iff_eq] at hp
      simp only [slices_IndexFunc_string_string.l0, rdS, dev_Fit_2.f, dev_whole.f]
      rw [if_pos (by omega), if_pos (by omega), if_pos (by omega), hp]
      simp only [Option.bind_some]
      rw [if_neg (by decide), wrapN hi hb])
    (fun k i hi hp => by
      simp only [Bool.not_eq_true', beq_eq_false_iff_ne, ne_eq] at hp
      simp only [slices_IndexFunc_string_string.l0, rdS, dev_Fit_2.f, dev_whole.f]
      rw [if_pos (by omega), if_pos (by omega), if_pos (by omega)]
      simp only [Option.bind_some]
      rw [if_pos]
      simp only [Bool.not_eq_true', beq_eq_false_iff_ne, ne_eq]
      omega)
    (fun k => by simp only [slices_IndexFunc_string_string.l0]; rw [if_neg (by omega)])
    bl.length k 0 (by omega) hk
  rw [show ((0 : Nat) : Int) = 0 from rfl] at hr
  unfold slices_ContainsFunc_string_string.f slices_IndexFunc_string_string.f
  rw [hr]
  simp only [Option.bind_some, h, Bool.not_not]
theorem idxW (ca : List S40) (hc : ca.length ≤ 9223372036854775807) (n : Nat) (k : Nat) (hk : ca.length < k) :
    api_Wr_37.f k ca n = some (!allFrom (fun j => decide (0 ≤ (ca.getD j z40).f0) && decide ((ca.getD j z40).f0 < n) && (ca.getD j z40).f1.size == 128) 0 ca.length) := by
  obtain ⟨r, hr, h⟩ := find_loop (fun k i => api_Wr_49.l0 k ca n ca.length i) ca.length (fun j => !(decide (0 ≤ (ca.getD j z40).f0) && decide ((ca.getD j z40).f0 < n) && (ca.getD j z40).f1.size == 128))
    (fun k i hi hp => by
      simp only [api_Wr_49.l0, rdW, dev_Fit_1.f]
      rw [if_pos (by omega), if_pos (by omega), if_pos (by omega)]
      simp only [Option.bind_some]
      rw [if_neg, wrapN hi hc]
      simp only [Bool.not_eq_false'] at hp
      rw [Bool.and_eq_true] at hp
      rw [hp.1, hp.2]; decide)
    (fun k i hi hp => by
      simp only [api_Wr_49.l0, rdW, dev_Fit_1.f]
      rw [if_pos (by omega), if_pos (by omega), if_pos (by omega)]
      simp only [Option.bind_some]
      rw [if_pos]
      rw [Bool.not_and] at hp
      exact hp)
    (fun k => by simp only [api_Wr_49.l0]; rw [if_neg (by omega)])
    ca.length k 0 (by omega) hk
  rw [show ((0 : Nat) : Int) = 0 from rfl] at hr
  unfold api_Wr_37.f api_Wr_49.f
  rw [hr]
  simp only [Option.bind_some, h, Bool.not_not]
theorem dfit_f (bl : List ByteArray) (ca : List S40) (hb : bl.length ≤ 9223372036854775807) (hc : ca.length ≤ 9223372036854775807) (left : Int) (dead : Bool) (k : Nat) (hk : bl.length + ca.length + 2 < k) :
    dev_Fit.f k bl ca left dead = some (fitB bl ca left dead) := by
  unfold dev_Fit.f
  rw [idxS bl hb k (by omega), idxW ca hc bl.length k (by omega)]
  unfold fitB
  generalize allFrom (fun j => (bl.getD j ByteArray.empty).size == 128) 0 bl.length = A
  generalize allFrom (fun j => decide (0 ≤ (ca.getD j z40).f0) && decide ((ca.getD j z40).f0 < bl.length) && (ca.getD j z40).f1.size == 128) 0 ca.length = B
  simp only [Option.bind_some]
  by_cases h1 : 0 < bl.length
  · rw [if_pos (by omega)]
    by_cases h2 : bl.length ≤ 1024
    · rw [if_pos (by omega)]
      by_cases h3 : ca.length ≤ 4096
      · rw [if_pos (by omega)]
        by_cases h4 : -1 ≤ left
        · rw [if_pos (by omega)]
          cases dead with
          | true =>
            by_cases h5 : left = 0
            · subst h5; cases A <;> simp [h1, h2, h3]
            · simp [h1, h2, h3, h4, h5]
          | false => cases A <;> simp [h1, h2, h3, h4]
        · rw [if_neg (by omega)]; simp [h4]
      · rw [if_neg (by omega)]; simp [h3]
    · rw [if_neg (by omega)]; simp [h2]
  · rw [if_neg (by omega)]; simp [h1]
def eqS (a b : List ByteArray) : Bool := allFrom (fun j => (a.getD j ByteArray.empty).toList == (b.getD j ByteArray.empty).toList) 0 a.length
def eqW (a b : List S40) : Bool := allFrom (fun j => (a.getD j z40).f0 == (b.getD j z40).f0 && (a.getD j z40).f1.toList == (b.getD j z40).f1.toList) 0 a.length
def sameB (a : List ByteArray) (ca : List S40) (l : Int) (d : Bool) (b : List ByteArray) (cb : List S40) (m : Int) (e : Bool) : Bool := decide (a.length = b.length) && decide (ca.length = cb.length) && l == m && d == e && eqS a b && eqW ca cb
theorem wneq (x y : S40) : (!((x.f0) == (y.f0)) || !((x.f1).toList == (y.f1).toList)) = !((x.f0 == y.f0) && x.f1.toList == y.f1.toList) := by rw [Bool.not_and]
theorem rsame_l1 (a : List ByteArray) (ca : List S40) (l : Int) (d : Bool) (b : List ByteArray) (cb : List S40) (m : Int) (e : Bool) (hl : ca.length = cb.length) (hc : ca.length ≤ 9223372036854775807) (k : Nat) (hk : ca.length < k) :
    almanacref02_Same.l1 k 0 a ca l d b cb m e = some (eqW ca cb) := by
  have h := all_loop (fun k i => almanacref02_Same.l1 k i a ca l d b cb m e) ca.length (fun j => (ca.getD j z40).f0 == (cb.getD j z40).f0 && (ca.getD j z40).f1.toList == (cb.getD j z40).f1.toList) false (fun _ => some true)
    (fun k i hi hp => by
      simp only [almanacref02_Same.l1, rdW]
      rw [if_pos (by omega), if_pos (by omega), if_pos (by omega), wneq, hp, if_neg (by decide), wrapN hi hc])
    (fun k i hi hp => by
      simp only [almanacref02_Same.l1, rdW]
      rw [if_pos (by omega), if_pos (by omega), if_pos (by omega), wneq, hp, if_pos (by decide)])
    (fun k => by simp only [almanacref02_Same.l1]; rw [if_neg (by omega)])
    ca.length k 0 (by omega) hk
  rw [show ((0 : Nat) : Int) = 0 from rfl] at h
  rw [h]
  unfold eqW
  split
  · rename_i h'; rw [h']
  · rename_i h'; rw [Bool.not_eq_true] at h'; rw [h']
theorem rsame_l0 (a : List ByteArray) (ca : List S40) (l : Int) (d : Bool) (b : List ByteArray) (cb : List S40) (m : Int) (e : Bool) (ha : a.length = b.length) (hl : ca.length = cb.length) (hb : a.length ≤ 9223372036854775807) (hc : ca.length ≤ 9223372036854775807) (k : Nat) (hk : a.length + ca.length + 1 < k) :
    almanacref02_Same.l0 k 0 a ca l d b cb m e = some (eqS a b && eqW ca cb) := by
  have h := all_loop (fun k i => almanacref02_Same.l0 k i a ca l d b cb m e) a.length (fun j => (a.getD j ByteArray.empty).toList == (b.getD j ByteArray.empty).toList) false (fun k => almanacref02_Same.l1 k 0 a ca l d b cb m e)
    (fun k i hi hp => by
      simp only [almanacref02_Same.l0, rdS]
      rw [if_pos (by omega), if_pos (by omega), if_pos (by omega), if_pos (eq_of_beq hp), wrapN hi hb])
    (fun k i hi hp => by
      simp only [almanacref02_Same.l0, rdS]
      rw [if_pos (by omega), if_pos (by omega), if_pos (by omega), if_neg (by simpa using hp)])
    (fun k => by simp only [almanacref02_Same.l0]; rw [if_neg (by omega)])
    a.length k 0 (by omega) (by omega)
  rw [show ((0 : Nat) : Int) = 0 from rfl] at h
  rw [h]
  unfold eqS
  split
  · rename_i h'; rw [h', rsame_l1 a ca l d b cb m e hl hc _ (by omega)]; rfl
  · rename_i h'; rw [Bool.not_eq_true] at h'; rw [h']; rfl
theorem rsame_f (a : List ByteArray) (ca : List S40) (l : Int) (d : Bool) (b : List ByteArray) (cb : List S40) (m : Int) (e : Bool) (hb : a.length ≤ 9223372036854775807) (hc : ca.length ≤ 9223372036854775807) (k : Nat) (hk : a.length + ca.length + 2 < k) :
    almanacref02_Same.f k a ca l d b cb m e = some (sameB a ca l d b cb m e) := by
  obtain ⟨k, rfl⟩ : ∃ m, k = m + 1 := ⟨k - 1, by omega⟩
  unfold almanacref02_Same.f sameB
  simp only [almanacref02_Same.j0, if_true]
  by_cases h1 : a.length = b.length
  · rw [if_pos (by omega)]
    by_cases h2 : ca.length = cb.length
    · rw [if_pos (by omega), rsame_l0 a ca l d b cb m e h1 h2 hb hc k (by omega)]
      by_cases h3 : l = m
      · rw [if_pos h3]
        subst h3
        cases d <;> cases e <;> simp [h1, h2]
      · rw [if_neg h3]; simp [h3]
    · rw [if_neg (by omega)]; simp [h2]
  · rw [if_neg (by omega)]; simp [h1]
theorem deqS (a b : List ByteArray) (hb : a.length ≤ 9223372036854775807) (k : Nat) (hk : a.length < k) : slices_Equal_string_string.f k a b = some (decide (a.length = b.length) && eqS a b) := by
  unfold slices_Equal_string_string.f
  by_cases h1 : a.length = b.length
  · rw [if_pos (by omega)]
    have h := all_loop (fun k i => slices_Equal_string_string.l0 k a b a.length i) a.length (fun j => (a.getD j ByteArray.empty).toList == (b.getD j ByteArray.empty).toList) false (fun k => some true)
      (fun k i hi hp => by
        simp only [slices_Equal_string_string.l0, rdS]
        rw [if_pos (by omega), if_pos (by omega), if_pos (by omega), if_pos (by omega), if_pos (eq_of_beq hp), wrapN hi hb])
      (fun k i hi hp => by
        simp only [slices_Equal_string_string.l0, rdS]
        rw [if_pos (by omega), if_pos (by omega), if_pos (by omega), if_pos (by omega), if_neg (by simpa using hp)])
      (fun k => by simp only [slices_Equal_string_string.l0]; rw [if_neg (by omega)])
      a.length k 0 (by omega) (by omega)
    rw [show ((0 : Nat) : Int) = 0 from rfl] at h
    rw [h]
    unfold eqS
    split
    · rename_i h'; rw [h']; simp [h1]
    · rename_i h'; rw [Bool.not_eq_true] at h'; rw [h']; simp
  · rw [if_neg (by omega)]; simp [h1]
theorem deqW (a b : List S40) (hb : a.length ≤ 9223372036854775807) (k : Nat) (hk : a.length < k) : api_Wr_42.f k a b = some (decide (a.length = b.length) && eqW a b) := by
  unfold api_Wr_42.f
  by_cases h1 : a.length = b.length
  · rw [if_pos (by omega)]
    have h := all_loop (fun k i => api_Wr_42.l0 k a b a.length i) a.length (fun j => (a.getD j z40).f0 == (b.getD j z40).f0 && (a.getD j z40).f1.toList == (b.getD j z40).f1.toList) false (fun k => some true)
      (fun k i hi hp => by
        simp only [api_Wr_42.l0, rdW]
        rw [if_pos (by omega), if_pos (by omega), if_pos (by omega), if_pos (by omega), wneq, hp, if_neg (by decide), wrapN hi hb])
      (fun k i hi hp => by
        simp only [api_Wr_42.l0, rdW]
        rw [if_pos (by omega), if_pos (by omega), if_pos (by omega), if_pos (by omega), wneq, hp, if_pos (by decide)])
      (fun k => by simp only [api_Wr_42.l0]; rw [if_neg (by omega)])
      a.length k 0 (by omega) (by omega)
    rw [show ((0 : Nat) : Int) = 0 from rfl] at h
    rw [h]
    unfold eqW
    split
    · rename_i h'; rw [h']; simp [h1]
    · rename_i h'; rw [Bool.not_eq_true] at h'; rw [h']; simp
  · rw [if_neg (by omega)]; simp [h1]
theorem dsame_f (a : List ByteArray) (ca : List S40) (l : Int) (d : Bool) (b : List ByteArray) (cb : List S40) (m : Int) (e : Bool) (hb : a.length ≤ 9223372036854775807) (hc : ca.length ≤ 9223372036854775807) (k : Nat) (hk : a.length + ca.length + 2 < k) :
    dev_Same.f k a ca l d b cb m e = some (sameB a ca l d b cb m e) := by
  unfold dev_Same.f sameB
  rw [deqS a b hb k (by omega), deqW ca cb hc k (by omega)]
  generalize eqS a b = A
  generalize eqW ca cb = B
  simp only [Option.bind_some]
  by_cases h1 : a.length = b.length <;> by_cases h2 : ca.length = cb.length <;> by_cases h3 : l = m <;> cases A <;> cases B <;> cases d <;> cases e <;> simp [h1, h2, h3]
theorem same_self (a : List ByteArray) (ca : List S40) (l : Int) (d : Bool) : sameB a ca l d a ca l d = true := by
  unfold sameB eqS eqW
  rw [allFrom_congr (q := fun _ => true) _ _ (fun j _ _ => by simp), allFrom_congr (q := fun _ => true) ca.length _ (fun j _ _ => by simp), allFrom_true, allFrom_true]
  simp
theorem copy_f (a : List ByteArray) (ca : List S40) (l : Int) (d : Bool) (h0 : a.length < 8796093022208) (h1 : ca.length < 5864062014805) : almanacref02_Copy.f a ca l d = some (a, ca, l, d) := by
  unfold almanacref02_Copy.f
  rw [if_pos (by simpa using h0), if_pos (by simpa using h1)]
  simp
theorem awake_any (k : Nat) (hk : 10 ≤ k) : almanaclaw02_awake.f k = some true := at_rounds (fun k => almanaclaw02_awake.mono k) hk awake_val
theorem devFits_pure (a : List ByteArray) (ca : List S40) (l : Int) (d : Bool) (b : List ByteArray) (cb : List S40) (m : Int) (e : Bool) (ha : a.length < 8796093022208) (hca : ca.length < 5864062014805) :
    ∃ k, almanaclaw02_DevFits.f k a ca l d b cb m e = some true := by
  refine ⟨a.length + ca.length + 10, ?_⟩
  unfold almanaclaw02_DevFits.f
  rw [dfit_f a ca (by omega) (by omega) l d _ (by omega), rfit_f a ca (by omega) (by omega) l d _ (by omega)]
  simp only [Option.bind_some, beq_self_eq_true, if_true]
  rw [dsame_f a ca l d b cb m e (by omega) (by omega) _ (by omega), rsame_f a ca l d b cb m e (by omega) (by omega) _ (by omega)]
  simp only [Option.bind_some, beq_self_eq_true, if_true]
  rw [copy_f a ca l d ha hca]
  simp only [Option.bind_some]
  rw [dsame_f a ca l d a ca l d (by omega) (by omega) _ (by omega), same_self, awake_any _ (by omega)]
  rfl
end Go.Proofs.Ytaocplhijfkicaa.PD
/- What a value that came in reads as, kind by kind: a datum that can be read is a value of the print's kinds, its sizes within the reach. -/
namespace Go.Proofs.Ytaocplhijfkicaa.PD
open Go.RowKit Go.Proofs.YtaocplhijfkicaaW.PrintWords Go.Deep Go.ChangeShapes Go.WideShapes
def Op {α : Type} (P : Program) (t : TypeId) (d : Kd α) (ok : α → Prop) : Prop :=
  ∀ {H : Type} (enc : TypeId × Value → H) (w : World) (base : Nat) (spare : Nat → Bool) (held : Bool) (fuel : Nat) (cs : List Value) (x : DataW H × List MemPlace),
    DataW.trod enc P w base spare held fuel t cs = some x → (∀ n ∈ x.1.weights P t, n ≤ reachBytes) → ∃ a, d.K w a cs ∧ ok a
theorem op_int {P : Program} {t : TypeId} {k : IntKind} (ht : P.underlying t = some (.int k)) : Op P t (Kd.int k) (fun a => (Lit.int k a).wf = true) := by
  intro H enc w base spare held fuel cs x h _
  obtain ⟨n, rfl, _, hw⟩ := DataW.trod_int ht h
  exact ⟨n, rfl, hw⟩
theorem op_bool {P : Program} {t : TypeId} (ht : P.underlying t = some .bool) : Op P t Kd.bool (fun _ => True) := by
  intro H enc w base spare held fuel cs x h _
  obtain ⟨n, rfl, _⟩ := DataW.trod_bool ht h
  exact ⟨n, rfl, trivial⟩
theorem op_string {P : Program} {t : TypeId} (ht : P.underlying t = some .string) : Op P t Kd.string (fun a => a.size ≤ reachBytes) := by
  intro H enc w base spare held fuel cs x h hs
  obtain ⟨s, rfl, rfl, _⟩ := DataW.trod_string ht h
  refine ⟨s, rfl, ?_⟩
  have := hs s.data.toList.length (by simp [DataW.weights])
  rwa [data_length] at this
theorem list_of {α : Type} (Q : Nat → α → Prop) : ∀ n : Nat, (∀ i, i < n → ∃ a, Q i a) → ∃ xs : List α, xs.length = n ∧ ∀ i a, xs[i]? = some a → Q i a
  | 0, _ => ⟨[], rfl, fun i a h => by simp at h⟩
  | n + 1, h => by
    obtain ⟨xs, hl, hx⟩ := list_of Q n (fun i hi => h i (by omega))
    obtain ⟨a, ha⟩ := h n (by omega)
    refine ⟨xs ++ [a], by simp [hl], fun i b hb => ?_⟩
    rcases Nat.lt_or_ge i n with hi | hi
    · rw [List.getElem?_append_left (by omega)] at hb; exact hx i b hb
    · rw [List.getElem?_append_right (by omega)] at hb
      have hi0 : i - xs.length = 0 := by
        rcases Nat.eq_zero_or_pos (i - xs.length) with h0 | h0
        · exact h0
        · rw [List.getElem?_eq_none (by simp; omega)] at hb; cases hb
      rw [hi0] at hb
      have hin : i = n := by omega
      subst hin
      simp at hb
      subst hb
      exact ha
theorem weightsAll_mem {H : Type} {P : Program} {e : TypeId} : ∀ {ds : List (DataW H)} {d : DataW H}, d ∈ ds → ∀ n ∈ d.weights P e, n ∈ DataW.weightsAll P e ds
  | d0 :: ds, d, hd, n, hn => by
    simp only [DataW.weightsAll, List.mem_append]
    rcases List.mem_cons.1 hd with rfl | hd
    · exact .inl hn
    · exact .inr (weightsAll_mem hd n hn)
theorem op_slice {α : Type} {P : Program} {t e : TypeId} {d : Kd α} {ok : α → Prop} {B : Nat} (ht : P.underlying t = some (.slice e)) (hC : P.cellsOf e = d.sz) (hB : P.bytesOf e = B) (he : Op P e d ok) :
    Op P t (Kd.slice e d) (fun xs => xs.length * B ≤ reachBytes ∧ ∀ x ∈ xs, ok x) := by
  intro H enc w base spare held fuel cs x h hs
  rcases open_slice ht h with ⟨rfl, rfl⟩ | ⟨a, len, cap, m, n, D, Pl, rfl, hb, hl, hm, hmm, rfl, hi⟩
  · exact ⟨[], ⟨none, 0, rfl, Nat.le_refl _, rfl, Nat.zero_le _, fun hp => absurd hp (Nat.lt_irrefl _)⟩, by simp [reachBytes], by simp⟩
  · have hlm : len ≤ m := by rw [hmm]; split <;> omega
    have hel : ∀ i, i < len → ∃ b, (∃ c, c.length = d.sz ∧ d.K w b c ∧ ∀ j u, c[j]? = some u → w.cell? (a.add (i * d.sz + j)) = some u) ∧ ok b := by
      intro i hil
      obtain ⟨cs', hc, ht'⟩ := hi i (by omega)
      obtain ⟨b, hb, hok⟩ := he enc w base spare held n cs' _ ht' (fun q hq => hs q (by
        simp only [DataW.weights, ht, List.mem_cons, List.mem_append]
        exact .inr (.inl (weightsAll_mem (List.mem_map.2 ⟨i, List.mem_range.2 hil, rfl⟩) q hq))))
      obtain ⟨_, hcl, hat⟩ := World.cells?_some hc
      refine ⟨b, ⟨cs', d.K_len hb, hb, fun j u hu => ?_⟩, hok⟩
      obtain ⟨hj, rfl⟩ := List.getElem?_eq_some_iff.1 hu
      have hcell := hat j (by rw [hC, ← d.K_len hb]; exact hj)
      rw [hC] at hcell
      rw [← Go.Deep.add_add, hcell]
      exact List.getElem?_eq_getElem hj
    obtain ⟨xs, hxl, hx⟩ := list_of _ len hel
    have hw := hs ((((List.range len).map D).length + ((List.range (m - len)).map fun j => D (len + j)).length) * P.bytesOf e) (by simp [DataW.weights, ht])
    simp only [List.length_map, List.length_range] at hw
    refine ⟨xs, ⟨some a, cap, by rw [hxl], by omega, ?_⟩, ?_, fun y hy => ?_⟩
    · refine ⟨rfl, by rw [hxl]; unfold maxLen at hm; omega, fun _ => ⟨a, rfl, fun j p hp => (hx j p hp).1⟩⟩
    · rw [hxl, ← hB]
      exact Nat.le_trans (Nat.mul_le_mul_right _ (by omega)) hw
    · obtain ⟨i, hi, rfl⟩ := List.getElem_of_mem hy
      exact (hx i _ (List.getElem?_eq_getElem hi)).2
def OpF {α : Type} (P : Program) (fs : List (Nat × TypeId)) (o : Nat) (d : Kd α) (ok : α → Prop) : Prop :=
  ∀ {H : Type} (enc : TypeId × Value → H) (w : World) (base : Nat) (spare : Nat → Bool) (held : Bool) (n : Nat) (cs : List Value) (ys : List (DataW H × List MemPlace)),
    (∀ (i : Nat) (f : Nat × TypeId), fs[i]? = some f → DataW.trod enc P w base spare held n f.2 ((cs.drop f.1).take (P.cellsOf f.2)) = ys[i]?) → (∀ (i : Nat) (f : Nat × TypeId) (y : DataW H × List MemPlace), fs[i]? = some f → ys[i]? = some y → ∀ q ∈ y.1.weights P f.2, q ≤ reachBytes) → ys.length = fs.length → cs.length = o + d.sz →
    ∃ a, d.K w a (cs.drop o) ∧ ok a
theorem opF_one {α : Type} {P : Program} {t : TypeId} {d : Kd α} {ok : α → Prop} {o : Nat} (h : Op P t d ok) (hC : P.cellsOf t = d.sz) : OpF P [(o, t)] o d ok := by
  intro H enc w base spare held n cs ys hy hw hl hc
  match ys, hl with
  | [y], _ =>
    have h1 := hy 0 (o, t) rfl
    simp only [List.getElem?_cons_zero] at h1
    rw [hC, List.take_of_length_le (by rw [List.length_drop]; omega)] at h1
    exact h enc w base spare held n _ y h1 (hw 0 (o, t) y rfl rfl)
theorem opF_cons {α β : Type} {P : Program} {t : TypeId} {d : Kd α} {e : Kd β} {ok : α → Prop} {ok' : β → Prop} {o : Nat} {r : List (Nat × TypeId)} (h : Op P t d ok) (hC : P.cellsOf t = d.sz) (hr : OpF P r (o + d.sz) e ok') :
    OpF P ((o, t) :: r) o (Kd.pair d e) (fun x => ok x.1 ∧ ok' x.2) := by
  intro H enc w base spare held n cs ys hy hw hl hc
  match ys, hl with
  | y :: ys, hl =>
    have h1 := hy 0 (o, t) rfl
    simp only [List.getElem?_cons_zero] at h1
    rw [hC] at h1
    obtain ⟨a, ha, hok⟩ := h enc w base spare held n _ y h1 (hw 0 (o, t) y rfl rfl)
    have hc' : cs.length = o + d.sz + e.sz := by rw [hc]; show o + (d.sz + e.sz) = _; omega
    obtain ⟨b, hb, hok'⟩ := hr enc w base spare held n cs ys (fun i f hf => by simpa using hy (i + 1) f (by simpa using hf)) (fun i f y' hf hy' => hw (i + 1) f y' (by simpa using hf) (by simpa using hy')) (by simpa using hl) hc'
    refine ⟨(a, b), ⟨_, _, ?_, ha, hb⟩, hok, hok'⟩
    rw [← List.drop_drop, List.take_append_drop]
theorem op_struct {α : Type} {P : Program} {t : TypeId} {fs : Array Field} {L : List (Nat × TypeId)} {d : Kd α} {ok : α → Prop} (ht : P.underlying t = some (.struct fs)) (hL : fs.toList.map (fun f => (f.offset, f.type)) = L) (hC : P.cellsOf t = d.sz) (h : OpF P L 0 d ok) : Op P t d ok := by
  intro H enc w base spare held fuel cs x hx hs
  obtain ⟨ys, n, _, rfl, hlen, hyl, hf⟩ := DataW.trod_struct ht hx
  have hget : ∀ (i : Nat) (f : Nat × TypeId), L[i]? = some f → ∃ g : Field, fs[i]? = some g ∧ f = (g.offset, g.type) := by
    intro i f hi
    rw [← hL, List.getElem?_map] at hi
    obtain ⟨g, hg, rfl⟩ := Option.map_eq_some_iff.1 hi
    exact ⟨g, by simpa using hg, rfl⟩
  obtain ⟨a, ha, hok⟩ := h enc w base spare held n cs ys (fun i f hi => by
    obtain ⟨g, hg, rfl⟩ := hget i f hi
    exact hf i g hg) (fun i f y hi hy q hq => by
    obtain ⟨g, hg, rfl⟩ := hget i f hi
    refine hs q ?_
    simp only [DataW.weights, ht]
    exact DataW.weights_mem_each (j := i) (t := g.type) (d := y.1) (by rw [List.getElem?_map]; simp [hg]) (by rw [List.getElem?_map, hy]; rfl) q hq) (by rw [hyl, ← hL]; simp) (by rw [hlen, hC]; omega)
  rw [List.drop_zero] at ha
  exact ⟨a, ha, hok⟩
theorem op_iso {α β : Type} {P : Program} {t : TypeId} {d : Kd α} {ok : α → Prop} (f : β → α) (g : α → β) (hfg : ∀ a, f (g a) = a) (h : Op P t d ok) : Op P t (Kd.iso d f) (fun b => ok (f b)) := by
  intro H enc w base spare held fuel cs x hx hs
  obtain ⟨a, ha, hok⟩ := h enc w base spare held fuel cs x hx hs
  exact ⟨g a, by show d.K w (f (g a)) cs; rwa [hfg], by show ok (f (g a)); rwa [hfg]⟩
end Go.Proofs.Ytaocplhijfkicaa.PD
namespace Go.Proofs.Ytaocplhijfkicaa.PD
open Go.ChangeShapes Go.WideShapes Go.ChangeAt Go.RowKit Go.Proofs.YtaocplhijfkicaaW.PrintWords
set_option linter.unusedVariables false
theorem op_wr : Op Try.prog 40 k40 (fun x => (Lit.int .i64 x.f0).wf = true ∧ x.f1.size ≤ reachBytes) :=
  op_iso (fun x : S40 => (x.f0, x.f1)) (fun a => ⟨a.1, a.2⟩) (fun _ => rfl)
    (op_struct (L := [(0, 3), (1, 9)]) Try.underlying40 rfl (by kernel_rfl) (opF_cons (op_int Try.underlying3) (by kernel_rfl) (opF_one (op_string Try.underlying9) (by kernel_rfl))))
abbrev kDev : Kd (List ByteArray × List S40 × Int × Bool) := Kd.pair (Kd.slice 9 Kd.string) (Kd.pair (Kd.slice 40 k40) (Kd.pair (Kd.int .i64) Kd.bool))
theorem op_dev : Op Try.prog 25 kDev (fun x => (x.1.length * 16 ≤ reachBytes ∧ ∀ s ∈ x.1, s.size ≤ reachBytes) ∧ (x.2.1.length * 24 ≤ reachBytes ∧ ∀ q ∈ x.2.1, (Lit.int .i64 q.f0).wf = true ∧ q.f1.size ≤ reachBytes) ∧ (Lit.int .i64 x.2.2.1).wf = true ∧ True) :=
  op_struct (L := [(0, 22), (1, 23), (2, 3), (3, 4)]) Try.underlying25 rfl (by kernel_rfl)
    (opF_cons (op_slice Try.underlying22 (by kernel_rfl) (by kernel_rfl) (op_string Try.underlying9)) (by kernel_rfl)
      (opF_cons (op_slice Try.underlying23 (by kernel_rfl) (by kernel_rfl) op_wr) (by kernel_rfl)
        (opF_cons (op_int Try.underlying3) (by kernel_rfl) (opF_one (op_bool Try.underlying4) (by kernel_rfl)))))
/-- A device that came in, laid open. -/
theorem open_dev {H : Type} {enc : TypeId × Value → H} {w : World} {base : Nat} {spare : Nat → Bool} {held : Bool} {r : Reach} {b0 : Nat} {v : Value} {d : DataW H} {p : List MemPlace} (hv : Value.okWide Try.prog w r b0 25 v) (h : DataW.Trod enc Try.prog w base spare held 25 v d p)
    (hs : ∀ n ∈ d.weights Try.prog 25, n ≤ reachBytes) :
    ∃ (A : Option Addr) (c : Nat) (bl : List ByteArray) (A' : Option Addr) (c' : Nat) (ca : List S40) (l : Int) (b : Bool), v = .agg #[.slice A bl.length c, .slice A' ca.length c', .int .i64 l, .bool b] ∧
      Kd.C Kd.string w A bl.length bl ∧ bl.length ≤ c ∧ Kd.C k40 w A' ca.length ca ∧ ca.length ≤ c' ∧ bl.length < 8796093022208 ∧ ca.length < 5864062014805 ∧ (Lit.int .i64 l).wf = true ∧ (∀ q ∈ ca, (Lit.int .i64 q.f0).wf = true) := by
  obtain ⟨cs, rfl, hsz⟩ := okWide_struct Try.underlying25 hv
  obtain ⟨fuel, hf⟩ := h
  obtain ⟨⟨bl, ca, l, b⟩, hK, ⟨h1, _⟩, ⟨h2, h3⟩, h4, _⟩ := op_dev enc w base spare held fuel _ _ hf hs
  obtain ⟨x0, x1, hcs, ⟨A, c, rfl, hc, hC⟩, y0, y1, rfl, ⟨A', c', rfl, hc', hC'⟩, z0, z1, rfl, hz0, hz1⟩ := hK
  obtain rfl : z0 = [.int .i64 l] := hz0
  obtain rfl : z1 = [.bool b] := hz1
  refine ⟨A, c, bl, A', c', ca, l, b, ?_, hC, hc, hC', hc', ?_, ?_, h4, fun q hq => (h3 q hq).1⟩
  · have hcs' : cs.toList = [.slice A bl.length c, .slice A' ca.length c', .int .i64 l, .bool b] := by simpa [Value.cells] using hcs
    rw [show cs = cs.toList.toArray by simp, hcs']
  · unfold reachBytes at h1; simp only at h1; omega
  · unfold reachBytes at h2; simp only at h2; omega
theorem own : ownKnob Try.prog.godebug = none := by kernel_rfl
theorem laidOut : laidOutB Try.prog = true := by kernel_rfl
theorem weighs {H : Type} {P : Program} {ts : List TypeId} {ds : List (DataW H)} (h : (DataW.weightsEach P ts ds).all (· ≤ reachBytes) = true) {j : Nat} {t : TypeId} {d : DataW H} (ht : ts[j]? = some t) (hd : ds[j]? = some d) : ∀ n ∈ d.weights P t, n ≤ reachBytes :=
  fun n hn => by simpa using List.all_eq_true.1 h n (DataW.weights_mem_each (j := j) ht hd n hn)
namespace DevFitsRow
open _root_.Go.Proofs.Ytaocplhijfkicaa.Rows
set_option maxRecDepth 100000 in
theorem lifted (os : Os) (started : os.Started) (H : Type) (enc : TypeId × Value → H) :
    ReturnsInHanded {} Try.checked os 6 .any (devFitsSpec.pre6 enc Try.prog Try.f6 devFitsRow.domain false) (devFitsSpec.post enc Try.prog Try.f6 false true false false) := by
  refine returnsInHanded_of_change_sized (C := Try.checked) own started (by kernel_rfl) Try.func6
    (ChangeSpec.witness6 (enc := enc) (C := Try.checked) false ⟨#[], #[.agg #[.slice none 0 0, .slice none 0 0, .int .i64 0, .bool false], .agg #[.slice none 0 0, .slice none 0 0, .int .i64 0, .bool false]], []⟩ 8 (by kernel_rfl) (by kernel_rfl) (by kernel_rfl) (by kernel_rfl)) ?_
  intro W base args ds gs before hval0 hW hcnd hsz0 _
  have hsz : (DataW.weightsEach Try.prog (Try.f6.params.toList ++ devFitsSpec.plain.varTypes Try.prog) (ds ++ gs)).all (· ≤ reachBytes) = true := hsz0
  have hval : ∀ (j : Nat) t v, Try.f6.params[j]? = some t → args[j]? = some v → Value.okWide Try.prog W .any base t v := hval0
  have hW' := hW
  obtain ⟨p, q, hA0, hV, rfl, hfz, hnd⟩ := hW
  have hA : DataW.TrodAll enc Try.prog W 0 (fun _ => true) true Try.f6.params.toList args.toList ds p := hA0
  rw [Try.params6] at hA hval hsz
  obtain ⟨v0, vs0, d0, ds0, p0, q0, hargs, rfl, rfl, h0, r0⟩ := trodAll_cons hA
  obtain ⟨v1, vs1, d1, ds1, p1, q1, rfl, rfl, rfl, h1, r1⟩ := trodAll_cons r0
  obtain ⟨rfl, rfl, rfl⟩ := trodAll_nil r1
  obtain rfl : args = #[v0, v1] := by cases args; simp_all
  obtain ⟨rfl, rfl⟩ := trodVars_none hV
  obtain ⟨A0, c0, b0, A0', c0', ca0, l0, e0, rfl, x0, y0, x0', y0', m0, m0', _, _⟩ := open_dev (hval 0 25 v0 rfl rfl) h0 (weighs hsz (j := 0) rfl rfl)
  obtain ⟨A1, c1, b1, A1', c1', ca1, l1, e1, rfl, x1, y1, x1', y1', m1, m1', _, _⟩ := open_dev (hval 1 25 v1 rfl rfl) h1 (weighs hsz (j := 1) rfl rfl)
  have k0 := h0
  have k1 := h1
  have lt0 : ∀ x ∈ p0, x.block < W.heap.size := by obtain ⟨m, hm⟩ := k0; exact DataW.trod_lt m _ _ _ hm
  have lt1 : ∀ x ∈ p1, x.block < W.heap.size := by obtain ⟨m, hm⟩ := k1; exact DataW.trod_lt m _ _ _ hm
  clear hA0 hval0 hsz0 hsz
  obtain ⟨k, hk⟩ := devFits_pure b0 ca0 l0 e0 b1 ca1 l1 e1 m0 m0'
  refine (almanaclaw02_DevFits.callsT k A0 c0 b0 A0' c0' ca0 l0 e0 A1 c1 b1 A1' c1' ca1 l1 e1 true W x0 y0 x0' y0' x1 y1 x1' y1' hk rfl).mono fun e W' ⟨he, bel⟩ => ?_
  subst he
  exact ⟨_, rfl, _, _, _, [], _, [], hW', trodAll_mk1 (shut_bool Try.underlying4 _), (trodAll_cons_mk (Below.trod laidOut (by kernel_rfl) (of_decide_eq_true (by kernel_rfl)) k0 bel lt0) (trodAll_cons_mk (Below.trod laidOut (by kernel_rfl) (of_decide_eq_true (by kernel_rfl)) k1 bel lt1) trodAll_mk0)), rfl, bel.frame _, fun h => by cases h⟩
theorem over : devFitsRow.holds Try.pinned (OpenSpec.ofChange devFitsSpec) :=
  OpenClaim.holds_of_wide 6 Try.f6 rfl rfl rfl rfl rfl rfl rfl ⟨rfl, rfl, rfl, rfl, rfl⟩ rfl rfl rfl rfl rfl (by kernel_rfl) Try.func6 (by kernel_rfl)
    (of_decide_eq_true (by kernel_rfl)) (by unfold Func.isWrapper; first | (rw [if_pos (by decide +kernel)]; kernel_rfl) | (rw [if_neg (by decide +kernel)]; exact ⟨rfl, rfl⟩))
    (fun os started H enc _ => lifted os started H enc)
end DevFitsRow
theorem devFits_holds : Rows.DevFitsSaid := DevFitsRow.over
end Go.Proofs.Ytaocplhijfkicaa.PD
