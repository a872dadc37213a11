/- Part 2 of the texts that the claim leans on: the functions' walks, and what they compute. -/
import Derived.Test.YthcoiabgemclbaaSpanOrder1
import Derived.Test.YthcoiabgemclbaaSpBase1
-- written by a program of this work (mk.sh, over the kit's print; stubs are proved by hand)
namespace Go.Proofs.Ythcoiabgemclbaa.PD
open Go.RowKit Go.Proofs.YthcoiabgemclbaaW.PrintWords Go.Proofs.YthcoiabgemclbaaW.PrintLast Go.Proofs.YthcoiabgemclbaaW.PrintMore
attribute [local go_sem] isSome_setCell max2_int min2_int max_two min_two max_three min_three max_four min_four   -- for this text's walks alone
set_option linter.unusedVariables false
set_option linter.unusedSimpArgs false

/-! ### almanacref19_Put: function 14 -/
def almanacref19_Put.l0 : Nat → List (S25) → List (S25) → List (S25) → Bool → Int → ByteArray → Int → Int → Option ((List (S25)))
  | 0, _, _, _, _, _, _, _, _ => none
  | k + 1, x0, x5, x6, x7, x8, x340000, x340001, x340002 => if x8 < (x6.length : Int) then (if x7 = true then (if 0 ≤ x8 then (if x5.length < 4398046511104 then (almanacref19_Put.l0 k x0 (x5 ++ [(⟨(rd_T25 x6 x8).f0, (rd_T25 x6 x8).f1, (rd_T25 x6 x8).f2⟩ : S25)]) x6 x7 (wrap64 (x8 + 1)) x340000 x340001 x340002) else (none)) else (none)) else (if 0 ≤ x8 then ((almanacref19_before.f x340000 x340001 x340002 ((rd_T25 x6 x8).f0) ((rd_T25 x6 x8).f1) ((rd_T25 x6 x8).f2)).bind fun t348 => (if t348 = true then (if x5.length < 4398046511104 then ((some (x5 ++ [(⟨x340000, x340001, x340002⟩ : S25)] : List (S25))).bind fun y349 => (if y349.length < 4398046511104 then (almanacref19_Put.l0 k x0 (y349 ++ [(⟨(rd_T25 x6 x8).f0, (rd_T25 x6 x8).f1, (rd_T25 x6 x8).f2⟩ : S25)]) x6 true (wrap64 (x8 + 1)) x340000 x340001 x340002) else (none))) else (none)) else (if x5.length < 4398046511104 then (almanacref19_Put.l0 k x0 (x5 ++ [(⟨(rd_T25 x6 x8).f0, (rd_T25 x6 x8).f1, (rd_T25 x6 x8).f2⟩ : S25)]) x6 x7 (wrap64 (x8 + 1)) x340000 x340001 x340002) else (none)))) else (none))) else (if x7 = true then ((almanacref19_Fit.f k x5).bind fun t360 => (if t360 = true then (some x5) else (if ([] : List (S25)).length + x0.length < 4398046511104 then (some (([] : List (S25)) ++ x0)) else (none)))) else (if x5.length < 4398046511104 then ((some (x5 ++ [(⟨x340000, x340001, x340002⟩ : S25)] : List (S25))).bind fun y364 => ((almanacref19_Fit.f k y364).bind fun t367 => (if t367 = true then (some y364) else (if ([] : List (S25)).length + x0.length < 4398046511104 then (some (([] : List (S25)) ++ x0)) else (none))))) else (none)))
def almanacref19_Put.f (k : Nat) (l0 : List (S25)) (a1_0 : ByteArray) (a1_1 : Int) (a1_2 : Int) : Option ((List (S25))) := (almanacref19_Drop.f k l0 a1_0).bind fun t340 => (almanacref19_Put.l0 k l0 ([] : List (S25)) t340 false 0 a1_0 a1_1 a1_2)
theorem almanacref19_Put.mono_l : ∀ k, (∀ y0 y1 y2 y3 y4 y5 y6 y7, LeO (almanacref19_Put.l0 k y0 y1 y2 y3 y4 y5 y6 y7) (almanacref19_Put.l0 (k + 1) y0 y1 y2 y3 y4 y5 y6 y7))
  | 0 => fun _ _ _ _ _ _ _ _ r h => by simp [almanacref19_Put.l0] at h
  | k + 1 => by
    have ih0 := almanacref19_Put.mono_l k
    · intro y0 y1 y2 y3 y4 y5 y6 y7
      unfold almanacref19_Put.l0
      repeat' first
      | (with_reducible exact ih0 _ _ _ _ _ _ _ _)
      | (with_reducible exact almanacref19_Drop.mono _ _ _)
      | (with_reducible exact almanacref19_Fit.mono _ _)
      | (with_reducible exact LeO.refl _)
      | (with_reducible exact LeO.none _)
      | (with_reducible refine LeO.ite ?_ ?_)
      | (with_reducible refine LeO.bind ?_ (fun _ => ?_))
      | exact ih0 _ _ _ _ _ _ _ _
      | exact almanacref19_Drop.mono _ _ _
      | exact almanacref19_Fit.mono _ _
      | exact LeO.none _
      | refine LeO.ite ?_ ?_
      | refine LeO.bind ?_ (fun _ => ?_)
theorem almanacref19_Put.mono : ∀ a0 a1 a2 a3 k, LeO (almanacref19_Put.f k a0 a1 a2 a3) (almanacref19_Put.f (k + 1) a0 a1 a2 a3) := by
  intro a0 a1 a2 a3 k
  have ih0 := almanacref19_Put.mono_l k
  unfold almanacref19_Put.f
  repeat' first
      | (with_reducible exact ih0 _ _ _ _ _ _ _ _)
      | (with_reducible exact almanacref19_Drop.mono _ _ _)
      | (with_reducible exact almanacref19_Fit.mono _ _)
      | (with_reducible exact LeO.refl _)
      | (with_reducible exact LeO.none _)
      | (with_reducible refine LeO.ite ?_ ?_)
      | (with_reducible refine LeO.bind ?_ (fun _ => ?_))
      | exact ih0 _ _ _ _ _ _ _ _
      | exact almanacref19_Drop.mono _ _ _
      | exact almanacref19_Fit.mono _ _
      | exact LeO.none _
      | refine LeO.ite ?_ ?_
      | refine LeO.bind ?_ (fun _ => ?_)
def almanacref19_Put.T7 : Bool × List (List Nat × List Nat) := (true, [([], []), ([0], [0]), ([1], [1]), ([2], [2]), ([2], [2]), ([2], [2]), ([4, 5, 2], [2, 4, 5]), ([6, 2], [2, 6]), ([3, 7, 2, 2], [2, 3, 7]), ([2, 8], [2, 8])])
def almanacref19_Put.B7 : List Nat := [0, 1, 3, 7, 7, 7, 55, 119, 255, 511]
theorem almanacref19_Put.tab7 : rtab .any (opsOf Try.f14 7) = almanacref19_Put.T7 := by kernel_rfl
theorem almanacref19_Put.bits7 : waitsOk almanacref19_Put.T7.2 almanacref19_Put.B7 = true := by kernel_rfl
set_option maxHeartbeats 8000000 in
set_option maxRecDepth 100000 in
theorem almanacref19_Put.calls (k : Nat) (A0 : Option Addr) (c0 : Nat) (l0 : List (S25)) (a1_0 : ByteArray) (a1_1 : Int) (a1_2 : Int) (r : List (S25)) (w : World) (hr0 : Kd.C k25 w A0 l0.length l0) (hc0 : l0.length ≤ c0) (h : almanacref19_Put.f k l0 a1_0 a1_1 a1_2 = some r) :
    Calls Try.prog 14 #[.slice A0 l0.length c0, .agg #[.string a1_0, .int .i64 a1_1, .int .i64 a1_2]] w fun e w' => ∃ v0_ : Value, e = .returned (v0_) ∧ Kd.R k25 25 w' w.heap.size (fun _ => True) v0_ r ∧ Below w.heap.size w w' := by
  have hu25 := Try.underlying25
  have HR0 := Aside0.mk hr0
  have HC0 := Aside0.mk hc0
  clear hr0 hc0
  have HB := Aside0.mk (Below.refl w.heap.size w)
  have H : ((almanacref19_Drop.f k l0 a1_0).bind fun t340 => (almanacref19_Put.l0 k l0 ([] : List (S25)) t340 false 0 a1_0 a1_1 a1_2)) = some r := h
  clear h
  replace H := Option.bind_eq_some_iff.mp H
  obtain ⟨t340, A30, H⟩ := H
  replace H : (almanacref19_Put.l0 k l0 ([] : List (S25)) t340 false 0 a1_0 a1_1 a1_2) = some r := H
  have A3 := Aside0.mk A30
  clear A30
  have H' := Aside0.mk H
  clear H
  go_enter Try.func14, Try.ntmps14
  go_wp2_with (first | ((with_reducible refine gate_dst (N := 3) rfl ?_); refine box_event ?hg (N := 3) ?hd (cs := #[.string a1_0, .int .i64 a1_1, .int .i64 a1_2]) (t := 25) ?hr ?_; (case hd => rfl); (case hg => rfl); (case hr => first | (go_simp; done) | (go_simp; rfl)); intro gb339 hg w4 hbox hb; have n0_ := Aside0.mk (below_step (by repeat (first | (with_reducible first | exact HB.out | apply below_alloc | apply pw_below_drewN | apply below_drew1) | exact HB.out)) hb); have n1_ := Aside0.mk (hbox); have n2_ := Aside0.mk ((by rw [hg]; exact (below_size (by repeat (first | (with_reducible first | exact HB.out | apply below_alloc | apply pw_below_drewN | apply below_drew1) | exact HB.out))) : w.heap.size ≤ gb339)); have n3_ := Aside0.mk ((by rw [hg]; exact (below_size (by repeat (first | (with_reducible first | exact HB.out | apply below_alloc | apply pw_below_drewN | apply below_drew1) | exact HB.out))) : w.heap.size ≤ gb339)); clear HB; have HB := n0_; have BK339 := n1_; have GW339 := n2_; have GE339 := n3_; clear n0_ n1_ n2_ n3_; clear hb hbox hg; have hcz5_0 : w4.cell? ⟨gb339, 0, none⟩ = some (.string a1_0) := (blk_cell BK339.out 0).trans rfl; have hcz5_1 : w4.cell? ⟨gb339, 1, none⟩ = some (.int .i64 a1_1) := (blk_cell BK339.out 1).trans rfl; have hcz5_2 : w4.cell? ⟨gb339, 2, none⟩ = some (.int .i64 a1_2) := (blk_cell BK339.out 2).trans rfl; have hfz5_0 := blk_frozen BK339.out 0; have hfz5_1 := blk_frozen BK339.out 1; have hfz5_2 := blk_frozen BK339.out 2) | ((with_reducible refine gate_callee (f := 16) rfl ?_); refine goesL_ (some 13) rfl rfl Try.func16 (by kernel_rfl) rfl #[.slice A0 l0.length c0, .string a1_0] rfl (by (try simp only [List.map_toArray, List.map_cons, List.map_nil]); first | done | rfl | (simp only [List.length_drop, List.length_take]; rfl)) ?_; (with_reducible refine (almanacref19_Drop.calls k _ _ l0 a1_0 t340 _ ?side1 ?side2 A3.out).mono ?_); (case side1 => repeat (first | exact (Kd.C_below HR0.out HB.out) | (with_reducible refine Kd.C_alloc ?_ _) | (with_reducible refine Kd.C_drewN ?_ _) | (with_reducible refine Kd.C_drew ?_))); (case side2 => exact HC0.out); rintro e w6 ⟨v341, rfl, ho0, hb⟩; refine ⟨_, rfl, ?_⟩; have n0_ := Aside0.mk (Kd.R_lower (Kd.R_newB ho0 (g := gb339) (o := .cells #[.string a1_0, .int .i64 a1_1, .int .i64 a1_2] 25 (0, 0)) (by (with_reducible repeat (first | refine blk_drewN ?_ _ | refine blk_drew ?_ | refine blk_alloc ?_ _)); exact BK339.out)) (below_size (by repeat (first | (with_reducible first | exact HB.out | apply below_alloc | apply pw_below_drewN | apply below_drew1 | refine below_set ?_ GE339.out) | exact HB.out)))); have n1_ := Aside0.mk (blk_below (g := gb339) (o := .cells #[.string a1_0, .int .i64 a1_1, .int .i64 a1_2] 25 (0, 0)) (by (with_reducible repeat (first | refine blk_drewN ?_ _ | refine blk_drew ?_ | refine blk_alloc ?_ _)); exact BK339.out) hb); have n2_ := Aside0.mk (below_step (by repeat (first | (with_reducible first | exact HB.out | apply below_alloc | apply pw_below_drewN | apply below_drew1 | refine below_set ?_ GE339.out) | exact HB.out)) hb); clear BK339; clear HB; have HO342 := n0_; have BK339 := n1_; have HB := n2_; clear n0_ n1_ n2_; (try clear hb); (try clear hb2); (try clear hk); (try clear hi); (try clear ho0)))
  go_loopg [5, 7, 8] k (fun kq v5 v7 v8 w' => ∃ (x5_1 : List (S25)) (x7_1 : Bool) (x8_1 : Int), v7 = .bool x7_1 ∧ v8 = .int .i64 x8_1 ∧ Aside0 (almanacref19_Put.l0 kq l0 x5_1 t340 x7_1 x8_1 a1_0 a1_1 a1_2 = some r) ∧ Aside0 (kq ≤ k) ∧ Aside0 (Kd.R k25 25 w' w.heap.size (fun k_ => some k_ ≠ (v341 : Value).ownBlock ∧ k_ ≠ gb339) v5 x5_1) ∧ Aside0 (Kd.R k25 25 w' w.heap.size (fun k_ => some k_ ≠ (v5 : Value).ownBlock ∧ k_ ≠ gb339) v341 t340) ∧ Aside0 (w'.heap[gb339]? = some (.cells #[.string a1_0, .int .i64 a1_1, .int .i64 a1_2] 25 (0, 0))) ∧ Aside0 (Below w.heap.size w w'))
  case atStart => exact ⟨(([] : List (S25))), (false), (0), (by first | rfl | (simp; done) | (simp [*]; done)), (by first | rfl | (simp; done) | (simp [*]; done)), H', ⟨Nat.le_refl _⟩, ⟨by first | exact Kd.R_nil _ _ _ _ _ | exact Kd.N_nil _ _ _ _ _ | exact Kd.V_nil _ _ _ _ _ | exact Kd.Q_nil _ _ _ _ _ | exact Kd.S_nil _ _ _ _ _⟩, ⟨by (with_reducible repeat (first | apply Kd.R_alloc | apply Kd.R_drewN | apply Kd.R_drew)); exact Kd.R_mono HO342.out (fun _ hk => ⟨(by simp [Value.ownBlock]), hk.2⟩)⟩, ⟨by (with_reducible repeat (first | refine blk_drewN ?_ _ | refine blk_drew ?_ | refine blk_alloc ?_ _)); exact BK339.out⟩, ⟨by repeat (first | (with_reducible first | exact HB.out | apply below_alloc | apply pw_below_drewN | apply below_drew1 | refine below_set ?_ GE339.out) | exact HB.out)⟩⟩
  case round =>
    clear H'
    try clear c1
    try clear p2
    try clear hcz5_0
    try clear hcz5_1
    try clear hcz5_2
    try clear hfz5_0
    try clear hfz5_1
    try clear hfz5_2
    obtain ⟨x5_1, x7_1, x8_1, rfl, rfl, HA, HK1, HO_5, HO_6, BK339, HB⟩ := hrel
    cases gk with
    | zero => exact absurd HA.out (by simp [almanacref19_Put.l0])
    | succ k1 =>
      have H := HA.out
      clear HA
      simp only [almanacref19_Put.l0] at H
      by_cases c7 : x8_1 < (t340.length : Int)
      · rw [if_pos c7] at H
        have c7b0 : decide (x8_1 < (t340.length : Int)) = true := decide_eq_true c7
        clear c7
        by_cases c8 : x7_1 = true
        · subst c8
          have H1 : (if 0 ≤ x8_1 then (if x5_1.length < 4398046511104 then (almanacref19_Put.l0 k1 l0 (x5_1 ++ [(⟨(rd_T25 t340 x8_1).f0, (rd_T25 t340 x8_1).f1, (rd_T25 t340 x8_1).f2⟩ : S25)]) t340 true (wrap64 (x8_1 + 1)) a1_0 a1_1 a1_2) else (none)) else (none)) = some r := by rw [if_pos rfl] at H; exact H
          clear H
          have H := H1
          clear H1
          by_cases c9 : 0 ≤ x8_1
          · rw [if_pos c9] at H
            have c9b0 : decide (0 ≤ x8_1) = true := decide_eq_true c9
            clear c9
            by_cases c10 : x5_1.length < 4398046511104
            · rw [if_pos c10] at H
              have LMc10 := Aside0.mk c10
              clear c10
              obtain ⟨y344, hy344⟩ : ∃ y_ : List (S25), y_ = (x5_1 ++ [(⟨(rd_T25 t340 x8_1).f0, (rd_T25 t340 x8_1).f1, (rd_T25 t340 x8_1).f2⟩ : S25)]) := ⟨_, rfl⟩
              replace H : (almanacref19_Put.l0 k1 l0 y344 t340 true (wrap64 (x8_1 + 1)) a1_0 a1_1 a1_2) = some r := by first | (rw [hy344]; with_reducible exact H) | (have H2_ := (Option.bind_some _ _).symm.trans H; rw [hy344]; with_reducible exact H2_) | (have H2_ := (Option.bind_some _ _).symm.trans H; with_reducible exact H2_) | with_reducible exact H | (rw [hy344]; exact H) | exact H
              have Ny344 := Aside0.mk hy344
              clear hy344
              have H' := Aside0.mk H
              clear H
              obtain ⟨Ao11, co11, eo11⟩ := Kd.R_slice HO_6.out
              subst eo11
              try go_wp2
              have n0_ := Aside0.mk (Kd.R_drew HO_5.out)
              have n1_ := Aside0.mk (Kd.R_drew HO_6.out)
              have n2_ := Aside0.mk (blk_drew BK339.out)
              have n3_ := Aside0.mk (below_drew1 HB.out)
              clear HO_5
              clear HO_6
              clear BK339
              clear HB
              have HO_5 := n0_
              have HO_6 := n1_
              have BK339 := n2_
              have HB := n3_
              clear n0_ n1_ n2_ n3_
              refine start_ (n := 10) (S := fun w' => True) (ds := []) #[false, false, false, false, false, false, false, false, false, false] (by kernel_rfl) rfl rfl trivial (fun hHeld => ?_); refine with_tabW almanacref19_Put.tab7 almanacref19_Put.bits7 (fun HT_ HW_ => ?_)
              generalize wr.drew = w12 at HO_5 HO_6 BK339 HB hHeld ⊢
              refine pure_ (i := 0) (N := some 20) (v := ?_) (a' := ?_) #[true, false, false, false, false, false, false, false, false, false] rfl rfl (any_of HT_.out (by kernel_rfl)) (fun _ _ _ h => h) (Or.inl ⟨by rfl, ?_⟩) ?_ ?_
              rotate_left
              · intro w'
                go_simp
                with_reducible rfl
              rotate_left
              · simp only [Act.put, List.setIfInBounds_toArray, List.set_cons_zero, List.set_cons_succ, i64_w, i32_w]
                rfl
              refine pure_ (i := 1) (N := some 21) (v := ?_) (a' := ?_) #[true, true, false, false, false, false, false, false, false, false] rfl rfl (any_of HT_.out (by kernel_rfl)) (fun _ _ _ h => h) (Or.inl ⟨by rfl, ?_⟩) ?_ ?_
              rotate_left
              · intro w'
                go_simp
                with_reducible rfl
              rotate_left
              · simp only [Act.put, List.setIfInBounds_toArray, List.set_cons_zero, List.set_cons_succ, i64_w, i32_w]
                rfl
              refine pure_ (i := 2) (N := some 22) (v := ?_) (a' := ?_) #[true, true, true, false, false, false, false, false, false, false] rfl rfl (any_of HT_.out (by kernel_rfl)) (fun _ _ _ h => h) (Or.inl ⟨by rfl, ?_⟩) ?_ ?_
              rotate_left
              · intro w'
                go_simp
                with_reducible rfl
              rotate_left
              · simp only [Act.put, List.setIfInBounds_toArray, List.set_cons_zero, List.set_cons_succ, i64_w, i32_w]
                rfl
              refine pure_ (i := 3) (N := some 23) (v := undef) (a' := ?_) #[true, true, true, true, false, false, false, false, false, false] rfl rfl (any_of HT_.out (by kernel_rfl)) (fun _ _ _ h => h) (Or.inr ⟨by rfl, rfl⟩) ?_ ?_
              rotate_left
              · simp only [Act.put, List.setIfInBounds_toArray, List.set_cons_zero, List.set_cons_succ, i64_w, i32_w]
                rfl
              refine pure_ (i := 4) (N := some 24) (v := undef) (a' := ?_) #[true, true, true, true, true, false, false, false, false, false] rfl rfl (any_of HT_.out (by kernel_rfl)) (fun _ _ _ h => h) (Or.inr ⟨by rfl, rfl⟩) ?_ ?_
              rotate_left
              · simp only [Act.put, List.setIfInBounds_toArray, List.set_cons_zero, List.set_cons_succ, i64_w, i32_w]
                rfl
              refine pure_ (i := 5) (N := some 25) (v := undef) (a' := ?_) #[true, true, true, true, true, true, false, false, false, false] rfl rfl (any_of HT_.out (by kernel_rfl)) (fun _ _ _ h => h) (Or.inr ⟨by rfl, rfl⟩) ?_ ?_
              rotate_left
              · simp only [Act.put, List.setIfInBounds_toArray, List.set_cons_zero, List.set_cons_succ, i64_w, i32_w]
                rfl
              refine pure_ (i := 6) (N := some 26) (v := undef) (a' := ?_) #[true, true, true, true, true, true, true, false, false, false] rfl rfl (any_of HT_.out (by kernel_rfl)) (fun _ _ _ h => h) (Or.inr ⟨by rfl, rfl⟩) ?_ ?_
              rotate_left
              · simp only [Act.put, List.setIfInBounds_toArray, List.set_cons_zero, List.set_cons_succ, i64_w, i32_w]
                rfl
              refine pure_ (i := 7) (N := some 27) (v := undef) (a' := ?_) #[true, true, true, true, true, true, true, true, false, false] rfl rfl (any_of HT_.out (by kernel_rfl)) (fun _ _ _ h => h) (Or.inr ⟨by rfl, rfl⟩) ?_ ?_
              rotate_left
              · simp only [Act.put, List.setIfInBounds_toArray, List.set_cons_zero, List.set_cons_succ, i64_w, i32_w]
                rfl
              refine pure_ (i := 8) (N := some 28) (v := undef) (a' := ?_) #[true, true, true, true, true, true, true, true, true, false] rfl rfl (any_of HT_.out (by kernel_rfl)) (fun _ _ _ h => h) (Or.inr ⟨by rfl, rfl⟩) ?_ ?_
              rotate_left
              · simp only [Act.put, List.setIfInBounds_toArray, List.set_cons_zero, List.set_cons_succ, i64_w, i32_w]
                rfl
              refine pure_ (i := 9) (N := some 29) (v := ?_) (a' := ?_) #[true, true, true, true, true, true, true, true, true, true] rfl rfl (any_of HT_.out (by kernel_rfl)) (fun _ _ _ h => h) (Or.inl ⟨by rfl, ?_⟩) ?_ ?_
              rotate_left
              · intro w'
                go_simp
                with_reducible rfl
              rotate_left
              · simp only [Act.put, List.setIfInBounds_toArray, List.set_cons_zero, List.set_cons_succ, i64_w, i32_w]
                rfl
              refine done_ (done_of HT_.out (by kernel_rfl)) ?_
              have p343 : 0 ≤ (x8_1 : Int) := of_decide_eq_true (by first | (with_reducible assumption) | assumption)
              have q343 : x8_1 < (t340.length : Int) := of_decide_eq_true (by first | (with_reducible assumption) | assumption)
              obtain ⟨ad343, e343, hx343_0, hx343_1, hx343_2⟩ := at_T25 (Kd.R_reads' HO_6.out).2.2 x8_1 p343 q343
              cases e343
              replace p343 := eq_true p343
              replace q343 := eq_true q343
              try go_wp2_with (first | ((with_reducible refine gate_builtin (b := .append) (xs := #[.tmp 34, .tmp 39]) rfl ?_); at_builtin; refine Kd.R_append k25 (w0 := w) w.heap.size rfl (.tmp 34) (.tmp 39) 22 25 (.agg #[(.string ⟨#[]⟩), (.int .i64 0), (.int .i64 0)]) 32 rfl Try.underlying22 info25 rfl (by decide) (by omega) u5 x5_1 (⟨(rd_T25 t340 x8_1).f0, (rd_T25 t340 x8_1).f1, (rd_T25 t340 x8_1).f2⟩ : S25) [.string ((rd_T25 t340 x8_1).f0), .int .i64 ((rd_T25 t340 x8_1).f1), .int .i64 ((rd_T25 t340 x8_1).f2)] (fun k_ => some k_ ≠ (.slice (some ad343) t340.length co11 : Value).ownBlock ∧ k_ ≠ gb339) (fun _ => False) rfl rfl ?aP (fun _ hk => hk.elim) ?aF ?aO ?aB ?aS ?aL ?_; (case aP => exact k25_mkM _ _ _ (⟨(rd_T25 t340 x8_1).f0, (rd_T25 t340 x8_1).f1, (rd_T25 t340 x8_1).f2⟩ : S25)); (case aB => exact (by repeat (first | (with_reducible first | exact HB.out | apply below_alloc | apply pw_below_drewN | apply below_drew1 | refine below_set ?_ GE339.out) | exact HB.out))); (case aF => exact (fun k_ hk => ⟨Kd.fresh' (Kd.R_lt (by (with_reducible repeat (first | apply Kd.R_alloc | apply Kd.R_drewN | apply Kd.R_drew)); exact HO_6.out)) k_ hk, Kd.freshB (g := gb339) (o := .cells #[.string a1_0, .int .i64 a1_1, .int .i64 a1_2] 25 (0, 0)) (by (with_reducible repeat (first | refine blk_drewN ?_ _ | refine blk_drew ?_ | refine blk_alloc ?_ _)); exact BK339.out) k_ hk⟩)); (case aO => exact (by (with_reducible repeat (first | apply Kd.R_alloc | apply Kd.R_drewN | apply Kd.R_drew)); exact HO_5.out)); (case aS => exact (below_size (by repeat (first | (with_reducible first | exact HB.out | apply below_alloc | apply pw_below_drewN | apply below_drew1 | refine below_set ?_ GE339.out) | exact HB.out)))); (case aL => have := LMc10.out; omega); intro v345 w13 ho hb hg hat; rw [← Ny344.out] at ho; have n0_ := Aside0.mk (Kd.R_after (ok := (fun k_ => k_ ≠ gb339)) (by (with_reducible repeat (first | apply Kd.R_alloc | apply Kd.R_drewN | apply Kd.R_drew)); exact Kd.R_mono HO_6.out (fun _ hk => ⟨hk.2, hk.1⟩)) hg hat); have n1_ := Aside0.mk (blk_grown (g := gb339) (o := .cells #[.string a1_0, .int .i64 a1_1, .int .i64 a1_2] 25 (0, 0)) (by (with_reducible repeat (first | refine blk_drewN ?_ _ | refine blk_drew ?_ | refine blk_alloc ?_ _)); exact BK339.out) hg (Kd.R_away HO_5.out (fun _ hk => hk.2))); have n2_ := Aside0.mk (hb); have n3_ := Aside0.mk (ho); clear HO_6; clear BK339; clear HB; clear HO_5; have HO_6 := n0_; have BK339 := n1_; have HB := n2_; have HO346 := n3_; clear n0_ n1_ n2_ n3_; clear ho hb hg hat))
              go_roundg k1
              case measure => have := HK1.out; omega
              case rel => exact ⟨(y344), (true), (wrap64 (x8_1 + 1)), (by first | rfl | (simp; done) | (simp [*]; done)), (by first | rfl | (simp; done) | (simp [*]; done)), H', ⟨by have := HK1.out; omega⟩, ⟨by (with_reducible repeat (first | apply Kd.R_alloc | apply Kd.R_drewN | apply Kd.R_drew)); exact HO346.out⟩, ⟨by (with_reducible repeat (first | apply Kd.R_alloc | apply Kd.R_drewN | apply Kd.R_drew)); exact Kd.R_mono HO_6.out (fun _ hk => ⟨hk.2, hk.1⟩)⟩, ⟨by (with_reducible repeat (first | refine blk_drewN ?_ _ | refine blk_drew ?_ | refine blk_alloc ?_ _)); exact BK339.out⟩, ⟨by repeat (first | (with_reducible first | exact HB.out | apply below_alloc | apply pw_below_drewN | apply below_drew1 | refine below_set ?_ GE339.out) | exact HB.out)⟩⟩
            · rw [if_neg c10] at H
              exact absurd H (by simp)
          · rw [if_neg c9] at H
            exact absurd H (by simp)
        · replace c8 := Bool.eq_false_iff.mpr c8
          subst c8
          have H1 : (if 0 ≤ x8_1 then ((almanacref19_before.f a1_0 a1_1 a1_2 ((rd_T25 t340 x8_1).f0) ((rd_T25 t340 x8_1).f1) ((rd_T25 t340 x8_1).f2)).bind fun t348 => (if t348 = true then (if x5_1.length < 4398046511104 then ((some (x5_1 ++ [(⟨a1_0, a1_1, a1_2⟩ : S25)] : List (S25))).bind fun y349 => (if y349.length < 4398046511104 then (almanacref19_Put.l0 k1 l0 (y349 ++ [(⟨(rd_T25 t340 x8_1).f0, (rd_T25 t340 x8_1).f1, (rd_T25 t340 x8_1).f2⟩ : S25)]) t340 true (wrap64 (x8_1 + 1)) a1_0 a1_1 a1_2) else (none))) else (none)) else (if x5_1.length < 4398046511104 then (almanacref19_Put.l0 k1 l0 (x5_1 ++ [(⟨(rd_T25 t340 x8_1).f0, (rd_T25 t340 x8_1).f1, (rd_T25 t340 x8_1).f2⟩ : S25)]) t340 false (wrap64 (x8_1 + 1)) a1_0 a1_1 a1_2) else (none)))) else (none)) = some r := by rw [if_neg (show ¬ (false = true) by decide)] at H; exact H
          clear H
          have H := H1
          clear H1
          by_cases c14 : 0 ≤ x8_1
          · rw [if_pos c14] at H
            have c14b0 : decide (0 ≤ x8_1) = true := decide_eq_true c14
            clear c14
            replace H := Option.bind_eq_some_iff.mp H
            obtain ⟨t348, A150, H⟩ := H
            replace H : (if t348 = true then (if x5_1.length < 4398046511104 then ((some (x5_1 ++ [(⟨a1_0, a1_1, a1_2⟩ : S25)] : List (S25))).bind fun y349 => (if y349.length < 4398046511104 then (almanacref19_Put.l0 k1 l0 (y349 ++ [(⟨(rd_T25 t340 x8_1).f0, (rd_T25 t340 x8_1).f1, (rd_T25 t340 x8_1).f2⟩ : S25)]) t340 true (wrap64 (x8_1 + 1)) a1_0 a1_1 a1_2) else (none))) else (none)) else (if x5_1.length < 4398046511104 then (almanacref19_Put.l0 k1 l0 (x5_1 ++ [(⟨(rd_T25 t340 x8_1).f0, (rd_T25 t340 x8_1).f1, (rd_T25 t340 x8_1).f2⟩ : S25)]) t340 false (wrap64 (x8_1 + 1)) a1_0 a1_1 a1_2) else (none))) = some r := H
            have A15 := Aside0.mk A150
            clear A150
            by_cases c16 : t348 = true
            · subst c16
              have H1 : (if x5_1.length < 4398046511104 then ((some (x5_1 ++ [(⟨a1_0, a1_1, a1_2⟩ : S25)] : List (S25))).bind fun y349 => (if y349.length < 4398046511104 then (almanacref19_Put.l0 k1 l0 (y349 ++ [(⟨(rd_T25 t340 x8_1).f0, (rd_T25 t340 x8_1).f1, (rd_T25 t340 x8_1).f2⟩ : S25)]) t340 true (wrap64 (x8_1 + 1)) a1_0 a1_1 a1_2) else (none))) else (none)) = some r := by rw [if_pos rfl] at H; exact H
              clear H
              have H := H1
              clear H1
              by_cases c17 : x5_1.length < 4398046511104
              · rw [if_pos c17] at H
                have LMc17 := Aside0.mk c17
                clear c17
                obtain ⟨y349, hy349⟩ : ∃ y_ : List (S25), y_ = (x5_1 ++ [(⟨a1_0, a1_1, a1_2⟩ : S25)]) := ⟨_, rfl⟩
                replace H : (if y349.length < 4398046511104 then (almanacref19_Put.l0 k1 l0 (y349 ++ [(⟨(rd_T25 t340 x8_1).f0, (rd_T25 t340 x8_1).f1, (rd_T25 t340 x8_1).f2⟩ : S25)]) t340 true (wrap64 (x8_1 + 1)) a1_0 a1_1 a1_2) else (none)) = some r := by first | (rw [hy349]; with_reducible exact H) | (have H2_ := (Option.bind_some _ _).symm.trans H; rw [hy349]; with_reducible exact H2_) | (have H2_ := (Option.bind_some _ _).symm.trans H; with_reducible exact H2_) | with_reducible exact H | (rw [hy349]; exact H) | exact H
                have Ny349 := Aside0.mk hy349
                clear hy349
                by_cases c18 : y349.length < 4398046511104
                · rw [if_pos c18] at H
                  have LMc18 := Aside0.mk c18
                  clear c18
                  obtain ⟨y353, hy353⟩ : ∃ y_ : List (S25), y_ = (y349 ++ [(⟨(rd_T25 t340 x8_1).f0, (rd_T25 t340 x8_1).f1, (rd_T25 t340 x8_1).f2⟩ : S25)]) := ⟨_, rfl⟩
                  replace H : (almanacref19_Put.l0 k1 l0 y353 t340 true (wrap64 (x8_1 + 1)) a1_0 a1_1 a1_2) = some r := by first | (rw [hy353]; with_reducible exact H) | (have H2_ := (Option.bind_some _ _).symm.trans H; rw [hy353]; with_reducible exact H2_) | (have H2_ := (Option.bind_some _ _).symm.trans H; with_reducible exact H2_) | with_reducible exact H | (rw [hy353]; exact H) | exact H
                  have Ny353 := Aside0.mk hy353
                  clear hy353
                  have H' := Aside0.mk H
                  clear H
                  obtain ⟨Ao19, co19, eo19⟩ := Kd.R_slice HO_6.out
                  subst eo19
                  try go_wp2
                  have n0_ := Aside0.mk (Kd.R_drew HO_5.out)
                  have n1_ := Aside0.mk (Kd.R_drew HO_6.out)
                  have n2_ := Aside0.mk (blk_drew BK339.out)
                  have n3_ := Aside0.mk (below_drew1 HB.out)
                  clear HO_5
                  clear HO_6
                  clear BK339
                  clear HB
                  have HO_5 := n0_
                  have HO_6 := n1_
                  have BK339 := n2_
                  have HB := n3_
                  clear n0_ n1_ n2_ n3_
                  have p347 : 0 ≤ (x8_1 : Int) := of_decide_eq_true (by first | (with_reducible assumption) | assumption)
                  have q347 : x8_1 < (t340.length : Int) := of_decide_eq_true (by first | (with_reducible assumption) | assumption)
                  obtain ⟨ad347, e347, hx347_0, hx347_1, hx347_2⟩ := at_T25 (Kd.R_reads' HO_6.out).2.2 x8_1 p347 q347
                  cases e347
                  replace p347 := eq_true p347
                  replace q347 := eq_true q347
                  refine start_ (n := 10) (S := fun w' => w'.cell? ⟨gb339, 0, none⟩ = some (.string a1_0) ∧ w'.cell? ⟨gb339, 1, none⟩ = some (.int .i64 a1_1) ∧ w'.cell? ⟨gb339, 2, none⟩ = some (.int .i64 a1_2) ∧ w'.cell? (ad347.add ((x8_1).toNat * 3)) = some (.string ((rd_T25 t340 x8_1).f0)) ∧ w'.cell? ⟨(ad347.add ((x8_1).toNat * 3)).block, (ad347.add ((x8_1).toNat * 3)).off + 1, none⟩ = some (.int .i64 ((rd_T25 t340 x8_1).f1)) ∧ w'.cell? ⟨(ad347.add ((x8_1).toNat * 3)).block, (ad347.add ((x8_1).toNat * 3)).off + 2, none⟩ = some (.int .i64 ((rd_T25 t340 x8_1).f2))) (ds := []) #[false, false, false, false, false, false, false, false, false, false] (by kernel_rfl) rfl rfl ⟨(blk_cell BK339.out 0).trans rfl, (blk_cell BK339.out 1).trans rfl, (blk_cell BK339.out 2).trans rfl, hx347_0, hx347_1, hx347_2⟩ (fun hHeld => ?_); refine with_tabW almanacref19_Put.tab7 almanacref19_Put.bits7 (fun HT_ HW_ => ?_)
                  generalize wr.drew = w20 at HO_5 HO_6 BK339 HB hx347_0 hx347_1 hx347_2 hHeld ⊢
                  refine pure_ (i := 0) (N := some 20) (v := ?_) (a' := ?_) #[true, false, false, false, false, false, false, false, false, false] rfl rfl (any_of HT_.out (by kernel_rfl)) (fun _ _ _ h => h) (Or.inl ⟨by rfl, ?_⟩) ?_ ?_
                  rotate_left
                  · intro w'
                    go_simp
                    with_reducible rfl
                  rotate_left
                  · simp only [Act.put, List.setIfInBounds_toArray, List.set_cons_zero, List.set_cons_succ, i64_w, i32_w]
                    rfl
                  refine pure_ (i := 1) (N := some 21) (v := ?_) (a' := ?_) #[true, true, false, false, false, false, false, false, false, false] rfl rfl (any_of HT_.out (by kernel_rfl)) (fun _ _ _ h => h) (Or.inl ⟨by rfl, ?_⟩) ?_ ?_
                  rotate_left
                  · intro w'
                    go_simp
                    with_reducible rfl
                  rotate_left
                  · simp only [Act.put, List.setIfInBounds_toArray, List.set_cons_zero, List.set_cons_succ, i64_w, i32_w]
                    rfl
                  refine pure_ (i := 2) (N := some 22) (v := ?_) (a' := ?_) #[true, true, true, false, false, false, false, false, false, false] rfl rfl (any_of HT_.out (by kernel_rfl)) (fun _ _ _ h => h) (Or.inl ⟨by rfl, ?_⟩) ?_ ?_
                  rotate_left
                  · intro w'
                    go_simp
                    with_reducible rfl
                  rotate_left
                  · simp only [Act.put, List.setIfInBounds_toArray, List.set_cons_zero, List.set_cons_succ, i64_w, i32_w]
                    rfl
                  refine pure_ (i := 4) (N := some 24) (v := ?_) (a' := ?_) #[true, true, true, false, true, false, false, false, false, false] rfl rfl (any_of HT_.out (by kernel_rfl)) (fun _ _ _ h => h) (Or.inl ⟨by rfl, ?_⟩) ?_ ?_
                  rotate_left
                  · intro w'
                    go_simp
                    with_reducible rfl
                  rotate_left
                  · simp only [Act.put, List.setIfInBounds_toArray, List.set_cons_zero, List.set_cons_succ, i64_w, i32_w]
                    rfl
                  refine pure_ (i := 5) (N := some 25) (v := ?_) (a' := ?_) #[true, true, true, false, true, true, false, false, false, false] rfl rfl (any_of HT_.out (by kernel_rfl)) (fun _ _ _ h => h) (Or.inl ⟨by rfl, ?_⟩) ?_ ?_
                  rotate_left
                  · intro w'
                    go_simp
                    with_reducible rfl
                  rotate_left
                  · simp only [Act.put, List.setIfInBounds_toArray, List.set_cons_zero, List.set_cons_succ, i64_w, i32_w]
                    rfl
                  refine pure_ (i := 6) (N := some 26) (v := ?_) (a' := ?_) #[true, true, true, false, true, true, true, false, false, false] rfl rfl (any_of HT_.out (by kernel_rfl)) (fun _ _ _ h => h) (Or.inl ⟨by rfl, ?_⟩) ?_ ?_
                  rotate_left
                  · intro w'
                    go_simp
                    with_reducible rfl
                  rotate_left
                  · simp only [Act.put, List.setIfInBounds_toArray, List.set_cons_zero, List.set_cons_succ, i64_w, i32_w]
                    rfl
                  refine take_ (i := 3) (N := some 23) (v := ?_) (a' := ?_) #[true, true, true, true, true, true, true, false, false, false] rfl rfl (take_ofW HT_.out HW_.out (by kernel_rfl)) (fun _ _ _ h => h) (Or.inl ⟨by rfl, ?_⟩) hHeld ?_ ?_
                  rotate_left
                  · rintro w' ⟨s0, s1, s2, s3, s4, s5⟩
                    go_simp
                    with_reducible rfl
                  rotate_left
                  · simp only [Act.put, List.setIfInBounds_toArray, List.set_cons_zero, List.set_cons_succ, i64_w, i32_w]
                    rfl
                  refine take_ (i := 7) (N := some 27) (v := ?_) (a' := ?_) #[true, true, true, true, true, true, true, true, false, false] rfl rfl (take_ofW HT_.out HW_.out (by kernel_rfl)) (fun _ _ _ h => h) (Or.inl ⟨by rfl, ?_⟩) hHeld ?_ ?_
                  rotate_left
                  · rintro w' ⟨s0, s1, s2, s3, s4, s5⟩
                    go_simp
                    with_reducible rfl
                  rotate_left
                  · simp only [Act.put, List.setIfInBounds_toArray, List.set_cons_zero, List.set_cons_succ, i64_w, i32_w]
                    rfl
                  refine one_ (i := 8) (N := some 28) #[true, true, true, true, true, true, true, true, true, false] rfl rfl (one_of HT_.out (by kernel_rfl)) (by decide) (fun K hK => ?_)
                  refine goes_ Try.func28 (by kernel_rfl) rfl #[.agg #[.string a1_0, .int .i64 a1_1, .int .i64 a1_2], .agg #[.string ((rd_T25 t340 x8_1).f0), .int .i64 ((rd_T25 t340 x8_1).f1), .int .i64 ((rd_T25 t340 x8_1).f2)]] (by rfl) rfl rfl (by (try simp only [List.map_toArray, List.map_cons, List.map_nil]); first | done | rfl | (simp only [List.length_drop, List.length_take]; rfl)) ?_
                  with_reducible refine (almanacref19_before.calls a1_0 a1_1 a1_2 ((rd_T25 t340 x8_1).f0) ((rd_T25 t340 x8_1).f1) ((rd_T25 t340 x8_1).f2) true _ A15.out).mono ?_
                  rintro e w21 ⟨rfl, hb⟩
                  have HS3_ := (hb.cell (World.block_lt_of_cell? _ _ (hHeld.2.2.2.1))).trans (hHeld.2.2.2.1)
                  have HS4_ := (hb.cell (World.block_lt_of_cell? _ _ (hHeld.2.2.2.2.1))).trans (hHeld.2.2.2.2.1)
                  have HS5_ := (hb.cell (World.block_lt_of_cell? _ _ (hHeld.2.2.2.2.2))).trans (hHeld.2.2.2.2.2)
                  refine ⟨_, rfl, ?_⟩
                  have n0_ := Aside0.mk (Kd.R_below (by (with_reducible repeat (first | apply Kd.R_alloc | apply Kd.R_drewN | apply Kd.R_drew)); exact HO_5.out) hb)
                  have n1_ := Aside0.mk (Kd.R_below (by (with_reducible repeat (first | apply Kd.R_alloc | apply Kd.R_drewN | apply Kd.R_drew)); exact HO_6.out) hb)
                  have n2_ := Aside0.mk (blk_below (g := gb339) (o := .cells #[.string a1_0, .int .i64 a1_1, .int .i64 a1_2] 25 (0, 0)) (by (with_reducible repeat (first | refine blk_drewN ?_ _ | refine blk_drew ?_ | refine blk_alloc ?_ _)); exact BK339.out) hb)
                  have n3_ := Aside0.mk (below_step (by repeat (first | (with_reducible first | exact HB.out | apply below_alloc | apply pw_below_drewN | apply below_drew1 | refine below_set ?_ GE339.out) | exact HB.out)) hb)
                  clear HO_5
                  clear HO_6
                  clear BK339
                  clear HB
                  have HO_5 := n0_
                  have HO_6 := n1_
                  have BK339 := n2_
                  have HB := n3_
                  clear n0_ n1_ n2_ n3_
                  (try clear hb)
                  (try clear hb2)
                  (try clear hk)
                  (try clear hi)
                  refine hK.out _ _ ⟨(blk_cell BK339.out 0).trans rfl, (blk_cell BK339.out 1).trans rfl, (blk_cell BK339.out 2).trans rfl, HS3_, HS4_, HS5_⟩ (fun hHeld => ?_)
                  clear hK K
                  refine norm_ (a' := ?_) ?_ ?_
                  rotate_left
                  · show Act.put _ (some 28) _ = _
                    simp only [Act.put, List.setIfInBounds_toArray, List.set_cons_zero, List.set_cons_succ, i64_w, i32_w]
                    rfl
                  refine pure_ (i := 9) (N := some 29) (v := ?_) (a' := ?_) #[true, true, true, true, true, true, true, true, true, true] rfl rfl (any_of HT_.out (by kernel_rfl)) (fun _ _ _ h => h) (Or.inl ⟨by rfl, ?_⟩) ?_ ?_
                  rotate_left
                  · intro w'
                    go_simp
                    with_reducible rfl
                  rotate_left
                  · simp only [Act.put, List.setIfInBounds_toArray, List.set_cons_zero, List.set_cons_succ, i64_w, i32_w]
                    rfl
                  refine done_ (done_of HT_.out (by kernel_rfl)) ?_
                  have hcz22_0 : w21.cell? ⟨gb339, 0, none⟩ = some (.string a1_0) := (blk_cell BK339.out 0).trans rfl
                  have hcz22_1 : w21.cell? ⟨gb339, 1, none⟩ = some (.int .i64 a1_1) := (blk_cell BK339.out 1).trans rfl
                  have hcz22_2 : w21.cell? ⟨gb339, 2, none⟩ = some (.int .i64 a1_2) := (blk_cell BK339.out 2).trans rfl
                  have hfz22_0 := blk_frozen BK339.out 0
                  have hfz22_1 := blk_frozen BK339.out 1
                  have hfz22_2 := blk_frozen BK339.out 2
                  try go_wp2_with (first | ((with_reducible refine gate_builtin (b := .append) (xs := #[.tmp 30, .tmp 32]) rfl ?_); at_builtin; refine Kd.R_append k25 (w0 := w) w.heap.size rfl (.tmp 30) (.tmp 32) 22 25 (.agg #[(.string ⟨#[]⟩), (.int .i64 0), (.int .i64 0)]) 32 rfl Try.underlying22 info25 rfl (by decide) (by omega) u5 x5_1 (⟨a1_0, a1_1, a1_2⟩ : S25) [.string a1_0, .int .i64 a1_1, .int .i64 a1_2] (fun k_ => some k_ ≠ (.slice (some ad347) t340.length co19 : Value).ownBlock ∧ k_ ≠ gb339) (fun _ => False) rfl rfl ?aP (fun _ hk => hk.elim) ?aF ?aO ?aB ?aS ?aL ?_; (case aP => exact k25_mkM _ _ _ (⟨a1_0, a1_1, a1_2⟩ : S25)); (case aB => exact (by repeat (first | (with_reducible first | exact HB.out | apply below_alloc | apply pw_below_drewN | apply below_drew1 | refine below_set ?_ GE339.out) | exact HB.out))); (case aF => exact (fun k_ hk => ⟨Kd.fresh' (Kd.R_lt (by (with_reducible repeat (first | apply Kd.R_alloc | apply Kd.R_drewN | apply Kd.R_drew)); exact HO_6.out)) k_ hk, Kd.freshB (g := gb339) (o := .cells #[.string a1_0, .int .i64 a1_1, .int .i64 a1_2] 25 (0, 0)) (by (with_reducible repeat (first | refine blk_drewN ?_ _ | refine blk_drew ?_ | refine blk_alloc ?_ _)); exact BK339.out) k_ hk⟩)); (case aO => exact (by (with_reducible repeat (first | apply Kd.R_alloc | apply Kd.R_drewN | apply Kd.R_drew)); exact HO_5.out)); (case aS => exact (below_size (by repeat (first | (with_reducible first | exact HB.out | apply below_alloc | apply pw_below_drewN | apply below_drew1 | refine below_set ?_ GE339.out) | exact HB.out)))); (case aL => have := LMc17.out; omega); intro v350 w23 ho hb hg hat; rw [← Ny349.out] at ho; have n0_ := Aside0.mk (Kd.R_after (ok := (fun k_ => k_ ≠ gb339)) (by (with_reducible repeat (first | apply Kd.R_alloc | apply Kd.R_drewN | apply Kd.R_drew)); exact Kd.R_mono HO_6.out (fun _ hk => ⟨hk.2, hk.1⟩)) hg hat); have n1_ := Aside0.mk (blk_grown (g := gb339) (o := .cells #[.string a1_0, .int .i64 a1_1, .int .i64 a1_2] 25 (0, 0)) (by (with_reducible repeat (first | refine blk_drewN ?_ _ | refine blk_drew ?_ | refine blk_alloc ?_ _)); exact BK339.out) hg (Kd.R_away HO_5.out (fun _ hk => hk.2))); have n2_ := Aside0.mk (hb); have n3_ := Aside0.mk (ho); clear HO_6; clear BK339; clear HB; clear HO_5; have HO_6 := n0_; have BK339 := n1_; have HB := n2_; have HO351 := n3_; clear n0_ n1_ n2_ n3_; clear ho hb hg hat; have p352 : 0 ≤ (x8_1 : Int) := of_decide_eq_true (by first | (with_reducible assumption) | assumption); have q352 : x8_1 < (t340.length : Int) := of_decide_eq_true (by first | (with_reducible assumption) | assumption); obtain ⟨ad352, e352, hx352_0, hx352_1, hx352_2⟩ := at_T25 (Kd.R_reads' HO_6.out).2.2 x8_1 p352 q352; obtain rfl : ad347 = ad352 := (by injection e352); replace p352 := eq_true p352; replace q352 := eq_true q352) | ((with_reducible refine gate_builtin (b := .append) (xs := #[.tmp 34, .tmp 39]) rfl ?_); at_builtin; refine Kd.R_append k25 (w0 := w) w.heap.size rfl (.tmp 34) (.tmp 39) 22 25 (.agg #[(.string ⟨#[]⟩), (.int .i64 0), (.int .i64 0)]) 32 rfl Try.underlying22 info25 rfl (by decide) (by omega) v350 y349 (⟨(rd_T25 t340 x8_1).f0, (rd_T25 t340 x8_1).f1, (rd_T25 t340 x8_1).f2⟩ : S25) [.string ((rd_T25 t340 x8_1).f0), .int .i64 ((rd_T25 t340 x8_1).f1), .int .i64 ((rd_T25 t340 x8_1).f2)] (fun k_ => some k_ ≠ (.slice (some ad347) t340.length co19 : Value).ownBlock ∧ k_ ≠ gb339) (fun _ => False) rfl rfl ?aP (fun _ hk => hk.elim) ?aF ?aO ?aB ?aS ?aL ?_; (case aP => exact k25_mkM _ _ _ (⟨(rd_T25 t340 x8_1).f0, (rd_T25 t340 x8_1).f1, (rd_T25 t340 x8_1).f2⟩ : S25)); (case aB => exact (by repeat (first | (with_reducible first | exact HB.out | apply below_alloc | apply pw_below_drewN | apply below_drew1 | refine below_set ?_ GE339.out) | exact HB.out))); (case aF => exact (fun k_ hk => ⟨Kd.fresh' (Kd.R_lt (by (with_reducible repeat (first | apply Kd.R_alloc | apply Kd.R_drewN | apply Kd.R_drew)); exact HO_6.out)) k_ hk, Kd.freshB (g := gb339) (o := .cells #[.string a1_0, .int .i64 a1_1, .int .i64 a1_2] 25 (0, 0)) (by (with_reducible repeat (first | refine blk_drewN ?_ _ | refine blk_drew ?_ | refine blk_alloc ?_ _)); exact BK339.out) k_ hk⟩)); (case aO => exact (by (with_reducible repeat (first | apply Kd.R_alloc | apply Kd.R_drewN | apply Kd.R_drew)); exact HO351.out)); (case aS => exact (below_size (by repeat (first | (with_reducible first | exact HB.out | apply below_alloc | apply pw_below_drewN | apply below_drew1 | refine below_set ?_ GE339.out) | exact HB.out)))); (case aL => have := LMc18.out; omega); intro v354 w24 ho hb hg hat; rw [← Ny353.out] at ho; have n0_ := Aside0.mk (Kd.R_after (ok := (fun k_ => k_ ≠ gb339)) (by (with_reducible repeat (first | apply Kd.R_alloc | apply Kd.R_drewN | apply Kd.R_drew)); exact HO_6.out) hg hat); have n1_ := Aside0.mk (blk_grown (g := gb339) (o := .cells #[.string a1_0, .int .i64 a1_1, .int .i64 a1_2] 25 (0, 0)) (by (with_reducible repeat (first | refine blk_drewN ?_ _ | refine blk_drew ?_ | refine blk_alloc ?_ _)); exact BK339.out) hg (Kd.R_away HO351.out (fun _ hk => hk.2))); have n2_ := Aside0.mk (hb); have n3_ := Aside0.mk (ho); clear HO_6; clear BK339; clear HB; clear HO351; have HO_6 := n0_; have BK339 := n1_; have HB := n2_; have HO355 := n3_; clear n0_ n1_ n2_ n3_; clear ho hb hg hat))
                  go_roundg k1
                  case measure => have := HK1.out; omega
                  case rel => exact ⟨(y353), (true), (wrap64 (x8_1 + 1)), (by first | rfl | (simp; done) | (simp [*]; done)), (by first | rfl | (simp; done) | (simp [*]; done)), H', ⟨by have := HK1.out; omega⟩, ⟨by (with_reducible repeat (first | apply Kd.R_alloc | apply Kd.R_drewN | apply Kd.R_drew)); exact HO355.out⟩, ⟨by (with_reducible repeat (first | apply Kd.R_alloc | apply Kd.R_drewN | apply Kd.R_drew)); exact Kd.R_mono HO_6.out (fun _ hk => ⟨hk.2, hk.1⟩)⟩, ⟨by (with_reducible repeat (first | refine blk_drewN ?_ _ | refine blk_drew ?_ | refine blk_alloc ?_ _)); exact BK339.out⟩, ⟨by repeat (first | (with_reducible first | exact HB.out | apply below_alloc | apply pw_below_drewN | apply below_drew1 | refine below_set ?_ GE339.out) | exact HB.out)⟩⟩
                · rw [if_neg c18] at H
                  exact absurd H (by simp)
              · rw [if_neg c17] at H
                exact absurd H (by simp)
            · replace c16 := Bool.eq_false_iff.mpr c16
              subst c16
              have H1 : (if x5_1.length < 4398046511104 then (almanacref19_Put.l0 k1 l0 (x5_1 ++ [(⟨(rd_T25 t340 x8_1).f0, (rd_T25 t340 x8_1).f1, (rd_T25 t340 x8_1).f2⟩ : S25)]) t340 false (wrap64 (x8_1 + 1)) a1_0 a1_1 a1_2) else (none)) = some r := by rw [if_neg (show ¬ (false = true) by decide)] at H; exact H
              clear H
              have H := H1
              clear H1
              by_cases c25 : x5_1.length < 4398046511104
              · rw [if_pos c25] at H
                have LMc25 := Aside0.mk c25
                clear c25
                obtain ⟨y357, hy357⟩ : ∃ y_ : List (S25), y_ = (x5_1 ++ [(⟨(rd_T25 t340 x8_1).f0, (rd_T25 t340 x8_1).f1, (rd_T25 t340 x8_1).f2⟩ : S25)]) := ⟨_, rfl⟩
                replace H : (almanacref19_Put.l0 k1 l0 y357 t340 false (wrap64 (x8_1 + 1)) a1_0 a1_1 a1_2) = some r := by first | (rw [hy357]; with_reducible exact H) | (have H2_ := (Option.bind_some _ _).symm.trans H; rw [hy357]; with_reducible exact H2_) | (have H2_ := (Option.bind_some _ _).symm.trans H; with_reducible exact H2_) | with_reducible exact H | (rw [hy357]; exact H) | exact H
                have Ny357 := Aside0.mk hy357
                clear hy357
                have H' := Aside0.mk H
                clear H
                obtain ⟨Ao26, co26, eo26⟩ := Kd.R_slice HO_6.out
                subst eo26
                try go_wp2
                have n0_ := Aside0.mk (Kd.R_drew HO_5.out)
                have n1_ := Aside0.mk (Kd.R_drew HO_6.out)
                have n2_ := Aside0.mk (blk_drew BK339.out)
                have n3_ := Aside0.mk (below_drew1 HB.out)
                clear HO_5
                clear HO_6
                clear BK339
                clear HB
                have HO_5 := n0_
                have HO_6 := n1_
                have BK339 := n2_
                have HB := n3_
                clear n0_ n1_ n2_ n3_
                have p347 : 0 ≤ (x8_1 : Int) := of_decide_eq_true (by first | (with_reducible assumption) | assumption)
                have q347 : x8_1 < (t340.length : Int) := of_decide_eq_true (by first | (with_reducible assumption) | assumption)
                obtain ⟨ad347, e347, hx347_0, hx347_1, hx347_2⟩ := at_T25 (Kd.R_reads' HO_6.out).2.2 x8_1 p347 q347
                cases e347
                replace p347 := eq_true p347
                replace q347 := eq_true q347
                refine start_ (n := 10) (S := fun w' => w'.cell? ⟨gb339, 0, none⟩ = some (.string a1_0) ∧ w'.cell? ⟨gb339, 1, none⟩ = some (.int .i64 a1_1) ∧ w'.cell? ⟨gb339, 2, none⟩ = some (.int .i64 a1_2) ∧ w'.cell? (ad347.add ((x8_1).toNat * 3)) = some (.string ((rd_T25 t340 x8_1).f0)) ∧ w'.cell? ⟨(ad347.add ((x8_1).toNat * 3)).block, (ad347.add ((x8_1).toNat * 3)).off + 1, none⟩ = some (.int .i64 ((rd_T25 t340 x8_1).f1)) ∧ w'.cell? ⟨(ad347.add ((x8_1).toNat * 3)).block, (ad347.add ((x8_1).toNat * 3)).off + 2, none⟩ = some (.int .i64 ((rd_T25 t340 x8_1).f2))) (ds := []) #[false, false, false, false, false, false, false, false, false, false] (by kernel_rfl) rfl rfl ⟨(blk_cell BK339.out 0).trans rfl, (blk_cell BK339.out 1).trans rfl, (blk_cell BK339.out 2).trans rfl, hx347_0, hx347_1, hx347_2⟩ (fun hHeld => ?_); refine with_tabW almanacref19_Put.tab7 almanacref19_Put.bits7 (fun HT_ HW_ => ?_)
                generalize wr.drew = w27 at HO_5 HO_6 BK339 HB hx347_0 hx347_1 hx347_2 hHeld ⊢
                refine pure_ (i := 0) (N := some 20) (v := ?_) (a' := ?_) #[true, false, false, false, false, false, false, false, false, false] rfl rfl (any_of HT_.out (by kernel_rfl)) (fun _ _ _ h => h) (Or.inl ⟨by rfl, ?_⟩) ?_ ?_
                rotate_left
                · intro w'
                  go_simp
                  with_reducible rfl
                rotate_left
                · simp only [Act.put, List.setIfInBounds_toArray, List.set_cons_zero, List.set_cons_succ, i64_w, i32_w]
                  rfl
                refine pure_ (i := 1) (N := some 21) (v := ?_) (a' := ?_) #[true, true, false, false, false, false, false, false, false, false] rfl rfl (any_of HT_.out (by kernel_rfl)) (fun _ _ _ h => h) (Or.inl ⟨by rfl, ?_⟩) ?_ ?_
                rotate_left
                · intro w'
                  go_simp
                  with_reducible rfl
                rotate_left
                · simp only [Act.put, List.setIfInBounds_toArray, List.set_cons_zero, List.set_cons_succ, i64_w, i32_w]
                  rfl
                refine pure_ (i := 2) (N := some 22) (v := ?_) (a' := ?_) #[true, true, true, false, false, false, false, false, false, false] rfl rfl (any_of HT_.out (by kernel_rfl)) (fun _ _ _ h => h) (Or.inl ⟨by rfl, ?_⟩) ?_ ?_
                rotate_left
                · intro w'
                  go_simp
                  with_reducible rfl
                rotate_left
                · simp only [Act.put, List.setIfInBounds_toArray, List.set_cons_zero, List.set_cons_succ, i64_w, i32_w]
                  rfl
                refine pure_ (i := 4) (N := some 24) (v := ?_) (a' := ?_) #[true, true, true, false, true, false, false, false, false, false] rfl rfl (any_of HT_.out (by kernel_rfl)) (fun _ _ _ h => h) (Or.inl ⟨by rfl, ?_⟩) ?_ ?_
                rotate_left
                · intro w'
                  go_simp
                  with_reducible rfl
                rotate_left
                · simp only [Act.put, List.setIfInBounds_toArray, List.set_cons_zero, List.set_cons_succ, i64_w, i32_w]
                  rfl
                refine pure_ (i := 5) (N := some 25) (v := ?_) (a' := ?_) #[true, true, true, false, true, true, false, false, false, false] rfl rfl (any_of HT_.out (by kernel_rfl)) (fun _ _ _ h => h) (Or.inl ⟨by rfl, ?_⟩) ?_ ?_
                rotate_left
                · intro w'
                  go_simp
                  with_reducible rfl
                rotate_left
                · simp only [Act.put, List.setIfInBounds_toArray, List.set_cons_zero, List.set_cons_succ, i64_w, i32_w]
                  rfl
                refine pure_ (i := 6) (N := some 26) (v := ?_) (a' := ?_) #[true, true, true, false, true, true, true, false, false, false] rfl rfl (any_of HT_.out (by kernel_rfl)) (fun _ _ _ h => h) (Or.inl ⟨by rfl, ?_⟩) ?_ ?_
                rotate_left
                · intro w'
                  go_simp
                  with_reducible rfl
                rotate_left
                · simp only [Act.put, List.setIfInBounds_toArray, List.set_cons_zero, List.set_cons_succ, i64_w, i32_w]
                  rfl
                refine take_ (i := 3) (N := some 23) (v := ?_) (a' := ?_) #[true, true, true, true, true, true, true, false, false, false] rfl rfl (take_ofW HT_.out HW_.out (by kernel_rfl)) (fun _ _ _ h => h) (Or.inl ⟨by rfl, ?_⟩) hHeld ?_ ?_
                rotate_left
                · rintro w' ⟨s0, s1, s2, s3, s4, s5⟩
                  go_simp
                  with_reducible rfl
                rotate_left
                · simp only [Act.put, List.setIfInBounds_toArray, List.set_cons_zero, List.set_cons_succ, i64_w, i32_w]
                  rfl
                refine take_ (i := 7) (N := some 27) (v := ?_) (a' := ?_) #[true, true, true, true, true, true, true, true, false, false] rfl rfl (take_ofW HT_.out HW_.out (by kernel_rfl)) (fun _ _ _ h => h) (Or.inl ⟨by rfl, ?_⟩) hHeld ?_ ?_
                rotate_left
                · rintro w' ⟨s0, s1, s2, s3, s4, s5⟩
                  go_simp
                  with_reducible rfl
                rotate_left
                · simp only [Act.put, List.setIfInBounds_toArray, List.set_cons_zero, List.set_cons_succ, i64_w, i32_w]
                  rfl
                refine one_ (i := 8) (N := some 28) #[true, true, true, true, true, true, true, true, true, false] rfl rfl (one_of HT_.out (by kernel_rfl)) (by decide) (fun K hK => ?_)
                refine goes_ Try.func28 (by kernel_rfl) rfl #[.agg #[.string a1_0, .int .i64 a1_1, .int .i64 a1_2], .agg #[.string ((rd_T25 t340 x8_1).f0), .int .i64 ((rd_T25 t340 x8_1).f1), .int .i64 ((rd_T25 t340 x8_1).f2)]] (by rfl) rfl rfl (by (try simp only [List.map_toArray, List.map_cons, List.map_nil]); first | done | rfl | (simp only [List.length_drop, List.length_take]; rfl)) ?_
                with_reducible refine (almanacref19_before.calls a1_0 a1_1 a1_2 ((rd_T25 t340 x8_1).f0) ((rd_T25 t340 x8_1).f1) ((rd_T25 t340 x8_1).f2) false _ A15.out).mono ?_
                rintro e w28 ⟨rfl, hb⟩
                have HS3_ := (hb.cell (World.block_lt_of_cell? _ _ (hHeld.2.2.2.1))).trans (hHeld.2.2.2.1)
                have HS4_ := (hb.cell (World.block_lt_of_cell? _ _ (hHeld.2.2.2.2.1))).trans (hHeld.2.2.2.2.1)
                have HS5_ := (hb.cell (World.block_lt_of_cell? _ _ (hHeld.2.2.2.2.2))).trans (hHeld.2.2.2.2.2)
                refine ⟨_, rfl, ?_⟩
                have n0_ := Aside0.mk (Kd.R_below (by (with_reducible repeat (first | apply Kd.R_alloc | apply Kd.R_drewN | apply Kd.R_drew)); exact HO_5.out) hb)
                have n1_ := Aside0.mk (Kd.R_below (by (with_reducible repeat (first | apply Kd.R_alloc | apply Kd.R_drewN | apply Kd.R_drew)); exact HO_6.out) hb)
                have n2_ := Aside0.mk (blk_below (g := gb339) (o := .cells #[.string a1_0, .int .i64 a1_1, .int .i64 a1_2] 25 (0, 0)) (by (with_reducible repeat (first | refine blk_drewN ?_ _ | refine blk_drew ?_ | refine blk_alloc ?_ _)); exact BK339.out) hb)
                have n3_ := Aside0.mk (below_step (by repeat (first | (with_reducible first | exact HB.out | apply below_alloc | apply pw_below_drewN | apply below_drew1 | refine below_set ?_ GE339.out) | exact HB.out)) hb)
                clear HO_5
                clear HO_6
                clear BK339
                clear HB
                have HO_5 := n0_
                have HO_6 := n1_
                have BK339 := n2_
                have HB := n3_
                clear n0_ n1_ n2_ n3_
                (try clear hb)
                (try clear hb2)
                (try clear hk)
                (try clear hi)
                refine hK.out _ _ ⟨(blk_cell BK339.out 0).trans rfl, (blk_cell BK339.out 1).trans rfl, (blk_cell BK339.out 2).trans rfl, HS3_, HS4_, HS5_⟩ (fun hHeld => ?_)
                clear hK K
                refine norm_ (a' := ?_) ?_ ?_
                rotate_left
                · show Act.put _ (some 28) _ = _
                  simp only [Act.put, List.setIfInBounds_toArray, List.set_cons_zero, List.set_cons_succ, i64_w, i32_w]
                  rfl
                refine pure_ (i := 9) (N := some 29) (v := ?_) (a' := ?_) #[true, true, true, true, true, true, true, true, true, true] rfl rfl (any_of HT_.out (by kernel_rfl)) (fun _ _ _ h => h) (Or.inl ⟨by rfl, ?_⟩) ?_ ?_
                rotate_left
                · intro w'
                  go_simp
                  with_reducible rfl
                rotate_left
                · simp only [Act.put, List.setIfInBounds_toArray, List.set_cons_zero, List.set_cons_succ, i64_w, i32_w]
                  rfl
                refine done_ (done_of HT_.out (by kernel_rfl)) ?_
                have p356 : 0 ≤ (x8_1 : Int) := of_decide_eq_true (by first | (with_reducible assumption) | assumption)
                have q356 : x8_1 < (t340.length : Int) := of_decide_eq_true (by first | (with_reducible assumption) | assumption)
                obtain ⟨ad356, e356, hx356_0, hx356_1, hx356_2⟩ := at_T25 (Kd.R_reads' HO_6.out).2.2 x8_1 p356 q356
                obtain rfl : ad347 = ad356 := (by injection e356)
                replace p356 := eq_true p356
                replace q356 := eq_true q356
                try go_wp2_with (first | ((with_reducible refine gate_builtin (b := .append) (xs := #[.tmp 34, .tmp 39]) rfl ?_); at_builtin; refine Kd.R_append k25 (w0 := w) w.heap.size rfl (.tmp 34) (.tmp 39) 22 25 (.agg #[(.string ⟨#[]⟩), (.int .i64 0), (.int .i64 0)]) 32 rfl Try.underlying22 info25 rfl (by decide) (by omega) u5 x5_1 (⟨(rd_T25 t340 x8_1).f0, (rd_T25 t340 x8_1).f1, (rd_T25 t340 x8_1).f2⟩ : S25) [.string ((rd_T25 t340 x8_1).f0), .int .i64 ((rd_T25 t340 x8_1).f1), .int .i64 ((rd_T25 t340 x8_1).f2)] (fun k_ => some k_ ≠ (.slice (some ad347) t340.length co26 : Value).ownBlock ∧ k_ ≠ gb339) (fun _ => False) rfl rfl ?aP (fun _ hk => hk.elim) ?aF ?aO ?aB ?aS ?aL ?_; (case aP => exact k25_mkM _ _ _ (⟨(rd_T25 t340 x8_1).f0, (rd_T25 t340 x8_1).f1, (rd_T25 t340 x8_1).f2⟩ : S25)); (case aB => exact (by repeat (first | (with_reducible first | exact HB.out | apply below_alloc | apply pw_below_drewN | apply below_drew1 | refine below_set ?_ GE339.out) | exact HB.out))); (case aF => exact (fun k_ hk => ⟨Kd.fresh' (Kd.R_lt (by (with_reducible repeat (first | apply Kd.R_alloc | apply Kd.R_drewN | apply Kd.R_drew)); exact HO_6.out)) k_ hk, Kd.freshB (g := gb339) (o := .cells #[.string a1_0, .int .i64 a1_1, .int .i64 a1_2] 25 (0, 0)) (by (with_reducible repeat (first | refine blk_drewN ?_ _ | refine blk_drew ?_ | refine blk_alloc ?_ _)); exact BK339.out) k_ hk⟩)); (case aO => exact (by (with_reducible repeat (first | apply Kd.R_alloc | apply Kd.R_drewN | apply Kd.R_drew)); exact HO_5.out)); (case aS => exact (below_size (by repeat (first | (with_reducible first | exact HB.out | apply below_alloc | apply pw_below_drewN | apply below_drew1 | refine below_set ?_ GE339.out) | exact HB.out)))); (case aL => have := LMc25.out; omega); intro v358 w29 ho hb hg hat; rw [← Ny357.out] at ho; have n0_ := Aside0.mk (Kd.R_after (ok := (fun k_ => k_ ≠ gb339)) (by (with_reducible repeat (first | apply Kd.R_alloc | apply Kd.R_drewN | apply Kd.R_drew)); exact Kd.R_mono HO_6.out (fun _ hk => ⟨hk.2, hk.1⟩)) hg hat); have n1_ := Aside0.mk (blk_grown (g := gb339) (o := .cells #[.string a1_0, .int .i64 a1_1, .int .i64 a1_2] 25 (0, 0)) (by (with_reducible repeat (first | refine blk_drewN ?_ _ | refine blk_drew ?_ | refine blk_alloc ?_ _)); exact BK339.out) hg (Kd.R_away HO_5.out (fun _ hk => hk.2))); have n2_ := Aside0.mk (hb); have n3_ := Aside0.mk (ho); clear HO_6; clear BK339; clear HB; clear HO_5; have HO_6 := n0_; have BK339 := n1_; have HB := n2_; have HO359 := n3_; clear n0_ n1_ n2_ n3_; clear ho hb hg hat))
                go_roundg k1
                case measure => have := HK1.out; omega
                case rel => exact ⟨(y357), (false), (wrap64 (x8_1 + 1)), (by first | rfl | (simp; done) | (simp [*]; done)), (by first | rfl | (simp; done) | (simp [*]; done)), H', ⟨by have := HK1.out; omega⟩, ⟨by (with_reducible repeat (first | apply Kd.R_alloc | apply Kd.R_drewN | apply Kd.R_drew)); exact HO359.out⟩, ⟨by (with_reducible repeat (first | apply Kd.R_alloc | apply Kd.R_drewN | apply Kd.R_drew)); exact Kd.R_mono HO_6.out (fun _ hk => ⟨hk.2, hk.1⟩)⟩, ⟨by (with_reducible repeat (first | refine blk_drewN ?_ _ | refine blk_drew ?_ | refine blk_alloc ?_ _)); exact BK339.out⟩, ⟨by repeat (first | (with_reducible first | exact HB.out | apply below_alloc | apply pw_below_drewN | apply below_drew1 | refine below_set ?_ GE339.out) | exact HB.out)⟩⟩
              · rw [if_neg c25] at H
                exact absurd H (by simp)
          · rw [if_neg c14] at H
            exact absurd H (by simp)
      · rw [if_neg c7] at H
        have c7b0 : decide (x8_1 < (t340.length : Int)) = false := decide_eq_false c7
        clear c7
        by_cases c30 : x7_1 = true
        · subst c30
          have H1 : ((almanacref19_Fit.f k1 x5_1).bind fun t360 => (if t360 = true then (some x5_1) else (if ([] : List (S25)).length + l0.length < 4398046511104 then (some (([] : List (S25)) ++ l0)) else (none)))) = some r := by rw [if_pos rfl] at H; exact H
          clear H
          have H := H1
          clear H1
          replace H := Option.bind_eq_some_iff.mp H
          obtain ⟨t360, A310, H⟩ := H
          replace H : (if t360 = true then (some x5_1) else (if ([] : List (S25)).length + l0.length < 4398046511104 then (some (([] : List (S25)) ++ l0)) else (none))) = some r := H
          have A31 := Aside0.mk A310
          clear A310
          by_cases c32 : t360 = true
          · subst c32
            have H1 : (some x5_1) = some r := by rw [if_pos rfl] at H; exact H
            clear H
            have H := H1
            clear H1
            obtain rfl := Option.some.inj H
            obtain ⟨Ao33, co33, eo33⟩ := Kd.R_slice HO_6.out
            subst eo33
            obtain ⟨Ao34, co34, eo34⟩ := Kd.R_slice HO_5.out
            subst eo34
            go_wp2_with (first | ((with_reducible refine gate_callee (f := 12) rfl ?_); refine goesL_ (some 48) rfl rfl Try.func12 (by kernel_rfl) rfl #[.slice Ao34 x5_1.length co34] rfl (by (try simp only [List.map_toArray, List.map_cons, List.map_nil]); first | done | rfl | (simp only [List.length_drop, List.length_take]; rfl)) ?_; (with_reducible refine (almanacref19_Fit.calls k1 _ _ x5_1 true _ ?side1 ?side2 A31.out).mono ?_); (case side1 => repeat (first | exact (Kd.R_reads' HO_5.out).2.2 | (with_reducible refine Kd.C_alloc ?_ _) | (with_reducible refine Kd.C_drewN ?_ _) | (with_reducible refine Kd.C_drew ?_))); (case side2 => exact (Kd.R_reads' HO_5.out).2.1); rintro e w35 ⟨rfl, hb⟩; refine ⟨_, rfl, ?_⟩; have n0_ := Aside0.mk (Kd.R_below (by (with_reducible repeat (first | apply Kd.R_alloc | apply Kd.R_drewN | apply Kd.R_drew)); exact HO_5.out) hb); have n1_ := Aside0.mk (Kd.R_below (by (with_reducible repeat (first | apply Kd.R_alloc | apply Kd.R_drewN | apply Kd.R_drew)); exact HO_6.out) hb); have n2_ := Aside0.mk (blk_below (g := gb339) (o := .cells #[.string a1_0, .int .i64 a1_1, .int .i64 a1_2] 25 (0, 0)) (by (with_reducible repeat (first | refine blk_drewN ?_ _ | refine blk_drew ?_ | refine blk_alloc ?_ _)); exact BK339.out) hb); have n3_ := Aside0.mk (below_step (by repeat (first | (with_reducible first | exact HB.out | apply below_alloc | apply pw_below_drewN | apply below_drew1 | refine below_set ?_ GE339.out) | exact HB.out)) hb); clear HO_5; clear HO_6; clear BK339; clear HB; have HO_5 := n0_; have HO_6 := n1_; have BK339 := n2_; have HB := n3_; clear n0_ n1_ n2_ n3_; (try clear hb); (try clear hb2); (try clear hk); (try clear hi)))
            go_ret
            exact ⟨_, by first | rfl | (simp [errW_none, errW_some] <;> rfl) | (simp [*, errW_none, errW_some] <;> rfl), by (with_reducible repeat (first | apply Kd.R_alloc | apply Kd.R_drewN | apply Kd.R_drew)); exact Kd.R_mono HO_5.out (fun _ hk => trivial), by repeat (first | (with_reducible first | exact HB.out | apply below_alloc | apply pw_below_drewN | apply below_drew1 | refine below_set ?_ GE339.out) | exact HB.out)⟩
          · replace c32 := Bool.eq_false_iff.mpr c32
            subst c32
            have H1 : (if ([] : List (S25)).length + l0.length < 4398046511104 then (some (([] : List (S25)) ++ l0)) else (none)) = some r := by rw [if_neg (show ¬ (false = true) by decide)] at H; exact H
            clear H
            have H := H1
            clear H1
            by_cases c36 : ([] : List (S25)).length + l0.length < 4398046511104
            · rw [if_pos c36] at H
              have LMc36 := Aside0.mk c36
              clear c36
              obtain ⟨y361, hy361⟩ : ∃ y_ : List (S25), y_ = (([] : List (S25)) ++ l0) := ⟨_, rfl⟩
              replace H : (some y361) = some r := by first | (rw [hy361]; with_reducible exact H) | (have H2_ := (Option.bind_some _ _).symm.trans H; rw [hy361]; with_reducible exact H2_) | (have H2_ := (Option.bind_some _ _).symm.trans H; with_reducible exact H2_) | with_reducible exact H | (rw [hy361]; exact H) | exact H
              have Ny361 := Aside0.mk hy361
              clear hy361
              obtain rfl := Option.some.inj H
              obtain ⟨Ao37, co37, eo37⟩ := Kd.R_slice HO_6.out
              subst eo37
              obtain ⟨Ao38, co38, eo38⟩ := Kd.R_slice HO_5.out
              subst eo38
              go_wp2_with (first | ((with_reducible refine gate_callee (f := 12) rfl ?_); refine goesL_ (some 48) rfl rfl Try.func12 (by kernel_rfl) rfl #[.slice Ao38 x5_1.length co38] rfl (by (try simp only [List.map_toArray, List.map_cons, List.map_nil]); first | done | rfl | (simp only [List.length_drop, List.length_take]; rfl)) ?_; (with_reducible refine (almanacref19_Fit.calls k1 _ _ x5_1 false _ ?side1 ?side2 A31.out).mono ?_); (case side1 => repeat (first | exact (Kd.R_reads' HO_5.out).2.2 | (with_reducible refine Kd.C_alloc ?_ _) | (with_reducible refine Kd.C_drewN ?_ _) | (with_reducible refine Kd.C_drew ?_))); (case side2 => exact (Kd.R_reads' HO_5.out).2.1); rintro e w39 ⟨rfl, hb⟩; refine ⟨_, rfl, ?_⟩; have n0_ := Aside0.mk (Kd.R_below (by (with_reducible repeat (first | apply Kd.R_alloc | apply Kd.R_drewN | apply Kd.R_drew)); exact HO_5.out) hb); have n1_ := Aside0.mk (Kd.R_below (by (with_reducible repeat (first | apply Kd.R_alloc | apply Kd.R_drewN | apply Kd.R_drew)); exact HO_6.out) hb); have n2_ := Aside0.mk (blk_below (g := gb339) (o := .cells #[.string a1_0, .int .i64 a1_1, .int .i64 a1_2] 25 (0, 0)) (by (with_reducible repeat (first | refine blk_drewN ?_ _ | refine blk_drew ?_ | refine blk_alloc ?_ _)); exact BK339.out) hb); have n3_ := Aside0.mk (below_step (by repeat (first | (with_reducible first | exact HB.out | apply below_alloc | apply pw_below_drewN | apply below_drew1 | refine below_set ?_ GE339.out) | exact HB.out)) hb); clear HO_5; clear HO_6; clear BK339; clear HB; have HO_5 := n0_; have HO_6 := n1_; have BK339 := n2_; have HB := n3_; clear n0_ n1_ n2_ n3_; (try clear hb); (try clear hb2); (try clear hk); (try clear hi)) | ((with_reducible refine gate_builtin (b := .append) (xs := #[.tmp 50, .tmp 51]) rfl ?_); at_builtin; refine Kd.R_append_rows k25 (w0 := w) w.heap.size rfl (.tmp 50) (.tmp 51) 22 25 (.agg #[(.string ⟨#[]⟩), (.int .i64 0), (.int .i64 0)]) 32 rfl Try.underlying22 info25 rfl (by decide) (by omega) (.slice none 0 0) ([] : List (S25)) l0 _ _ _ (fun k_ => some k_ ≠ (.slice Ao38 x5_1.length co38 : Value).ownBlock ∧ some k_ ≠ (.slice Ao37 t340.length co37 : Value).ownBlock ∧ k_ ≠ gb339) (fun _ => False) rfl rfl ?aO ?aR (fun _ _ h => h) (fun _ h => h.elim) ?aF ?aB ?aS ?aL ?_; (case aR => repeat (first | exact (Kd.C_below HR0.out HB.out) | (with_reducible refine Kd.C_alloc ?_ _) | (with_reducible refine Kd.C_drewN ?_ _) | (with_reducible refine Kd.C_drew ?_))); (case aB => exact (by repeat (first | (with_reducible first | exact HB.out | apply below_alloc | apply pw_below_drewN | apply below_drew1 | refine below_set ?_ GE339.out) | exact HB.out))); (case aF => exact (fun k_ hk => ⟨Kd.fresh' (Kd.R_lt (by (with_reducible repeat (first | apply Kd.R_alloc | apply Kd.R_drewN | apply Kd.R_drew)); exact HO_5.out)) k_ hk, Kd.fresh' (Kd.R_lt (by (with_reducible repeat (first | apply Kd.R_alloc | apply Kd.R_drewN | apply Kd.R_drew)); exact HO_6.out)) k_ hk, Kd.freshB (g := gb339) (o := .cells #[.string a1_0, .int .i64 a1_1, .int .i64 a1_2] 25 (0, 0)) (by (with_reducible repeat (first | refine blk_drewN ?_ _ | refine blk_drew ?_ | refine blk_alloc ?_ _)); exact BK339.out) k_ hk⟩)); (case aO => exact ((Kd.R_nil _ _ _ _ (fun k_ => some k_ ≠ (.slice Ao38 x5_1.length co38 : Value).ownBlock ∧ some k_ ≠ (.slice Ao37 t340.length co37 : Value).ownBlock ∧ k_ ≠ gb339)))); (case aS => exact (below_size (by repeat (first | (with_reducible first | exact HB.out | apply below_alloc | apply pw_below_drewN | apply below_drew1 | refine below_set ?_ GE339.out) | exact HB.out)))); (case aL => have := LMc36.out; omega); intro v362 w40 ho hb hg hat; rw [← Ny361.out] at ho; have n0_ := Aside0.mk (Kd.R_after (Kd.R_apart_nil (by (with_reducible repeat (first | apply Kd.R_alloc | apply Kd.R_drewN | apply Kd.R_drew)); exact HO_5.out)) hg hat); have n1_ := Aside0.mk (Kd.R_after (Kd.R_apart_nil (by (with_reducible repeat (first | apply Kd.R_alloc | apply Kd.R_drewN | apply Kd.R_drew)); exact HO_6.out)) hg hat); have n2_ := Aside0.mk (blk_grown (g := gb339) (o := .cells #[.string a1_0, .int .i64 a1_1, .int .i64 a1_2] 25 (0, 0)) (by (with_reducible repeat (first | refine blk_drewN ?_ _ | refine blk_drew ?_ | refine blk_alloc ?_ _)); exact BK339.out) hg (by simp [Value.ownBlock])); have n3_ := Aside0.mk (hb); have n4_ := Aside0.mk (ho); clear HO_5; clear HO_6; clear BK339; clear HB; have HO_5 := n0_; have HO_6 := n1_; have BK339 := n2_; have HB := n3_; have HO363 := n4_; clear n0_ n1_ n2_ n3_ n4_; clear ho hb hg hat))
              go_ret
              exact ⟨_, by first | rfl | (simp [errW_none, errW_some] <;> rfl) | (simp [*, errW_none, errW_some] <;> rfl), by (with_reducible repeat (first | apply Kd.R_alloc | apply Kd.R_drewN | apply Kd.R_drew)); exact Kd.R_mono HO363.out (fun _ hk => trivial), by repeat (first | (with_reducible first | exact HB.out | apply below_alloc | apply pw_below_drewN | apply below_drew1 | refine below_set ?_ GE339.out) | exact HB.out)⟩
            · rw [if_neg c36] at H
              exact absurd H (by simp)
        · replace c30 := Bool.eq_false_iff.mpr c30
          subst c30
          have H1 : (if x5_1.length < 4398046511104 then ((some (x5_1 ++ [(⟨a1_0, a1_1, a1_2⟩ : S25)] : List (S25))).bind fun y364 => ((almanacref19_Fit.f k1 y364).bind fun t367 => (if t367 = true then (some y364) else (if ([] : List (S25)).length + l0.length < 4398046511104 then (some (([] : List (S25)) ++ l0)) else (none))))) else (none)) = some r := by rw [if_neg (show ¬ (false = true) by decide)] at H; exact H
          clear H
          have H := H1
          clear H1
          by_cases c41 : x5_1.length < 4398046511104
          · rw [if_pos c41] at H
            have LMc41 := Aside0.mk c41
            clear c41
            obtain ⟨y364, hy364⟩ : ∃ y_ : List (S25), y_ = (x5_1 ++ [(⟨a1_0, a1_1, a1_2⟩ : S25)]) := ⟨_, rfl⟩
            replace H : ((almanacref19_Fit.f k1 y364).bind fun t367 => (if t367 = true then (some y364) else (if ([] : List (S25)).length + l0.length < 4398046511104 then (some (([] : List (S25)) ++ l0)) else (none)))) = some r := by first | (rw [hy364]; with_reducible exact H) | (have H2_ := (Option.bind_some _ _).symm.trans H; rw [hy364]; with_reducible exact H2_) | (have H2_ := (Option.bind_some _ _).symm.trans H; with_reducible exact H2_) | with_reducible exact H | (rw [hy364]; exact H) | exact H
            have Ny364 := Aside0.mk hy364
            clear hy364
            replace H := Option.bind_eq_some_iff.mp H
            obtain ⟨t367, A420, H⟩ := H
            replace H : (if t367 = true then (some y364) else (if ([] : List (S25)).length + l0.length < 4398046511104 then (some (([] : List (S25)) ++ l0)) else (none))) = some r := H
            have A42 := Aside0.mk A420
            clear A420
            by_cases c43 : t367 = true
            · subst c43
              have H1 : (some y364) = some r := by rw [if_pos rfl] at H; exact H
              clear H
              have H := H1
              clear H1
              obtain rfl := Option.some.inj H
              obtain ⟨Ao44, co44, eo44⟩ := Kd.R_slice HO_6.out
              subst eo44
              have hcz45_0 : wr.cell? ⟨gb339, 0, none⟩ = some (.string a1_0) := (blk_cell BK339.out 0).trans rfl
              have hcz45_1 : wr.cell? ⟨gb339, 1, none⟩ = some (.int .i64 a1_1) := (blk_cell BK339.out 1).trans rfl
              have hcz45_2 : wr.cell? ⟨gb339, 2, none⟩ = some (.int .i64 a1_2) := (blk_cell BK339.out 2).trans rfl
              have hfz45_0 := blk_frozen BK339.out 0
              have hfz45_1 := blk_frozen BK339.out 1
              have hfz45_2 := blk_frozen BK339.out 2
              go_wp2_with (first | ((with_reducible refine gate_builtin (b := .append) (xs := #[.tmp 43, .tmp 45]) rfl ?_); at_builtin; refine Kd.R_append k25 (w0 := w) w.heap.size rfl (.tmp 43) (.tmp 45) 22 25 (.agg #[(.string ⟨#[]⟩), (.int .i64 0), (.int .i64 0)]) 32 rfl Try.underlying22 info25 rfl (by decide) (by omega) u5 x5_1 (⟨a1_0, a1_1, a1_2⟩ : S25) [.string a1_0, .int .i64 a1_1, .int .i64 a1_2] (fun k_ => some k_ ≠ (.slice Ao44 t340.length co44 : Value).ownBlock ∧ k_ ≠ gb339) (fun _ => False) rfl rfl ?aP (fun _ hk => hk.elim) ?aF ?aO ?aB ?aS ?aL ?_; (case aP => exact k25_mkM _ _ _ (⟨a1_0, a1_1, a1_2⟩ : S25)); (case aB => exact (by repeat (first | (with_reducible first | exact HB.out | apply below_alloc | apply pw_below_drewN | apply below_drew1 | refine below_set ?_ GE339.out) | exact HB.out))); (case aF => exact (fun k_ hk => ⟨Kd.fresh' (Kd.R_lt (by (with_reducible repeat (first | apply Kd.R_alloc | apply Kd.R_drewN | apply Kd.R_drew)); exact HO_6.out)) k_ hk, Kd.freshB (g := gb339) (o := .cells #[.string a1_0, .int .i64 a1_1, .int .i64 a1_2] 25 (0, 0)) (by (with_reducible repeat (first | refine blk_drewN ?_ _ | refine blk_drew ?_ | refine blk_alloc ?_ _)); exact BK339.out) k_ hk⟩)); (case aO => exact (by (with_reducible repeat (first | apply Kd.R_alloc | apply Kd.R_drewN | apply Kd.R_drew)); exact HO_5.out)); (case aS => exact (below_size (by repeat (first | (with_reducible first | exact HB.out | apply below_alloc | apply pw_below_drewN | apply below_drew1 | refine below_set ?_ GE339.out) | exact HB.out)))); (case aL => have := LMc41.out; omega); intro v365 w46 ho hb hg hat; rw [← Ny364.out] at ho; have n0_ := Aside0.mk (Kd.R_after (ok := (fun k_ => k_ ≠ gb339)) (by (with_reducible repeat (first | apply Kd.R_alloc | apply Kd.R_drewN | apply Kd.R_drew)); exact Kd.R_mono HO_6.out (fun _ hk => ⟨hk.2, hk.1⟩)) hg hat); have n1_ := Aside0.mk (blk_grown (g := gb339) (o := .cells #[.string a1_0, .int .i64 a1_1, .int .i64 a1_2] 25 (0, 0)) (by (with_reducible repeat (first | refine blk_drewN ?_ _ | refine blk_drew ?_ | refine blk_alloc ?_ _)); exact BK339.out) hg (Kd.R_away HO_5.out (fun _ hk => hk.2))); have n2_ := Aside0.mk (hb); have n3_ := Aside0.mk (ho); clear HO_6; clear BK339; clear HB; clear HO_5; have HO_6 := n0_; have BK339 := n1_; have HB := n2_; have HO366 := n3_; clear n0_ n1_ n2_ n3_; clear ho hb hg hat; obtain ⟨Ao47, co47, eo47⟩ := Kd.R_slice HO366.out; subst eo47) | ((with_reducible refine gate_callee (f := 12) rfl ?_); refine goesL_ (some 48) rfl rfl Try.func12 (by kernel_rfl) rfl #[.slice Ao47 y364.length co47] rfl (by (try simp only [List.map_toArray, List.map_cons, List.map_nil]); first | done | rfl | (simp only [List.length_drop, List.length_take]; rfl)) ?_; (with_reducible refine (almanacref19_Fit.calls k1 _ _ y364 true _ ?side1 ?side2 A42.out).mono ?_); (case side1 => repeat (first | exact (Kd.R_reads' HO366.out).2.2 | (with_reducible refine Kd.C_alloc ?_ _) | (with_reducible refine Kd.C_drewN ?_ _) | (with_reducible refine Kd.C_drew ?_))); (case side2 => exact (Kd.R_reads' HO366.out).2.1); rintro e w48 ⟨rfl, hb⟩; refine ⟨_, rfl, ?_⟩; have n0_ := Aside0.mk (Kd.R_below (by (with_reducible repeat (first | apply Kd.R_alloc | apply Kd.R_drewN | apply Kd.R_drew)); exact HO_6.out) hb); have n1_ := Aside0.mk (Kd.R_below (by (with_reducible repeat (first | apply Kd.R_alloc | apply Kd.R_drewN | apply Kd.R_drew)); exact HO366.out) hb); have n2_ := Aside0.mk (blk_below (g := gb339) (o := .cells #[.string a1_0, .int .i64 a1_1, .int .i64 a1_2] 25 (0, 0)) (by (with_reducible repeat (first | refine blk_drewN ?_ _ | refine blk_drew ?_ | refine blk_alloc ?_ _)); exact BK339.out) hb); have n3_ := Aside0.mk (below_step (by repeat (first | (with_reducible first | exact HB.out | apply below_alloc | apply pw_below_drewN | apply below_drew1 | refine below_set ?_ GE339.out) | exact HB.out)) hb); clear HO_6; clear HO366; clear BK339; clear HB; have HO_6 := n0_; have HO366 := n1_; have BK339 := n2_; have HB := n3_; clear n0_ n1_ n2_ n3_; (try clear hb); (try clear hb2); (try clear hk); (try clear hi)))
              go_ret
              exact ⟨_, by first | rfl | (simp [errW_none, errW_some] <;> rfl) | (simp [*, errW_none, errW_some] <;> rfl), by (with_reducible repeat (first | apply Kd.R_alloc | apply Kd.R_drewN | apply Kd.R_drew)); exact Kd.R_mono HO366.out (fun _ hk => trivial), by repeat (first | (with_reducible first | exact HB.out | apply below_alloc | apply pw_below_drewN | apply below_drew1 | refine below_set ?_ GE339.out) | exact HB.out)⟩
            · replace c43 := Bool.eq_false_iff.mpr c43
              subst c43
              have H1 : (if ([] : List (S25)).length + l0.length < 4398046511104 then (some (([] : List (S25)) ++ l0)) else (none)) = some r := by rw [if_neg (show ¬ (false = true) by decide)] at H; exact H
              clear H
              have H := H1
              clear H1
              by_cases c49 : ([] : List (S25)).length + l0.length < 4398046511104
              · rw [if_pos c49] at H
                have LMc49 := Aside0.mk c49
                clear c49
                obtain ⟨y368, hy368⟩ : ∃ y_ : List (S25), y_ = (([] : List (S25)) ++ l0) := ⟨_, rfl⟩
                replace H : (some y368) = some r := by first | (rw [hy368]; with_reducible exact H) | (have H2_ := (Option.bind_some _ _).symm.trans H; rw [hy368]; with_reducible exact H2_) | (have H2_ := (Option.bind_some _ _).symm.trans H; with_reducible exact H2_) | with_reducible exact H | (rw [hy368]; exact H) | exact H
                have Ny368 := Aside0.mk hy368
                clear hy368
                obtain rfl := Option.some.inj H
                obtain ⟨Ao50, co50, eo50⟩ := Kd.R_slice HO_6.out
                subst eo50
                have hcz51_0 : wr.cell? ⟨gb339, 0, none⟩ = some (.string a1_0) := (blk_cell BK339.out 0).trans rfl
                have hcz51_1 : wr.cell? ⟨gb339, 1, none⟩ = some (.int .i64 a1_1) := (blk_cell BK339.out 1).trans rfl
                have hcz51_2 : wr.cell? ⟨gb339, 2, none⟩ = some (.int .i64 a1_2) := (blk_cell BK339.out 2).trans rfl
                have hfz51_0 := blk_frozen BK339.out 0
                have hfz51_1 := blk_frozen BK339.out 1
                have hfz51_2 := blk_frozen BK339.out 2
                go_wp2_with (first | ((with_reducible refine gate_builtin (b := .append) (xs := #[.tmp 43, .tmp 45]) rfl ?_); at_builtin; refine Kd.R_append k25 (w0 := w) w.heap.size rfl (.tmp 43) (.tmp 45) 22 25 (.agg #[(.string ⟨#[]⟩), (.int .i64 0), (.int .i64 0)]) 32 rfl Try.underlying22 info25 rfl (by decide) (by omega) u5 x5_1 (⟨a1_0, a1_1, a1_2⟩ : S25) [.string a1_0, .int .i64 a1_1, .int .i64 a1_2] (fun k_ => some k_ ≠ (.slice Ao50 t340.length co50 : Value).ownBlock ∧ k_ ≠ gb339) (fun _ => False) rfl rfl ?aP (fun _ hk => hk.elim) ?aF ?aO ?aB ?aS ?aL ?_; (case aP => exact k25_mkM _ _ _ (⟨a1_0, a1_1, a1_2⟩ : S25)); (case aB => exact (by repeat (first | (with_reducible first | exact HB.out | apply below_alloc | apply pw_below_drewN | apply below_drew1 | refine below_set ?_ GE339.out) | exact HB.out))); (case aF => exact (fun k_ hk => ⟨Kd.fresh' (Kd.R_lt (by (with_reducible repeat (first | apply Kd.R_alloc | apply Kd.R_drewN | apply Kd.R_drew)); exact HO_6.out)) k_ hk, Kd.freshB (g := gb339) (o := .cells #[.string a1_0, .int .i64 a1_1, .int .i64 a1_2] 25 (0, 0)) (by (with_reducible repeat (first | refine blk_drewN ?_ _ | refine blk_drew ?_ | refine blk_alloc ?_ _)); exact BK339.out) k_ hk⟩)); (case aO => exact (by (with_reducible repeat (first | apply Kd.R_alloc | apply Kd.R_drewN | apply Kd.R_drew)); exact HO_5.out)); (case aS => exact (below_size (by repeat (first | (with_reducible first | exact HB.out | apply below_alloc | apply pw_below_drewN | apply below_drew1 | refine below_set ?_ GE339.out) | exact HB.out)))); (case aL => have := LMc41.out; omega); intro v365 w52 ho hb hg hat; rw [← Ny364.out] at ho; have n0_ := Aside0.mk (Kd.R_after (ok := (fun k_ => k_ ≠ gb339)) (by (with_reducible repeat (first | apply Kd.R_alloc | apply Kd.R_drewN | apply Kd.R_drew)); exact Kd.R_mono HO_6.out (fun _ hk => ⟨hk.2, hk.1⟩)) hg hat); have n1_ := Aside0.mk (blk_grown (g := gb339) (o := .cells #[.string a1_0, .int .i64 a1_1, .int .i64 a1_2] 25 (0, 0)) (by (with_reducible repeat (first | refine blk_drewN ?_ _ | refine blk_drew ?_ | refine blk_alloc ?_ _)); exact BK339.out) hg (Kd.R_away HO_5.out (fun _ hk => hk.2))); have n2_ := Aside0.mk (hb); have n3_ := Aside0.mk (ho); clear HO_6; clear BK339; clear HB; clear HO_5; have HO_6 := n0_; have BK339 := n1_; have HB := n2_; have HO366 := n3_; clear n0_ n1_ n2_ n3_; clear ho hb hg hat; obtain ⟨Ao53, co53, eo53⟩ := Kd.R_slice HO366.out; subst eo53) | ((with_reducible refine gate_callee (f := 12) rfl ?_); refine goesL_ (some 48) rfl rfl Try.func12 (by kernel_rfl) rfl #[.slice Ao53 y364.length co53] rfl (by (try simp only [List.map_toArray, List.map_cons, List.map_nil]); first | done | rfl | (simp only [List.length_drop, List.length_take]; rfl)) ?_; (with_reducible refine (almanacref19_Fit.calls k1 _ _ y364 false _ ?side1 ?side2 A42.out).mono ?_); (case side1 => repeat (first | exact (Kd.R_reads' HO366.out).2.2 | (with_reducible refine Kd.C_alloc ?_ _) | (with_reducible refine Kd.C_drewN ?_ _) | (with_reducible refine Kd.C_drew ?_))); (case side2 => exact (Kd.R_reads' HO366.out).2.1); rintro e w54 ⟨rfl, hb⟩; refine ⟨_, rfl, ?_⟩; have n0_ := Aside0.mk (Kd.R_below (by (with_reducible repeat (first | apply Kd.R_alloc | apply Kd.R_drewN | apply Kd.R_drew)); exact HO_6.out) hb); have n1_ := Aside0.mk (Kd.R_below (by (with_reducible repeat (first | apply Kd.R_alloc | apply Kd.R_drewN | apply Kd.R_drew)); exact HO366.out) hb); have n2_ := Aside0.mk (blk_below (g := gb339) (o := .cells #[.string a1_0, .int .i64 a1_1, .int .i64 a1_2] 25 (0, 0)) (by (with_reducible repeat (first | refine blk_drewN ?_ _ | refine blk_drew ?_ | refine blk_alloc ?_ _)); exact BK339.out) hb); have n3_ := Aside0.mk (below_step (by repeat (first | (with_reducible first | exact HB.out | apply below_alloc | apply pw_below_drewN | apply below_drew1 | refine below_set ?_ GE339.out) | exact HB.out)) hb); clear HO_6; clear HO366; clear BK339; clear HB; have HO_6 := n0_; have HO366 := n1_; have BK339 := n2_; have HB := n3_; clear n0_ n1_ n2_ n3_; (try clear hb); (try clear hb2); (try clear hk); (try clear hi)) | ((with_reducible refine gate_builtin (b := .append) (xs := #[.tmp 50, .tmp 51]) rfl ?_); at_builtin; refine Kd.R_append_rows k25 (w0 := w) w.heap.size rfl (.tmp 50) (.tmp 51) 22 25 (.agg #[(.string ⟨#[]⟩), (.int .i64 0), (.int .i64 0)]) 32 rfl Try.underlying22 info25 rfl (by decide) (by omega) (.slice none 0 0) ([] : List (S25)) l0 _ _ _ (fun k_ => some k_ ≠ (.slice Ao50 t340.length co50 : Value).ownBlock ∧ some k_ ≠ (.slice Ao53 y364.length co53 : Value).ownBlock ∧ k_ ≠ gb339) (fun _ => False) rfl rfl ?aO ?aR (fun _ _ h => h) (fun _ h => h.elim) ?aF ?aB ?aS ?aL ?_; (case aR => repeat (first | exact (Kd.C_below HR0.out HB.out) | (with_reducible refine Kd.C_alloc ?_ _) | (with_reducible refine Kd.C_drewN ?_ _) | (with_reducible refine Kd.C_drew ?_))); (case aB => exact (by repeat (first | (with_reducible first | exact HB.out | apply below_alloc | apply pw_below_drewN | apply below_drew1 | refine below_set ?_ GE339.out) | exact HB.out))); (case aF => exact (fun k_ hk => ⟨Kd.fresh' (Kd.R_lt (by (with_reducible repeat (first | apply Kd.R_alloc | apply Kd.R_drewN | apply Kd.R_drew)); exact HO_6.out)) k_ hk, Kd.fresh' (Kd.R_lt (by (with_reducible repeat (first | apply Kd.R_alloc | apply Kd.R_drewN | apply Kd.R_drew)); exact HO366.out)) k_ hk, Kd.freshB (g := gb339) (o := .cells #[.string a1_0, .int .i64 a1_1, .int .i64 a1_2] 25 (0, 0)) (by (with_reducible repeat (first | refine blk_drewN ?_ _ | refine blk_drew ?_ | refine blk_alloc ?_ _)); exact BK339.out) k_ hk⟩)); (case aO => exact ((Kd.R_nil _ _ _ _ (fun k_ => some k_ ≠ (.slice Ao50 t340.length co50 : Value).ownBlock ∧ some k_ ≠ (.slice Ao53 y364.length co53 : Value).ownBlock ∧ k_ ≠ gb339)))); (case aS => exact (below_size (by repeat (first | (with_reducible first | exact HB.out | apply below_alloc | apply pw_below_drewN | apply below_drew1 | refine below_set ?_ GE339.out) | exact HB.out)))); (case aL => have := LMc49.out; omega); intro v369 w55 ho hb hg hat; rw [← Ny368.out] at ho; have n0_ := Aside0.mk (Kd.R_after (Kd.R_apart_nil (by (with_reducible repeat (first | apply Kd.R_alloc | apply Kd.R_drewN | apply Kd.R_drew)); exact HO_6.out)) hg hat); have n1_ := Aside0.mk (blk_grown (g := gb339) (o := .cells #[.string a1_0, .int .i64 a1_1, .int .i64 a1_2] 25 (0, 0)) (by (with_reducible repeat (first | refine blk_drewN ?_ _ | refine blk_drew ?_ | refine blk_alloc ?_ _)); exact BK339.out) hg (by simp [Value.ownBlock])); have n2_ := Aside0.mk (Kd.R_after (Kd.R_apart_nil (by (with_reducible repeat (first | apply Kd.R_alloc | apply Kd.R_drewN | apply Kd.R_drew)); exact HO366.out)) hg hat); have n3_ := Aside0.mk (hb); have n4_ := Aside0.mk (ho); clear HO_6; clear BK339; clear HO366; clear HB; have HO_6 := n0_; have BK339 := n1_; have HO366 := n2_; have HB := n3_; have HO370 := n4_; clear n0_ n1_ n2_ n3_ n4_; clear ho hb hg hat))
                go_ret
                exact ⟨_, by first | rfl | (simp [errW_none, errW_some] <;> rfl) | (simp [*, errW_none, errW_some] <;> rfl), by (with_reducible repeat (first | apply Kd.R_alloc | apply Kd.R_drewN | apply Kd.R_drew)); exact Kd.R_mono HO370.out (fun _ hk => trivial), by repeat (first | (with_reducible first | exact HB.out | apply below_alloc | apply pw_below_drewN | apply below_drew1 | refine below_set ?_ GE339.out) | exact HB.out)⟩
              · rw [if_neg c49] at H
                exact absurd H (by simp)
          · rw [if_neg c41] at H
            exact absurd H (by simp)

end Go.Proofs.Ythcoiabgemclbaa.PD
-- written by a program of this work (mk.sh, over the kit's print; stubs are proved by hand)
namespace Go.Proofs.Ythcoiabgemclbaa.PD
open Go.RowKit Go.Proofs.YthcoiabgemclbaaW.PrintWords Go.Proofs.YthcoiabgemclbaaW.PrintLast Go.Proofs.YthcoiabgemclbaaW.PrintMore
attribute [local go_sem] isSome_setCell max2_int min2_int max_two min_two max_three min_three max_four min_four   -- for this text's walks alone
set_option linter.unusedVariables false
set_option linter.unusedSimpArgs false

/-! ### almanacref19_Over: function 18 -/
mutual
def almanacref19_Over.l0 : Nat → List (S25) → Int → Int → List ByteArray → Int → Option (List ByteArray)
  | 0, _, _, _, _, _ => none
  | k + 1, x0, x1, x2, x7, x8 => if x8 < (x0.length : Int) then (if 0 ≤ x8 then (if ((rd_T25 x0 x8).f1) ≥ x2 then (almanacref19_Over.j1 k x0 x1 x2 x7 x8 true) else (almanacref19_Over.j1 k x0 x1 x2 x7 x8 (decide (((rd_T25 x0 x8).f2) < x1)))) else (none)) else (some x7)
def almanacref19_Over.j1 : Nat → List (S25) → Int → Int → List ByteArray → Int → Bool → Option (List ByteArray)
  | 0, _, _, _, _, _, _ => none
  | k + 1, x0, x1, x2, x7, x8, x31 => if x31 = true then (almanacref19_Over.l0 k x0 x1 x2 x7 (wrap64 (x8 + 1))) else (if 0 ≤ x8 then (if x8 < (x0.length : Int) then (if x7.length < 8796093022208 then ((some (x7 ++ [(rd_T25 x0 x8).f0] : List ByteArray)).bind fun y374 => (almanacref19_Over.l1 k x0 x1 x2 y374 x8 (wrap64 ((y374.length : Int) - 1)))) else (none)) else (none)) else (none))
def almanacref19_Over.l1 : Nat → List (S25) → Int → Int → List ByteArray → Int → Int → Option (List ByteArray)
  | 0, _, _, _, _, _, _ => none
  | k + 1, x0, x1, x2, x7, x8, x9 => if x9 > 0 then (if 0 ≤ x9 then (if x9 < (x7.length : Int) then (if 0 ≤ (wrap64 (x9 - 1)) then (if (wrap64 (x9 - 1)) < (x7.length : Int) then (if (Op.bytesLess ((rdOf ByteArray.empty x7 x9).toList) ((rdOf ByteArray.empty x7 (wrap64 (x9 - 1))).toList)) = true then (almanacref19_Over.l1 k x0 x1 x2 ((x7.set (x9 : Int).toNat (rdOf ByteArray.empty x7 (wrap64 (x9 - 1)))).set ((wrap64 (x9 - 1)) : Int).toNat (rdOf ByteArray.empty x7 x9)) x8 (wrap64 (x9 - 1))) else (almanacref19_Over.l0 k x0 x1 x2 x7 (wrap64 (x8 + 1)))) else (none)) else (none)) else (none)) else (none)) else (almanacref19_Over.l0 k x0 x1 x2 x7 (wrap64 (x8 + 1)))
end
def almanacref19_Over.f (k : Nat) (l0 : List (S25)) (a1 : Int) (a2 : Int) : Option (List ByteArray) := almanacref19_Over.l0 k l0 a1 a2 ([] : List ByteArray) 0
theorem almanacref19_Over.mono_l : ∀ k, (∀ y0 y1 y2 y3 y4, LeO (almanacref19_Over.l0 k y0 y1 y2 y3 y4) (almanacref19_Over.l0 (k + 1) y0 y1 y2 y3 y4)) ∧ (∀ y0 y1 y2 y3 y4 y5, LeO (almanacref19_Over.j1 k y0 y1 y2 y3 y4 y5) (almanacref19_Over.j1 (k + 1) y0 y1 y2 y3 y4 y5)) ∧ (∀ y0 y1 y2 y3 y4 y5, LeO (almanacref19_Over.l1 k y0 y1 y2 y3 y4 y5) (almanacref19_Over.l1 (k + 1) y0 y1 y2 y3 y4 y5))
  | 0 => ⟨fun _ _ _ _ _ r h => by simp [almanacref19_Over.l0] at h, fun _ _ _ _ _ _ r h => by simp [almanacref19_Over.j1] at h, fun _ _ _ _ _ _ r h => by simp [almanacref19_Over.l1] at h⟩
  | k + 1 => by
    obtain ⟨ih0, ih1, ih2⟩ := almanacref19_Over.mono_l k
    refine ⟨?_, ?_, ?_⟩
    · intro y0 y1 y2 y3 y4
      unfold almanacref19_Over.l0
      repeat' first
      | (with_reducible exact ih0 _ _ _ _ _)
      | (with_reducible exact ih1 _ _ _ _ _ _)
      | (with_reducible exact ih2 _ _ _ _ _ _)
      | (with_reducible exact LeO.refl _)
      | (with_reducible exact LeO.none _)
      | (with_reducible refine LeO.ite ?_ ?_)
      | (with_reducible refine LeO.bind ?_ (fun _ => ?_))
      | exact ih0 _ _ _ _ _
      | exact ih1 _ _ _ _ _ _
      | exact ih2 _ _ _ _ _ _
      | exact LeO.none _
      | refine LeO.ite ?_ ?_
      | refine LeO.bind ?_ (fun _ => ?_)
    · intro y0 y1 y2 y3 y4 y5
      unfold almanacref19_Over.j1
      repeat' first
      | (with_reducible exact ih0 _ _ _ _ _)
      | (with_reducible exact ih1 _ _ _ _ _ _)
      | (with_reducible exact ih2 _ _ _ _ _ _)
      | (with_reducible exact LeO.refl _)
      | (with_reducible exact LeO.none _)
      | (with_reducible refine LeO.ite ?_ ?_)
      | (with_reducible refine LeO.bind ?_ (fun _ => ?_))
      | exact ih0 _ _ _ _ _
      | exact ih1 _ _ _ _ _ _
      | exact ih2 _ _ _ _ _ _
      | exact LeO.none _
      | refine LeO.ite ?_ ?_
      | refine LeO.bind ?_ (fun _ => ?_)
    · intro y0 y1 y2 y3 y4 y5
      unfold almanacref19_Over.l1
      repeat' first
      | (with_reducible exact ih0 _ _ _ _ _)
      | (with_reducible exact ih1 _ _ _ _ _ _)
      | (with_reducible exact ih2 _ _ _ _ _ _)
      | (with_reducible exact LeO.refl _)
      | (with_reducible exact LeO.none _)
      | (with_reducible refine LeO.ite ?_ ?_)
      | (with_reducible refine LeO.bind ?_ (fun _ => ?_))
      | exact ih0 _ _ _ _ _
      | exact ih1 _ _ _ _ _ _
      | exact ih2 _ _ _ _ _ _
      | exact LeO.none _
      | refine LeO.ite ?_ ?_
      | refine LeO.bind ?_ (fun _ => ?_)
theorem almanacref19_Over.mono : ∀ a0 a1 a2 k, LeO (almanacref19_Over.f k a0 a1 a2) (almanacref19_Over.f (k + 1) a0 a1 a2) := by
  intro a0 a1 a2 k
  obtain ⟨ih0, ih1, ih2⟩ := almanacref19_Over.mono_l k
  unfold almanacref19_Over.f
  repeat' first
      | (with_reducible exact ih0 _ _ _ _ _)
      | (with_reducible exact ih1 _ _ _ _ _ _)
      | (with_reducible exact ih2 _ _ _ _ _ _)
      | (with_reducible exact LeO.refl _)
      | (with_reducible exact LeO.none _)
      | (with_reducible refine LeO.ite ?_ ?_)
      | (with_reducible refine LeO.bind ?_ (fun _ => ?_))
      | exact ih0 _ _ _ _ _
      | exact ih1 _ _ _ _ _ _
      | exact ih2 _ _ _ _ _ _
      | exact LeO.none _
      | refine LeO.ite ?_ ?_
      | refine LeO.bind ?_ (fun _ => ?_)
def almanacref19_Over.T8 : Bool × List (List Nat × List Nat) := (true, [([], []), ([0], [0]), ([1], [1]), ([2], [2]), ([2], [2]), ([3, 4, 2], [2, 3, 4]), ([5, 2], [2, 5]), ([2], [2]), ([2], [2]), ([8, 2], [2, 8]), ([7, 9, 2], [2, 7, 9]), ([10, 2], [2, 10]), ([6, 11, 2], [2, 6, 11]), ([2, 12], [2, 12])])
def almanacref19_Over.B8 : List Nat := [0, 1, 3, 7, 7, 31, 63, 7, 7, 263, 903, 1927, 4095, 8191]
theorem almanacref19_Over.tab8 : rtab .any (opsOf Try.f18 8) = almanacref19_Over.T8 := by kernel_rfl
theorem almanacref19_Over.bits8 : waitsOk almanacref19_Over.T8.2 almanacref19_Over.B8 = true := by kernel_rfl
def almanacref19_Over.T10 : Bool × List (List Nat × List Nat) := (true, [([], []), ([], []), ([], []), ([], []), ([3], [3]), ([], []), ([], []), ([6], [6]), ([5, 7], [5, 7]), ([8], [8]), ([], []), ([], []), ([10, 11], [10, 11]), ([12], [12]), ([0, 1, 0, 1, 5, 6, 7, 8, 9, 13], [0, 1]), ([14, 9, 0, 1, 5, 6, 7, 8, 9, 13], [9, 14]), ([2, 4, 0, 1, 2, 3, 4, 5, 6, 7, 8, 9, 10, 11, 12, 13, 14, 15], [2, 4]), ([16, 13, 15, 0, 1, 2, 3, 4, 5, 6, 7, 8, 9, 10, 11, 12, 13, 14, 15], [13, 16])])
def almanacref19_Over.B10 : List Nat := [0, 0, 0, 0, 8, 0, 0, 64, 224, 480, 0, 0, 3072, 7168, 16355, 32739, 65535, 131071]
theorem almanacref19_Over.tab10 : rtab .any (opsOf Try.f18 10) = almanacref19_Over.T10 := by kernel_rfl
theorem almanacref19_Over.bits10 : waitsOk almanacref19_Over.T10.2 almanacref19_Over.B10 = true := by kernel_rfl
set_option maxHeartbeats 8000000 in
set_option maxRecDepth 100000 in
theorem almanacref19_Over.calls (k : Nat) (A0 : Option Addr) (c0 : Nat) (l0 : List (S25)) (a1 : Int) (a2 : Int) (r : List ByteArray) (w : World) (hr0 : Kd.C k25 w A0 l0.length l0) (hc0 : l0.length ≤ c0) (h : almanacref19_Over.f k l0 a1 a2 = some r) :
    Calls Try.prog 18 #[.slice A0 l0.length c0, .int .i64 a1, .int .i64 a2] w fun e w' => ∃ v0_ : Value, e = .returned (v0_) ∧ Kd.R Kd.string 9 w' w.heap.size (fun _ => True) v0_ r ∧ Below w.heap.size w w' := by
  have HR0 := Aside0.mk hr0
  have HC0 := Aside0.mk hc0
  clear hr0 hc0
  have HB := Aside0.mk (Below.refl w.heap.size w)
  have H : (almanacref19_Over.l0 k l0 a1 a2 ([] : List ByteArray) 0) = some r := h
  clear h
  have H' := Aside0.mk H
  clear H
  go_enter Try.func18, Try.ntmps18
  go_wp2
  go_loopg [7, 8] k (fun kq v7 v8 w' => ∃ (x7_1 : List ByteArray) (x8_1 : Int), v8 = .int .i64 x8_1 ∧ Aside0 (almanacref19_Over.l0 kq l0 a1 a2 x7_1 x8_1 = some r) ∧ Aside0 (kq ≤ k) ∧ Aside0 (Kd.R Kd.string 9 w' w.heap.size (fun _ => True) v7 x7_1) ∧ Aside0 (Below w.heap.size w w'))
  case atStart => exact ⟨(([] : List ByteArray)), (0), (by first | rfl | (simp; done) | (simp [*]; done)), H', ⟨Nat.le_refl _⟩, ⟨by first | exact Kd.R_nil _ _ _ _ _ | exact Kd.N_nil _ _ _ _ _ | exact Kd.V_nil _ _ _ _ _ | exact Kd.Q_nil _ _ _ _ _ | exact Kd.S_nil _ _ _ _ _⟩, ⟨by repeat (first | (with_reducible first | exact HB.out | apply below_alloc | apply pw_below_drewN | apply below_drew1) | exact HB.out)⟩⟩
  case round =>
    clear H'
    try clear c1
    try clear p2
    obtain ⟨x7_1, x8_1, rfl, HA, HK1, HO_7, HB⟩ := hrel
    cases gk with
    | zero => exact absurd HA.out (by simp [almanacref19_Over.l0])
    | succ k1 =>
      have H := HA.out
      clear HA
      simp only [almanacref19_Over.l0] at H
      by_cases c4 : x8_1 < (l0.length : Int)
      · rw [if_pos c4] at H
        have c4b0 : decide (x8_1 < (l0.length : Int)) = true := decide_eq_true c4
        clear c4
        have HC5 := Aside0.mk H
        clear H
        go_upto_region 5 with (fail)
        go_cut [31] (fun v31 wc => ∃ (kq : Nat) (x31_4 : Bool), v31 = .bool x31_4 ∧ Aside0 (almanacref19_Over.j1 kq l0 a1 a2 x7_1 x8_1 x31_4 = some r) ∧ Aside0 (kq ≤ k1) ∧ Aside0 (Kd.R Kd.string 9 wc w.heap.size (fun _ => True) u7 x7_1) ∧ Aside0 (Below w.heap.size w wc))
        case first =>
          have H := HC5.out
          clear HC5
          by_cases c6 : 0 ≤ x8_1
          · rw [if_pos c6] at H
            have c6b0 : decide (0 ≤ x8_1) = true := decide_eq_true c6
            clear c6
            (first | rw [c6b0] | (simp only [i64_w, i32_w]; rw [c6b0]) | skip)
            by_cases c7 : ((rd_T25 l0 x8_1).f1) ≥ a2
            · rw [if_pos c7] at H
              have c7b0 : decide (a2 ≤ ((rd_T25 l0 x8_1).f1)) = true := decide_eq_true c7
              clear c7
              have H' := Aside0.mk H
              clear H
              have p371 : 0 ≤ (x8_1 : Int) := of_decide_eq_true (by first | (with_reducible assumption) | assumption)
              have q371 : x8_1 < (l0.length : Int) := of_decide_eq_true (by first | (with_reducible assumption) | assumption)
              obtain ⟨ad371, e371, hx371_0, hx371_1, hx371_2⟩ := at_T25 HR0.out x8_1 p371 q371
              cases e371
              replace hx371_0 := (HB.out.cell (World.block_lt_of_cell? w _ hx371_0)).trans hx371_0
              replace hx371_1 := (HB.out.cell (World.block_lt_of_cell? w _ hx371_1)).trans hx371_1
              replace hx371_2 := (HB.out.cell (World.block_lt_of_cell? w _ hx371_2)).trans hx371_2
              replace p371 := eq_true p371
              replace q371 := eq_true q371
              go_wp2
              go_meet
              case rel => exact ⟨_, (true), (by first | rfl | (simp; done) | (simp [*]; done)), H', ⟨by have := HK1.out; first | omega | exact Nat.le_refl _⟩, ⟨by (with_reducible repeat (first | apply Kd.R_alloc | apply Kd.R_drewN | apply Kd.R_drew)); exact HO_7.out⟩, ⟨by repeat (first | (with_reducible first | exact HB.out | apply below_alloc | apply pw_below_drewN | apply below_drew1) | exact HB.out)⟩⟩
            · rw [if_neg c7] at H
              have c7b0 : decide (a2 ≤ ((rd_T25 l0 x8_1).f1)) = false := decide_eq_false c7
              clear c7
              have H' := Aside0.mk H
              clear H
              have p371 : 0 ≤ (x8_1 : Int) := of_decide_eq_true (by first | (with_reducible assumption) | assumption)
              have q371 : x8_1 < (l0.length : Int) := of_decide_eq_true (by first | (with_reducible assumption) | assumption)
              obtain ⟨ad371, e371, hx371_0, hx371_1, hx371_2⟩ := at_T25 HR0.out x8_1 p371 q371
              cases e371
              replace hx371_0 := (HB.out.cell (World.block_lt_of_cell? w _ hx371_0)).trans hx371_0
              replace hx371_1 := (HB.out.cell (World.block_lt_of_cell? w _ hx371_1)).trans hx371_1
              replace hx371_2 := (HB.out.cell (World.block_lt_of_cell? w _ hx371_2)).trans hx371_2
              replace p371 := eq_true p371
              replace q371 := eq_true q371
              have p372 : 0 ≤ (x8_1 : Int) := of_decide_eq_true (by first | (with_reducible assumption) | assumption)
              have q372 : x8_1 < (l0.length : Int) := of_decide_eq_true (by first | (with_reducible assumption) | assumption)
              obtain ⟨ad372, e372, hx372_0, hx372_1, hx372_2⟩ := at_T25 HR0.out x8_1 p372 q372
              obtain rfl : ad371 = ad372 := (by injection e372)
              replace hx372_0 := (HB.out.cell (World.block_lt_of_cell? w _ hx372_0)).trans hx372_0
              replace hx372_1 := (HB.out.cell (World.block_lt_of_cell? w _ hx372_1)).trans hx372_1
              replace hx372_2 := (HB.out.cell (World.block_lt_of_cell? w _ hx372_2)).trans hx372_2
              replace p372 := eq_true p372
              replace q372 := eq_true q372
              go_wp2
              go_meet
              case rel => exact ⟨_, (decide (((rd_T25 l0 x8_1).f2) < a1)), (by first | rfl | (simp; done) | (simp [*]; done)), H', ⟨by have := HK1.out; first | omega | exact Nat.le_refl _⟩, ⟨by (with_reducible repeat (first | apply Kd.R_alloc | apply Kd.R_drewN | apply Kd.R_drew)); exact HO_7.out⟩, ⟨by repeat (first | (with_reducible first | exact HB.out | apply below_alloc | apply pw_below_drewN | apply below_drew1) | exact HB.out)⟩⟩
          · rw [if_neg c6] at H
            exact absurd H (by simp)
        case rest =>
          clear HC5
          try clear c1
          try clear p2
          try clear p3
          try clear q3
          try clear hx3
          try clear c4
          try clear c4b0
          try clear c6
          try clear c6b0
          try clear c7
          try clear c7b0
          try clear hx371_0
          try clear hx371_1
          try clear hx371_2
          try clear hx372_0
          try clear hx372_1
          try clear hx372_2
          try clear p2
          try clear p371
          try clear p372
          try clear q371
          try clear q372
          obtain ⟨kq, x31_4, rfl, HA, HJ4, HO_7, HB⟩ := hcut
          cases kq with
          | zero => exact absurd HA.out (by simp [almanacref19_Over.j1])
          | succ kj4 =>
            have H := HA.out
            clear HA
            simp only [almanacref19_Over.j1] at H
            by_cases c8 : x31_4 = true
            · subst c8
              have H1 : (almanacref19_Over.l0 kj4 l0 a1 a2 x7_1 (wrap64 (x8_1 + 1))) = some r := by rw [if_pos rfl] at H; exact H
              clear H
              have H := H1
              clear H1
              have H' := Aside0.mk H
              clear H
              go_wp2
              go_roundg kj4
              case measure => have := HK1.out; have := HJ4.out; omega
              case rel => exact ⟨(x7_1), (wrap64 (x8_1 + 1)), (by first | rfl | (simp; done) | (simp [*]; done)), H', ⟨by have := HK1.out; have := HJ4.out; omega⟩, ⟨by (with_reducible repeat (first | apply Kd.R_alloc | apply Kd.R_drewN | apply Kd.R_drew)); exact HO_7.out⟩, ⟨by repeat (first | (with_reducible first | exact HB.out | apply below_alloc | apply pw_below_drewN | apply below_drew1) | exact HB.out)⟩⟩
            · replace c8 := Bool.eq_false_iff.mpr c8
              subst c8
              have H1 : (if 0 ≤ x8_1 then (if x8_1 < (l0.length : Int) then (if x7_1.length < 8796093022208 then ((some (x7_1 ++ [(rd_T25 l0 x8_1).f0] : List ByteArray)).bind fun y374 => (almanacref19_Over.l1 kj4 l0 a1 a2 y374 x8_1 (wrap64 ((y374.length : Int) - 1)))) else (none)) else (none)) else (none)) = some r := by rw [if_neg (show ¬ (false = true) by decide)] at H; exact H
              clear H
              have H := H1
              clear H1
              by_cases c9 : 0 ≤ x8_1
              · rw [if_pos c9] at H
                have c9b0 : decide (0 ≤ x8_1) = true := decide_eq_true c9
                clear c9
                by_cases c10 : x8_1 < (l0.length : Int)
                · rw [if_pos c10] at H
                  have c10b0 : decide (x8_1 < (l0.length : Int)) = true := decide_eq_true c10
                  clear c10
                  by_cases c11 : x7_1.length < 8796093022208
                  · rw [if_pos c11] at H
                    have LMc11 := Aside0.mk c11
                    clear c11
                    obtain ⟨y374, hy374⟩ : ∃ y_ : List ByteArray, y_ = (x7_1 ++ [(rd_T25 l0 x8_1).f0]) := ⟨_, rfl⟩
                    replace H : (almanacref19_Over.l1 kj4 l0 a1 a2 y374 x8_1 (wrap64 ((y374.length : Int) - 1))) = some r := by first | (rw [hy374]; with_reducible exact H) | (have H2_ := (Option.bind_some _ _).symm.trans H; rw [hy374]; with_reducible exact H2_) | (have H2_ := (Option.bind_some _ _).symm.trans H; with_reducible exact H2_) | with_reducible exact H | (rw [hy374]; exact H) | exact H
                    have Ny374 := Aside0.mk hy374
                    clear hy374
                    have H' := Aside0.mk H
                    clear H
                    have p373 : 0 ≤ (x8_1 : Int) := of_decide_eq_true (by first | (with_reducible assumption) | assumption)
                    have q373 : x8_1 < (l0.length : Int) := of_decide_eq_true (by first | (with_reducible assumption) | assumption)
                    obtain ⟨ad373, e373, hx373_0, hx373_1, hx373_2⟩ := at_T25 HR0.out x8_1 p373 q373
                    cases e373
                    replace hx373_0 := (HB.out.cell (World.block_lt_of_cell? w _ hx373_0)).trans hx373_0
                    replace hx373_1 := (HB.out.cell (World.block_lt_of_cell? w _ hx373_1)).trans hx373_1
                    replace hx373_2 := (HB.out.cell (World.block_lt_of_cell? w _ hx373_2)).trans hx373_2
                    replace p373 := eq_true p373
                    replace q373 := eq_true q373
                    go_wp2_with (first | ((with_reducible refine gate_builtin (b := .append) (xs := #[.tmp 32, .tmp 38]) rfl ?_); at_builtin; refine Kd.R_append Kd.string (w0 := w) w.heap.size rfl (.tmp 32) (.tmp 38) 30 9 (.string ⟨#[]⟩) 16 rfl Try.underlying30 info9 rfl (by decide) (by omega) u7 x7_1 ((rd_T25 l0 x8_1).f0) [.string ((rd_T25 l0 x8_1).f0)] (fun _ => True) (fun _ => False) rfl rfl ?aP (fun _ hk => hk.elim) ?aF ?aO ?aB ?aS ?aL ?_; (case aP => exact rfl); (case aB => exact (by repeat (first | (with_reducible first | exact HB.out | apply below_alloc | apply pw_below_drewN | apply below_drew1) | exact HB.out))); (case aF => exact (fun _ _ => trivial)); (case aO => exact (by (with_reducible repeat (first | apply Kd.R_alloc | apply Kd.R_drewN | apply Kd.R_drew)); exact HO_7.out)); (case aS => exact (below_size (by repeat (first | (with_reducible first | exact HB.out | apply below_alloc | apply pw_below_drewN | apply below_drew1) | exact HB.out)))); (case aL => have := LMc11.out; omega); intro v375 w12 ho hb hg hat; rw [← Ny374.out] at ho; have n0_ := Aside0.mk (hb); have n1_ := Aside0.mk (ho); clear HB; clear HO_7; have HB := n0_; have HO376 := n1_; clear n0_ n1_; clear ho hb hg hat; obtain ⟨Ao13, co13, eo13⟩ := Kd.R_slice HO376.out; subst eo13))
                    go_loopg [9] kj4 (fun kq v9 w' => ∃ (x7_3 : List ByteArray) (x9_3 : Int), v9 = .int .i64 x9_3 ∧ Aside0 (almanacref19_Over.l1 kq l0 a1 a2 x7_3 x8_1 x9_3 = some r) ∧ Aside0 (kq ≤ kj4) ∧ Aside0 (Kd.R Kd.string 9 w' w.heap.size (fun _ => True) (.slice Ao13 y374.length co13) x7_3) ∧ Aside0 (Below w.heap.size w w'))
                    case atStart => exact ⟨(y374), (wrap64 ((y374.length : Int) - 1)), (by first | rfl | (simp; done) | (simp [*]; done)), H', ⟨Nat.le_refl _⟩, ⟨by (with_reducible repeat (first | apply Kd.R_alloc | apply Kd.R_drewN | apply Kd.R_drew)); exact HO376.out⟩, ⟨by repeat (first | (with_reducible first | exact HB.out | apply below_alloc | apply pw_below_drewN | apply below_drew1) | exact HB.out)⟩⟩
                    case round =>
                      clear H'
                      try clear c1
                      try clear p2
                      try clear p3
                      try clear q3
                      try clear hx3
                      try clear c4
                      try clear c4b0
                      try clear c6
                      try clear c6b0
                      try clear p6
                      try clear c7
                      try clear c7b0
                      try clear c8
                      try clear c9
                      try clear c9b0
                      try clear c10
                      try clear c10b0
                      try clear c11
                      try clear hx371_0
                      try clear hx371_1
                      try clear hx371_2
                      try clear hx372_0
                      try clear hx372_1
                      try clear hx372_2
                      try clear hx373_0
                      try clear hx373_1
                      try clear hx373_2
                      try clear p2
                      try clear p3
                      try clear p371
                      try clear p372
                      try clear p373
                      try clear q3
                      try clear q371
                      try clear q372
                      try clear q373
                      obtain ⟨x7_3, x9_3, rfl, HA, HK3, HO_7, HB⟩ := hrel
                      have hl7_3 := (Kd.R_reads' HO_7.out).1
                      rw [hl7_3] at HO_7
                      (try simp only [hl7_3])
                      cases gk with
                      | zero => exact absurd HA.out (by simp [almanacref19_Over.l1])
                      | succ k3 =>
                        have H := HA.out
                        clear HA
                        simp only [almanacref19_Over.l1] at H
                        by_cases c14 : x9_3 > 0
                        · rw [if_pos c14] at H
                          have c14b0 : decide (0 < x9_3) = true := decide_eq_true c14
                          clear c14
                          by_cases c15 : 0 ≤ x9_3
                          · rw [if_pos c15] at H
                            have c15b0 : decide (0 ≤ x9_3) = true := decide_eq_true c15
                            clear c15
                            by_cases c16 : x9_3 < (x7_3.length : Int)
                            · rw [if_pos c16] at H
                              have c16b0 : decide (x9_3 < (x7_3.length : Int)) = true := decide_eq_true c16
                              clear c16
                              obtain ⟨ji17, hji17⟩ : ∃ j_ : Int, (wrap64 (x9_3 - 1)) = j_ := ⟨_, rfl⟩
                              replace H : (if 0 ≤ (ji17) then (if (ji17) < (x7_3.length : Int) then (if (Op.bytesLess ((rdOf ByteArray.empty x7_3 x9_3).toList) ((rdOf ByteArray.empty x7_3 (ji17)).toList)) = true then (almanacref19_Over.l1 k3 l0 a1 a2 ((x7_3.set (x9_3 : Int).toNat (rdOf ByteArray.empty x7_3 (ji17))).set ((ji17) : Int).toNat (rdOf ByteArray.empty x7_3 x9_3)) x8_1 ji17) else (almanacref19_Over.l0 k3 l0 a1 a2 x7_3 (wrap64 (x8_1 + 1)))) else (none)) else (none)) = some r := by first | (rw [hji17] at H; exact H) | (simp only [hji17] at H ⊢; exact H)
                              have hji17w : (IntKind.i64.wrap (x9_3 - 1)) = ji17 := (i64_w _).trans hji17
                              by_cases c18 : 0 ≤ (ji17)
                              · rw [if_pos c18] at H
                                have c18b0 : decide (0 ≤ (ji17)) = true := decide_eq_true c18
                                clear c18
                                by_cases c19 : (ji17) < (x7_3.length : Int)
                                · rw [if_pos c19] at H
                                  have c19b0 : decide ((ji17) < (x7_3.length : Int)) = true := decide_eq_true c19
                                  clear c19
                                  by_cases c20 : (Op.bytesLess ((rdOf ByteArray.empty x7_3 x9_3).toList) ((rdOf ByteArray.empty x7_3 (ji17)).toList)) = true
                                  · rw [if_pos c20] at H
                                    have c20b0 : (Op.bytesLess ((rdOf ByteArray.empty x7_3 x9_3).toList) ((rdOf ByteArray.empty x7_3 (ji17)).toList)) = true := c20
                                    clear c20
                                    obtain ⟨y381, hy381⟩ : ∃ y_ : List ByteArray, y_ = (x7_3.set (x9_3 : Int).toNat (rdOf ByteArray.empty x7_3 (ji17))) := ⟨_, rfl⟩
                                    replace H : (almanacref19_Over.l1 k3 l0 a1 a2 (y381.set ((ji17) : Int).toNat (rdOf ByteArray.empty x7_3 x9_3)) x8_1 ji17) = some r := by first | (rw [hy381]; with_reducible exact H) | (have H2_ := (Option.bind_some _ _).symm.trans H; rw [hy381]; with_reducible exact H2_) | (have H2_ := (Option.bind_some _ _).symm.trans H; with_reducible exact H2_) | with_reducible exact H | (rw [hy381]; exact H) | exact H
                                    have Ny381 := Aside0.mk hy381
                                    clear hy381
                                    obtain ⟨y382, hy382⟩ : ∃ y_ : List ByteArray, y_ = (y381.set ((ji17) : Int).toNat (rdOf ByteArray.empty x7_3 x9_3)) := ⟨_, rfl⟩
                                    replace H : (almanacref19_Over.l1 k3 l0 a1 a2 y382 x8_1 ji17) = some r := by first | (rw [hy382]; with_reducible exact H) | (have H2_ := (Option.bind_some _ _).symm.trans H; rw [hy382]; with_reducible exact H2_) | (have H2_ := (Option.bind_some _ _).symm.trans H; with_reducible exact H2_) | with_reducible exact H | (rw [hy382]; exact H) | exact H
                                    have Ny382 := Aside0.mk hy382
                                    clear hy382
                                    have H' := Aside0.mk H
                                    clear H
                                    try go_wp2
                                    have n0_ := Aside0.mk (Kd.R_drew HO_7.out)
                                    have n1_ := Aside0.mk (below_drew1 HB.out)
                                    clear HO_7
                                    clear HB
                                    have HO_7 := n0_
                                    have HB := n1_
                                    clear n0_ n1_
                                    have p377 : 0 ≤ (x9_3 : Int) := of_decide_eq_true (by first | (with_reducible assumption) | assumption)
                                    have q377 : x9_3 < (x7_3.length : Int) := of_decide_eq_true (by first | (with_reducible assumption) | assumption)
                                    obtain ⟨ad377, e377, hx377_0⟩ := Kd.at_string (Kd.R_reads' HO_7.out).2.2 x9_3 p377 q377
                                    cases e377
                                    replace p377 := eq_true p377
                                    replace q377 := eq_true q377
                                    have p378 : 0 ≤ ((ji17) : Int) := of_decide_eq_true (by first | (with_reducible assumption) | assumption)
                                    have q378 : (ji17) < (x7_3.length : Int) := of_decide_eq_true (by first | (with_reducible assumption) | assumption)
                                    obtain ⟨ad378, e378, hx378_0⟩ := Kd.at_string (Kd.R_reads' HO_7.out).2.2 (ji17) p378 q378
                                    obtain rfl : ad377 = ad378 := (by injection e378)
                                    replace p378 := eq_true p378
                                    replace q378 := eq_true q378
                                    refine start_ (n := 14) (S := fun w' => w'.cell? (ad377.add (x9_3).toNat) = some (.string (rdOf ByteArray.empty x7_3 x9_3)) ∧ w'.cell? (ad377.add ((ji17)).toNat) = some (.string (rdOf ByteArray.empty x7_3 (ji17)))) (ds := []) #[false, false, false, false, false, false, false, false, false, false, false, false, false, false] (by kernel_rfl) rfl rfl ⟨hx377_0, hx378_0⟩ (fun hHeld => ?_); refine with_tabW almanacref19_Over.tab8 almanacref19_Over.bits8 (fun HT_ HW_ => ?_)
                                    generalize wr.drew = w23 at HO_7 HB hx377_0 hx378_0 hHeld ⊢
                                    refine pure_ (i := 0) (N := some 43) (v := ?_) (a' := ?_) #[true, false, false, false, false, false, false, false, false, false, false, false, false, false] rfl rfl (any_of HT_.out (by kernel_rfl)) (fun _ _ _ h => h) (Or.inl ⟨by rfl, ?_⟩) ?_ ?_
                                    rotate_left
                                    · intro w'
                                      go_simp
                                      with_reducible rfl
                                    rotate_left
                                    · simp only [Act.put, List.setIfInBounds_toArray, List.set_cons_zero, List.set_cons_succ, i64_w, i32_w]
                                      rfl
                                    refine pure_ (i := 1) (N := some 44) (v := ?_) (a' := ?_) #[true, true, false, false, false, false, false, false, false, false, false, false, false, false] rfl rfl (any_of HT_.out (by kernel_rfl)) (fun _ _ _ h => h) (Or.inl ⟨by rfl, ?_⟩) ?_ ?_
                                    rotate_left
                                    · intro w'
                                      go_simp
                                      with_reducible rfl
                                    rotate_left
                                    · simp only [Act.put, List.setIfInBounds_toArray, List.set_cons_zero, List.set_cons_succ, i64_w, i32_w]
                                      rfl
                                    refine pure_ (i := 2) (N := some 45) (v := ?_) (a' := ?_) #[true, true, true, false, false, false, false, false, false, false, false, false, false, false] rfl rfl (any_of HT_.out (by kernel_rfl)) (fun _ _ _ h => h) (Or.inl ⟨by rfl, ?_⟩) ?_ ?_
                                    rotate_left
                                    · intro w'
                                      go_simp
                                      with_reducible rfl
                                    rotate_left
                                    · simp only [Act.put, List.setIfInBounds_toArray, List.set_cons_zero, List.set_cons_succ, i64_w, i32_w]
                                      rfl
                                    refine pure_ (i := 3) (N := some 46) (v := ?_) (a' := ?_) #[true, true, true, true, false, false, false, false, false, false, false, false, false, false] rfl rfl (any_of HT_.out (by kernel_rfl)) (fun _ _ _ h => h) (Or.inl ⟨by rfl, ?_⟩) ?_ ?_
                                    rotate_left
                                    · intro w'
                                      go_simp
                                      with_reducible rfl
                                    rotate_left
                                    · simp only [Act.put, List.setIfInBounds_toArray, List.set_cons_zero, List.set_cons_succ, i64_w, i32_w]
                                      rfl
                                    refine pure_ (i := 4) (N := some 47) (v := ?_) (a' := ?_) #[true, true, true, true, true, false, false, false, false, false, false, false, false, false] rfl rfl (any_of HT_.out (by kernel_rfl)) (fun _ _ _ h => h) (Or.inl ⟨by rfl, ?_⟩) ?_ ?_
                                    rotate_left
                                    · intro w'
                                      go_simp
                                      with_reducible rfl
                                    rotate_left
                                    · simp only [Act.put, List.setIfInBounds_toArray, List.set_cons_zero, List.set_cons_succ, i64_w, i32_w]
                                      rfl
                                    refine pure_ (i := 5) (N := some 48) (v := ?_) (a' := ?_) #[true, true, true, true, true, true, false, false, false, false, false, false, false, false] rfl rfl (any_of HT_.out (by kernel_rfl)) (fun _ _ _ h => h) (Or.inl ⟨by rfl, ?_⟩) ?_ ?_
                                    rotate_left
                                    · intro w'
                                      go_simp
                                      with_reducible rfl
                                    rotate_left
                                    · simp only [Act.put, List.setIfInBounds_toArray, List.set_cons_zero, List.set_cons_succ, i64_w, i32_w]
                                      rfl
                                    refine pure_ (i := 7) (N := some 50) (v := ?_) (a' := ?_) #[true, true, true, true, true, true, false, true, false, false, false, false, false, false] rfl rfl (any_of HT_.out (by kernel_rfl)) (fun _ _ _ h => h) (Or.inl ⟨by rfl, ?_⟩) ?_ ?_
                                    rotate_left
                                    · intro w'
                                      go_simp
                                      with_reducible rfl
                                    rotate_left
                                    · simp only [Act.put, List.setIfInBounds_toArray, List.set_cons_zero, List.set_cons_succ, i64_w, i32_w]
                                      rfl
                                    refine pure_ (i := 8) (N := some 51) (v := ?_) (a' := ?_) #[true, true, true, true, true, true, false, true, true, false, false, false, false, false] rfl rfl (any_of HT_.out (by kernel_rfl)) (fun _ _ _ h => h) (Or.inl ⟨by rfl, ?_⟩) ?_ ?_
                                    rotate_left
                                    · intro w'
                                      go_simp
                                      with_reducible rfl
                                    rotate_left
                                    · simp only [Act.put, List.setIfInBounds_toArray, List.set_cons_zero, List.set_cons_succ, i64_w, i32_w]
                                      rfl
                                    refine pure_ (i := 9) (N := some 52) (v := ?_) (a' := ?_) #[true, true, true, true, true, true, false, true, true, true, false, false, false, false] rfl rfl (any_of HT_.out (by kernel_rfl)) (fun _ _ _ h => h) (Or.inl ⟨by rfl, ?_⟩) ?_ ?_
                                    rotate_left
                                    · intro w'
                                      go_simp
                                      with_reducible rfl
                                    rotate_left
                                    · simp only [Act.put, List.setIfInBounds_toArray, List.set_cons_zero, List.set_cons_succ, i64_w, i32_w]
                                      rfl
                                    refine pure_ (i := 10) (N := some 53) (v := ?_) (a' := ?_) #[true, true, true, true, true, true, false, true, true, true, true, false, false, false] rfl rfl (any_of HT_.out (by kernel_rfl)) (fun _ _ _ h => h) (Or.inl ⟨by rfl, ?_⟩) ?_ ?_
                                    rotate_left
                                    · intro w'
                                      go_simp
                                      with_reducible rfl
                                    rotate_left
                                    · simp only [Act.put, List.setIfInBounds_toArray, List.set_cons_zero, List.set_cons_succ, i64_w, i32_w]
                                      rfl
                                    refine take_ (i := 6) (N := some 49) (v := ?_) (a' := ?_) #[true, true, true, true, true, true, true, true, true, true, true, false, false, false] rfl rfl (take_ofW HT_.out HW_.out (by kernel_rfl)) (fun _ _ _ h => h) (Or.inl ⟨by rfl, ?_⟩) hHeld ?_ ?_
                                    rotate_left
                                    · rintro w' ⟨s0, s1⟩
                                      go_simp
                                      with_reducible rfl
                                    rotate_left
                                    · simp only [Act.put, List.setIfInBounds_toArray, List.set_cons_zero, List.set_cons_succ, i64_w, i32_w]
                                      rfl
                                    refine take_ (i := 11) (N := some 54) (v := ?_) (a' := ?_) #[true, true, true, true, true, true, true, true, true, true, true, true, false, false] rfl rfl (take_ofW HT_.out HW_.out (by kernel_rfl)) (fun _ _ _ h => h) (Or.inl ⟨by rfl, ?_⟩) hHeld ?_ ?_
                                    rotate_left
                                    · rintro w' ⟨s0, s1⟩
                                      go_simp
                                      with_reducible rfl
                                    rotate_left
                                    · simp only [Act.put, List.setIfInBounds_toArray, List.set_cons_zero, List.set_cons_succ, i64_w, i32_w]
                                      rfl
                                    refine pure_ (i := 12) (N := some 55) (v := ?_) (a' := ?_) #[true, true, true, true, true, true, true, true, true, true, true, true, true, false] rfl rfl (any_of HT_.out (by kernel_rfl)) (fun _ _ _ h => h) (Or.inl ⟨by rfl, ?_⟩) ?_ ?_
                                    rotate_left
                                    · intro w'
                                      go_simp
                                      with_reducible rfl
                                    rotate_left
                                    · simp only [Act.put, List.setIfInBounds_toArray, List.set_cons_zero, List.set_cons_succ, i64_w, i32_w]
                                      rfl
                                    refine pure_ (i := 13) (N := some 56) (v := ?_) (a' := ?_) #[true, true, true, true, true, true, true, true, true, true, true, true, true, true] rfl rfl (any_of HT_.out (by kernel_rfl)) (fun _ _ _ h => h) (Or.inl ⟨by rfl, ?_⟩) ?_ ?_
                                    rotate_left
                                    · intro w'
                                      go_simp
                                      with_reducible rfl
                                    rotate_left
                                    · simp only [Act.put, List.setIfInBounds_toArray, List.set_cons_zero, List.set_cons_succ, i64_w, i32_w]
                                      rfl
                                    refine done_ (done_of HT_.out (by kernel_rfl)) ?_
                                    try go_wp2
                                    have n0_ := Aside0.mk (Kd.R_drew HO_7.out)
                                    have n1_ := Aside0.mk (below_drew1 HB.out)
                                    clear HO_7
                                    clear HB
                                    have HO_7 := n0_
                                    have HB := n1_
                                    clear n0_ n1_
                                    have p379 : 0 ≤ ((ji17) : Int) := of_decide_eq_true (by first | (with_reducible assumption) | assumption)
                                    have q379 : (ji17) < (x7_3.length : Int) := of_decide_eq_true (by first | (with_reducible assumption) | assumption)
                                    obtain ⟨ad379, e379, hx379_0⟩ := Kd.at_string (Kd.R_reads' HO_7.out).2.2 (ji17) p379 q379
                                    obtain rfl : ad377 = ad379 := (by injection e379)
                                    replace p379 := eq_true p379
                                    replace q379 := eq_true q379
                                    have p380 : 0 ≤ (x9_3 : Int) := of_decide_eq_true (by first | (with_reducible assumption) | assumption)
                                    have q380 : x9_3 < (x7_3.length : Int) := of_decide_eq_true (by first | (with_reducible assumption) | assumption)
                                    obtain ⟨ad380, e380, hx380_0⟩ := Kd.at_string (Kd.R_reads' HO_7.out).2.2 x9_3 p380 q380
                                    obtain rfl : ad377 = ad380 := (by injection e380)
                                    replace p380 := eq_true p380
                                    replace q380 := eq_true q380
                                    have p21 : 0 ≤ (x9_3 : Int) := of_decide_eq_true (by first | (with_reducible assumption) | assumption)
                                    have q21 : (x9_3 : Int) < ((x7_3.length : Int) : Int) := of_decide_eq_true (by first | (with_reducible assumption) | assumption)
                                    obtain ⟨go21, co21, eo21, gb21, gl21, cl21, HG21⟩ := Kd.R_form HO_7.out (by omega)
                                    (first | cases eo21 | (injection eo21 with ea_ en_ ec_; (first | subst ea_ | (injection ea_ with ea_; subst ea_)); subst ec_; clear en_))
                                    have GB21 := Aside0.mk gb21
                                    have GG21 := Aside0.mk HG21
                                    clear gb21 gl21 HG21
                                    (first | simp only [add_plain] at hx377_0 | skip)
                                    (first | simp only [add_plain] at hx378_0 | skip)
                                    (first | simp only [add_plain] at hx379_0 | skip)
                                    (first | simp only [add_plain] at hx380_0 | skip)
                                    obtain ⟨hx21_0, hf21_0⟩ := Kd.R_celln (⟨#[]⟩ : ByteArray) HO_7.out (x9_3 : Int) p21 q21
                                    replace p21 := eq_true p21
                                    replace q21 := eq_true q21
                                    have HP25 := Kd.R_putn HO_7.out (x9_3 : Int) (rdOf ByteArray.empty x7_3 (ji17))
                                    rw [← Ny381.out] at HP25
                                    have HQ25 := Aside0.mk HP25
                                    clear HP25
                                    have p22 : 0 ≤ ((ji17) : Int) := of_decide_eq_true (by first | (with_reducible assumption) | assumption)
                                    have q22 : ((ji17) : Int) < ((x7_3.length : Int) : Int) := of_decide_eq_true (by first | (with_reducible assumption) | assumption)
                                    obtain ⟨hx22_0, hf22_0⟩ := Kd.R_celln (⟨#[]⟩ : ByteArray) HQ25.out ((ji17) : Int) p22 q22
                                    replace p22 := eq_true p22
                                    replace q22 := eq_true q22
                                    have HP26 := Kd.R_putn HQ25.out ((ji17) : Int) (rdOf ByteArray.empty x7_3 x9_3)
                                    rw [← Ny382.out] at HP26
                                    have HQ26 := Aside0.mk HP26
                                    clear HP26
                                    refine start_ (n := 18) (S := fun w' => w'.cell? ⟨go21, ((ji17)).toNat, none⟩ = some (.string (rdOf ByteArray.empty x7_3 (ji17))) ∧ w'.cell? ⟨go21, (x9_3).toNat, none⟩ = some (.string (rdOf ByteArray.empty x7_3 x9_3))) (ds := [15, 17]) #[false, false, false, false, false, false, false, false, false, false, false, false, false, false, false, false, false, false] (by kernel_rfl) rfl rfl ⟨hx379_0, hx380_0⟩ (fun hHeld => ?_); refine with_tabW almanacref19_Over.tab10 almanacref19_Over.bits10 (fun HT_ HW_ => ?_)
                                    generalize w23.drew = w24 at HO_7 HB GG21 HQ25 HQ26 hf21_0 hf22_0 hx21_0 hx22_0 hx377_0 hx378_0 hx379_0 hx380_0 hHeld ⊢
                                    refine pure_ (i := 0) (N := some 59) (v := ?_) (a' := ?_) #[true, false, false, false, false, false, false, false, false, false, false, false, false, false, false, false, false, false] rfl rfl (any_of HT_.out (by kernel_rfl)) (fun _ _ _ h => h) (Or.inl ⟨by rfl, ?_⟩) ?_ ?_
                                    rotate_left
                                    · intro w'
                                      go_simp
                                      with_reducible rfl
                                    rotate_left
                                    · simp only [Act.put, List.setIfInBounds_toArray, List.set_cons_zero, List.set_cons_succ, i64_w, i32_w]
                                      rfl
                                    refine pure_ (i := 1) (N := some 60) (v := ?_) (a' := ?_) #[true, true, false, false, false, false, false, false, false, false, false, false, false, false, false, false, false, false] rfl rfl (any_of HT_.out (by kernel_rfl)) (fun _ _ _ h => h) (Or.inl ⟨by rfl, ?_⟩) ?_ ?_
                                    rotate_left
                                    · intro w'
                                      go_simp
                                      with_reducible rfl
                                    rotate_left
                                    · simp only [Act.put, List.setIfInBounds_toArray, List.set_cons_zero, List.set_cons_succ, i64_w, i32_w]
                                      rfl
                                    refine pure_ (i := 2) (N := some 61) (v := ?_) (a' := ?_) #[true, true, true, false, false, false, false, false, false, false, false, false, false, false, false, false, false, false] rfl rfl (any_of HT_.out (by kernel_rfl)) (fun _ _ _ h => h) (Or.inl ⟨by rfl, ?_⟩) ?_ ?_
                                    rotate_left
                                    · intro w'
                                      go_simp
                                      with_reducible rfl
                                    rotate_left
                                    · simp only [Act.put, List.setIfInBounds_toArray, List.set_cons_zero, List.set_cons_succ, i64_w, i32_w]
                                      rfl
                                    refine pure_ (i := 3) (N := some 62) (v := ?_) (a' := ?_) #[true, true, true, true, false, false, false, false, false, false, false, false, false, false, false, false, false, false] rfl rfl (any_of HT_.out (by kernel_rfl)) (fun _ _ _ h => h) (Or.inl ⟨by rfl, ?_⟩) ?_ ?_
                                    rotate_left
                                    · intro w'
                                      go_simp
                                      with_reducible rfl
                                    rotate_left
                                    · simp only [Act.put, List.setIfInBounds_toArray, List.set_cons_zero, List.set_cons_succ, i64_w, i32_w]
                                      rfl
                                    refine pure_ (i := 4) (N := some 63) (v := ?_) (a' := ?_) #[true, true, true, true, true, false, false, false, false, false, false, false, false, false, false, false, false, false] rfl rfl (any_of HT_.out (by kernel_rfl)) (fun _ _ _ h => h) (Or.inl ⟨by rfl, ?_⟩) ?_ ?_
                                    rotate_left
                                    · intro w'
                                      go_simp
                                      with_reducible rfl
                                    rotate_left
                                    · simp only [Act.put, List.setIfInBounds_toArray, List.set_cons_zero, List.set_cons_succ, i64_w, i32_w]
                                      rfl
                                    refine pure_ (i := 5) (N := some 64) (v := ?_) (a' := ?_) #[true, true, true, true, true, true, false, false, false, false, false, false, false, false, false, false, false, false] rfl rfl (any_of HT_.out (by kernel_rfl)) (fun _ _ _ h => h) (Or.inl ⟨by rfl, ?_⟩) ?_ ?_
                                    rotate_left
                                    · intro w'
                                      go_simp
                                      with_reducible rfl
                                    rotate_left
                                    · simp only [Act.put, List.setIfInBounds_toArray, List.set_cons_zero, List.set_cons_succ, i64_w, i32_w]
                                      rfl
                                    refine pure_ (i := 6) (N := some 65) (v := ?_) (a' := ?_) #[true, true, true, true, true, true, true, false, false, false, false, false, false, false, false, false, false, false] rfl rfl (any_of HT_.out (by kernel_rfl)) (fun _ _ _ h => h) (Or.inl ⟨by rfl, ?_⟩) ?_ ?_
                                    rotate_left
                                    · intro w'
                                      go_simp
                                      with_reducible rfl
                                    rotate_left
                                    · simp only [Act.put, List.setIfInBounds_toArray, List.set_cons_zero, List.set_cons_succ, i64_w, i32_w]
                                      rfl
                                    refine pure_ (i := 7) (N := some 66) (v := ?_) (a' := ?_) #[true, true, true, true, true, true, true, true, false, false, false, false, false, false, false, false, false, false] rfl rfl (any_of HT_.out (by kernel_rfl)) (fun _ _ _ h => h) (Or.inl ⟨by rfl, ?_⟩) ?_ ?_
                                    rotate_left
                                    · intro w'
                                      go_simp
                                      with_reducible rfl
                                    rotate_left
                                    · simp only [Act.put, List.setIfInBounds_toArray, List.set_cons_zero, List.set_cons_succ, i64_w, i32_w]
                                      rfl
                                    refine pure_ (i := 8) (N := some 67) (v := ?_) (a' := ?_) #[true, true, true, true, true, true, true, true, true, false, false, false, false, false, false, false, false, false] rfl rfl (any_of HT_.out (by kernel_rfl)) (fun _ _ _ h => h) (Or.inl ⟨by rfl, ?_⟩) ?_ ?_
                                    rotate_left
                                    · intro w'
                                      go_simp
                                      with_reducible rfl
                                    rotate_left
                                    · simp only [Act.put, List.setIfInBounds_toArray, List.set_cons_zero, List.set_cons_succ, i64_w, i32_w]
                                      rfl
                                    refine pure_ (i := 10) (N := some 69) (v := ?_) (a' := ?_) #[true, true, true, true, true, true, true, true, true, false, true, false, false, false, false, false, false, false] rfl rfl (any_of HT_.out (by kernel_rfl)) (fun _ _ _ h => h) (Or.inl ⟨by rfl, ?_⟩) ?_ ?_
                                    rotate_left
                                    · intro w'
                                      go_simp
                                      with_reducible rfl
                                    rotate_left
                                    · simp only [Act.put, List.setIfInBounds_toArray, List.set_cons_zero, List.set_cons_succ, i64_w, i32_w]
                                      rfl
                                    refine pure_ (i := 11) (N := some 70) (v := ?_) (a' := ?_) #[true, true, true, true, true, true, true, true, true, false, true, true, false, false, false, false, false, false] rfl rfl (any_of HT_.out (by kernel_rfl)) (fun _ _ _ h => h) (Or.inl ⟨by rfl, ?_⟩) ?_ ?_
                                    rotate_left
                                    · intro w'
                                      go_simp
                                      with_reducible rfl
                                    rotate_left
                                    · simp only [Act.put, List.setIfInBounds_toArray, List.set_cons_zero, List.set_cons_succ, i64_w, i32_w]
                                      rfl
                                    refine pure_ (i := 12) (N := some 71) (v := ?_) (a' := ?_) #[true, true, true, true, true, true, true, true, true, false, true, true, true, false, false, false, false, false] rfl rfl (any_of HT_.out (by kernel_rfl)) (fun _ _ _ h => h) (Or.inl ⟨by rfl, ?_⟩) ?_ ?_
                                    rotate_left
                                    · intro w'
                                      go_simp
                                      with_reducible rfl
                                    rotate_left
                                    · simp only [Act.put, List.setIfInBounds_toArray, List.set_cons_zero, List.set_cons_succ, i64_w, i32_w]
                                      rfl
                                    refine take_ (i := 9) (N := some 68) (v := ?_) (a' := ?_) #[true, true, true, true, true, true, true, true, true, true, true, true, true, false, false, false, false, false] rfl rfl (take_ofW HT_.out HW_.out (by kernel_rfl)) (fun _ _ _ h => h) (Or.inl ⟨by rfl, ?_⟩) hHeld ?_ ?_
                                    rotate_left
                                    · rintro w' ⟨s0, s1⟩
                                      go_simp
                                      with_reducible rfl
                                    rotate_left
                                    · simp only [Act.put, List.setIfInBounds_toArray, List.set_cons_zero, List.set_cons_succ, i64_w, i32_w]
                                      rfl
                                    refine take_ (i := 13) (N := some 72) (v := ?_) (a' := ?_) #[true, true, true, true, true, true, true, true, true, true, true, true, true, true, false, false, false, false] rfl rfl (take_ofW HT_.out HW_.out (by kernel_rfl)) (fun _ _ _ h => h) (Or.inl ⟨by rfl, ?_⟩) hHeld ?_ ?_
                                    rotate_left
                                    · rintro w' ⟨s0, s1⟩
                                      go_simp
                                      with_reducible rfl
                                    rotate_left
                                    · simp only [Act.put, List.setIfInBounds_toArray, List.set_cons_zero, List.set_cons_succ, i64_w, i32_w]
                                      rfl
                                    refine pure_ (i := 14) (N := some 73) (v := ?_) (a' := ?_) #[true, true, true, true, true, true, true, true, true, true, true, true, true, true, true, false, false, false] rfl rfl (any_of HT_.out (by kernel_rfl)) (fun _ _ _ h => h) (Or.inl ⟨by rfl, ?_⟩) ?_ ?_
                                    rotate_left
                                    · intro w'
                                      go_simp
                                      with_reducible rfl
                                    rotate_left
                                    · simp only [Act.put, List.setIfInBounds_toArray, List.set_cons_zero, List.set_cons_succ, i64_w, i32_w]
                                      rfl
                                    refine last_ (i := 15) (N := none) #[true, true, true, true, true, true, true, true, true, true, true, true, true, true, true, true, false, false] rfl rfl (one_of HT_.out (by kernel_rfl)) (by decide) (fun K hK => ?_)
                                    refine skip_ (w1 := ?_) (by rfl) rfl ?_ ?_
                                    rotate_left
                                    · go_simp
                                      rfl
                                    refine hK.out _ _ ?_
                                    clear hK K
                                    refine pure_ (i := 16) (N := some 74) (v := ?_) (a' := ?_) #[true, true, true, true, true, true, true, true, true, true, true, true, true, true, true, true, true, false] rfl rfl (any_of HT_.out (by kernel_rfl)) (fun _ _ _ h => h) (Or.inl ⟨by rfl, ?_⟩) ?_ ?_
                                    rotate_left
                                    · intro w'
                                      go_simp
                                      with_reducible rfl
                                    rotate_left
                                    · simp only [Act.put, List.setIfInBounds_toArray, List.set_cons_zero, List.set_cons_succ, i64_w, i32_w]
                                      rfl
                                    refine last_ (i := 17) (N := none) #[true, true, true, true, true, true, true, true, true, true, true, true, true, true, true, true, true, true] rfl rfl (one_of HT_.out (by kernel_rfl)) (by decide) (fun K hK => ?_)
                                    refine skip_ (w1 := ?_) (by rfl) rfl ?_ ?_
                                    rotate_left
                                    · go_simp
                                      rfl
                                    refine hK.out _ _ ?_
                                    clear hK K
                                    refine done_ (done_of HT_.out (by kernel_rfl)) ?_
                                    try go_wp2
                                    (try simp only [← hl7_3])
                                    go_roundg k3
                                    case measure => have := HK1.out; have := HJ4.out; have := HK3.out; omega
                                    case rel => exact ⟨(y382), (ji17), (by first | rfl | (simp; done) | (simp only [← hji17] <;> (first | rfl | simp)) | (simp [*]; done)), H', ⟨by have := HK1.out; have := HJ4.out; have := HK3.out; omega⟩, ⟨by (try simp only [hl7_3]); (with_reducible repeat (first | apply Kd.R_alloc | apply Kd.R_drewN | apply Kd.R_drew)); exact HQ26.out⟩, ⟨by repeat (first | (with_reducible first | exact HB.out | apply below_alloc | apply pw_below_drewN | apply below_drew1 | refine below_set ?_ GB21.out | refine below_set ?_ GB21.out) | exact HB.out)⟩⟩
                                  · rw [if_neg c20] at H
                                    have c20b0 : (Op.bytesLess ((rdOf ByteArray.empty x7_3 x9_3).toList) ((rdOf ByteArray.empty x7_3 (ji17)).toList)) = false := by simpa using c20
                                    clear c20
                                    have H' := Aside0.mk H
                                    clear H
                                    try go_wp2
                                    have n0_ := Aside0.mk (Kd.R_drew HO_7.out)
                                    have n1_ := Aside0.mk (below_drew1 HB.out)
                                    clear HO_7
                                    clear HB
                                    have HO_7 := n0_
                                    have HB := n1_
                                    clear n0_ n1_
                                    have p377 : 0 ≤ (x9_3 : Int) := of_decide_eq_true (by first | (with_reducible assumption) | assumption)
                                    have q377 : x9_3 < (x7_3.length : Int) := of_decide_eq_true (by first | (with_reducible assumption) | assumption)
                                    obtain ⟨ad377, e377, hx377_0⟩ := Kd.at_string (Kd.R_reads' HO_7.out).2.2 x9_3 p377 q377
                                    cases e377
                                    replace p377 := eq_true p377
                                    replace q377 := eq_true q377
                                    have p378 : 0 ≤ ((ji17) : Int) := of_decide_eq_true (by first | (with_reducible assumption) | assumption)
                                    have q378 : (ji17) < (x7_3.length : Int) := of_decide_eq_true (by first | (with_reducible assumption) | assumption)
                                    obtain ⟨ad378, e378, hx378_0⟩ := Kd.at_string (Kd.R_reads' HO_7.out).2.2 (ji17) p378 q378
                                    obtain rfl : ad377 = ad378 := (by injection e378)
                                    replace p378 := eq_true p378
                                    replace q378 := eq_true q378
                                    refine start_ (n := 14) (S := fun w' => w'.cell? (ad377.add (x9_3).toNat) = some (.string (rdOf ByteArray.empty x7_3 x9_3)) ∧ w'.cell? (ad377.add ((ji17)).toNat) = some (.string (rdOf ByteArray.empty x7_3 (ji17)))) (ds := []) #[false, false, false, false, false, false, false, false, false, false, false, false, false, false] (by kernel_rfl) rfl rfl ⟨hx377_0, hx378_0⟩ (fun hHeld => ?_); refine with_tabW almanacref19_Over.tab8 almanacref19_Over.bits8 (fun HT_ HW_ => ?_)
                                    generalize wr.drew = w27 at HO_7 HB hx377_0 hx378_0 hHeld ⊢
                                    refine pure_ (i := 0) (N := some 43) (v := ?_) (a' := ?_) #[true, false, false, false, false, false, false, false, false, false, false, false, false, false] rfl rfl (any_of HT_.out (by kernel_rfl)) (fun _ _ _ h => h) (Or.inl ⟨by rfl, ?_⟩) ?_ ?_
                                    rotate_left
                                    · intro w'
                                      go_simp
                                      with_reducible rfl
                                    rotate_left
                                    · simp only [Act.put, List.setIfInBounds_toArray, List.set_cons_zero, List.set_cons_succ, i64_w, i32_w]
                                      rfl
                                    refine pure_ (i := 1) (N := some 44) (v := ?_) (a' := ?_) #[true, true, false, false, false, false, false, false, false, false, false, false, false, false] rfl rfl (any_of HT_.out (by kernel_rfl)) (fun _ _ _ h => h) (Or.inl ⟨by rfl, ?_⟩) ?_ ?_
                                    rotate_left
                                    · intro w'
                                      go_simp
                                      with_reducible rfl
                                    rotate_left
                                    · simp only [Act.put, List.setIfInBounds_toArray, List.set_cons_zero, List.set_cons_succ, i64_w, i32_w]
                                      rfl
                                    refine pure_ (i := 2) (N := some 45) (v := ?_) (a' := ?_) #[true, true, true, false, false, false, false, false, false, false, false, false, false, false] rfl rfl (any_of HT_.out (by kernel_rfl)) (fun _ _ _ h => h) (Or.inl ⟨by rfl, ?_⟩) ?_ ?_
                                    rotate_left
                                    · intro w'
                                      go_simp
                                      with_reducible rfl
                                    rotate_left
                                    · simp only [Act.put, List.setIfInBounds_toArray, List.set_cons_zero, List.set_cons_succ, i64_w, i32_w]
                                      rfl
                                    refine pure_ (i := 3) (N := some 46) (v := ?_) (a' := ?_) #[true, true, true, true, false, false, false, false, false, false, false, false, false, false] rfl rfl (any_of HT_.out (by kernel_rfl)) (fun _ _ _ h => h) (Or.inl ⟨by rfl, ?_⟩) ?_ ?_
                                    rotate_left
                                    · intro w'
                                      go_simp
                                      with_reducible rfl
                                    rotate_left
                                    · simp only [Act.put, List.setIfInBounds_toArray, List.set_cons_zero, List.set_cons_succ, i64_w, i32_w]
                                      rfl
                                    refine pure_ (i := 4) (N := some 47) (v := ?_) (a' := ?_) #[true, true, true, true, true, false, false, false, false, false, false, false, false, false] rfl rfl (any_of HT_.out (by kernel_rfl)) (fun _ _ _ h => h) (Or.inl ⟨by rfl, ?_⟩) ?_ ?_
                                    rotate_left
                                    · intro w'
                                      go_simp
                                      with_reducible rfl
                                    rotate_left
                                    · simp only [Act.put, List.setIfInBounds_toArray, List.set_cons_zero, List.set_cons_succ, i64_w, i32_w]
                                      rfl
                                    refine pure_ (i := 5) (N := some 48) (v := ?_) (a' := ?_) #[true, true, true, true, true, true, false, false, false, false, false, false, false, false] rfl rfl (any_of HT_.out (by kernel_rfl)) (fun _ _ _ h => h) (Or.inl ⟨by rfl, ?_⟩) ?_ ?_
                                    rotate_left
                                    · intro w'
                                      go_simp
                                      with_reducible rfl
                                    rotate_left
                                    · simp only [Act.put, List.setIfInBounds_toArray, List.set_cons_zero, List.set_cons_succ, i64_w, i32_w]
                                      rfl
                                    refine pure_ (i := 7) (N := some 50) (v := ?_) (a' := ?_) #[true, true, true, true, true, true, false, true, false, false, false, false, false, false] rfl rfl (any_of HT_.out (by kernel_rfl)) (fun _ _ _ h => h) (Or.inl ⟨by rfl, ?_⟩) ?_ ?_
                                    rotate_left
                                    · intro w'
                                      go_simp
                                      with_reducible rfl
                                    rotate_left
                                    · simp only [Act.put, List.setIfInBounds_toArray, List.set_cons_zero, List.set_cons_succ, i64_w, i32_w]
                                      rfl
                                    refine pure_ (i := 8) (N := some 51) (v := ?_) (a' := ?_) #[true, true, true, true, true, true, false, true, true, false, false, false, false, false] rfl rfl (any_of HT_.out (by kernel_rfl)) (fun _ _ _ h => h) (Or.inl ⟨by rfl, ?_⟩) ?_ ?_
                                    rotate_left
                                    · intro w'
                                      go_simp
                                      with_reducible rfl
                                    rotate_left
                                    · simp only [Act.put, List.setIfInBounds_toArray, List.set_cons_zero, List.set_cons_succ, i64_w, i32_w]
                                      rfl
                                    refine pure_ (i := 9) (N := some 52) (v := ?_) (a' := ?_) #[true, true, true, true, true, true, false, true, true, true, false, false, false, false] rfl rfl (any_of HT_.out (by kernel_rfl)) (fun _ _ _ h => h) (Or.inl ⟨by rfl, ?_⟩) ?_ ?_
                                    rotate_left
                                    · intro w'
                                      go_simp
                                      with_reducible rfl
                                    rotate_left
                                    · simp only [Act.put, List.setIfInBounds_toArray, List.set_cons_zero, List.set_cons_succ, i64_w, i32_w]
                                      rfl
                                    refine pure_ (i := 10) (N := some 53) (v := ?_) (a' := ?_) #[true, true, true, true, true, true, false, true, true, true, true, false, false, false] rfl rfl (any_of HT_.out (by kernel_rfl)) (fun _ _ _ h => h) (Or.inl ⟨by rfl, ?_⟩) ?_ ?_
                                    rotate_left
                                    · intro w'
                                      go_simp
                                      with_reducible rfl
                                    rotate_left
                                    · simp only [Act.put, List.setIfInBounds_toArray, List.set_cons_zero, List.set_cons_succ, i64_w, i32_w]
                                      rfl
                                    refine take_ (i := 6) (N := some 49) (v := ?_) (a' := ?_) #[true, true, true, true, true, true, true, true, true, true, true, false, false, false] rfl rfl (take_ofW HT_.out HW_.out (by kernel_rfl)) (fun _ _ _ h => h) (Or.inl ⟨by rfl, ?_⟩) hHeld ?_ ?_
                                    rotate_left
                                    · rintro w' ⟨s0, s1⟩
                                      go_simp
                                      with_reducible rfl
                                    rotate_left
                                    · simp only [Act.put, List.setIfInBounds_toArray, List.set_cons_zero, List.set_cons_succ, i64_w, i32_w]
                                      rfl
                                    refine take_ (i := 11) (N := some 54) (v := ?_) (a' := ?_) #[true, true, true, true, true, true, true, true, true, true, true, true, false, false] rfl rfl (take_ofW HT_.out HW_.out (by kernel_rfl)) (fun _ _ _ h => h) (Or.inl ⟨by rfl, ?_⟩) hHeld ?_ ?_
                                    rotate_left
                                    · rintro w' ⟨s0, s1⟩
                                      go_simp
                                      with_reducible rfl
                                    rotate_left
                                    · simp only [Act.put, List.setIfInBounds_toArray, List.set_cons_zero, List.set_cons_succ, i64_w, i32_w]
                                      rfl
                                    refine pure_ (i := 12) (N := some 55) (v := ?_) (a' := ?_) #[true, true, true, true, true, true, true, true, true, true, true, true, true, false] rfl rfl (any_of HT_.out (by kernel_rfl)) (fun _ _ _ h => h) (Or.inl ⟨by rfl, ?_⟩) ?_ ?_
                                    rotate_left
                                    · intro w'
                                      go_simp
                                      with_reducible rfl
                                    rotate_left
                                    · simp only [Act.put, List.setIfInBounds_toArray, List.set_cons_zero, List.set_cons_succ, i64_w, i32_w]
                                      rfl
                                    refine pure_ (i := 13) (N := some 56) (v := ?_) (a' := ?_) #[true, true, true, true, true, true, true, true, true, true, true, true, true, true] rfl rfl (any_of HT_.out (by kernel_rfl)) (fun _ _ _ h => h) (Or.inl ⟨by rfl, ?_⟩) ?_ ?_
                                    rotate_left
                                    · intro w'
                                      go_simp
                                      with_reducible rfl
                                    rotate_left
                                    · simp only [Act.put, List.setIfInBounds_toArray, List.set_cons_zero, List.set_cons_succ, i64_w, i32_w]
                                      rfl
                                    refine done_ (done_of HT_.out (by kernel_rfl)) ?_
                                    try go_wp2
                                    (try simp only [← hl7_3])
                                    go_roundg k3
                                    case measure => have := HK1.out; have := HJ4.out; have := HK3.out; omega
                                    case rel => exact ⟨(x7_3), (wrap64 (x8_1 + 1)), (by first | rfl | (simp; done) | (simp [*]; done)), H', ⟨by have := HK1.out; have := HJ4.out; have := HK3.out; omega⟩, ⟨by (try simp only [hl7_3]); (with_reducible repeat (first | apply Kd.R_alloc | apply Kd.R_drewN | apply Kd.R_drew)); exact HO_7.out⟩, ⟨by repeat (first | (with_reducible first | exact HB.out | apply below_alloc | apply pw_below_drewN | apply below_drew1) | exact HB.out)⟩⟩
                                · rw [if_neg c19] at H
                                  exact absurd H (by simp)
                              · rw [if_neg c18] at H
                                exact absurd H (by simp)
                            · rw [if_neg c16] at H
                              exact absurd H (by simp)
                          · rw [if_neg c15] at H
                            exact absurd H (by simp)
                        · rw [if_neg c14] at H
                          have c14b0 : decide (0 < x9_3) = false := decide_eq_false c14
                          clear c14
                          have H' := Aside0.mk H
                          clear H
                          try go_wp2
                          have n0_ := Aside0.mk (Kd.R_drew HO_7.out)
                          have n1_ := Aside0.mk (below_drew1 HB.out)
                          clear HO_7
                          clear HB
                          have HO_7 := n0_
                          have HB := n1_
                          clear n0_ n1_
                          refine start_ (n := 14) (S := fun w' => True) (ds := []) #[false, false, false, false, false, false, false, false, false, false, false, false, false, false] (by kernel_rfl) rfl rfl trivial (fun hHeld => ?_); refine with_tabW almanacref19_Over.tab8 almanacref19_Over.bits8 (fun HT_ HW_ => ?_)
                          generalize wr.drew = w28 at HO_7 HB hHeld ⊢
                          refine pure_ (i := 0) (N := some 43) (v := ?_) (a' := ?_) #[true, false, false, false, false, false, false, false, false, false, false, false, false, false] rfl rfl (any_of HT_.out (by kernel_rfl)) (fun _ _ _ h => h) (Or.inl ⟨by rfl, ?_⟩) ?_ ?_
                          rotate_left
                          · intro w'
                            go_simp
                            with_reducible rfl
                          rotate_left
                          · simp only [Act.put, List.setIfInBounds_toArray, List.set_cons_zero, List.set_cons_succ, i64_w, i32_w]
                            rfl
                          refine pure_ (i := 1) (N := some 44) (v := ?_) (a' := ?_) #[true, true, false, false, false, false, false, false, false, false, false, false, false, false] rfl rfl (any_of HT_.out (by kernel_rfl)) (fun _ _ _ h => h) (Or.inl ⟨by rfl, ?_⟩) ?_ ?_
                          rotate_left
                          · intro w'
                            go_simp
                            with_reducible rfl
                          rotate_left
                          · simp only [Act.put, List.setIfInBounds_toArray, List.set_cons_zero, List.set_cons_succ, i64_w, i32_w]
                            rfl
                          refine pure_ (i := 2) (N := some 45) (v := ?_) (a' := ?_) #[true, true, true, false, false, false, false, false, false, false, false, false, false, false] rfl rfl (any_of HT_.out (by kernel_rfl)) (fun _ _ _ h => h) (Or.inl ⟨by rfl, ?_⟩) ?_ ?_
                          rotate_left
                          · intro w'
                            go_simp
                            with_reducible rfl
                          rotate_left
                          · simp only [Act.put, List.setIfInBounds_toArray, List.set_cons_zero, List.set_cons_succ, i64_w, i32_w]
                            rfl
                          refine pure_ (i := 3) (N := some 46) (v := undef) (a' := ?_) #[true, true, true, true, false, false, false, false, false, false, false, false, false, false] rfl rfl (any_of HT_.out (by kernel_rfl)) (fun _ _ _ h => h) (Or.inr ⟨by rfl, rfl⟩) ?_ ?_
                          rotate_left
                          · simp only [Act.put, List.setIfInBounds_toArray, List.set_cons_zero, List.set_cons_succ, i64_w, i32_w]
                            rfl
                          refine pure_ (i := 4) (N := some 47) (v := undef) (a' := ?_) #[true, true, true, true, true, false, false, false, false, false, false, false, false, false] rfl rfl (any_of HT_.out (by kernel_rfl)) (fun _ _ _ h => h) (Or.inr ⟨by rfl, rfl⟩) ?_ ?_
                          rotate_left
                          · simp only [Act.put, List.setIfInBounds_toArray, List.set_cons_zero, List.set_cons_succ, i64_w, i32_w]
                            rfl
                          refine pure_ (i := 5) (N := some 48) (v := undef) (a' := ?_) #[true, true, true, true, true, true, false, false, false, false, false, false, false, false] rfl rfl (any_of HT_.out (by kernel_rfl)) (fun _ _ _ h => h) (Or.inr ⟨by rfl, rfl⟩) ?_ ?_
                          rotate_left
                          · simp only [Act.put, List.setIfInBounds_toArray, List.set_cons_zero, List.set_cons_succ, i64_w, i32_w]
                            rfl
                          refine pure_ (i := 6) (N := some 49) (v := undef) (a' := ?_) #[true, true, true, true, true, true, true, false, false, false, false, false, false, false] rfl rfl (any_of HT_.out (by kernel_rfl)) (fun _ _ _ h => h) (Or.inr ⟨by rfl, rfl⟩) ?_ ?_
                          rotate_left
                          · simp only [Act.put, List.setIfInBounds_toArray, List.set_cons_zero, List.set_cons_succ, i64_w, i32_w]
                            rfl
                          refine pure_ (i := 7) (N := some 50) (v := undef) (a' := ?_) #[true, true, true, true, true, true, true, true, false, false, false, false, false, false] rfl rfl (any_of HT_.out (by kernel_rfl)) (fun _ _ _ h => h) (Or.inr ⟨by rfl, rfl⟩) ?_ ?_
                          rotate_left
                          · simp only [Act.put, List.setIfInBounds_toArray, List.set_cons_zero, List.set_cons_succ, i64_w, i32_w]
                            rfl
                          refine pure_ (i := 8) (N := some 51) (v := undef) (a' := ?_) #[true, true, true, true, true, true, true, true, true, false, false, false, false, false] rfl rfl (any_of HT_.out (by kernel_rfl)) (fun _ _ _ h => h) (Or.inr ⟨by rfl, rfl⟩) ?_ ?_
                          rotate_left
                          · simp only [Act.put, List.setIfInBounds_toArray, List.set_cons_zero, List.set_cons_succ, i64_w, i32_w]
                            rfl
                          refine pure_ (i := 9) (N := some 52) (v := undef) (a' := ?_) #[true, true, true, true, true, true, true, true, true, true, false, false, false, false] rfl rfl (any_of HT_.out (by kernel_rfl)) (fun _ _ _ h => h) (Or.inr ⟨by rfl, rfl⟩) ?_ ?_
                          rotate_left
                          · simp only [Act.put, List.setIfInBounds_toArray, List.set_cons_zero, List.set_cons_succ, i64_w, i32_w]
                            rfl
                          refine pure_ (i := 10) (N := some 53) (v := undef) (a' := ?_) #[true, true, true, true, true, true, true, true, true, true, true, false, false, false] rfl rfl (any_of HT_.out (by kernel_rfl)) (fun _ _ _ h => h) (Or.inr ⟨by rfl, rfl⟩) ?_ ?_
                          rotate_left
                          · simp only [Act.put, List.setIfInBounds_toArray, List.set_cons_zero, List.set_cons_succ, i64_w, i32_w]
                            rfl
                          refine pure_ (i := 11) (N := some 54) (v := undef) (a' := ?_) #[true, true, true, true, true, true, true, true, true, true, true, true, false, false] rfl rfl (any_of HT_.out (by kernel_rfl)) (fun _ _ _ h => h) (Or.inr ⟨by rfl, rfl⟩) ?_ ?_
                          rotate_left
                          · simp only [Act.put, List.setIfInBounds_toArray, List.set_cons_zero, List.set_cons_succ, i64_w, i32_w]
                            rfl
                          refine pure_ (i := 12) (N := some 55) (v := undef) (a' := ?_) #[true, true, true, true, true, true, true, true, true, true, true, true, true, false] rfl rfl (any_of HT_.out (by kernel_rfl)) (fun _ _ _ h => h) (Or.inr ⟨by rfl, rfl⟩) ?_ ?_
                          rotate_left
                          · simp only [Act.put, List.setIfInBounds_toArray, List.set_cons_zero, List.set_cons_succ, i64_w, i32_w]
                            rfl
                          refine pure_ (i := 13) (N := some 56) (v := ?_) (a' := ?_) #[true, true, true, true, true, true, true, true, true, true, true, true, true, true] rfl rfl (any_of HT_.out (by kernel_rfl)) (fun _ _ _ h => h) (Or.inl ⟨by rfl, ?_⟩) ?_ ?_
                          rotate_left
                          · intro w'
                            go_simp
                            with_reducible rfl
                          rotate_left
                          · simp only [Act.put, List.setIfInBounds_toArray, List.set_cons_zero, List.set_cons_succ, i64_w, i32_w]
                            rfl
                          refine done_ (done_of HT_.out (by kernel_rfl)) ?_
                          try go_wp2
                          (try simp only [← hl7_3])
                          go_roundg k3
                          case measure => have := HK1.out; have := HJ4.out; have := HK3.out; omega
                          case rel => exact ⟨(x7_3), (wrap64 (x8_1 + 1)), (by first | rfl | (simp; done) | (simp [*]; done)), H', ⟨by have := HK1.out; have := HJ4.out; have := HK3.out; omega⟩, ⟨by (try simp only [hl7_3]); (with_reducible repeat (first | apply Kd.R_alloc | apply Kd.R_drewN | apply Kd.R_drew)); exact HO_7.out⟩, ⟨by repeat (first | (with_reducible first | exact HB.out | apply below_alloc | apply pw_below_drewN | apply below_drew1) | exact HB.out)⟩⟩
                  · rw [if_neg c11] at H
                    exact absurd H (by simp)
                · rw [if_neg c10] at H
                  exact absurd H (by simp)
              · rw [if_neg c9] at H
                exact absurd H (by simp)
      · rw [if_neg c4] at H
        have c4b0 : decide (x8_1 < (l0.length : Int)) = false := decide_eq_false c4
        clear c4
        obtain rfl := Option.some.inj H
        go_wp2
        go_ret
        exact ⟨_, by first | rfl | (simp [errW_none, errW_some] <;> rfl) | (simp [*, errW_none, errW_some] <;> rfl), by (with_reducible repeat (first | apply Kd.R_alloc | apply Kd.R_drewN | apply Kd.R_drew)); exact HO_7.out, by repeat (first | (with_reducible first | exact HB.out | apply below_alloc | apply pw_below_drewN | apply below_drew1) | exact HB.out)⟩

end Go.Proofs.Ythcoiabgemclbaa.PD
/- The document's functions on spans come to what the plain ones come to. -/
namespace Go.Proofs.Ythcoiabgemclbaa.PD
open Go.RowKit Go.Proofs.YthcoiabgemclbaaW.PrintWords Go.Proofs.YthcoiabgemclbaaW.PrintLast Go.Proofs.YthcoiabgemclbaaW.PrintMore
set_option linter.unusedVariables false
set_option linter.unusedSimpArgs false
theorem w64 {a : Int} (h0 : -9223372036854775808 ≤ a) (h1 : a ≤ 9223372036854775807) : wrap64 a = a := by unfold wrap64; omega
theorem w64n {i : Nat} (h : i < 9223372036854775807) : wrap64 ((i : Int) + 1) = ((i + 1 : Nat) : Int) := by unfold wrap64; omega
theorem rd_at {l : List S25} {i : Nat} (h : i < l.length) : rd_T25 l (i : Int) = l[i] := by simp only [rd_T25, Int.toNat_natCast]; simp [h]
theorem rdb_at {l : List ByteArray} {i : Nat} (h : i < l.length) : rdOf ByteArray.empty l (i : Int) = l[i] := by simp only [rdOf, Int.toNat_natCast]; simp [h]
theorem same_toList {a b : ByteArray} : (a.toList == b.toList) = decide (a = b) := by
  by_cases h : a = b
  · subst h; simp
  · rw [decide_eq_false h]
    exact beq_eq_false_iff_ne.2 (fun e => h (toList_inj e))
theorem sameN_eq {a b : ByteArray} : sameN a b = decide (a = b) := same_toList
theorem ne_S (a b : S25) : (!(a.f0.toList == b.f0.toList) || (!(a.f1 == b.f1) || (!(a.f2 == b.f2)))) = !decide (a = b) := by
  rw [same_toList]
  cases a with | mk a0 a1 a2 => cases b with | mk b0 b1 b2 =>
  by_cases h0 : a0 = b0 <;> by_cases h1 : a1 = b1 <;> by_cases h2 : a2 = b2 <;> simp [h0, h1, h2, S25.mk.injEq]
theorem drop_step {α : Type} {l : List α} {i : Nat} (h : i < l.length) : l.drop i = l[i] :: l.drop (i + 1) := List.drop_eq_getElem_cons h
theorem dec_cons {α : Type} [DecidableEq α] {a b : α} {l m : List α} (h : a = b) : decide (a :: l = b :: m) = decide (l = m) := by subst h; simp
theorem same_loop (l m : List S25) (hl : l.length = m.length) (hb : l.length < 4398046511104) : ∀ d i : Nat, l.length - i = d → i ≤ l.length → Ev (fun k => almanacref19_Same.l0 k l m (i : Int)) (decide (l.drop i = m.drop i)) := by
  intro d
  induction d with
  | zero =>
    intro i hd hi
    refine Ev.step (f := fun _ => some true) (fun k => by simp only [almanacref19_Same.l0]; rw [if_neg (by omega)]) ?_
    rw [List.drop_eq_nil_of_le (by omega), List.drop_eq_nil_of_le (by omega)]
    exact Ev.now _
  | succ d ih =>
    intro i hd hi
    have h1 : i < l.length := by omega
    have h2 : i < m.length := by omega
    rw [drop_step h1, drop_step h2]
    by_cases h : l[i] = m[i]
    · have := ih (i + 1) (by omega) (by omega)
      refine Ev.step (f := fun k => almanacref19_Same.l0 k l m ((i + 1 : Nat) : Int)) (fun k => by
        simp only [almanacref19_Same.l0]
        rw [if_pos (by omega), if_pos (by omega), if_pos (by omega), rd_at h1, rd_at h2, ne_S, w64n (by omega)]
        simp [h]) ?_
      rw [dec_cons h]
      exact this
    · refine Ev.step (f := fun _ => some false) (fun k => by
        simp only [almanacref19_Same.l0]
        rw [if_pos (by omega), if_pos (by omega), if_pos (by omega), rd_at h1, rd_at h2, ne_S]
        simp [h]) ?_
      have e : decide (l[i] :: l.drop (i + 1) = m[i] :: m.drop (i + 1)) = false := decide_eq_false (fun e => h (List.cons.inj e).1)
      rw [e]
      exact Ev.now _
theorem rsame_val (l m : List S25) (hb : l.length < 4398046511104) : Ev (fun k => almanacref19_Same.f k l m) (decide (l = m)) := by
  by_cases h : l.length = m.length
  · refine Ev.congr (f := fun k => almanacref19_Same.l0 k l m ((0 : Nat) : Int)) (fun k => by unfold almanacref19_Same.f; rw [if_pos (by omega)]; rfl) ?_
    simpa using same_loop l m h hb _ 0 rfl (Nat.zero_le _)
  · refine Ev.congr (f := fun k => some false) (fun k => by unfold almanacref19_Same.f; rw [if_neg (by omega)]) ?_
    rw [decide_eq_false (fun e => h (by rw [e]))]
    exact Ev.now _
theorem same_loop2 (l m : List S25) (hl : l.length = m.length) (hb : l.length < 4398046511104) : ∀ d i : Nat, l.length - i = d → i ≤ l.length → Ev (fun k => api_Span_29.l0 k l m (l.length : Int) (i : Int)) (decide (l.drop i = m.drop i)) := by
  intro d
  induction d with
  | zero =>
    intro i hd hi
    refine Ev.step (f := fun _ => some true) (fun k => by simp only [api_Span_29.l0]; rw [if_neg (by omega)]) ?_
    rw [List.drop_eq_nil_of_le (by omega), List.drop_eq_nil_of_le (by omega)]
    exact Ev.now _
  | succ d ih =>
    intro i hd hi
    have h1 : i < l.length := by omega
    have h2 : i < m.length := by omega
    rw [drop_step h1, drop_step h2]
    by_cases h : l[i] = m[i]
    · have := ih (i + 1) (by omega) (by omega)
      refine Ev.step (f := fun k => api_Span_29.l0 k l m (l.length : Int) ((i + 1 : Nat) : Int)) (fun k => by
        simp only [api_Span_29.l0]
        rw [if_pos (by omega), if_pos (by omega), if_pos (by omega), if_pos (by omega), rd_at h1, rd_at h2, ne_S, w64n (by omega)]
        simp [h]) ?_
      rw [dec_cons h]
      exact this
    · refine Ev.step (f := fun _ => some false) (fun k => by
        simp only [api_Span_29.l0]
        rw [if_pos (by omega), if_pos (by omega), if_pos (by omega), if_pos (by omega), rd_at h1, rd_at h2, ne_S]
        simp [h]) ?_
      have e : decide (l[i] :: l.drop (i + 1) = m[i] :: m.drop (i + 1)) = false := decide_eq_false (fun e => h (List.cons.inj e).1)
      rw [e]
      exact Ev.now _
theorem same_val (l m : List S25) (hb : l.length < 4398046511104) : Ev (fun k => span_Same.f k l m) (decide (l = m)) := by
  have main : Ev (fun k => api_Span_29.f k l m) (decide (l = m)) := by
    by_cases h : l.length = m.length
    · refine Ev.congr (f := fun k => api_Span_29.l0 k l m (l.length : Int) ((0 : Nat) : Int)) (fun k => by unfold api_Span_29.f; rw [if_pos (by omega)]; rfl) ?_
      simpa using same_loop2 l m h hb _ 0 rfl (Nat.zero_le _)
    · refine Ev.congr (f := fun k => some false) (fun k => by unfold api_Span_29.f; rw [if_neg (by omega)]) ?_
      rw [decide_eq_false (fun e => h (by rw [e]))]
      exact Ev.now _
  refine Ev.congr (f := fun k => api_Span_29.f k l m) (fun k => by unfold span_Same.f; cases api_Span_29.f k l m <;> rfl) main
theorem texts_loop (l m : List ByteArray) (hl : l.length = m.length) (hb : l.length < 8796093022208) : ∀ d i : Nat, l.length - i = d → i ≤ l.length → Ev (fun k => almanacref08_Texts.l0 k l m (i : Int)) (decide (l.drop i = m.drop i)) := by
  intro d
  induction d with
  | zero =>
    intro i hd hi
    refine Ev.step (f := fun _ => some true) (fun k => by simp only [almanacref08_Texts.l0]; rw [if_neg (by omega)]) ?_
    rw [List.drop_eq_nil_of_le (by omega), List.drop_eq_nil_of_le (by omega)]
    exact Ev.now _
  | succ d ih =>
    intro i hd hi
    have h1 : i < l.length := by omega
    have h2 : i < m.length := by omega
    rw [drop_step h1, drop_step h2]
    by_cases h : l[i] = m[i]
    · have := ih (i + 1) (by omega) (by omega)
      refine Ev.step (f := fun k => almanacref08_Texts.l0 k l m ((i + 1 : Nat) : Int)) (fun k => by
        simp only [almanacref08_Texts.l0]
        rw [if_pos (by omega), if_pos (by omega), if_pos (by omega), rdb_at h1, rdb_at h2, if_pos (by rw [h]), w64n (by omega)]) ?_
      rw [dec_cons h]
      exact this
    · refine Ev.step (f := fun _ => some false) (fun k => by
        simp only [almanacref08_Texts.l0]
        rw [if_pos (by omega), if_pos (by omega), if_pos (by omega), rdb_at h1, rdb_at h2, if_neg (fun e => h (toList_inj e))]) ?_
      have e : decide (l[i] :: l.drop (i + 1) = m[i] :: m.drop (i + 1)) = false := decide_eq_false (fun e => h (List.cons.inj e).1)
      rw [e]
      exact Ev.now _
theorem texts_val (l m : List ByteArray) (hb : l.length < 8796093022208) : Ev (fun k => almanacref08_Texts.f k l m) (decide (l = m)) := by
  by_cases h : l.length = m.length
  · refine Ev.congr (f := fun k => almanacref08_Texts.l0 k l m ((0 : Nat) : Int)) (fun k => by unfold almanacref08_Texts.f; rw [if_pos (by omega)]; rfl) ?_
    simpa using texts_loop l m h hb _ 0 rfl (Nat.zero_le _)
  · refine Ev.congr (f := fun k => some false) (fun k => by unfold almanacref08_Texts.f; rw [if_neg (by omega)]) ?_
    rw [decide_eq_false (fun e => h (by rw [e]))]
    exact Ev.now _
def hasB (l : List ByteArray) (x : ByteArray) : Bool := l.any fun y => sameN y x
theorem has_loop (l : List ByteArray) (x : ByteArray) (hb : l.length < 8796093022208) : ∀ d i : Nat, l.length - i = d → i ≤ l.length → Ev (fun k => almanacref08_Has.l0 k l x (i : Int)) (hasB (l.drop i) x) := by
  intro d
  induction d with
  | zero =>
    intro i hd hi
    refine Ev.step (f := fun _ => some false) (fun k => by simp only [almanacref08_Has.l0]; rw [if_neg (by omega)]) ?_
    rw [List.drop_eq_nil_of_le (by omega)]
    exact Ev.now false
  | succ d ih =>
    intro i hd hi
    have h1 : i < l.length := by omega
    rw [drop_step h1]
    by_cases h : l[i].toList = x.toList
    · refine Ev.step (f := fun _ => some true) (fun k => by
        simp only [almanacref08_Has.l0]
        rw [if_pos (by omega), if_pos (by omega), rdb_at h1, if_pos h]) ?_
      have e : hasB (l[i] :: l.drop (i + 1)) x = true := by unfold hasB; rw [List.any_cons]; unfold sameN; simp [h]
      rw [e]
      exact Ev.now true
    · have := ih (i + 1) (by omega) (by omega)
      refine Ev.step (f := fun k => almanacref08_Has.l0 k l x ((i + 1 : Nat) : Int)) (fun k => by
        simp only [almanacref08_Has.l0]
        rw [if_pos (by omega), if_pos (by omega), rdb_at h1, if_neg h, w64n (by omega)]) ?_
      have e : hasB (l[i] :: l.drop (i + 1)) x = hasB (l.drop (i + 1)) x := by
        have : sameN l[i] x = false := beq_eq_false_iff_ne.2 h
        unfold hasB
        rw [List.any_cons, this, Bool.false_or]
      rw [e]
      exact this
theorem has_val (l : List ByteArray) (x : ByteArray) (hb : l.length < 8796093022208) : Ev (fun k => almanacref08_Has.f k l x) (hasB l x) := by
  exact has_loop l x hb _ 0 rfl (Nat.zero_le _)
theorem before_val (a b : S25) : almanacref19_before.f a.f0 a.f1 a.f2 b.f0 b.f1 b.f2 = some (ltS a b) := by
  unfold almanacref19_before.f ltS
  by_cases h1 : a.f1 < b.f1
  · simp [h1]
  · by_cases h2 : a.f1 = b.f1
    · simp [h1, h2]
    · simp [h1, h2]
theorem before_val' (a0 : ByteArray) (a1 a2 : Int) (b : S25) : almanacref19_before.f a0 a1 a2 b.f0 b.f1 b.f2 = some (ltS ⟨a0, a1, a2⟩ b) := before_val ⟨a0, a1, a2⟩ b
end Go.Proofs.Ythcoiabgemclbaa.PD
/- The document's Fit, Drop, Put and Over come to what the plain ones come to. -/
namespace Go.Proofs.Ythcoiabgemclbaa.PD
open Go.RowKit Go.Proofs.YthcoiabgemclbaaW.PrintWords Go.Proofs.YthcoiabgemclbaaW.PrintLast Go.Proofs.YthcoiabgemclbaaW.PrintMore
set_option linter.unusedVariables false
set_option linter.unusedSimpArgs false
/-! #### Fit -/
def allFrom (l : List S25) (i : Nat) : Bool := (List.range' i (l.length - i)).all (okAt l)
theorem allFrom_end {l : List S25} {i : Nat} (h : l.length ≤ i) : allFrom l i = true := by unfold allFrom; rw [Nat.sub_eq_zero_of_le h]; rfl
theorem allFrom_step {l : List S25} {i : Nat} (h : i < l.length) : allFrom l i = (okAt l i && allFrom l (i + 1)) := by
  unfold allFrom
  rw [show l.length - i = (l.length - (i + 1)) + 1 by omega, List.range'_succ, List.all_cons]
theorem fitB_all (l : List S25) : fitB l = (allFrom l 0 && decide (l.length ≤ 32)) := by
  unfold fitB allFrom
  rw [Nat.sub_zero, List.range_eq_range']
theorem okAt_eq {l : List S25} {i : Nat} (h : i < l.length) : okAt l i =
    (!((l.take i).any (fun y => sameN y.f0 l[i].f0)) && (!(l[i].f0.toList == [])) && decide (l[i].f0.size ≤ 24) && decide (l[i].f1 ≤ l[i].f2) && (decide (i = 0) || ltS (rd_T25 l ((i : Int) - 1)) l[i])) := by
  unfold okAt
  rw [rd_at h]
theorem fit_l1 (l : List S25) (hb : l.length < 4398046511104) (i : Nat) (hi : i < l.length) (r : Bool) (H : Ev (fun k => almanacref19_Fit.l0 k l ((i + 1 : Nat) : Int)) r) : ∀ d j : Nat, i - j = d → j ≤ i →
    Ev (fun k => almanacref19_Fit.l1 k l (i : Int) (j : Int)) (if ((l.take i).drop j).any (fun y => sameN y.f0 l[i].f0) then false else r) := by
  intro d
  induction d with
  | zero =>
    intro j hd hj
    rw [List.drop_eq_nil_of_le (by simp; omega), List.any_nil]
    refine Ev.step (f := fun k => almanacref19_Fit.l0 k l ((i + 1 : Nat) : Int)) (fun k => by
      simp only [almanacref19_Fit.l1]
      rw [if_neg (by omega), w64n (by omega)]) ?_
    exact H
  | succ d ih =>
    intro j hd hj
    have hjl : j < (l.take i).length := by simp; omega
    have hjn : j < l.length := by omega
    rw [drop_step hjl, List.any_cons, List.getElem_take]
    by_cases h : l[j].f0.toList = l[i].f0.toList
    · have e : sameN l[j].f0 l[i].f0 = true := beq_iff_eq.2 h
      rw [e, Bool.true_or, if_pos rfl]
      refine Ev.step (f := fun _ => some false) (fun k => by
        simp only [almanacref19_Fit.l1]
        rw [if_pos (by omega), if_pos (by omega), if_pos (by omega), if_pos (by omega), if_pos (by omega), rd_at hjn, rd_at hi, if_pos h]) ?_
      exact Ev.now _
    · have e : sameN l[j].f0 l[i].f0 = false := beq_eq_false_iff_ne.2 h
      rw [e, Bool.false_or]
      refine Ev.step (f := fun k => almanacref19_Fit.l1 k l (i : Int) ((j + 1 : Nat) : Int)) (fun k => by
        simp only [almanacref19_Fit.l1]
        rw [if_pos (by omega), if_pos (by omega), if_pos (by omega), if_pos (by omega), if_pos (by omega), rd_at hjn, rd_at hi, if_neg h, w64n (by omega)]) ?_
      exact ih (j + 1) (by omega) (by omega)
theorem fit_j2 (l : List S25) (hb : l.length < 4398046511104) (i : Nat) (hi : i < l.length) (r b : Bool) (H : Ev (fun k => almanacref19_Fit.l0 k l ((i + 1 : Nat) : Int)) r) :
    Ev (fun k => almanacref19_Fit.j2 k l (i : Int) b) (if b then false else if (l.take i).any (fun y => sameN y.f0 l[i].f0) then false else r) := by
  cases b with
  | true =>
    refine Ev.step (f := fun _ => some false) (fun k => by simp only [almanacref19_Fit.j2]; rfl) ?_
    exact Ev.now _
  | false =>
    refine Ev.step (f := fun k => almanacref19_Fit.l1 k l (i : Int) ((0 : Nat) : Int)) (fun k => by simp only [almanacref19_Fit.j2]; rfl) ?_
    exact fit_l1 l hb i hi r H _ 0 rfl (Nat.zero_le _)
theorem fit_j1 (l : List S25) (hb : l.length < 4398046511104) (i : Nat) (hi : i < l.length) (r b : Bool) (H : Ev (fun k => almanacref19_Fit.l0 k l ((i + 1 : Nat) : Int)) r) :
    Ev (fun k => almanacref19_Fit.j1 k l (i : Int) b) (if b then false else if (decide (i = 0) || ltS (rd_T25 l ((i : Int) - 1)) l[i]) = false then false else if (l.take i).any (fun y => sameN y.f0 l[i].f0) then false else r) := by
  cases b with
  | true =>
    refine Ev.step (f := fun _ => some false) (fun k => by simp only [almanacref19_Fit.j1]; rfl) ?_
    exact Ev.now _
  | false =>
    by_cases h0 : i = 0
    · refine Ev.step (f := fun k => almanacref19_Fit.j2 k l (i : Int) false) (fun k => by simp only [almanacref19_Fit.j1]; rw [if_neg (by decide), if_neg (by omega)]) ?_
      have := fit_j2 l hb i hi r false H
      simpa [h0] using this
    · have := fit_j2 l hb i hi r (!ltS (rd_T25 l ((i : Int) - 1)) l[i]) H
      refine Ev.step (f := fun k => almanacref19_Fit.j2 k l (i : Int) (!ltS (rd_T25 l ((i : Int) - 1)) l[i])) (fun k => by
        simp only [almanacref19_Fit.j1]
        rw [if_neg (by decide), if_pos (by omega), w64 (by omega) (by omega), if_pos (by omega), if_pos (by omega), if_pos (by omega), if_pos (by omega), before_val, Option.bind_some, rd_at hi]) ?_
      simpa [h0] using this
theorem fit_l0 (l : List S25) (hb : l.length < 4398046511104) : ∀ d i : Nat, l.length - i = d → i ≤ l.length → Ev (fun k => almanacref19_Fit.l0 k l (i : Int)) (allFrom l i && decide (l.length ≤ 32)) := by
  intro d
  induction d with
  | zero =>
    intro i hd hi
    rw [allFrom_end (by omega), Bool.true_and]
    refine Ev.step (f := fun _ => some (decide (l.length ≤ 32))) (fun k => by
      simp only [almanacref19_Fit.l0]
      rw [if_neg (by omega)]
      by_cases h : l.length ≤ 32
      · rw [decide_eq_true h, decide_eq_true (by omega)]
      · rw [decide_eq_false h, decide_eq_false (by omega)]) ?_
    exact Ev.now _
  | succ d ih =>
    intro i hd hi
    have h1 : i < l.length := by omega
    have H := ih (i + 1) (by omega) (by omega)
    rw [allFrom_step h1, okAt_eq h1]
    by_cases c1 : l[i].f0.toList = []
    · have := fit_j1 l hb i h1 _ true H
      refine Ev.step (f := fun k => almanacref19_Fit.j1 k l (i : Int) true) (fun k => by
        simp only [almanacref19_Fit.l0]
        rw [if_pos (by omega), if_pos (by omega), rd_at h1, if_pos c1]) ?_
      simpa [c1] using this
    · by_cases c2 : l[i].f0.size ≤ 24
      · have := fit_j1 l hb i h1 _ (decide (l[i].f2 < l[i].f1)) H
        refine Ev.step (f := fun k => almanacref19_Fit.j1 k l (i : Int) (decide (l[i].f2 < l[i].f1))) (fun k => by
          simp only [almanacref19_Fit.l0]
          rw [if_pos (by omega), if_pos (by omega), rd_at h1, if_neg c1, if_neg (by omega)]) ?_
        have e1 : (l[i].f0.toList == []) = false := beq_eq_false_iff_ne.2 c1
        rw [e1, decide_eq_true c2]
        by_cases c3 : l[i].f2 < l[i].f1
        · have c4 : ¬ l[i].f1 ≤ l[i].f2 := by omega
          simpa [c3, c4] using this
        · have c4 : l[i].f1 ≤ l[i].f2 := by omega
          have c5 : decide (l[i].f2 < l[i].f1) = false := decide_eq_false c3
          rw [c5] at this ⊢
          rw [decide_eq_true c4]
          cases e2 : (l.take i).any (fun y => sameN y.f0 l[i].f0) <;> cases e3 : (decide (i = 0) || ltS (rd_T25 l ((i : Int) - 1)) l[i]) <;> rw [e2, e3] at this <;> simpa using this
      · have := fit_j1 l hb i h1 _ true H
        refine Ev.step (f := fun k => almanacref19_Fit.j1 k l (i : Int) true) (fun k => by
          simp only [almanacref19_Fit.l0]
          rw [if_pos (by omega), if_pos (by omega), rd_at h1, if_neg c1, if_pos (by omega)]) ?_
        simpa [c2] using this
theorem rfit_val (l : List S25) (hb : l.length < 4398046511104) : Ev (fun k => almanacref19_Fit.f k l) (fitB l) := by
  rw [fitB_all]
  exact fit_l0 l hb _ 0 rfl (Nat.zero_le _)
/-! #### Drop -/
theorem eta (x : S25) : (⟨x.f0, x.f1, x.f2⟩ : S25) = x := rfl
theorem drop_loop (l : List S25) (n : ByteArray) (hb : l.length < 4398046511104) : ∀ d i (acc : List S25), l.length - i = d → i ≤ l.length → acc.length ≤ i → Ev (fun k => almanacref19_Drop.l0 k l n acc (i : Int)) (acc ++ dropL (l.drop i) n) := by
  intro d
  induction d with
  | zero =>
    intro i acc hd hi ha
    rw [List.drop_eq_nil_of_le (by omega)]
    refine Ev.step (f := fun _ => some acc) (fun k => by simp only [almanacref19_Drop.l0]; rw [if_neg (by omega)]) ?_
    simpa [dropL] using Ev.now acc
  | succ d ih =>
    intro i acc hd hi ha
    have h1 : i < l.length := by omega
    rw [drop_step h1]
    by_cases h : l[i].f0.toList = n.toList
    · have e : dropL (l[i] :: l.drop (i + 1)) n = dropL (l.drop (i + 1)) n := by unfold dropL sameN; rw [List.filter_cons]; simp [h]
      rw [e]
      refine Ev.step (f := fun k => almanacref19_Drop.l0 k l n acc ((i + 1 : Nat) : Int)) (fun k => by
        simp only [almanacref19_Drop.l0]
        rw [if_pos (by omega), if_pos (by omega), rd_at h1, if_pos h, w64n (by omega)]) ?_
      exact ih (i + 1) acc (by omega) (by omega) (by omega)
    · have e : dropL (l[i] :: l.drop (i + 1)) n = l[i] :: dropL (l.drop (i + 1)) n := by unfold dropL sameN; rw [List.filter_cons]; simp [h]
      rw [e]
      refine Ev.step (f := fun k => almanacref19_Drop.l0 k l n (acc ++ [l[i]]) ((i + 1 : Nat) : Int)) (fun k => by
        simp only [almanacref19_Drop.l0]
        rw [if_pos (by omega), if_pos (by omega), rd_at h1, if_neg h, if_pos (by omega), w64n (by omega)]) ?_
      have := ih (i + 1) (acc ++ [l[i]]) (by omega) (by omega) (by simp; omega)
      rwa [List.append_assoc] at this
theorem rdrop_val (l : List S25) (n : ByteArray) (hb : l.length < 4398046511104) : Ev (fun k => almanacref19_Drop.f k l n) (dropL l n) := drop_loop l n hb _ 0 [] rfl (Nat.zero_le _) (Nat.le_refl _)
/-! #### Put -/
theorem put_end (l out : List S25) (hb : l.length < 4398046511104) (ho : out.length < 4398046511104) (g : Nat → Option (List S25))
    (hg : ∀ k, g k = ((almanacref19_Fit.f k out).bind fun t360 => (if t360 = true then (some out) else (if ([] : List S25).length + l.length < 4398046511104 then (some (([] : List S25) ++ l)) else (none))))) :
    Ev g (if fitB out then out else l) := by
  refine Ev.congr hg ?_
  refine Ev.bind (rfit_val out ho) ?_
  cases fitB out with
  | true => exact Ev.now _
  | false => exact Ev.congr (f := fun _ => some l) (fun k => by rw [if_neg (by decide), if_pos (by simpa using hb)]; rfl) (Ev.now _)
theorem put_done (l m : List S25) (x : S25) (hb : l.length < 4398046511104) (hm : m.length < 4398046511103) : ∀ d i (out : List S25), m.length - i = d → i ≤ m.length → out.length ≤ i + 1 →
    Ev (fun k => almanacref19_Put.l0 k l out m true (i : Int) x.f0 x.f1 x.f2) (if fitB (out ++ m.drop i) then out ++ m.drop i else l) := by
  intro d
  induction d with
  | zero =>
    intro i out hd hi ho
    rw [List.drop_eq_nil_of_le (by omega), List.append_nil]
    refine Ev.step (f := fun k => (almanacref19_Fit.f k out).bind fun t360 => (if t360 = true then (some out) else (if ([] : List S25).length + l.length < 4398046511104 then (some (([] : List S25) ++ l)) else (none)))) (fun k => by
      simp only [almanacref19_Put.l0]
      rw [if_neg (by omega)]
      rfl) ?_
    exact put_end l out hb (by omega) _ (fun _ => rfl)
  | succ d ih =>
    intro i out hd hi ho
    have h1 : i < m.length := by omega
    rw [drop_step h1]
    refine Ev.step (f := fun k => almanacref19_Put.l0 k l (out ++ [m[i]]) m true ((i + 1 : Nat) : Int) x.f0 x.f1 x.f2) (fun k => by
      simp only [almanacref19_Put.l0]
      rw [if_pos (by omega), if_pos trivial, if_pos (by omega), if_pos (by omega), rd_at h1, w64n (by omega)]) ?_
    have := ih (i + 1) (out ++ [m[i]]) (by omega) (by omega) (by simp; omega)
    rwa [List.append_assoc] at this
theorem put_loop (l m : List S25) (x : S25) (hb : l.length < 4398046511104) (hm : m.length < 4398046511103) : ∀ d i (out : List S25), m.length - i = d → i ≤ m.length → out.length ≤ i →
    Ev (fun k => almanacref19_Put.l0 k l out m false (i : Int) x.f0 x.f1 x.f2) (if fitB (out ++ insL x (m.drop i)) then out ++ insL x (m.drop i) else l) := by
  intro d
  induction d with
  | zero =>
    intro i out hd hi ho
    rw [List.drop_eq_nil_of_le (by omega)]
    refine Ev.step (f := fun k => (almanacref19_Fit.f k (out ++ [x])).bind fun t360 => (if t360 = true then (some (out ++ [x])) else (if ([] : List S25).length + l.length < 4398046511104 then (some (([] : List S25) ++ l)) else (none)))) (fun k => by
      simp only [almanacref19_Put.l0]
      rw [if_neg (by omega), if_neg (by decide), if_pos (by omega), Option.bind_some]) ?_
    exact put_end l (out ++ [x]) hb (by simp; omega) _ (fun _ => rfl)
  | succ d ih =>
    intro i out hd hi ho
    have h1 : i < m.length := by omega
    rw [drop_step h1]
    cases h : ltS x m[i] with
    | true =>
      have e : insL x (m[i] :: m.drop (i + 1)) = x :: m[i] :: m.drop (i + 1) := by unfold insL; rw [h]; rfl
      rw [e]
      refine Ev.step (f := fun k => almanacref19_Put.l0 k l ((out ++ [x]) ++ [m[i]]) m true ((i + 1 : Nat) : Int) x.f0 x.f1 x.f2) (fun k => by
        simp only [almanacref19_Put.l0]
        rw [if_pos (by omega), if_neg (by decide), if_pos (by omega), before_val, Option.bind_some, rd_at h1, h, if_pos rfl, if_pos (by omega), Option.bind_some, if_pos (by simp; omega), w64n (by omega)]) ?_
      have := put_done l m x hb hm d (i + 1) ((out ++ [x]) ++ [m[i]]) (by omega) (by omega) (by simp; omega)
      simpa [List.append_assoc] using this
    | false =>
      have e : insL x (m[i] :: m.drop (i + 1)) = m[i] :: insL x (m.drop (i + 1)) := by rw [insL]; rw [h]; rfl
      rw [e]
      refine Ev.step (f := fun k => almanacref19_Put.l0 k l (out ++ [m[i]]) m false ((i + 1 : Nat) : Int) x.f0 x.f1 x.f2) (fun k => by
        simp only [almanacref19_Put.l0]
        rw [if_pos (by omega), if_neg (by decide), if_pos (by omega), before_val, Option.bind_some, rd_at h1, h, if_neg (by decide), if_pos (by omega), w64n (by omega)]) ?_
      have := ih (i + 1) (out ++ [m[i]]) (by omega) (by omega) (by simp; omega)
      rwa [List.append_assoc] at this
theorem rput_val (l : List S25) (x : S25) (hb : l.length < 4398046511103) : Ev (fun k => almanacref19_Put.f k l x.f0 x.f1 x.f2) (putL l x) := by
  unfold almanacref19_Put.f
  refine Ev.bind (rdrop_val l x.f0 (by omega)) ?_
  have hd : (dropL l x.f0).length ≤ l.length := List.length_filter_le _ _
  exact put_loop l (dropL l x.f0) x (by omega) (by omega) _ 0 [] rfl (Nat.zero_le _) (Nat.le_refl _)
/-! #### Over -/
def keepB (a b : Int) (x : S25) : Bool := decide (x.f1 < b) && decide (a ≤ x.f2)
def namesB (l : List S25) (a b : Int) : List ByteArray := (l.filter (keepB a b)).map fun x => x.f0
abbrev LeB (a b : ByteArray) : Prop := Op.bytesLess b.toList a.toList = false
theorem set_two {p q : List ByteArray} {z x : ByteArray} : ((p ++ z :: x :: q).set (p.length + 1) z).set p.length x = p ++ x :: z :: q := by
  rw [List.set_append_right _ _ (by omega), show p.length + 1 - p.length = 1 by omega, List.set_append_right _ _ (by omega), Nat.sub_self]
  rfl
theorem over_l1 (l : List S25) (a b : Int) (i : Nat) (hi : i < l.length) (hb : l.length < 4398046511104) (r : List ByteArray) (x : ByteArray) (s0 : List ByteArray)
    (H : ∀ s : List ByteArray, s.Perm (x :: s0) → s.Pairwise LeB → Ev (fun k => almanacref19_Over.l0 k l a b s ((i + 1 : Nat) : Int)) r) :
    ∀ (d : Nat) (p q s : List ByteArray), p.length = d → s = p ++ x :: q → (p ++ q).Perm s0 → s.length < 8796093022208 → (p ++ q).Pairwise LeB → (∀ y ∈ q, Op.bytesLess x.toList y.toList = true) →
      Ev (fun k => almanacref19_Over.l1 k l a b s (i : Int) (p.length : Int)) r := by
  intro d
  induction d with
  | zero =>
    intro p q s hd hs hp hn ho hq
    obtain rfl : p = [] := List.eq_nil_of_length_eq_zero hd
    subst hs
    refine Ev.step (f := fun k => almanacref19_Over.l0 k l a b ([] ++ x :: q) ((i + 1 : Nat) : Int)) (fun k => by
      simp only [almanacref19_Over.l1]
      rw [if_neg (by simp), w64n (by omega)]) ?_
    refine H _ (List.Perm.cons _ hp) (List.pairwise_cons.2 ⟨fun y hy => bless_asymm (hq y hy), ho⟩)
  | succ d ih =>
    intro p q s hd hs hp hn ho hq
    obtain ⟨p', z, rfl⟩ : ∃ p' z, p = p' ++ [z] := ⟨p.dropLast, p.getLast (by intro e; rw [e] at hd; cases hd), (List.dropLast_concat_getLast _).symm⟩
    have hd' : p'.length = d := by simpa using hd
    have hs1 : s = p' ++ z :: x :: q := by rw [hs]; simp
    have hsl : s.length = p'.length + 2 + q.length := by rw [hs1]; simp; omega
    have e1 : rdOf ByteArray.empty s (((p' ++ [z]).length : Nat) : Int) = x := by
      rw [rdb_at (by simp; omega)]
      simp only [hs1, List.length_append, List.length_singleton]
      rw [List.getElem_append_right (by omega)]
      simp
    have e2 : rdOf ByteArray.empty s ((p'.length : Nat) : Int) = z := by
      rw [rdb_at (by omega)]
      simp only [hs1]
      rw [List.getElem_append_right (by omega)]
      simp
    have e3 : wrap64 ((((p' ++ [z]).length : Nat) : Int) - 1) = ((p'.length : Nat) : Int) := by
      rw [List.length_append, List.length_singleton]
      rw [w64 (by omega) (by omega)]
      omega
    cases h : Op.bytesLess x.toList z.toList with
    | true =>
      refine Ev.step (f := fun k => almanacref19_Over.l1 k l a b (p' ++ x :: z :: q) (i : Int) (p'.length : Int)) (fun k => by
        simp only [almanacref19_Over.l1]
        rw [e3, e1, e2, h, if_pos (by simp <;> omega), if_pos (by omega), if_pos (by simp <;> omega), if_pos (by omega), if_pos (by omega), if_pos rfl]
        rw [Int.toNat_natCast, Int.toNat_natCast, hs1, show (p' ++ [z]).length = p'.length + 1 by simp, set_two]) ?_
      refine ih p' (z :: q) _ hd' rfl (by simpa using hp) (by rw [hsl] at hn; simp; omega) (by simpa using ho) (fun y hy => ?_)
      rcases List.mem_cons.1 hy with rfl | hy
      · exact h
      · exact hq y hy
    | false =>
      refine Ev.step (f := fun k => almanacref19_Over.l0 k l a b s ((i + 1 : Nat) : Int)) (fun k => by
        simp only [almanacref19_Over.l1]
        rw [e3, e1, e2, h, if_pos (by simp <;> omega), if_pos (by omega), if_pos (by simp <;> omega), if_pos (by omega), if_pos (by omega), if_neg (by decide), w64n (by omega)]) ?_
      refine H _ ?_ ?_
      · rw [hs]
        exact List.perm_middle.trans (List.Perm.cons _ hp)
      · rw [hs]
        rw [List.pairwise_append] at ho ⊢
        refine ⟨ho.1, List.pairwise_cons.2 ⟨fun y hy => bless_asymm (hq y hy), ho.2.1⟩, fun u hu y hy => ?_⟩
        rcases List.mem_cons.1 hy with rfl | hy
        · rcases List.mem_append.1 hu with hu' | hu'
          · have h1 : LeB u z := (List.pairwise_append.1 ho.1).2.2 u hu' z (List.mem_singleton.2 rfl)
            cases h2 : Op.bytesLess y.toList u.toList with
            | false => exact h2
            | true =>
              exfalso
              cases h3 : Op.bytesLess u.toList z.toList with
              | true => have := bless_trans h2 h3; rw [h] at this; cases this
              | false =>
                have := bless_total h3 h1
                rw [this, h] at h2
                cases h2
          · rw [List.mem_singleton.1 hu']; exact h
        · exact ho.2.2 u hu y hy
theorem over_l0 (l : List S25) (a b : Int) (hb : l.length < 4398046511104) : ∀ (d i : Nat) (out : List ByteArray), l.length - i = d → i ≤ l.length → out.Perm (namesB (l.take i) a b) → out.Pairwise LeB →
    Ev (fun k => almanacref19_Over.l0 k l a b out (i : Int)) (sortB (namesB l a b)) := by
  intro d
  induction d with
  | zero =>
    intro i out hd hi hp ho
    rw [List.take_of_length_le (by omega)] at hp
    have e : out = sortB (namesB l a b) := sorted_one (hp.trans (sortB_perm _).symm) ho (sortB_sorted _)
    rw [← e]
    refine Ev.step (f := fun _ => some out) (fun k => by simp only [almanacref19_Over.l0]; rw [if_neg (by omega)]) ?_
    exact Ev.now _
  | succ d ih =>
    intro i out hd hi hp ho
    have h1 : i < l.length := by omega
    have hlen : out.length ≤ i := by
      rw [hp.length_eq]
      unfold namesB
      rw [List.length_map]
      refine Nat.le_trans (List.length_filter_le _ _) ?_
      rw [List.length_take]
      omega
    have hsn : namesB (l.take (i + 1)) a b = namesB (l.take i) a b ++ (if keepB a b l[i] then [l[i].f0] else []) := by
      unfold namesB
      rw [List.take_succ_eq_append_getElem h1, List.filter_append, List.map_append]
      cases h : keepB a b l[i] <;> simp [h]
    cases hk : keepB a b l[i] with
    | false =>
      have H := ih (i + 1) out (by omega) (by omega) (by rw [hsn, hk]; simpa using hp) ho
      have hj : Ev (fun k => almanacref19_Over.j1 k l a b out (i : Int) true) (sortB (namesB l a b)) := by
        refine Ev.step (f := fun k => almanacref19_Over.l0 k l a b out ((i + 1 : Nat) : Int)) (fun k => by
          simp only [almanacref19_Over.j1]
          rw [if_pos trivial, w64n (by omega)]) H
      refine Ev.step (f := fun k => almanacref19_Over.j1 k l a b out (i : Int) true) (fun k => by
        simp only [almanacref19_Over.l0]
        rw [if_pos (by omega), if_pos (by omega), rd_at h1]
        by_cases c1 : l[i].f1 ≥ b
        · rw [if_pos c1]
        · rw [if_neg c1]
          have : l[i].f2 < a := by
            unfold keepB at hk
            rw [Bool.and_eq_false_iff] at hk
            rcases hk with hk | hk <;> simp at hk <;> omega
          rw [decide_eq_true this]) hj
    | true =>
      unfold keepB at hk
      rw [Bool.and_eq_true, decide_eq_true_eq, decide_eq_true_eq] at hk
      have hj : Ev (fun k => almanacref19_Over.j1 k l a b out (i : Int) false) (sortB (namesB l a b)) := by
        refine Ev.step (f := fun k => almanacref19_Over.l1 k l a b (out ++ [l[i].f0]) (i : Int) (out.length : Int)) (fun k => by
          simp only [almanacref19_Over.j1]
          rw [if_neg (by decide), if_pos (by omega), if_pos (by omega), if_pos (by omega), Option.bind_some, rd_at h1, List.length_append, List.length_singleton]
          rw [w64 (by omega) (by omega), show (((out.length + 1 : Nat) : Int) - 1) = (out.length : Int) by omega]) ?_
        refine over_l1 l a b i h1 hb _ l[i].f0 out (fun s hs1 hs2 => ?_) out.length out [] _ rfl rfl (by rw [List.append_nil]) (by simp; omega) (by rw [List.append_nil]; exact ho) (by simp)
        refine ih (i + 1) s (by omega) (by omega) ?_ hs2
        rw [hsn, if_pos (by unfold keepB; rw [decide_eq_true hk.1, decide_eq_true hk.2]; rfl)]
        exact hs1.trans ((List.Perm.cons _ hp).trans (List.perm_append_singleton _ _).symm)
      refine Ev.step (f := fun k => almanacref19_Over.j1 k l a b out (i : Int) false) (fun k => by
        simp only [almanacref19_Over.l0]
        rw [if_pos (by omega), if_pos (by omega), rd_at h1, if_neg (by omega), decide_eq_false (by omega)]) hj
theorem ltS_le {x y : S25} (h : ltS x y = true) : x.f1 ≤ y.f1 := by
  unfold ltS at h
  simp only [Bool.or_eq_true, Bool.and_eq_true, decide_eq_true_eq] at h
  omega
theorem ahead_filter (t : Int) : ∀ l : List S25, l.Pairwise (fun a b => ltS a b = true) → aheadL l t = l.filter fun x => decide (x.f1 < t)
  | [], _ => rfl
  | x :: l, h => by
    rw [List.pairwise_cons] at h
    unfold aheadL
    by_cases c : x.f1 < t
    · rw [List.takeWhile_cons_of_pos (by simpa using c), List.filter_cons_of_pos (by simpa using c)]
      exact congrArg _ (ahead_filter t l h.2)
    · rw [List.takeWhile_cons_of_neg (by simpa using c), List.filter_cons_of_neg (by simpa using c)]
      symm
      rw [List.filter_eq_nil_iff]
      intro y hy
      have := ltS_le (h.1 y hy)
      simp
      omega
theorem overL_names {l : List S25} (h : fitB l = true) (a b : Int) : overL l a b = sortB (namesB l a b) := by
  unfold overL namesB
  rw [ahead_filter b l (fit_sorted h), List.filter_filter]
  congr 3
  funext x
  unfold keepB
  rw [Bool.and_comm]
theorem rover_val {l : List S25} (h : fitB l = true) (a b : Int) : Ev (fun k => almanacref19_Over.f k l a b) (overL l a b) := by
  rw [overL_names h]
  have := fit_len h
  exact over_l0 l a b (by omega) _ 0 [] rfl (Nat.zero_le _) (by simp [namesB]) List.Pairwise.nil
end Go.Proofs.Ythcoiabgemclbaa.PD
