/- Part 2 of the texts that the claim leans on: the functions' walks, and what they compute. -/
import Derived.Test.YtaocplhijfkicaaDevPlays1
import Derived.Test.YtaocplhijfkicaaSase1
-- written by a program of this work (mk.sh, over the kit's print; stubs are proved by hand)
namespace Go.Proofs.Ytaocplhijfkicaa.PD
open Go.RowKit Go.Proofs.YtaocplhijfkicaaW.PrintWords Go.Proofs.YtaocplhijfkicaaW.PrintLast Go.Proofs.YtaocplhijfkicaaW.PrintMore
attribute [local go_sem] isSome_setCell max2_int min2_int max_two min_two   -- for this text's walks alone
set_option linter.unusedVariables false
set_option linter.unusedSimpArgs false

/-! ### almanacref02_Flush: function 22 -/
def almanacref02_Flush.l0 : Nat → Int → List ByteArray → List (S40) → Int → Bool → Option (List ByteArray × (List (S40)) × Int × Bool × Int)
 | 0, _, _, _, _, _ => none
 | k + 1, x6, x485000, x485001, x485002, x485003 => if x6 < (x485001.length : Int) then (if 0 ≤ x6 then (if 0 ≤ ((rd_T40 x485001 x6).f0) then (if ((rd_T40 x485001 x6).f0) < (x485000.length : Int) then (almanacref02_Flush.l0 k (wrap64 (x6 + 1)) (x485000.set (((rd_T40 x485001 x6).f0) : Int).toNat ((rd_T40 x485001 x6).f1)) x485001 x485002 x485003) else (none)) else (none)) else (none)) else (some (x485000, ([] : List (S40)), x485002, x485003, 0))
def almanacref02_Flush.f (k : Nat) (l0_0 : List ByteArray) (l0_1 : List (S40)) (a0_2 : Int) (a0_3 : Bool) : Option (List ByteArray × (List (S40)) × Int × Bool × Int) := if a0_3 = true then ((almanacref02_Copy.f l0_0 l0_1 a0_2 a0_3).bind fun bt467 => (some (bt467.1, bt467.2.1, bt467.2.2.1, bt467.2.2.2, 17))) else ((almanacref02_spend.f l0_0 l0_1 a0_2 a0_3).bind fun bt475 => (if bt475.2.2.2.2 = true then (almanacref02_Flush.l0 k 0 bt475.1 bt475.2.1 bt475.2.2.1 bt475.2.2.2.1) else (some (bt475.1, bt475.2.1, bt475.2.2.1, bt475.2.2.2.1, 16))))
theorem almanacref02_Flush.mono_l : ∀ k, (∀ y0 y1 y2 y3 y4, LeO (almanacref02_Flush.l0 k y0 y1 y2 y3 y4) (almanacref02_Flush.l0 (k + 1) y0 y1 y2 y3 y4))
 | 0 => fun _ _ _ _ _ r h => by simp [almanacref02_Flush.l0] at h
 | k + 1 => by
  have ih0 := almanacref02_Flush.mono_l k
  ·intro y0 y1 y2 y3 y4
   unfold almanacref02_Flush.l0
   repeat' first
   | (with_reducible exact ih0 _ _ _ _ _)
   | (with_reducible exact LeO.refl _)
   | (with_reducible exact LeO.none _)
   | (with_reducible refine LeO.ite ?_ ?_)
   | (with_reducible refine LeO.bind ?_ (fun _ => ?_))
   | exact ih0 _ _ _ _ _
   | exact LeO.none _
   | refine LeO.ite ?_ ?_
   | refine LeO.bind ?_ (fun _ => ?_)
theorem almanacref02_Flush.mono : ∀ a0 a1 a2 a3 k, LeO (almanacref02_Flush.f k a0 a1 a2 a3) (almanacref02_Flush.f (k + 1) a0 a1 a2 a3) := by
 intro a0 a1 a2 a3 k
 have ih0 := almanacref02_Flush.mono_l k
 unfold almanacref02_Flush.f
 repeat' first
   | (with_reducible exact ih0 _ _ _ _ _)
   | (with_reducible exact LeO.refl _)
   | (with_reducible exact LeO.none _)
   | (with_reducible refine LeO.ite ?_ ?_)
   | (with_reducible refine LeO.bind ?_ (fun _ => ?_))
   | exact ih0 _ _ _ _ _
   | exact LeO.none _
   | refine LeO.ite ?_ ?_
   | refine LeO.bind ?_ (fun _ => ?_)
def almanacref02_Flush.T9 : Bool × List (List Nat × List Nat) := (true, [([], []), ([0], [0]), ([], []), ([2], [2]), ([], []), ([3, 4], [3, 4]), ([5], [5]), ([6], [6]), ([], []), ([8], [8]), ([], []), ([9, 10], [9, 10]), ([11], [11]), ([12], [12]), ([1, 7, 0, 1, 2, 3, 4, 5, 6, 7, 8, 9, 10, 11, 12, 13], [1, 7]), ([14, 13, 0, 1, 2, 3, 4, 5, 6, 7, 8, 9, 10, 11, 12, 13], [13, 14])])
def almanacref02_Flush.B9 : List Nat := [0, 1, 0, 4, 0, 28, 60, 124, 0, 256, 0, 1792, 3840, 7936, 16383, 32767]
theorem almanacref02_Flush.tab9 : rtab .any (opsOf Try.f22 9) = almanacref02_Flush.T9 := by kernel_rfl
theorem almanacref02_Flush.bits9 : waitsOk almanacref02_Flush.T9.2 almanacref02_Flush.B9 = true := by kernel_rfl
set_option maxHeartbeats 8000000 in
set_option maxRecDepth 100000 in
theorem almanacref02_Flush.calls (k : Nat) (A0_0 : Option Addr) (c0_0 : Nat) (l0_0 : List ByteArray) (A0_1 : Option Addr) (c0_1 : Nat) (l0_1 : List (S40)) (a0_2 : Int) (a0_3 : Bool) (r1 : List ByteArray) (r2 : List (S40)) (r3 : Int) (r4 : Bool) (r5 : Int) (w : World) (hr0_0 : Kd.C Kd.string w A0_0 l0_0.length l0_0) (hc0_0 : l0_0.length ≤ c0_0) (hr0_1 : Kd.C k40 w A0_1 l0_1.length l0_1) (hc0_1 : l0_1.length ≤ c0_1) (h : almanacref02_Flush.f k l0_0 l0_1 a0_2 a0_3 = some (r1, r2, r3, r4, r5)) :
  Calls Try.prog 22 #[.agg #[.slice A0_0 l0_0.length c0_0, .slice A0_1 l0_1.length c0_1, .int .i64 a0_2, .bool a0_3]] w fun e w' => ∃ v0_ v1_ : Value, e = .returned (.tuple #[.agg #[v0_, v1_, .int .i64 r3, .bool r4], .int .i64 r5]) ∧ Kd.R Kd.string 9 w' w.heap.size (fun _ => True) v0_ r1 ∧ Kd.R k40 40 w' w.heap.size (fun _ => True) v1_ r2 ∧ Below w.heap.size w w' := by
 have hu25 := Try.underlying25
 have HR0_0 := Aside0.mk hr0_0
 have HC0_0 := Aside0.mk hc0_0
 clear hr0_0 hc0_0
 have HR0_1 := Aside0.mk hr0_1
 have HC0_1 := Aside0.mk hc0_1
 clear hr0_1 hc0_1
 have HB := Aside0.mk (Below.refl w.heap.size w)
 have H : (if a0_3 = true then ((almanacref02_Copy.f l0_0 l0_1 a0_2 a0_3).bind fun bt467 => (some (bt467.1, bt467.2.1, bt467.2.2.1, bt467.2.2.2, 17))) else ((almanacref02_spend.f l0_0 l0_1 a0_2 a0_3).bind fun bt475 => (if bt475.2.2.2.2 = true then (almanacref02_Flush.l0 k 0 bt475.1 bt475.2.1 bt475.2.2.1 bt475.2.2.2.1) else (some (bt475.1, bt475.2.1, bt475.2.2.1, bt475.2.2.2.1, 16))))) = some (r1, r2, r3, r4, r5) := h
 clear h
 by_cases c2 : a0_3 = true
 ·subst c2
  have H1 : ((almanacref02_Copy.f l0_0 l0_1 a0_2 true).bind fun bt467 => (some (bt467.1, bt467.2.1, bt467.2.2.1, bt467.2.2.2, 17))) = some (r1, r2, r3, r4, r5) := by rw [if_pos rfl] at H; exact H
  clear H
  have H := H1
  clear H1
  replace H := Option.bind_eq_some_iff.mp H
  obtain ⟨⟨t467, t470, t473, t474⟩, A30, H⟩ := H
  replace H : (some (t467, t470, t473, t474, 17)) = some (r1, r2, r3, r4, r5) := H
  have A3 := Aside0.mk A30
  clear A30
  simp only [Option.some.injEq, Prod.mk.injEq] at H
  obtain ⟨rfl, rfl, rfl, rfl, rfl⟩ := H
  go_enter Try.func22, Try.ntmps22
  go_wp2_with (first | ((with_reducible refine gate_dst (N := 1) rfl ?_); refine box_event ?hg (N := 1) ?hd (cs := #[.slice A0_0 l0_0.length c0_0, .slice A0_1 l0_1.length c0_1, .int .i64 a0_2, .bool true]) (t := 25) ?hr ?_; (case hd => rfl); (case hg => rfl); (case hr => first | (go_simp; done) | (go_simp; rfl)); intro gb465 hg w4 hbox hb; have n0_ := Aside0.mk (below_step (bU HB) hb); have n1_ := Aside0.mk (hbox); have n2_ := Aside0.mk ((by rw [hg]; exact (below_size (bU HB)) : w.heap.size ≤ gb465)); have n3_ := Aside0.mk ((by rw [hg]; exact (below_size (bU HB)) : w.heap.size ≤ gb465)); clear HB; have HB := n0_; have BK465 := n1_; have GW465 := n2_; have GE465 := n3_; clear n0_ n1_ n2_ n3_; clear hb hbox hg) | ((with_reducible refine gate_dst (N := 2) rfl ?_); refine box_event ?hg (N := 2) ?hd (cs := #[.slice none 0 0, .slice none 0 0, .int .i64 0, .bool false]) (t := 25) ?hr ?_; (case hd => rfl); (case hg => rfl); (case hr => first | (go_simp; done) | (go_simp; rfl)); intro gb466 hg w5 hbox hb; have n0_ := Aside0.mk (blk_below (kU BK465) hb); have n1_ := Aside0.mk (below_step (bU HB) hb); have n2_ := Aside0.mk (hbox); have n3_ := Aside0.mk ((by rw [hg]; exact (below_size (bU HB)) : w.heap.size ≤ gb466)); have n4_ := Aside0.mk ((by rw [hg]; exact (below_size (bU HB)) : w.heap.size ≤ gb466)); have n5_ := Aside0.mk ((by rw [hg]; exact Nat.ne_of_lt (blk_lt (g := gb465) (o := .cells #[.slice A0_0 l0_0.length c0_0, .slice A0_1 l0_1.length c0_1, .int .i64 a0_2, .bool true] 25 (0, 0)) (kU BK465)) : gb465 ≠ gb466)); have n6_ := Aside0.mk ((by rw [hg]; exact Nat.ne_of_gt (blk_lt (g := gb465) (o := .cells #[.slice A0_0 l0_0.length c0_0, .slice A0_1 l0_1.length c0_1, .int .i64 a0_2, .bool true] 25 (0, 0)) (kU BK465)) : gb466 ≠ gb465)); clear BK465; clear HB; have BK465 := n0_; have HB := n1_; have BK466 := n2_; have GW466 := n3_; have GE466 := n4_; have NB465_466 := n5_; have NB466_465 := n6_; clear n0_ n1_ n2_ n3_ n4_ n5_ n6_; clear hb hbox hg; have hnb6 := NB465_466.out; have hnc6 := NB466_465.out; have hcz7_0 : w5.cell? ⟨gb465, 0, none⟩ = some (.slice A0_0 l0_0.length c0_0) := (blk_cell BK465.out 0).trans rfl; have hcz7_1 : w5.cell? ⟨gb465, 1, none⟩ = some (.slice A0_1 l0_1.length c0_1) := (blk_cell BK465.out 1).trans rfl; have hcz7_2 : w5.cell? ⟨gb465, 2, none⟩ = some (.int .i64 a0_2) := (blk_cell BK465.out 2).trans rfl; have hcz7_3 : w5.cell? ⟨gb465, 3, none⟩ = some (.bool true) := (blk_cell BK465.out 3).trans rfl; have hfz7_0 := blk_frozen BK465.out 0; have hfz7_1 := blk_frozen BK465.out 1; have hfz7_2 := blk_frozen BK465.out 2; have hfz7_3 := blk_frozen BK465.out 3) | ((with_reducible refine gate_callee (f := 9) rfl ?_); refine goesL_ (some 10) rfl rfl Try.func9 (by kernel_rfl) rfl #[.agg #[.slice A0_0 l0_0.length c0_0, .slice A0_1 l0_1.length c0_1, .int .i64 a0_2, .bool true]] rfl (by (try simp only [List.map_toArray, List.map_cons, List.map_nil]); first | done | rfl | (simp only [List.length_drop, List.length_take]; rfl)) ?_; (with_reducible refine (almanacref02_Copy.calls _ _ l0_0 _ _ l0_1 a0_2 true t467 t470 t473 t474 _ ?side1 ?side2 ?side3 ?side4 A3.out).mono ?_); (case side1 => exact cU (Kd.C_below HR0_0.out HB.out)); (case side2 => exact HC0_0.out); (case side3 => exact cU (Kd.C_below HR0_1.out HB.out)); (case side4 => exact HC0_1.out); rintro e w8 ⟨v468, v471, rfl, ho0, ho1, hb⟩; refine ⟨_, rfl, ?_⟩; have n0_ := Aside0.mk (Kd.R_lower ho0 (below_size (bU HB))); have n1_ := Aside0.mk (Kd.R_lower ho1 (below_size (bU HB))); have n2_ := Aside0.mk (blk_below (kU BK465) hb); have n3_ := Aside0.mk (blk_below (kU BK466) hb); have n4_ := Aside0.mk (below_step (bU HB) hb); clear BK465; clear BK466; clear HB; have HO469 := n0_; have HO472 := n1_; have BK465 := n2_; have BK466 := n3_; have HB := n4_; clear n0_ n1_ n2_ n3_ n4_; (try clear hb); (try clear hb2); (try clear hk); (try clear hi); (try clear ho0); (try clear ho1); obtain ⟨Ao9, co9, eo9⟩ := Kd.R_slice HO469.out; subst eo9; have hcz10_0 : w8.cell? ⟨gb466, 0, none⟩ = some (.slice none 0 0) := (blk_cell BK466.out 0).trans rfl; have hcz10_1 : w8.cell? ⟨gb466, 1, none⟩ = some (.slice none 0 0) := (blk_cell BK466.out 1).trans rfl; have hcz10_2 : w8.cell? ⟨gb466, 2, none⟩ = some (.int .i64 0) := (blk_cell BK466.out 2).trans rfl; have hcz10_3 : w8.cell? ⟨gb466, 3, none⟩ = some (.bool false) := (blk_cell BK466.out 3).trans rfl; have hfz10_0 := blk_frozen BK466.out 0; have hfz10_1 := blk_frozen BK466.out 1; have hfz10_2 := blk_frozen BK466.out 2; have hfz10_3 := blk_frozen BK466.out 3; obtain ⟨Ao11, co11, eo11⟩ := Kd.R_slice HO472.out; subst eo11))
  refine bodyPost_ret (results_ct rfl _ _ gb466 25 #[.slice Ao9 t467.length co9, .slice Ao11 t470.length co11, .int .i64 t473, .bool t474] (0, 0) _ rfl (kP BK466) Try.underlying25 rfl (by kernel_rfl)) rfl ?_
  exact ⟨_, _, eqU, by (with_reducible repeat (first | apply Kd.R_alloc | apply Kd.R_drewN | apply Kd.R_drew)); exact Kd.R_mono (Kd.R_far (p := ⟨gb466, 3, none⟩) (Kd.R_far (p := ⟨gb466, 2, none⟩) (Kd.R_far (p := ⟨gb466, 1, none⟩) (Kd.R_far (p := ⟨gb466, 0, none⟩) (Kd.R_types HO469.out BK466.out (by decide)) (fun _ hk => hk.2) (.slice Ao9 t467.length co9)) (fun _ hk => hk.2) (.slice Ao11 t470.length co11)) (fun _ hk => hk.2) (.int .i64 t473)) (fun _ hk => hk.2) (.bool t474)) (fun _ hk => trivial), by (with_reducible repeat (first | apply Kd.R_alloc | apply Kd.R_drewN | apply Kd.R_drew)); exact Kd.R_mono (Kd.R_far (p := ⟨gb466, 3, none⟩) (Kd.R_far (p := ⟨gb466, 2, none⟩) (Kd.R_far (p := ⟨gb466, 1, none⟩) (Kd.R_far (p := ⟨gb466, 0, none⟩) (Kd.R_types HO472.out BK466.out (by decide)) (fun _ hk => hk.2) (.slice Ao9 t467.length co9)) (fun _ hk => hk.2) (.slice Ao11 t470.length co11)) (fun _ hk => hk.2) (.int .i64 t473)) (fun _ hk => hk.2) (.bool t474)) (fun _ hk => trivial), bU HB⟩
 ·replace c2 := Bool.eq_false_iff.mpr c2
  subst c2
  have H1 : ((almanacref02_spend.f l0_0 l0_1 a0_2 false).bind fun bt475 => (if bt475.2.2.2.2 = true then (almanacref02_Flush.l0 k 0 bt475.1 bt475.2.1 bt475.2.2.1 bt475.2.2.2.1) else (some (bt475.1, bt475.2.1, bt475.2.2.1, bt475.2.2.2.1, 16)))) = some (r1, r2, r3, r4, r5) := by rw [if_neg (show ¬ (false = true) by decide)] at H; exact H
  clear H
  have H := H1
  clear H1
  replace H := Option.bind_eq_some_iff.mp H
  obtain ⟨⟨t475, t478, t481, t482, t483⟩, A120, H⟩ := H
  replace H : (if t483 = true then (almanacref02_Flush.l0 k 0 t475 t478 t481 t482) else (some (t475, t478, t481, t482, 16))) = some (r1, r2, r3, r4, r5) := H
  have A12 := Aside0.mk A120
  clear A120
  by_cases c13 : t483 = true
  ·subst c13
   have H1 : (almanacref02_Flush.l0 k 0 t475 t478 t481 t482) = some (r1, r2, r3, r4, r5) := by rw [if_pos rfl] at H; exact H
   clear H
   have H := H1
   clear H1
   have H' := Aside0.mk H
   clear H
   go_enter Try.func22, Try.ntmps22
   go_wp2_with (first | ((with_reducible refine gate_dst (N := 1) rfl ?_); refine box_event ?hg (N := 1) ?hd (cs := #[.slice A0_0 l0_0.length c0_0, .slice A0_1 l0_1.length c0_1, .int .i64 a0_2, .bool false]) (t := 25) ?hr ?_; (case hd => rfl); (case hg => rfl); (case hr => first | (go_simp; done) | (go_simp; rfl)); intro gb465 hg w14 hbox hb; have n0_ := Aside0.mk (below_step (bU HB) hb); have n1_ := Aside0.mk (hbox); have n2_ := Aside0.mk ((by rw [hg]; exact (below_size (bU HB)) : w.heap.size ≤ gb465)); have n3_ := Aside0.mk ((by rw [hg]; exact (below_size (bU HB)) : w.heap.size ≤ gb465)); clear HB; have HB := n0_; have BK465 := n1_; have GW465 := n2_; have GE465 := n3_; clear n0_ n1_ n2_ n3_; clear hb hbox hg) | ((with_reducible refine gate_dst (N := 2) rfl ?_); refine box_event ?hg (N := 2) ?hd (cs := #[.slice none 0 0, .slice none 0 0, .int .i64 0, .bool false]) (t := 25) ?hr ?_; (case hd => rfl); (case hg => rfl); (case hr => first | (go_simp; done) | (go_simp; rfl)); intro gb466 hg w15 hbox hb; have n0_ := Aside0.mk (blk_below (kU BK465) hb); have n1_ := Aside0.mk (below_step (bU HB) hb); have n2_ := Aside0.mk (hbox); have n3_ := Aside0.mk ((by rw [hg]; exact (below_size (bU HB)) : w.heap.size ≤ gb466)); have n4_ := Aside0.mk ((by rw [hg]; exact (below_size (bU HB)) : w.heap.size ≤ gb466)); have n5_ := Aside0.mk ((by rw [hg]; exact Nat.ne_of_lt (blk_lt (g := gb465) (o := .cells #[.slice A0_0 l0_0.length c0_0, .slice A0_1 l0_1.length c0_1, .int .i64 a0_2, .bool false] 25 (0, 0)) (kU BK465)) : gb465 ≠ gb466)); have n6_ := Aside0.mk ((by rw [hg]; exact Nat.ne_of_gt (blk_lt (g := gb465) (o := .cells #[.slice A0_0 l0_0.length c0_0, .slice A0_1 l0_1.length c0_1, .int .i64 a0_2, .bool false] 25 (0, 0)) (kU BK465)) : gb466 ≠ gb465)); clear BK465; clear HB; have BK465 := n0_; have HB := n1_; have BK466 := n2_; have GW466 := n3_; have GE466 := n4_; have NB465_466 := n5_; have NB466_465 := n6_; clear n0_ n1_ n2_ n3_ n4_ n5_ n6_; clear hb hbox hg; have hnb16 := NB465_466.out; have hnc16 := NB466_465.out; have hcz17_0 : w15.cell? ⟨gb465, 0, none⟩ = some (.slice A0_0 l0_0.length c0_0) := (blk_cell BK465.out 0).trans rfl; have hcz17_1 : w15.cell? ⟨gb465, 1, none⟩ = some (.slice A0_1 l0_1.length c0_1) := (blk_cell BK465.out 1).trans rfl; have hcz17_2 : w15.cell? ⟨gb465, 2, none⟩ = some (.int .i64 a0_2) := (blk_cell BK465.out 2).trans rfl; have hcz17_3 : w15.cell? ⟨gb465, 3, none⟩ = some (.bool false) := (blk_cell BK465.out 3).trans rfl; have hfz17_0 := blk_frozen BK465.out 0; have hfz17_1 := blk_frozen BK465.out 1; have hfz17_2 := blk_frozen BK465.out 2; have hfz17_3 := blk_frozen BK465.out 3) | ((with_reducible refine gate_callee (f := 43) rfl ?_); refine goesL_ (some 13) rfl rfl Try.func43 (by kernel_rfl) rfl #[.agg #[.slice A0_0 l0_0.length c0_0, .slice A0_1 l0_1.length c0_1, .int .i64 a0_2, .bool false]] rfl (by (try simp only [List.map_toArray, List.map_cons, List.map_nil]); first | done | rfl | (simp only [List.length_drop, List.length_take]; rfl)) ?_; (with_reducible refine (almanacref02_spend.calls _ _ l0_0 _ _ l0_1 a0_2 false t475 t478 t481 t482 true _ ?side1 ?side2 ?side3 ?side4 A12.out).mono ?_); (case side1 => exact cU (Kd.C_below HR0_0.out HB.out)); (case side2 => exact HC0_0.out); (case side3 => exact cU (Kd.C_below HR0_1.out HB.out)); (case side4 => exact HC0_1.out); rintro e w18 ⟨v476, v479, rfl, ho0, ho1, hb⟩; refine ⟨_, rfl, ?_⟩; have n0_ := Aside0.mk (Kd.R_lower ho0 (below_size (bU HB))); have n1_ := Aside0.mk (Kd.R_lower ho1 (below_size (bU HB))); have n2_ := Aside0.mk (blk_below (kU BK465) hb); have n3_ := Aside0.mk (blk_below (kU BK466) hb); have n4_ := Aside0.mk (below_step (bU HB) hb); clear BK465; clear BK466; clear HB; have HO477 := n0_; have HO480 := n1_; have BK465 := n2_; have BK466 := n3_; have HB := n4_; clear n0_ n1_ n2_ n3_ n4_; (try clear hb); (try clear hb2); (try clear hk); (try clear hi); (try clear ho0); (try clear ho1)) | ((with_reducible refine gate_dst (N := 4) rfl ?_); refine box_event ?hg (N := 4) ?hd (cs := #[.slice none 0 0, .slice none 0 0, .int .i64 0, .bool false]) (t := 25) ?hr ?_; (case hd => rfl); (case hg => rfl); (case hr => first | (go_simp; done) | (go_simp; rfl)); intro gb484 hg w19 hbox hb; have n0_ := Aside0.mk (Kd.R_below (rU HO477) hb); have n1_ := Aside0.mk (Kd.R_below (rU HO480) hb); have n2_ := Aside0.mk (blk_below (kU BK465) hb); have n3_ := Aside0.mk (blk_below (kU BK466) hb); have n4_ := Aside0.mk (below_step (bU HB) hb); have n5_ := Aside0.mk (hbox); have n6_ := Aside0.mk ((by rw [hg]; exact (below_size (bU HB)) : w.heap.size ≤ gb484)); have n7_ := Aside0.mk ((by rw [hg]; exact (below_size (bU HB)) : w.heap.size ≤ gb484)); have n8_ := Aside0.mk ((by rw [hg]; exact Nat.ne_of_lt (blk_lt (g := gb465) (o := .cells #[.slice A0_0 l0_0.length c0_0, .slice A0_1 l0_1.length c0_1, .int .i64 a0_2, .bool false] 25 (0, 0)) (kU BK465)) : gb465 ≠ gb484)); have n9_ := Aside0.mk ((by rw [hg]; exact Nat.ne_of_gt (blk_lt (g := gb465) (o := .cells #[.slice A0_0 l0_0.length c0_0, .slice A0_1 l0_1.length c0_1, .int .i64 a0_2, .bool false] 25 (0, 0)) (kU BK465)) : gb484 ≠ gb465)); have n10_ := Aside0.mk ((by rw [hg]; exact Nat.ne_of_lt (blk_lt (g := gb466) (o := .cells #[.slice none 0 0, .slice none 0 0, .int .i64 0, .bool false] 25 (0, 0)) (kU BK466)) : gb466 ≠ gb484)); have n11_ := Aside0.mk ((by rw [hg]; exact Nat.ne_of_gt (blk_lt (g := gb466) (o := .cells #[.slice none 0 0, .slice none 0 0, .int .i64 0, .bool false] 25 (0, 0)) (kU BK466)) : gb484 ≠ gb466)); clear HO477; clear HO480; clear BK465; clear BK466; clear HB; have HO477 := n0_; have HO480 := n1_; have BK465 := n2_; have BK466 := n3_; have HB := n4_; have BK484 := n5_; have GW484 := n6_; have GE484 := n7_; have NB465_484 := n8_; have NB484_465 := n9_; have NB466_484 := n10_; have NB484_466 := n11_; clear n0_ n1_ n2_ n3_ n4_ n5_ n6_ n7_ n8_ n9_ n10_ n11_; clear hb hbox hg; obtain ⟨Ao20, co20, eo20⟩ := Kd.R_slice HO477.out; subst eo20; have hnb21 := NB484_465.out; have hnc21 := NB465_484.out; have hnb22 := NB484_466.out; have hnc22 := NB466_484.out; have hcz23_0 : w19.cell? ⟨gb484, 0, none⟩ = some (.slice none 0 0) := (blk_cell BK484.out 0).trans rfl; have hcz23_1 : w19.cell? ⟨gb484, 1, none⟩ = some (.slice none 0 0) := (blk_cell BK484.out 1).trans rfl; have hcz23_2 : w19.cell? ⟨gb484, 2, none⟩ = some (.int .i64 0) := (blk_cell BK484.out 2).trans rfl; have hcz23_3 : w19.cell? ⟨gb484, 3, none⟩ = some (.bool false) := (blk_cell BK484.out 3).trans rfl; have hfz23_0 := blk_frozen BK484.out 0; have hfz23_1 := blk_frozen BK484.out 1; have hfz23_2 := blk_frozen BK484.out 2; have hfz23_3 := blk_frozen BK484.out 3; obtain ⟨Ao24, co24, eo24⟩ := Kd.R_slice HO480.out; subst eo24))
   go_loopg [6] k (fun kq v6 w' => ∃ (x6_1 : Int) (x485000_1 : List ByteArray) (u485000 : Value), v6 = .int .i64 x6_1 ∧ Aside0 (almanacref02_Flush.l0 kq x6_1 x485000_1 t478 t481 t482 = some (r1, r2, r3, r4, r5)) ∧ Aside0 (kq ≤ k) ∧ Aside0 (Kd.R Kd.string 9 w' w.heap.size (fun _ => True) u485000 x485000_1) ∧ Aside0 (Kd.R k40 40 w' w.heap.size (fun _ => True) (.slice Ao24 t478.length co24) t478) ∧ Aside0 (w'.heap[gb465]? = some (.cells #[(.slice A0_0 l0_0.length c0_0), (.slice A0_1 l0_1.length c0_1), .int .i64 a0_2, .bool false] 25 (0, 0))) ∧ Aside0 (w'.heap[gb466]? = some (.cells #[(.slice none 0 0), (.slice none 0 0), .int .i64 0, .bool false] 25 (0, 0))) ∧ Aside0 (w'.heap[gb484]? = some (.cells #[u485000, (.slice Ao24 t478.length co24), .int .i64 t481, .bool t482] 25 (0, 0))) ∧ Aside0 (Below w.heap.size w w'))
   case atStart => exact ⟨(0), (t475), (.slice Ao20 t475.length co20), (by first | rfl | (simp; done) | (simp [*]; done)), H', ⟨Nat.le_refl _⟩, ⟨by (with_reducible repeat (first | apply Kd.R_alloc | apply Kd.R_drewN | apply Kd.R_drew)); exact Kd.R_mono (Kd.R_far (p := ⟨gb484, 3, none⟩) (Kd.R_far (p := ⟨gb484, 2, none⟩) (Kd.R_far (p := ⟨gb484, 1, none⟩) (Kd.R_far (p := ⟨gb484, 0, none⟩) (Kd.R_types HO477.out BK484.out (by decide)) (fun _ hk => hk.2) (.slice Ao20 t475.length co20)) (fun _ hk => hk.2) (.slice Ao24 t478.length co24)) (fun _ hk => hk.2) (.int .i64 t481)) (fun _ hk => hk.2) (.bool t482)) (fun _ hk => trivial)⟩, ⟨by (with_reducible repeat (first | apply Kd.R_alloc | apply Kd.R_drewN | apply Kd.R_drew)); exact Kd.R_mono (Kd.R_far (p := ⟨gb484, 3, none⟩) (Kd.R_far (p := ⟨gb484, 2, none⟩) (Kd.R_far (p := ⟨gb484, 1, none⟩) (Kd.R_far (p := ⟨gb484, 0, none⟩) (Kd.R_types HO480.out BK484.out (by decide)) (fun _ hk => hk.2) (.slice Ao20 t475.length co20)) (fun _ hk => hk.2) (.slice Ao24 t478.length co24)) (fun _ hk => hk.2) (.int .i64 t481)) (fun _ hk => hk.2) (.bool t482)) (fun _ hk => trivial)⟩, ⟨kF BK465⟩, ⟨kF BK466⟩, ⟨kP BK484⟩, ⟨bU HB⟩⟩
   case round =>
    clear H'
    try clear c1
    try clear c2
    try clear p2
    try clear c4
    try clear c6
    try clear c9
    try clear c13
    try clear c16
    try clear c21
    try clear c22
    try clear hcz10_0 hcz10_1 hcz10_2 hcz10_3 hfz10_0 hfz10_1 hfz10_2 hfz10_3
    try clear hcz17_0 hcz17_1 hcz17_2 hcz17_3 hfz17_0 hfz17_1 hfz17_2 hfz17_3
    try clear hcz23_0 hcz23_1 hcz23_2 hcz23_3 hfz23_0 hfz23_1 hfz23_2 hfz23_3
    try clear hcz7_0 hcz7_1 hcz7_2 hcz7_3 hfz7_0 hfz7_1 hfz7_2 hfz7_3
    obtain ⟨x6_1, x485000_1, u485000, rfl, HA, HK1, HO_485000, HO_485001, BK465, BK466, BK484, HB⟩ := hrel
    cases gk with
    | zero => exact absurd HA.out (by simp [almanacref02_Flush.l0])
    | succ k1 =>
     have H := HA.out
     clear HA
     simp only [almanacref02_Flush.l0] at H
     by_cases c25 : x6_1 < (t478.length : Int)
     ·rw [if_pos c25] at H
      have c25b0 : decide (x6_1 < (t478.length : Int)) = true := decide_eq_true c25
      clear c25
      by_cases c26 : 0 ≤ x6_1
      ·rw [if_pos c26] at H
       have c26b0 : decide (0 ≤ x6_1) = true := decide_eq_true c26
       clear c26
       by_cases c27 : 0 ≤ ((rd_T40 t478 x6_1).f0)
       ·rw [if_pos c27] at H
        have c27b0 : decide (0 ≤ ((rd_T40 t478 x6_1).f0)) = true := decide_eq_true c27
        clear c27
        by_cases c28 : ((rd_T40 t478 x6_1).f0) < (x485000_1.length : Int)
        ·rw [if_pos c28] at H
         have c28b0 : decide (((rd_T40 t478 x6_1).f0) < (x485000_1.length : Int)) = true := decide_eq_true c28
         clear c28
         obtain ⟨y487, hy487⟩ : ∃ y_ : List ByteArray, y_ = (x485000_1.set (((rd_T40 t478 x6_1).f0) : Int).toNat ((rd_T40 t478 x6_1).f1)) := ⟨_, rfl⟩
         replace H : (almanacref02_Flush.l0 k1 (wrap64 (x6_1 + 1)) y487 t478 t481 t482) = some (r1, r2, r3, r4, r5) := by first | (rw [hy487]; with_reducible exact H) | (have H2_ := (Option.bind_some _ _).symm.trans H; rw [hy487]; with_reducible exact H2_) | (have H2_ := (Option.bind_some _ _).symm.trans H; with_reducible exact H2_) | with_reducible exact H | (rw [hy487]; exact H) | exact H
         have Ny487 := Aside0.mk hy487
         clear hy487
         have H' := Aside0.mk H
         clear H
         have hnb30 := NB484_465.out
         have hnc30 := NB465_484.out
         have hnb31 := NB484_466.out
         have hnc31 := NB466_484.out
         obtain ⟨hcz32_0, hcz32_1, hcz32_2, hcz32_3, hfz32_0, hfz32_1, hfz32_2, hfz32_3⟩ := k4 BK484
         try go_wp2
         have n0_ := Aside0.mk (Kd.R_drew HO_485000.out)
         have n1_ := Aside0.mk (Kd.R_drew HO_485001.out)
         have n2_ := Aside0.mk (blk_drew BK465.out)
         have n3_ := Aside0.mk (blk_drew BK466.out)
         have n4_ := Aside0.mk (blk_drew BK484.out)
         have n5_ := Aside0.mk (below_drew1 HB.out)
         clear HO_485000
         clear HO_485001
         clear BK465
         clear BK466
         clear BK484
         clear HB
         have HO_485000 := n0_
         have HO_485001 := n1_
         have BK465 := n2_
         have BK466 := n3_
         have BK484 := n4_
         have HB := n5_
         clear n0_ n1_ n2_ n3_ n4_ n5_
         have p485 : 0 ≤ (x6_1 : Int) := of_decide_eq_true (by first | (with_reducible assumption) | assumption)
         have q485 : x6_1 < (t478.length : Int) := of_decide_eq_true (by first | (with_reducible assumption) | assumption)
         obtain ⟨ad485, e485, hx485_0, hx485_1⟩ := at_T40 (Kd.R_reads' HO_485001.out).2.2 x6_1 p485 q485
         cases e485
         replace p485 := eq_true p485
         replace q485 := eq_true q485
         have p486 : 0 ≤ (x6_1 : Int) := of_decide_eq_true (by first | (with_reducible assumption) | assumption)
         have q486 : x6_1 < (t478.length : Int) := of_decide_eq_true (by first | (with_reducible assumption) | assumption)
         obtain ⟨ad486, e486, hx486_0, hx486_1⟩ := at_T40 (Kd.R_reads' HO_485001.out).2.2 x6_1 p486 q486
         obtain rfl : ad485 = ad486 := (by injection e486)
         replace p486 := eq_true p486
         replace q486 := eq_true q486
         have p29 : 0 ≤ (((rd_T40 t478 x6_1).f0) : Int) := of_decide_eq_true (by first | (with_reducible assumption) | assumption)
         have q29 : (((rd_T40 t478 x6_1).f0) : Int) < ((x485000_1.length : Int) : Int) := of_decide_eq_true (by first | (with_reducible assumption) | assumption)
         obtain ⟨go29, co29, eo29, gb29, gl29, cl29, HG29⟩ := Kd.R_form HO_485000.out (by omega)
         (first | cases eo29 | (injection eo29 with ea_ en_ ec_; (first | subst ea_ | (injection ea_ with ea_; subst ea_)); subst ec_; clear en_))
         have GB29 := Aside0.mk gb29
         have GG29 := Aside0.mk HG29
         clear gb29 gl29 HG29
         obtain ⟨hx29_0, hf29_0⟩ := Kd.R_celln (⟨#[]⟩ : ByteArray) HO_485000.out (((rd_T40 t478 x6_1).f0) : Int) p29 q29
         replace p29 := eq_true p29
         replace q29 := eq_true q29
         have HP34 := Kd.R_putn HO_485000.out (((rd_T40 t478 x6_1).f0) : Int) ((rd_T40 t478 x6_1).f1)
         rw [← Ny487.out] at HP34
         have HQ34 := Aside0.mk HP34
         clear HP34
         refine start_ (n := 16) (S := fun w' => w'.cell? ⟨gb484, 0, none⟩ = some (.slice (some ⟨go29, 0, none⟩) x485000_1.length co29) ∧ w'.cell? ⟨gb484, 1, none⟩ = some (.slice (some ad485) t478.length co24) ∧ w'.cell? ⟨gb484, 2, none⟩ = some (.int .i64 t481) ∧ w'.cell? ⟨gb484, 3, none⟩ = some (.bool t482) ∧ w'.cell? (ad485.add ((x6_1).toNat * 2)) = some (.int .i64 ((rd_T40 t478 x6_1).f0)) ∧ w'.cell? ⟨(ad485.add ((x6_1).toNat * 2)).block, (ad485.add ((x6_1).toNat * 2)).off + 1, none⟩ = some (.string ((rd_T40 t478 x6_1).f1)) ∧ w'.cell? (ad485.add ((x6_1).toNat * 2)) = some (.int .i64 ((rd_T40 t478 x6_1).f0)) ∧ w'.cell? ⟨(ad485.add ((x6_1).toNat * 2)).block, (ad485.add ((x6_1).toNat * 2)).off + 1, none⟩ = some (.string ((rd_T40 t478 x6_1).f1))) (ds := [15]) #[false, false, false, false, false, false, false, false, false, false, false, false, false, false, false, false] (by kernel_rfl) rfl rfl ⟨(blk_cell BK484.out 0).trans rfl, (blk_cell BK484.out 1).trans rfl, (blk_cell BK484.out 2).trans rfl, (blk_cell BK484.out 3).trans rfl, hx485_0, hx485_1, hx486_0, hx486_1⟩ (fun hHeld => ?_); refine with_tabW almanacref02_Flush.tab9 almanacref02_Flush.bits9 (fun HT_ HW_ => ?_)
         generalize wr.drew = w33 at HO_485000 HO_485001 BK465 BK466 BK484 HB GG29 HQ34 hf29_0 hx29_0 hx485_0 hx485_1 hx486_0 hx486_1 hHeld ⊢
         refine pure_ (i := 0) (N := some 26) (v := ?_) (a' := ?_) #[true, false, false, false, false, false, false, false, false, false, false, false, false, false, false, false] rfl rfl (any_of HT_.out (by kernel_rfl)) (fun _ _ _ h => h) (Or.inl ⟨by rfl, ?_⟩) ?_ ?_
         rotate_left
         ·intro w'
          go_simp
          with_reducible rfl
         rotate_left
         ·simp only [Act.put, List.setIfInBounds_toArray, List.set_cons_zero, List.set_cons_succ, i64_w, i32_w]
          rfl
         refine pure_ (i := 2) (N := some 28) (v := ?_) (a' := ?_) #[true, false, true, false, false, false, false, false, false, false, false, false, false, false, false, false] rfl rfl (any_of HT_.out (by kernel_rfl)) (fun _ _ _ h => h) (Or.inl ⟨by rfl, ?_⟩) ?_ ?_
         rotate_left
         ·intro w'
          go_simp
          with_reducible rfl
         rotate_left
         ·simp only [Act.put, List.setIfInBounds_toArray, List.set_cons_zero, List.set_cons_succ, i64_w, i32_w]
          rfl
         refine pure_ (i := 4) (N := some 30) (v := ?_) (a' := ?_) #[true, false, true, false, true, false, false, false, false, false, false, false, false, false, false, false] rfl rfl (any_of HT_.out (by kernel_rfl)) (fun _ _ _ h => h) (Or.inl ⟨by rfl, ?_⟩) ?_ ?_
         rotate_left
         ·intro w'
          go_simp
          with_reducible rfl
         rotate_left
         ·simp only [Act.put, List.setIfInBounds_toArray, List.set_cons_zero, List.set_cons_succ, i64_w, i32_w]
          rfl
         refine pure_ (i := 8) (N := some 34) (v := ?_) (a' := ?_) #[true, false, true, false, true, false, false, false, true, false, false, false, false, false, false, false] rfl rfl (any_of HT_.out (by kernel_rfl)) (fun _ _ _ h => h) (Or.inl ⟨by rfl, ?_⟩) ?_ ?_
         rotate_left
         ·intro w'
          go_simp
          with_reducible rfl
         rotate_left
         ·simp only [Act.put, List.setIfInBounds_toArray, List.set_cons_zero, List.set_cons_succ, i64_w, i32_w]
          rfl
         refine pure_ (i := 10) (N := some 36) (v := ?_) (a' := ?_) #[true, false, true, false, true, false, false, false, true, false, true, false, false, false, false, false] rfl rfl (any_of HT_.out (by kernel_rfl)) (fun _ _ _ h => h) (Or.inl ⟨by rfl, ?_⟩) ?_ ?_
         rotate_left
         ·intro w'
          go_simp
          with_reducible rfl
         rotate_left
         ·simp only [Act.put, List.setIfInBounds_toArray, List.set_cons_zero, List.set_cons_succ, i64_w, i32_w]
          rfl
         refine take_ (i := 1) (N := some 27) (v := ?_) (a' := ?_) #[true, true, true, false, true, false, false, false, true, false, true, false, false, false, false, false] rfl rfl (take_ofW HT_.out HW_.out (by kernel_rfl)) (fun _ _ _ h => h) (Or.inl ⟨by rfl, ?_⟩) hHeld ?_ ?_
         rotate_left
         ·rintro w' ⟨s0, s1, s2, s3, s4, s5, s6, s7⟩
          go_simp
          with_reducible rfl
         rotate_left
         ·simp only [Act.put, List.setIfInBounds_toArray, List.set_cons_zero, List.set_cons_succ, i64_w, i32_w]
          rfl
         refine take_ (i := 3) (N := some 29) (v := ?_) (a' := ?_) #[true, true, true, true, true, false, false, false, true, false, true, false, false, false, false, false] rfl rfl (take_ofW HT_.out HW_.out (by kernel_rfl)) (fun _ _ _ h => h) (Or.inl ⟨by rfl, ?_⟩) hHeld ?_ ?_
         rotate_left
         ·rintro w' ⟨s0, s1, s2, s3, s4, s5, s6, s7⟩
          go_simp
          with_reducible rfl
         rotate_left
         ·simp only [Act.put, List.setIfInBounds_toArray, List.set_cons_zero, List.set_cons_succ, i64_w, i32_w]
          rfl
         refine pure_ (i := 5) (N := some 31) (v := ?_) (a' := ?_) #[true, true, true, true, true, true, false, false, true, false, true, false, false, false, false, false] rfl rfl (any_of HT_.out (by kernel_rfl)) (fun _ _ _ h => h) (Or.inl ⟨by rfl, ?_⟩) ?_ ?_
         rotate_left
         ·intro w'
          go_simp
          with_reducible rfl
         rotate_left
         ·simp only [Act.put, List.setIfInBounds_toArray, List.set_cons_zero, List.set_cons_succ, i64_w, i32_w]
          rfl
         refine pure_ (i := 6) (N := some 32) (v := ?_) (a' := ?_) #[true, true, true, true, true, true, true, false, true, false, true, false, false, false, false, false] rfl rfl (any_of HT_.out (by kernel_rfl)) (fun _ _ _ h => h) (Or.inl ⟨by rfl, ?_⟩) ?_ ?_
         rotate_left
         ·intro w'
          go_simp
          with_reducible rfl
         rotate_left
         ·simp only [Act.put, List.setIfInBounds_toArray, List.set_cons_zero, List.set_cons_succ, i64_w, i32_w]
          rfl
         refine take_ (i := 7) (N := some 33) (v := ?_) (a' := ?_) #[true, true, true, true, true, true, true, true, true, false, true, false, false, false, false, false] rfl rfl (take_ofW HT_.out HW_.out (by kernel_rfl)) (fun _ _ _ h => h) (Or.inl ⟨by rfl, ?_⟩) hHeld ?_ ?_
         rotate_left
         ·rintro w' ⟨s0, s1, s2, s3, s4, s5, s6, s7⟩
          go_simp
          with_reducible rfl
         rotate_left
         ·simp only [Act.put, List.setIfInBounds_toArray, List.set_cons_zero, List.set_cons_succ, i64_w, i32_w]
          rfl
         refine take_ (i := 9) (N := some 35) (v := ?_) (a' := ?_) #[true, true, true, true, true, true, true, true, true, true, true, false, false, false, false, false] rfl rfl (take_ofW HT_.out HW_.out (by kernel_rfl)) (fun _ _ _ h => h) (Or.inl ⟨by rfl, ?_⟩) hHeld ?_ ?_
         rotate_left
         ·rintro w' ⟨s0, s1, s2, s3, s4, s5, s6, s7⟩
          go_simp
          with_reducible rfl
         rotate_left
         ·simp only [Act.put, List.setIfInBounds_toArray, List.set_cons_zero, List.set_cons_succ, i64_w, i32_w]
          rfl
         refine pure_ (i := 11) (N := some 37) (v := ?_) (a' := ?_) #[true, true, true, true, true, true, true, true, true, true, true, true, false, false, false, false] rfl rfl (any_of HT_.out (by kernel_rfl)) (fun _ _ _ h => h) (Or.inl ⟨by rfl, ?_⟩) ?_ ?_
         rotate_left
         ·intro w'
          go_simp
          with_reducible rfl
         rotate_left
         ·simp only [Act.put, List.setIfInBounds_toArray, List.set_cons_zero, List.set_cons_succ, i64_w, i32_w]
          rfl
         refine pure_ (i := 12) (N := some 38) (v := ?_) (a' := ?_) #[true, true, true, true, true, true, true, true, true, true, true, true, true, false, false, false] rfl rfl (any_of HT_.out (by kernel_rfl)) (fun _ _ _ h => h) (Or.inl ⟨by rfl, ?_⟩) ?_ ?_
         rotate_left
         ·intro w'
          go_simp
          with_reducible rfl
         rotate_left
         ·simp only [Act.put, List.setIfInBounds_toArray, List.set_cons_zero, List.set_cons_succ, i64_w, i32_w]
          rfl
         refine take_ (i := 13) (N := some 39) (v := ?_) (a' := ?_) #[true, true, true, true, true, true, true, true, true, true, true, true, true, true, false, false] rfl rfl (take_ofW HT_.out HW_.out (by kernel_rfl)) (fun _ _ _ h => h) (Or.inl ⟨by rfl, ?_⟩) hHeld ?_ ?_
         rotate_left
         ·rintro w' ⟨s0, s1, s2, s3, s4, s5, s6, s7⟩
          go_simp
          with_reducible rfl
         rotate_left
         ·simp only [Act.put, List.setIfInBounds_toArray, List.set_cons_zero, List.set_cons_succ, i64_w, i32_w]
          rfl
         refine pure_ (i := 14) (N := some 40) (v := ?_) (a' := ?_) #[true, true, true, true, true, true, true, true, true, true, true, true, true, true, true, false] rfl rfl (any_of HT_.out (by kernel_rfl)) (fun _ _ _ h => h) (Or.inl ⟨by rfl, ?_⟩) ?_ ?_
         rotate_left
         ·intro w'
          go_simp
          with_reducible rfl
         rotate_left
         ·simp only [Act.put, List.setIfInBounds_toArray, List.set_cons_zero, List.set_cons_succ, i64_w, i32_w]
          rfl
         refine last_ (i := 15) (N := none) #[true, true, true, true, true, true, true, true, true, true, true, true, true, true, true, true] rfl rfl (one_of HT_.out (by kernel_rfl)) (by decide) (fun K hK => ?_)
         refine skip_ (w1 := ?_) (by rfl) rfl ?_ ?_
         rotate_left
         ·go_simp
          rfl
         refine hK.out _ _ ?_
         clear hK K
         refine done_ (done_of HT_.out (by kernel_rfl)) ?_
         try go_wp2
         go_roundg k1
         case measure => have := HK1.out; omega
         case rel => exact ⟨(wrap64 (x6_1 + 1)), (y487), (.slice (some ⟨go29, 0, none⟩) x485000_1.length co29), (by first | rfl | (simp; done) | (simp [*]; done)), H', ⟨by have := HK1.out; omega⟩, ⟨rU HQ34⟩, ⟨by (with_reducible repeat (first | apply Kd.R_alloc | apply Kd.R_drewN | apply Kd.R_drew)); exact Kd.R_mono (Kd.R_far (p := ⟨go29, (((rd_T40 t478 x6_1).f0) : Int).toNat, none⟩) (Kd.R_types HO_485001.out GG29.out (by decide)) (fun _ hk => hk.2) (.string ((rd_T40 t478 x6_1).f1))) (fun _ hk => trivial)⟩, ⟨by (with_reducible repeat (first | refine blk_drewN ?_ _ | refine blk_drew ?_ | refine blk_alloc ?_ _)); refine blk_far ?_ (by have h_ := Kd.R_ne HO_485000.out BK465.out (by decide); intro e_; exact h_ (by rw [e_]; rfl)) _; (with_reducible repeat (first | refine blk_drewN ?_ _ | refine blk_drew ?_ | refine blk_alloc ?_ _)); exact BK465.out⟩, ⟨by (with_reducible repeat (first | refine blk_drewN ?_ _ | refine blk_drew ?_ | refine blk_alloc ?_ _)); refine blk_far ?_ (by have h_ := Kd.R_ne HO_485000.out BK466.out (by decide); intro e_; exact h_ (by rw [e_]; rfl)) _; (with_reducible repeat (first | refine blk_drewN ?_ _ | refine blk_drew ?_ | refine blk_alloc ?_ _)); exact BK466.out⟩, ⟨by (with_reducible repeat (first | refine blk_drewN ?_ _ | refine blk_drew ?_ | refine blk_alloc ?_ _)); refine blk_far ?_ (by have h_ := Kd.R_ne HO_485000.out BK484.out (by decide); intro e_; exact h_ (by rw [e_]; rfl)) _; (with_reducible repeat (first | refine blk_drewN ?_ _ | refine blk_drew ?_ | refine blk_alloc ?_ _)); exact BK484.out⟩, ⟨bU HB⟩⟩
        ·rw [if_neg c28] at H
         exact absurd H (by simp)
       ·rw [if_neg c27] at H
        exact absurd H (by simp)
      ·rw [if_neg c26] at H
       exact absurd H (by simp)
     ·rw [if_neg c25] at H
      have c25b0 : decide (x6_1 < (t478.length : Int)) = false := decide_eq_false c25
      clear c25
      simp only [Option.some.injEq, Prod.mk.injEq] at H
      obtain ⟨rfl, rfl, rfl, rfl, rfl⟩ := H
      have hnb35 := NB484_465.out
      have hnc35 := NB465_484.out
      have hnb36 := NB484_466.out
      have hnc36 := NB466_484.out
      obtain ⟨hcz37_0, hcz37_1, hcz37_2, hcz37_3, hfz37_0, hfz37_1, hfz37_2, hfz37_3⟩ := k4 BK484
      obtain ⟨Ao38, co38, eo38⟩ := Kd.R_slice HO_485000.out
      subst eo38
      have hnb39 := NB466_465.out
      have hnc39 := NB465_466.out
      obtain ⟨hcz40_0, hcz40_1, hcz40_2, hcz40_3, hfz40_0, hfz40_1, hfz40_2, hfz40_3⟩ := k4 BK466
      go_wp2
      refine bodyPost_ret (results_ct rfl _ _ gb466 25 #[.slice Ao38 x485000_1.length co38, .slice none 0 0, .int .i64 t481, .bool t482] (0, 0) _ rfl (kP BK466) Try.underlying25 rfl (by kernel_rfl)) rfl ?_
      exact ⟨_, _, eqU, by (with_reducible repeat (first | apply Kd.R_alloc | apply Kd.R_drewN | apply Kd.R_drew)); exact Kd.R_mono (Kd.R_far (p := ⟨gb466, 3, none⟩) (Kd.R_far (p := ⟨gb466, 2, none⟩) (Kd.R_far (p := ⟨gb466, 1, none⟩) (Kd.R_far (p := ⟨gb466, 0, none⟩) (Kd.R_far (p := ⟨gb484, 1, none⟩) (Kd.R_types (Kd.R_types HO_485000.out BK484.out (by decide)) BK466.out (by decide)) (fun _ hk => hk.1.2) (.slice none 0 0)) (fun _ hk => hk.2) (.slice Ao38 x485000_1.length co38)) (fun _ hk => hk.2) (.slice none 0 0)) (fun _ hk => hk.2) (.int .i64 t481)) (fun _ hk => hk.2) (.bool t482)) (fun _ hk => trivial), by first | exact Kd.R_nil _ _ _ _ _ | exact Kd.N_nil _ _ _ _ _ | exact Kd.V_nil _ _ _ _ _ | exact Kd.Q_nil _ _ _ _ _ | exact Kd.S_nil _ _ _ _ _, bU HB⟩
  ·replace c13 := Bool.eq_false_iff.mpr c13
   subst c13
   have H1 : (some (t475, t478, t481, t482, 16)) = some (r1, r2, r3, r4, r5) := by rw [if_neg (show ¬ (false = true) by decide)] at H; exact H
   clear H
   have H := H1
   clear H1
   simp only [Option.some.injEq, Prod.mk.injEq] at H
   obtain ⟨rfl, rfl, rfl, rfl, rfl⟩ := H
   go_enter Try.func22, Try.ntmps22
   go_wp2_with (first | ((with_reducible refine gate_dst (N := 1) rfl ?_); refine box_event ?hg (N := 1) ?hd (cs := #[.slice A0_0 l0_0.length c0_0, .slice A0_1 l0_1.length c0_1, .int .i64 a0_2, .bool false]) (t := 25) ?hr ?_; (case hd => rfl); (case hg => rfl); (case hr => first | (go_simp; done) | (go_simp; rfl)); intro gb465 hg w41 hbox hb; have n0_ := Aside0.mk (below_step (bU HB) hb); have n1_ := Aside0.mk (hbox); have n2_ := Aside0.mk ((by rw [hg]; exact (below_size (bU HB)) : w.heap.size ≤ gb465)); have n3_ := Aside0.mk ((by rw [hg]; exact (below_size (bU HB)) : w.heap.size ≤ gb465)); clear HB; have HB := n0_; have BK465 := n1_; have GW465 := n2_; have GE465 := n3_; clear n0_ n1_ n2_ n3_; clear hb hbox hg) | ((with_reducible refine gate_dst (N := 2) rfl ?_); refine box_event ?hg (N := 2) ?hd (cs := #[.slice none 0 0, .slice none 0 0, .int .i64 0, .bool false]) (t := 25) ?hr ?_; (case hd => rfl); (case hg => rfl); (case hr => first | (go_simp; done) | (go_simp; rfl)); intro gb466 hg w42 hbox hb; have n0_ := Aside0.mk (blk_below (kU BK465) hb); have n1_ := Aside0.mk (below_step (bU HB) hb); have n2_ := Aside0.mk (hbox); have n3_ := Aside0.mk ((by rw [hg]; exact (below_size (bU HB)) : w.heap.size ≤ gb466)); have n4_ := Aside0.mk ((by rw [hg]; exact (below_size (bU HB)) : w.heap.size ≤ gb466)); have n5_ := Aside0.mk ((by rw [hg]; exact Nat.ne_of_lt (blk_lt (g := gb465) (o := .cells #[.slice A0_0 l0_0.length c0_0, .slice A0_1 l0_1.length c0_1, .int .i64 a0_2, .bool false] 25 (0, 0)) (kU BK465)) : gb465 ≠ gb466)); have n6_ := Aside0.mk ((by rw [hg]; exact Nat.ne_of_gt (blk_lt (g := gb465) (o := .cells #[.slice A0_0 l0_0.length c0_0, .slice A0_1 l0_1.length c0_1, .int .i64 a0_2, .bool false] 25 (0, 0)) (kU BK465)) : gb466 ≠ gb465)); clear BK465; clear HB; have BK465 := n0_; have HB := n1_; have BK466 := n2_; have GW466 := n3_; have GE466 := n4_; have NB465_466 := n5_; have NB466_465 := n6_; clear n0_ n1_ n2_ n3_ n4_ n5_ n6_; clear hb hbox hg; have hnb43 := NB465_466.out; have hnc43 := NB466_465.out; have hcz44_0 : w42.cell? ⟨gb465, 0, none⟩ = some (.slice A0_0 l0_0.length c0_0) := (blk_cell BK465.out 0).trans rfl; have hcz44_1 : w42.cell? ⟨gb465, 1, none⟩ = some (.slice A0_1 l0_1.length c0_1) := (blk_cell BK465.out 1).trans rfl; have hcz44_2 : w42.cell? ⟨gb465, 2, none⟩ = some (.int .i64 a0_2) := (blk_cell BK465.out 2).trans rfl; have hcz44_3 : w42.cell? ⟨gb465, 3, none⟩ = some (.bool false) := (blk_cell BK465.out 3).trans rfl; have hfz44_0 := blk_frozen BK465.out 0; have hfz44_1 := blk_frozen BK465.out 1; have hfz44_2 := blk_frozen BK465.out 2; have hfz44_3 := blk_frozen BK465.out 3) | ((with_reducible refine gate_callee (f := 43) rfl ?_); refine goesL_ (some 13) rfl rfl Try.func43 (by kernel_rfl) rfl #[.agg #[.slice A0_0 l0_0.length c0_0, .slice A0_1 l0_1.length c0_1, .int .i64 a0_2, .bool false]] rfl (by (try simp only [List.map_toArray, List.map_cons, List.map_nil]); first | done | rfl | (simp only [List.length_drop, List.length_take]; rfl)) ?_; (with_reducible refine (almanacref02_spend.calls _ _ l0_0 _ _ l0_1 a0_2 false t475 t478 t481 t482 false _ ?side1 ?side2 ?side3 ?side4 A12.out).mono ?_); (case side1 => exact cU (Kd.C_below HR0_0.out HB.out)); (case side2 => exact HC0_0.out); (case side3 => exact cU (Kd.C_below HR0_1.out HB.out)); (case side4 => exact HC0_1.out); rintro e w45 ⟨v476, v479, rfl, ho0, ho1, hb⟩; refine ⟨_, rfl, ?_⟩; have n0_ := Aside0.mk (Kd.R_lower ho0 (below_size (bU HB))); have n1_ := Aside0.mk (Kd.R_lower ho1 (below_size (bU HB))); have n2_ := Aside0.mk (blk_below (kU BK465) hb); have n3_ := Aside0.mk (blk_below (kU BK466) hb); have n4_ := Aside0.mk (below_step (bU HB) hb); clear BK465; clear BK466; clear HB; have HO477 := n0_; have HO480 := n1_; have BK465 := n2_; have BK466 := n3_; have HB := n4_; clear n0_ n1_ n2_ n3_ n4_; (try clear hb); (try clear hb2); (try clear hk); (try clear hi); (try clear ho0); (try clear ho1)) | ((with_reducible refine gate_dst (N := 4) rfl ?_); refine box_event ?hg (N := 4) ?hd (cs := #[.slice none 0 0, .slice none 0 0, .int .i64 0, .bool false]) (t := 25) ?hr ?_; (case hd => rfl); (case hg => rfl); (case hr => first | (go_simp; done) | (go_simp; rfl)); intro gb484 hg w46 hbox hb; have n0_ := Aside0.mk (Kd.R_below (rU HO477) hb); have n1_ := Aside0.mk (Kd.R_below (rU HO480) hb); have n2_ := Aside0.mk (blk_below (kU BK465) hb); have n3_ := Aside0.mk (blk_below (kU BK466) hb); have n4_ := Aside0.mk (below_step (bU HB) hb); have n5_ := Aside0.mk (hbox); have n6_ := Aside0.mk ((by rw [hg]; exact (below_size (bU HB)) : w.heap.size ≤ gb484)); have n7_ := Aside0.mk ((by rw [hg]; exact (below_size (bU HB)) : w.heap.size ≤ gb484)); have n8_ := Aside0.mk ((by rw [hg]; exact Nat.ne_of_lt (blk_lt (g := gb465) (o := .cells #[.slice A0_0 l0_0.length c0_0, .slice A0_1 l0_1.length c0_1, .int .i64 a0_2, .bool false] 25 (0, 0)) (kU BK465)) : gb465 ≠ gb484)); have n9_ := Aside0.mk ((by rw [hg]; exact Nat.ne_of_gt (blk_lt (g := gb465) (o := .cells #[.slice A0_0 l0_0.length c0_0, .slice A0_1 l0_1.length c0_1, .int .i64 a0_2, .bool false] 25 (0, 0)) (kU BK465)) : gb484 ≠ gb465)); have n10_ := Aside0.mk ((by rw [hg]; exact Nat.ne_of_lt (blk_lt (g := gb466) (o := .cells #[.slice none 0 0, .slice none 0 0, .int .i64 0, .bool false] 25 (0, 0)) (kU BK466)) : gb466 ≠ gb484)); have n11_ := Aside0.mk ((by rw [hg]; exact Nat.ne_of_gt (blk_lt (g := gb466) (o := .cells #[.slice none 0 0, .slice none 0 0, .int .i64 0, .bool false] 25 (0, 0)) (kU BK466)) : gb484 ≠ gb466)); clear HO477; clear HO480; clear BK465; clear BK466; clear HB; have HO477 := n0_; have HO480 := n1_; have BK465 := n2_; have BK466 := n3_; have HB := n4_; have BK484 := n5_; have GW484 := n6_; have GE484 := n7_; have NB465_484 := n8_; have NB484_465 := n9_; have NB466_484 := n10_; have NB484_466 := n11_; clear n0_ n1_ n2_ n3_ n4_ n5_ n6_ n7_ n8_ n9_ n10_ n11_; clear hb hbox hg; obtain ⟨Ao47, co47, eo47⟩ := Kd.R_slice HO477.out; subst eo47; have hnb48 := NB484_465.out; have hnc48 := NB465_484.out; have hnb49 := NB484_466.out; have hnc49 := NB466_484.out; have hcz50_0 : w46.cell? ⟨gb484, 0, none⟩ = some (.slice none 0 0) := (blk_cell BK484.out 0).trans rfl; have hcz50_1 : w46.cell? ⟨gb484, 1, none⟩ = some (.slice none 0 0) := (blk_cell BK484.out 1).trans rfl; have hcz50_2 : w46.cell? ⟨gb484, 2, none⟩ = some (.int .i64 0) := (blk_cell BK484.out 2).trans rfl; have hcz50_3 : w46.cell? ⟨gb484, 3, none⟩ = some (.bool false) := (blk_cell BK484.out 3).trans rfl; have hfz50_0 := blk_frozen BK484.out 0; have hfz50_1 := blk_frozen BK484.out 1; have hfz50_2 := blk_frozen BK484.out 2; have hfz50_3 := blk_frozen BK484.out 3; obtain ⟨Ao51, co51, eo51⟩ := Kd.R_slice HO480.out; subst eo51; have hcz52_0 : w46.cell? ⟨gb466, 0, none⟩ = some (.slice none 0 0) := (blk_cell BK466.out 0).trans rfl; have hcz52_1 : w46.cell? ⟨gb466, 1, none⟩ = some (.slice none 0 0) := (blk_cell BK466.out 1).trans rfl; have hcz52_2 : w46.cell? ⟨gb466, 2, none⟩ = some (.int .i64 0) := (blk_cell BK466.out 2).trans rfl; have hcz52_3 : w46.cell? ⟨gb466, 3, none⟩ = some (.bool false) := (blk_cell BK466.out 3).trans rfl; have hfz52_0 := blk_frozen BK466.out 0; have hfz52_1 := blk_frozen BK466.out 1; have hfz52_2 := blk_frozen BK466.out 2; have hfz52_3 := blk_frozen BK466.out 3))
   refine bodyPost_ret (results_ct rfl _ _ gb466 25 #[.slice Ao47 t475.length co47, .slice Ao51 t478.length co51, .int .i64 t481, .bool t482] (0, 0) _ rfl (kP BK466) Try.underlying25 rfl (by kernel_rfl)) rfl ?_
   exact ⟨_, _, eqU, by (with_reducible repeat (first | apply Kd.R_alloc | apply Kd.R_drewN | apply Kd.R_drew)); exact Kd.R_mono (Kd.R_far (p := ⟨gb466, 3, none⟩) (Kd.R_far (p := ⟨gb466, 2, none⟩) (Kd.R_far (p := ⟨gb466, 1, none⟩) (Kd.R_far (p := ⟨gb466, 0, none⟩) (Kd.R_far (p := ⟨gb484, 3, none⟩) (Kd.R_far (p := ⟨gb484, 2, none⟩) (Kd.R_far (p := ⟨gb484, 1, none⟩) (Kd.R_far (p := ⟨gb484, 0, none⟩) (Kd.R_types (Kd.R_types HO477.out BK484.out (by decide)) BK466.out (by decide)) (fun _ hk => hk.1.2) (.slice Ao47 t475.length co47)) (fun _ hk => hk.1.2) (.slice Ao51 t478.length co51)) (fun _ hk => hk.1.2) (.int .i64 t481)) (fun _ hk => hk.1.2) (.bool t482)) (fun _ hk => hk.2) (.slice Ao47 t475.length co47)) (fun _ hk => hk.2) (.slice Ao51 t478.length co51)) (fun _ hk => hk.2) (.int .i64 t481)) (fun _ hk => hk.2) (.bool t482)) (fun _ hk => trivial), by (with_reducible repeat (first | apply Kd.R_alloc | apply Kd.R_drewN | apply Kd.R_drew)); exact Kd.R_mono (Kd.R_far (p := ⟨gb466, 3, none⟩) (Kd.R_far (p := ⟨gb466, 2, none⟩) (Kd.R_far (p := ⟨gb466, 1, none⟩) (Kd.R_far (p := ⟨gb466, 0, none⟩) (Kd.R_far (p := ⟨gb484, 3, none⟩) (Kd.R_far (p := ⟨gb484, 2, none⟩) (Kd.R_far (p := ⟨gb484, 1, none⟩) (Kd.R_far (p := ⟨gb484, 0, none⟩) (Kd.R_types (Kd.R_types HO480.out BK484.out (by decide)) BK466.out (by decide)) (fun _ hk => hk.1.2) (.slice Ao47 t475.length co47)) (fun _ hk => hk.1.2) (.slice Ao51 t478.length co51)) (fun _ hk => hk.1.2) (.int .i64 t481)) (fun _ hk => hk.1.2) (.bool t482)) (fun _ hk => hk.2) (.slice Ao47 t475.length co47)) (fun _ hk => hk.2) (.slice Ao51 t478.length co51)) (fun _ hk => hk.2) (.int .i64 t481)) (fun _ hk => hk.2) (.bool t482)) (fun _ hk => trivial), bU HB⟩

end Go.Proofs.Ytaocplhijfkicaa.PD
-- written by a program of this work (mk.sh, over the kit's print; stubs are proved by hand)
namespace Go.Proofs.Ytaocplhijfkicaa.PD
open Go.RowKit Go.Proofs.YtaocplhijfkicaaW.PrintWords Go.Proofs.YtaocplhijfkicaaW.PrintLast Go.Proofs.YtaocplhijfkicaaW.PrintMore
attribute [local go_sem] isSome_setCell max2_int min2_int max_two min_two   -- for this text's walks alone
set_option linter.unusedVariables false
set_option linter.unusedSimpArgs false

/-! ### almanacref02_Crash: function 23 -/
mutual
def almanacref02_Crash.l0 : Nat → List Bool → Int → List ByteArray → List (S40) → Int → Bool → List ByteArray → List (S40) → Int → Bool → Option (List ByteArray × (List (S40)) × Int × Bool)
 | 0, _, _, _, _, _, _, _, _, _, _ => none
 | k + 1, x1, x6, x489000, x489001, x489002, x489003, x499000, x499001, x499002, x499003 => if x6 < (x489001.length : Int) then (almanacref02_Crash.j1 k x1 x6 (decide (x6 < (x1.length : Int))) x489000 x489001 x489002 x489003 x499000 x499001 x499002 x499003) else (almanacref02_Crash.j1 k x1 x6 false x489000 x489001 x489002 x489003 x499000 x499001 x499002 x499003)
def almanacref02_Crash.j1 : Nat → List Bool → Int → Bool → List ByteArray → List (S40) → Int → Bool → List ByteArray → List (S40) → Int → Bool → Option (List ByteArray × (List (S40)) × Int × Bool)
 | 0, _, _, _, _, _, _, _, _, _, _, _ => none
 | k + 1, x1, x6, x19, x489000, x489001, x489002, x489003, x499000, x499001, x499002, x499003 => if x19 = true then (if 0 ≤ x6 then (if x6 < (x1.length : Int) then (if rdOf false x1 x6 = true then (if x6 < (x489001.length : Int) then (if 0 ≤ ((rd_T40 x489001 x6).f0) then (if ((rd_T40 x489001 x6).f0) < (x499000.length : Int) then (almanacref02_Crash.l0 k x1 (wrap64 (x6 + 1)) x489000 x489001 x489002 x489003 (x499000.set (((rd_T40 x489001 x6).f0) : Int).toNat ((rd_T40 x489001 x6).f1)) x499001 x499002 x499003) else (none)) else (none)) else (none)) else (almanacref02_Crash.l0 k x1 (wrap64 (x6 + 1)) x489000 x489001 x489002 x489003 x499000 x499001 x499002 x499003)) else (none)) else (none)) else (some (x499000, ([] : List (S40)), (-1), false))
end
def almanacref02_Crash.f (k : Nat) (l0_0 : List ByteArray) (l0_1 : List (S40)) (a0_2 : Int) (a0_3 : Bool) (l1 : List Bool) : Option (List ByteArray × (List (S40)) × Int × Bool) := (almanacref02_Copy.f l0_0 l0_1 a0_2 a0_3).bind fun bt490 => (almanacref02_Crash.l0 k l1 0 l0_0 l0_1 a0_2 a0_3 bt490.1 bt490.2.1 bt490.2.2.1 bt490.2.2.2)
theorem almanacref02_Crash.mono_l : ∀ k, (∀ y0 y1 y2 y3 y4 y5 y6 y7 y8 y9, LeO (almanacref02_Crash.l0 k y0 y1 y2 y3 y4 y5 y6 y7 y8 y9) (almanacref02_Crash.l0 (k + 1) y0 y1 y2 y3 y4 y5 y6 y7 y8 y9)) ∧ (∀ y0 y1 y2 y3 y4 y5 y6 y7 y8 y9 y10, LeO (almanacref02_Crash.j1 k y0 y1 y2 y3 y4 y5 y6 y7 y8 y9 y10) (almanacref02_Crash.j1 (k + 1) y0 y1 y2 y3 y4 y5 y6 y7 y8 y9 y10))
 | 0 => ⟨fun _ _ _ _ _ _ _ _ _ _ r h => by simp [almanacref02_Crash.l0] at h, fun _ _ _ _ _ _ _ _ _ _ _ r h => by simp [almanacref02_Crash.j1] at h⟩
 | k + 1 => by
  obtain ⟨ih0, ih1⟩ := almanacref02_Crash.mono_l k
  refine ⟨?_, ?_⟩
  ·intro y0 y1 y2 y3 y4 y5 y6 y7 y8 y9
   unfold almanacref02_Crash.l0
   repeat' first
   | (with_reducible exact ih0 _ _ _ _ _ _ _ _ _ _)
   | (with_reducible exact ih1 _ _ _ _ _ _ _ _ _ _ _)
   | (with_reducible exact LeO.refl _)
   | (with_reducible exact LeO.none _)
   | (with_reducible refine LeO.ite ?_ ?_)
   | (with_reducible refine LeO.bind ?_ (fun _ => ?_))
   | exact ih0 _ _ _ _ _ _ _ _ _ _
   | exact ih1 _ _ _ _ _ _ _ _ _ _ _
   | exact LeO.none _
   | refine LeO.ite ?_ ?_
   | refine LeO.bind ?_ (fun _ => ?_)
  ·intro y0 y1 y2 y3 y4 y5 y6 y7 y8 y9 y10
   unfold almanacref02_Crash.j1
   repeat' first
   | (with_reducible exact ih0 _ _ _ _ _ _ _ _ _ _)
   | (with_reducible exact ih1 _ _ _ _ _ _ _ _ _ _ _)
   | (with_reducible exact LeO.refl _)
   | (with_reducible exact LeO.none _)
   | (with_reducible refine LeO.ite ?_ ?_)
   | (with_reducible refine LeO.bind ?_ (fun _ => ?_))
   | exact ih0 _ _ _ _ _ _ _ _ _ _
   | exact ih1 _ _ _ _ _ _ _ _ _ _ _
   | exact LeO.none _
   | refine LeO.ite ?_ ?_
   | refine LeO.bind ?_ (fun _ => ?_)
theorem almanacref02_Crash.mono : ∀ a0 a1 a2 a3 a4 k, LeO (almanacref02_Crash.f k a0 a1 a2 a3 a4) (almanacref02_Crash.f (k + 1) a0 a1 a2 a3 a4) := by
 intro a0 a1 a2 a3 a4 k
 obtain ⟨ih0, ih1⟩ := almanacref02_Crash.mono_l k
 unfold almanacref02_Crash.f
 repeat' first
   | (with_reducible exact ih0 _ _ _ _ _ _ _ _ _ _)
   | (with_reducible exact ih1 _ _ _ _ _ _ _ _ _ _ _)
   | (with_reducible exact LeO.refl _)
   | (with_reducible exact LeO.none _)
   | (with_reducible refine LeO.ite ?_ ?_)
   | (with_reducible refine LeO.bind ?_ (fun _ => ?_))
   | exact ih0 _ _ _ _ _ _ _ _ _ _
   | exact ih1 _ _ _ _ _ _ _ _ _ _ _
   | exact LeO.none _
   | refine LeO.ite ?_ ?_
   | refine LeO.bind ?_ (fun _ => ?_)
def almanacref02_Crash.T6 : Bool × List (List Nat × List Nat) := (true, [([], []), ([0], [0]), ([], []), ([2], [2]), ([], []), ([3, 4], [3, 4]), ([5], [5]), ([6], [6]), ([], []), ([8], [8]), ([], []), ([9, 10], [9, 10]), ([11], [11]), ([12], [12]), ([1, 7, 0, 1, 2, 3, 4, 5, 6, 7, 8, 9, 10, 11, 12, 13], [1, 7]), ([14, 13, 0, 1, 2, 3, 4, 5, 6, 7, 8, 9, 10, 11, 12, 13], [13, 14])])
def almanacref02_Crash.B6 : List Nat := [0, 1, 0, 4, 0, 28, 60, 124, 0, 256, 0, 1792, 3840, 7936, 16383, 32767]
theorem almanacref02_Crash.tab6 : rtab .any (opsOf Try.f23 6) = almanacref02_Crash.T6 := by kernel_rfl
theorem almanacref02_Crash.bits6 : waitsOk almanacref02_Crash.T6.2 almanacref02_Crash.B6 = true := by kernel_rfl
set_option maxHeartbeats 8000000 in
set_option maxRecDepth 100000 in
theorem almanacref02_Crash.calls (k : Nat) (A0_0 : Option Addr) (c0_0 : Nat) (l0_0 : List ByteArray) (A0_1 : Option Addr) (c0_1 : Nat) (l0_1 : List (S40)) (a0_2 : Int) (a0_3 : Bool) (A1 : Option Addr) (c1 : Nat) (l1 : List Bool) (r1 : List ByteArray) (r2 : List (S40)) (r3 : Int) (r4 : Bool) (w : World) (hr0_0 : Kd.C Kd.string w A0_0 l0_0.length l0_0) (hc0_0 : l0_0.length ≤ c0_0) (hr0_1 : Kd.C k40 w A0_1 l0_1.length l0_1) (hc0_1 : l0_1.length ≤ c0_1) (hr1 : Kd.C Kd.bool w A1 l1.length l1) (hc1 : l1.length ≤ c1) (h : almanacref02_Crash.f k l0_0 l0_1 a0_2 a0_3 l1 = some (r1, r2, r3, r4)) :
  Calls Try.prog 23 #[.agg #[.slice A0_0 l0_0.length c0_0, .slice A0_1 l0_1.length c0_1, .int .i64 a0_2, .bool a0_3], .slice A1 l1.length c1] w fun e w' => ∃ v0_ v1_ : Value, e = .returned (.agg #[v0_, v1_, .int .i64 r3, .bool r4]) ∧ Kd.R Kd.string 9 w' w.heap.size (fun _ => True) v0_ r1 ∧ Kd.R k40 40 w' w.heap.size (fun _ => True) v1_ r2 ∧ Below w.heap.size w w' := by
 have hu25 := Try.underlying25
 have HR0_0 := Aside0.mk hr0_0
 have HC0_0 := Aside0.mk hc0_0
 clear hr0_0 hc0_0
 have HR0_1 := Aside0.mk hr0_1
 have HC0_1 := Aside0.mk hc0_1
 clear hr0_1 hc0_1
 have HR1 := Aside0.mk hr1
 have HC1 := Aside0.mk hc1
 clear hr1 hc1
 have HB := Aside0.mk (Below.refl w.heap.size w)
 have H : ((almanacref02_Copy.f l0_0 l0_1 a0_2 a0_3).bind fun bt490 => (almanacref02_Crash.l0 k l1 0 l0_0 l0_1 a0_2 a0_3 bt490.1 bt490.2.1 bt490.2.2.1 bt490.2.2.2)) = some (r1, r2, r3, r4) := h
 clear h
 replace H := Option.bind_eq_some_iff.mp H
 obtain ⟨⟨t490, t493, t496, t497⟩, A30, H⟩ := H
 replace H : (almanacref02_Crash.l0 k l1 0 l0_0 l0_1 a0_2 a0_3 t490 t493 t496 t497) = some (r1, r2, r3, r4) := H
 have A3 := Aside0.mk A30
 clear A30
 have H' := Aside0.mk H
 clear H
 go_enter Try.func23, Try.ntmps23
 go_wp2_with (first | ((with_reducible refine gate_dst (N := 2) rfl ?_); (try (refine gate_guard (by rfl) ?_; dsimp only)); refine box_event ?hg (N := 2) ?hd (cs := #[.slice A0_0 l0_0.length c0_0, .slice A0_1 l0_1.length c0_1, .int .i64 a0_2, .bool a0_3]) (t := 25) ?hr ?_; (case hd => rfl); (case hg => rfl); (case hr => first | (go_simp; done) | (go_simp; rfl)); intro gb488 hg w4 hbox hb; have n0_ := Aside0.mk (below_step (bU HB) hb); have n1_ := Aside0.mk (hbox); have n2_ := Aside0.mk ((by rw [hg]; exact (below_size (bU HB)) : w.heap.size ≤ gb488)); have n3_ := Aside0.mk ((by rw [hg]; exact (below_size (bU HB)) : w.heap.size ≤ gb488)); clear HB; have HB := n0_; have BK488 := n1_; have GW488 := n2_; have GE488 := n3_; clear n0_ n1_ n2_ n3_; clear hb hbox hg) | ((with_reducible refine gate_dst (N := 4) rfl ?_); (try (refine gate_guard (by rfl) ?_; dsimp only)); refine box_event ?hg (N := 4) ?hd (cs := #[.slice none 0 0, .slice none 0 0, .int .i64 0, .bool false]) (t := 25) ?hr ?_; (case hd => rfl); (case hg => rfl); (case hr => first | (go_simp; done) | (go_simp; rfl)); intro gb489 hg w5 hbox hb; have n0_ := Aside0.mk (blk_below (kU BK488) hb); have n1_ := Aside0.mk (below_step (bU HB) hb); have n2_ := Aside0.mk (hbox); have n3_ := Aside0.mk ((by rw [hg]; exact (below_size (bU HB)) : w.heap.size ≤ gb489)); have n4_ := Aside0.mk ((by rw [hg]; exact (below_size (bU HB)) : w.heap.size ≤ gb489)); have n5_ := Aside0.mk ((by rw [hg]; exact Nat.ne_of_lt (blk_lt (g := gb488) (o := .cells #[.slice A0_0 l0_0.length c0_0, .slice A0_1 l0_1.length c0_1, .int .i64 a0_2, .bool a0_3] 25 (0, 0)) (kU BK488)) : gb488 ≠ gb489)); have n6_ := Aside0.mk ((by rw [hg]; exact Nat.ne_of_gt (blk_lt (g := gb488) (o := .cells #[.slice A0_0 l0_0.length c0_0, .slice A0_1 l0_1.length c0_1, .int .i64 a0_2, .bool a0_3] 25 (0, 0)) (kU BK488)) : gb489 ≠ gb488)); clear BK488; clear HB; have BK488 := n0_; have HB := n1_; have BK489 := n2_; have GW489 := n3_; have GE489 := n4_; have NB488_489 := n5_; have NB489_488 := n6_; clear n0_ n1_ n2_ n3_ n4_ n5_ n6_; clear hb hbox hg; have hnb6 := NB488_489.out; have hnc6 := NB489_488.out; have hcz7_0 : w5.cell? ⟨gb488, 0, none⟩ = some (.slice A0_0 l0_0.length c0_0) := (blk_cell BK488.out 0).trans rfl; have hcz7_1 : w5.cell? ⟨gb488, 1, none⟩ = some (.slice A0_1 l0_1.length c0_1) := (blk_cell BK488.out 1).trans rfl; have hcz7_2 : w5.cell? ⟨gb488, 2, none⟩ = some (.int .i64 a0_2) := (blk_cell BK488.out 2).trans rfl; have hcz7_3 : w5.cell? ⟨gb488, 3, none⟩ = some (.bool a0_3) := (blk_cell BK488.out 3).trans rfl; have hfz7_0 := blk_frozen BK488.out 0; have hfz7_1 := blk_frozen BK488.out 1; have hfz7_2 := blk_frozen BK488.out 2; have hfz7_3 := blk_frozen BK488.out 3) | ((with_reducible refine gate_callee (f := 9) rfl ?_); refine goesL_ (some 8) rfl rfl Try.func9 (by kernel_rfl) rfl #[.agg #[.slice A0_0 l0_0.length c0_0, .slice A0_1 l0_1.length c0_1, .int .i64 a0_2, .bool a0_3]] rfl (by (try simp only [List.map_toArray, List.map_cons, List.map_nil]); first | done | rfl | (simp only [List.length_drop, List.length_take]; rfl)) ?_; (with_reducible refine (almanacref02_Copy.calls _ _ l0_0 _ _ l0_1 a0_2 a0_3 t490 t493 t496 t497 _ ?side1 ?side2 ?side3 ?side4 A3.out).mono ?_); (case side1 => exact cU (Kd.C_below HR0_0.out HB.out)); (case side2 => exact HC0_0.out); (case side3 => exact cU (Kd.C_below HR0_1.out HB.out)); (case side4 => exact HC0_1.out); rintro e w8 ⟨v491, v494, rfl, ho0, ho1, hb⟩; refine ⟨_, rfl, ?_⟩; have n0_ := Aside0.mk (Kd.R_lower ho0 (below_size (bU HB))); have n1_ := Aside0.mk (Kd.R_lower ho1 (below_size (bU HB))); have n2_ := Aside0.mk (blk_below (kU BK488) hb); have n3_ := Aside0.mk (blk_below (kU BK489) hb); have n4_ := Aside0.mk (below_step (bU HB) hb); clear BK488; clear BK489; clear HB; have HO492 := n0_; have HO495 := n1_; have BK488 := n2_; have BK489 := n3_; have HB := n4_; clear n0_ n1_ n2_ n3_ n4_; (try clear hb); (try clear hb2); (try clear hk); (try clear hi); (try clear ho0); (try clear ho1)) | ((with_reducible refine gate_dst (N := 5) rfl ?_); (try (refine gate_guard (by rfl) ?_; dsimp only)); refine box_event ?hg (N := 5) ?hd (cs := #[.slice none 0 0, .slice none 0 0, .int .i64 0, .bool false]) (t := 25) ?hr ?_; (case hd => rfl); (case hg => rfl); (case hr => first | (go_simp; done) | (go_simp; rfl)); intro gb498 hg w9 hbox hb; have n0_ := Aside0.mk (Kd.R_below (rU HO492) hb); have n1_ := Aside0.mk (Kd.R_below (rU HO495) hb); have n2_ := Aside0.mk (blk_below (kU BK488) hb); have n3_ := Aside0.mk (blk_below (kU BK489) hb); have n4_ := Aside0.mk (below_step (bU HB) hb); have n5_ := Aside0.mk (hbox); have n6_ := Aside0.mk ((by rw [hg]; exact (below_size (bU HB)) : w.heap.size ≤ gb498)); have n7_ := Aside0.mk ((by rw [hg]; exact (below_size (bU HB)) : w.heap.size ≤ gb498)); have n8_ := Aside0.mk ((by rw [hg]; exact Nat.ne_of_lt (blk_lt (g := gb488) (o := .cells #[.slice A0_0 l0_0.length c0_0, .slice A0_1 l0_1.length c0_1, .int .i64 a0_2, .bool a0_3] 25 (0, 0)) (kU BK488)) : gb488 ≠ gb498)); have n9_ := Aside0.mk ((by rw [hg]; exact Nat.ne_of_gt (blk_lt (g := gb488) (o := .cells #[.slice A0_0 l0_0.length c0_0, .slice A0_1 l0_1.length c0_1, .int .i64 a0_2, .bool a0_3] 25 (0, 0)) (kU BK488)) : gb498 ≠ gb488)); have n10_ := Aside0.mk ((by rw [hg]; exact Nat.ne_of_lt (blk_lt (g := gb489) (o := .cells #[.slice none 0 0, .slice none 0 0, .int .i64 0, .bool false] 25 (0, 0)) (kU BK489)) : gb489 ≠ gb498)); have n11_ := Aside0.mk ((by rw [hg]; exact Nat.ne_of_gt (blk_lt (g := gb489) (o := .cells #[.slice none 0 0, .slice none 0 0, .int .i64 0, .bool false] 25 (0, 0)) (kU BK489)) : gb498 ≠ gb489)); clear HO492; clear HO495; clear BK488; clear BK489; clear HB; have HO492 := n0_; have HO495 := n1_; have BK488 := n2_; have BK489 := n3_; have HB := n4_; have BK498 := n5_; have GW498 := n6_; have GE498 := n7_; have NB488_498 := n8_; have NB498_488 := n9_; have NB489_498 := n10_; have NB498_489 := n11_; clear n0_ n1_ n2_ n3_ n4_ n5_ n6_ n7_ n8_ n9_ n10_ n11_; clear hb hbox hg; obtain ⟨Ao10, co10, eo10⟩ := Kd.R_slice HO492.out; subst eo10; have hnb11 := NB498_488.out; have hnc11 := NB488_498.out; have hnb12 := NB498_489.out; have hnc12 := NB489_498.out; have hcz13_0 : w9.cell? ⟨gb498, 0, none⟩ = some (.slice none 0 0) := (blk_cell BK498.out 0).trans rfl; have hcz13_1 : w9.cell? ⟨gb498, 1, none⟩ = some (.slice none 0 0) := (blk_cell BK498.out 1).trans rfl; have hcz13_2 : w9.cell? ⟨gb498, 2, none⟩ = some (.int .i64 0) := (blk_cell BK498.out 2).trans rfl; have hcz13_3 : w9.cell? ⟨gb498, 3, none⟩ = some (.bool false) := (blk_cell BK498.out 3).trans rfl; have hfz13_0 := blk_frozen BK498.out 0; have hfz13_1 := blk_frozen BK498.out 1; have hfz13_2 := blk_frozen BK498.out 2; have hfz13_3 := blk_frozen BK498.out 3; obtain ⟨Ao14, co14, eo14⟩ := Kd.R_slice HO495.out; subst eo14))
 go_loopg [6] k (fun kq v6 w' => ∃ (x6_1 : Int) (x499000_1 : List ByteArray) (u499000 : Value), v6 = .int .i64 x6_1 ∧ Aside0 (almanacref02_Crash.l0 kq l1 x6_1 l0_0 l0_1 a0_2 a0_3 x499000_1 t493 t496 t497 = some (r1, r2, r3, r4)) ∧ Aside0 (kq ≤ k) ∧ Aside0 (Kd.R Kd.string 9 w' w.heap.size (fun _ => True) u499000 x499000_1) ∧ Aside0 (Kd.R k40 40 w' w.heap.size (fun _ => True) (.slice Ao14 t493.length co14) t493) ∧ Aside0 (w'.heap[gb488]? = some (.cells #[(.slice A0_0 l0_0.length c0_0), (.slice A0_1 l0_1.length c0_1), .int .i64 a0_2, .bool a0_3] 25 (0, 0))) ∧ Aside0 (w'.heap[gb489]? = some (.cells #[(.slice none 0 0), (.slice none 0 0), .int .i64 0, .bool false] 25 (0, 0))) ∧ Aside0 (w'.heap[gb498]? = some (.cells #[u499000, (.slice Ao14 t493.length co14), .int .i64 t496, .bool t497] 25 (0, 0))) ∧ Aside0 (Below w.heap.size w w'))
 case atStart => exact ⟨(0), (t490), (.slice Ao10 t490.length co10), (by first | rfl | (simp; done) | (simp [*]; done)), H', ⟨Nat.le_refl _⟩, ⟨by (with_reducible repeat (first | apply Kd.R_alloc | apply Kd.R_drewN | apply Kd.R_drew)); exact Kd.R_mono (Kd.R_far (p := ⟨gb498, 3, none⟩) (Kd.R_far (p := ⟨gb498, 2, none⟩) (Kd.R_far (p := ⟨gb498, 1, none⟩) (Kd.R_far (p := ⟨gb498, 0, none⟩) (Kd.R_types HO492.out BK498.out (by decide)) (fun _ hk => hk.2) (.slice Ao10 t490.length co10)) (fun _ hk => hk.2) (.slice Ao14 t493.length co14)) (fun _ hk => hk.2) (.int .i64 t496)) (fun _ hk => hk.2) (.bool t497)) (fun _ hk => trivial)⟩, ⟨by (with_reducible repeat (first | apply Kd.R_alloc | apply Kd.R_drewN | apply Kd.R_drew)); exact Kd.R_mono (Kd.R_far (p := ⟨gb498, 3, none⟩) (Kd.R_far (p := ⟨gb498, 2, none⟩) (Kd.R_far (p := ⟨gb498, 1, none⟩) (Kd.R_far (p := ⟨gb498, 0, none⟩) (Kd.R_types HO495.out BK498.out (by decide)) (fun _ hk => hk.2) (.slice Ao10 t490.length co10)) (fun _ hk => hk.2) (.slice Ao14 t493.length co14)) (fun _ hk => hk.2) (.int .i64 t496)) (fun _ hk => hk.2) (.bool t497)) (fun _ hk => trivial)⟩, ⟨kF BK488⟩, ⟨kF BK489⟩, ⟨kP BK498⟩, ⟨bU HB⟩⟩
 case round =>
  clear H'
  try clear c1
  try clear c2
  try clear p2
  try clear c6
  try clear c9
  try clear c11
  try clear c12
  try clear hcz13_0 hcz13_1 hcz13_2 hcz13_3 hfz13_0 hfz13_1 hfz13_2 hfz13_3
  try clear hcz7_0 hcz7_1 hcz7_2 hcz7_3 hfz7_0 hfz7_1 hfz7_2 hfz7_3
  obtain ⟨x6_1, x499000_1, u499000, rfl, HA, HK1, HO_499000, HO_499001, BK488, BK489, BK498, HB⟩ := hrel
  cases gk with
  | zero => exact absurd HA.out (by simp [almanacref02_Crash.l0])
  | succ k1 =>
   have H := HA.out
   clear HA
   simp only [almanacref02_Crash.l0] at H
   have HC15 := Aside0.mk H
   clear H
   go_upto_region 3 with (fail)
   go_cut [19] (fun v19 wc => ∃ (kq : Nat) (x19_14 : Bool), v19 = .bool x19_14 ∧ Aside0 (almanacref02_Crash.j1 kq l1 x6_1 x19_14 l0_0 l0_1 a0_2 a0_3 x499000_1 t493 t496 t497 = some (r1, r2, r3, r4)) ∧ Aside0 (kq ≤ k1) ∧ Aside0 (Kd.R Kd.string 9 wc w.heap.size (fun _ => True) u499000 x499000_1) ∧ Aside0 (Kd.R k40 40 wc w.heap.size (fun _ => True) (.slice Ao14 t493.length co14) t493) ∧ Aside0 (wc.heap[gb488]? = some (.cells #[(.slice A0_0 l0_0.length c0_0), (.slice A0_1 l0_1.length c0_1), .int .i64 a0_2, .bool a0_3] 25 (0, 0))) ∧ Aside0 (wc.heap[gb489]? = some (.cells #[(.slice none 0 0), (.slice none 0 0), .int .i64 0, .bool false] 25 (0, 0))) ∧ Aside0 (wc.heap[gb498]? = some (.cells #[u499000, (.slice Ao14 t493.length co14), .int .i64 t496, .bool t497] 25 (0, 0))) ∧ Aside0 (Below w.heap.size w wc))
   case first =>
    have H := HC15.out
    clear HC15
    by_cases c16 : x6_1 < (l0_1.length : Int)
    ·rw [if_pos c16] at H
     have c16b0 : decide (x6_1 < (l0_1.length : Int)) = true := decide_eq_true c16
     clear c16
     (first | rw [c16b0] | (simp only [i64_w, i32_w]; rw [c16b0]) | skip)
     have H' := Aside0.mk H
     clear H
     have hnb17 := NB488_489.out
     have hnc17 := NB489_488.out
     have hnb18 := NB488_498.out
     have hnc18 := NB498_488.out
     obtain ⟨hcz19_0, hcz19_1, hcz19_2, hcz19_3, hfz19_0, hfz19_1, hfz19_2, hfz19_3⟩ := k4 BK488
     go_wp2
     go_meet
     case rel => exact ⟨_, (decide (x6_1 < (l1.length : Int))), (by first | rfl | (simp; done) | (simp [*]; done)), H', ⟨by have := HK1.out; first | omega | exact Nat.le_refl _⟩, ⟨rU HO_499000⟩, ⟨rU HO_499001⟩, ⟨kU BK488⟩, ⟨kU BK489⟩, ⟨kU BK498⟩, ⟨bU HB⟩⟩
    ·rw [if_neg c16] at H
     have c16b0 : decide (x6_1 < (l0_1.length : Int)) = false := decide_eq_false c16
     clear c16
     (first | rw [c16b0] | (simp only [i64_w, i32_w]; rw [c16b0]) | skip)
     have H' := Aside0.mk H
     clear H
     have hnb20 := NB488_489.out
     have hnc20 := NB489_488.out
     have hnb21 := NB488_498.out
     have hnc21 := NB498_488.out
     obtain ⟨hcz22_0, hcz22_1, hcz22_2, hcz22_3, hfz22_0, hfz22_1, hfz22_2, hfz22_3⟩ := k4 BK488
     go_wp2
     go_meet
     case rel => exact ⟨_, (false), (by first | rfl | (simp; done) | (simp [*]; done)), H', ⟨by have := HK1.out; first | omega | exact Nat.le_refl _⟩, ⟨rU HO_499000⟩, ⟨rU HO_499001⟩, ⟨kU BK488⟩, ⟨kU BK489⟩, ⟨kU BK498⟩, ⟨bU HB⟩⟩
   case rest =>
    clear HC15
    try clear c1
    try clear c2
    try clear p2
    try clear c6
    try clear c9
    try clear c11
    try clear c12
    try clear c16
    try clear c16b0
    try clear c17
    try clear c18
    try clear c20
    try clear c21
    try clear hcz13_0 hcz13_1 hcz13_2 hcz13_3 hfz13_0 hfz13_1 hfz13_2 hfz13_3
    try clear hcz19_0 hcz19_1 hcz19_2 hcz19_3 hfz19_0 hfz19_1 hfz19_2 hfz19_3
    try clear hcz22_0 hcz22_1 hcz22_2 hcz22_3 hfz22_0 hfz22_1 hfz22_2 hfz22_3
    try clear hcz7_0 hcz7_1 hcz7_2 hcz7_3 hfz7_0 hfz7_1 hfz7_2 hfz7_3
    try clear p2
    obtain ⟨kq, x19_14, rfl, HA, HJ14, HO_499000, HO_499001, BK488, BK489, BK498, HB⟩ := hcut
    cases kq with
    | zero => exact absurd HA.out (by simp [almanacref02_Crash.j1])
    | succ kj14 =>
     have H := HA.out
     clear HA
     simp only [almanacref02_Crash.j1] at H
     by_cases c23 : x19_14 = true
     ·subst c23
      have H1 : (if 0 ≤ x6_1 then (if x6_1 < (l1.length : Int) then (if rdOf false l1 x6_1 = true then (if x6_1 < (l0_1.length : Int) then (if 0 ≤ ((rd_T40 l0_1 x6_1).f0) then (if ((rd_T40 l0_1 x6_1).f0) < (x499000_1.length : Int) then (almanacref02_Crash.l0 kj14 l1 (wrap64 (x6_1 + 1)) l0_0 l0_1 a0_2 a0_3 (x499000_1.set (((rd_T40 l0_1 x6_1).f0) : Int).toNat ((rd_T40 l0_1 x6_1).f1)) t493 t496 t497) else (none)) else (none)) else (none)) else (almanacref02_Crash.l0 kj14 l1 (wrap64 (x6_1 + 1)) l0_0 l0_1 a0_2 a0_3 x499000_1 t493 t496 t497)) else (none)) else (none)) = some (r1, r2, r3, r4) := by rw [if_pos rfl] at H; exact H
      clear H
      have H := H1
      clear H1
      by_cases c24 : 0 ≤ x6_1
      ·rw [if_pos c24] at H
       have c24b0 : decide (0 ≤ x6_1) = true := decide_eq_true c24
       clear c24
       by_cases c25 : x6_1 < (l1.length : Int)
       ·rw [if_pos c25] at H
        have c25b0 : decide (x6_1 < (l1.length : Int)) = true := decide_eq_true c25
        clear c25
        obtain ⟨bq26, hbq26⟩ : ∃ b_ : Bool, b_ = (rdOf false l1 x6_1) := ⟨_, rfl⟩
        replace H : (if bq26 = true then (if x6_1 < (l0_1.length : Int) then (if 0 ≤ ((rd_T40 l0_1 x6_1).f0) then (if ((rd_T40 l0_1 x6_1).f0) < (x499000_1.length : Int) then (almanacref02_Crash.l0 kj14 l1 (wrap64 (x6_1 + 1)) l0_0 l0_1 a0_2 a0_3 (x499000_1.set (((rd_T40 l0_1 x6_1).f0) : Int).toNat ((rd_T40 l0_1 x6_1).f1)) t493 t496 t497) else (none)) else (none)) else (none)) else (almanacref02_Crash.l0 kj14 l1 (wrap64 (x6_1 + 1)) l0_0 l0_1 a0_2 a0_3 x499000_1 t493 t496 t497)) = some (r1, r2, r3, r4) := by rw [← hbq26] at H; exact H
        have Nbq26 := Aside0.mk hbq26
        clear hbq26
        by_cases c27 : bq26 = true
        ·subst c27
         have H1 : (if x6_1 < (l0_1.length : Int) then (if 0 ≤ ((rd_T40 l0_1 x6_1).f0) then (if ((rd_T40 l0_1 x6_1).f0) < (x499000_1.length : Int) then (almanacref02_Crash.l0 kj14 l1 (wrap64 (x6_1 + 1)) l0_0 l0_1 a0_2 a0_3 (x499000_1.set (((rd_T40 l0_1 x6_1).f0) : Int).toNat ((rd_T40 l0_1 x6_1).f1)) t493 t496 t497) else (none)) else (none)) else (none)) = some (r1, r2, r3, r4) := by rw [if_pos rfl] at H; exact H
         clear H
         have H := H1
         clear H1
         by_cases c28 : x6_1 < (l0_1.length : Int)
         ·rw [if_pos c28] at H
          have c28b0 : decide (x6_1 < (l0_1.length : Int)) = true := decide_eq_true c28
          clear c28
          by_cases c29 : 0 ≤ ((rd_T40 l0_1 x6_1).f0)
          ·rw [if_pos c29] at H
           have c29b0 : decide (0 ≤ ((rd_T40 l0_1 x6_1).f0)) = true := decide_eq_true c29
           clear c29
           by_cases c30 : ((rd_T40 l0_1 x6_1).f0) < (x499000_1.length : Int)
           ·rw [if_pos c30] at H
            have c30b0 : decide (((rd_T40 l0_1 x6_1).f0) < (x499000_1.length : Int)) = true := decide_eq_true c30
            clear c30
            obtain ⟨y502, hy502⟩ : ∃ y_ : List ByteArray, y_ = (x499000_1.set (((rd_T40 l0_1 x6_1).f0) : Int).toNat ((rd_T40 l0_1 x6_1).f1)) := ⟨_, rfl⟩
            replace H : (almanacref02_Crash.l0 kj14 l1 (wrap64 (x6_1 + 1)) l0_0 l0_1 a0_2 a0_3 y502 t493 t496 t497) = some (r1, r2, r3, r4) := by first | (rw [hy502]; with_reducible exact H) | (have H2_ := (Option.bind_some _ _).symm.trans H; rw [hy502]; with_reducible exact H2_) | (have H2_ := (Option.bind_some _ _).symm.trans H; with_reducible exact H2_) | with_reducible exact H | (rw [hy502]; exact H) | exact H
            have Ny502 := Aside0.mk hy502
            clear hy502
            have H' := Aside0.mk H
            clear H
            have p499 : 0 ≤ (x6_1 : Int) := of_decide_eq_true (by first | (with_reducible assumption) | assumption)
            have q499 : x6_1 < (l1.length : Int) := of_decide_eq_true (by first | (with_reducible assumption) | assumption)
            obtain ⟨ad499, e499, hx499_0⟩ := Kd.at_bool HR1.out x6_1 p499 q499
            (try rw [← Nbq26.out] at hx499_0)
            cases e499
            replace hx499_0 := (HB.out.cell (World.block_lt_of_cell? w _ hx499_0)).trans hx499_0
            replace p499 := eq_true p499
            replace q499 := eq_true q499
            try go_wp2
            have n0_ := Aside0.mk (Kd.R_drew HO_499000.out)
            have n1_ := Aside0.mk (Kd.R_drew HO_499001.out)
            have n2_ := Aside0.mk (blk_drew BK488.out)
            have n3_ := Aside0.mk (blk_drew BK489.out)
            have n4_ := Aside0.mk (blk_drew BK498.out)
            have n5_ := Aside0.mk (below_drew1 HB.out)
            clear HO_499000
            clear HO_499001
            clear BK488
            clear BK489
            clear BK498
            clear HB
            have HO_499000 := n0_
            have HO_499001 := n1_
            have BK488 := n2_
            have BK489 := n3_
            have BK498 := n4_
            have HB := n5_
            clear n0_ n1_ n2_ n3_ n4_ n5_
            have p500 : 0 ≤ (x6_1 : Int) := of_decide_eq_true (by first | (with_reducible assumption) | assumption)
            have q500 : x6_1 < (l0_1.length : Int) := of_decide_eq_true (by first | (with_reducible assumption) | assumption)
            obtain ⟨ad500, e500, hx500_0, hx500_1⟩ := at_T40 HR0_1.out x6_1 p500 q500
            have hw500_1 := hx500_1
            have hw500_0 := hx500_0
            cases e500
            replace hx500_0 := (HB.out.cell (World.block_lt_of_cell? w _ hx500_0)).trans hx500_0
            replace hx500_1 := (HB.out.cell (World.block_lt_of_cell? w _ hx500_1)).trans hx500_1
            replace p500 := eq_true p500
            replace q500 := eq_true q500
            have p501 : 0 ≤ (x6_1 : Int) := of_decide_eq_true (by first | (with_reducible assumption) | assumption)
            have q501 : x6_1 < (l0_1.length : Int) := of_decide_eq_true (by first | (with_reducible assumption) | assumption)
            obtain ⟨ad501, e501, hx501_0, hx501_1⟩ := at_T40 HR0_1.out x6_1 p501 q501
            have hw501_1 := hx501_1
            have hw501_0 := hx501_0
            obtain rfl : ad500 = ad501 := (by injection e501)
            replace hx501_0 := (HB.out.cell (World.block_lt_of_cell? w _ hx501_0)).trans hx501_0
            replace hx501_1 := (HB.out.cell (World.block_lt_of_cell? w _ hx501_1)).trans hx501_1
            replace p501 := eq_true p501
            replace q501 := eq_true q501
            have p31 : 0 ≤ (((rd_T40 l0_1 x6_1).f0) : Int) := of_decide_eq_true (by first | (with_reducible assumption) | assumption)
            have q31 : (((rd_T40 l0_1 x6_1).f0) : Int) < ((x499000_1.length : Int) : Int) := of_decide_eq_true (by first | (with_reducible assumption) | assumption)
            obtain ⟨go31, co31, eo31, gb31, gl31, cl31, HG31⟩ := Kd.R_form HO_499000.out (by omega)
            (first | cases eo31 | (injection eo31 with ea_ en_ ec_; (first | subst ea_ | (injection ea_ with ea_; subst ea_)); subst ec_; clear en_))
            have GB31 := Aside0.mk gb31
            have GG31 := Aside0.mk HG31
            clear gb31 gl31 HG31
            obtain ⟨hx31_0, hf31_0⟩ := Kd.R_celln (⟨#[]⟩ : ByteArray) HO_499000.out (((rd_T40 l0_1 x6_1).f0) : Int) p31 q31
            replace p31 := eq_true p31
            replace q31 := eq_true q31
            have HP33 := Kd.R_putn HO_499000.out (((rd_T40 l0_1 x6_1).f0) : Int) ((rd_T40 l0_1 x6_1).f1)
            rw [← Ny502.out] at HP33
            have HQ33 := Aside0.mk HP33
            clear HP33
            refine start_ (n := 16) (S := fun w' => w'.cell? ⟨gb498, 0, none⟩ = some (.slice (some ⟨go31, 0, none⟩) x499000_1.length co31) ∧ w'.cell? ⟨gb498, 1, none⟩ = some (.slice Ao14 t493.length co14) ∧ w'.cell? ⟨gb498, 2, none⟩ = some (.int .i64 t496) ∧ w'.cell? ⟨gb498, 3, none⟩ = some (.bool t497) ∧ w'.cell? ⟨gb488, 0, none⟩ = some (.slice A0_0 l0_0.length c0_0) ∧ w'.cell? ⟨gb488, 1, none⟩ = some (.slice (some ad500) l0_1.length c0_1) ∧ w'.cell? ⟨gb488, 2, none⟩ = some (.int .i64 a0_2) ∧ w'.cell? ⟨gb488, 3, none⟩ = some (.bool a0_3) ∧ w'.cell? (ad500.add ((x6_1).toNat * 2)) = some (.int .i64 ((rd_T40 l0_1 x6_1).f0)) ∧ w'.cell? ⟨(ad500.add ((x6_1).toNat * 2)).block, (ad500.add ((x6_1).toNat * 2)).off + 1, none⟩ = some (.string ((rd_T40 l0_1 x6_1).f1)) ∧ w'.cell? (ad500.add ((x6_1).toNat * 2)) = some (.int .i64 ((rd_T40 l0_1 x6_1).f0)) ∧ w'.cell? ⟨(ad500.add ((x6_1).toNat * 2)).block, (ad500.add ((x6_1).toNat * 2)).off + 1, none⟩ = some (.string ((rd_T40 l0_1 x6_1).f1))) (ds := [15]) #[false, false, false, false, false, false, false, false, false, false, false, false, false, false, false, false] (by kernel_rfl) rfl rfl ⟨(blk_cell BK498.out 0).trans rfl, (blk_cell BK498.out 1).trans rfl, (blk_cell BK498.out 2).trans rfl, (blk_cell BK498.out 3).trans rfl, (blk_cell BK488.out 0).trans rfl, (blk_cell BK488.out 1).trans rfl, (blk_cell BK488.out 2).trans rfl, (blk_cell BK488.out 3).trans rfl, ((HB.out.cell (World.block_lt_of_cell? w _ hw500_0)).trans hw500_0), ((HB.out.cell (World.block_lt_of_cell? w _ hw500_1)).trans hw500_1), ((HB.out.cell (World.block_lt_of_cell? w _ hw501_0)).trans hw501_0), ((HB.out.cell (World.block_lt_of_cell? w _ hw501_1)).trans hw501_1)⟩ (fun hHeld => ?_); refine with_tabW almanacref02_Crash.tab6 almanacref02_Crash.bits6 (fun HT_ HW_ => ?_)
            generalize wc.drew = w32 at HO_499000 HO_499001 BK488 BK489 BK498 HB GG31 HQ33 hf31_0 hx31_0 hx500_0 hx500_1 hx501_0 hx501_1 hHeld ⊢
            refine pure_ (i := 0) (N := some 26) (v := ?_) (a' := ?_) #[true, false, false, false, false, false, false, false, false, false, false, false, false, false, false, false] rfl rfl (any_of HT_.out (by kernel_rfl)) (fun _ _ _ h => h) (Or.inl ⟨by rfl, ?_⟩) ?_ ?_
            rotate_left
            ·intro w'
             go_simp
             with_reducible rfl
            rotate_left
            ·simp only [Act.put, List.setIfInBounds_toArray, List.set_cons_zero, List.set_cons_succ, i64_w, i32_w]
             rfl
            refine pure_ (i := 2) (N := some 28) (v := ?_) (a' := ?_) #[true, false, true, false, false, false, false, false, false, false, false, false, false, false, false, false] rfl rfl (any_of HT_.out (by kernel_rfl)) (fun _ _ _ h => h) (Or.inl ⟨by rfl, ?_⟩) ?_ ?_
            rotate_left
            ·intro w'
             go_simp
             with_reducible rfl
            rotate_left
            ·simp only [Act.put, List.setIfInBounds_toArray, List.set_cons_zero, List.set_cons_succ, i64_w, i32_w]
             rfl
            refine pure_ (i := 4) (N := some 30) (v := ?_) (a' := ?_) #[true, false, true, false, true, false, false, false, false, false, false, false, false, false, false, false] rfl rfl (any_of HT_.out (by kernel_rfl)) (fun _ _ _ h => h) (Or.inl ⟨by rfl, ?_⟩) ?_ ?_
            rotate_left
            ·intro w'
             go_simp
             with_reducible rfl
            rotate_left
            ·simp only [Act.put, List.setIfInBounds_toArray, List.set_cons_zero, List.set_cons_succ, i64_w, i32_w]
             rfl
            refine pure_ (i := 8) (N := some 34) (v := ?_) (a' := ?_) #[true, false, true, false, true, false, false, false, true, false, false, false, false, false, false, false] rfl rfl (any_of HT_.out (by kernel_rfl)) (fun _ _ _ h => h) (Or.inl ⟨by rfl, ?_⟩) ?_ ?_
            rotate_left
            ·intro w'
             go_simp
             with_reducible rfl
            rotate_left
            ·simp only [Act.put, List.setIfInBounds_toArray, List.set_cons_zero, List.set_cons_succ, i64_w, i32_w]
             rfl
            refine pure_ (i := 10) (N := some 36) (v := ?_) (a' := ?_) #[true, false, true, false, true, false, false, false, true, false, true, false, false, false, false, false] rfl rfl (any_of HT_.out (by kernel_rfl)) (fun _ _ _ h => h) (Or.inl ⟨by rfl, ?_⟩) ?_ ?_
            rotate_left
            ·intro w'
             go_simp
             with_reducible rfl
            rotate_left
            ·simp only [Act.put, List.setIfInBounds_toArray, List.set_cons_zero, List.set_cons_succ, i64_w, i32_w]
             rfl
            refine take_ (i := 1) (N := some 27) (v := ?_) (a' := ?_) #[true, true, true, false, true, false, false, false, true, false, true, false, false, false, false, false] rfl rfl (take_ofW HT_.out HW_.out (by kernel_rfl)) (fun _ _ _ h => h) (Or.inl ⟨by rfl, ?_⟩) hHeld ?_ ?_
            rotate_left
            ·rintro w' ⟨s0, s1, s2, s3, s4, s5, s6, s7, s8, s9, s10, s11⟩
             go_simp
             with_reducible rfl
            rotate_left
            ·simp only [Act.put, List.setIfInBounds_toArray, List.set_cons_zero, List.set_cons_succ, i64_w, i32_w]
             rfl
            refine take_ (i := 3) (N := some 29) (v := ?_) (a' := ?_) #[true, true, true, true, true, false, false, false, true, false, true, false, false, false, false, false] rfl rfl (take_ofW HT_.out HW_.out (by kernel_rfl)) (fun _ _ _ h => h) (Or.inl ⟨by rfl, ?_⟩) hHeld ?_ ?_
            rotate_left
            ·rintro w' ⟨s0, s1, s2, s3, s4, s5, s6, s7, s8, s9, s10, s11⟩
             go_simp
             with_reducible rfl
            rotate_left
            ·simp only [Act.put, List.setIfInBounds_toArray, List.set_cons_zero, List.set_cons_succ, i64_w, i32_w]
             rfl
            refine pure_ (i := 5) (N := some 31) (v := ?_) (a' := ?_) #[true, true, true, true, true, true, false, false, true, false, true, false, false, false, false, false] rfl rfl (any_of HT_.out (by kernel_rfl)) (fun _ _ _ h => h) (Or.inl ⟨by rfl, ?_⟩) ?_ ?_
            rotate_left
            ·intro w'
             go_simp
             with_reducible rfl
            rotate_left
            ·simp only [Act.put, List.setIfInBounds_toArray, List.set_cons_zero, List.set_cons_succ, i64_w, i32_w]
             rfl
            refine pure_ (i := 6) (N := some 32) (v := ?_) (a' := ?_) #[true, true, true, true, true, true, true, false, true, false, true, false, false, false, false, false] rfl rfl (any_of HT_.out (by kernel_rfl)) (fun _ _ _ h => h) (Or.inl ⟨by rfl, ?_⟩) ?_ ?_
            rotate_left
            ·intro w'
             go_simp
             with_reducible rfl
            rotate_left
            ·simp only [Act.put, List.setIfInBounds_toArray, List.set_cons_zero, List.set_cons_succ, i64_w, i32_w]
             rfl
            refine take_ (i := 7) (N := some 33) (v := ?_) (a' := ?_) #[true, true, true, true, true, true, true, true, true, false, true, false, false, false, false, false] rfl rfl (take_ofW HT_.out HW_.out (by kernel_rfl)) (fun _ _ _ h => h) (Or.inl ⟨by rfl, ?_⟩) hHeld ?_ ?_
            rotate_left
            ·rintro w' ⟨s0, s1, s2, s3, s4, s5, s6, s7, s8, s9, s10, s11⟩
             go_simp
             with_reducible rfl
            rotate_left
            ·simp only [Act.put, List.setIfInBounds_toArray, List.set_cons_zero, List.set_cons_succ, i64_w, i32_w]
             rfl
            refine take_ (i := 9) (N := some 35) (v := ?_) (a' := ?_) #[true, true, true, true, true, true, true, true, true, true, true, false, false, false, false, false] rfl rfl (take_ofW HT_.out HW_.out (by kernel_rfl)) (fun _ _ _ h => h) (Or.inl ⟨by rfl, ?_⟩) hHeld ?_ ?_
            rotate_left
            ·rintro w' ⟨s0, s1, s2, s3, s4, s5, s6, s7, s8, s9, s10, s11⟩
             go_simp
             with_reducible rfl
            rotate_left
            ·simp only [Act.put, List.setIfInBounds_toArray, List.set_cons_zero, List.set_cons_succ, i64_w, i32_w]
             rfl
            refine pure_ (i := 11) (N := some 37) (v := ?_) (a' := ?_) #[true, true, true, true, true, true, true, true, true, true, true, true, false, false, false, false] rfl rfl (any_of HT_.out (by kernel_rfl)) (fun _ _ _ h => h) (Or.inl ⟨by rfl, ?_⟩) ?_ ?_
            rotate_left
            ·intro w'
             go_simp
             with_reducible rfl
            rotate_left
            ·simp only [Act.put, List.setIfInBounds_toArray, List.set_cons_zero, List.set_cons_succ, i64_w, i32_w]
             rfl
            refine pure_ (i := 12) (N := some 38) (v := ?_) (a' := ?_) #[true, true, true, true, true, true, true, true, true, true, true, true, true, false, false, false] rfl rfl (any_of HT_.out (by kernel_rfl)) (fun _ _ _ h => h) (Or.inl ⟨by rfl, ?_⟩) ?_ ?_
            rotate_left
            ·intro w'
             go_simp
             with_reducible rfl
            rotate_left
            ·simp only [Act.put, List.setIfInBounds_toArray, List.set_cons_zero, List.set_cons_succ, i64_w, i32_w]
             rfl
            refine take_ (i := 13) (N := some 39) (v := ?_) (a' := ?_) #[true, true, true, true, true, true, true, true, true, true, true, true, true, true, false, false] rfl rfl (take_ofW HT_.out HW_.out (by kernel_rfl)) (fun _ _ _ h => h) (Or.inl ⟨by rfl, ?_⟩) hHeld ?_ ?_
            rotate_left
            ·rintro w' ⟨s0, s1, s2, s3, s4, s5, s6, s7, s8, s9, s10, s11⟩
             go_simp
             with_reducible rfl
            rotate_left
            ·simp only [Act.put, List.setIfInBounds_toArray, List.set_cons_zero, List.set_cons_succ, i64_w, i32_w]
             rfl
            refine pure_ (i := 14) (N := some 40) (v := ?_) (a' := ?_) #[true, true, true, true, true, true, true, true, true, true, true, true, true, true, true, false] rfl rfl (any_of HT_.out (by kernel_rfl)) (fun _ _ _ h => h) (Or.inl ⟨by rfl, ?_⟩) ?_ ?_
            rotate_left
            ·intro w'
             go_simp
             with_reducible rfl
            rotate_left
            ·simp only [Act.put, List.setIfInBounds_toArray, List.set_cons_zero, List.set_cons_succ, i64_w, i32_w]
             rfl
            refine last_ (i := 15) (N := none) #[true, true, true, true, true, true, true, true, true, true, true, true, true, true, true, true] rfl rfl (one_of HT_.out (by kernel_rfl)) (by decide) (fun K hK => ?_)
            refine skip_ (w1 := ?_) (by rfl) rfl ?_ ?_
            rotate_left
            ·go_simp
             rfl
            refine hK.out _ _ ?_
            clear hK K
            refine done_ (done_of HT_.out (by kernel_rfl)) ?_
            try go_wp2
            go_roundg kj14
            case measure => have := HK1.out; have := HJ14.out; omega
            case rel => exact ⟨(wrap64 (x6_1 + 1)), (y502), (.slice (some ⟨go31, 0, none⟩) x499000_1.length co31), (by first | rfl | (simp; done) | (simp [*]; done)), H', ⟨by have := HK1.out; have := HJ14.out; omega⟩, ⟨rU HQ33⟩, ⟨by (with_reducible repeat (first | apply Kd.R_alloc | apply Kd.R_drewN | apply Kd.R_drew)); exact Kd.R_mono (Kd.R_far (p := ⟨go31, (((rd_T40 l0_1 x6_1).f0) : Int).toNat, none⟩) (Kd.R_types HO_499001.out GG31.out (by decide)) (fun _ hk => hk.2) (.string ((rd_T40 l0_1 x6_1).f1))) (fun _ hk => trivial)⟩, ⟨by (with_reducible repeat (first | refine blk_drewN ?_ _ | refine blk_drew ?_ | refine blk_alloc ?_ _)); refine blk_far ?_ (by have h_ := Kd.R_ne HO_499000.out BK488.out (by decide); intro e_; exact h_ (by rw [e_]; rfl)) _; (with_reducible repeat (first | refine blk_drewN ?_ _ | refine blk_drew ?_ | refine blk_alloc ?_ _)); exact BK488.out⟩, ⟨by (with_reducible repeat (first | refine blk_drewN ?_ _ | refine blk_drew ?_ | refine blk_alloc ?_ _)); refine blk_far ?_ (by have h_ := Kd.R_ne HO_499000.out BK489.out (by decide); intro e_; exact h_ (by rw [e_]; rfl)) _; (with_reducible repeat (first | refine blk_drewN ?_ _ | refine blk_drew ?_ | refine blk_alloc ?_ _)); exact BK489.out⟩, ⟨by (with_reducible repeat (first | refine blk_drewN ?_ _ | refine blk_drew ?_ | refine blk_alloc ?_ _)); refine blk_far ?_ (by have h_ := Kd.R_ne HO_499000.out BK498.out (by decide); intro e_; exact h_ (by rw [e_]; rfl)) _; (with_reducible repeat (first | refine blk_drewN ?_ _ | refine blk_drew ?_ | refine blk_alloc ?_ _)); exact BK498.out⟩, ⟨bU HB⟩⟩
           ·rw [if_neg c30] at H
            exact absurd H (by simp)
          ·rw [if_neg c29] at H
           exact absurd H (by simp)
         ·rw [if_neg c28] at H
          exact absurd H (by simp)
        ·replace c27 := Bool.eq_false_iff.mpr c27
         subst c27
         have H1 : (almanacref02_Crash.l0 kj14 l1 (wrap64 (x6_1 + 1)) l0_0 l0_1 a0_2 a0_3 x499000_1 t493 t496 t497) = some (r1, r2, r3, r4) := by rw [if_neg (show ¬ (false = true) by decide)] at H; exact H
         clear H
         have H := H1
         clear H1
         have H' := Aside0.mk H
         clear H
         have p499 : 0 ≤ (x6_1 : Int) := of_decide_eq_true (by first | (with_reducible assumption) | assumption)
         have q499 : x6_1 < (l1.length : Int) := of_decide_eq_true (by first | (with_reducible assumption) | assumption)
         obtain ⟨ad499, e499, hx499_0⟩ := Kd.at_bool HR1.out x6_1 p499 q499
         (try rw [← Nbq26.out] at hx499_0)
         cases e499
         replace hx499_0 := (HB.out.cell (World.block_lt_of_cell? w _ hx499_0)).trans hx499_0
         replace p499 := eq_true p499
         replace q499 := eq_true q499
         go_wp2
         go_roundg kj14
         case measure => have := HK1.out; have := HJ14.out; omega
         case rel => exact ⟨(wrap64 (x6_1 + 1)), (x499000_1), (u499000), (by first | rfl | (simp; done) | (simp [*]; done)), H', ⟨by have := HK1.out; have := HJ14.out; omega⟩, ⟨rU HO_499000⟩, ⟨rU HO_499001⟩, ⟨kU BK488⟩, ⟨kU BK489⟩, ⟨kU BK498⟩, ⟨bU HB⟩⟩
       ·rw [if_neg c25] at H
        exact absurd H (by simp)
      ·rw [if_neg c24] at H
       exact absurd H (by simp)
     ·replace c23 := Bool.eq_false_iff.mpr c23
      subst c23
      have H1 : (some (x499000_1, ([] : List (S40)), (-1), false)) = some (r1, r2, r3, r4) := by rw [if_neg (show ¬ (false = true) by decide)] at H; exact H
      clear H
      have H := H1
      clear H1
      simp only [Option.some.injEq, Prod.mk.injEq] at H
      obtain ⟨rfl, rfl, rfl, rfl⟩ := H
      have hnb34 := NB498_488.out
      have hnc34 := NB488_498.out
      have hnb35 := NB498_489.out
      have hnc35 := NB489_498.out
      obtain ⟨hcz36_0, hcz36_1, hcz36_2, hcz36_3, hfz36_0, hfz36_1, hfz36_2, hfz36_3⟩ := k4 BK498
      obtain ⟨Ao37, co37, eo37⟩ := Kd.R_slice HO_499000.out
      subst eo37
      have hnb38 := NB489_488.out
      have hnc38 := NB488_489.out
      obtain ⟨hcz39_0, hcz39_1, hcz39_2, hcz39_3, hfz39_0, hfz39_1, hfz39_2, hfz39_3⟩ := k4 BK489
      go_wp2
      refine bodyPost_ret (results_cell_row rfl _ _ gb489 25 #[.slice Ao37 x499000_1.length co37, .slice none 0 0, .int .i64 (-1), .bool false] (0, 0) _ rfl (kP BK489) Try.underlying25 rfl (by kernel_rfl)) rfl ?_
      exact ⟨_, _, eqU, by (with_reducible repeat (first | apply Kd.R_alloc | apply Kd.R_drewN | apply Kd.R_drew)); exact Kd.R_mono (Kd.R_far (p := ⟨gb489, 3, none⟩) (Kd.R_far (p := ⟨gb489, 2, none⟩) (Kd.R_far (p := ⟨gb489, 1, none⟩) (Kd.R_far (p := ⟨gb489, 0, none⟩) (Kd.R_far (p := ⟨gb498, 2, none⟩) (Kd.R_far (p := ⟨gb498, 3, none⟩) (Kd.R_far (p := ⟨gb498, 1, none⟩) (Kd.R_types (Kd.R_types HO_499000.out BK498.out (by decide)) BK489.out (by decide)) (fun _ hk => hk.1.2) (.slice none 0 0)) (fun _ hk => hk.1.2) (.bool false)) (fun _ hk => hk.1.2) (.int .i64 (-1))) (fun _ hk => hk.2) (.slice Ao37 x499000_1.length co37)) (fun _ hk => hk.2) (.slice none 0 0)) (fun _ hk => hk.2) (.int .i64 (-1))) (fun _ hk => hk.2) (.bool false)) (fun _ hk => trivial), by first | exact Kd.R_nil _ _ _ _ _ | exact Kd.N_nil _ _ _ _ _ | exact Kd.V_nil _ _ _ _ _ | exact Kd.Q_nil _ _ _ _ _ | exact Kd.S_nil _ _ _ _ _, bU HB⟩

end Go.Proofs.Ytaocplhijfkicaa.PD
-- written by a program of this work (mk.sh, over the kit's print; stubs are proved by hand)
namespace Go.Proofs.Ytaocplhijfkicaa.PD
open Go.RowKit Go.Proofs.YtaocplhijfkicaaW.PrintWords Go.Proofs.YtaocplhijfkicaaW.PrintLast Go.Proofs.YtaocplhijfkicaaW.PrintMore
attribute [local go_sem] isSome_setCell max2_int min2_int max_two min_two   -- for this text's walks alone
set_option linter.unusedVariables false
set_option linter.unusedSimpArgs false

/-! ### almanacref02_Arm: function 24 -/
def almanacref02_Arm.f (l0_0 : List ByteArray) (l0_1 : List (S40)) (a0_2 : Int) (a0_3 : Bool) (a1 : Int) : Option (List ByteArray × (List (S40)) × Int × Bool) := (almanacref02_Copy.f l0_0 l0_1 a0_2 a0_3).bind fun bt505 => (if bt505.2.2.2 = true then (some (bt505.1, bt505.2.1, bt505.2.2.1, bt505.2.2.2)) else (some (bt505.1, bt505.2.1, mx a1 (-1), bt505.2.2.2)))
set_option maxHeartbeats 8000000 in
set_option maxRecDepth 100000 in
theorem almanacref02_Arm.calls (A0_0 : Option Addr) (c0_0 : Nat) (l0_0 : List ByteArray) (A0_1 : Option Addr) (c0_1 : Nat) (l0_1 : List (S40)) (a0_2 : Int) (a0_3 : Bool) (a1 : Int) (r1 : List ByteArray) (r2 : List (S40)) (r3 : Int) (r4 : Bool) (w : World) (hr0_0 : Kd.C Kd.string w A0_0 l0_0.length l0_0) (hc0_0 : l0_0.length ≤ c0_0) (hr0_1 : Kd.C k40 w A0_1 l0_1.length l0_1) (hc0_1 : l0_1.length ≤ c0_1) (h : almanacref02_Arm.f l0_0 l0_1 a0_2 a0_3 a1 = some (r1, r2, r3, r4)) :
  Calls Try.prog 24 #[.agg #[.slice A0_0 l0_0.length c0_0, .slice A0_1 l0_1.length c0_1, .int .i64 a0_2, .bool a0_3], .int .i64 a1] w fun e w' => ∃ v0_ v1_ : Value, e = .returned (.agg #[v0_, v1_, .int .i64 r3, .bool r4]) ∧ Kd.R Kd.string 9 w' w.heap.size (fun _ => True) v0_ r1 ∧ Kd.R k40 40 w' w.heap.size (fun _ => True) v1_ r2 ∧ Below w.heap.size w w' := by
 have hu25 := Try.underlying25
 have HR0_0 := Aside0.mk hr0_0
 have HC0_0 := Aside0.mk hc0_0
 clear hr0_0 hc0_0
 have HR0_1 := Aside0.mk hr0_1
 have HC0_1 := Aside0.mk hc0_1
 clear hr0_1 hc0_1
 have HB := Aside0.mk (Below.refl w.heap.size w)
 have H : ((almanacref02_Copy.f l0_0 l0_1 a0_2 a0_3).bind fun bt505 => (if bt505.2.2.2 = true then (some (bt505.1, bt505.2.1, bt505.2.2.1, bt505.2.2.2)) else (some (bt505.1, bt505.2.1, mx a1 (-1), bt505.2.2.2)))) = some (r1, r2, r3, r4) := h
 clear h
 replace H := Option.bind_eq_some_iff.mp H
 obtain ⟨⟨t505, t508, t511, t512⟩, A30, H⟩ := H
 replace H : (if t512 = true then (some (t505, t508, t511, t512)) else (some (t505, t508, mx a1 (-1), t512))) = some (r1, r2, r3, r4) := H
 have A3 := Aside0.mk A30
 clear A30
 by_cases c4 : t512 = true
 ·subst c4
  have H1 : (some (t505, t508, t511, true)) = some (r1, r2, r3, r4) := by rw [if_pos rfl] at H; exact H
  clear H
  have H := H1
  clear H1
  simp only [Option.some.injEq, Prod.mk.injEq] at H
  obtain ⟨rfl, rfl, rfl, rfl⟩ := H
  go_enter Try.func24, Try.ntmps24
  go_wp2_with (first | ((with_reducible refine gate_dst (N := 2) rfl ?_); refine box_event ?hg (N := 2) ?hd (cs := #[.slice A0_0 l0_0.length c0_0, .slice A0_1 l0_1.length c0_1, .int .i64 a0_2, .bool a0_3]) (t := 25) ?hr ?_; (case hd => rfl); (case hg => rfl); (case hr => first | (go_simp; done) | (go_simp; rfl)); intro gb503 hg w5 hbox hb; have n0_ := Aside0.mk (below_step (bU HB) hb); have n1_ := Aside0.mk (hbox); have n2_ := Aside0.mk ((by rw [hg]; exact (below_size (bU HB)) : w.heap.size ≤ gb503)); have n3_ := Aside0.mk ((by rw [hg]; exact (below_size (bU HB)) : w.heap.size ≤ gb503)); clear HB; have HB := n0_; have BK503 := n1_; have GW503 := n2_; have GE503 := n3_; clear n0_ n1_ n2_ n3_; clear hb hbox hg) | ((with_reducible refine gate_dst (N := 4) rfl ?_); refine box_event ?hg (N := 4) ?hd (cs := #[.slice none 0 0, .slice none 0 0, .int .i64 0, .bool false]) (t := 25) ?hr ?_; (case hd => rfl); (case hg => rfl); (case hr => first | (go_simp; done) | (go_simp; rfl)); intro gb504 hg w6 hbox hb; have n0_ := Aside0.mk (blk_below (kU BK503) hb); have n1_ := Aside0.mk (below_step (bU HB) hb); have n2_ := Aside0.mk (hbox); have n3_ := Aside0.mk ((by rw [hg]; exact (below_size (bU HB)) : w.heap.size ≤ gb504)); have n4_ := Aside0.mk ((by rw [hg]; exact (below_size (bU HB)) : w.heap.size ≤ gb504)); have n5_ := Aside0.mk ((by rw [hg]; exact Nat.ne_of_lt (blk_lt (g := gb503) (o := .cells #[.slice A0_0 l0_0.length c0_0, .slice A0_1 l0_1.length c0_1, .int .i64 a0_2, .bool a0_3] 25 (0, 0)) (kU BK503)) : gb503 ≠ gb504)); have n6_ := Aside0.mk ((by rw [hg]; exact Nat.ne_of_gt (blk_lt (g := gb503) (o := .cells #[.slice A0_0 l0_0.length c0_0, .slice A0_1 l0_1.length c0_1, .int .i64 a0_2, .bool a0_3] 25 (0, 0)) (kU BK503)) : gb504 ≠ gb503)); clear BK503; clear HB; have BK503 := n0_; have HB := n1_; have BK504 := n2_; have GW504 := n3_; have GE504 := n4_; have NB503_504 := n5_; have NB504_503 := n6_; clear n0_ n1_ n2_ n3_ n4_ n5_ n6_; clear hb hbox hg; have hnb7 := NB503_504.out; have hnc7 := NB504_503.out; have hcz8_0 : w6.cell? ⟨gb503, 0, none⟩ = some (.slice A0_0 l0_0.length c0_0) := (blk_cell BK503.out 0).trans rfl; have hcz8_1 : w6.cell? ⟨gb503, 1, none⟩ = some (.slice A0_1 l0_1.length c0_1) := (blk_cell BK503.out 1).trans rfl; have hcz8_2 : w6.cell? ⟨gb503, 2, none⟩ = some (.int .i64 a0_2) := (blk_cell BK503.out 2).trans rfl; have hcz8_3 : w6.cell? ⟨gb503, 3, none⟩ = some (.bool a0_3) := (blk_cell BK503.out 3).trans rfl; have hfz8_0 := blk_frozen BK503.out 0; have hfz8_1 := blk_frozen BK503.out 1; have hfz8_2 := blk_frozen BK503.out 2; have hfz8_3 := blk_frozen BK503.out 3) | ((with_reducible refine gate_callee (f := 9) rfl ?_); refine goesL_ (some 7) rfl rfl Try.func9 (by kernel_rfl) rfl #[.agg #[.slice A0_0 l0_0.length c0_0, .slice A0_1 l0_1.length c0_1, .int .i64 a0_2, .bool a0_3]] rfl (by (try simp only [List.map_toArray, List.map_cons, List.map_nil]); first | done | rfl | (simp only [List.length_drop, List.length_take]; rfl)) ?_; (with_reducible refine (almanacref02_Copy.calls _ _ l0_0 _ _ l0_1 a0_2 a0_3 t505 t508 t511 true _ ?side1 ?side2 ?side3 ?side4 A3.out).mono ?_); (case side1 => exact cU (Kd.C_below HR0_0.out HB.out)); (case side2 => exact HC0_0.out); (case side3 => exact cU (Kd.C_below HR0_1.out HB.out)); (case side4 => exact HC0_1.out); rintro e w9 ⟨v506, v509, rfl, ho0, ho1, hb⟩; refine ⟨_, rfl, ?_⟩; have n0_ := Aside0.mk (Kd.R_lower ho0 (below_size (bU HB))); have n1_ := Aside0.mk (Kd.R_lower ho1 (below_size (bU HB))); have n2_ := Aside0.mk (blk_below (kU BK503) hb); have n3_ := Aside0.mk (blk_below (kU BK504) hb); have n4_ := Aside0.mk (below_step (bU HB) hb); clear BK503; clear BK504; clear HB; have HO507 := n0_; have HO510 := n1_; have BK503 := n2_; have BK504 := n3_; have HB := n4_; clear n0_ n1_ n2_ n3_ n4_; (try clear hb); (try clear hb2); (try clear hk); (try clear hi); (try clear ho0); (try clear ho1)) | ((with_reducible refine gate_dst (N := 5) rfl ?_); refine box_event ?hg (N := 5) ?hd (cs := #[.slice none 0 0, .slice none 0 0, .int .i64 0, .bool false]) (t := 25) ?hr ?_; (case hd => rfl); (case hg => rfl); (case hr => first | (go_simp; done) | (go_simp; rfl)); intro gb513 hg w10 hbox hb; have n0_ := Aside0.mk (Kd.R_below (rU HO507) hb); have n1_ := Aside0.mk (Kd.R_below (rU HO510) hb); have n2_ := Aside0.mk (blk_below (kU BK503) hb); have n3_ := Aside0.mk (blk_below (kU BK504) hb); have n4_ := Aside0.mk (below_step (bU HB) hb); have n5_ := Aside0.mk (hbox); have n6_ := Aside0.mk ((by rw [hg]; exact (below_size (bU HB)) : w.heap.size ≤ gb513)); have n7_ := Aside0.mk ((by rw [hg]; exact (below_size (bU HB)) : w.heap.size ≤ gb513)); have n8_ := Aside0.mk ((by rw [hg]; exact Nat.ne_of_lt (blk_lt (g := gb503) (o := .cells #[.slice A0_0 l0_0.length c0_0, .slice A0_1 l0_1.length c0_1, .int .i64 a0_2, .bool a0_3] 25 (0, 0)) (kU BK503)) : gb503 ≠ gb513)); have n9_ := Aside0.mk ((by rw [hg]; exact Nat.ne_of_gt (blk_lt (g := gb503) (o := .cells #[.slice A0_0 l0_0.length c0_0, .slice A0_1 l0_1.length c0_1, .int .i64 a0_2, .bool a0_3] 25 (0, 0)) (kU BK503)) : gb513 ≠ gb503)); have n10_ := Aside0.mk ((by rw [hg]; exact Nat.ne_of_lt (blk_lt (g := gb504) (o := .cells #[.slice none 0 0, .slice none 0 0, .int .i64 0, .bool false] 25 (0, 0)) (kU BK504)) : gb504 ≠ gb513)); have n11_ := Aside0.mk ((by rw [hg]; exact Nat.ne_of_gt (blk_lt (g := gb504) (o := .cells #[.slice none 0 0, .slice none 0 0, .int .i64 0, .bool false] 25 (0, 0)) (kU BK504)) : gb513 ≠ gb504)); clear HO507; clear HO510; clear BK503; clear BK504; clear HB; have HO507 := n0_; have HO510 := n1_; have BK503 := n2_; have BK504 := n3_; have HB := n4_; have BK513 := n5_; have GW513 := n6_; have GE513 := n7_; have NB503_513 := n8_; have NB513_503 := n9_; have NB504_513 := n10_; have NB513_504 := n11_; clear n0_ n1_ n2_ n3_ n4_ n5_ n6_ n7_ n8_ n9_ n10_ n11_; clear hb hbox hg; obtain ⟨Ao11, co11, eo11⟩ := Kd.R_slice HO507.out; subst eo11; have hnb12 := NB513_503.out; have hnc12 := NB503_513.out; have hnb13 := NB513_504.out; have hnc13 := NB504_513.out; have hcz14_0 : w10.cell? ⟨gb513, 0, none⟩ = some (.slice none 0 0) := (blk_cell BK513.out 0).trans rfl; have hcz14_1 : w10.cell? ⟨gb513, 1, none⟩ = some (.slice none 0 0) := (blk_cell BK513.out 1).trans rfl; have hcz14_2 : w10.cell? ⟨gb513, 2, none⟩ = some (.int .i64 0) := (blk_cell BK513.out 2).trans rfl; have hcz14_3 : w10.cell? ⟨gb513, 3, none⟩ = some (.bool false) := (blk_cell BK513.out 3).trans rfl; have hfz14_0 := blk_frozen BK513.out 0; have hfz14_1 := blk_frozen BK513.out 1; have hfz14_2 := blk_frozen BK513.out 2; have hfz14_3 := blk_frozen BK513.out 3; obtain ⟨Ao15, co15, eo15⟩ := Kd.R_slice HO510.out; subst eo15; have hcz16_0 : w10.cell? ⟨gb504, 0, none⟩ = some (.slice none 0 0) := (blk_cell BK504.out 0).trans rfl; have hcz16_1 : w10.cell? ⟨gb504, 1, none⟩ = some (.slice none 0 0) := (blk_cell BK504.out 1).trans rfl; have hcz16_2 : w10.cell? ⟨gb504, 2, none⟩ = some (.int .i64 0) := (blk_cell BK504.out 2).trans rfl; have hcz16_3 : w10.cell? ⟨gb504, 3, none⟩ = some (.bool false) := (blk_cell BK504.out 3).trans rfl; have hfz16_0 := blk_frozen BK504.out 0; have hfz16_1 := blk_frozen BK504.out 1; have hfz16_2 := blk_frozen BK504.out 2; have hfz16_3 := blk_frozen BK504.out 3))
  refine bodyPost_ret (results_cell_row rfl _ _ gb504 25 #[.slice Ao11 t505.length co11, .slice Ao15 t508.length co15, .int .i64 t511, .bool true] (0, 0) _ rfl (kP BK504) Try.underlying25 rfl (by kernel_rfl)) rfl ?_
  exact ⟨_, _, eqU, by (with_reducible repeat (first | apply Kd.R_alloc | apply Kd.R_drewN | apply Kd.R_drew)); exact Kd.R_mono (Kd.R_far (p := ⟨gb504, 3, none⟩) (Kd.R_far (p := ⟨gb504, 2, none⟩) (Kd.R_far (p := ⟨gb504, 1, none⟩) (Kd.R_far (p := ⟨gb504, 0, none⟩) (Kd.R_far (p := ⟨gb513, 3, none⟩) (Kd.R_far (p := ⟨gb513, 2, none⟩) (Kd.R_far (p := ⟨gb513, 1, none⟩) (Kd.R_far (p := ⟨gb513, 0, none⟩) (Kd.R_types (Kd.R_types HO507.out BK513.out (by decide)) BK504.out (by decide)) (fun _ hk => hk.1.2) (.slice Ao11 t505.length co11)) (fun _ hk => hk.1.2) (.slice Ao15 t508.length co15)) (fun _ hk => hk.1.2) (.int .i64 t511)) (fun _ hk => hk.1.2) (.bool true)) (fun _ hk => hk.2) (.slice Ao11 t505.length co11)) (fun _ hk => hk.2) (.slice Ao15 t508.length co15)) (fun _ hk => hk.2) (.int .i64 t511)) (fun _ hk => hk.2) (.bool true)) (fun _ hk => trivial), by (with_reducible repeat (first | apply Kd.R_alloc | apply Kd.R_drewN | apply Kd.R_drew)); exact Kd.R_mono (Kd.R_far (p := ⟨gb504, 3, none⟩) (Kd.R_far (p := ⟨gb504, 2, none⟩) (Kd.R_far (p := ⟨gb504, 1, none⟩) (Kd.R_far (p := ⟨gb504, 0, none⟩) (Kd.R_far (p := ⟨gb513, 3, none⟩) (Kd.R_far (p := ⟨gb513, 2, none⟩) (Kd.R_far (p := ⟨gb513, 1, none⟩) (Kd.R_far (p := ⟨gb513, 0, none⟩) (Kd.R_types (Kd.R_types HO510.out BK513.out (by decide)) BK504.out (by decide)) (fun _ hk => hk.1.2) (.slice Ao11 t505.length co11)) (fun _ hk => hk.1.2) (.slice Ao15 t508.length co15)) (fun _ hk => hk.1.2) (.int .i64 t511)) (fun _ hk => hk.1.2) (.bool true)) (fun _ hk => hk.2) (.slice Ao11 t505.length co11)) (fun _ hk => hk.2) (.slice Ao15 t508.length co15)) (fun _ hk => hk.2) (.int .i64 t511)) (fun _ hk => hk.2) (.bool true)) (fun _ hk => trivial), bU HB⟩
 ·replace c4 := Bool.eq_false_iff.mpr c4
  subst c4
  have H1 : (some (t505, t508, mx a1 (-1), false)) = some (r1, r2, r3, r4) := by rw [if_neg (show ¬ (false = true) by decide)] at H; exact H
  clear H
  have H := H1
  clear H1
  obtain ⟨ji17, hji17⟩ : ∃ j_ : Int, (mx a1 (-1)) = j_ := ⟨_, rfl⟩
  replace H : (some (t505, t508, ji17, false)) = some (r1, r2, r3, r4) := by first | (rw [hji17] at H; exact H) | (simp only [hji17] at H ⊢; exact H)
  (try rw [hji17] at A3)
  have hji17_ : (if a1 < (-1) then (-1) else a1) = ji17 := hji17
  simp only [Option.some.injEq, Prod.mk.injEq] at H
  obtain ⟨rfl, rfl, rfl, rfl⟩ := H
  go_enter Try.func24, Try.ntmps24
  go_wp2_with (first | ((with_reducible refine gate_dst (N := 2) rfl ?_); refine box_event ?hg (N := 2) ?hd (cs := #[.slice A0_0 l0_0.length c0_0, .slice A0_1 l0_1.length c0_1, .int .i64 a0_2, .bool a0_3]) (t := 25) ?hr ?_; (case hd => rfl); (case hg => rfl); (case hr => first | (go_simp; done) | (go_simp; rfl)); intro gb503 hg w18 hbox hb; have n0_ := Aside0.mk (below_step (bU HB) hb); have n1_ := Aside0.mk (hbox); have n2_ := Aside0.mk ((by rw [hg]; exact (below_size (bU HB)) : w.heap.size ≤ gb503)); have n3_ := Aside0.mk ((by rw [hg]; exact (below_size (bU HB)) : w.heap.size ≤ gb503)); clear HB; have HB := n0_; have BK503 := n1_; have GW503 := n2_; have GE503 := n3_; clear n0_ n1_ n2_ n3_; clear hb hbox hg) | ((with_reducible refine gate_dst (N := 4) rfl ?_); refine box_event ?hg (N := 4) ?hd (cs := #[.slice none 0 0, .slice none 0 0, .int .i64 0, .bool false]) (t := 25) ?hr ?_; (case hd => rfl); (case hg => rfl); (case hr => first | (go_simp; done) | (go_simp; rfl)); intro gb504 hg w19 hbox hb; have n0_ := Aside0.mk (blk_below (kU BK503) hb); have n1_ := Aside0.mk (below_step (bU HB) hb); have n2_ := Aside0.mk (hbox); have n3_ := Aside0.mk ((by rw [hg]; exact (below_size (bU HB)) : w.heap.size ≤ gb504)); have n4_ := Aside0.mk ((by rw [hg]; exact (below_size (bU HB)) : w.heap.size ≤ gb504)); have n5_ := Aside0.mk ((by rw [hg]; exact Nat.ne_of_lt (blk_lt (g := gb503) (o := .cells #[.slice A0_0 l0_0.length c0_0, .slice A0_1 l0_1.length c0_1, .int .i64 a0_2, .bool a0_3] 25 (0, 0)) (kU BK503)) : gb503 ≠ gb504)); have n6_ := Aside0.mk ((by rw [hg]; exact Nat.ne_of_gt (blk_lt (g := gb503) (o := .cells #[.slice A0_0 l0_0.length c0_0, .slice A0_1 l0_1.length c0_1, .int .i64 a0_2, .bool a0_3] 25 (0, 0)) (kU BK503)) : gb504 ≠ gb503)); clear BK503; clear HB; have BK503 := n0_; have HB := n1_; have BK504 := n2_; have GW504 := n3_; have GE504 := n4_; have NB503_504 := n5_; have NB504_503 := n6_; clear n0_ n1_ n2_ n3_ n4_ n5_ n6_; clear hb hbox hg; have hnb20 := NB503_504.out; have hnc20 := NB504_503.out; have hcz21_0 : w19.cell? ⟨gb503, 0, none⟩ = some (.slice A0_0 l0_0.length c0_0) := (blk_cell BK503.out 0).trans rfl; have hcz21_1 : w19.cell? ⟨gb503, 1, none⟩ = some (.slice A0_1 l0_1.length c0_1) := (blk_cell BK503.out 1).trans rfl; have hcz21_2 : w19.cell? ⟨gb503, 2, none⟩ = some (.int .i64 a0_2) := (blk_cell BK503.out 2).trans rfl; have hcz21_3 : w19.cell? ⟨gb503, 3, none⟩ = some (.bool a0_3) := (blk_cell BK503.out 3).trans rfl; have hfz21_0 := blk_frozen BK503.out 0; have hfz21_1 := blk_frozen BK503.out 1; have hfz21_2 := blk_frozen BK503.out 2; have hfz21_3 := blk_frozen BK503.out 3) | ((with_reducible refine gate_callee (f := 9) rfl ?_); refine goesL_ (some 7) rfl rfl Try.func9 (by kernel_rfl) rfl #[.agg #[.slice A0_0 l0_0.length c0_0, .slice A0_1 l0_1.length c0_1, .int .i64 a0_2, .bool a0_3]] rfl (by (try simp only [List.map_toArray, List.map_cons, List.map_nil]); first | done | rfl | (simp only [List.length_drop, List.length_take]; rfl)) ?_; (with_reducible refine (almanacref02_Copy.calls _ _ l0_0 _ _ l0_1 a0_2 a0_3 t505 t508 t511 false _ ?side1 ?side2 ?side3 ?side4 A3.out).mono ?_); (case side1 => exact cU (Kd.C_below HR0_0.out HB.out)); (case side2 => exact HC0_0.out); (case side3 => exact cU (Kd.C_below HR0_1.out HB.out)); (case side4 => exact HC0_1.out); rintro e w22 ⟨v506, v509, rfl, ho0, ho1, hb⟩; refine ⟨_, rfl, ?_⟩; have n0_ := Aside0.mk (Kd.R_lower ho0 (below_size (bU HB))); have n1_ := Aside0.mk (Kd.R_lower ho1 (below_size (bU HB))); have n2_ := Aside0.mk (blk_below (kU BK503) hb); have n3_ := Aside0.mk (blk_below (kU BK504) hb); have n4_ := Aside0.mk (below_step (bU HB) hb); clear BK503; clear BK504; clear HB; have HO507 := n0_; have HO510 := n1_; have BK503 := n2_; have BK504 := n3_; have HB := n4_; clear n0_ n1_ n2_ n3_ n4_; (try clear hb); (try clear hb2); (try clear hk); (try clear hi); (try clear ho0); (try clear ho1)) | ((with_reducible refine gate_dst (N := 5) rfl ?_); refine box_event ?hg (N := 5) ?hd (cs := #[.slice none 0 0, .slice none 0 0, .int .i64 0, .bool false]) (t := 25) ?hr ?_; (case hd => rfl); (case hg => rfl); (case hr => first | (go_simp; done) | (go_simp; rfl)); intro gb513 hg w23 hbox hb; have n0_ := Aside0.mk (Kd.R_below (rU HO507) hb); have n1_ := Aside0.mk (Kd.R_below (rU HO510) hb); have n2_ := Aside0.mk (blk_below (kU BK503) hb); have n3_ := Aside0.mk (blk_below (kU BK504) hb); have n4_ := Aside0.mk (below_step (bU HB) hb); have n5_ := Aside0.mk (hbox); have n6_ := Aside0.mk ((by rw [hg]; exact (below_size (bU HB)) : w.heap.size ≤ gb513)); have n7_ := Aside0.mk ((by rw [hg]; exact (below_size (bU HB)) : w.heap.size ≤ gb513)); have n8_ := Aside0.mk ((by rw [hg]; exact Nat.ne_of_lt (blk_lt (g := gb503) (o := .cells #[.slice A0_0 l0_0.length c0_0, .slice A0_1 l0_1.length c0_1, .int .i64 a0_2, .bool a0_3] 25 (0, 0)) (kU BK503)) : gb503 ≠ gb513)); have n9_ := Aside0.mk ((by rw [hg]; exact Nat.ne_of_gt (blk_lt (g := gb503) (o := .cells #[.slice A0_0 l0_0.length c0_0, .slice A0_1 l0_1.length c0_1, .int .i64 a0_2, .bool a0_3] 25 (0, 0)) (kU BK503)) : gb513 ≠ gb503)); have n10_ := Aside0.mk ((by rw [hg]; exact Nat.ne_of_lt (blk_lt (g := gb504) (o := .cells #[.slice none 0 0, .slice none 0 0, .int .i64 0, .bool false] 25 (0, 0)) (kU BK504)) : gb504 ≠ gb513)); have n11_ := Aside0.mk ((by rw [hg]; exact Nat.ne_of_gt (blk_lt (g := gb504) (o := .cells #[.slice none 0 0, .slice none 0 0, .int .i64 0, .bool false] 25 (0, 0)) (kU BK504)) : gb513 ≠ gb504)); clear HO507; clear HO510; clear BK503; clear BK504; clear HB; have HO507 := n0_; have HO510 := n1_; have BK503 := n2_; have BK504 := n3_; have HB := n4_; have BK513 := n5_; have GW513 := n6_; have GE513 := n7_; have NB503_513 := n8_; have NB513_503 := n9_; have NB504_513 := n10_; have NB513_504 := n11_; clear n0_ n1_ n2_ n3_ n4_ n5_ n6_ n7_ n8_ n9_ n10_ n11_; clear hb hbox hg; obtain ⟨Ao24, co24, eo24⟩ := Kd.R_slice HO507.out; subst eo24; have hnb25 := NB513_503.out; have hnc25 := NB503_513.out; have hnb26 := NB513_504.out; have hnc26 := NB504_513.out; have hcz27_0 : w23.cell? ⟨gb513, 0, none⟩ = some (.slice none 0 0) := (blk_cell BK513.out 0).trans rfl; have hcz27_1 : w23.cell? ⟨gb513, 1, none⟩ = some (.slice none 0 0) := (blk_cell BK513.out 1).trans rfl; have hcz27_2 : w23.cell? ⟨gb513, 2, none⟩ = some (.int .i64 0) := (blk_cell BK513.out 2).trans rfl; have hcz27_3 : w23.cell? ⟨gb513, 3, none⟩ = some (.bool false) := (blk_cell BK513.out 3).trans rfl; have hfz27_0 := blk_frozen BK513.out 0; have hfz27_1 := blk_frozen BK513.out 1; have hfz27_2 := blk_frozen BK513.out 2; have hfz27_3 := blk_frozen BK513.out 3; obtain ⟨Ao28, co28, eo28⟩ := Kd.R_slice HO510.out; subst eo28; have hcz29_0 : w23.cell? ⟨gb504, 0, none⟩ = some (.slice none 0 0) := (blk_cell BK504.out 0).trans rfl; have hcz29_1 : w23.cell? ⟨gb504, 1, none⟩ = some (.slice none 0 0) := (blk_cell BK504.out 1).trans rfl; have hcz29_2 : w23.cell? ⟨gb504, 2, none⟩ = some (.int .i64 0) := (blk_cell BK504.out 2).trans rfl; have hcz29_3 : w23.cell? ⟨gb504, 3, none⟩ = some (.bool false) := (blk_cell BK504.out 3).trans rfl; have hfz29_0 := blk_frozen BK504.out 0; have hfz29_1 := blk_frozen BK504.out 1; have hfz29_2 := blk_frozen BK504.out 2; have hfz29_3 := blk_frozen BK504.out 3))
  refine bodyPost_ret (results_cell_row rfl _ _ gb504 25 #[.slice Ao24 t505.length co24, .slice Ao28 t508.length co28, .int .i64 ji17, .bool false] (0, 0) _ rfl (kP BK504) Try.underlying25 rfl (by kernel_rfl)) rfl ?_
  exact ⟨_, _, by first | rfl | (simp [errW_none, errW_some] <;> rfl) | (simp only [← hji17]; first | rfl | (simp [errW_none, errW_some] <;> rfl)) | (simp [*, errW_none, errW_some] <;> rfl), by (with_reducible repeat (first | apply Kd.R_alloc | apply Kd.R_drewN | apply Kd.R_drew)); exact Kd.R_mono (Kd.R_far (p := ⟨gb504, 3, none⟩) (Kd.R_far (p := ⟨gb504, 2, none⟩) (Kd.R_far (p := ⟨gb504, 1, none⟩) (Kd.R_far (p := ⟨gb504, 0, none⟩) (Kd.R_far (p := ⟨gb513, 2, none⟩) (Kd.R_far (p := ⟨gb513, 3, none⟩) (Kd.R_far (p := ⟨gb513, 2, none⟩) (Kd.R_far (p := ⟨gb513, 1, none⟩) (Kd.R_far (p := ⟨gb513, 0, none⟩) (Kd.R_types (Kd.R_types HO507.out BK513.out (by decide)) BK504.out (by decide)) (fun _ hk => hk.1.2) (.slice Ao24 t505.length co24)) (fun _ hk => hk.1.2) (.slice Ao28 t508.length co28)) (fun _ hk => hk.1.2) (.int .i64 t511)) (fun _ hk => hk.1.2) (.bool false)) (fun _ hk => hk.1.2) (.int .i64 ji17)) (fun _ hk => hk.2) (.slice Ao24 t505.length co24)) (fun _ hk => hk.2) (.slice Ao28 t508.length co28)) (fun _ hk => hk.2) (.int .i64 ji17)) (fun _ hk => hk.2) (.bool false)) (fun _ hk => trivial), by (with_reducible repeat (first | apply Kd.R_alloc | apply Kd.R_drewN | apply Kd.R_drew)); exact Kd.R_mono (Kd.R_far (p := ⟨gb504, 3, none⟩) (Kd.R_far (p := ⟨gb504, 2, none⟩) (Kd.R_far (p := ⟨gb504, 1, none⟩) (Kd.R_far (p := ⟨gb504, 0, none⟩) (Kd.R_far (p := ⟨gb513, 2, none⟩) (Kd.R_far (p := ⟨gb513, 3, none⟩) (Kd.R_far (p := ⟨gb513, 2, none⟩) (Kd.R_far (p := ⟨gb513, 1, none⟩) (Kd.R_far (p := ⟨gb513, 0, none⟩) (Kd.R_types (Kd.R_types HO510.out BK513.out (by decide)) BK504.out (by decide)) (fun _ hk => hk.1.2) (.slice Ao24 t505.length co24)) (fun _ hk => hk.1.2) (.slice Ao28 t508.length co28)) (fun _ hk => hk.1.2) (.int .i64 t511)) (fun _ hk => hk.1.2) (.bool false)) (fun _ hk => hk.1.2) (.int .i64 ji17)) (fun _ hk => hk.2) (.slice Ao24 t505.length co24)) (fun _ hk => hk.2) (.slice Ao28 t508.length co28)) (fun _ hk => hk.2) (.int .i64 ji17)) (fun _ hk => hk.2) (.bool false)) (fun _ hk => trivial), bU HB⟩

end Go.Proofs.Ytaocplhijfkicaa.PD
-- written by a program of this work (mk.sh, over the kit's print; stubs are proved by hand)
namespace Go.Proofs.Ytaocplhijfkicaa.PD
open Go.RowKit Go.Proofs.YtaocplhijfkicaaW.PrintWords Go.Proofs.YtaocplhijfkicaaW.PrintLast Go.Proofs.YtaocplhijfkicaaW.PrintMore
attribute [local go_sem] isSome_setCell max2_int min2_int max_two min_two   -- for this text's walks alone
set_option linter.unusedVariables false
set_option linter.unusedSimpArgs false

/-! ### almanacref02_Read: function 25 -/
mutual
def almanacref02_Read.j0 : Nat → Int → Bool → List ByteArray → List (S40) → Int → Bool → Option (ByteArray × Int)
 | 0, _, _, _, _, _, _ => none
 | k + 1, x1, x18, x515000, x515001, x515002, x515003 => if x18 = true then (some ((⟨#[]⟩ : ByteArray), 15)) else (if 0 ≤ x1 then (if x1 < (x515000.length : Int) then (almanacref02_Read.l0 k x1 (rdOf ByteArray.empty x515000 x1) 0 x515000 x515001 x515002 x515003) else (none)) else (none))
def almanacref02_Read.l0 : Nat → Int → ByteArray → Int → List ByteArray → List (S40) → Int → Bool → Option (ByteArray × Int)
 | 0, _, _, _, _, _, _, _ => none
 | k + 1, x1, x6, x7, x515000, x515001, x515002, x515003 => if x7 < (x515001.length : Int) then (if 0 ≤ x7 then (if ((rd_T40 x515001 x7).f0) = x1 then (almanacref02_Read.l0 k x1 ((rd_T40 x515001 x7).f1) (wrap64 (x7 + 1)) x515000 x515001 x515002 x515003) else (almanacref02_Read.l0 k x1 x6 (wrap64 (x7 + 1)) x515000 x515001 x515002 x515003)) else (none)) else (some (x6, 0))
end
def almanacref02_Read.f (k : Nat) (l0_0 : List ByteArray) (l0_1 : List (S40)) (a0_2 : Int) (a0_3 : Bool) (a1 : Int) : Option (ByteArray × Int) := if a0_3 = true then (some ((⟨#[]⟩ : ByteArray), 17)) else (if a1 < 0 then (almanacref02_Read.j0 k a1 true l0_0 l0_1 a0_2 a0_3) else (almanacref02_Read.j0 k a1 (decide (a1 ≥ (l0_0.length : Int))) l0_0 l0_1 a0_2 a0_3))
theorem almanacref02_Read.mono_l : ∀ k, (∀ y0 y1 y2 y3 y4 y5, LeO (almanacref02_Read.j0 k y0 y1 y2 y3 y4 y5) (almanacref02_Read.j0 (k + 1) y0 y1 y2 y3 y4 y5)) ∧ (∀ y0 y1 y2 y3 y4 y5 y6, LeO (almanacref02_Read.l0 k y0 y1 y2 y3 y4 y5 y6) (almanacref02_Read.l0 (k + 1) y0 y1 y2 y3 y4 y5 y6))
 | 0 => ⟨fun _ _ _ _ _ _ r h => by simp [almanacref02_Read.j0] at h, fun _ _ _ _ _ _ _ r h => by simp [almanacref02_Read.l0] at h⟩
 | k + 1 => by
  obtain ⟨ih0, ih1⟩ := almanacref02_Read.mono_l k
  refine ⟨?_, ?_⟩
  ·intro y0 y1 y2 y3 y4 y5
   unfold almanacref02_Read.j0
   repeat' first
   | (with_reducible exact ih0 _ _ _ _ _ _)
   | (with_reducible exact ih1 _ _ _ _ _ _ _)
   | (with_reducible exact LeO.refl _)
   | (with_reducible exact LeO.none _)
   | (with_reducible refine LeO.ite ?_ ?_)
   | (with_reducible refine LeO.bind ?_ (fun _ => ?_))
   | exact ih0 _ _ _ _ _ _
   | exact ih1 _ _ _ _ _ _ _
   | exact LeO.none _
   | refine LeO.ite ?_ ?_
   | refine LeO.bind ?_ (fun _ => ?_)
  ·intro y0 y1 y2 y3 y4 y5 y6
   unfold almanacref02_Read.l0
   repeat' first
   | (with_reducible exact ih0 _ _ _ _ _ _)
   | (with_reducible exact ih1 _ _ _ _ _ _ _)
   | (with_reducible exact LeO.refl _)
   | (with_reducible exact LeO.none _)
   | (with_reducible refine LeO.ite ?_ ?_)
   | (with_reducible refine LeO.bind ?_ (fun _ => ?_))
   | exact ih0 _ _ _ _ _ _
   | exact ih1 _ _ _ _ _ _ _
   | exact LeO.none _
   | refine LeO.ite ?_ ?_
   | refine LeO.bind ?_ (fun _ => ?_)
theorem almanacref02_Read.mono : ∀ a0 a1 a2 a3 a4 k, LeO (almanacref02_Read.f k a0 a1 a2 a3 a4) (almanacref02_Read.f (k + 1) a0 a1 a2 a3 a4) := by
 intro a0 a1 a2 a3 a4 k
 obtain ⟨ih0, ih1⟩ := almanacref02_Read.mono_l k
 unfold almanacref02_Read.f
 repeat' first
   | (with_reducible exact ih0 _ _ _ _ _ _)
   | (with_reducible exact ih1 _ _ _ _ _ _ _)
   | (with_reducible exact LeO.refl _)
   | (with_reducible exact LeO.none _)
   | (with_reducible refine LeO.ite ?_ ?_)
   | (with_reducible refine LeO.bind ?_ (fun _ => ?_))
   | exact ih0 _ _ _ _ _ _
   | exact ih1 _ _ _ _ _ _ _
   | exact LeO.none _
   | refine LeO.ite ?_ ?_
   | refine LeO.bind ?_ (fun _ => ?_)
set_option maxHeartbeats 8000000 in
set_option maxRecDepth 100000 in
theorem almanacref02_Read.calls (k : Nat) (A0_0 : Option Addr) (c0_0 : Nat) (l0_0 : List ByteArray) (A0_1 : Option Addr) (c0_1 : Nat) (l0_1 : List (S40)) (a0_2 : Int) (a0_3 : Bool) (a1 : Int) (r1 : ByteArray) (r2 : Int) (w : World) (hr0_0 : Kd.C Kd.string w A0_0 l0_0.length l0_0) (hc0_0 : l0_0.length ≤ c0_0) (hr0_1 : Kd.C k40 w A0_1 l0_1.length l0_1) (hc0_1 : l0_1.length ≤ c0_1) (h : almanacref02_Read.f k l0_0 l0_1 a0_2 a0_3 a1 = some (r1, r2)) :
  Calls Try.prog 25 #[.agg #[.slice A0_0 l0_0.length c0_0, .slice A0_1 l0_1.length c0_1, .int .i64 a0_2, .bool a0_3], .int .i64 a1] w fun e w' => e = .returned (.tuple #[.string r1, .int .i64 r2]) ∧ Below w.heap.size w w' := by
 have hu25 := Try.underlying25
 have HR0_0 := Aside0.mk hr0_0
 have HC0_0 := Aside0.mk hc0_0
 clear hr0_0 hc0_0
 have HR0_1 := Aside0.mk hr0_1
 have HC0_1 := Aside0.mk hc0_1
 clear hr0_1 hc0_1
 have HB := Aside0.mk (Below.refl w.heap.size w)
 have H : (if a0_3 = true then (some ((⟨#[]⟩ : ByteArray), 17)) else (if a1 < 0 then (almanacref02_Read.j0 k a1 true l0_0 l0_1 a0_2 a0_3) else (almanacref02_Read.j0 k a1 (decide (a1 ≥ (l0_0.length : Int))) l0_0 l0_1 a0_2 a0_3))) = some (r1, r2) := h
 clear h
 by_cases c3 : a0_3 = true
 ·subst c3
  have H1 : (some ((⟨#[]⟩ : ByteArray), 17)) = some (r1, r2) := by rw [if_pos rfl] at H; exact H
  clear H
  have H := H1
  clear H1
  simp only [Option.some.injEq, Prod.mk.injEq] at H
  obtain ⟨rfl, rfl⟩ := H
  go_enter Try.func25, Try.ntmps25
  go_wp2_with (first | ((with_reducible refine gate_dst (N := 2) rfl ?_); (try (refine gate_guard (by rfl) ?_; dsimp only)); refine box_event ?hg (N := 2) ?hd (cs := #[.slice A0_0 l0_0.length c0_0, .slice A0_1 l0_1.length c0_1, .int .i64 a0_2, .bool true]) (t := 25) ?hr ?_; (case hd => rfl); (case hg => rfl); (case hr => first | (go_simp; done) | (go_simp; rfl)); intro gb514 hg w4 hbox hb; have n0_ := Aside0.mk (below_step (bU HB) hb); have n1_ := Aside0.mk (hbox); have n2_ := Aside0.mk ((by rw [hg]; exact (below_size (bU HB)) : w.heap.size ≤ gb514)); have n3_ := Aside0.mk ((by rw [hg]; exact (below_size (bU HB)) : w.heap.size ≤ gb514)); clear HB; have HB := n0_; have BK514 := n1_; have GW514 := n2_; have GE514 := n3_; clear n0_ n1_ n2_ n3_; clear hb hbox hg; have hcz5_0 : w4.cell? ⟨gb514, 0, none⟩ = some (.slice A0_0 l0_0.length c0_0) := (blk_cell BK514.out 0).trans rfl; have hcz5_1 : w4.cell? ⟨gb514, 1, none⟩ = some (.slice A0_1 l0_1.length c0_1) := (blk_cell BK514.out 1).trans rfl; have hcz5_2 : w4.cell? ⟨gb514, 2, none⟩ = some (.int .i64 a0_2) := (blk_cell BK514.out 2).trans rfl; have hcz5_3 : w4.cell? ⟨gb514, 3, none⟩ = some (.bool true) := (blk_cell BK514.out 3).trans rfl; have hfz5_0 := blk_frozen BK514.out 0; have hfz5_1 := blk_frozen BK514.out 1; have hfz5_2 := blk_frozen BK514.out 2; have hfz5_3 := blk_frozen BK514.out 3))
  go_ret2
  exact ⟨eqU, bU HB⟩
 ·replace c3 := Bool.eq_false_iff.mpr c3
  subst c3
  have H1 : (if a1 < 0 then (almanacref02_Read.j0 k a1 true l0_0 l0_1 a0_2 false) else (almanacref02_Read.j0 k a1 (decide (a1 ≥ (l0_0.length : Int))) l0_0 l0_1 a0_2 false)) = some (r1, r2) := by rw [if_neg (show ¬ (false = true) by decide)] at H; exact H
  clear H
  have H := H1
  clear H1
  have HC6 := Aside0.mk H
  clear H
  go_enter Try.func25, Try.ntmps25
  go_upto_region 3 with (first | ((with_reducible refine gate_dst (N := 2) rfl ?_); (try (refine gate_guard (by rfl) ?_; dsimp only)); refine box_event ?hg (N := 2) ?hd (cs := #[.slice A0_0 l0_0.length c0_0, .slice A0_1 l0_1.length c0_1, .int .i64 a0_2, .bool false]) (t := 25) ?hr ?_; (case hd => rfl); (case hg => rfl); (case hr => first | (go_simp; done) | (go_simp; rfl)); intro gb514 hg w7 hbox hb; have n0_ := Aside0.mk (below_step (bU HB) hb); have n1_ := Aside0.mk (hbox); have n2_ := Aside0.mk ((by rw [hg]; exact (below_size (bU HB)) : w.heap.size ≤ gb514)); have n3_ := Aside0.mk ((by rw [hg]; exact (below_size (bU HB)) : w.heap.size ≤ gb514)); clear HB; have HB := n0_; have BK514 := n1_; have GW514 := n2_; have GE514 := n3_; clear n0_ n1_ n2_ n3_; clear hb hbox hg; have hcz8_0 : w7.cell? ⟨gb514, 0, none⟩ = some (.slice A0_0 l0_0.length c0_0) := (blk_cell BK514.out 0).trans rfl; have hcz8_1 : w7.cell? ⟨gb514, 1, none⟩ = some (.slice A0_1 l0_1.length c0_1) := (blk_cell BK514.out 1).trans rfl; have hcz8_2 : w7.cell? ⟨gb514, 2, none⟩ = some (.int .i64 a0_2) := (blk_cell BK514.out 2).trans rfl; have hcz8_3 : w7.cell? ⟨gb514, 3, none⟩ = some (.bool false) := (blk_cell BK514.out 3).trans rfl; have hfz8_0 := blk_frozen BK514.out 0; have hfz8_1 := blk_frozen BK514.out 1; have hfz8_2 := blk_frozen BK514.out 2; have hfz8_3 := blk_frozen BK514.out 3))
  (try simp only [Act.put, List.setIfInBounds_toArray, List.set_cons_zero, List.set_cons_succ])
  go_cut [18] (fun v18 wc => ∃ (kq : Nat) (x18_5 : Bool), v18 = .bool x18_5 ∧ Aside0 (almanacref02_Read.j0 kq a1 x18_5 l0_0 l0_1 a0_2 false = some (r1, r2)) ∧ Aside0 (kq ≤ k) ∧ Aside0 (wc.heap[gb514]? = some (.cells #[(.slice A0_0 l0_0.length c0_0), (.slice A0_1 l0_1.length c0_1), .int .i64 a0_2, .bool false] 25 (0, 0))) ∧ Aside0 (Below w.heap.size w wc))
  case first =>
   have H := HC6.out
   clear HC6
   by_cases c9 : a1 < 0
   ·rw [if_pos c9] at H
    have c9b0 : decide (a1 < 0) = true := decide_eq_true c9
    clear c9
    (first | rw [c9b0] | (simp only [i64_w, i32_w]; rw [c9b0]) | skip)
    have H' := Aside0.mk H
    clear H
    go_wp2
    go_meet
    case rel => exact ⟨_, (true), (by first | rfl | (simp; done) | (simp [*]; done)), H', ⟨by first | omega | exact Nat.le_refl _⟩, ⟨kU BK514⟩, ⟨bU HB⟩⟩
   ·rw [if_neg c9] at H
    have c9b0 : decide (a1 < 0) = false := decide_eq_false c9
    clear c9
    (first | rw [c9b0] | (simp only [i64_w, i32_w]; rw [c9b0]) | skip)
    have H' := Aside0.mk H
    clear H
    obtain ⟨hcz10_0, hcz10_1, hcz10_2, hcz10_3, hfz10_0, hfz10_1, hfz10_2, hfz10_3⟩ := k4 BK514
    go_wp2
    go_meet
    case rel => exact ⟨_, (decide (a1 ≥ (l0_0.length : Int))), (by first | rfl | (simp; done) | (simp [*]; done)), H', ⟨by first | omega | exact Nat.le_refl _⟩, ⟨kU BK514⟩, ⟨bU HB⟩⟩
  case rest =>
   clear HC6
   try clear c2
   try clear p2
   try clear c3
   try clear c9
   try clear c9b0
   try clear hcz10_0 hcz10_1 hcz10_2 hcz10_3 hfz10_0 hfz10_1 hfz10_2 hfz10_3
   try clear hcz5_0 hcz5_1 hcz5_2 hcz5_3 hfz5_0 hfz5_1 hfz5_2 hfz5_3
   try clear hcz8_0 hcz8_1 hcz8_2 hcz8_3 hfz8_0 hfz8_1 hfz8_2 hfz8_3
   obtain ⟨kq, x18_5, rfl, HA, HJ5, BK514, HB⟩ := hcut
   cases kq with
   | zero => exact absurd HA.out (by simp [almanacref02_Read.j0])
   | succ kj5 =>
    have H := HA.out
    clear HA
    simp only [almanacref02_Read.j0] at H
    by_cases c11 : x18_5 = true
    ·subst c11
     have H1 : (some ((⟨#[]⟩ : ByteArray), 15)) = some (r1, r2) := by rw [if_pos rfl] at H; exact H
     clear H
     have H := H1
     clear H1
     simp only [Option.some.injEq, Prod.mk.injEq] at H
     obtain ⟨rfl, rfl⟩ := H
     go_wp2
     go_ret2
     exact ⟨eqU, bU HB⟩
    ·replace c11 := Bool.eq_false_iff.mpr c11
     subst c11
     have H1 : (if 0 ≤ a1 then (if a1 < (l0_0.length : Int) then (almanacref02_Read.l0 kj5 a1 (rdOf ByteArray.empty l0_0 a1) 0 l0_0 l0_1 a0_2 false) else (none)) else (none)) = some (r1, r2) := by rw [if_neg (show ¬ (false = true) by decide)] at H; exact H
     clear H
     have H := H1
     clear H1
     by_cases c12 : 0 ≤ a1
     ·rw [if_pos c12] at H
      have c12b0 : decide (0 ≤ a1) = true := decide_eq_true c12
      clear c12
      by_cases c13 : a1 < (l0_0.length : Int)
      ·rw [if_pos c13] at H
       have c13b0 : decide (a1 < (l0_0.length : Int)) = true := decide_eq_true c13
       clear c13
       have H' := Aside0.mk H
       clear H
       obtain ⟨hcz14_0, hcz14_1, hcz14_2, hcz14_3, hfz14_0, hfz14_1, hfz14_2, hfz14_3⟩ := k4 BK514
       have p515 : 0 ≤ (a1 : Int) := of_decide_eq_true (by first | (with_reducible assumption) | assumption)
       have q515 : a1 < (l0_0.length : Int) := of_decide_eq_true (by first | (with_reducible assumption) | assumption)
       obtain ⟨ad515, e515, hx515_0⟩ := Kd.at_string HR0_0.out a1 p515 q515
       cases e515
       replace hx515_0 := (HB.out.cell (World.block_lt_of_cell? w _ hx515_0)).trans hx515_0
       replace p515 := eq_true p515
       replace q515 := eq_true q515
       go_wp2
       go_loopg [6, 7] kj5 (fun kq v6 v7 w' => ∃ (x6_2 : ByteArray) (x7_2 : Int), v6 = .string x6_2 ∧ v7 = .int .i64 x7_2 ∧ Aside0 (almanacref02_Read.l0 kq a1 x6_2 x7_2 l0_0 l0_1 a0_2 false = some (r1, r2)) ∧ Aside0 (kq ≤ kj5) ∧ Aside0 (w'.heap[gb514]? = some (.cells #[(.slice (some ad515) l0_0.length c0_0), (.slice A0_1 l0_1.length c0_1), .int .i64 a0_2, .bool false] 25 (0, 0))) ∧ Aside0 (Below w.heap.size w w'))
       case atStart => exact ⟨(rdOf ByteArray.empty l0_0 a1), (0), (by first | rfl | (simp; done) | (simp [*]; done)), (by first | rfl | (simp; done) | (simp [*]; done)), H', ⟨Nat.le_refl _⟩, ⟨kU BK514⟩, ⟨bU HB⟩⟩
       case round =>
        clear H'
        try clear c1
        try clear c2
        try clear p2
        try clear c3
        try clear p5
        try clear q5
        try clear hx5
        try clear c9
        try clear c9b0
        try clear c11
        try clear c12
        try clear c12b0
        try clear c13
        try clear c13b0
        try clear hcz10_0 hcz10_1 hcz10_2 hcz10_3 hfz10_0 hfz10_1 hfz10_2 hfz10_3
        try clear hcz14_0 hcz14_1 hcz14_2 hcz14_3 hfz14_0 hfz14_1 hfz14_2 hfz14_3
        try clear hcz5_0 hcz5_1 hcz5_2 hcz5_3 hfz5_0 hfz5_1 hfz5_2 hfz5_3
        try clear hcz8_0 hcz8_1 hcz8_2 hcz8_3 hfz8_0 hfz8_1 hfz8_2 hfz8_3
        try clear hx515_0
        try clear p2
        try clear p515
        try clear q515
        obtain ⟨x6_2, x7_2, rfl, rfl, HA, HK2, BK514, HB⟩ := hrel
        cases gk with
        | zero => exact absurd HA.out (by simp [almanacref02_Read.l0])
        | succ k2 =>
         have H := HA.out
         clear HA
         simp only [almanacref02_Read.l0] at H
         by_cases c15 : x7_2 < (l0_1.length : Int)
         ·rw [if_pos c15] at H
          have c15b0 : decide (x7_2 < (l0_1.length : Int)) = true := decide_eq_true c15
          clear c15
          by_cases c16 : 0 ≤ x7_2
          ·rw [if_pos c16] at H
           have c16b0 : decide (0 ≤ x7_2) = true := decide_eq_true c16
           clear c16
           by_cases c17 : ((rd_T40 l0_1 x7_2).f0) = a1
           ·rw [if_pos c17] at H
            have c17b0 : (((rd_T40 l0_1 x7_2).f0) == a1) = true := beq_iff_eq.mpr c17
            have c17b1 : (((rd_T40 l0_1 x7_2).f0) != a1) = false := bne_eq_false_iff_eq.mpr c17
            clear c17
            have H' := Aside0.mk H
            clear H
            obtain ⟨hcz18_0, hcz18_1, hcz18_2, hcz18_3, hfz18_0, hfz18_1, hfz18_2, hfz18_3⟩ := k4 BK514
            have p516 : 0 ≤ (x7_2 : Int) := of_decide_eq_true (by first | (with_reducible assumption) | assumption)
            have q516 : x7_2 < (l0_1.length : Int) := of_decide_eq_true (by first | (with_reducible assumption) | assumption)
            obtain ⟨ad516, e516, hx516_0, hx516_1⟩ := at_T40 HR0_1.out x7_2 p516 q516
            cases e516
            replace hx516_0 := (HB.out.cell (World.block_lt_of_cell? w _ hx516_0)).trans hx516_0
            replace hx516_1 := (HB.out.cell (World.block_lt_of_cell? w _ hx516_1)).trans hx516_1
            replace p516 := eq_true p516
            replace q516 := eq_true q516
            have p517 : 0 ≤ (x7_2 : Int) := of_decide_eq_true (by first | (with_reducible assumption) | assumption)
            have q517 : x7_2 < (l0_1.length : Int) := of_decide_eq_true (by first | (with_reducible assumption) | assumption)
            obtain ⟨ad517, e517, hx517_0, hx517_1⟩ := at_T40 HR0_1.out x7_2 p517 q517
            obtain rfl : ad516 = ad517 := (by injection e517)
            replace hx517_0 := (HB.out.cell (World.block_lt_of_cell? w _ hx517_0)).trans hx517_0
            replace hx517_1 := (HB.out.cell (World.block_lt_of_cell? w _ hx517_1)).trans hx517_1
            replace p517 := eq_true p517
            replace q517 := eq_true q517
            go_wp2
            go_roundg k2
            case measure => have := HJ5.out; have := HK2.out; omega
            case rel => exact ⟨((rd_T40 l0_1 x7_2).f1), (wrap64 (x7_2 + 1)), (by first | rfl | (simp; done) | (simp [*]; done)), (by first | rfl | (simp; done) | (simp [*]; done)), H', ⟨by have := HJ5.out; have := HK2.out; omega⟩, ⟨kU BK514⟩, ⟨bU HB⟩⟩
           ·rw [if_neg c17] at H
            have c17b0 : (((rd_T40 l0_1 x7_2).f0) == a1) = false := beq_eq_false_iff_ne.mpr c17
            have c17b1 : (((rd_T40 l0_1 x7_2).f0) != a1) = true := bne_iff_ne.mpr c17
            have H' := Aside0.mk H
            clear H
            obtain ⟨hcz19_0, hcz19_1, hcz19_2, hcz19_3, hfz19_0, hfz19_1, hfz19_2, hfz19_3⟩ := k4 BK514
            have p516 : 0 ≤ (x7_2 : Int) := of_decide_eq_true (by first | (with_reducible assumption) | assumption)
            have q516 : x7_2 < (l0_1.length : Int) := of_decide_eq_true (by first | (with_reducible assumption) | assumption)
            obtain ⟨ad516, e516, hx516_0, hx516_1⟩ := at_T40 HR0_1.out x7_2 p516 q516
            cases e516
            replace hx516_0 := (HB.out.cell (World.block_lt_of_cell? w _ hx516_0)).trans hx516_0
            replace hx516_1 := (HB.out.cell (World.block_lt_of_cell? w _ hx516_1)).trans hx516_1
            replace p516 := eq_true p516
            replace q516 := eq_true q516
            go_wp2
            go_roundg k2
            case measure => have := HJ5.out; have := HK2.out; omega
            case rel => exact ⟨(x6_2), (wrap64 (x7_2 + 1)), (by first | rfl | (simp; done) | (simp [*]; done)), (by first | rfl | (simp; done) | (simp [*]; done)), H', ⟨by have := HJ5.out; have := HK2.out; omega⟩, ⟨kU BK514⟩, ⟨bU HB⟩⟩
          ·rw [if_neg c16] at H
           exact absurd H (by simp)
         ·rw [if_neg c15] at H
          have c15b0 : decide (x7_2 < (l0_1.length : Int)) = false := decide_eq_false c15
          clear c15
          simp only [Option.some.injEq, Prod.mk.injEq] at H
          obtain ⟨rfl, rfl⟩ := H
          obtain ⟨hcz20_0, hcz20_1, hcz20_2, hcz20_3, hfz20_0, hfz20_1, hfz20_2, hfz20_3⟩ := k4 BK514
          go_wp2
          go_ret2
          exact ⟨eqU, bU HB⟩
      ·rw [if_neg c13] at H
       exact absurd H (by simp)
     ·rw [if_neg c12] at H
      exact absurd H (by simp)

end Go.Proofs.Ytaocplhijfkicaa.PD
