/- The example of chapter 2 comes to true. -/
import Derived.Test.YtaocplhijfkicaaSase1
import Derived.RangeFuncNested
import Derived.RangeFuncLeaves
import Derived.Shelf.Abstract
import Derived.WalkKit
import Derived.OwnWalkIn
import Derived.TacticsInMore
import Derived.LoopNIn
import Derived.LoopIn
import Derived.WalkMore
import Derived.KernelRfl
-- written by a program of this work (mk.sh, over the kit's print; stubs are proved by hand)
namespace Go.Proofs.Ytaocplhijfkicaa.PD
open Go.RowKit Go.Proofs.YtaocplhijfkicaaW.PrintWords Go.Proofs.YtaocplhijfkicaaW.PrintLast Go.Proofs.YtaocplhijfkicaaW.PrintMore
attribute [local go_sem] isSome_setCell max2_int min2_int max_two min_two   -- for this text's walks alone
set_option linter.unusedVariables false
set_option linter.unusedSimpArgs false

/-! ### dev_Write: function 13 -/
def dev_Write.j0 : Nat → Int → ByteArray → Bool → List ByteArray → List (S40) → Int → Bool → Option (List ByteArray × (List (S40)) × Int × Bool × Int)
 | 0, _, _, _, _, _, _, _ => none
 | k + 1, x1, x2, x15, x153000, x153001, x153002, x153003 => if x15 = true then ((dev_owned.f x153000 x153001 x153002 x153003).bind fun bt164 => (some (bt164.1, bt164.2.1, bt164.2.2.1, bt164.2.2.2, 15))) else (if (x153001.length : Int) ≥ 4096 then ((dev_owned.f x153000 x153001 x153002 x153003).bind fun bt172 => (some (bt172.1, bt172.2.1, bt172.2.2.1, bt172.2.2.2, 18))) else ((dev_spend.f x153000 x153001 x153002 x153003).bind fun bt180 => (if bt180.2.2.2.2 = 0 then (if bt180.2.1.length < 5864062014805 then (some (bt180.1, (bt180.2.1 ++ [(⟨x1, x2⟩ : S40)]), bt180.2.2.1, bt180.2.2.2.1, bt180.2.2.2.2)) else (none)) else (some (bt180.1, bt180.2.1, bt180.2.2.1, bt180.2.2.2.1, bt180.2.2.2.2)))))
def dev_Write.f (k : Nat) (l0_0 : List ByteArray) (l0_1 : List (S40)) (a0_2 : Int) (a0_3 : Bool) (a1 : Int) (a2 : ByteArray) : Option (List ByteArray × (List (S40)) × Int × Bool × Int) := if a0_3 = true then ((dev_owned.f l0_0 l0_1 a0_2 a0_3).bind fun bt154 => (some (bt154.1, bt154.2.1, bt154.2.2.1, bt154.2.2.2, 17))) else ((dev_place.f l0_0 l0_1 a0_2 a0_3 a1).bind fun t162 => (if t162 = true then ((dev_whole.f a2).bind fun t163 => (dev_Write.j0 k a1 a2 (!t163) l0_0 l0_1 a0_2 a0_3)) else (dev_Write.j0 k a1 a2 true l0_0 l0_1 a0_2 a0_3)))
theorem dev_Write.mono_l : ∀ k, (∀ y0 y1 y2 y3 y4 y5 y6, LeO (dev_Write.j0 k y0 y1 y2 y3 y4 y5 y6) (dev_Write.j0 (k + 1) y0 y1 y2 y3 y4 y5 y6))
 | 0 => fun _ _ _ _ _ _ _ r h => by simp [dev_Write.j0] at h
 | k + 1 => by
  have ih0 := dev_Write.mono_l k
  ·intro y0 y1 y2 y3 y4 y5 y6
   unfold dev_Write.j0
   repeat' first
   | (with_reducible exact ih0 _ _ _ _ _ _ _)
   | (with_reducible exact LeO.refl _)
   | (with_reducible exact LeO.none _)
   | (with_reducible refine LeO.ite ?_ ?_)
   | (with_reducible refine LeO.bind ?_ (fun _ => ?_))
   | exact ih0 _ _ _ _ _ _ _
   | exact LeO.none _
   | refine LeO.ite ?_ ?_
   | refine LeO.bind ?_ (fun _ => ?_)
theorem dev_Write.mono : ∀ a0 a1 a2 a3 a4 a5 k, LeO (dev_Write.f k a0 a1 a2 a3 a4 a5) (dev_Write.f (k + 1) a0 a1 a2 a3 a4 a5) := by
 intro a0 a1 a2 a3 a4 a5 k
 have ih0 := dev_Write.mono_l k
 unfold dev_Write.f
 repeat' first
   | (with_reducible exact ih0 _ _ _ _ _ _ _)
   | (with_reducible exact LeO.refl _)
   | (with_reducible exact LeO.none _)
   | (with_reducible refine LeO.ite ?_ ?_)
   | (with_reducible refine LeO.bind ?_ (fun _ => ?_))
   | exact ih0 _ _ _ _ _ _ _
   | exact LeO.none _
   | refine LeO.ite ?_ ?_
   | refine LeO.bind ?_ (fun _ => ?_)
set_option maxHeartbeats 8000000 in
set_option maxRecDepth 100000 in
theorem dev_Write.calls (k : Nat) (A0_0 : Option Addr) (c0_0 : Nat) (l0_0 : List ByteArray) (A0_1 : Option Addr) (c0_1 : Nat) (l0_1 : List (S40)) (a0_2 : Int) (a0_3 : Bool) (a1 : Int) (a2 : ByteArray) (r1 : List ByteArray) (r2 : List (S40)) (r3 : Int) (r4 : Bool) (r5 : Int) (w : World) (hr0_0 : Kd.C Kd.string w A0_0 l0_0.length l0_0) (hc0_0 : l0_0.length ≤ c0_0) (hr0_1 : Kd.C k40 w A0_1 l0_1.length l0_1) (hc0_1 : l0_1.length ≤ c0_1) (h : dev_Write.f k l0_0 l0_1 a0_2 a0_3 a1 a2 = some (r1, r2, r3, r4, r5)) :
  Calls Try.prog 13 #[.agg #[.slice A0_0 l0_0.length c0_0, .slice A0_1 l0_1.length c0_1, .int .i64 a0_2, .bool a0_3], .int .i64 a1, .string a2] w fun e w' => ∃ v0_ v1_ : Value, e = .returned (.tuple #[.agg #[v0_, v1_, .int .i64 r3, .bool r4], .int .i64 r5]) ∧ Kd.R Kd.string 9 w' w.heap.size (fun _ => True) v0_ r1 ∧ Kd.R k40 40 w' w.heap.size (fun _ => True) v1_ r2 ∧ Below w.heap.size w w' := by
 have hu25 := Try.underlying25
 have hu40 := Try.underlying40
 have HR0_0 := Aside0.mk hr0_0
 have HC0_0 := Aside0.mk hc0_0
 clear hr0_0 hc0_0
 have HR0_1 := Aside0.mk hr0_1
 have HC0_1 := Aside0.mk hc0_1
 clear hr0_1 hc0_1
 have HB := Aside0.mk (Below.refl w.heap.size w)
 have H : (if a0_3 = true then ((dev_owned.f l0_0 l0_1 a0_2 a0_3).bind fun bt154 => (some (bt154.1, bt154.2.1, bt154.2.2.1, bt154.2.2.2, 17))) else ((dev_place.f l0_0 l0_1 a0_2 a0_3 a1).bind fun t162 => (if t162 = true then ((dev_whole.f a2).bind fun t163 => (dev_Write.j0 k a1 a2 (!t163) l0_0 l0_1 a0_2 a0_3)) else (dev_Write.j0 k a1 a2 true l0_0 l0_1 a0_2 a0_3)))) = some (r1, r2, r3, r4, r5) := h
 clear h
 by_cases c4 : a0_3 = true
 ·subst c4
  have H1 : ((dev_owned.f l0_0 l0_1 a0_2 true).bind fun bt154 => (some (bt154.1, bt154.2.1, bt154.2.2.1, bt154.2.2.2, 17))) = some (r1, r2, r3, r4, r5) := by rw [if_pos rfl] at H; exact H
  clear H
  have H := H1
  clear H1
  replace H := Option.bind_eq_some_iff.mp H
  obtain ⟨⟨t154, t157, t160, t161⟩, A50, H⟩ := H
  replace H : (some (t154, t157, t160, t161, 17)) = some (r1, r2, r3, r4, r5) := H
  have A5 := Aside0.mk A50
  clear A50
  simp only [Option.some.injEq, Prod.mk.injEq] at H
  obtain ⟨rfl, rfl, rfl, rfl, rfl⟩ := H
  go_enter Try.func13, Try.ntmps13
  go_wp2_with (first | ((with_reducible refine gate_dst (N := 3) rfl ?_); refine box_event ?hg (N := 3) ?hd (cs := #[.slice A0_0 l0_0.length c0_0, .slice A0_1 l0_1.length c0_1, .int .i64 a0_2, .bool true]) (t := 25) ?hr ?_; (case hd => rfl); (case hg => rfl); (case hr => first | (go_simp; done) | (go_simp; rfl)); intro gb152 hg w6 hbox hb; have n0_ := Aside0.mk (below_step (bU HB) hb); have n1_ := Aside0.mk (hbox); have n2_ := Aside0.mk ((by rw [hg]; exact (below_size (bU HB)) : w.heap.size ≤ gb152)); have n3_ := Aside0.mk ((by rw [hg]; exact (below_size (bU HB)) : w.heap.size ≤ gb152)); clear HB; have HB := n0_; have BK152 := n1_; have GW152 := n2_; have GE152 := n3_; clear n0_ n1_ n2_ n3_; clear hb hbox hg) | ((with_reducible refine gate_dst (N := 6) rfl ?_); refine box_event ?hg (N := 6) ?hd (cs := #[.slice none 0 0, .slice none 0 0, .int .i64 0, .bool false]) (t := 25) ?hr ?_; (case hd => rfl); (case hg => rfl); (case hr => first | (go_simp; done) | (go_simp; rfl)); intro gb153 hg w7 hbox hb; have n0_ := Aside0.mk (blk_below (kU BK152) hb); have n1_ := Aside0.mk (below_step (bU HB) hb); have n2_ := Aside0.mk (hbox); have n3_ := Aside0.mk ((by rw [hg]; exact (below_size (bU HB)) : w.heap.size ≤ gb153)); have n4_ := Aside0.mk ((by rw [hg]; exact (below_size (bU HB)) : w.heap.size ≤ gb153)); have n5_ := Aside0.mk ((by rw [hg]; exact Nat.ne_of_lt (blk_lt (g := gb152) (o := .cells #[.slice A0_0 l0_0.length c0_0, .slice A0_1 l0_1.length c0_1, .int .i64 a0_2, .bool true] 25 (0, 0)) (kU BK152)) : gb152 ≠ gb153)); have n6_ := Aside0.mk ((by rw [hg]; exact Nat.ne_of_gt (blk_lt (g := gb152) (o := .cells #[.slice A0_0 l0_0.length c0_0, .slice A0_1 l0_1.length c0_1, .int .i64 a0_2, .bool true] 25 (0, 0)) (kU BK152)) : gb153 ≠ gb152)); clear BK152; clear HB; have BK152 := n0_; have HB := n1_; have BK153 := n2_; have GW153 := n3_; have GE153 := n4_; have NB152_153 := n5_; have NB153_152 := n6_; clear n0_ n1_ n2_ n3_ n4_ n5_ n6_; clear hb hbox hg; have hnb8 := NB152_153.out; have hnc8 := NB153_152.out; have hcz9_0 : w7.cell? ⟨gb152, 0, none⟩ = some (.slice A0_0 l0_0.length c0_0) := (blk_cell BK152.out 0).trans rfl; have hcz9_1 : w7.cell? ⟨gb152, 1, none⟩ = some (.slice A0_1 l0_1.length c0_1) := (blk_cell BK152.out 1).trans rfl; have hcz9_2 : w7.cell? ⟨gb152, 2, none⟩ = some (.int .i64 a0_2) := (blk_cell BK152.out 2).trans rfl; have hcz9_3 : w7.cell? ⟨gb152, 3, none⟩ = some (.bool true) := (blk_cell BK152.out 3).trans rfl; have hfz9_0 := blk_frozen BK152.out 0; have hfz9_1 := blk_frozen BK152.out 1; have hfz9_2 := blk_frozen BK152.out 2; have hfz9_3 := blk_frozen BK152.out 3) | ((with_reducible refine gate_callee (f := 26) rfl ?_); refine goesL_ (some 14) rfl rfl Try.func26 (by kernel_rfl) rfl #[.agg #[.slice A0_0 l0_0.length c0_0, .slice A0_1 l0_1.length c0_1, .int .i64 a0_2, .bool true]] rfl (by (try simp only [List.map_toArray, List.map_cons, List.map_nil]); first | done | rfl | (simp only [List.length_drop, List.length_take]; rfl)) ?_; (with_reducible refine (dev_owned.calls _ _ l0_0 _ _ l0_1 a0_2 true t154 t157 t160 t161 _ ?side1 ?side2 ?side3 ?side4 A5.out).mono ?_); (case side1 => exact cU (Kd.C_below HR0_0.out HB.out)); (case side2 => exact HC0_0.out); (case side3 => exact cU (Kd.C_below HR0_1.out HB.out)); (case side4 => exact HC0_1.out); rintro e w10 ⟨v155, v158, rfl, ho0, ho1, hb⟩; refine ⟨_, rfl, ?_⟩; have n0_ := Aside0.mk (Kd.R_lower ho0 (below_size (bU HB))); have n1_ := Aside0.mk (Kd.R_lower ho1 (below_size (bU HB))); have n2_ := Aside0.mk (blk_below (kU BK152) hb); have n3_ := Aside0.mk (blk_below (kU BK153) hb); have n4_ := Aside0.mk (below_step (bU HB) hb); clear BK152; clear BK153; clear HB; have HO156 := n0_; have HO159 := n1_; have BK152 := n2_; have BK153 := n3_; have HB := n4_; clear n0_ n1_ n2_ n3_ n4_; (try clear hb); (try clear hb2); (try clear hk); (try clear hi); (try clear ho0); (try clear ho1); obtain ⟨Ao11, co11, eo11⟩ := Kd.R_slice HO156.out; subst eo11; have hcz12_0 : w10.cell? ⟨gb153, 0, none⟩ = some (.slice none 0 0) := (blk_cell BK153.out 0).trans rfl; have hcz12_1 : w10.cell? ⟨gb153, 1, none⟩ = some (.slice none 0 0) := (blk_cell BK153.out 1).trans rfl; have hcz12_2 : w10.cell? ⟨gb153, 2, none⟩ = some (.int .i64 0) := (blk_cell BK153.out 2).trans rfl; have hcz12_3 : w10.cell? ⟨gb153, 3, none⟩ = some (.bool false) := (blk_cell BK153.out 3).trans rfl; have hfz12_0 := blk_frozen BK153.out 0; have hfz12_1 := blk_frozen BK153.out 1; have hfz12_2 := blk_frozen BK153.out 2; have hfz12_3 := blk_frozen BK153.out 3; obtain ⟨Ao13, co13, eo13⟩ := Kd.R_slice HO159.out; subst eo13))
  refine bodyPost_ret (results_ct rfl _ _ gb153 25 #[.slice Ao11 t154.length co11, .slice Ao13 t157.length co13, .int .i64 t160, .bool t161] (0, 0) _ rfl (kP BK153) Try.underlying25 rfl (by kernel_rfl)) rfl ?_
  exact ⟨_, _, eqU, by (with_reducible repeat (first | apply Kd.R_alloc | apply Kd.R_drewN | apply Kd.R_drew)); exact Kd.R_mono (Kd.R_far (p := ⟨gb153, 3, none⟩) (Kd.R_far (p := ⟨gb153, 2, none⟩) (Kd.R_far (p := ⟨gb153, 1, none⟩) (Kd.R_far (p := ⟨gb153, 0, none⟩) (Kd.R_types HO156.out BK153.out (by decide)) (fun _ hk => hk.2) (.slice Ao11 t154.length co11)) (fun _ hk => hk.2) (.slice Ao13 t157.length co13)) (fun _ hk => hk.2) (.int .i64 t160)) (fun _ hk => hk.2) (.bool t161)) (fun _ hk => trivial), by (with_reducible repeat (first | apply Kd.R_alloc | apply Kd.R_drewN | apply Kd.R_drew)); exact Kd.R_mono (Kd.R_far (p := ⟨gb153, 3, none⟩) (Kd.R_far (p := ⟨gb153, 2, none⟩) (Kd.R_far (p := ⟨gb153, 1, none⟩) (Kd.R_far (p := ⟨gb153, 0, none⟩) (Kd.R_types HO159.out BK153.out (by decide)) (fun _ hk => hk.2) (.slice Ao11 t154.length co11)) (fun _ hk => hk.2) (.slice Ao13 t157.length co13)) (fun _ hk => hk.2) (.int .i64 t160)) (fun _ hk => hk.2) (.bool t161)) (fun _ hk => trivial), bU HB⟩
 ·replace c4 := Bool.eq_false_iff.mpr c4
  subst c4
  have H1 : ((dev_place.f l0_0 l0_1 a0_2 false a1).bind fun t162 => (if t162 = true then ((dev_whole.f a2).bind fun t163 => (dev_Write.j0 k a1 a2 (!t163) l0_0 l0_1 a0_2 false)) else (dev_Write.j0 k a1 a2 true l0_0 l0_1 a0_2 false))) = some (r1, r2, r3, r4, r5) := by rw [if_neg (show ¬ (false = true) by decide)] at H; exact H
  clear H
  have H := H1
  clear H1
  have HC14 := Aside0.mk H
  clear H
  go_enter Try.func13, Try.ntmps13
  go_upto_region 3 with (first | ((with_reducible refine gate_dst (N := 3) rfl ?_); refine box_event ?hg (N := 3) ?hd (cs := #[.slice A0_0 l0_0.length c0_0, .slice A0_1 l0_1.length c0_1, .int .i64 a0_2, .bool false]) (t := 25) ?hr ?_; (case hd => rfl); (case hg => rfl); (case hr => first | (go_simp; done) | (go_simp; rfl)); intro gb152 hg w15 hbox hb; have n0_ := Aside0.mk (below_step (bU HB) hb); have n1_ := Aside0.mk (hbox); have n2_ := Aside0.mk ((by rw [hg]; exact (below_size (bU HB)) : w.heap.size ≤ gb152)); have n3_ := Aside0.mk ((by rw [hg]; exact (below_size (bU HB)) : w.heap.size ≤ gb152)); clear HB; have HB := n0_; have BK152 := n1_; have GW152 := n2_; have GE152 := n3_; clear n0_ n1_ n2_ n3_; clear hb hbox hg) | ((with_reducible refine gate_dst (N := 6) rfl ?_); refine box_event ?hg (N := 6) ?hd (cs := #[.slice none 0 0, .slice none 0 0, .int .i64 0, .bool false]) (t := 25) ?hr ?_; (case hd => rfl); (case hg => rfl); (case hr => first | (go_simp; done) | (go_simp; rfl)); intro gb153 hg w16 hbox hb; have n0_ := Aside0.mk (blk_below (kU BK152) hb); have n1_ := Aside0.mk (below_step (bU HB) hb); have n2_ := Aside0.mk (hbox); have n3_ := Aside0.mk ((by rw [hg]; exact (below_size (bU HB)) : w.heap.size ≤ gb153)); have n4_ := Aside0.mk ((by rw [hg]; exact (below_size (bU HB)) : w.heap.size ≤ gb153)); have n5_ := Aside0.mk ((by rw [hg]; exact Nat.ne_of_lt (blk_lt (g := gb152) (o := .cells #[.slice A0_0 l0_0.length c0_0, .slice A0_1 l0_1.length c0_1, .int .i64 a0_2, .bool false] 25 (0, 0)) (kU BK152)) : gb152 ≠ gb153)); have n6_ := Aside0.mk ((by rw [hg]; exact Nat.ne_of_gt (blk_lt (g := gb152) (o := .cells #[.slice A0_0 l0_0.length c0_0, .slice A0_1 l0_1.length c0_1, .int .i64 a0_2, .bool false] 25 (0, 0)) (kU BK152)) : gb153 ≠ gb152)); clear BK152; clear HB; have BK152 := n0_; have HB := n1_; have BK153 := n2_; have GW153 := n3_; have GE153 := n4_; have NB152_153 := n5_; have NB153_152 := n6_; clear n0_ n1_ n2_ n3_ n4_ n5_ n6_; clear hb hbox hg; have hnb17 := NB152_153.out; have hnc17 := NB153_152.out; have hcz18_0 : w16.cell? ⟨gb152, 0, none⟩ = some (.slice A0_0 l0_0.length c0_0) := (blk_cell BK152.out 0).trans rfl; have hcz18_1 : w16.cell? ⟨gb152, 1, none⟩ = some (.slice A0_1 l0_1.length c0_1) := (blk_cell BK152.out 1).trans rfl; have hcz18_2 : w16.cell? ⟨gb152, 2, none⟩ = some (.int .i64 a0_2) := (blk_cell BK152.out 2).trans rfl; have hcz18_3 : w16.cell? ⟨gb152, 3, none⟩ = some (.bool false) := (blk_cell BK152.out 3).trans rfl; have hfz18_0 := blk_frozen BK152.out 0; have hfz18_1 := blk_frozen BK152.out 1; have hfz18_2 := blk_frozen BK152.out 2; have hfz18_3 := blk_frozen BK152.out 3))
  (try simp only [Act.put, List.setIfInBounds_toArray, List.set_cons_zero, List.set_cons_succ])
  go_cut [15] (fun v15 wc => ∃ (kq : Nat) (x15_13 : Bool), v15 = .bool x15_13 ∧ Aside0 (dev_Write.j0 kq a1 a2 x15_13 l0_0 l0_1 a0_2 false = some (r1, r2, r3, r4, r5)) ∧ Aside0 (kq ≤ k) ∧ Aside0 (wc.heap[gb152]? = some (.cells #[(.slice A0_0 l0_0.length c0_0), (.slice A0_1 l0_1.length c0_1), .int .i64 a0_2, .bool false] 25 (0, 0))) ∧ Aside0 (wc.heap[gb153]? = some (.cells #[(.slice none 0 0), (.slice none 0 0), .int .i64 0, .bool false] 25 (0, 0))) ∧ Aside0 (Below w.heap.size w wc))
  case first =>
   have H := HC14.out
   clear HC14
   replace H := Option.bind_eq_some_iff.mp H
   obtain ⟨t162, A190, H⟩ := H
   replace H : (if t162 = true then ((dev_whole.f a2).bind fun t163 => (dev_Write.j0 k a1 a2 (!t163) l0_0 l0_1 a0_2 false)) else (dev_Write.j0 k a1 a2 true l0_0 l0_1 a0_2 false)) = some (r1, r2, r3, r4, r5) := H
   have A19 := Aside0.mk A190
   clear A190
   by_cases c20 : t162 = true
   ·subst c20
    have H1 : ((dev_whole.f a2).bind fun t163 => (dev_Write.j0 k a1 a2 (!t163) l0_0 l0_1 a0_2 false)) = some (r1, r2, r3, r4, r5) := by rw [if_pos rfl] at H; exact H
    clear H
    have H := H1
    clear H1
    replace H := Option.bind_eq_some_iff.mp H
    obtain ⟨t163, A210, H⟩ := H
    replace H : (dev_Write.j0 k a1 a2 (!t163) l0_0 l0_1 a0_2 false) = some (r1, r2, r3, r4, r5) := H
    have A21 := Aside0.mk A210
    clear A210
    have H' := Aside0.mk H
    clear H
    have hnb22 := NB152_153.out
    have hnc22 := NB153_152.out
    obtain ⟨hcz23_0, hcz23_1, hcz23_2, hcz23_3, hfz23_0, hfz23_1, hfz23_2, hfz23_3⟩ := k4 BK152
    go_wp2_with (first | ((with_reducible refine gate_callee (f := 31) rfl ?_); refine goesL_ (some 18) rfl rfl Try.func31 (by kernel_rfl) rfl #[.agg #[.slice A0_0 l0_0.length c0_0, .slice A0_1 l0_1.length c0_1, .int .i64 a0_2, .bool false], .int .i64 a1] rfl (by (try simp only [List.map_toArray, List.map_cons, List.map_nil]); first | done | rfl | (simp only [List.length_drop, List.length_take]; rfl)) ?_; (with_reducible refine (dev_place.calls _ _ l0_0 _ _ l0_1 a0_2 false a1 true _ ?side1 ?side2 ?side3 ?side4 A19.out).mono ?_); (case side1 => exact cU (Kd.C_below HR0_0.out HB.out)); (case side2 => exact HC0_0.out); (case side3 => exact cU (Kd.C_below HR0_1.out HB.out)); (case side4 => exact HC0_1.out); rintro e w24 ⟨rfl, hb⟩; refine ⟨_, rfl, ?_⟩; have n0_ := Aside0.mk (blk_below (kU BK152) hb); have n1_ := Aside0.mk (blk_below (kU BK153) hb); have n2_ := Aside0.mk (below_step (bU HB) hb); clear BK152; clear BK153; clear HB; have BK152 := n0_; have BK153 := n1_; have HB := n2_; clear n0_ n1_ n2_; (try clear hb); (try clear hb2); (try clear hk); (try clear hi)) | (go_at_call 32; (with_reducible refine (dev_whole.calls a2 t163 _ A21.out).mono ?_); rintro e w' ⟨rfl, ⟨nd, rfl⟩⟩))
    go_meet
    case rel => exact ⟨_, (!t163), (by first | rfl | (simp; done) | (simp [*]; done)), H', ⟨by first | omega | exact Nat.le_refl _⟩, ⟨kU BK152⟩, ⟨kU BK153⟩, ⟨bU HB⟩⟩
   ·replace c20 := Bool.eq_false_iff.mpr c20
    subst c20
    have H1 : (dev_Write.j0 k a1 a2 true l0_0 l0_1 a0_2 false) = some (r1, r2, r3, r4, r5) := by rw [if_neg (show ¬ (false = true) by decide)] at H; exact H
    clear H
    have H := H1
    clear H1
    have H' := Aside0.mk H
    clear H
    have hnb25 := NB152_153.out
    have hnc25 := NB153_152.out
    obtain ⟨hcz26_0, hcz26_1, hcz26_2, hcz26_3, hfz26_0, hfz26_1, hfz26_2, hfz26_3⟩ := k4 BK152
    go_wp2_with (first | ((with_reducible refine gate_callee (f := 31) rfl ?_); refine goesL_ (some 18) rfl rfl Try.func31 (by kernel_rfl) rfl #[.agg #[.slice A0_0 l0_0.length c0_0, .slice A0_1 l0_1.length c0_1, .int .i64 a0_2, .bool false], .int .i64 a1] rfl (by (try simp only [List.map_toArray, List.map_cons, List.map_nil]); first | done | rfl | (simp only [List.length_drop, List.length_take]; rfl)) ?_; (with_reducible refine (dev_place.calls _ _ l0_0 _ _ l0_1 a0_2 false a1 false _ ?side1 ?side2 ?side3 ?side4 A19.out).mono ?_); (case side1 => exact cU (Kd.C_below HR0_0.out HB.out)); (case side2 => exact HC0_0.out); (case side3 => exact cU (Kd.C_below HR0_1.out HB.out)); (case side4 => exact HC0_1.out); rintro e w27 ⟨rfl, hb⟩; refine ⟨_, rfl, ?_⟩; have n0_ := Aside0.mk (blk_below (kU BK152) hb); have n1_ := Aside0.mk (blk_below (kU BK153) hb); have n2_ := Aside0.mk (below_step (bU HB) hb); clear BK152; clear BK153; clear HB; have BK152 := n0_; have BK153 := n1_; have HB := n2_; clear n0_ n1_ n2_; (try clear hb); (try clear hb2); (try clear hk); (try clear hi)))
    go_meet
    case rel => exact ⟨_, (true), (by first | rfl | (simp; done) | (simp [*]; done)), H', ⟨by first | omega | exact Nat.le_refl _⟩, ⟨kU BK152⟩, ⟨kU BK153⟩, ⟨bU HB⟩⟩
  case rest =>
   clear HC14
   try clear c1
   try clear c2
   try clear p2
   try clear c3
   try clear c4
   try clear c8
   try clear c13
   try clear c17
   try clear c20
   try clear c22
   try clear c25
   try clear c26
   try clear hcz12_0 hcz12_1 hcz12_2 hcz12_3 hfz12_0 hfz12_1 hfz12_2 hfz12_3
   try clear hcz18_0 hcz18_1 hcz18_2 hcz18_3 hfz18_0 hfz18_1 hfz18_2 hfz18_3
   try clear hcz23_0 hcz23_1 hcz23_2 hcz23_3 hfz23_0 hfz23_1 hfz23_2 hfz23_3
   try clear hcz26_0 hcz26_1 hcz26_2 hcz26_3 hfz26_0 hfz26_1 hfz26_2 hfz26_3
   try clear hcz9_0 hcz9_1 hcz9_2 hcz9_3 hfz9_0 hfz9_1 hfz9_2 hfz9_3
   obtain ⟨kq, x15_13, rfl, HA, HJ13, BK152, BK153, HB⟩ := hcut
   cases kq with
   | zero => exact absurd HA.out (by simp [dev_Write.j0])
   | succ kj13 =>
    have H := HA.out
    clear HA
    simp only [dev_Write.j0] at H
    by_cases c28 : x15_13 = true
    ·subst c28
     have H1 : ((dev_owned.f l0_0 l0_1 a0_2 false).bind fun bt164 => (some (bt164.1, bt164.2.1, bt164.2.2.1, bt164.2.2.2, 15))) = some (r1, r2, r3, r4, r5) := by rw [if_pos rfl] at H; exact H
     clear H
     have H := H1
     clear H1
     replace H := Option.bind_eq_some_iff.mp H
     obtain ⟨⟨t164, t167, t170, t171⟩, A290, H⟩ := H
     replace H : (some (t164, t167, t170, t171, 15)) = some (r1, r2, r3, r4, r5) := H
     have A29 := Aside0.mk A290
     clear A290
     simp only [Option.some.injEq, Prod.mk.injEq] at H
     obtain ⟨rfl, rfl, rfl, rfl, rfl⟩ := H
     have hnb30 := NB152_153.out
     have hnc30 := NB153_152.out
     obtain ⟨hcz31_0, hcz31_1, hcz31_2, hcz31_3, hfz31_0, hfz31_1, hfz31_2, hfz31_3⟩ := k4 BK152
     go_wp2_with (first | ((with_reducible refine gate_callee (f := 26) rfl ?_); refine goesL_ (some 26) rfl rfl Try.func26 (by kernel_rfl) rfl #[.agg #[.slice A0_0 l0_0.length c0_0, .slice A0_1 l0_1.length c0_1, .int .i64 a0_2, .bool false]] rfl (by (try simp only [List.map_toArray, List.map_cons, List.map_nil]); first | done | rfl | (simp only [List.length_drop, List.length_take]; rfl)) ?_; (with_reducible refine (dev_owned.calls _ _ l0_0 _ _ l0_1 a0_2 false t164 t167 t170 t171 _ ?side1 ?side2 ?side3 ?side4 A29.out).mono ?_); (case side1 => exact cU (Kd.C_below HR0_0.out HB.out)); (case side2 => exact HC0_0.out); (case side3 => exact cU (Kd.C_below HR0_1.out HB.out)); (case side4 => exact HC0_1.out); rintro e w32 ⟨v165, v168, rfl, ho0, ho1, hb⟩; refine ⟨_, rfl, ?_⟩; have n0_ := Aside0.mk (Kd.R_lower ho0 (below_size (bU HB))); have n1_ := Aside0.mk (Kd.R_lower ho1 (below_size (bU HB))); have n2_ := Aside0.mk (blk_below (kU BK152) hb); have n3_ := Aside0.mk (blk_below (kU BK153) hb); have n4_ := Aside0.mk (below_step (bU HB) hb); clear BK152; clear BK153; clear HB; have HO166 := n0_; have HO169 := n1_; have BK152 := n2_; have BK153 := n3_; have HB := n4_; clear n0_ n1_ n2_ n3_ n4_; (try clear hb); (try clear hb2); (try clear hk); (try clear hi); (try clear ho0); (try clear ho1); obtain ⟨Ao33, co33, eo33⟩ := Kd.R_slice HO166.out; subst eo33; have hcz34_0 : w32.cell? ⟨gb153, 0, none⟩ = some (.slice none 0 0) := (blk_cell BK153.out 0).trans rfl; have hcz34_1 : w32.cell? ⟨gb153, 1, none⟩ = some (.slice none 0 0) := (blk_cell BK153.out 1).trans rfl; have hcz34_2 : w32.cell? ⟨gb153, 2, none⟩ = some (.int .i64 0) := (blk_cell BK153.out 2).trans rfl; have hcz34_3 : w32.cell? ⟨gb153, 3, none⟩ = some (.bool false) := (blk_cell BK153.out 3).trans rfl; have hfz34_0 := blk_frozen BK153.out 0; have hfz34_1 := blk_frozen BK153.out 1; have hfz34_2 := blk_frozen BK153.out 2; have hfz34_3 := blk_frozen BK153.out 3; obtain ⟨Ao35, co35, eo35⟩ := Kd.R_slice HO169.out; subst eo35))
     refine bodyPost_ret (results_ct rfl _ _ gb153 25 #[.slice Ao33 t164.length co33, .slice Ao35 t167.length co35, .int .i64 t170, .bool t171] (0, 0) _ rfl (kP BK153) Try.underlying25 rfl (by kernel_rfl)) rfl ?_
     exact ⟨_, _, eqU, by (with_reducible repeat (first | apply Kd.R_alloc | apply Kd.R_drewN | apply Kd.R_drew)); exact Kd.R_mono (Kd.R_far (p := ⟨gb153, 3, none⟩) (Kd.R_far (p := ⟨gb153, 2, none⟩) (Kd.R_far (p := ⟨gb153, 1, none⟩) (Kd.R_far (p := ⟨gb153, 0, none⟩) (Kd.R_types HO166.out BK153.out (by decide)) (fun _ hk => hk.2) (.slice Ao33 t164.length co33)) (fun _ hk => hk.2) (.slice Ao35 t167.length co35)) (fun _ hk => hk.2) (.int .i64 t170)) (fun _ hk => hk.2) (.bool t171)) (fun _ hk => trivial), by (with_reducible repeat (first | apply Kd.R_alloc | apply Kd.R_drewN | apply Kd.R_drew)); exact Kd.R_mono (Kd.R_far (p := ⟨gb153, 3, none⟩) (Kd.R_far (p := ⟨gb153, 2, none⟩) (Kd.R_far (p := ⟨gb153, 1, none⟩) (Kd.R_far (p := ⟨gb153, 0, none⟩) (Kd.R_types HO169.out BK153.out (by decide)) (fun _ hk => hk.2) (.slice Ao33 t164.length co33)) (fun _ hk => hk.2) (.slice Ao35 t167.length co35)) (fun _ hk => hk.2) (.int .i64 t170)) (fun _ hk => hk.2) (.bool t171)) (fun _ hk => trivial), bU HB⟩
    ·replace c28 := Bool.eq_false_iff.mpr c28
     subst c28
     have H1 : (if (l0_1.length : Int) ≥ 4096 then ((dev_owned.f l0_0 l0_1 a0_2 false).bind fun bt172 => (some (bt172.1, bt172.2.1, bt172.2.2.1, bt172.2.2.2, 18))) else ((dev_spend.f l0_0 l0_1 a0_2 false).bind fun bt180 => (if bt180.2.2.2.2 = 0 then (if bt180.2.1.length < 5864062014805 then (some (bt180.1, (bt180.2.1 ++ [(⟨a1, a2⟩ : S40)]), bt180.2.2.1, bt180.2.2.2.1, bt180.2.2.2.2)) else (none)) else (some (bt180.1, bt180.2.1, bt180.2.2.1, bt180.2.2.2.1, bt180.2.2.2.2))))) = some (r1, r2, r3, r4, r5) := by rw [if_neg (show ¬ (false = true) by decide)] at H; exact H
     clear H
     have H := H1
     clear H1
     by_cases c36 : (l0_1.length : Int) ≥ 4096
     ·rw [if_pos c36] at H
      have c36b0 : decide (4096 ≤ (l0_1.length : Int)) = true := decide_eq_true c36
      have c36b1 : decide (4096 ≤ l0_1.length) = true := decide_eq_true (by omega)
      clear c36
      replace H := Option.bind_eq_some_iff.mp H
      obtain ⟨⟨t172, t175, t178, t179⟩, A370, H⟩ := H
      replace H : (some (t172, t175, t178, t179, 18)) = some (r1, r2, r3, r4, r5) := H
      have A37 := Aside0.mk A370
      clear A370
      simp only [Option.some.injEq, Prod.mk.injEq] at H
      obtain ⟨rfl, rfl, rfl, rfl, rfl⟩ := H
      have hnb38 := NB152_153.out
      have hnc38 := NB153_152.out
      obtain ⟨hcz39_0, hcz39_1, hcz39_2, hcz39_3, hfz39_0, hfz39_1, hfz39_2, hfz39_3⟩ := k4 BK152
      go_wp2_with (first | ((with_reducible refine gate_callee (f := 26) rfl ?_); refine goesL_ (some 33) rfl rfl Try.func26 (by kernel_rfl) rfl #[.agg #[.slice A0_0 l0_0.length c0_0, .slice A0_1 l0_1.length c0_1, .int .i64 a0_2, .bool false]] rfl (by (try simp only [List.map_toArray, List.map_cons, List.map_nil]); first | done | rfl | (simp only [List.length_drop, List.length_take]; rfl)) ?_; (with_reducible refine (dev_owned.calls _ _ l0_0 _ _ l0_1 a0_2 false t172 t175 t178 t179 _ ?side1 ?side2 ?side3 ?side4 A37.out).mono ?_); (case side1 => exact cU (Kd.C_below HR0_0.out HB.out)); (case side2 => exact HC0_0.out); (case side3 => exact cU (Kd.C_below HR0_1.out HB.out)); (case side4 => exact HC0_1.out); rintro e w40 ⟨v173, v176, rfl, ho0, ho1, hb⟩; refine ⟨_, rfl, ?_⟩; have n0_ := Aside0.mk (Kd.R_lower ho0 (below_size (bU HB))); have n1_ := Aside0.mk (Kd.R_lower ho1 (below_size (bU HB))); have n2_ := Aside0.mk (blk_below (kU BK152) hb); have n3_ := Aside0.mk (blk_below (kU BK153) hb); have n4_ := Aside0.mk (below_step (bU HB) hb); clear BK152; clear BK153; clear HB; have HO174 := n0_; have HO177 := n1_; have BK152 := n2_; have BK153 := n3_; have HB := n4_; clear n0_ n1_ n2_ n3_ n4_; (try clear hb); (try clear hb2); (try clear hk); (try clear hi); (try clear ho0); (try clear ho1); obtain ⟨Ao41, co41, eo41⟩ := Kd.R_slice HO174.out; subst eo41; have hcz42_0 : w40.cell? ⟨gb153, 0, none⟩ = some (.slice none 0 0) := (blk_cell BK153.out 0).trans rfl; have hcz42_1 : w40.cell? ⟨gb153, 1, none⟩ = some (.slice none 0 0) := (blk_cell BK153.out 1).trans rfl; have hcz42_2 : w40.cell? ⟨gb153, 2, none⟩ = some (.int .i64 0) := (blk_cell BK153.out 2).trans rfl; have hcz42_3 : w40.cell? ⟨gb153, 3, none⟩ = some (.bool false) := (blk_cell BK153.out 3).trans rfl; have hfz42_0 := blk_frozen BK153.out 0; have hfz42_1 := blk_frozen BK153.out 1; have hfz42_2 := blk_frozen BK153.out 2; have hfz42_3 := blk_frozen BK153.out 3; obtain ⟨Ao43, co43, eo43⟩ := Kd.R_slice HO177.out; subst eo43))
      refine bodyPost_ret (results_ct rfl _ _ gb153 25 #[.slice Ao41 t172.length co41, .slice Ao43 t175.length co43, .int .i64 t178, .bool t179] (0, 0) _ rfl (kP BK153) Try.underlying25 rfl (by kernel_rfl)) rfl ?_
      exact ⟨_, _, eqU, by (with_reducible repeat (first | apply Kd.R_alloc | apply Kd.R_drewN | apply Kd.R_drew)); exact Kd.R_mono (Kd.R_far (p := ⟨gb153, 3, none⟩) (Kd.R_far (p := ⟨gb153, 2, none⟩) (Kd.R_far (p := ⟨gb153, 1, none⟩) (Kd.R_far (p := ⟨gb153, 0, none⟩) (Kd.R_types HO174.out BK153.out (by decide)) (fun _ hk => hk.2) (.slice Ao41 t172.length co41)) (fun _ hk => hk.2) (.slice Ao43 t175.length co43)) (fun _ hk => hk.2) (.int .i64 t178)) (fun _ hk => hk.2) (.bool t179)) (fun _ hk => trivial), by (with_reducible repeat (first | apply Kd.R_alloc | apply Kd.R_drewN | apply Kd.R_drew)); exact Kd.R_mono (Kd.R_far (p := ⟨gb153, 3, none⟩) (Kd.R_far (p := ⟨gb153, 2, none⟩) (Kd.R_far (p := ⟨gb153, 1, none⟩) (Kd.R_far (p := ⟨gb153, 0, none⟩) (Kd.R_types HO177.out BK153.out (by decide)) (fun _ hk => hk.2) (.slice Ao41 t172.length co41)) (fun _ hk => hk.2) (.slice Ao43 t175.length co43)) (fun _ hk => hk.2) (.int .i64 t178)) (fun _ hk => hk.2) (.bool t179)) (fun _ hk => trivial), bU HB⟩
     ·rw [if_neg c36] at H
      have c36b0 : decide (4096 ≤ (l0_1.length : Int)) = false := decide_eq_false c36
      have c36b1 : decide (4096 ≤ l0_1.length) = false := decide_eq_false (by omega)
      clear c36
      replace H := Option.bind_eq_some_iff.mp H
      obtain ⟨⟨t180, t183, t186, t187, t188⟩, A440, H⟩ := H
      replace H : (if t188 = 0 then (if t183.length < 5864062014805 then (some (t180, (t183 ++ [(⟨a1, a2⟩ : S40)]), t186, t187, t188)) else (none)) else (some (t180, t183, t186, t187, t188))) = some (r1, r2, r3, r4, r5) := H
      have A44 := Aside0.mk A440
      clear A440
      by_cases c45 : t188 = 0
      ·rw [if_pos c45] at H
       have c45b0 : (t188 == 0) = true := beq_iff_eq.mpr c45
       have c45b1 : (t188 != 0) = false := bne_eq_false_iff_eq.mpr c45
       clear c45
       by_cases c46 : t183.length < 5864062014805
       ·rw [if_pos c46] at H
        have LMc46 := Aside0.mk c46
        clear c46
        obtain ⟨y190, hy190⟩ : ∃ y_ : List (S40), y_ = (t183 ++ [(⟨a1, a2⟩ : S40)]) := ⟨_, rfl⟩
        replace H : (some (t180, y190, t186, t187, t188)) = some (r1, r2, r3, r4, r5) := by first | (rw [hy190]; with_reducible exact H) | (have H2_ := (Option.bind_some _ _).symm.trans H; rw [hy190]; with_reducible exact H2_) | (have H2_ := (Option.bind_some _ _).symm.trans H; with_reducible exact H2_) | with_reducible exact H | (rw [hy190]; exact H) | exact H
        have Ny190 := Aside0.mk hy190
        clear hy190
        simp only [Option.some.injEq, Prod.mk.injEq] at H
        obtain ⟨rfl, rfl, rfl, rfl, rfl⟩ := H
        have hnb47 := NB152_153.out
        have hnc47 := NB153_152.out
        obtain ⟨hcz48_0, hcz48_1, hcz48_2, hcz48_3, hfz48_0, hfz48_1, hfz48_2, hfz48_3⟩ := k4 BK152
        go_wp2_with (first | ((with_reducible refine gate_callee (f := 27) rfl ?_); refine goesL_ (some 36) rfl rfl Try.func27 (by kernel_rfl) rfl #[.agg #[.slice A0_0 l0_0.length c0_0, .slice A0_1 l0_1.length c0_1, .int .i64 a0_2, .bool false]] rfl (by (try simp only [List.map_toArray, List.map_cons, List.map_nil]); first | done | rfl | (simp only [List.length_drop, List.length_take]; rfl)) ?_; (with_reducible refine (dev_spend.calls _ _ l0_0 _ _ l0_1 a0_2 false t180 t183 t186 t187 t188 _ ?side1 ?side2 ?side3 ?side4 A44.out).mono ?_); (case side1 => exact cU (Kd.C_below HR0_0.out HB.out)); (case side2 => exact HC0_0.out); (case side3 => exact cU (Kd.C_below HR0_1.out HB.out)); (case side4 => exact HC0_1.out); rintro e w49 ⟨v181, v184, rfl, ho0, ho1, hb⟩; refine ⟨_, rfl, ?_⟩; have n0_ := Aside0.mk (Kd.R_lower ho0 (below_size (bU HB))); have n1_ := Aside0.mk (Kd.R_lower ho1 (below_size (bU HB))); have n2_ := Aside0.mk (blk_below (kU BK152) hb); have n3_ := Aside0.mk (blk_below (kU BK153) hb); have n4_ := Aside0.mk (below_step (bU HB) hb); clear BK152; clear BK153; clear HB; have HO182 := n0_; have HO185 := n1_; have BK152 := n2_; have BK153 := n3_; have HB := n4_; clear n0_ n1_ n2_ n3_ n4_; (try clear hb); (try clear hb2); (try clear hk); (try clear hi); (try clear ho0); (try clear ho1)) | ((with_reducible refine gate_dst (N := 8) rfl ?_); refine box_event ?hg (N := 8) ?hd (cs := #[.slice none 0 0, .slice none 0 0, .int .i64 0, .bool false]) (t := 25) ?hr ?_; (case hd => rfl); (case hg => rfl); (case hr => first | (go_simp; done) | (go_simp; rfl)); intro gb189 hg w50 hbox hb; have n0_ := Aside0.mk (Kd.R_below (rU HO182) hb); have n1_ := Aside0.mk (Kd.R_below (rU HO185) hb); have n2_ := Aside0.mk (blk_below (kU BK152) hb); have n3_ := Aside0.mk (blk_below (kU BK153) hb); have n4_ := Aside0.mk (below_step (bU HB) hb); have n5_ := Aside0.mk (hbox); have n6_ := Aside0.mk ((by rw [hg]; exact (below_size (bU HB)) : w.heap.size ≤ gb189)); have n7_ := Aside0.mk ((by rw [hg]; exact (below_size (bU HB)) : w.heap.size ≤ gb189)); have n8_ := Aside0.mk ((by rw [hg]; exact Nat.ne_of_lt (blk_lt (g := gb152) (o := .cells #[.slice A0_0 l0_0.length c0_0, .slice A0_1 l0_1.length c0_1, .int .i64 a0_2, .bool false] 25 (0, 0)) (kU BK152)) : gb152 ≠ gb189)); have n9_ := Aside0.mk ((by rw [hg]; exact Nat.ne_of_gt (blk_lt (g := gb152) (o := .cells #[.slice A0_0 l0_0.length c0_0, .slice A0_1 l0_1.length c0_1, .int .i64 a0_2, .bool false] 25 (0, 0)) (kU BK152)) : gb189 ≠ gb152)); have n10_ := Aside0.mk ((by rw [hg]; exact Nat.ne_of_lt (blk_lt (g := gb153) (o := .cells #[.slice none 0 0, .slice none 0 0, .int .i64 0, .bool false] 25 (0, 0)) (kU BK153)) : gb153 ≠ gb189)); have n11_ := Aside0.mk ((by rw [hg]; exact Nat.ne_of_gt (blk_lt (g := gb153) (o := .cells #[.slice none 0 0, .slice none 0 0, .int .i64 0, .bool false] 25 (0, 0)) (kU BK153)) : gb189 ≠ gb153)); clear HO182; clear HO185; clear BK152; clear BK153; clear HB; have HO182 := n0_; have HO185 := n1_; have BK152 := n2_; have BK153 := n3_; have HB := n4_; have BK189 := n5_; have GW189 := n6_; have GE189 := n7_; have NB152_189 := n8_; have NB189_152 := n9_; have NB153_189 := n10_; have NB189_153 := n11_; clear n0_ n1_ n2_ n3_ n4_ n5_ n6_ n7_ n8_ n9_ n10_ n11_; clear hb hbox hg; obtain ⟨Ao51, co51, eo51⟩ := Kd.R_slice HO182.out; subst eo51; have hnb52 := NB189_152.out; have hnc52 := NB152_189.out; have hnb53 := NB189_153.out; have hnc53 := NB153_189.out; have hcz54_0 : w50.cell? ⟨gb189, 0, none⟩ = some (.slice none 0 0) := (blk_cell BK189.out 0).trans rfl; have hcz54_1 : w50.cell? ⟨gb189, 1, none⟩ = some (.slice none 0 0) := (blk_cell BK189.out 1).trans rfl; have hcz54_2 : w50.cell? ⟨gb189, 2, none⟩ = some (.int .i64 0) := (blk_cell BK189.out 2).trans rfl; have hcz54_3 : w50.cell? ⟨gb189, 3, none⟩ = some (.bool false) := (blk_cell BK189.out 3).trans rfl; have hfz54_0 := blk_frozen BK189.out 0; have hfz54_1 := blk_frozen BK189.out 1; have hfz54_2 := blk_frozen BK189.out 2; have hfz54_3 := blk_frozen BK189.out 3; obtain ⟨Ao55, co55, eo55⟩ := Kd.R_slice HO185.out; subst eo55) | ((with_reducible refine gate_builtin (b := .append) (xs := #[.tmp 42, .tmp 46]) rfl ?_); at_builtin; refine Kd.R_append k40 (w0 := w) w.heap.size rfl (.tmp 42) (.tmp 46) 23 40 (.agg #[(.int .i64 0), (.string ⟨#[]⟩)]) 24 rfl Try.underlying23 info40 rfl (by decide) (by omega) (.slice Ao55 t183.length co55) t183 (⟨a1, a2⟩ : S40) [.int .i64 a1, .string a2] (fun _ => True) (fun _ => False) rfl (by first | (go_simp; done) | (go_simp; rfl)) ?aP (fun _ hk => hk.elim) ?aF ?aO ?aB ?aS ?aL ?_; (case aP => exact k40_mkM _ _ _ (⟨a1, a2⟩ : S40)); (case aB => exact (bU HB)); (case aF => exact (fun _ _ => trivial)); (case aO => exact (by (with_reducible repeat (first | apply Kd.R_alloc | apply Kd.R_drewN | apply Kd.R_drew)); exact Kd.R_mono (Kd.R_far (p := ⟨gb189, 3, none⟩) (Kd.R_far (p := ⟨gb189, 2, none⟩) (Kd.R_far (p := ⟨gb189, 1, none⟩) (Kd.R_far (p := ⟨gb189, 0, none⟩) (Kd.R_types HO185.out BK189.out (by decide)) (fun _ hk => hk.2) (.slice Ao51 t180.length co51)) (fun _ hk => hk.2) (.slice Ao55 t183.length co55)) (fun _ hk => hk.2) (.int .i64 t186)) (fun _ hk => hk.2) (.bool t187)) (fun _ hk => trivial))); (case aS => exact (below_size (bU HB))); (case aL => have := LMc46.out; omega); intro v191 w56 ho hb hg hat; rw [← Ny190.out] at ho; have n0_ := Aside0.mk (blk_grown (g := gb152) (o := .cells #[.slice A0_0 l0_0.length c0_0, .slice A0_1 l0_1.length c0_1, .int .i64 a0_2, .bool false] 25 (0, 0)) (kF BK152) hg (Kd.R_ne HO185.out BK152.out (by decide))); have n1_ := Aside0.mk (blk_grown (g := gb153) (o := .cells #[.slice none 0 0, .slice none 0 0, .int .i64 0, .bool false] 25 (0, 0)) (kF BK153) hg (Kd.R_ne HO185.out BK153.out (by decide))); have n2_ := Aside0.mk (Kd.R_over' (rF1 HO182 BK189) (Kd.R_typed (rF1 HO185 BK189)) (by decide) hg); have n3_ := Aside0.mk (blk_grown (g := gb189) (o := .cells #[.slice Ao51 t180.length co51, .slice Ao55 t183.length co55, .int .i64 t186, .bool t187] 25 (0, 0)) (kP BK189) hg (Kd.R_ne HO185.out BK189.out (by decide))); have n4_ := Aside0.mk (hb); have n5_ := Aside0.mk (ho); clear BK152; clear BK153; clear HO182; clear BK189; clear HB; clear HO185; have BK152 := n0_; have BK153 := n1_; have HO182 := n2_; have BK189 := n3_; have HB := n4_; have HO192 := n5_; clear n0_ n1_ n2_ n3_ n4_ n5_; clear ho hb hg hat; obtain ⟨Ao57, co57, eo57⟩ := Kd.R_slice HO192.out; subst eo57; have hcz58_0 : w56.cell? ⟨gb189, 0, none⟩ = some (.slice Ao51 t180.length co51) := (blk_cell BK189.out 0).trans rfl; have hcz58_1 : w56.cell? ⟨gb189, 1, none⟩ = some (.slice Ao55 t183.length co55) := (blk_cell BK189.out 1).trans rfl; have hcz58_2 : w56.cell? ⟨gb189, 2, none⟩ = some (.int .i64 t186) := (blk_cell BK189.out 2).trans rfl; have hcz58_3 : w56.cell? ⟨gb189, 3, none⟩ = some (.bool t187) := (blk_cell BK189.out 3).trans rfl; have hfz58_0 := blk_frozen BK189.out 0; have hfz58_1 := blk_frozen BK189.out 1; have hfz58_2 := blk_frozen BK189.out 2; have hfz58_3 := blk_frozen BK189.out 3; have hcz59_0 : w56.cell? ⟨gb153, 0, none⟩ = some (.slice none 0 0) := (blk_cell BK153.out 0).trans rfl; have hcz59_1 : w56.cell? ⟨gb153, 1, none⟩ = some (.slice none 0 0) := (blk_cell BK153.out 1).trans rfl; have hcz59_2 : w56.cell? ⟨gb153, 2, none⟩ = some (.int .i64 0) := (blk_cell BK153.out 2).trans rfl; have hcz59_3 : w56.cell? ⟨gb153, 3, none⟩ = some (.bool false) := (blk_cell BK153.out 3).trans rfl; have hfz59_0 := blk_frozen BK153.out 0; have hfz59_1 := blk_frozen BK153.out 1; have hfz59_2 := blk_frozen BK153.out 2; have hfz59_3 := blk_frozen BK153.out 3))
        refine bodyPost_ret (results_ct rfl _ _ gb153 25 #[.slice Ao51 t180.length co51, .slice Ao57 y190.length co57, .int .i64 t186, .bool t187] (0, 0) _ rfl (kP BK153) Try.underlying25 rfl (by kernel_rfl)) rfl ?_
        exact ⟨_, _, eqU, by (with_reducible repeat (first | apply Kd.R_alloc | apply Kd.R_drewN | apply Kd.R_drew)); exact Kd.R_mono (Kd.R_far (p := ⟨gb153, 3, none⟩) (Kd.R_far (p := ⟨gb153, 2, none⟩) (Kd.R_far (p := ⟨gb153, 1, none⟩) (Kd.R_far (p := ⟨gb153, 0, none⟩) (Kd.R_far (p := ⟨gb189, 1, none⟩) (Kd.R_types (Kd.R_types HO182.out BK189.out (by decide)) BK153.out (by decide)) (fun _ hk => hk.1.2) (.slice Ao57 y190.length co57)) (fun _ hk => hk.2) (.slice Ao51 t180.length co51)) (fun _ hk => hk.2) (.slice Ao57 y190.length co57)) (fun _ hk => hk.2) (.int .i64 t186)) (fun _ hk => hk.2) (.bool t187)) (fun _ hk => trivial), by (with_reducible repeat (first | apply Kd.R_alloc | apply Kd.R_drewN | apply Kd.R_drew)); exact Kd.R_mono (Kd.R_far (p := ⟨gb153, 3, none⟩) (Kd.R_far (p := ⟨gb153, 2, none⟩) (Kd.R_far (p := ⟨gb153, 1, none⟩) (Kd.R_far (p := ⟨gb153, 0, none⟩) (Kd.R_far (p := ⟨gb189, 1, none⟩) (Kd.R_types (Kd.R_types HO192.out BK189.out (by decide)) BK153.out (by decide)) (fun _ hk => hk.1.2) (.slice Ao57 y190.length co57)) (fun _ hk => hk.2) (.slice Ao51 t180.length co51)) (fun _ hk => hk.2) (.slice Ao57 y190.length co57)) (fun _ hk => hk.2) (.int .i64 t186)) (fun _ hk => hk.2) (.bool t187)) (fun _ hk => trivial), bU HB⟩
       ·rw [if_neg c46] at H
        exact absurd H (by simp)
      ·rw [if_neg c45] at H
       have c45b0 : (t188 == 0) = false := beq_eq_false_iff_ne.mpr c45
       have c45b1 : (t188 != 0) = true := bne_iff_ne.mpr c45
       simp only [Option.some.injEq, Prod.mk.injEq] at H
       obtain ⟨rfl, rfl, rfl, rfl, rfl⟩ := H
       have hnb60 := NB152_153.out
       have hnc60 := NB153_152.out
       obtain ⟨hcz61_0, hcz61_1, hcz61_2, hcz61_3, hfz61_0, hfz61_1, hfz61_2, hfz61_3⟩ := k4 BK152
       go_wp2_with (first | ((with_reducible refine gate_callee (f := 27) rfl ?_); refine goesL_ (some 36) rfl rfl Try.func27 (by kernel_rfl) rfl #[.agg #[.slice A0_0 l0_0.length c0_0, .slice A0_1 l0_1.length c0_1, .int .i64 a0_2, .bool false]] rfl (by (try simp only [List.map_toArray, List.map_cons, List.map_nil]); first | done | rfl | (simp only [List.length_drop, List.length_take]; rfl)) ?_; (with_reducible refine (dev_spend.calls _ _ l0_0 _ _ l0_1 a0_2 false t180 t183 t186 t187 t188 _ ?side1 ?side2 ?side3 ?side4 A44.out).mono ?_); (case side1 => exact cU (Kd.C_below HR0_0.out HB.out)); (case side2 => exact HC0_0.out); (case side3 => exact cU (Kd.C_below HR0_1.out HB.out)); (case side4 => exact HC0_1.out); rintro e w62 ⟨v181, v184, rfl, ho0, ho1, hb⟩; refine ⟨_, rfl, ?_⟩; have n0_ := Aside0.mk (Kd.R_lower ho0 (below_size (bU HB))); have n1_ := Aside0.mk (Kd.R_lower ho1 (below_size (bU HB))); have n2_ := Aside0.mk (blk_below (kU BK152) hb); have n3_ := Aside0.mk (blk_below (kU BK153) hb); have n4_ := Aside0.mk (below_step (bU HB) hb); clear BK152; clear BK153; clear HB; have HO182 := n0_; have HO185 := n1_; have BK152 := n2_; have BK153 := n3_; have HB := n4_; clear n0_ n1_ n2_ n3_ n4_; (try clear hb); (try clear hb2); (try clear hk); (try clear hi); (try clear ho0); (try clear ho1)) | ((with_reducible refine gate_dst (N := 8) rfl ?_); refine box_event ?hg (N := 8) ?hd (cs := #[.slice none 0 0, .slice none 0 0, .int .i64 0, .bool false]) (t := 25) ?hr ?_; (case hd => rfl); (case hg => rfl); (case hr => first | (go_simp; done) | (go_simp; rfl)); intro gb189 hg w63 hbox hb; have n0_ := Aside0.mk (Kd.R_below (rU HO182) hb); have n1_ := Aside0.mk (Kd.R_below (rU HO185) hb); have n2_ := Aside0.mk (blk_below (kU BK152) hb); have n3_ := Aside0.mk (blk_below (kU BK153) hb); have n4_ := Aside0.mk (below_step (bU HB) hb); have n5_ := Aside0.mk (hbox); have n6_ := Aside0.mk ((by rw [hg]; exact (below_size (bU HB)) : w.heap.size ≤ gb189)); have n7_ := Aside0.mk ((by rw [hg]; exact (below_size (bU HB)) : w.heap.size ≤ gb189)); have n8_ := Aside0.mk ((by rw [hg]; exact Nat.ne_of_lt (blk_lt (g := gb152) (o := .cells #[.slice A0_0 l0_0.length c0_0, .slice A0_1 l0_1.length c0_1, .int .i64 a0_2, .bool false] 25 (0, 0)) (kU BK152)) : gb152 ≠ gb189)); have n9_ := Aside0.mk ((by rw [hg]; exact Nat.ne_of_gt (blk_lt (g := gb152) (o := .cells #[.slice A0_0 l0_0.length c0_0, .slice A0_1 l0_1.length c0_1, .int .i64 a0_2, .bool false] 25 (0, 0)) (kU BK152)) : gb189 ≠ gb152)); have n10_ := Aside0.mk ((by rw [hg]; exact Nat.ne_of_lt (blk_lt (g := gb153) (o := .cells #[.slice none 0 0, .slice none 0 0, .int .i64 0, .bool false] 25 (0, 0)) (kU BK153)) : gb153 ≠ gb189)); have n11_ := Aside0.mk ((by rw [hg]; exact Nat.ne_of_gt (blk_lt (g := gb153) (o := .cells #[.slice none 0 0, .slice none 0 0, .int .i64 0, .bool false] 25 (0, 0)) (kU BK153)) : gb189 ≠ gb153)); clear HO182; clear HO185; clear BK152; clear BK153; clear HB; have HO182 := n0_; have HO185 := n1_; have BK152 := n2_; have BK153 := n3_; have HB := n4_; have BK189 := n5_; have GW189 := n6_; have GE189 := n7_; have NB152_189 := n8_; have NB189_152 := n9_; have NB153_189 := n10_; have NB189_153 := n11_; clear n0_ n1_ n2_ n3_ n4_ n5_ n6_ n7_ n8_ n9_ n10_ n11_; clear hb hbox hg; obtain ⟨Ao64, co64, eo64⟩ := Kd.R_slice HO182.out; subst eo64; have hnb65 := NB189_152.out; have hnc65 := NB152_189.out; have hnb66 := NB189_153.out; have hnc66 := NB153_189.out; have hcz67_0 : w63.cell? ⟨gb189, 0, none⟩ = some (.slice none 0 0) := (blk_cell BK189.out 0).trans rfl; have hcz67_1 : w63.cell? ⟨gb189, 1, none⟩ = some (.slice none 0 0) := (blk_cell BK189.out 1).trans rfl; have hcz67_2 : w63.cell? ⟨gb189, 2, none⟩ = some (.int .i64 0) := (blk_cell BK189.out 2).trans rfl; have hcz67_3 : w63.cell? ⟨gb189, 3, none⟩ = some (.bool false) := (blk_cell BK189.out 3).trans rfl; have hfz67_0 := blk_frozen BK189.out 0; have hfz67_1 := blk_frozen BK189.out 1; have hfz67_2 := blk_frozen BK189.out 2; have hfz67_3 := blk_frozen BK189.out 3; obtain ⟨Ao68, co68, eo68⟩ := Kd.R_slice HO185.out; subst eo68; have hcz69_0 : w63.cell? ⟨gb153, 0, none⟩ = some (.slice none 0 0) := (blk_cell BK153.out 0).trans rfl; have hcz69_1 : w63.cell? ⟨gb153, 1, none⟩ = some (.slice none 0 0) := (blk_cell BK153.out 1).trans rfl; have hcz69_2 : w63.cell? ⟨gb153, 2, none⟩ = some (.int .i64 0) := (blk_cell BK153.out 2).trans rfl; have hcz69_3 : w63.cell? ⟨gb153, 3, none⟩ = some (.bool false) := (blk_cell BK153.out 3).trans rfl; have hfz69_0 := blk_frozen BK153.out 0; have hfz69_1 := blk_frozen BK153.out 1; have hfz69_2 := blk_frozen BK153.out 2; have hfz69_3 := blk_frozen BK153.out 3))
       refine bodyPost_ret (results_ct rfl _ _ gb153 25 #[.slice Ao64 t180.length co64, .slice Ao68 t183.length co68, .int .i64 t186, .bool t187] (0, 0) _ rfl (kP BK153) Try.underlying25 rfl (by kernel_rfl)) rfl ?_
       exact ⟨_, _, eqU, by (with_reducible repeat (first | apply Kd.R_alloc | apply Kd.R_drewN | apply Kd.R_drew)); exact Kd.R_mono (Kd.R_far (p := ⟨gb153, 3, none⟩) (Kd.R_far (p := ⟨gb153, 2, none⟩) (Kd.R_far (p := ⟨gb153, 1, none⟩) (Kd.R_far (p := ⟨gb153, 0, none⟩) (Kd.R_far (p := ⟨gb189, 3, none⟩) (Kd.R_far (p := ⟨gb189, 2, none⟩) (Kd.R_far (p := ⟨gb189, 1, none⟩) (Kd.R_far (p := ⟨gb189, 0, none⟩) (Kd.R_types (Kd.R_types HO182.out BK189.out (by decide)) BK153.out (by decide)) (fun _ hk => hk.1.2) (.slice Ao64 t180.length co64)) (fun _ hk => hk.1.2) (.slice Ao68 t183.length co68)) (fun _ hk => hk.1.2) (.int .i64 t186)) (fun _ hk => hk.1.2) (.bool t187)) (fun _ hk => hk.2) (.slice Ao64 t180.length co64)) (fun _ hk => hk.2) (.slice Ao68 t183.length co68)) (fun _ hk => hk.2) (.int .i64 t186)) (fun _ hk => hk.2) (.bool t187)) (fun _ hk => trivial), by (with_reducible repeat (first | apply Kd.R_alloc | apply Kd.R_drewN | apply Kd.R_drew)); exact Kd.R_mono (Kd.R_far (p := ⟨gb153, 3, none⟩) (Kd.R_far (p := ⟨gb153, 2, none⟩) (Kd.R_far (p := ⟨gb153, 1, none⟩) (Kd.R_far (p := ⟨gb153, 0, none⟩) (Kd.R_far (p := ⟨gb189, 3, none⟩) (Kd.R_far (p := ⟨gb189, 2, none⟩) (Kd.R_far (p := ⟨gb189, 1, none⟩) (Kd.R_far (p := ⟨gb189, 0, none⟩) (Kd.R_types (Kd.R_types HO185.out BK189.out (by decide)) BK153.out (by decide)) (fun _ hk => hk.1.2) (.slice Ao64 t180.length co64)) (fun _ hk => hk.1.2) (.slice Ao68 t183.length co68)) (fun _ hk => hk.1.2) (.int .i64 t186)) (fun _ hk => hk.1.2) (.bool t187)) (fun _ hk => hk.2) (.slice Ao64 t180.length co64)) (fun _ hk => hk.2) (.slice Ao68 t183.length co68)) (fun _ hk => hk.2) (.int .i64 t186)) (fun _ hk => hk.2) (.bool t187)) (fun _ hk => trivial), bU HB⟩

end Go.Proofs.Ytaocplhijfkicaa.PD
/- slices.Backward's iterator over a row of writes: what it yields, from the last to the first. -/
namespace Go.Proofs.Ytaocplhijfkicaa.PD
open Go.RowKit Go.Shelf Go.Proofs.YtaocplhijfkicaaW.PrintWords
set_option linter.unusedVariables false
set_option linter.unusedSimpArgs false
attribute [local go_sem] Oper.semAt_some
def encP (x : Int × S40) : Array Value := #[.int .i64 x.1, .agg #[.int .i64 x.2.f0, .string x.2.f1]]
def keepB (n₀ Bn : Nat) (A B : World) : Prop := Below n₀ A B ∧ B.cell? ⟨Bn, 0, none⟩ = A.cell? ⟨Bn, 0, none⟩
def downOf : Value → Nat | .int _ q => (q + 1).toNat | _ => 0
set_option maxRecDepth 100000 in
set_option maxHeartbeats 4000000 in
theorem back_in (n : Nat) (hn : 1 ≤ n) (l Bn : Nat) (w0 : World) (A : Option Addr) (c : Nat) (ca : List S40) (J Jx : List (Int × S40) → World → Prop) (hC : Kd.C k40 w0 A ca.length ca)
    (hY : ∀ pre x W, J pre W → pre.length < ca.length → YieldAt Fence.wide (n - 1) Try.prog l (encP x) W fun e W' =>
      (e = .returned (.bool true) ∧ J (pre ++ [x]) W' ∧ keepB w0.heap.size Bn W W') ∨ (e = .returned (.bool false) ∧ Jx (pre ++ [x]) W'))
    (W : World) (hBn : W.cell? ⟨Bn, 0, none⟩ = some (.slice A ca.length c)) (hB : Below w0.heap.size w0 W) (h0 : J [] W) :
    CallsIn Fence.wide n Try.prog 56 #[.func (.yield l) #[] #[], .pointer (some ⟨Bn, 0, none⟩)] W fun e W' => (∃ v, e = .returned v) ∧
      ((∃ ys, ys.map Prod.snd = ca.reverse ∧ J ys W') ∨ (∃ pre, pre.map Prod.snd <+: ca.reverse ∧ Jx pre W')) := by
  refine callsIn_of_wp Try.func56 rfl trivial ?_ rfl
  simp only [Try.ntmps56, List.size_toArray, List.length_cons, List.length_nil, Nat.reduceAdd, Nat.reduceSub, Array.replicate_succ, Array.replicate_zero, List.push_toArray, List.append_toArray, List.nil_append, List.cons_append]
  have HC := Aside0.mk hC
  have hcl : ca.length ≤ 9223372036854775807 := by have := hC.2.1; unfold maxLen at this; omega
  clear hC
  have HY := Aside0.mk hY
  clear hY
  have H0 := Aside0.mk h0
  clear h0
  have HB := Aside0.mk hB
  clear hB
  gi_wp2
  gi_loopw [3] (fun p wr => ∃ (i : Nat) (pre : List (Int × S40)), p = .int .i64 ((i : Int) - 1) ∧ i ≤ ca.length ∧ pre.map Prod.snd = (ca.drop i).reverse ∧ Aside0 (J pre wr) ∧ wr.cell? ⟨Bn, 0, none⟩ = some (.slice A ca.length c) ∧ Aside0 (Below w0.heap.size w0 wr))
    (fun p _ => downOf p)
  case atStart =>
    exact ⟨ca.length, [], rfl, Nat.le_refl _, by simp, H0, hBn, HB⟩
  case round =>
    obtain ⟨i, pre, rfl, hi, hpre, HJ, hcB, HB⟩ := hrel
    have hl : pre.length = ca.length - i := by have := congrArg List.length hpre; simpa using this
    rcases i with _ | i
    · gi_wp2
      go_end0
      exact ⟨⟨_, rfl⟩, .inl ⟨pre, by simpa using hpre, HJ.out⟩⟩
    · have h1 : ((i + 1 : Nat) : Int) - 1 = (i : Int) := by omega
      rw [h1]
      have hcond : decide ((i : Int) ≥ 0) = true := by simp
      obtain ⟨ad, e, hx0, hx1⟩ := at_T40 HC.out (i : Int) (by omega) (by omega)
      subst e
      replace hx0 := (HB.out.cell (World.block_lt_of_cell? w0 _ hx0)).trans hx0
      replace hx1 := (HB.out.cell (World.block_lt_of_cell? w0 _ hx1)).trans hx1
      simp only [Int.toNat_natCast] at hx0 hx1
      obtain ⟨fn, tmps, assign, body, hy, hR⟩ := HY.out pre ((i : Int), rd_T40 ca (i : Int)) wr HJ.out (by omega)
      simp only [encP] at hy
      gi_wp2
      refine hR.mono ?_
      have hgr : ca.reverse = (ca.drop (i + 1)).reverse ++ [rd_T40 ca (i : Int)] ++ (ca.take i).reverse := by
        have hget : ca.drop i = rd_T40 ca (i : Int) :: ca.drop (i + 1) := by
          rw [List.drop_eq_getElem_cons (by omega)]
          congr 1
          simp [rd_T40, List.getD_eq_getElem?_getD, List.getElem?_eq_getElem (show i < ca.length by omega)]
        rw [← List.reverse_cons, ← hget, ← List.reverse_append, List.take_append_drop]
      rintro e W3 (⟨rfl, hJ3, hk3⟩ | ⟨rfl, hJx3⟩)
      · have hcB3 := hk3.2.trans hcB
        gi_wp2
        go_roundw
        case rel =>
          refine ⟨i, pre ++ [((i : Int), rd_T40 ca (i : Int))], rfl, by omega, ?_, ⟨hJ3⟩, hcB3, ⟨HB.out.trans hk3.1⟩⟩
          rw [List.map_append, hpre, List.map_cons, List.map_nil]
          have hget : ca.drop i = rd_T40 ca (i : Int) :: ca.drop (i + 1) := by
            rw [List.drop_eq_getElem_cons (by omega)]
            congr 1
            simp [rd_T40, List.getD_eq_getElem?_getD, List.getElem?_eq_getElem (show i < ca.length by omega)]
          rw [hget, List.reverse_cons]
        case measure => show downOf (.int .i64 ((i : Int) - 1)) < downOf (.int .i64 (i : Int)); simp only [downOf]; omega
      · gi_wp2
        refine bodyPost_ret (results_none rfl _ _ _) rfl ?_
        exact ⟨⟨_, rfl⟩, .inr ⟨pre ++ [((i : Int), rd_T40 ca (i : Int))], by rw [List.map_append, hpre, hgr]; exact ⟨_, rfl⟩, hJx3⟩⟩
theorem back_stops (n : Nat) (hn : 1 ≤ n) (Bn : Nat) (w0 w : World) (A : Option Addr) (c : Nat) (ca : List S40) (hC : Kd.C k40 w0 A ca.length ca) (hlt : Bn < w.heap.size) (hB : Below w0.heap.size w0 w)
    (hc : w.cell? ⟨Bn, 0, none⟩ = some (.slice A ca.length c)) :
    SeqStopsK Fence.wide n Try.prog 56 #[.pointer (some ⟨Bn, 0, none⟩)] encP (keepB w0.heap.size Bn) (fun ys => ys.map Prod.snd = ca.reverse) (fun pre => pre.map Prod.snd <+: ca.reverse) ca.length w := fun l J Jx W hW _ _ hY h0 =>
  back_in n hn l Bn w0 A c ca J Jx hC hY W ((hW.cell (p := ⟨Bn, 0, none⟩) hlt).trans hc) (hB.trans (hW.mono hB.size)) h0
end Go.Proofs.Ytaocplhijfkicaa.PD
/- The iterator of dev.latest: it hands on, write by write, what slices.Backward's iterator yields; its caller's rounds may be whatever keeps what the iterator has made. -/
namespace Go.Proofs.Ytaocplhijfkicaa.PD
open Go.RowKit Go.Shelf Go.Proofs.YtaocplhijfkicaaW.PrintWords
set_option linter.unusedVariables false
set_option linter.unusedSimpArgs false
theorem wide_fn (f : FuncId) : Fence.wide.fn f = True := rfl
theorem wide_depth : Fence.wide.depth = none := rfl
attribute [local go_sem] Oper.semAt_some wide_fn wide_depth
/-- What lay from block B on lies as it lay. -/
structure Above (B : Nat) (W W' : World) : Prop where
  size : W.heap.size ≤ W'.heap.size
  same : ∀ k, B ≤ k → k < W.heap.size → W'.heap[k]? = W.heap[k]?
theorem Above.keeps {B B' : Nat} {W W' : World} (h : Above B W W') (hB : B ≤ B') : KeepsFrom B' W W' :=
  ⟨h.size, fun k o hk ho _ => (h.same k (by omega) (Array.getElem?_eq_some_iff.1 ho).1).trans ho⟩
theorem Above.cell {B : Nat} {W W' : World} (h : Above B W W') {p : Addr} (hp : B ≤ p.block) (hl : p.block < W.heap.size) : W'.cell? p = W.cell? p := World.cell?_of_block (h.same _ hp hl)
theorem Above.boxed {B b : Nat} {t : TypeId} {v : Value} {W W' : World} (h : Above B W W') (hb : B ≤ b) (hx : Boxed W b t v) : Boxed W' b t v := (h.same b hb hx.lt).trans hx
theorem roundIn_any {m m' l l' : Nat} {P : Program} {fn : FuncId} {tmps : Array Value} {assign body : Code} {w : World} {R : Ending → World → Prop} (h : RoundIn Fence.wide m P l fn tmps assign body w R) : RoundIn (Fence.wide.inRound l') m' P l fn tmps assign body w R :=
  ⟨trivial, fun c cs _ => h.2 c cs (room_wide _)⟩
theorem ownFrom_map {β γ : Type} {B B' : Nat} {I : β → World → Prop} (h : OwnFrom B I) (hB : B ≤ B') (f : γ → β) : OwnFrom B' (fun s W => I (f s) W) :=
  fun s W W' row hs hg hr => h (f s) W W' row hs hg (fun r e => ⟨Nat.le_trans hB (hr r e).1, (hr r e).2⟩)
theorem own_below {β : Type} {B : Nat} {I : β → World → Prop} (h : OwnFrom B I) {s : β} {W W' : World} (hs : I s W) (hb : Below W.heap.size W W') : I s W' :=
  h s W W' none hs ⟨hb.os, hb.tape, hb.output, hb.size, fun k hk _ => hb.block k hk⟩ (fun r e => by cases e)
theorem keeps_below {B : Nat} {W W' : World} (hb : Below W.heap.size W W') : KeepsFrom B W W' :=
  ⟨hb.size, fun k o _ hk _ => (hb.block k (Array.getElem?_eq_some_iff.1 hk).1).trans hk⟩
theorem boxed_below {b : Nat} {t : TypeId} {v : Value} {W W' : World} (h : Boxed W b t v) (hb : Below W.heap.size W W') : Boxed W' b t v := (hb.block b h.lt).trans h
abbrev encW (x : S40) : Array Value := #[.agg #[.int .i64 x.f0, .string x.f1]]
set_option maxHeartbeats 1000000 in
theorem backward_in (F : Fence) (hF : F.fn 47) (hro : F.round = none) (n : Nat) (A : Option Addr) (m c : Nat) (w : World) :
    CallsIn F n Try.prog 47 #[.slice A m c] w fun e w' => e = .returned (.func (.func 56) #[] #[.pointer (some ⟨w.heap.size, 0, none⟩)]) ∧ w' = w.alloc (.cells #[.slice A m c] 23) := by
  refine callsIn_of_wp Try.func47 rfl hF ?_ hro
  simp only [Try.ntmps47, List.size_toArray, List.length_cons, List.length_nil, Nat.reduceAdd, Nat.reduceSub, Array.replicate_succ, Array.replicate_zero, List.push_toArray, List.append_toArray, List.nil_append, List.cons_append]
  gi_wp2
  go_ret
  exact ⟨rfl, rfl⟩
set_option maxHeartbeats 1000000 in
theorem latest_in (F : Fence) (hF : F.fn 33) (hro : F.round = none) (n : Nat) (a b c d : Value) (w : World) :
    CallsIn F n Try.prog 33 #[.agg #[a, b, c, d]] w fun e w' => e = .returned (.func (.func 46) #[] #[.pointer (some ⟨w.heap.size, 0, none⟩)]) ∧ w' = w.alloc (.cells #[a, b, c, d] 25) := by
  have hu25 := Try.underlying25
  refine callsIn_of_wp Try.func33 rfl hF ?_ hro
  simp only [Try.ntmps33, List.size_toArray, List.length_cons, List.length_nil, Nat.reduceAdd, Nat.reduceSub, Array.replicate_succ, Array.replicate_zero, List.push_toArray, List.append_toArray, List.nil_append, List.cons_append]
  gi_wp2
  go_ret
  exact ⟨rfl, rfl⟩
set_option maxRecDepth 100000 in
set_option maxHeartbeats 4000000 in
theorem latest1_in (m n : Nat) (hn : 9 ≤ n) (l D : Nat) (w0 : World) (A : Option Addr) (c : Nat) (ca : List S40) (J Jx : List S40 → World → Prop) (hC : Kd.C k40 w0 A ca.length ca) (W : World) (hJ : OwnFrom W.heap.size J) (hJx : OwnFrom W.heap.size Jx)
    (hY : ∀ pre x W1, J pre W1 → YieldAt Fence.wide m Try.prog l (encW x) W1 fun e W' => ((e = .returned (.bool true) ∧ J (pre ++ [x]) W') ∨ (e = .returned (.bool false) ∧ Jx (pre ++ [x]) W')) ∧ Below w0.heap.size W1 W' ∧ Above W.heap.size W1 W')
    (hD : W.cell? ⟨D, 1, none⟩ = some (.slice A ca.length c)) (hB : Below w0.heap.size w0 W) (h0 : J [] W) :
    CallsIn Fence.wide n Try.prog 46 #[.func (.yield l) #[] #[], .pointer (some ⟨D, 0, none⟩)] W fun e W' => (∃ v, e = .returned v) ∧ (J ca.reverse W' ∨ ∃ pre, pre <+: ca.reverse ∧ Jx pre W') := by
  have hu25 := Try.underlying25
  refine callsIn_of_wp_marks Try.func46 rfl trivial ?_ rfl
  simp only [Try.ntmps46, List.size_toArray, List.length_cons, List.length_nil, Nat.reduceAdd, Nat.reduceSub, Array.replicate_succ, Array.replicate_zero, List.push_toArray, List.append_toArray, List.nil_append, List.cons_append]
  have HY := Aside0.mk hY
  clear hY
  have hDl := World.block_lt_of_cell? W _ hD
  gi_wp2_with (gi_at_call 47; refine (backward_in Fence.wide trivial rfl (n - 1) _ _ _ _).mono ?_; rintro e w' ⟨rfl, rfl⟩)
  have b1 := (Boxed.new W 60 (.func (.yield l) #[] #[])).alloc (.cells #[.slice A ca.length c] 23)
  have b2 := Boxed.new (W.alloc (.cells #[.func (.yield l) #[] #[]] 60)) 23 (.slice A ca.length c)
  simp only [World.size_alloc] at b2
  have hJ0 : J [] ((W.alloc (.cells #[.func (.yield l) #[] #[]] 60)).alloc (.cells #[.slice A ca.length c] 23)) := hJ.alloc _ (hJ.alloc _ h0)
  have hsz : ((W.alloc (.cells #[.func (.yield l) #[] #[]] 60)).alloc (.cells #[.slice A ca.length c] 23)).heap.size = W.heap.size + 2 := by simp
  have hB1 : Below w0.heap.size w0 ((W.alloc (.cells #[.func (.yield l) #[] #[]] 60)).alloc (.cells #[.slice A ca.length c] 23)) := (hB.alloc hB.size _).alloc (by have := hB.size; simp; omega) _
  obtain ⟨V, hV⟩ : ∃ V, (W.alloc (.cells #[.func (.yield l) #[] #[]] 60)).alloc (.cells #[.slice A ca.length c] 23) = V := ⟨_, rfl⟩
  rw [hV] at b1 b2 hJ0 hsz hB1
  try rw [hV]
  clear hV
  refine wpIn_rangeFunc_ownH rfl (by omega) (gf := 56) (lb := #[.pointer (some ⟨W.heap.size + 1, 0, none⟩)]) rfl trivial (enters_of Try.func56 (by kernel_rfl) rfl)
    (back_stops (n - 1) (by omega) (W.heap.size + 1) w0 V A c ca hC (by omega) hB1 b2.cell)
    (fun h k => ⟨h.1.trans k.1, k.2.trans h.2⟩)
    (fun X l' o o' hl h ho hw => ⟨belowK_b (w := V) hB1.size X l' o o' hl h ho hw, World.cell?_of_block (World.putObj_heap_other (by show W.heap.size + 1 ≠ l'; omega))⟩)
    (Below.refl _ _) (fun _ => rfl)
    (fun pre X => (J (pre.map Prod.snd) X ∧ Boxed X W.heap.size 60 (.func (.yield l) #[] #[])) ∧ V.heap.size ≤ X.heap.size)
    (fun cd pre X => cd = .ret ∧ Jx (pre.map Prod.snd) X)
    (OwnFrom.and (OwnFrom.and (ownFrom_map hJ (by omega) _) (Own.from (boxed_own _ _ _) _)) (fun _ _ _ _ hs hg _ => Nat.le_trans hs hg.size))
    (fun cd => OwnFrom.and (ownFrom_pure _ (fun _ => cd = .ret)) (ownFrom_map hJx (by omega) _))
    ⟨⟨hJ0, b1⟩, Nat.le_refl _⟩
    (fun x a' X => ∃ Bx, V.heap.size ≤ Bx ∧ X.heap[Bx]? = some (.cells #[.int .i64 x.2.f0, .string x.2.f1] 40 (0, 0)) ∧ a' = { tmps := #[.func (.yield l) #[] #[], .pointer (some ⟨D, 0, none⟩), .pointer (some ⟨W.heap.size, 0, none⟩), undef, .pointer (some ⟨Bx, 0, none⟩), .pointer (some ⟨D, 1, none⟩), .slice A ca.length c, .func (.func 56) #[] #[.pointer (some ⟨W.heap.size + 1, 0, none⟩)], .int .i64 x.1, .agg #[.int .i64 x.2.f0, .string x.2.f1], undef, undef, undef, undef], defers := [] })
    (fun x a' _ X Y row hs hg hr => by
      obtain ⟨Bx, h1, h2, h3⟩ := hs
      refine ⟨Bx, h1, (hg.block Bx (Array.getElem?_eq_some_iff.1 h2).1 (fun e => ?_)).trans h2, h3⟩
      obtain ⟨_, o, ho, hc⟩ := hr Bx e.symm
      rw [h2] at ho; cases ho; cases hc)
    ?assign ?body ?done ?stop
  case assign =>
    rintro l1 pre x X K ⟨⟨hj, hbx⟩, hVX⟩ hK
    have hu40 := Try.underlying40
    simp only [encP]
    gi_wp2
    have hb := (Below.refl X.heap.size X).alloc (Nat.le_refl _) (.cells #[.int .i64 x.2.f0, .string x.2.f1] 40)
    exact hK _ _ (keeps_below hb) ⟨hb.mono (Nat.le_trans hB1.size hVX), hb.cell (p := ⟨W.heap.size + 1, 0, none⟩) (by show W.heap.size + 1 < X.heap.size; omega)⟩
      ⟨⟨own_below hJ hj hb, boxed_below hbx hb⟩, Nat.le_trans hVX hb.size⟩ ⟨X.heap.size, hVX, World.alloc_heap_new X _, rfl⟩
  case body =>
    rintro l1 pre x a' X hl ⟨r, hr⟩ ⟨⟨hj, hbx⟩, hVX⟩ ⟨Bx, hBx, hcx, rfl⟩ hlt
    have hu40 := Try.underlying40
    have cB := hbx.cell
    have hx0 : X.cell? ⟨Bx, 0, none⟩ = some (.int .i64 x.2.f0) := (blk_cell hcx 0).trans rfl
    have hx1 : X.cell? ⟨Bx, 1, none⟩ = some (.string x.2.f1) := (blk_cell hcx 1).trans rfl
    obtain ⟨fn, tmps, assign, body, hy, hR⟩ := HY.out (pre.map Prod.snd) x.2 X hj
    gi_wp2
    refine (roundIn_any hR).mono ?_
    rintro e W3 ⟨⟨rfl, hJ3⟩ | ⟨rfl, hJx3⟩, hbel, habv⟩
    · gi_wp2
      exact ⟨habv.keeps (by omega), ⟨hbel, habv.cell (p := ⟨W.heap.size + 1, 0, none⟩) (by show W.heap.size ≤ W.heap.size + 1; omega) (by show W.heap.size + 1 < X.heap.size; omega)⟩,
        ⟨by rw [List.map_append]; exact hJ3, habv.boxed (Nat.le_refl _) hbx⟩, Nat.le_trans hVX habv.size⟩
    · gi_wp2
      exact ⟨habv.keeps (by omega), rfl, by rw [List.map_append]; exact hJx3⟩
  case done =>
    rintro D' zs X hD' hS ⟨⟨hj, -⟩, -⟩ hK
    gi_wp2
    refine ⟨by simp, .inl ⟨_, _, rfl, run_takeDeferred hK, ?_⟩⟩
    refine ⟨_, results_none rfl _ _ _, ⟨_, rfl⟩, .inl ?_⟩
    rw [← hS]
    exact OwnFrom.putObj hJ _ hj (by omega) hK rfl
  case stop =>
    rintro D' cd pre X hD' hSp ⟨rfl, hjx⟩ hK
    gi_wp2
    refine ⟨by simp, .inl ⟨_, _, rfl, run_takeDeferred hK, ?_⟩⟩
    exact ⟨_, results_none rfl _ _ _, ⟨_, rfl⟩, .inr ⟨_, hSp, OwnFrom.putObj hJx _ hjx (by omega) hK rfl⟩⟩
end Go.Proofs.Ytaocplhijfkicaa.PD
/- A range over an iterator whose own walk calls the rounds from within a loop of its own: the contract of such an iterator, and the walk of a loop over it. -/
namespace Go.Proofs.Ytaocplhijfkicaa.PD
open Go.RowKit Go.Shelf Go.Proofs.YtaocplhijfkicaaW.PrintWords
set_option linter.unusedVariables false
theorem Above.trans {B : Nat} {X Y Z : World} (h : Above B X Y) (k : Above B Y Z) : Above B X Z :=
  ⟨Nat.le_trans h.size k.size, fun i hi hl => (k.same i hi (Nat.lt_of_lt_of_le hl h.size)).trans (h.same i hi hl)⟩
theorem Above.mono {B B' : Nat} {X Y : World} (h : Above B X Y) (hB : B ≤ B') : Above B' X Y := ⟨h.size, fun i hi hl => h.same i (by omega) hl⟩
theorem above_put {B l : Nat} (W : World) (o : Obj) (h : l < B) : Above B W (W.putObj l o) := ⟨by simp, fun i hi _ => World.putObj_heap_other (by omega)⟩
theorem above_below {B : Nat} {X Y : World} (h : Below X.heap.size X Y) : Above B X Y := ⟨h.size, fun i _ hl => h.block i hl⟩
theorem below_put {n₀ l : Nat} {W : World} (o : Obj) (h : n₀ ≤ l) : Below n₀ W (W.putObj l o) := ⟨rfl, rfl, rfl, by simp, fun k hk => World.putObj_heap_other (by omega)⟩
theorem ownFrom_heap {β : Type} {B k : Nat} (o : β → Obj) (h : k < B) : OwnFrom B (fun s W => W.heap[k]? = some (o s)) :=
  fun s X Y row hs hg hr => (hg.block k (Array.getElem?_eq_some_iff.1 hs).1 (fun e => by have := (hr k e.symm).1; omega)).trans hs
/-- The contract of an iterator that may call its rounds from within a round of its own: between two rounds it lays blocks, and turns none but its own that are no cells; the rounds keep what lay below n₀, and all that it has made. -/
def SeqOwn {α : Type} (P : Program) (g : Nat) (lb : Array Value) (encs : α → Array Value) (n₀ : Nat) (xs : List α) (w : World) : Prop :=
  ∀ (l : Nat) (J Jx : List α → World → Prop) (W : World), Below w.heap.size w W → OwnFrom W.heap.size J → OwnFrom W.heap.size Jx →
    (∀ pre x W1, J pre W1 → YieldAt Fence.wide 50 P l (encs x) W1 fun e W' => ((e = .returned (.bool true) ∧ J (pre ++ [x]) W') ∨ (e = .returned (.bool false) ∧ Jx (pre ++ [x]) W')) ∧ Below n₀ W1 W' ∧ Above W.heap.size W1 W') →
    J [] W → Calls P g (#[.func (.yield l) #[] #[]] ++ lb) W fun e W' => (∃ v, e = .returned v) ∧ (J xs W' ∨ ∃ pre, pre <+: xs ∧ Jx pre W')
/-- How a round's body may be left. -/
def seqPost {α : Type} (B n₀ : Nat) (I : List α → World → Prop) (Ix : Code → List α → World → Prop) (xs : List α) (W : World) : Exit → Act → World → Prop
  | .normal, _, W' => Above B W W' ∧ Below n₀ W W' ∧ I xs W'
  | .ret, _, W' => Above B W W' ∧ Below n₀ W W' ∧ Ix .ret xs W'
  | .exit id, _, W' => Above B W W' ∧ Below n₀ W W' ∧ Ix (.exit id) xs W'
  | .goto t, _, W' => Above B W W' ∧ Below n₀ W W' ∧ Ix (.goto t) xs W'
  | .panic _, _, _ => False
  | .outgrown, _, _ => False
theorem range_seq {α : Type} {n : Nat} {P : Program} {g : Operand} {ps : Array Tmp} {assign body : Code} {Q : Exit → Act → World → Prop} {a : Act} {w : World}
    {gf : Nat} {lb : Array Value} (hg : a.eval g = .func (.func gf) #[] lb) (eg : ∀ args w, (callFunc gf args).run P w = .ok (.enter gf args) w)
    {encs : α → Array Value} {n₀ : Nat} {xs : List α} (hn : n₀ ≤ w.heap.size) (hseq : SeqOwn P gf lb encs n₀ xs w) (hps : ∀ x, (encs x).size = ps.size)
    (I : List α → World → Prop) (Ix : Code → List α → World → Prop) (hI : OwnFrom w.heap.size I) (hIx : ∀ c, OwnFrom w.heap.size (Ix c)) (h0 : I [] w)
    (Ax : α → Act → World → Prop) (hAx : ∀ x a', OwnFrom w.heap.size (fun (_ : Unit) W => Ax x a' W))
    (hassign : ∀ (l : Nat) (pre : List α) (x : α) (W : World) (K : Act → World → Prop), I pre W → w.heap.size ≤ W.heap.size → (∀ a' W', Above w.heap.size W W' → Below n₀ W W' → I pre W' → Ax x a' W' → K a' W') →
      assign.wpIn (Fence.wide.inRound l) 50 P (Exit.then K (fun _ _ _ => False)) { tmps := (ps.zip (encs x)).foldl (fun t (p, v) => t.setIfInBounds p v) a.tmps, defers := [] } W)
    (hbody : ∀ (l : Nat) (pre : List α) (x : α) (a' : Act) (W : World), I pre W → w.heap.size ≤ W.heap.size → Ax x a' W → body.wpIn (Fence.wide.inRound l) 50 P (seqPost w.heap.size n₀ I Ix (pre ++ [x]) W) a' W)
    (hdone : ∀ (D : Nat) (W : World), w.heap.size ≤ D → I xs W → W.heap[D]? = some (.deferred (some [])) → Q .normal { a with defers := { target := .collected D, args := #[] } :: a.defers } W)
    (hstop : ∀ (D : Nat) (c : Code) (pre : List α) (W : World), w.heap.size ≤ D → pre <+: xs → Ix c pre W → W.heap[D]? = some (.deferred (some [])) → c.wpIn Fence.wide n P Q { a with defers := { target := .collected D, args := #[] } :: a.defers } W) :
    (Code.rangeFunc g ps assign body).wpIn Fence.wide n P Q a w := by
  refine wpIn_rangeFunc fun fn hfn => ?_
  let rec' : LoopState → Option Code → Loop := fun st pe => { state := st, pending := pe, fn, tmps := a.tmps, params := ps, assign, body, defers := w.heap.size }
  obtain ⟨rec, hrec⟩ : ∃ rec, rec = rec' := ⟨_, rfl⟩
  obtain ⟨V, hV⟩ : ∃ V, (w.alloc (.deferred (some []))).alloc (.loop (rec .ready none)) = V := ⟨_, rfl⟩
  have hbV : Below w.heap.size w V := by rw [← hV]; exact ((Below.refl _ w).alloc (Nat.le_refl _) _).alloc (by simp) _
  have hsV : V.heap.size = w.heap.size + 2 := by rw [← hV]; simp
  have hLV : V.heap[w.heap.size + 1]? = some (.loop (rec .ready none)) := by
    rw [← hV]; have := World.alloc_heap_new (w.alloc (.deferred (some []))) (.loop (rec .ready none)); rwa [World.size_alloc] at this
  have hDV : V.heap[w.heap.size]? = some (.deferred (some [])) := by
    rw [← hV]; exact (Below.heap_alloc _ _ _ (by simp)).trans (World.alloc_heap_new w _)
  refine ⟨w.heap.size + 1, [{ target := .collected w.heap.size, args := #[] }], V, { target := .fn (.func gf) lb, args := #[.func (.yield (w.heap.size + 1)) #[] #[]] }, V, gf,
    #[.func (.yield (w.heap.size + 1)) #[] #[]] ++ lb, V, ?_, ?_, fun _ _ => trivial, ?_, fun h => (by cases h), ?_⟩
  · rw [← hV, hrec]; exact run_enterLoop_outer _ _ _ _ _
  · simp only [resolve, hg]
    simp [go_sem]
  · simp [invoke, go_sem, eg]
  refine callsIn_wide.2 ((hseq (w.heap.size + 1)
    (fun pre W => I pre W ∧ W.heap[w.heap.size + 1]? = some (.loop (rec .ready none)) ∧ W.heap[w.heap.size]? = some (.deferred (some [])) ∧ w.heap.size + 2 ≤ W.heap.size)
    (fun pre W => ∃ c, Ix c pre W ∧ W.heap[w.heap.size + 1]? = some (.loop (rec .done (some c))) ∧ W.heap[w.heap.size]? = some (.deferred (some [])) ∧ w.heap.size + 2 ≤ W.heap.size)
    V hbV ?_ ?_ ?_ ⟨own_below hI h0 hbV, hLV, hDV, by omega⟩).mono ?_)
  · intro s X Y row ⟨h1, h2, h3, h4⟩ hg' hr
    exact ⟨hI s X Y row h1 hg' (fun r e => ⟨by have := (hr r e).1; omega, (hr r e).2⟩), ownFrom_heap (B := V.heap.size) (fun _ : List α => .loop (rec .ready none)) (by omega) s X Y row h2 hg' hr,
      ownFrom_heap (B := V.heap.size) (fun _ : List α => .deferred (some [])) (by omega) s X Y row h3 hg' hr, Nat.le_trans h4 hg'.size⟩
  · intro s X Y row ⟨c, h1, h2, h3, h4⟩ hg' hr
    exact ⟨c, hIx c s X Y row h1 hg' (fun r e => ⟨by have := (hr r e).1; omega, (hr r e).2⟩), ownFrom_heap (B := V.heap.size) (fun _ : List α => .loop (rec .done (some c))) (by omega) s X Y row h2 hg' hr,
      ownFrom_heap (B := V.heap.size) (fun _ : List α => .deferred (some [])) (by omega) s X Y row h3 hg' hr, Nat.le_trans h4 hg'.size⟩
  · -- one round
    rintro pre x W ⟨hi, hl, hd, hs⟩
    have hy := run_yield (P := P) (args := encs x) hl (by rw [hrec]; exact hps x)
    rw [hrec] at hy
    refine ⟨fn, _, assign, body, hy, roundIn_of_wpIn trivial (hassign _ pre x W _ hi (by omega) fun a' Wa hab hbl hia hax => ?_)⟩
    clear hy
    have hl1 : Wa.heap[w.heap.size + 1]? = some (.loop (rec .ready none)) := (hab.same _ (by omega) (by omega)).trans hl
    have hd1 : Wa.heap[w.heap.size]? = some (.deferred (some [])) := (hab.same _ (Nat.le_refl _) (by omega)).trans hd
    have hs1 := Nat.le_trans hs hab.size
    refine ⟨_, run_beginRound hl1 (by rw [hrec]), ?_⟩
    obtain ⟨Wb, hWb⟩ : ∃ Wb, Wa.putObj (w.heap.size + 1) (.loop { rec .ready none with state := .busy }) = Wb := ⟨_, rfl⟩
    have hl2 : Wb.heap[w.heap.size + 1]? = some (.loop { rec .ready none with state := .busy }) := by rw [← hWb]; exact World.putObj_heap_same (by omega)
    have hd2 : Wb.heap[w.heap.size]? = some (.deferred (some [])) := by rw [← hWb]; exact (World.putObj_heap_other (by omega)).trans hd1
    have hi2 : I pre Wb := by rw [← hWb]; exact OwnFrom.putObj hI _ hia (by omega) hl1 rfl
    have hx2 : Ax x a' Wb := by rw [← hWb]; exact OwnFrom.putObj (hAx x a') (s := ()) _ hax (by omega) hl1 rfl
    have hs2 : w.heap.size + 2 ≤ Wb.heap.size := by rw [← hWb]; simpa using hs1
    have hab2 : Above (w.heap.size + 2) W Wb := (hab.mono (by omega)).trans (by rw [← hWb]; exact above_put _ _ (by omega))
    have hbl2 : Below n₀ W Wb := hbl.trans (by rw [← hWb]; exact below_put _ (by omega))
    rw [hWb]
    refine wpIn_mono (hbody _ pre x a' Wb hi2 (by omega) hx2) ?_
    have fin : ∀ (jump : Option Code) (W3 : World), Above w.heap.size Wb W3 → Below n₀ Wb W3 → ∃ W4, (Instr.endRound (w.heap.size + 1) jump).run P W3 = .ok (.bool jump.isNone) W4 ∧
        W4.heap[w.heap.size + 1]? = some (.loop (rec (if jump.isNone then .ready else .done) jump)) ∧ W4.heap[w.heap.size]? = some (.deferred (some [])) ∧ w.heap.size + 2 ≤ W4.heap.size ∧
        Below n₀ W W4 ∧ Above V.heap.size W W4 ∧ (∀ {β : Type} {K : β → World → Prop} {s : β}, OwnFrom w.heap.size K → K s W3 → K s W4) := by
      intro jump W3 ha hb
      have hl3 : W3.heap[w.heap.size + 1]? = some (.loop { rec .ready none with state := .busy }) := (ha.same _ (by omega) (by omega)).trans hl2
      have hd3 : W3.heap[w.heap.size]? = some (.deferred (some [])) := (ha.same _ (Nat.le_refl _) (by omega)).trans hd2
      have hs3 := Nat.le_trans hs2 ha.size
      have he := run_endRound (P := P) jump hl3
      refine ⟨_, he, ?_, (World.putObj_heap_other (by omega)).trans hd3, by simpa using hs3, hbl2.trans (hb.trans (below_put _ (by omega))),
        (((hab2.trans (ha.mono (by omega))).trans (above_put _ _ (by omega)))).mono (by omega), fun hK hs => OwnFrom.putObj hK _ hs (by omega) hl3 rfl⟩
      rw [World.putObj_heap_same (by omega), hrec]
    rintro e a3 W3 hp
    cases e with
    | normal =>
      obtain ⟨ha, hb, hi3⟩ := hp
      obtain ⟨W4, hr, h1, h2, h3, h4, h5, h6⟩ := fin none W3 ha hb
      exact ⟨_, _, hr, .inl ⟨rfl, h6 hI hi3, h1, h2, h3⟩, h4, h5⟩
    | ret =>
      obtain ⟨ha, hb, hi3⟩ := hp
      obtain ⟨W4, hr, h1, h2, h3, h4, h5, h6⟩ := fin (some .ret) W3 ha hb
      exact ⟨_, _, hr, .inr ⟨rfl, .ret, h6 (hIx _) hi3, h1, h2, h3⟩, h4, h5⟩
    | exit id =>
      obtain ⟨ha, hb, hi3⟩ := hp
      obtain ⟨W4, hr, h1, h2, h3, h4, h5, h6⟩ := fin (some (.exit id)) W3 ha hb
      exact ⟨_, _, hr, .inr ⟨rfl, .exit id, h6 (hIx _) hi3, h1, h2, h3⟩, h4, h5⟩
    | goto t =>
      obtain ⟨ha, hb, hi3⟩ := hp
      obtain ⟨W4, hr, h1, h2, h3, h4, h5, h6⟩ := fin (some (.goto t)) W3 ha hb
      exact ⟨_, _, hr, .inr ⟨rfl, .goto t, h6 (hIx _) hi3, h1, h2, h3⟩, h4, h5⟩
    | panic ch => exact hp.elim
    | outgrown => exact hp.elim
  · -- behind the iterator
    rintro e W2 ⟨⟨v, rfl⟩, ⟨hi, hl, hd, hs⟩ | ⟨pre, hpre, c, hi, hl, hd, hs⟩⟩
    · exact ⟨none, _, by have := run_endLoop (P := P) hl (by rw [hrec]; simp [rec']); rw [hrec] at this; exact this, hdone _ _ (Nat.le_refl _) (OwnFrom.putObj hI _ hi (by omega) hl rfl) ((World.putObj_heap_other (by omega)).trans hd)⟩
    · exact ⟨some c, _, by have := run_endLoop (P := P) hl (by rw [hrec]; simp [rec']); rw [hrec] at this; exact this, hstop _ c pre _ (Nat.le_refl _) hpre (OwnFrom.putObj (hIx c) _ hi (by omega) hl rfl) ((World.putObj_heap_other (by omega)).trans hd)⟩
/-- dev.latest's iterator: the writes, from the last to the first. -/
theorem latest_own (D : Nat) (w0 w : World) (A : Option Addr) (c : Nat) (ca : List S40) (hC : Kd.C k40 w0 A ca.length ca) (hB : Below w0.heap.size w0 w) (hD : w.cell? ⟨D, 1, none⟩ = some (.slice A ca.length c)) :
    SeqOwn Try.prog 46 #[.pointer (some ⟨D, 0, none⟩)] encW w0.heap.size ca.reverse w := fun l J Jx W hW hJ hJx hY h0 =>
  (callsIn_wide (n := 50)).1 (latest1_in 50 50 (by omega) l D w0 A c ca J Jx hC W hJ hJx hY ((hW.cell (p := ⟨D, 1, none⟩) (World.block_lt_of_cell? w _ hD)).trans hD) (hB.trans (hW.mono hB.size)) h0)
end Go.Proofs.Ytaocplhijfkicaa.PD
/- The contract of dev.Read. -/
namespace Go.Proofs.Ytaocplhijfkicaa.PD
open Go.RowKit Go.Shelf Go.Proofs.YtaocplhijfkicaaW.PrintWords Go.Proofs.YtaocplhijfkicaaW.PrintLast Go.Proofs.YtaocplhijfkicaaW.PrintMore
attribute [local go_sem] max2_int min2_int max_two min_two
set_option linter.unusedVariables false
set_option linter.unusedSimpArgs false
attribute [local go_sem] Oper.semAt_some wide_fn wide_depth
def latestOf (bl : List ByteArray) (ca : List S40) (at_ : Int) : ByteArray := ((ca.reverse.find? fun w => w.f0 == at_).map (·.f1)).getD (bl.getD at_.toNat ⟨#[]⟩)
def dev_Read.f (l0_0 : List ByteArray) (l0_1 : List (S40)) (a0_2 : Int) (a0_3 : Bool) (a1 : Int) : Option (ByteArray × Int) := if a0_3 = true then some (⟨#[]⟩, 17) else if 0 ≤ a1 ∧ a1 < l0_0.length then some (latestOf l0_0 l0_1 a1, 0) else some (⟨#[]⟩, 15)
set_option maxRecDepth 100000 in
set_option maxHeartbeats 4000000 in
theorem dev_Read.calls (A0_0 : Option Addr) (c0_0 : Nat) (l0_0 : List ByteArray) (A0_1 : Option Addr) (c0_1 : Nat) (l0_1 : List (S40)) (a0_2 : Int) (a0_3 : Bool) (a1 : Int) (r1 : ByteArray) (r2 : Int) (w : World) (hr0_0 : Kd.C Kd.string w A0_0 l0_0.length l0_0) (hc0_0 : l0_0.length ≤ c0_0) (hr0_1 : Kd.C k40 w A0_1 l0_1.length l0_1) (hc0_1 : l0_1.length ≤ c0_1) (h : dev_Read.f l0_0 l0_1 a0_2 a0_3 a1 = some (r1, r2)) :
    Calls Try.prog 15 #[.agg #[.slice A0_0 l0_0.length c0_0, .slice A0_1 l0_1.length c0_1, .int .i64 a0_2, .bool a0_3], .int .i64 a1] w fun e w' => e = .returned (.tuple #[.string r1, .int .i64 r2]) ∧ Below w.heap.size w w' := by
  have hu25 := Try.underlying25
  unfold dev_Read.f at h
  refine (callsIn_wide (n := 50)).1 ?_
  have HR0 := Aside0.mk hr0_0
  have HR1 := Aside0.mk hr0_1
  clear hr0_0 hr0_1
  refine callsIn_of_wp_marks Try.func15 rfl trivial ?_ rfl
  simp only [Try.ntmps15, List.size_toArray, List.length_cons, List.length_nil, Nat.reduceAdd, Nat.reduceSub, Array.replicate_succ, Array.replicate_zero, List.push_toArray, List.append_toArray, List.nil_append, List.cons_append]
  gi_wp2
  refine wpIn_wide.2 (wp_scope_straight ((wpIn_wide (n := 50)).1 ?_))
  have hb1 : Below w.heap.size w (w.alloc (.cells #[.slice A0_0 l0_0.length c0_0, .slice A0_1 l0_1.length c0_1, .int .i64 a0_2, .bool a0_3] 25)) := (Below.refl _ w).alloc (Nat.le_refl _) _
  have hb2 := hb1.alloc hb1.size (.cells #[.int .i64 a1] 3)
  have BA := World.alloc_heap_new (w.alloc (.cells #[.slice A0_0 l0_0.length c0_0, .slice A0_1 l0_1.length c0_1, .int .i64 a0_2, .bool a0_3] 25)) (.cells #[.int .i64 a1] 3)
  have BD := (Below.heap_alloc (w.alloc (.cells #[.slice A0_0 l0_0.length c0_0, .slice A0_1 l0_1.length c0_1, .int .i64 a0_2, .bool a0_3] 25)) (.cells #[.int .i64 a1] 3) w.heap.size (by simp)).trans (World.alloc_heap_new w _)
  have hsz : ((w.alloc (.cells #[.slice A0_0 l0_0.length c0_0, .slice A0_1 l0_1.length c0_1, .int .i64 a0_2, .bool a0_3] 25)).alloc (.cells #[.int .i64 a1] 3)).heap.size = w.heap.size + 2 := by simp
  simp only [World.size_alloc] at BA
  clear hb1
  obtain ⟨W2, hW2⟩ : ∃ W2, (w.alloc (.cells #[.slice A0_0 l0_0.length c0_0, .slice A0_1 l0_1.length c0_1, .int .i64 a0_2, .bool a0_3] 25)).alloc (.cells #[.int .i64 a1] 3) = W2 := ⟨_, rfl⟩
  rw [hW2] at hb2 BA BD hsz ⊢
  clear hW2
  have HB2 := Aside0.mk hb2
  clear hb2
  have hd0 : W2.cell? ⟨w.heap.size, 0, none⟩ = some (.slice A0_0 l0_0.length c0_0) := (blk_cell BD 0).trans rfl
  have hd1 : W2.cell? ⟨w.heap.size, 1, none⟩ = some (.slice A0_1 l0_1.length c0_1) := (blk_cell BD 1).trans rfl
  have hd2 : W2.cell? ⟨w.heap.size, 2, none⟩ = some (.int .i64 a0_2) := (blk_cell BD 2).trans rfl
  have hd3 : W2.cell? ⟨w.heap.size, 3, none⟩ = some (.bool a0_3) := (blk_cell BD 3).trans rfl
  have ha0 : W2.cell? ⟨w.heap.size + 1, 0, none⟩ = some (.int .i64 a1) := (blk_cell BA 0).trans rfl
  have HBD := Aside0.mk BD
  have HBA := Aside0.mk BA
  clear BD BA
  cases a0_3
  case true =>
    simp only [if_true, Option.some.injEq, Prod.mk.injEq] at h
    obtain ⟨rfl, rfl⟩ := h
    gi_wp2
    exact ⟨_, results_tmp2 rfl _ _ _, rfl, HB2.out⟩
  case false =>
    simp only [Bool.false_eq_true, if_false] at h
    have hpl : dev_place.f l0_0 l0_1 a0_2 false a1 = some (decide (0 ≤ a1 ∧ a1 < l0_0.length)) := by
      unfold dev_place.f
      split
      · rename_i h'; congr 1; simp [h']
      · rename_i h'; congr 1; simp [h']
    have HP := Aside0.mk hpl
    clear hpl
    by_cases hin : 0 ≤ a1 ∧ a1 < l0_0.length
    · rw [if_pos hin] at h
      simp only [Option.some.injEq, Prod.mk.injEq] at h
      obtain ⟨rfl, rfl⟩ := h
      have hdc : decide (0 ≤ a1 ∧ a1 < l0_0.length) = true := decide_eq_true hin
      rw [hdc] at HP
      clear hdc
      obtain ⟨ad, e, hx0⟩ := Kd.at_string HR0.out a1 hin.1 hin.2
      subst e
      gi_wp2_with (gi_at_call 31; refine (callsIn_wide.2 (dev_place.calls _ _ l0_0 _ _ l0_1 a0_2 false a1 true _ (Kd.C_below HR0.out HB2.out) hc0_0 (Kd.C_below HR1.out HB2.out) hc0_1 HP.out)).mono ?_; rintro e w' ⟨rfl, hb⟩; have hw0 := (HB2.out.trans (hb.mono HB2.out.size)); have hx := (hw0.cell (World.block_lt_of_cell? w _ hx0)).trans hx0; have BD := (hb.block w.heap.size (by omega)).trans HBD.out; have BA := (hb.block (w.heap.size + 1) (by omega)).trans HBA.out; have e0 : w'.cell? ⟨w.heap.size, 0, none⟩ = some (.slice (some ad) l0_0.length c0_0) := (blk_cell BD 0).trans rfl; have e1 : w'.cell? ⟨w.heap.size, 1, none⟩ = some (.slice A0_1 l0_1.length c0_1) := (blk_cell BD 1).trans rfl; have e2 : w'.cell? ⟨w.heap.size, 2, none⟩ = some (.int .i64 a0_2) := (blk_cell BD 2).trans rfl; have e3 : w'.cell? ⟨w.heap.size, 3, none⟩ = some (.bool false) := (blk_cell BD 3).trans rfl; have ea : w'.cell? ⟨w.heap.size + 1, 0, none⟩ = some (.int .i64 a1) := (blk_cell BA 0).trans rfl; have HBX := Aside0.mk hw0; have HD' := Aside0.mk BD; have HA' := Aside0.mk BA; have hsz' := Nat.le_trans (Nat.le_of_eq hsz.symm) hb.size; clear hw0 BD BA hb)
      refine wpIn_label ?_
      clear hd0 hd1 hd2 hd3 ha0 e0 e1 e2 e3 ea hx
      have hb3 := (Below.refl w'.heap.size w').alloc (Nat.le_refl _) (.cells #[.string (rdOf ByteArray.empty l0_0 a1)] 9)
      have bS := Boxed.new w' 9 (.string (rdOf ByteArray.empty l0_0 a1))
      have hz3 : (w'.alloc (.cells #[.string (rdOf ByteArray.empty l0_0 a1)] 9)).heap.size = w'.heap.size + 1 := by simp
      obtain ⟨S, hS⟩ : ∃ S, w'.heap.size = S := ⟨_, rfl⟩
      obtain ⟨W3, hW3⟩ : ∃ W3, w'.alloc (.cells #[.string (rdOf ByteArray.empty l0_0 a1)] 9) = W3 := ⟨_, rfl⟩
      rw [hW3, hS] at hb3
      rw [hW3, hS] at hz3
      rw [hW3, hS] at bS
      rw [hW3, hS]
      rw [hS] at hsz'
      have HBX3 := Aside0.mk (HBX.out.trans (hb3.mono (by omega)))
      have HD3 := Aside0.mk ((hb3.block w.heap.size (by omega)).trans HD'.out)
      have HA3 := Aside0.mk ((hb3.block (w.heap.size + 1) (by omega)).trans HA'.out)
      clear hb3 HBX HD' HA' hW3 hS
      have e0 : W3.cell? ⟨w.heap.size, 0, none⟩ = some (.slice (some ad) l0_0.length c0_0) := (blk_cell HD3.out 0).trans rfl
      have e1 : W3.cell? ⟨w.heap.size, 1, none⟩ = some (.slice A0_1 l0_1.length c0_1) := (blk_cell HD3.out 1).trans rfl
      have e2 : W3.cell? ⟨w.heap.size, 2, none⟩ = some (.int .i64 a0_2) := (blk_cell HD3.out 2).trans rfl
      have e3 : W3.cell? ⟨w.heap.size, 3, none⟩ = some (.bool false) := (blk_cell HD3.out 3).trans rfl
      gi_wp2_with (gi_at_call 33; refine (latest_in Fence.wide trivial rfl (50 - 1) _ _ _ _ _).mono ?_; rintro e w'' ⟨rfl, rfl⟩)
      have hb4 := (Below.refl W3.heap.size W3).alloc (Nat.le_refl _) (.cells #[.slice (some ad) l0_0.length c0_0, .slice A0_1 l0_1.length c0_1, .int .i64 a0_2, .bool false] 25)
      have BD := World.alloc_heap_new W3 (.cells #[.slice (some ad) l0_0.length c0_0, .slice A0_1 l0_1.length c0_1, .int .i64 a0_2, .bool false] 25)
      have hz4 : (W3.alloc (.cells #[.slice (some ad) l0_0.length c0_0, .slice A0_1 l0_1.length c0_1, .int .i64 a0_2, .bool false] 25)).heap.size = S + 2 := by simp [hz3]
      obtain ⟨V, hV⟩ : ∃ V, W3.alloc (.cells #[.slice (some ad) l0_0.length c0_0, .slice A0_1 l0_1.length c0_1, .int .i64 a0_2, .bool false] 25) = V := ⟨_, rfl⟩
      rw [hV] at hb4 BD hz4 ⊢
      clear hV
      rw [hz3] at BD
      have hd1 : V.cell? ⟨S + 1, 1, none⟩ = some (.slice A0_1 l0_1.length c0_1) := (blk_cell BD 1).trans rfl
      have HBV := HBX3.out.trans (hb4.mono (by omega))
      have hbA : Boxed V (w.heap.size + 1) 3 (.int .i64 a1) := boxed_below HA3.out hb4
      have hbS : Boxed V S 9 (.string (rdOf ByteArray.empty l0_0 a1)) := boxed_below bS hb4
      clear hb4
      refine range_seq (P := Try.prog) (gf := 46) (lb := #[.pointer (some ⟨S + 1, 0, none⟩)]) rfl (enters_of Try.func46 (by kernel_rfl) rfl) (encs := encW) (n₀ := w.heap.size) (xs := l0_1.reverse) (by omega)
        (latest_own (S + 1) w V A0_1 c0_1 l0_1 HR1.out HBV hd1) (fun _ => rfl)
        (fun pre X => ((Aside0 (∀ y ∈ pre, ¬ y.f0 = a1) ∧ Boxed X S 9 (.string (rdOf ByteArray.empty l0_0 a1))) ∧ Boxed X (w.heap.size + 1) 3 (.int .i64 a1)) ∧ Below w.heap.size w X)
        (fun c pre X => c = .exit 1 ∧ ∃ pre' x, pre = pre' ++ [x] ∧ (∀ y ∈ pre', ¬ y.f0 = a1) ∧ x.f0 = a1 ∧ Boxed X S 9 (.string x.f1) ∧ Below w.heap.size w X)
        (OwnFrom.and (OwnFrom.and (OwnFrom.and (ownFrom_pure _ (fun pre : List S40 => Aside0 (∀ y ∈ pre, ¬ y.f0 = a1))) (Own.from (boxed_own _ _ _) _)) (Own.from (boxed_own _ _ _) _)) (ownFrom_below (Nat.le_refl _) (by omega)))
        (fun c s X Y row hs hg hr => by
          obtain ⟨h1, pre', x, h2, h3, h4, h5, h6⟩ := hs
          exact ⟨h1, pre', x, h2, h3, h4, Own.from (boxed_own S 9 (fun _ : Unit => Value.string x.f1)) V.heap.size () X Y row h5 hg hr, ownFrom_below (β := Unit) (B := V.heap.size) (Nat.le_refl _) (by omega) () X Y row h6 hg hr⟩)
        ⟨⟨⟨⟨fun y hy => by cases hy⟩, hbS⟩, hbA⟩, HBV⟩
        (fun x a' X => ∃ Bx, S < Bx ∧ X.heap[Bx]? = some (.cells #[.int .i64 x.f0, .string x.f1] 40 (0, 0)) ∧ a' = { tmps := #[.agg #[.slice (some ad) l0_0.length c0_0, .slice A0_1 l0_1.length c0_1, .int .i64 a0_2, .bool false], .int .i64 a1, .pointer (some ⟨w.heap.size, 0, none⟩), .pointer (some ⟨w.heap.size + 1, 0, none⟩), .string ⟨#[]⟩, .int .i64 0, .pointer (some ⟨S, 0, none⟩), .pointer (some ⟨Bx, 0, none⟩), .bool false, .pointer (some ⟨w.heap.size, 3, none⟩), .bool false, .bool false, .agg #[.slice (some ad) l0_0.length c0_0, .slice A0_1 l0_1.length c0_1, .int .i64 a0_2, .bool false], .int .i64 a1, .bool true, .bool false, .pointer (some ⟨w.heap.size, 0, none⟩), .slice (some ad) l0_0.length c0_0, .int .i64 a1, .pointer (some (ad.add a1.toNat)), .string (rdOf ByteArray.empty l0_0 a1), .agg #[.slice (some ad) l0_0.length c0_0, .slice A0_1 l0_1.length c0_1, .int .i64 a0_2, .bool false], .func (.func 46) #[] #[.pointer (some ⟨S + 1, 0, none⟩)], .agg #[.int .i64 x.f0, .string x.f1], undef, undef, undef, undef, undef, undef, undef], defers := [] })
        (fun x a' _ X Y row hs hg hr => by
          obtain ⟨Bx, h1, h2, h3⟩ := hs
          refine ⟨Bx, h1, (hg.block Bx (Array.getElem?_eq_some_iff.1 h2).1 (fun e => ?_)).trans h2, h3⟩
          obtain ⟨_, o, ho, hc⟩ := hr Bx e.symm
          rw [h2] at ho; cases ho; cases hc)
        ?assign ?body ?done ?stop
      case assign =>
        rintro l pre x X K hi hVX hK
        have hu40 := Try.underlying40
        simp only [encW]
        gi_wp2
        have hb := (Below.refl X.heap.size X).alloc (Nat.le_refl _) (.cells #[.int .i64 x.f0, .string x.f1] 40)
        have hw := hi.2.size
        exact hK _ _ (above_below hb) (hb.mono hw) ⟨⟨⟨hi.1.1.1, boxed_below hi.1.1.2 hb⟩, boxed_below hi.1.2 hb⟩, hi.2.trans (hb.mono hw)⟩ ⟨X.heap.size, by omega, World.alloc_heap_new X _, rfl⟩
      case body =>
        rintro l pre x a' X ⟨⟨⟨hpre, hbS⟩, hbA⟩, hB⟩ hVX ⟨Bx, hBx, hcx, rfl⟩
        have hu40 := Try.underlying40
        have cA := hbA.cell
        have fS := hbS.frozen
        have cS := hbS.cell
        have hx0 : X.cell? ⟨Bx, 0, none⟩ = some (.int .i64 x.f0) := (blk_cell hcx 0).trans rfl
        have hx1 : X.cell? ⟨Bx, 1, none⟩ = some (.string x.f1) := (blk_cell hcx 1).trans rfl
        by_cases heq : x.f0 = a1
        · have hde : decide (x.f0 = a1) = true := decide_eq_true heq
          gi_wp2
          have hab : Above V.heap.size X (X.setCell ⟨S, 0, none⟩ (.string x.f1)) := ⟨(KeepsWalks.setCell X _ _).size, fun k hk _ => Below.heap_setCell _ _ _ k (by show k ≠ S; omega)⟩
          have hbl : Below w.heap.size X (X.setCell ⟨S, 0, none⟩ (.string x.f1)) := (Below.refl _ X).setCell (p := ⟨S, 0, none⟩) (by show w.heap.size ≤ S; omega) _
          exact ⟨hab, hbl, rfl, pre, x, rfl, hpre.out, heq, hbS.set _, hB.trans hbl⟩
        · have hde : decide (x.f0 = a1) = false := decide_eq_false heq
          gi_wp2
          exact ⟨⟨Nat.le_refl _, fun _ _ _ => rfl⟩, Below.refl _ _, ⟨⟨⟨fun y hy => by rcases List.mem_append.1 hy with hy | hy; exact hpre.out y hy; obtain rfl := List.mem_singleton.1 hy; exact heq⟩, hbS⟩, hbA⟩, hB⟩
      case done =>
        rintro D X hD ⟨⟨⟨hpre, hbS⟩, hbA⟩, hB⟩ hdf
        have cS := hbS.cell
        gi_wp2
        have hlat : latestOf l0_0 l0_1 a1 = rdOf ByteArray.empty l0_0 a1 := by
          unfold latestOf
          rw [List.find?_eq_none.2 (fun y hy => by have := hpre.out y hy; simpa using this)]
          rfl
        refine ⟨by simp, .inl ⟨_, _, rfl, run_takeDeferred hdf, ?_⟩⟩
        exact ⟨_, results_tmp2 rfl _ _ _, by rw [hlat]; rfl, hB.trans (below_put _ (by omega))⟩
      case stop =>
        rintro D c pre X hD hpre ⟨rfl, pre', x, rfl, hno, hx, hbS, hB⟩ hdf
        have cS := hbS.cell
        gi_wp2
        have hlat : latestOf l0_0 l0_1 a1 = x.f1 := by
          unfold latestOf
          obtain ⟨suf, hsuf⟩ := hpre
          rw [← hsuf, List.append_assoc, List.find?_append, List.find?_eq_none.2 (fun y hy => by have := hno y hy; simpa using this)]
          simp [hx]
        refine ⟨by simp, .inl ⟨_, _, rfl, run_takeDeferred hdf, ?_⟩⟩
        exact ⟨_, results_tmp2 rfl _ _ _, by rw [hlat]; rfl, hB.trans (below_put _ (by omega))⟩
    · rw [if_neg hin] at h
      simp only [Option.some.injEq, Prod.mk.injEq] at h
      obtain ⟨rfl, rfl⟩ := h
      have hdc : decide (0 ≤ a1 ∧ a1 < l0_0.length) = false := decide_eq_false hin
      rw [hdc] at HP
      clear hdc
      gi_wp2_with (gi_at_call 31; refine (callsIn_wide.2 (dev_place.calls _ _ l0_0 _ _ l0_1 a0_2 false a1 false _ (Kd.C_below HR0.out HB2.out) hc0_0 (Kd.C_below HR1.out HB2.out) hc0_1 HP.out)).mono ?_; rintro e w' ⟨rfl, hb⟩)
      exact ⟨_, results_tmp2 rfl _ _ _, rfl, HB2.out.trans (hb.mono HB2.out.size)⟩
end Go.Proofs.Ytaocplhijfkicaa.PD
-- written by a program of this work (mk.sh, over the kit's print; stubs are proved by hand)
namespace Go.Proofs.Ytaocplhijfkicaa.PD
open Go.RowKit Go.Proofs.YtaocplhijfkicaaW.PrintWords Go.Proofs.YtaocplhijfkicaaW.PrintLast Go.Proofs.YtaocplhijfkicaaW.PrintMore
attribute [local go_sem] isSome_setCell max2_int min2_int max_two min_two   -- for this text's walks alone
set_option linter.unusedVariables false
set_option linter.unusedSimpArgs false

/-! ### dev_New: function 17 -/
def dev_New.j0 : Nat → Int → Bool → Option (List ByteArray × (List (S40)) × Int × Bool)
 | 0, _, _ => none
 | k + 1, x0, x8 => if x8 = true then (some (([] : List ByteArray), ([] : List (S40)), 0, false)) else ((strings_Repeat.f (⟨#[0]⟩ : ByteArray) 128).bind fun t204 => ((slices_Repeat_string_string.f (([t204] : List ByteArray)) x0).bind fun t208 => (some (t208, ([] : List (S40)), (-1), false))))
def dev_New.f (k : Nat) (a0 : Int) : Option (List ByteArray × (List (S40)) × Int × Bool) := if a0 < 1 then (dev_New.j0 k a0 true) else (dev_New.j0 k a0 (decide (a0 > 1024)))
theorem dev_New.mono_l : ∀ k, (∀ y0 y1, LeO (dev_New.j0 k y0 y1) (dev_New.j0 (k + 1) y0 y1))
 | 0 => fun _ _ r h => by simp [dev_New.j0] at h
 | k + 1 => by
  have ih0 := dev_New.mono_l k
  ·intro y0 y1
   unfold dev_New.j0
   repeat' first
   | (with_reducible exact ih0 _ _)
   | (with_reducible exact LeO.refl _)
   | (with_reducible exact LeO.none _)
   | (with_reducible refine LeO.ite ?_ ?_)
   | (with_reducible refine LeO.bind ?_ (fun _ => ?_))
   | exact ih0 _ _
   | exact LeO.none _
   | refine LeO.ite ?_ ?_
   | refine LeO.bind ?_ (fun _ => ?_)
theorem dev_New.mono : ∀ a0 k, LeO (dev_New.f k a0) (dev_New.f (k + 1) a0) := by
 intro a0 k
 have ih0 := dev_New.mono_l k
 unfold dev_New.f
 repeat' first
   | (with_reducible exact ih0 _ _)
   | (with_reducible exact LeO.refl _)
   | (with_reducible exact LeO.none _)
   | (with_reducible refine LeO.ite ?_ ?_)
   | (with_reducible refine LeO.bind ?_ (fun _ => ?_))
   | exact ih0 _ _
   | exact LeO.none _
   | refine LeO.ite ?_ ?_
   | refine LeO.bind ?_ (fun _ => ?_)
set_option maxHeartbeats 8000000 in
set_option maxRecDepth 100000 in
theorem dev_New.calls (k : Nat) (a0 : Int) (r1 : List ByteArray) (r2 : List (S40)) (r3 : Int) (r4 : Bool) (w : World) (h : dev_New.f k a0 = some (r1, r2, r3, r4)) :
  Calls Try.prog 17 #[.int .i64 a0] w fun e w' => ∃ v0_ v1_ : Value, e = .returned (.agg #[v0_, v1_, .int .i64 r3, .bool r4]) ∧ Kd.R Kd.string 9 w' w.heap.size (fun _ => True) v0_ r1 ∧ Kd.R k40 40 w' w.heap.size (fun _ => True) v1_ r2 ∧ Below w.heap.size w w' := by
 have hu25 := Try.underlying25
 have HB := Aside0.mk (Below.refl w.heap.size w)
 have H : (if a0 < 1 then (dev_New.j0 k a0 true) else (dev_New.j0 k a0 (decide (a0 > 1024)))) = some (r1, r2, r3, r4) := h
 clear h
 have HC2 := Aside0.mk H
 clear H
 go_enter Try.func17, Try.ntmps17
 go_upto_region 1 with (first | ((with_reducible refine gate_dst (N := 2) rfl ?_); refine box_event ?hg (N := 2) ?hd (cs := #[.slice none 0 0, .slice none 0 0, .int .i64 0, .bool false]) (t := 25) ?hr ?_; (case hd => rfl); (case hg => rfl); (case hr => first | (go_simp; done) | (go_simp; rfl)); intro gb203 hg w3 hbox hb; have n0_ := Aside0.mk (below_step (bU HB) hb); have n1_ := Aside0.mk (hbox); have n2_ := Aside0.mk ((by rw [hg]; exact (below_size (bU HB)) : w.heap.size ≤ gb203)); have n3_ := Aside0.mk ((by rw [hg]; exact (below_size (bU HB)) : w.heap.size ≤ gb203)); clear HB; have HB := n0_; have BK203 := n1_; have GW203 := n2_; have GE203 := n3_; clear n0_ n1_ n2_ n3_; clear hb hbox hg))
 (try simp only [Act.put, List.setIfInBounds_toArray, List.set_cons_zero, List.set_cons_succ])
 go_cut [8] (fun v8 wc => ∃ (kq : Nat) (x8_1 : Bool), v8 = .bool x8_1 ∧ Aside0 (dev_New.j0 kq a0 x8_1 = some (r1, r2, r3, r4)) ∧ Aside0 (kq ≤ k) ∧ Aside0 (wc.heap[gb203]? = some (.cells #[(.slice none 0 0), (.slice none 0 0), .int .i64 0, .bool false] 25 (0, 0))) ∧ Aside0 (Below w.heap.size w wc))
 case first =>
  have H := HC2.out
  clear HC2
  by_cases c4 : a0 < 1
  ·rw [if_pos c4] at H
   have c4b0 : decide (a0 < 1) = true := decide_eq_true c4
   clear c4
   (first | rw [c4b0] | (simp only [i64_w, i32_w]; rw [c4b0]) | skip)
   have H' := Aside0.mk H
   clear H
   go_wp2
   go_meet
   case rel => exact ⟨_, (true), (by first | rfl | (simp; done) | (simp [*]; done)), H', ⟨by first | omega | exact Nat.le_refl _⟩, ⟨kU BK203⟩, ⟨bU HB⟩⟩
  ·rw [if_neg c4] at H
   have c4b0 : decide (a0 < 1) = false := decide_eq_false c4
   clear c4
   (first | rw [c4b0] | (simp only [i64_w, i32_w]; rw [c4b0]) | skip)
   have H' := Aside0.mk H
   clear H
   go_wp2
   go_meet
   case rel => exact ⟨_, (decide (a0 > 1024)), (by first | rfl | (simp; done) | (simp [*]; done)), H', ⟨by first | omega | exact Nat.le_refl _⟩, ⟨kU BK203⟩, ⟨bU HB⟩⟩
 case rest =>
  clear HC2
  try clear c1
  try clear p2
  try clear c4
  try clear c4b0
  obtain ⟨kq, x8_1, rfl, HA, HJ1, BK203, HB⟩ := hcut
  cases kq with
  | zero => exact absurd HA.out (by simp [dev_New.j0])
  | succ kj1 =>
   have H := HA.out
   clear HA
   simp only [dev_New.j0] at H
   by_cases c5 : x8_1 = true
   ·subst c5
    have H1 : (some (([] : List ByteArray), ([] : List (S40)), 0, false)) = some (r1, r2, r3, r4) := by rw [if_pos rfl] at H; exact H
    clear H
    have H := H1
    clear H1
    simp only [Option.some.injEq, Prod.mk.injEq] at H
    obtain ⟨rfl, rfl, rfl, rfl⟩ := H
    obtain ⟨hcz6_0, hcz6_1, hcz6_2, hcz6_3, hfz6_0, hfz6_1, hfz6_2, hfz6_3⟩ := k4 BK203
    go_wp2
    refine bodyPost_ret (results_cell_row rfl _ _ gb203 25 #[.slice none 0 0, .slice none 0 0, .int .i64 0, .bool false] (0, 0) _ rfl (kP BK203) Try.underlying25 rfl (by kernel_rfl)) rfl ?_
    exact ⟨_, _, eqU, by first | exact Kd.R_nil _ _ _ _ _ | exact Kd.N_nil _ _ _ _ _ | exact Kd.V_nil _ _ _ _ _ | exact Kd.Q_nil _ _ _ _ _ | exact Kd.S_nil _ _ _ _ _, by first | exact Kd.R_nil _ _ _ _ _ | exact Kd.N_nil _ _ _ _ _ | exact Kd.V_nil _ _ _ _ _ | exact Kd.Q_nil _ _ _ _ _ | exact Kd.S_nil _ _ _ _ _, bU HB⟩
   ·replace c5 := Bool.eq_false_iff.mpr c5
    subst c5
    have H1 : ((strings_Repeat.f (⟨#[0]⟩ : ByteArray) 128).bind fun t204 => ((slices_Repeat_string_string.f (([t204] : List ByteArray)) a0).bind fun t208 => (some (t208, ([] : List (S40)), (-1), false)))) = some (r1, r2, r3, r4) := by rw [if_neg (show ¬ (false = true) by decide)] at H; exact H
    clear H
    have H := H1
    clear H1
    replace H := Option.bind_eq_some_iff.mp H
    obtain ⟨t204, A70, H⟩ := H
    replace H : ((slices_Repeat_string_string.f (([t204] : List ByteArray)) a0).bind fun t208 => (some (t208, ([] : List (S40)), (-1), false))) = some (r1, r2, r3, r4) := H
    have A7 := Aside0.mk A70
    clear A70
    obtain ⟨y205, hy205⟩ : ∃ y_ : List ByteArray, y_ = (([t204] : List ByteArray)) := ⟨_, rfl⟩
    replace H : ((slices_Repeat_string_string.f y205 a0).bind fun t208 => (some (t208, ([] : List (S40)), (-1), false))) = some (r1, r2, r3, r4) := by first | (rw [hy205]; with_reducible exact H) | (have H2_ := (Option.bind_some _ _).symm.trans H; rw [hy205]; with_reducible exact H2_) | (have H2_ := (Option.bind_some _ _).symm.trans H; with_reducible exact H2_) | with_reducible exact H | (rw [hy205]; exact H) | exact H
    have Ny205 := Aside0.mk hy205
    clear hy205
    replace H := Option.bind_eq_some_iff.mp H
    obtain ⟨t208, A80, H⟩ := H
    replace H : (some (t208, ([] : List (S40)), (-1), false)) = some (r1, r2, r3, r4) := H
    have A8 := Aside0.mk A80
    clear A80
    simp only [Option.some.injEq, Prod.mk.injEq] at H
    obtain ⟨rfl, rfl, rfl, rfl⟩ := H
    go_wp2_with (first | ((with_reducible refine gate_callee (f := 39) rfl ?_); refine goesL_ (some 10) rfl rfl Try.func39 (by kernel_rfl) rfl #[.string (⟨#[0]⟩ : ByteArray), .int .i64 128] rfl (by (try simp only [List.map_toArray, List.map_cons, List.map_nil]); first | done | rfl | (simp only [List.length_drop, List.length_take]; rfl)) ?_; (with_reducible refine (strings_Repeat.calls (⟨#[0]⟩ : ByteArray) 128 t204 _ A7.out).mono ?_); rintro e w9 ⟨rfl, hb⟩; refine ⟨_, rfl, ?_⟩; have n0_ := Aside0.mk (blk_below (kU BK203) hb); have n1_ := Aside0.mk (below_step (bU HB) hb); clear BK203; clear HB; have BK203 := n0_; have HB := n1_; clear n0_ n1_; (try clear hb); (try clear hb2); (try clear hk); (try clear hi)) | ((with_reducible refine gate_dst (N := 11) rfl ?_); refine Kd.R_lit Kd.string _ 9 ?hg (N := 11) ?hd (xs := ([t204] : List ByteArray)) (inner := [.string t204]) (ok := fun _ => True) (okp := fun _ => True) ?hr ?hp (fun _ hk => hk) trivial (Below.refl _ _) (Nat.le_refl _) (by simp) ?_; (case hd => rfl); (case hg => rfl); (case hr => first | (go_simp; done) | (go_simp; rfl)); (case hp => exact (Reps.one (show Kd.M Kd.string _ _ _ t204 [.string t204] from rfl) (Reps.none _ _))); intro v206 w10 ho11 hb hg_ hnew_; clear hg_ hnew_; (first | rw [← Ny205.out] at ho11 | (simp only [Int.reduceToNat] at ho11; rw [← Ny205.out] at ho11)); have n0_ := Aside0.mk (Kd.R_lower ho11 (below_size (bU HB))); have n1_ := Aside0.mk (blk_below (kU BK203) hb); have n2_ := Aside0.mk (below_step (bU HB) hb); clear BK203; clear HB; have HO207 := n0_; have BK203 := n1_; have HB := n2_; clear n0_ n1_ n2_; clear hb ho11; obtain ⟨Ao12, co12, eo12⟩ := Kd.R_slice HO207.out; subst eo12) | ((with_reducible refine gate_callee (f := 38) rfl ?_); refine goesL_ (some 13) rfl rfl Try.func38 (by kernel_rfl) rfl #[.slice Ao12 y205.length co12, .int .i64 a0] rfl (by (try simp only [List.map_toArray, List.map_cons, List.map_nil]); first | done | rfl | (simp only [List.length_drop, List.length_take]; rfl)) ?_; (with_reducible refine (slices_Repeat_string_string.calls _ _ y205 a0 t208 _ ?side1 ?side2 A8.out).mono ?_); (case side1 => exact cU (Kd.R_reads' HO207.out).2.2); (case side2 => exact (Kd.R_reads' HO207.out).2.1); rintro e w13 ⟨v209, rfl, ho0, hb⟩; refine ⟨_, rfl, ?_⟩; have n0_ := Aside0.mk (Kd.R_elder' (rU HO207) (Kd.R_base ho0) hb); have n1_ := Aside0.mk (Kd.R_lower (Kd.R_new' ho0 (Kd.R_lt (rU HO207))) (below_size (bU HB))); have n2_ := Aside0.mk (blk_below (kU BK203) hb); have n3_ := Aside0.mk (below_step (bU HB) hb); clear HO207; clear BK203; clear HB; have HO207 := n0_; have HO210 := n1_; have BK203 := n2_; have HB := n3_; clear n0_ n1_ n2_ n3_; (try clear hb); (try clear hb2); (try clear hk); (try clear hi); (try clear ho0); obtain ⟨Ao14, co14, eo14⟩ := Kd.R_slice HO210.out; subst eo14; have hcz15_0 : w13.cell? ⟨gb203, 0, none⟩ = some (.slice none 0 0) := (blk_cell BK203.out 0).trans rfl; have hcz15_1 : w13.cell? ⟨gb203, 1, none⟩ = some (.slice none 0 0) := (blk_cell BK203.out 1).trans rfl; have hcz15_2 : w13.cell? ⟨gb203, 2, none⟩ = some (.int .i64 0) := (blk_cell BK203.out 2).trans rfl; have hcz15_3 : w13.cell? ⟨gb203, 3, none⟩ = some (.bool false) := (blk_cell BK203.out 3).trans rfl; have hfz15_0 := blk_frozen BK203.out 0; have hfz15_1 := blk_frozen BK203.out 1; have hfz15_2 := blk_frozen BK203.out 2; have hfz15_3 := blk_frozen BK203.out 3))
    refine bodyPost_ret (results_cell_row rfl _ _ gb203 25 #[.slice Ao14 t208.length co14, .slice none 0 0, .int .i64 (-1), .bool false] (0, 0) _ rfl (kP BK203) Try.underlying25 rfl (by kernel_rfl)) rfl ?_
    exact ⟨_, _, eqU, by (with_reducible repeat (first | apply Kd.R_alloc | apply Kd.R_drewN | apply Kd.R_drew)); exact Kd.R_mono (Kd.R_far (p := ⟨gb203, 3, none⟩) (Kd.R_far (p := ⟨gb203, 2, none⟩) (Kd.R_far (p := ⟨gb203, 1, none⟩) (Kd.R_far (p := ⟨gb203, 0, none⟩) (Kd.R_types HO210.out BK203.out (by decide)) (fun _ hk => hk.2) (.slice Ao14 t208.length co14)) (fun _ hk => hk.2) (.slice none 0 0)) (fun _ hk => hk.2) (.int .i64 (-1))) (fun _ hk => hk.2) (.bool false)) (fun _ hk => trivial), by first | exact Kd.R_nil _ _ _ _ _ | exact Kd.N_nil _ _ _ _ _ | exact Kd.V_nil _ _ _ _ _ | exact Kd.Q_nil _ _ _ _ _ | exact Kd.S_nil _ _ _ _ _, bU HB⟩

end Go.Proofs.Ytaocplhijfkicaa.PD
-- written by a program of this work (mk.sh, over the kit's print; stubs are proved by hand)
namespace Go.Proofs.Ytaocplhijfkicaa.PD
open Go.RowKit Go.Proofs.YtaocplhijfkicaaW.PrintWords Go.Proofs.YtaocplhijfkicaaW.PrintLast Go.Proofs.YtaocplhijfkicaaW.PrintMore
attribute [local go_sem] isSome_setCell max2_int min2_int max_two min_two   -- for this text's walks alone
set_option linter.unusedVariables false
set_option linter.unusedSimpArgs false

/-! ### almanaclaw02_awake: function 8 -/
def almanaclaw02_awake.f (k : Nat)  : Option (Bool) := (dev_New.f k 2).bind fun bt214 => ((almanaclaw02_filled.f (⟨#[97, 97, 97]⟩ : ByteArray)).bind fun t223 => ((dev_Write.f k bt214.1 bt214.2.1 bt214.2.2.1 bt214.2.2.2 0 t223).bind fun bt224 => ((dev_Read.f bt224.1 bt224.2.1 bt224.2.2.1 bt224.2.2.2.1 0).bind fun bt234 => ((dev_Crash.f bt224.1 bt224.2.1 bt224.2.2.1 bt224.2.2.2.1 ([] : List Bool)).bind fun bt236 => ((dev_Read.f bt236.1 bt236.2.1 bt236.2.2.1 bt236.2.2.2 0).bind fun bt245 => ((dev_Arm.f bt214.1 bt214.2.1 bt214.2.2.1 bt214.2.2.2 0).bind fun bt247 => ((dev_Write.f k bt247.1 bt247.2.1 bt247.2.2.1 bt247.2.2.2 0 t223).bind fun bt255 => ((dev_Read.f bt255.1 bt255.2.1 bt255.2.2.1 bt255.2.2.2.1 0).bind fun bt265 => (if bt224.2.2.2.2 = 0 then (if bt234.1.toList = t223.toList then (if bt234.2 = 0 then ((almanaclaw02_filled.f (⟨#[]⟩ : ByteArray)).bind fun t267 => (if bt245.1.toList = t267.toList then (if bt245.2 = 0 then (if bt255.2.2.2.2 = 16 then (some (bt265.2 == 17)) else (some false)) else (some false)) else (some false))) else (some false)) else (some false)) else (some false))))))))))
theorem almanaclaw02_awake.mono : ∀ k, LeO (almanaclaw02_awake.f k ) (almanaclaw02_awake.f (k + 1) ) := by
 intro  k
 unfold almanaclaw02_awake.f
 repeat' first
   | (with_reducible exact dev_New.mono _ _)
   | (with_reducible exact dev_Write.mono _ _ _ _ _ _ _)
   | (with_reducible exact LeO.refl _)
   | (with_reducible exact LeO.none _)
   | (with_reducible refine LeO.ite ?_ ?_)
   | (with_reducible refine LeO.bind ?_ (fun _ => ?_))
   | exact dev_New.mono _ _
   | exact dev_Write.mono _ _ _ _ _ _ _
   | exact LeO.none _
   | refine LeO.ite ?_ ?_
   | refine LeO.bind ?_ (fun _ => ?_)
set_option maxHeartbeats 8000000 in
set_option maxRecDepth 100000 in
theorem almanaclaw02_awake.callsT (k : Nat)  (r : Bool) (w : World) (h : almanaclaw02_awake.f k  = some r) (hr : r = true) :
  Calls Try.prog 8 #[] w fun e w' => e = .returned (.bool r) ∧ Below w.heap.size w w' := by
 have HRT := Aside0.mk hr
 clear hr
 have hu25 := Try.underlying25
 have HB := Aside0.mk (Below.refl w.heap.size w)
 have H : ((dev_New.f k 2).bind fun bt214 => ((almanaclaw02_filled.f (⟨#[97, 97, 97]⟩ : ByteArray)).bind fun t223 => ((dev_Write.f k bt214.1 bt214.2.1 bt214.2.2.1 bt214.2.2.2 0 t223).bind fun bt224 => ((dev_Read.f bt224.1 bt224.2.1 bt224.2.2.1 bt224.2.2.2.1 0).bind fun bt234 => ((dev_Crash.f bt224.1 bt224.2.1 bt224.2.2.1 bt224.2.2.2.1 ([] : List Bool)).bind fun bt236 => ((dev_Read.f bt236.1 bt236.2.1 bt236.2.2.1 bt236.2.2.2 0).bind fun bt245 => ((dev_Arm.f bt214.1 bt214.2.1 bt214.2.2.1 bt214.2.2.2 0).bind fun bt247 => ((dev_Write.f k bt247.1 bt247.2.1 bt247.2.2.1 bt247.2.2.2 0 t223).bind fun bt255 => ((dev_Read.f bt255.1 bt255.2.1 bt255.2.2.1 bt255.2.2.2.1 0).bind fun bt265 => (if bt224.2.2.2.2 = 0 then (if bt234.1.toList = t223.toList then (if bt234.2 = 0 then ((almanaclaw02_filled.f (⟨#[]⟩ : ByteArray)).bind fun t267 => (if bt245.1.toList = t267.toList then (if bt245.2 = 0 then (if bt255.2.2.2.2 = 16 then (some (bt265.2 == 17)) else (some false)) else (some false)) else (some false))) else (some false)) else (some false)) else (some false))))))))))) = some r := h
 clear h
 replace H := Option.bind_eq_some_iff.mp H
 obtain ⟨⟨t214, t217, t220, t221⟩, A10, H⟩ := H
 replace H : ((almanaclaw02_filled.f (⟨#[97, 97, 97]⟩ : ByteArray)).bind fun t223 => ((dev_Write.f k t214 t217 t220 t221 0 t223).bind fun bt224 => ((dev_Read.f bt224.1 bt224.2.1 bt224.2.2.1 bt224.2.2.2.1 0).bind fun bt234 => ((dev_Crash.f bt224.1 bt224.2.1 bt224.2.2.1 bt224.2.2.2.1 ([] : List Bool)).bind fun bt236 => ((dev_Read.f bt236.1 bt236.2.1 bt236.2.2.1 bt236.2.2.2 0).bind fun bt245 => ((dev_Arm.f t214 t217 t220 t221 0).bind fun bt247 => ((dev_Write.f k bt247.1 bt247.2.1 bt247.2.2.1 bt247.2.2.2 0 t223).bind fun bt255 => ((dev_Read.f bt255.1 bt255.2.1 bt255.2.2.1 bt255.2.2.2.1 0).bind fun bt265 => (if bt224.2.2.2.2 = 0 then (if bt234.1.toList = t223.toList then (if bt234.2 = 0 then ((almanaclaw02_filled.f (⟨#[]⟩ : ByteArray)).bind fun t267 => (if bt245.1.toList = t267.toList then (if bt245.2 = 0 then (if bt255.2.2.2.2 = 16 then (some (bt265.2 == 17)) else (some false)) else (some false)) else (some false))) else (some false)) else (some false)) else (some false)))))))))) = some r := H
 have A1 := Aside0.mk A10
 clear A10
 replace H := Option.bind_eq_some_iff.mp H
 obtain ⟨t223, A20, H⟩ := H
 replace H : ((dev_Write.f k t214 t217 t220 t221 0 t223).bind fun bt224 => ((dev_Read.f bt224.1 bt224.2.1 bt224.2.2.1 bt224.2.2.2.1 0).bind fun bt234 => ((dev_Crash.f bt224.1 bt224.2.1 bt224.2.2.1 bt224.2.2.2.1 ([] : List Bool)).bind fun bt236 => ((dev_Read.f bt236.1 bt236.2.1 bt236.2.2.1 bt236.2.2.2 0).bind fun bt245 => ((dev_Arm.f t214 t217 t220 t221 0).bind fun bt247 => ((dev_Write.f k bt247.1 bt247.2.1 bt247.2.2.1 bt247.2.2.2 0 t223).bind fun bt255 => ((dev_Read.f bt255.1 bt255.2.1 bt255.2.2.1 bt255.2.2.2.1 0).bind fun bt265 => (if bt224.2.2.2.2 = 0 then (if bt234.1.toList = t223.toList then (if bt234.2 = 0 then ((almanaclaw02_filled.f (⟨#[]⟩ : ByteArray)).bind fun t267 => (if bt245.1.toList = t267.toList then (if bt245.2 = 0 then (if bt255.2.2.2.2 = 16 then (some (bt265.2 == 17)) else (some false)) else (some false)) else (some false))) else (some false)) else (some false)) else (some false))))))))) = some r := H
 have A2 := Aside0.mk A20
 clear A20
 replace H := Option.bind_eq_some_iff.mp H
 obtain ⟨⟨t224, t227, t230, t231, t232⟩, A30, H⟩ := H
 replace H : ((dev_Read.f t224 t227 t230 t231 0).bind fun bt234 => ((dev_Crash.f t224 t227 t230 t231 ([] : List Bool)).bind fun bt236 => ((dev_Read.f bt236.1 bt236.2.1 bt236.2.2.1 bt236.2.2.2 0).bind fun bt245 => ((dev_Arm.f t214 t217 t220 t221 0).bind fun bt247 => ((dev_Write.f k bt247.1 bt247.2.1 bt247.2.2.1 bt247.2.2.2 0 t223).bind fun bt255 => ((dev_Read.f bt255.1 bt255.2.1 bt255.2.2.1 bt255.2.2.2.1 0).bind fun bt265 => (if t232 = 0 then (if bt234.1.toList = t223.toList then (if bt234.2 = 0 then ((almanaclaw02_filled.f (⟨#[]⟩ : ByteArray)).bind fun t267 => (if bt245.1.toList = t267.toList then (if bt245.2 = 0 then (if bt255.2.2.2.2 = 16 then (some (bt265.2 == 17)) else (some false)) else (some false)) else (some false))) else (some false)) else (some false)) else (some false)))))))) = some r := H
 have A3 := Aside0.mk A30
 clear A30
 replace H := Option.bind_eq_some_iff.mp H
 obtain ⟨⟨t234, t235⟩, A40, H⟩ := H
 replace H : ((dev_Crash.f t224 t227 t230 t231 ([] : List Bool)).bind fun bt236 => ((dev_Read.f bt236.1 bt236.2.1 bt236.2.2.1 bt236.2.2.2 0).bind fun bt245 => ((dev_Arm.f t214 t217 t220 t221 0).bind fun bt247 => ((dev_Write.f k bt247.1 bt247.2.1 bt247.2.2.1 bt247.2.2.2 0 t223).bind fun bt255 => ((dev_Read.f bt255.1 bt255.2.1 bt255.2.2.1 bt255.2.2.2.1 0).bind fun bt265 => (if t232 = 0 then (if t234.toList = t223.toList then (if t235 = 0 then ((almanaclaw02_filled.f (⟨#[]⟩ : ByteArray)).bind fun t267 => (if bt245.1.toList = t267.toList then (if bt245.2 = 0 then (if bt255.2.2.2.2 = 16 then (some (bt265.2 == 17)) else (some false)) else (some false)) else (some false))) else (some false)) else (some false)) else (some false))))))) = some r := H
 have A4 := Aside0.mk A40
 clear A40
 replace H := Option.bind_eq_some_iff.mp H
 obtain ⟨⟨t236, t239, t242, t243⟩, A50, H⟩ := H
 replace H : ((dev_Read.f t236 t239 t242 t243 0).bind fun bt245 => ((dev_Arm.f t214 t217 t220 t221 0).bind fun bt247 => ((dev_Write.f k bt247.1 bt247.2.1 bt247.2.2.1 bt247.2.2.2 0 t223).bind fun bt255 => ((dev_Read.f bt255.1 bt255.2.1 bt255.2.2.1 bt255.2.2.2.1 0).bind fun bt265 => (if t232 = 0 then (if t234.toList = t223.toList then (if t235 = 0 then ((almanaclaw02_filled.f (⟨#[]⟩ : ByteArray)).bind fun t267 => (if bt245.1.toList = t267.toList then (if bt245.2 = 0 then (if bt255.2.2.2.2 = 16 then (some (bt265.2 == 17)) else (some false)) else (some false)) else (some false))) else (some false)) else (some false)) else (some false)))))) = some r := H
 have A5 := Aside0.mk A50
 clear A50
 replace H := Option.bind_eq_some_iff.mp H
 obtain ⟨⟨t245, t246⟩, A60, H⟩ := H
 replace H : ((dev_Arm.f t214 t217 t220 t221 0).bind fun bt247 => ((dev_Write.f k bt247.1 bt247.2.1 bt247.2.2.1 bt247.2.2.2 0 t223).bind fun bt255 => ((dev_Read.f bt255.1 bt255.2.1 bt255.2.2.1 bt255.2.2.2.1 0).bind fun bt265 => (if t232 = 0 then (if t234.toList = t223.toList then (if t235 = 0 then ((almanaclaw02_filled.f (⟨#[]⟩ : ByteArray)).bind fun t267 => (if t245.toList = t267.toList then (if t246 = 0 then (if bt255.2.2.2.2 = 16 then (some (bt265.2 == 17)) else (some false)) else (some false)) else (some false))) else (some false)) else (some false)) else (some false))))) = some r := H
 have A6 := Aside0.mk A60
 clear A60
 replace H := Option.bind_eq_some_iff.mp H
 obtain ⟨⟨t247, t250, t253, t254⟩, A70, H⟩ := H
 replace H : ((dev_Write.f k t247 t250 t253 t254 0 t223).bind fun bt255 => ((dev_Read.f bt255.1 bt255.2.1 bt255.2.2.1 bt255.2.2.2.1 0).bind fun bt265 => (if t232 = 0 then (if t234.toList = t223.toList then (if t235 = 0 then ((almanaclaw02_filled.f (⟨#[]⟩ : ByteArray)).bind fun t267 => (if t245.toList = t267.toList then (if t246 = 0 then (if bt255.2.2.2.2 = 16 then (some (bt265.2 == 17)) else (some false)) else (some false)) else (some false))) else (some false)) else (some false)) else (some false)))) = some r := H
 have A7 := Aside0.mk A70
 clear A70
 replace H := Option.bind_eq_some_iff.mp H
 obtain ⟨⟨t255, t258, t261, t262, t263⟩, A80, H⟩ := H
 replace H : ((dev_Read.f t255 t258 t261 t262 0).bind fun bt265 => (if t232 = 0 then (if t234.toList = t223.toList then (if t235 = 0 then ((almanaclaw02_filled.f (⟨#[]⟩ : ByteArray)).bind fun t267 => (if t245.toList = t267.toList then (if t246 = 0 then (if t263 = 16 then (some (bt265.2 == 17)) else (some false)) else (some false)) else (some false))) else (some false)) else (some false)) else (some false))) = some r := H
 have A8 := Aside0.mk A80
 clear A80
 replace H := Option.bind_eq_some_iff.mp H
 obtain ⟨⟨t265, t266⟩, A90, H⟩ := H
 replace H : (if t232 = 0 then (if t234.toList = t223.toList then (if t235 = 0 then ((almanaclaw02_filled.f (⟨#[]⟩ : ByteArray)).bind fun t267 => (if t245.toList = t267.toList then (if t246 = 0 then (if t263 = 16 then (some (t266 == 17)) else (some false)) else (some false)) else (some false))) else (some false)) else (some false)) else (some false)) = some r := H
 have A9 := Aside0.mk A90
 clear A90
 by_cases c10 : t232 = 0
 ·rw [if_pos c10] at H
  have c10b0 : (t232 == 0) = true := beq_iff_eq.mpr c10
  have c10b1 : (t232 != 0) = false := bne_eq_false_iff_eq.mpr c10
  clear c10
  by_cases c11 : t234.toList = t223.toList
  ·rw [if_pos c11] at H
   have c11b0 : (t234.toList == t223.toList) = true := beq_iff_eq.mpr c11
   have c11b1 : (t234.toList != t223.toList) = false := bne_eq_false_iff_eq.mpr c11
   clear c11
   by_cases c12 : t235 = 0
   ·rw [if_pos c12] at H
    have c12b0 : (t235 == 0) = true := beq_iff_eq.mpr c12
    have c12b1 : (t235 != 0) = false := bne_eq_false_iff_eq.mpr c12
    clear c12
    replace H := Option.bind_eq_some_iff.mp H
    obtain ⟨t267, A130, H⟩ := H
    replace H : (if t245.toList = t267.toList then (if t246 = 0 then (if t263 = 16 then (some (t266 == 17)) else (some false)) else (some false)) else (some false)) = some r := H
    have A13 := Aside0.mk A130
    clear A130
    by_cases c14 : t245.toList = t267.toList
    ·rw [if_pos c14] at H
     have c14b0 : (t245.toList == t267.toList) = true := beq_iff_eq.mpr c14
     have c14b1 : (t245.toList != t267.toList) = false := bne_eq_false_iff_eq.mpr c14
     clear c14
     by_cases c15 : t246 = 0
     ·rw [if_pos c15] at H
      have c15b0 : (t246 == 0) = true := beq_iff_eq.mpr c15
      have c15b1 : (t246 != 0) = false := bne_eq_false_iff_eq.mpr c15
      clear c15
      by_cases c16 : t263 = 16
      ·rw [if_pos c16] at H
       have c16b0 : (t263 == 16) = true := beq_iff_eq.mpr c16
       have c16b1 : (t263 != 16) = false := bne_eq_false_iff_eq.mpr c16
       clear c16
       obtain rfl := Option.some.inj H
       go_enter Try.func8, Try.ntmps8
       go_wp2_with (first | ((with_reducible refine gate_callee (f := 17) rfl ?_); refine goesL_ (some 14) rfl rfl Try.func17 (by kernel_rfl) rfl #[.int .i64 2] rfl (by (try simp only [List.map_toArray, List.map_cons, List.map_nil]); first | done | rfl | (simp only [List.length_drop, List.length_take]; rfl)) ?_; (with_reducible refine (dev_New.calls k 2 t214 t217 t220 t221 _ A1.out).mono ?_); rintro e w17 ⟨v215, v218, rfl, ho0, ho1, hb⟩; refine ⟨_, rfl, ?_⟩; have n0_ := Aside0.mk (Kd.R_lower ho0 (below_size (bU HB))); have n1_ := Aside0.mk (Kd.R_lower ho1 (below_size (bU HB))); have n2_ := Aside0.mk (below_step (bU HB) hb); clear HB; have HO216 := n0_; have HO219 := n1_; have HB := n2_; clear n0_ n1_ n2_; (try clear hb); (try clear hb2); (try clear hk); (try clear hi); (try clear ho0); (try clear ho1)) | ((with_reducible refine gate_dst (N := 1) rfl ?_); refine box_event ?hg (N := 1) ?hd (cs := #[.slice none 0 0, .slice none 0 0, .int .i64 0, .bool false]) (t := 25) ?hr ?_; (case hd => rfl); (case hg => rfl); (case hr => first | (go_simp; done) | (go_simp; rfl)); intro gb222 hg w18 hbox hb; have n0_ := Aside0.mk (Kd.R_below (rU HO216) hb); have n1_ := Aside0.mk (Kd.R_below (rU HO219) hb); have n2_ := Aside0.mk (below_step (bU HB) hb); have n3_ := Aside0.mk (hbox); have n4_ := Aside0.mk ((by rw [hg]; exact (below_size (bU HB)) : w.heap.size ≤ gb222)); have n5_ := Aside0.mk ((by rw [hg]; exact (below_size (bU HB)) : w.heap.size ≤ gb222)); clear HO216; clear HO219; clear HB; have HO216 := n0_; have HO219 := n1_; have HB := n2_; have BK222 := n3_; have GW222 := n4_; have GE222 := n5_; clear n0_ n1_ n2_ n3_ n4_ n5_; clear hb hbox hg; obtain ⟨Ao19, co19, eo19⟩ := Kd.R_slice HO216.out; subst eo19; have hcz20_0 : w18.cell? ⟨gb222, 0, none⟩ = some (.slice none 0 0) := (blk_cell BK222.out 0).trans rfl; have hcz20_1 : w18.cell? ⟨gb222, 1, none⟩ = some (.slice none 0 0) := (blk_cell BK222.out 1).trans rfl; have hcz20_2 : w18.cell? ⟨gb222, 2, none⟩ = some (.int .i64 0) := (blk_cell BK222.out 2).trans rfl; have hcz20_3 : w18.cell? ⟨gb222, 3, none⟩ = some (.bool false) := (blk_cell BK222.out 3).trans rfl; have hfz20_0 := blk_frozen BK222.out 0; have hfz20_1 := blk_frozen BK222.out 1; have hfz20_2 := blk_frozen BK222.out 2; have hfz20_3 := blk_frozen BK222.out 3; obtain ⟨Ao21, co21, eo21⟩ := Kd.R_slice HO219.out; subst eo21) | ((with_reducible refine gate_callee (f := 20) rfl ?_); refine goesL_ (some 15) rfl rfl Try.func20 (by kernel_rfl) rfl #[.string (⟨#[97, 97, 97]⟩ : ByteArray)] rfl (by (try simp only [List.map_toArray, List.map_cons, List.map_nil]); first | done | rfl | (simp only [List.length_drop, List.length_take]; rfl)) ?_; (with_reducible refine (almanaclaw02_filled.calls (⟨#[97, 97, 97]⟩ : ByteArray) t223 _ A2.out).mono ?_); rintro e w22 ⟨rfl, hb⟩; refine ⟨_, rfl, ?_⟩; have n0_ := Aside0.mk (Kd.R_below (rF1 HO216 BK222) hb); have n1_ := Aside0.mk (Kd.R_below (rF1 HO219 BK222) hb); have n2_ := Aside0.mk (blk_below (g := gb222) (o := .cells #[.slice Ao19 t214.length co19, .slice Ao21 t217.length co21, .int .i64 t220, .bool t221] 25 (0, 0)) (kP BK222) hb); have n3_ := Aside0.mk (below_step (bU HB) hb); clear HO216; clear HO219; clear BK222; clear HB; have HO216 := n0_; have HO219 := n1_; have BK222 := n2_; have HB := n3_; clear n0_ n1_ n2_ n3_; (try clear hb); (try clear hb2); (try clear hk); (try clear hi); have hcz23_0 : w22.cell? ⟨gb222, 0, none⟩ = some (.slice Ao19 t214.length co19) := (blk_cell BK222.out 0).trans rfl; have hcz23_1 : w22.cell? ⟨gb222, 1, none⟩ = some (.slice Ao21 t217.length co21) := (blk_cell BK222.out 1).trans rfl; have hcz23_2 : w22.cell? ⟨gb222, 2, none⟩ = some (.int .i64 t220) := (blk_cell BK222.out 2).trans rfl; have hcz23_3 : w22.cell? ⟨gb222, 3, none⟩ = some (.bool t221) := (blk_cell BK222.out 3).trans rfl; have hfz23_0 := blk_frozen BK222.out 0; have hfz23_1 := blk_frozen BK222.out 1; have hfz23_2 := blk_frozen BK222.out 2; have hfz23_3 := blk_frozen BK222.out 3) | ((with_reducible refine gate_callee (f := 13) rfl ?_); refine goesL_ (some 19) rfl rfl Try.func13 (by kernel_rfl) rfl #[.agg #[.slice Ao19 t214.length co19, .slice Ao21 t217.length co21, .int .i64 t220, .bool t221], .int .i64 0, .string t223] rfl (by (try simp only [List.map_toArray, List.map_cons, List.map_nil]); first | done | rfl | (simp only [List.length_drop, List.length_take]; rfl)) ?_; (with_reducible refine (dev_Write.calls k _ _ t214 _ _ t217 t220 t221 0 t223 t224 t227 t230 t231 t232 _ ?side1 ?side2 ?side3 ?side4 A3.out).mono ?_); (case side1 => exact cU (Kd.R_reads' HO216.out).2.2); (case side2 => exact (Kd.R_reads' HO216.out).2.1); (case side3 => exact cU (Kd.R_reads' HO219.out).2.2); (case side4 => exact (Kd.R_reads' HO219.out).2.1); rintro e w24 ⟨v225, v228, rfl, ho0, ho1, hb⟩; refine ⟨_, rfl, ?_⟩; have n0_ := Aside0.mk (Kd.R_elder' (rU HO216) (Kd.R_base ho0) hb); have n1_ := Aside0.mk (Kd.R_elder' (rU HO219) (Kd.R_base ho1) hb); have n2_ := Aside0.mk (Kd.R_lower (Kd.R_new' ho0 (Kd.R_lt (rU HO216))) (below_size (bU HB))); have n3_ := Aside0.mk (Kd.R_lower (Kd.R_new' ho1 (Kd.R_lt (rU HO219))) (below_size (bU HB))); have n4_ := Aside0.mk (blk_below (kU BK222) hb); have n5_ := Aside0.mk (below_step (bU HB) hb); clear HO216; clear HO219; clear BK222; clear HB; have HO216 := n0_; have HO219 := n1_; have HO226 := n2_; have HO229 := n3_; have BK222 := n4_; have HB := n5_; clear n0_ n1_ n2_ n3_ n4_ n5_; (try clear hb); (try clear hb2); (try clear hk); (try clear hi); (try clear ho0); (try clear ho1)) | ((with_reducible refine gate_dst (N := 3) rfl ?_); refine box_event ?hg (N := 3) ?hd (cs := #[.slice none 0 0, .slice none 0 0, .int .i64 0, .bool false]) (t := 25) ?hr ?_; (case hd => rfl); (case hg => rfl); (case hr => first | (go_simp; done) | (go_simp; rfl)); intro gb233 hg w25 hbox hb; have n0_ := Aside0.mk (Kd.R_below (rU HO216) hb); have n1_ := Aside0.mk (Kd.R_below (rU HO219) hb); have n2_ := Aside0.mk (Kd.R_below (rU HO226) hb); have n3_ := Aside0.mk (Kd.R_below (rU HO229) hb); have n4_ := Aside0.mk (blk_below (kU BK222) hb); have n5_ := Aside0.mk (below_step (bU HB) hb); have n6_ := Aside0.mk (hbox); have n7_ := Aside0.mk ((by rw [hg]; exact (below_size (bU HB)) : w.heap.size ≤ gb233)); have n8_ := Aside0.mk ((by rw [hg]; exact (below_size (bU HB)) : w.heap.size ≤ gb233)); have n9_ := Aside0.mk ((by rw [hg]; exact Nat.ne_of_lt (blk_lt (g := gb222) (o := .cells #[.slice Ao19 t214.length co19, .slice Ao21 t217.length co21, .int .i64 t220, .bool t221] 25 (0, 0)) (kU BK222)) : gb222 ≠ gb233)); have n10_ := Aside0.mk ((by rw [hg]; exact Nat.ne_of_gt (blk_lt (g := gb222) (o := .cells #[.slice Ao19 t214.length co19, .slice Ao21 t217.length co21, .int .i64 t220, .bool t221] 25 (0, 0)) (kU BK222)) : gb233 ≠ gb222)); clear HO216; clear HO219; clear HO226; clear HO229; clear BK222; clear HB; have HO216 := n0_; have HO219 := n1_; have HO226 := n2_; have HO229 := n3_; have BK222 := n4_; have HB := n5_; have BK233 := n6_; have GW233 := n7_; have GE233 := n8_; have NB222_233 := n9_; have NB233_222 := n10_; clear n0_ n1_ n2_ n3_ n4_ n5_ n6_ n7_ n8_ n9_ n10_; clear hb hbox hg; obtain ⟨Ao26, co26, eo26⟩ := Kd.R_slice HO226.out; subst eo26; have hnb27 := NB233_222.out; have hnc27 := NB222_233.out; have hcz28_0 : w25.cell? ⟨gb233, 0, none⟩ = some (.slice none 0 0) := (blk_cell BK233.out 0).trans rfl; have hcz28_1 : w25.cell? ⟨gb233, 1, none⟩ = some (.slice none 0 0) := (blk_cell BK233.out 1).trans rfl; have hcz28_2 : w25.cell? ⟨gb233, 2, none⟩ = some (.int .i64 0) := (blk_cell BK233.out 2).trans rfl; have hcz28_3 : w25.cell? ⟨gb233, 3, none⟩ = some (.bool false) := (blk_cell BK233.out 3).trans rfl; have hfz28_0 := blk_frozen BK233.out 0; have hfz28_1 := blk_frozen BK233.out 1; have hfz28_2 := blk_frozen BK233.out 2; have hfz28_3 := blk_frozen BK233.out 3; obtain ⟨Ao29, co29, eo29⟩ := Kd.R_slice HO229.out; subst eo29) | ((with_reducible refine gate_callee (f := 15) rfl ?_); refine goesL_ (some 24) rfl rfl Try.func15 (by kernel_rfl) rfl #[.agg #[.slice Ao26 t224.length co26, .slice Ao29 t227.length co29, .int .i64 t230, .bool t231], .int .i64 0] rfl (by (try simp only [List.map_toArray, List.map_cons, List.map_nil]); first | done | rfl | (simp only [List.length_drop, List.length_take]; rfl)) ?_; (with_reducible refine (dev_Read.calls _ _ t224 _ _ t227 t230 t231 0 t234 t235 _ ?side1 ?side2 ?side3 ?side4 A4.out).mono ?_); (case side1 => refine (Kd.R_reads' (e := 9) (base := w.heap.size) (ok := fun k_ => (True ∧ some k_ ≠ (.slice Ao19 t214.length co19 : Value).ownBlock)) (n := t224.length) (c := co26) ?_).2.2; exact (rF1 HO226 BK233)); (case side2 => exact (Kd.R_reads' HO226.out).2.1); (case side3 => refine (Kd.R_reads' (e := 40) (base := w.heap.size) (ok := fun k_ => (True ∧ some k_ ≠ (.slice Ao21 t217.length co21 : Value).ownBlock)) (n := t227.length) (c := co29) ?_).2.2; exact (rF1 HO229 BK233)); (case side4 => exact (Kd.R_reads' HO229.out).2.1); rintro e w30 ⟨rfl, hb⟩; refine ⟨_, rfl, ?_⟩; have n0_ := Aside0.mk (Kd.R_below (rF1 HO216 BK233) hb); have n1_ := Aside0.mk (Kd.R_below (rF1 HO219 BK233) hb); have n2_ := Aside0.mk (Kd.R_below (rF1 HO226 BK233) hb); have n3_ := Aside0.mk (Kd.R_below (rF1 HO229 BK233) hb); have n4_ := Aside0.mk (blk_below (kF BK222) hb); have n5_ := Aside0.mk (blk_below (g := gb233) (o := .cells #[.slice Ao26 t224.length co26, .slice Ao29 t227.length co29, .int .i64 t230, .bool t231] 25 (0, 0)) (kP BK233) hb); have n6_ := Aside0.mk (below_step (bU HB) hb); clear HO216; clear HO219; clear HO226; clear HO229; clear BK222; clear BK233; clear HB; have HO216 := n0_; have HO219 := n1_; have HO226 := n2_; have HO229 := n3_; have BK222 := n4_; have BK233 := n5_; have HB := n6_; clear n0_ n1_ n2_ n3_ n4_ n5_ n6_; (try clear hb); (try clear hb2); (try clear hk); (try clear hi); have hcz31_0 : w30.cell? ⟨gb233, 0, none⟩ = some (.slice Ao26 t224.length co26) := (blk_cell BK233.out 0).trans rfl; have hcz31_1 : w30.cell? ⟨gb233, 1, none⟩ = some (.slice Ao29 t227.length co29) := (blk_cell BK233.out 1).trans rfl; have hcz31_2 : w30.cell? ⟨gb233, 2, none⟩ = some (.int .i64 t230) := (blk_cell BK233.out 2).trans rfl; have hcz31_3 : w30.cell? ⟨gb233, 3, none⟩ = some (.bool t231) := (blk_cell BK233.out 3).trans rfl; have hfz31_0 := blk_frozen BK233.out 0; have hfz31_1 := blk_frozen BK233.out 1; have hfz31_2 := blk_frozen BK233.out 2; have hfz31_3 := blk_frozen BK233.out 3) | ((with_reducible refine gate_callee (f := 11) rfl ?_); refine goesL_ (some 28) rfl rfl Try.func11 (by kernel_rfl) rfl #[.agg #[.slice Ao26 t224.length co26, .slice Ao29 t227.length co29, .int .i64 t230, .bool t231], .slice none 0 0] rfl (by (try simp only [List.map_toArray, List.map_cons, List.map_nil]); first | done | rfl | (simp only [List.length_drop, List.length_take]; rfl)) ?_; (refine (dev_Crash.calls _ _ t224 _ _ t227 t230 t231 _ _ ([] : List Bool) t236 t239 t242 t243 _ ?side1 ?side2 ?side3 ?side4 ?side5 ?side6 A5.out).mono ?_); (case side1 => exact cU (Kd.R_reads' HO226.out).2.2); (case side2 => exact (Kd.R_reads' HO226.out).2.1); (case side3 => exact cU (Kd.R_reads' HO229.out).2.2); (case side4 => exact (Kd.R_reads' HO229.out).2.1); (case side5 => exact Kd.C_nil _ _); (case side6 => exact Nat.le_refl _); rintro e w32 ⟨v237, v240, rfl, ho0, ho1, hb⟩; refine ⟨_, rfl, ?_⟩; have n0_ := Aside0.mk (Kd.R_elder' (rU HO216) (Kd.R_base ho0) hb); have n1_ := Aside0.mk (Kd.R_elder' (rU HO219) (Kd.R_base ho1) hb); have n2_ := Aside0.mk (Kd.R_elder' (rU HO226) (Kd.R_base ho0) hb); have n3_ := Aside0.mk (Kd.R_elder' (rU HO229) (Kd.R_base ho1) hb); have n4_ := Aside0.mk (Kd.R_lower (Kd.R_new' (Kd.R_new' ho0 (Kd.R_lt (rU HO216))) (Kd.R_lt (rU HO226))) (below_size (bU HB))); have n5_ := Aside0.mk (Kd.R_lower (Kd.R_new' (Kd.R_new' ho1 (Kd.R_lt (rU HO219))) (Kd.R_lt (rU HO229))) (below_size (bU HB))); have n6_ := Aside0.mk (blk_below (kU BK222) hb); have n7_ := Aside0.mk (blk_below (kU BK233) hb); have n8_ := Aside0.mk (below_step (bU HB) hb); clear HO216; clear HO219; clear HO226; clear HO229; clear BK222; clear BK233; clear HB; have HO216 := n0_; have HO219 := n1_; have HO226 := n2_; have HO229 := n3_; have HO238 := n4_; have HO241 := n5_; have BK222 := n6_; have BK233 := n7_; have HB := n8_; clear n0_ n1_ n2_ n3_ n4_ n5_ n6_ n7_ n8_; (try clear hb); (try clear hb2); (try clear hk); (try clear hi); (try clear ho0); (try clear ho1)) | ((with_reducible refine gate_dst (N := 7) rfl ?_); refine box_event ?hg (N := 7) ?hd (cs := #[.slice none 0 0, .slice none 0 0, .int .i64 0, .bool false]) (t := 25) ?hr ?_; (case hd => rfl); (case hg => rfl); (case hr => first | (go_simp; done) | (go_simp; rfl)); intro gb244 hg w33 hbox hb; have n0_ := Aside0.mk (Kd.R_below (rU HO216) hb); have n1_ := Aside0.mk (Kd.R_below (rU HO219) hb); have n2_ := Aside0.mk (Kd.R_below (rU HO226) hb); have n3_ := Aside0.mk (Kd.R_below (rU HO229) hb); have n4_ := Aside0.mk (Kd.R_below (rU HO238) hb); have n5_ := Aside0.mk (Kd.R_below (rU HO241) hb); have n6_ := Aside0.mk (blk_below (kU BK222) hb); have n7_ := Aside0.mk (blk_below (kU BK233) hb); have n8_ := Aside0.mk (below_step (bU HB) hb); have n9_ := Aside0.mk (hbox); have n10_ := Aside0.mk ((by rw [hg]; exact (below_size (bU HB)) : w.heap.size ≤ gb244)); have n11_ := Aside0.mk ((by rw [hg]; exact (below_size (bU HB)) : w.heap.size ≤ gb244)); have n12_ := Aside0.mk ((by rw [hg]; exact Nat.ne_of_lt (blk_lt (g := gb222) (o := .cells #[.slice Ao19 t214.length co19, .slice Ao21 t217.length co21, .int .i64 t220, .bool t221] 25 (0, 0)) (kU BK222)) : gb222 ≠ gb244)); have n13_ := Aside0.mk ((by rw [hg]; exact Nat.ne_of_gt (blk_lt (g := gb222) (o := .cells #[.slice Ao19 t214.length co19, .slice Ao21 t217.length co21, .int .i64 t220, .bool t221] 25 (0, 0)) (kU BK222)) : gb244 ≠ gb222)); have n14_ := Aside0.mk ((by rw [hg]; exact Nat.ne_of_lt (blk_lt (g := gb233) (o := .cells #[.slice Ao26 t224.length co26, .slice Ao29 t227.length co29, .int .i64 t230, .bool t231] 25 (0, 0)) (kU BK233)) : gb233 ≠ gb244)); have n15_ := Aside0.mk ((by rw [hg]; exact Nat.ne_of_gt (blk_lt (g := gb233) (o := .cells #[.slice Ao26 t224.length co26, .slice Ao29 t227.length co29, .int .i64 t230, .bool t231] 25 (0, 0)) (kU BK233)) : gb244 ≠ gb233)); clear HO216; clear HO219; clear HO226; clear HO229; clear HO238; clear HO241; clear BK222; clear BK233; clear HB; have HO216 := n0_; have HO219 := n1_; have HO226 := n2_; have HO229 := n3_; have HO238 := n4_; have HO241 := n5_; have BK222 := n6_; have BK233 := n7_; have HB := n8_; have BK244 := n9_; have GW244 := n10_; have GE244 := n11_; have NB222_244 := n12_; have NB244_222 := n13_; have NB233_244 := n14_; have NB244_233 := n15_; clear n0_ n1_ n2_ n3_ n4_ n5_ n6_ n7_ n8_ n9_ n10_ n11_ n12_ n13_ n14_ n15_; clear hb hbox hg; obtain ⟨Ao34, co34, eo34⟩ := Kd.R_slice HO238.out; subst eo34; have hnb35 := NB244_222.out; have hnc35 := NB222_244.out; have hnb36 := NB244_233.out; have hnc36 := NB233_244.out; have hcz37_0 : w33.cell? ⟨gb244, 0, none⟩ = some (.slice none 0 0) := (blk_cell BK244.out 0).trans rfl; have hcz37_1 : w33.cell? ⟨gb244, 1, none⟩ = some (.slice none 0 0) := (blk_cell BK244.out 1).trans rfl; have hcz37_2 : w33.cell? ⟨gb244, 2, none⟩ = some (.int .i64 0) := (blk_cell BK244.out 2).trans rfl; have hcz37_3 : w33.cell? ⟨gb244, 3, none⟩ = some (.bool false) := (blk_cell BK244.out 3).trans rfl; have hfz37_0 := blk_frozen BK244.out 0; have hfz37_1 := blk_frozen BK244.out 1; have hfz37_2 := blk_frozen BK244.out 2; have hfz37_3 := blk_frozen BK244.out 3; obtain ⟨Ao38, co38, eo38⟩ := Kd.R_slice HO241.out; subst eo38) | ((with_reducible refine gate_callee (f := 15) rfl ?_); refine goesL_ (some 31) rfl rfl Try.func15 (by kernel_rfl) rfl #[.agg #[.slice Ao34 t236.length co34, .slice Ao38 t239.length co38, .int .i64 t242, .bool t243], .int .i64 0] rfl (by (try simp only [List.map_toArray, List.map_cons, List.map_nil]); first | done | rfl | (simp only [List.length_drop, List.length_take]; rfl)) ?_; (with_reducible refine (dev_Read.calls _ _ t236 _ _ t239 t242 t243 0 t245 t246 _ ?side1 ?side2 ?side3 ?side4 A6.out).mono ?_); (case side1 => refine (Kd.R_reads' (e := 9) (base := w.heap.size) (ok := fun k_ => ((True ∧ some k_ ≠ (.slice Ao19 t214.length co19 : Value).ownBlock) ∧ some k_ ≠ (.slice Ao26 t224.length co26 : Value).ownBlock)) (n := t236.length) (c := co34) ?_).2.2; exact (rF1 HO238 BK244)); (case side2 => exact (Kd.R_reads' HO238.out).2.1); (case side3 => refine (Kd.R_reads' (e := 40) (base := w.heap.size) (ok := fun k_ => ((True ∧ some k_ ≠ (.slice Ao21 t217.length co21 : Value).ownBlock) ∧ some k_ ≠ (.slice Ao29 t227.length co29 : Value).ownBlock)) (n := t239.length) (c := co38) ?_).2.2; exact (rF1 HO241 BK244)); (case side4 => exact (Kd.R_reads' HO241.out).2.1); rintro e w39 ⟨rfl, hb⟩; refine ⟨_, rfl, ?_⟩; have n0_ := Aside0.mk (Kd.R_below (rF1 HO216 BK244) hb); have n1_ := Aside0.mk (Kd.R_below (rF1 HO219 BK244) hb); have n2_ := Aside0.mk (Kd.R_below (rF1 HO226 BK244) hb); have n3_ := Aside0.mk (Kd.R_below (rF1 HO229 BK244) hb); have n4_ := Aside0.mk (Kd.R_below (rF1 HO238 BK244) hb); have n5_ := Aside0.mk (Kd.R_below (rF1 HO241 BK244) hb); have n6_ := Aside0.mk (blk_below (kF BK222) hb); have n7_ := Aside0.mk (blk_below (kF BK233) hb); have n8_ := Aside0.mk (blk_below (g := gb244) (o := .cells #[.slice Ao34 t236.length co34, .slice Ao38 t239.length co38, .int .i64 t242, .bool t243] 25 (0, 0)) (kP BK244) hb); have n9_ := Aside0.mk (below_step (bU HB) hb); clear HO216; clear HO219; clear HO226; clear HO229; clear HO238; clear HO241; clear BK222; clear BK233; clear BK244; clear HB; have HO216 := n0_; have HO219 := n1_; have HO226 := n2_; have HO229 := n3_; have HO238 := n4_; have HO241 := n5_; have BK222 := n6_; have BK233 := n7_; have BK244 := n8_; have HB := n9_; clear n0_ n1_ n2_ n3_ n4_ n5_ n6_ n7_ n8_ n9_; (try clear hb); (try clear hb2); (try clear hk); (try clear hi); have hcz40_0 : w39.cell? ⟨gb222, 0, none⟩ = some (.slice Ao19 t214.length co19) := (blk_cell BK222.out 0).trans rfl; have hcz40_1 : w39.cell? ⟨gb222, 1, none⟩ = some (.slice Ao21 t217.length co21) := (blk_cell BK222.out 1).trans rfl; have hcz40_2 : w39.cell? ⟨gb222, 2, none⟩ = some (.int .i64 t220) := (blk_cell BK222.out 2).trans rfl; have hcz40_3 : w39.cell? ⟨gb222, 3, none⟩ = some (.bool t221) := (blk_cell BK222.out 3).trans rfl; have hfz40_0 := blk_frozen BK222.out 0; have hfz40_1 := blk_frozen BK222.out 1; have hfz40_2 := blk_frozen BK222.out 2; have hfz40_3 := blk_frozen BK222.out 3) | ((with_reducible refine gate_callee (f := 12) rfl ?_); refine goesL_ (some 36) rfl rfl Try.func12 (by kernel_rfl) rfl #[.agg #[.slice Ao19 t214.length co19, .slice Ao21 t217.length co21, .int .i64 t220, .bool t221], .int .i64 0] rfl (by (try simp only [List.map_toArray, List.map_cons, List.map_nil]); first | done | rfl | (simp only [List.length_drop, List.length_take]; rfl)) ?_; (with_reducible refine (dev_Arm.calls _ _ t214 _ _ t217 t220 t221 0 t247 t250 t253 t254 _ ?side1 ?side2 ?side3 ?side4 A7.out).mono ?_); (case side1 => exact cU (Kd.R_reads' HO216.out).2.2); (case side2 => exact (Kd.R_reads' HO216.out).2.1); (case side3 => exact cU (Kd.R_reads' HO219.out).2.2); (case side4 => exact (Kd.R_reads' HO219.out).2.1); rintro e w41 ⟨v248, v251, rfl, ho0, ho1, hb⟩; refine ⟨_, rfl, ?_⟩; have n0_ := Aside0.mk (Kd.R_elder' (rU HO216) (Kd.R_base ho0) hb); have n1_ := Aside0.mk (Kd.R_elder' (rU HO219) (Kd.R_base ho1) hb); have n2_ := Aside0.mk (Kd.R_elder' (rU HO226) (Kd.R_base ho0) hb); have n3_ := Aside0.mk (Kd.R_elder' (rU HO229) (Kd.R_base ho1) hb); have n4_ := Aside0.mk (Kd.R_elder' (rU HO238) (Kd.R_base ho0) hb); have n5_ := Aside0.mk (Kd.R_elder' (rU HO241) (Kd.R_base ho1) hb); have n6_ := Aside0.mk (Kd.R_lower (Kd.R_new' (Kd.R_new' (Kd.R_new' ho0 (Kd.R_lt (rU HO216))) (Kd.R_lt (rU HO226))) (Kd.R_lt (rU HO238))) (below_size (bU HB))); have n7_ := Aside0.mk (Kd.R_lower (Kd.R_new' (Kd.R_new' (Kd.R_new' ho1 (Kd.R_lt (rU HO219))) (Kd.R_lt (rU HO229))) (Kd.R_lt (rU HO241))) (below_size (bU HB))); have n8_ := Aside0.mk (blk_below (kU BK222) hb); have n9_ := Aside0.mk (blk_below (kU BK233) hb); have n10_ := Aside0.mk (blk_below (kU BK244) hb); have n11_ := Aside0.mk (below_step (bU HB) hb); clear HO216; clear HO219; clear HO226; clear HO229; clear HO238; clear HO241; clear BK222; clear BK233; clear BK244; clear HB; have HO216 := n0_; have HO219 := n1_; have HO226 := n2_; have HO229 := n3_; have HO238 := n4_; have HO241 := n5_; have HO249 := n6_; have HO252 := n7_; have BK222 := n8_; have BK233 := n9_; have BK244 := n10_; have HB := n11_; clear n0_ n1_ n2_ n3_ n4_ n5_ n6_ n7_ n8_ n9_ n10_ n11_; (try clear hb); (try clear hb2); (try clear hk); (try clear hi); (try clear ho0); (try clear ho1); obtain ⟨Ao42, co42, eo42⟩ := Kd.R_slice HO249.out; subst eo42; obtain ⟨Ao43, co43, eo43⟩ := Kd.R_slice HO252.out; subst eo43) | ((with_reducible refine gate_callee (f := 13) rfl ?_); refine goesL_ (some 38) rfl rfl Try.func13 (by kernel_rfl) rfl #[.agg #[.slice Ao42 t247.length co42, .slice Ao43 t250.length co43, .int .i64 t253, .bool t254], .int .i64 0, .string t223] rfl (by (try simp only [List.map_toArray, List.map_cons, List.map_nil]); first | done | rfl | (simp only [List.length_drop, List.length_take]; rfl)) ?_; (with_reducible refine (dev_Write.calls k _ _ t247 _ _ t250 t253 t254 0 t223 t255 t258 t261 t262 t263 _ ?side1 ?side2 ?side3 ?side4 A8.out).mono ?_); (case side1 => exact cU (Kd.R_reads' HO249.out).2.2); (case side2 => exact (Kd.R_reads' HO249.out).2.1); (case side3 => exact cU (Kd.R_reads' HO252.out).2.2); (case side4 => exact (Kd.R_reads' HO252.out).2.1); rintro e w44 ⟨v256, v259, rfl, ho0, ho1, hb⟩; refine ⟨_, rfl, ?_⟩; have n0_ := Aside0.mk (Kd.R_elder' (rU HO216) (Kd.R_base ho0) hb); have n1_ := Aside0.mk (Kd.R_elder' (rU HO219) (Kd.R_base ho1) hb); have n2_ := Aside0.mk (Kd.R_elder' (rU HO226) (Kd.R_base ho0) hb); have n3_ := Aside0.mk (Kd.R_elder' (rU HO229) (Kd.R_base ho1) hb); have n4_ := Aside0.mk (Kd.R_elder' (rU HO238) (Kd.R_base ho0) hb); have n5_ := Aside0.mk (Kd.R_elder' (rU HO241) (Kd.R_base ho1) hb); have n6_ := Aside0.mk (Kd.R_elder' (rU HO249) (Kd.R_base ho0) hb); have n7_ := Aside0.mk (Kd.R_elder' (rU HO252) (Kd.R_base ho1) hb); have n8_ := Aside0.mk (Kd.R_lower (Kd.R_new' (Kd.R_new' (Kd.R_new' (Kd.R_new' ho0 (Kd.R_lt (rU HO216))) (Kd.R_lt (rU HO226))) (Kd.R_lt (rU HO238))) (Kd.R_lt (rU HO249))) (below_size (bU HB))); have n9_ := Aside0.mk (Kd.R_lower (Kd.R_new' (Kd.R_new' (Kd.R_new' (Kd.R_new' ho1 (Kd.R_lt (rU HO219))) (Kd.R_lt (rU HO229))) (Kd.R_lt (rU HO241))) (Kd.R_lt (rU HO252))) (below_size (bU HB))); have n10_ := Aside0.mk (blk_below (kU BK222) hb); have n11_ := Aside0.mk (blk_below (kU BK233) hb); have n12_ := Aside0.mk (blk_below (kU BK244) hb); have n13_ := Aside0.mk (below_step (bU HB) hb); clear HO216; clear HO219; clear HO226; clear HO229; clear HO238; clear HO241; clear HO249; clear HO252; clear BK222; clear BK233; clear BK244; clear HB; have HO216 := n0_; have HO219 := n1_; have HO226 := n2_; have HO229 := n3_; have HO238 := n4_; have HO241 := n5_; have HO249 := n6_; have HO252 := n7_; have HO257 := n8_; have HO260 := n9_; have BK222 := n10_; have BK233 := n11_; have BK244 := n12_; have HB := n13_; clear n0_ n1_ n2_ n3_ n4_ n5_ n6_ n7_ n8_ n9_ n10_ n11_ n12_ n13_; (try clear hb); (try clear hb2); (try clear hk); (try clear hi); (try clear ho0); (try clear ho1)) | ((with_reducible refine gate_dst (N := 10) rfl ?_); refine box_event ?hg (N := 10) ?hd (cs := #[.slice none 0 0, .slice none 0 0, .int .i64 0, .bool false]) (t := 25) ?hr ?_; (case hd => rfl); (case hg => rfl); (case hr => first | (go_simp; done) | (go_simp; rfl)); intro gb264 hg w45 hbox hb; have n0_ := Aside0.mk (Kd.R_below (rU HO216) hb); have n1_ := Aside0.mk (Kd.R_below (rU HO219) hb); have n2_ := Aside0.mk (Kd.R_below (rU HO226) hb); have n3_ := Aside0.mk (Kd.R_below (rU HO229) hb); have n4_ := Aside0.mk (Kd.R_below (rU HO238) hb); have n5_ := Aside0.mk (Kd.R_below (rU HO241) hb); have n6_ := Aside0.mk (Kd.R_below (rU HO249) hb); have n7_ := Aside0.mk (Kd.R_below (rU HO252) hb); have n8_ := Aside0.mk (Kd.R_below (rU HO257) hb); have n9_ := Aside0.mk (Kd.R_below (rU HO260) hb); have n10_ := Aside0.mk (blk_below (kU BK222) hb); have n11_ := Aside0.mk (blk_below (kU BK233) hb); have n12_ := Aside0.mk (blk_below (kU BK244) hb); have n13_ := Aside0.mk (below_step (bU HB) hb); have n14_ := Aside0.mk (hbox); have n15_ := Aside0.mk ((by rw [hg]; exact (below_size (bU HB)) : w.heap.size ≤ gb264)); have n16_ := Aside0.mk ((by rw [hg]; exact (below_size (bU HB)) : w.heap.size ≤ gb264)); have n17_ := Aside0.mk ((by rw [hg]; exact Nat.ne_of_lt (blk_lt (g := gb222) (o := .cells #[.slice Ao19 t214.length co19, .slice Ao21 t217.length co21, .int .i64 t220, .bool t221] 25 (0, 0)) (kU BK222)) : gb222 ≠ gb264)); have n18_ := Aside0.mk ((by rw [hg]; exact Nat.ne_of_gt (blk_lt (g := gb222) (o := .cells #[.slice Ao19 t214.length co19, .slice Ao21 t217.length co21, .int .i64 t220, .bool t221] 25 (0, 0)) (kU BK222)) : gb264 ≠ gb222)); have n19_ := Aside0.mk ((by rw [hg]; exact Nat.ne_of_lt (blk_lt (g := gb233) (o := .cells #[.slice Ao26 t224.length co26, .slice Ao29 t227.length co29, .int .i64 t230, .bool t231] 25 (0, 0)) (kU BK233)) : gb233 ≠ gb264)); have n20_ := Aside0.mk ((by rw [hg]; exact Nat.ne_of_gt (blk_lt (g := gb233) (o := .cells #[.slice Ao26 t224.length co26, .slice Ao29 t227.length co29, .int .i64 t230, .bool t231] 25 (0, 0)) (kU BK233)) : gb264 ≠ gb233)); have n21_ := Aside0.mk ((by rw [hg]; exact Nat.ne_of_lt (blk_lt (g := gb244) (o := .cells #[.slice Ao34 t236.length co34, .slice Ao38 t239.length co38, .int .i64 t242, .bool t243] 25 (0, 0)) (kU BK244)) : gb244 ≠ gb264)); have n22_ := Aside0.mk ((by rw [hg]; exact Nat.ne_of_gt (blk_lt (g := gb244) (o := .cells #[.slice Ao34 t236.length co34, .slice Ao38 t239.length co38, .int .i64 t242, .bool t243] 25 (0, 0)) (kU BK244)) : gb264 ≠ gb244)); clear HO216; clear HO219; clear HO226; clear HO229; clear HO238; clear HO241; clear HO249; clear HO252; clear HO257; clear HO260; clear BK222; clear BK233; clear BK244; clear HB; have HO216 := n0_; have HO219 := n1_; have HO226 := n2_; have HO229 := n3_; have HO238 := n4_; have HO241 := n5_; have HO249 := n6_; have HO252 := n7_; have HO257 := n8_; have HO260 := n9_; have BK222 := n10_; have BK233 := n11_; have BK244 := n12_; have HB := n13_; have BK264 := n14_; have GW264 := n15_; have GE264 := n16_; have NB222_264 := n17_; have NB264_222 := n18_; have NB233_264 := n19_; have NB264_233 := n20_; have NB244_264 := n21_; have NB264_244 := n22_; clear n0_ n1_ n2_ n3_ n4_ n5_ n6_ n7_ n8_ n9_ n10_ n11_ n12_ n13_ n14_ n15_ n16_ n17_ n18_ n19_ n20_ n21_ n22_; clear hb hbox hg; obtain ⟨Ao46, co46, eo46⟩ := Kd.R_slice HO257.out; subst eo46; have hnb47 := NB264_222.out; have hnc47 := NB222_264.out; have hnb48 := NB264_233.out; have hnc48 := NB233_264.out; have hnb49 := NB264_244.out; have hnc49 := NB244_264.out; have hcz50_0 : w45.cell? ⟨gb264, 0, none⟩ = some (.slice none 0 0) := (blk_cell BK264.out 0).trans rfl; have hcz50_1 : w45.cell? ⟨gb264, 1, none⟩ = some (.slice none 0 0) := (blk_cell BK264.out 1).trans rfl; have hcz50_2 : w45.cell? ⟨gb264, 2, none⟩ = some (.int .i64 0) := (blk_cell BK264.out 2).trans rfl; have hcz50_3 : w45.cell? ⟨gb264, 3, none⟩ = some (.bool false) := (blk_cell BK264.out 3).trans rfl; have hfz50_0 := blk_frozen BK264.out 0; have hfz50_1 := blk_frozen BK264.out 1; have hfz50_2 := blk_frozen BK264.out 2; have hfz50_3 := blk_frozen BK264.out 3; obtain ⟨Ao51, co51, eo51⟩ := Kd.R_slice HO260.out; subst eo51) | ((with_reducible refine gate_callee (f := 15) rfl ?_); refine goesL_ (some 43) rfl rfl Try.func15 (by kernel_rfl) rfl #[.agg #[.slice Ao46 t255.length co46, .slice Ao51 t258.length co51, .int .i64 t261, .bool t262], .int .i64 0] rfl (by (try simp only [List.map_toArray, List.map_cons, List.map_nil]); first | done | rfl | (simp only [List.length_drop, List.length_take]; rfl)) ?_; (with_reducible refine (dev_Read.calls _ _ t255 _ _ t258 t261 t262 0 t265 t266 _ ?side1 ?side2 ?side3 ?side4 A9.out).mono ?_); (case side1 => refine (Kd.R_reads' (e := 9) (base := w.heap.size) (ok := fun k_ => ((((True ∧ some k_ ≠ (.slice Ao19 t214.length co19 : Value).ownBlock) ∧ some k_ ≠ (.slice Ao26 t224.length co26 : Value).ownBlock) ∧ some k_ ≠ (.slice Ao34 t236.length co34 : Value).ownBlock) ∧ some k_ ≠ (.slice Ao42 t247.length co42 : Value).ownBlock)) (n := t255.length) (c := co46) ?_).2.2; exact (rF1 HO257 BK264)); (case side2 => exact (Kd.R_reads' HO257.out).2.1); (case side3 => refine (Kd.R_reads' (e := 40) (base := w.heap.size) (ok := fun k_ => ((((True ∧ some k_ ≠ (.slice Ao21 t217.length co21 : Value).ownBlock) ∧ some k_ ≠ (.slice Ao29 t227.length co29 : Value).ownBlock) ∧ some k_ ≠ (.slice Ao38 t239.length co38 : Value).ownBlock) ∧ some k_ ≠ (.slice Ao43 t250.length co43 : Value).ownBlock)) (n := t258.length) (c := co51) ?_).2.2; exact (rF1 HO260 BK264)); (case side4 => exact (Kd.R_reads' HO260.out).2.1); rintro e w52 ⟨rfl, hb⟩; refine ⟨_, rfl, ?_⟩; have n0_ := Aside0.mk (Kd.R_below (rF1 HO216 BK264) hb); have n1_ := Aside0.mk (Kd.R_below (rF1 HO219 BK264) hb); have n2_ := Aside0.mk (Kd.R_below (rF1 HO226 BK264) hb); have n3_ := Aside0.mk (Kd.R_below (rF1 HO229 BK264) hb); have n4_ := Aside0.mk (Kd.R_below (rF1 HO238 BK264) hb); have n5_ := Aside0.mk (Kd.R_below (rF1 HO241 BK264) hb); have n6_ := Aside0.mk (Kd.R_below (rF1 HO249 BK264) hb); have n7_ := Aside0.mk (Kd.R_below (rF1 HO252 BK264) hb); have n8_ := Aside0.mk (Kd.R_below (rF1 HO257 BK264) hb); have n9_ := Aside0.mk (Kd.R_below (rF1 HO260 BK264) hb); have n10_ := Aside0.mk (blk_below (kF BK222) hb); have n11_ := Aside0.mk (blk_below (kF BK233) hb); have n12_ := Aside0.mk (blk_below (kF BK244) hb); have n13_ := Aside0.mk (blk_below (g := gb264) (o := .cells #[.slice Ao46 t255.length co46, .slice Ao51 t258.length co51, .int .i64 t261, .bool t262] 25 (0, 0)) (kP BK264) hb); have n14_ := Aside0.mk (below_step (bU HB) hb); clear HO216; clear HO219; clear HO226; clear HO229; clear HO238; clear HO241; clear HO249; clear HO252; clear HO257; clear HO260; clear BK222; clear BK233; clear BK244; clear BK264; clear HB; have HO216 := n0_; have HO219 := n1_; have HO226 := n2_; have HO229 := n3_; have HO238 := n4_; have HO241 := n5_; have HO249 := n6_; have HO252 := n7_; have HO257 := n8_; have HO260 := n9_; have BK222 := n10_; have BK233 := n11_; have BK244 := n12_; have BK264 := n13_; have HB := n14_; clear n0_ n1_ n2_ n3_ n4_ n5_ n6_ n7_ n8_ n9_ n10_ n11_ n12_ n13_ n14_; (try clear hb); (try clear hb2); (try clear hk); (try clear hi)) | (go_at_call 20; (with_reducible refine (almanaclaw02_filled.calls (⟨#[]⟩ : ByteArray) t267 _ A13.out).mono ?_); rintro e w53 ⟨rfl, hb⟩; have n0_ := Aside0.mk (Kd.R_below (rU HO216) hb); have n1_ := Aside0.mk (Kd.R_below (rU HO219) hb); have n2_ := Aside0.mk (Kd.R_below (rU HO226) hb); have n3_ := Aside0.mk (Kd.R_below (rU HO229) hb); have n4_ := Aside0.mk (Kd.R_below (rU HO238) hb); have n5_ := Aside0.mk (Kd.R_below (rU HO241) hb); have n6_ := Aside0.mk (Kd.R_below (rU HO249) hb); have n7_ := Aside0.mk (Kd.R_below (rU HO252) hb); have n8_ := Aside0.mk (Kd.R_below (rU HO257) hb); have n9_ := Aside0.mk (Kd.R_below (rU HO260) hb); have n10_ := Aside0.mk (blk_below (kU BK222) hb); have n11_ := Aside0.mk (blk_below (kU BK233) hb); have n12_ := Aside0.mk (blk_below (kU BK244) hb); have n13_ := Aside0.mk (blk_below (kU BK264) hb); have n14_ := Aside0.mk (below_step (bU HB) hb); clear HO216; clear HO219; clear HO226; clear HO229; clear HO238; clear HO241; clear HO249; clear HO252; clear HO257; clear HO260; clear BK222; clear BK233; clear BK244; clear BK264; clear HB; have HO216 := n0_; have HO219 := n1_; have HO226 := n2_; have HO229 := n3_; have HO238 := n4_; have HO241 := n5_; have HO249 := n6_; have HO252 := n7_; have HO257 := n8_; have HO260 := n9_; have BK222 := n10_; have BK233 := n11_; have BK244 := n12_; have BK264 := n13_; have HB := n14_; clear n0_ n1_ n2_ n3_ n4_ n5_ n6_ n7_ n8_ n9_ n10_ n11_ n12_ n13_ n14_; (try clear hb); (try clear hb2); (try clear hk); (try clear hi)))
       go_ret
       exact ⟨eqU, bU HB⟩
      ·rw [if_neg c16] at H
       have c16b0 : (t263 == 16) = false := beq_eq_false_iff_ne.mpr c16
       have c16b1 : (t263 != 16) = true := bne_iff_ne.mpr c16
       exact absurd ((Option.some.inj H).trans HRT.out) (by decide)
     ·rw [if_neg c15] at H
      have c15b0 : (t246 == 0) = false := beq_eq_false_iff_ne.mpr c15
      have c15b1 : (t246 != 0) = true := bne_iff_ne.mpr c15
      exact absurd ((Option.some.inj H).trans HRT.out) (by decide)
    ·rw [if_neg c14] at H
     have c14b0 : (t245.toList == t267.toList) = false := beq_eq_false_iff_ne.mpr c14
     have c14b1 : (t245.toList != t267.toList) = true := bne_iff_ne.mpr c14
     exact absurd ((Option.some.inj H).trans HRT.out) (by decide)
   ·rw [if_neg c12] at H
    have c12b0 : (t235 == 0) = false := beq_eq_false_iff_ne.mpr c12
    have c12b1 : (t235 != 0) = true := bne_iff_ne.mpr c12
    exact absurd ((Option.some.inj H).trans HRT.out) (by decide)
  ·rw [if_neg c11] at H
   have c11b0 : (t234.toList == t223.toList) = false := beq_eq_false_iff_ne.mpr c11
   have c11b1 : (t234.toList != t223.toList) = true := bne_iff_ne.mpr c11
   exact absurd ((Option.some.inj H).trans HRT.out) (by decide)
 ·rw [if_neg c10] at H
  have c10b0 : (t232 == 0) = false := beq_eq_false_iff_ne.mpr c10
  have c10b1 : (t232 != 0) = true := bne_iff_ne.mpr c10
  exact absurd ((Option.some.inj H).trans HRT.out) (by decide)

end Go.Proofs.Ytaocplhijfkicaa.PD
namespace Go.Proofs.Ytaocplhijfkicaa.PD
open Go.RowKit Go.Proofs.YtaocplhijfkicaaW.PrintWords Go.Proofs.YtaocplhijfkicaaW.PrintLast Go.Proofs.YtaocplhijfkicaaW.PrintMore
set_option maxRecDepth 100000 in
theorem awake_val : almanaclaw02_awake.f 10 = some true := by kernel_rfl
theorem almanaclaw02_awake.calls (k : Nat) (r : Bool) (w : World) (h : almanaclaw02_awake.f k = some r) :
    Calls Try.prog 8 #[] w fun e w' => e = .returned (.bool r) ∧ Below w.heap.size w w' := by
  refine almanaclaw02_awake.callsT k r w h ?_
  have h1 := at_rounds (fun k => almanaclaw02_awake.mono k) (Nat.le_max_left k 10) h
  have h2 := at_rounds (fun k => almanaclaw02_awake.mono k) (Nat.le_max_right k 10) awake_val
  rw [h1] at h2
  exact Option.some.inj h2
end Go.Proofs.Ytaocplhijfkicaa.PD
