/- Part 2 of the texts that the claim leans on: the functions' walks, and what they compute. -/
import Derived.Test.YtaocplhijfkicaaDevFlushes1
import Derived.Test.YtaocplhijfkicaaBase1
import Derived.Test.YtaocplhijfkicaaBase2
import Derived.Test.YtaocplhijfkicaaBase
-- written by a program of this work (mk.sh, over the kit's print; stubs are proved by hand)
namespace Go.Proofs.Ytaocplhijfkicaa.PD
open Go.RowKit Go.Proofs.YtaocplhijfkicaaW.PrintWords Go.Proofs.YtaocplhijfkicaaW.PrintLast Go.Proofs.YtaocplhijfkicaaW.PrintMore
attribute [local go_sem] isSome_setCell max2_int min2_int max_two min_two   -- for this text's walks alone
set_option linter.unusedVariables false
set_option linter.unusedSimpArgs false

/-! ### almanaclaw02_DevFlushes: function 3 -/
mutual
def almanaclaw02_DevFlushes.l0 : Nat → Int → List Bool → Int → Int → List ByteArray → List (S40) → Int → Bool → List ByteArray → List (S40) → Int → Bool → List ByteArray → List (S40) → Int → Bool → Option (Bool)
  | 0, _, _, _, _, _, _, _, _, _, _, _, _, _, _, _, _ => none
  | k + 1, x5, x6, x28, x29, x346000, x346001, x346002, x346003, x357000, x357001, x357002, x357003, x367000, x367001, x367002, x367003 => if x29 < x28 then (if 0 ≤ x29 then (if x29 < (x6.length : Int) then (almanaclaw02_DevFlushes.l0 k x5 (x6.set (x29 : Int).toNat true) x28 (wrap64 (x29 + 1)) x346000 x346001 x346002 x346003 x357000 x357001 x357002 x357003 x367000 x367001 x367002 x367003) else (none)) else (none)) else ((dev_Crash.f x357000 x357001 x357002 x357003 x6).bind fun bt371 => ((dev_Arm.f x357000 x357001 x357002 x357003 0).bind fun bt380 => (if 0 < (x346000.length : Int) then ((dev_Write.f k x357000 x357001 x357002 x357003 0 (rdOf ByteArray.empty x346000 0)).bind fun bt389 => ((almanacref02_Same.f k x357000 x357001 x357002 x357003 x346000 x346001 x346002 x346003).bind fun t398 => (if t398 = true then (if x5 = 0 then (almanaclaw02_DevFlushes.l1 k (x346000.length : Int) 0 x346000 x346001 x346002 x346003 x367000 x367001 x367002 x367003 bt371.1 bt371.2.1 bt371.2.2.1 bt371.2.2.2) else (if x346003 = true then ((almanaclaw02_awake.f k).bind fun t399 => (some t399)) else (if x346002 = 0 then ((almanaclaw02_awake.f k).bind fun t400 => (some t400)) else (some false)))) else (some false)))) else (none))))
def almanaclaw02_DevFlushes.l1 : Nat → Int → Int → List ByteArray → List (S40) → Int → Bool → List ByteArray → List (S40) → Int → Bool → List ByteArray → List (S40) → Int → Bool → Option (Bool)
  | 0, _, _, _, _, _, _, _, _, _, _, _, _, _, _ => none
  | k + 1, x65, x66, x346000, x346001, x346002, x346003, x367000, x367001, x367002, x367003, x380000, x380001, x380002, x380003 => if x66 < x65 then ((dev_Read.f x346000 x346001 x346002 x346003 x66).bind fun bt401 => (if bt401.2 = 0 then (if (x367000.length : Int) = (x346000.length : Int) then (if 0 ≤ x66 then (if x66 < (x367000.length : Int) then (if (rdOf ByteArray.empty x367000 x66).toList = bt401.1.toList then (if (x380000.length : Int) = (x346000.length : Int) then (if x66 < (x380000.length : Int) then (if (rdOf ByteArray.empty x380000 x66).toList = bt401.1.toList then (almanaclaw02_DevFlushes.l1 k x65 (wrap64 (x66 + 1)) x346000 x346001 x346002 x346003 x367000 x367001 x367002 x367003 x380000 x380001 x380002 x380003) else (some false)) else (none)) else (some false)) else (some false)) else (none)) else (none)) else (some false)) else (some false))) else (if (x367001.length : Int) = 0 then ((almanaclaw02_awake.f k).bind fun t405 => (some t405)) else (some false))
end
def almanaclaw02_DevFlushes.f (k : Nat) (l0_0 : List ByteArray) (l0_1 : List (S40)) (a0_2 : Int) (a0_3 : Bool) : Option (Bool) := (almanacref02_Fit.f k l0_0 l0_1 a0_2 a0_3).bind fun t346 => (if t346 = true then ((almanacref02_Copy.f l0_0 l0_1 a0_2 a0_3).bind fun bt348 => ((dev_Flush.f bt348.1 bt348.2.1 bt348.2.2.1 bt348.2.2.2).bind fun bt357 => (if 0 ≤ (l0_1.length : Int) then (if ((l0_1.length : Int) : Int).toNat ≤ 281474976710656 then ((some (List.replicate ((l0_1.length : Int) : Int).toNat false : List Bool)).bind fun y367 => (almanaclaw02_DevFlushes.l0 k bt357.2.2.2.2 y367 (y367.length : Int) 0 l0_0 l0_1 a0_2 a0_3 bt348.1 bt348.2.1 bt348.2.2.1 bt348.2.2.2 bt357.1 bt357.2.1 bt357.2.2.1 bt357.2.2.2.1)) else (none)) else (none)))) else ((almanaclaw02_awake.f k).bind fun t347 => (some t347)))
theorem almanaclaw02_DevFlushes.mono_l : ∀ k, (∀ y0 y1 y2 y3 y4 y5 y6 y7 y8 y9 y10 y11 y12 y13 y14 y15, LeO (almanaclaw02_DevFlushes.l0 k y0 y1 y2 y3 y4 y5 y6 y7 y8 y9 y10 y11 y12 y13 y14 y15) (almanaclaw02_DevFlushes.l0 (k + 1) y0 y1 y2 y3 y4 y5 y6 y7 y8 y9 y10 y11 y12 y13 y14 y15)) ∧ (∀ y0 y1 y2 y3 y4 y5 y6 y7 y8 y9 y10 y11 y12 y13, LeO (almanaclaw02_DevFlushes.l1 k y0 y1 y2 y3 y4 y5 y6 y7 y8 y9 y10 y11 y12 y13) (almanaclaw02_DevFlushes.l1 (k + 1) y0 y1 y2 y3 y4 y5 y6 y7 y8 y9 y10 y11 y12 y13))
  | 0 => ⟨fun _ _ _ _ _ _ _ _ _ _ _ _ _ _ _ _ r h => by simp [almanaclaw02_DevFlushes.l0] at h, fun _ _ _ _ _ _ _ _ _ _ _ _ _ _ r h => by simp [almanaclaw02_DevFlushes.l1] at h⟩
  | k + 1 => by
    obtain ⟨ih0, ih1⟩ := almanaclaw02_DevFlushes.mono_l k
    refine ⟨?_, ?_⟩
    · intro y0 y1 y2 y3 y4 y5 y6 y7 y8 y9 y10 y11 y12 y13 y14 y15
      unfold almanaclaw02_DevFlushes.l0
      repeat' first
      | (with_reducible exact ih0 _ _ _ _ _ _ _ _ _ _ _ _ _ _ _ _)
      | (with_reducible exact ih1 _ _ _ _ _ _ _ _ _ _ _ _ _ _)
      | (with_reducible exact almanaclaw02_awake.mono _)
      | (with_reducible exact almanacref02_Fit.mono _ _ _ _ _)
      | (with_reducible exact almanacref02_Same.mono _ _ _ _ _ _ _ _ _)
      | (with_reducible exact dev_Write.mono _ _ _ _ _ _ _)
      | (with_reducible exact LeO.refl _)
      | (with_reducible exact LeO.none _)
      | (with_reducible refine LeO.ite ?_ ?_)
      | (with_reducible refine LeO.bind ?_ (fun _ => ?_))
      | exact ih0 _ _ _ _ _ _ _ _ _ _ _ _ _ _ _ _
      | exact ih1 _ _ _ _ _ _ _ _ _ _ _ _ _ _
      | exact almanaclaw02_awake.mono _
      | exact almanacref02_Fit.mono _ _ _ _ _
      | exact almanacref02_Same.mono _ _ _ _ _ _ _ _ _
      | exact dev_Write.mono _ _ _ _ _ _ _
      | exact LeO.none _
      | refine LeO.ite ?_ ?_
      | refine LeO.bind ?_ (fun _ => ?_)
    · intro y0 y1 y2 y3 y4 y5 y6 y7 y8 y9 y10 y11 y12 y13
      unfold almanaclaw02_DevFlushes.l1
      repeat' first
      | (with_reducible exact ih0 _ _ _ _ _ _ _ _ _ _ _ _ _ _ _ _)
      | (with_reducible exact ih1 _ _ _ _ _ _ _ _ _ _ _ _ _ _)
      | (with_reducible exact almanaclaw02_awake.mono _)
      | (with_reducible exact almanacref02_Fit.mono _ _ _ _ _)
      | (with_reducible exact almanacref02_Same.mono _ _ _ _ _ _ _ _ _)
      | (with_reducible exact dev_Write.mono _ _ _ _ _ _ _)
      | (with_reducible exact LeO.refl _)
      | (with_reducible exact LeO.none _)
      | (with_reducible refine LeO.ite ?_ ?_)
      | (with_reducible refine LeO.bind ?_ (fun _ => ?_))
      | exact ih0 _ _ _ _ _ _ _ _ _ _ _ _ _ _ _ _
      | exact ih1 _ _ _ _ _ _ _ _ _ _ _ _ _ _
      | exact almanaclaw02_awake.mono _
      | exact almanacref02_Fit.mono _ _ _ _ _
      | exact almanacref02_Same.mono _ _ _ _ _ _ _ _ _
      | exact dev_Write.mono _ _ _ _ _ _ _
      | exact LeO.none _
      | refine LeO.ite ?_ ?_
      | refine LeO.bind ?_ (fun _ => ?_)
theorem almanaclaw02_DevFlushes.mono : ∀ a0 a1 a2 a3 k, LeO (almanaclaw02_DevFlushes.f k a0 a1 a2 a3) (almanaclaw02_DevFlushes.f (k + 1) a0 a1 a2 a3) := by
  intro a0 a1 a2 a3 k
  obtain ⟨ih0, ih1⟩ := almanaclaw02_DevFlushes.mono_l k
  unfold almanaclaw02_DevFlushes.f
  repeat' first
      | (with_reducible exact ih0 _ _ _ _ _ _ _ _ _ _ _ _ _ _ _ _)
      | (with_reducible exact ih1 _ _ _ _ _ _ _ _ _ _ _ _ _ _)
      | (with_reducible exact almanaclaw02_awake.mono _)
      | (with_reducible exact almanacref02_Fit.mono _ _ _ _ _)
      | (with_reducible exact almanacref02_Same.mono _ _ _ _ _ _ _ _ _)
      | (with_reducible exact dev_Write.mono _ _ _ _ _ _ _)
      | (with_reducible exact LeO.refl _)
      | (with_reducible exact LeO.none _)
      | (with_reducible refine LeO.ite ?_ ?_)
      | (with_reducible refine LeO.bind ?_ (fun _ => ?_))
      | exact ih0 _ _ _ _ _ _ _ _ _ _ _ _ _ _ _ _
      | exact ih1 _ _ _ _ _ _ _ _ _ _ _ _ _ _
      | exact almanaclaw02_awake.mono _
      | exact almanacref02_Fit.mono _ _ _ _ _
      | exact almanacref02_Same.mono _ _ _ _ _ _ _ _ _
      | exact dev_Write.mono _ _ _ _ _ _ _
      | exact LeO.none _
      | refine LeO.ite ?_ ?_
      | refine LeO.bind ?_ (fun _ => ?_)
set_option maxHeartbeats 8000000 in
set_option maxRecDepth 100000 in
theorem almanaclaw02_DevFlushes.callsT (k : Nat) (A0_0 : Option Addr) (c0_0 : Nat) (l0_0 : List ByteArray) (A0_1 : Option Addr) (c0_1 : Nat) (l0_1 : List (S40)) (a0_2 : Int) (a0_3 : Bool) (r : Bool) (w : World) (hr0_0 : Kd.C Kd.string w A0_0 l0_0.length l0_0) (hc0_0 : l0_0.length ≤ c0_0) (hr0_1 : Kd.C k40 w A0_1 l0_1.length l0_1) (hc0_1 : l0_1.length ≤ c0_1) (h : almanaclaw02_DevFlushes.f k l0_0 l0_1 a0_2 a0_3 = some r) (hr : r = true) :
    Calls Try.prog 3 #[.agg #[.slice A0_0 l0_0.length c0_0, .slice A0_1 l0_1.length c0_1, .int .i64 a0_2, .bool a0_3]] w fun e w' => e = .returned (.bool r) ∧ Below w.heap.size w w' := by
  have HRT := Aside0.mk hr
  clear hr
  have hu25 := Try.underlying25
  have HR0_0 := Aside0.mk hr0_0
  have HC0_0 := Aside0.mk hc0_0
  clear hr0_0 hc0_0
  have HR0_1 := Aside0.mk hr0_1
  have HC0_1 := Aside0.mk hc0_1
  clear hr0_1 hc0_1
  have HB := Aside0.mk (Below.refl w.heap.size w)
  have H : ((almanacref02_Fit.f k l0_0 l0_1 a0_2 a0_3).bind fun t346 => (if t346 = true then ((almanacref02_Copy.f l0_0 l0_1 a0_2 a0_3).bind fun bt348 => ((dev_Flush.f bt348.1 bt348.2.1 bt348.2.2.1 bt348.2.2.2).bind fun bt357 => (if 0 ≤ (l0_1.length : Int) then (if ((l0_1.length : Int) : Int).toNat ≤ 281474976710656 then ((some (List.replicate ((l0_1.length : Int) : Int).toNat false : List Bool)).bind fun y367 => (almanaclaw02_DevFlushes.l0 k bt357.2.2.2.2 y367 (y367.length : Int) 0 l0_0 l0_1 a0_2 a0_3 bt348.1 bt348.2.1 bt348.2.2.1 bt348.2.2.2 bt357.1 bt357.2.1 bt357.2.2.1 bt357.2.2.2.1)) else (none)) else (none)))) else ((almanaclaw02_awake.f k).bind fun t347 => (some t347)))) = some r := h
  clear h
  replace H := Option.bind_eq_some_iff.mp H
  obtain ⟨t346, A20, H⟩ := H
  replace H : (if t346 = true then ((almanacref02_Copy.f l0_0 l0_1 a0_2 a0_3).bind fun bt348 => ((dev_Flush.f bt348.1 bt348.2.1 bt348.2.2.1 bt348.2.2.2).bind fun bt357 => (if 0 ≤ (l0_1.length : Int) then (if ((l0_1.length : Int) : Int).toNat ≤ 281474976710656 then ((some (List.replicate ((l0_1.length : Int) : Int).toNat false : List Bool)).bind fun y367 => (almanaclaw02_DevFlushes.l0 k bt357.2.2.2.2 y367 (y367.length : Int) 0 l0_0 l0_1 a0_2 a0_3 bt348.1 bt348.2.1 bt348.2.2.1 bt348.2.2.2 bt357.1 bt357.2.1 bt357.2.2.1 bt357.2.2.2.1)) else (none)) else (none)))) else ((almanaclaw02_awake.f k).bind fun t347 => (some t347))) = some r := H
  have A2 := Aside0.mk A20
  clear A20
  by_cases c3 : t346 = true
  · subst c3
    have H1 : ((almanacref02_Copy.f l0_0 l0_1 a0_2 a0_3).bind fun bt348 => ((dev_Flush.f bt348.1 bt348.2.1 bt348.2.2.1 bt348.2.2.2).bind fun bt357 => (if 0 ≤ (l0_1.length : Int) then (if ((l0_1.length : Int) : Int).toNat ≤ 281474976710656 then ((some (List.replicate ((l0_1.length : Int) : Int).toNat false : List Bool)).bind fun y367 => (almanaclaw02_DevFlushes.l0 k bt357.2.2.2.2 y367 (y367.length : Int) 0 l0_0 l0_1 a0_2 a0_3 bt348.1 bt348.2.1 bt348.2.2.1 bt348.2.2.2 bt357.1 bt357.2.1 bt357.2.2.1 bt357.2.2.2.1)) else (none)) else (none)))) = some r := by rw [if_pos rfl] at H; exact H
    clear H
    have H := H1
    clear H1
    replace H := Option.bind_eq_some_iff.mp H
    obtain ⟨⟨t348, t351, t354, t355⟩, A40, H⟩ := H
    replace H : ((dev_Flush.f t348 t351 t354 t355).bind fun bt357 => (if 0 ≤ (l0_1.length : Int) then (if ((l0_1.length : Int) : Int).toNat ≤ 281474976710656 then ((some (List.replicate ((l0_1.length : Int) : Int).toNat false : List Bool)).bind fun y367 => (almanaclaw02_DevFlushes.l0 k bt357.2.2.2.2 y367 (y367.length : Int) 0 l0_0 l0_1 a0_2 a0_3 t348 t351 t354 t355 bt357.1 bt357.2.1 bt357.2.2.1 bt357.2.2.2.1)) else (none)) else (none))) = some r := H
    have A4 := Aside0.mk A40
    clear A40
    replace H := Option.bind_eq_some_iff.mp H
    obtain ⟨⟨t357, t360, t363, t364, t365⟩, A50, H⟩ := H
    replace H : (if 0 ≤ (l0_1.length : Int) then (if ((l0_1.length : Int) : Int).toNat ≤ 281474976710656 then ((some (List.replicate ((l0_1.length : Int) : Int).toNat false : List Bool)).bind fun y367 => (almanaclaw02_DevFlushes.l0 k t365 y367 (y367.length : Int) 0 l0_0 l0_1 a0_2 a0_3 t348 t351 t354 t355 t357 t360 t363 t364)) else (none)) else (none)) = some r := H
    have A5 := Aside0.mk A50
    clear A50
    by_cases c6 : 0 ≤ (l0_1.length : Int)
    · rw [if_pos c6] at H
      have c6b0 := eq_true c6
      have c6b1 : decide (0 ≤ (l0_1.length : Int)) = true := decide_eq_true c6
      clear c6
      by_cases c7 : ((l0_1.length : Int) : Int).toNat ≤ 281474976710656
      · rw [if_pos c7] at H
        have c7b0 := eq_true c7
        have c7b1 : decide (((l0_1.length : Int) : Int).toNat ≤ 281474976710656) = true := decide_eq_true c7
        clear c7
        obtain ⟨y367, hy367⟩ : ∃ y_ : List Bool, y_ = (List.replicate ((l0_1.length : Int) : Int).toNat false) := ⟨_, rfl⟩
        replace H : (almanaclaw02_DevFlushes.l0 k t365 y367 (y367.length : Int) 0 l0_0 l0_1 a0_2 a0_3 t348 t351 t354 t355 t357 t360 t363 t364) = some r := by first | (rw [hy367]; with_reducible exact H) | (have H2_ := (Option.bind_some _ _).symm.trans H; rw [hy367]; with_reducible exact H2_) | (have H2_ := (Option.bind_some _ _).symm.trans H; with_reducible exact H2_) | with_reducible exact H | (rw [hy367]; exact H) | exact H
        have Ny367 := Aside0.mk hy367
        clear hy367
        have H' := Aside0.mk H
        clear H
        go_enter Try.func3, Try.ntmps3
        go_wp2_with (first | ((with_reducible refine gate_dst (N := 1) rfl ?_); (try (refine gate_guard (by rfl) ?_; dsimp only)); refine box_event ?hg (N := 1) ?hd (cs := #[.slice A0_0 l0_0.length c0_0, .slice A0_1 l0_1.length c0_1, .int .i64 a0_2, .bool a0_3]) (t := 25) ?hr ?_; (case hd => rfl); (case hg => rfl); (case hr => first | (go_simp; done) | (go_simp; rfl)); intro gb345 hg w8 hbox hb; have n0_ := Aside0.mk (below_step (by repeat (first | (with_reducible first | exact HB.out | apply below_alloc | apply pw_below_drewN | apply below_drew1) | exact HB.out)) hb); have n1_ := Aside0.mk (hbox); have n2_ := Aside0.mk ((by rw [hg]; exact (below_size (by repeat (first | (with_reducible first | exact HB.out | apply below_alloc | apply pw_below_drewN | apply below_drew1) | exact HB.out))) : w.heap.size ≤ gb345)); have n3_ := Aside0.mk ((by rw [hg]; exact (below_size (by repeat (first | (with_reducible first | exact HB.out | apply below_alloc | apply pw_below_drewN | apply below_drew1) | exact HB.out))) : w.heap.size ≤ gb345)); clear HB; have HB := n0_; have BK345 := n1_; have GW345 := n2_; have GE345 := n3_; clear n0_ n1_ n2_ n3_; clear hb hbox hg; have hcz9_0 : w8.cell? ⟨gb345, 0, none⟩ = some (.slice A0_0 l0_0.length c0_0) := (blk_cell BK345.out 0).trans rfl; have hcz9_1 : w8.cell? ⟨gb345, 1, none⟩ = some (.slice A0_1 l0_1.length c0_1) := (blk_cell BK345.out 1).trans rfl; have hcz9_2 : w8.cell? ⟨gb345, 2, none⟩ = some (.int .i64 a0_2) := (blk_cell BK345.out 2).trans rfl; have hcz9_3 : w8.cell? ⟨gb345, 3, none⟩ = some (.bool a0_3) := (blk_cell BK345.out 3).trans rfl; have hfz9_0 := blk_frozen BK345.out 0; have hfz9_1 := blk_frozen BK345.out 1; have hfz9_2 := blk_frozen BK345.out 2; have hfz9_3 := blk_frozen BK345.out 3) | ((with_reducible refine gate_callee (f := 7) rfl ?_); refine goesL_ (some 13) rfl rfl Try.func7 (by kernel_rfl) rfl #[.agg #[.slice A0_0 l0_0.length c0_0, .slice A0_1 l0_1.length c0_1, .int .i64 a0_2, .bool a0_3]] rfl (by (try simp only [List.map_toArray, List.map_cons, List.map_nil]); first | done | rfl | (simp only [List.length_drop, List.length_take]; rfl)) ?_; (with_reducible refine (almanacref02_Fit.calls k _ _ l0_0 _ _ l0_1 a0_2 a0_3 true _ ?side1 ?side2 ?side3 ?side4 A2.out).mono ?_); (case side1 => repeat (first | exact (Kd.C_below HR0_0.out HB.out) | (with_reducible refine Kd.C_alloc ?_ _) | (with_reducible refine Kd.C_drewN ?_ _) | (with_reducible refine Kd.C_drew ?_))); (case side2 => exact HC0_0.out); (case side3 => repeat (first | exact (Kd.C_below HR0_1.out HB.out) | (with_reducible refine Kd.C_alloc ?_ _) | (with_reducible refine Kd.C_drewN ?_ _) | (with_reducible refine Kd.C_drew ?_))); (case side4 => exact HC0_1.out); rintro e w10 ⟨rfl, hb⟩; refine ⟨_, rfl, ?_⟩; have n0_ := Aside0.mk (blk_below (g := gb345) (o := .cells #[.slice A0_0 l0_0.length c0_0, .slice A0_1 l0_1.length c0_1, .int .i64 a0_2, .bool a0_3] 25 (0, 0)) (by (with_reducible repeat (first | refine blk_drewN ?_ _ | refine blk_drew ?_ | refine blk_alloc ?_ _)); exact BK345.out) hb); have n1_ := Aside0.mk (below_step (by repeat (first | (with_reducible first | exact HB.out | apply below_alloc | apply pw_below_drewN | apply below_drew1 | refine below_set ?_ GE345.out) | exact HB.out)) hb); clear BK345; clear HB; have BK345 := n0_; have HB := n1_; clear n0_ n1_; (try clear hb); (try clear hb2); (try clear hk); (try clear hi); have hcz11_0 : w10.cell? ⟨gb345, 0, none⟩ = some (.slice A0_0 l0_0.length c0_0) := (blk_cell BK345.out 0).trans rfl; have hcz11_1 : w10.cell? ⟨gb345, 1, none⟩ = some (.slice A0_1 l0_1.length c0_1) := (blk_cell BK345.out 1).trans rfl; have hcz11_2 : w10.cell? ⟨gb345, 2, none⟩ = some (.int .i64 a0_2) := (blk_cell BK345.out 2).trans rfl; have hcz11_3 : w10.cell? ⟨gb345, 3, none⟩ = some (.bool a0_3) := (blk_cell BK345.out 3).trans rfl; have hfz11_0 := blk_frozen BK345.out 0; have hfz11_1 := blk_frozen BK345.out 1; have hfz11_2 := blk_frozen BK345.out 2; have hfz11_3 := blk_frozen BK345.out 3) | ((with_reducible refine gate_callee (f := 9) rfl ?_); refine goesL_ (some 17) rfl rfl Try.func9 (by kernel_rfl) rfl #[.agg #[.slice A0_0 l0_0.length c0_0, .slice A0_1 l0_1.length c0_1, .int .i64 a0_2, .bool a0_3]] rfl (by (try simp only [List.map_toArray, List.map_cons, List.map_nil]); first | done | rfl | (simp only [List.length_drop, List.length_take]; rfl)) ?_; (with_reducible refine (almanacref02_Copy.calls _ _ l0_0 _ _ l0_1 a0_2 a0_3 t348 t351 t354 t355 _ ?side1 ?side2 ?side3 ?side4 A4.out).mono ?_); (case side1 => repeat (first | exact (Kd.C_below HR0_0.out HB.out) | (with_reducible refine Kd.C_alloc ?_ _) | (with_reducible refine Kd.C_drewN ?_ _) | (with_reducible refine Kd.C_drew ?_))); (case side2 => exact HC0_0.out); (case side3 => repeat (first | exact (Kd.C_below HR0_1.out HB.out) | (with_reducible refine Kd.C_alloc ?_ _) | (with_reducible refine Kd.C_drewN ?_ _) | (with_reducible refine Kd.C_drew ?_))); (case side4 => exact HC0_1.out); rintro e w12 ⟨v349, v352, rfl, ho0, ho1, hb⟩; refine ⟨_, rfl, ?_⟩; have n0_ := Aside0.mk (Kd.R_lower ho0 (below_size (by repeat (first | (with_reducible first | exact HB.out | apply below_alloc | apply pw_below_drewN | apply below_drew1 | refine below_set ?_ GE345.out) | exact HB.out)))); have n1_ := Aside0.mk (Kd.R_lower ho1 (below_size (by repeat (first | (with_reducible first | exact HB.out | apply below_alloc | apply pw_below_drewN | apply below_drew1 | refine below_set ?_ GE345.out) | exact HB.out)))); have n2_ := Aside0.mk (blk_below (g := gb345) (o := .cells #[.slice A0_0 l0_0.length c0_0, .slice A0_1 l0_1.length c0_1, .int .i64 a0_2, .bool a0_3] 25 (0, 0)) (by (with_reducible repeat (first | refine blk_drewN ?_ _ | refine blk_drew ?_ | refine blk_alloc ?_ _)); exact BK345.out) hb); have n3_ := Aside0.mk (below_step (by repeat (first | (with_reducible first | exact HB.out | apply below_alloc | apply pw_below_drewN | apply below_drew1 | refine below_set ?_ GE345.out) | exact HB.out)) hb); clear BK345; clear HB; have HO350 := n0_; have HO353 := n1_; have BK345 := n2_; have HB := n3_; clear n0_ n1_ n2_ n3_; (try clear hb); (try clear hb2); (try clear hk); (try clear hi); (try clear ho0); (try clear ho1)) | ((with_reducible refine gate_dst (N := 3) rfl ?_); (try (refine gate_guard (by rfl) ?_; dsimp only)); refine box_event ?hg (N := 3) ?hd (cs := #[.slice none 0 0, .slice none 0 0, .int .i64 0, .bool false]) (t := 25) ?hr ?_; (case hd => rfl); (case hg => rfl); (case hr => first | (go_simp; done) | (go_simp; rfl)); intro gb356 hg w13 hbox hb; have n0_ := Aside0.mk (Kd.R_below (by (with_reducible repeat (first | apply Kd.R_alloc | apply Kd.R_drewN | apply Kd.R_drew)); exact HO350.out) hb); have n1_ := Aside0.mk (Kd.R_below (by (with_reducible repeat (first | apply Kd.R_alloc | apply Kd.R_drewN | apply Kd.R_drew)); exact HO353.out) hb); have n2_ := Aside0.mk (blk_below (g := gb345) (o := .cells #[.slice A0_0 l0_0.length c0_0, .slice A0_1 l0_1.length c0_1, .int .i64 a0_2, .bool a0_3] 25 (0, 0)) (by (with_reducible repeat (first | refine blk_drewN ?_ _ | refine blk_drew ?_ | refine blk_alloc ?_ _)); exact BK345.out) hb); have n3_ := Aside0.mk (below_step (by repeat (first | (with_reducible first | exact HB.out | apply below_alloc | apply pw_below_drewN | apply below_drew1 | refine below_set ?_ GE345.out) | exact HB.out)) hb); have n4_ := Aside0.mk (hbox); have n5_ := Aside0.mk ((by rw [hg]; exact (below_size (by repeat (first | (with_reducible first | exact HB.out | apply below_alloc | apply pw_below_drewN | apply below_drew1 | refine below_set ?_ GE345.out) | exact HB.out))) : w.heap.size ≤ gb356)); have n6_ := Aside0.mk ((by rw [hg]; exact (below_size (by repeat (first | (with_reducible first | exact HB.out | apply below_alloc | apply pw_below_drewN | apply below_drew1 | refine below_set ?_ GE345.out) | exact HB.out))) : w.heap.size ≤ gb356)); have n7_ := Aside0.mk ((by rw [hg]; exact Nat.ne_of_lt (blk_lt (g := gb345) (o := .cells #[.slice A0_0 l0_0.length c0_0, .slice A0_1 l0_1.length c0_1, .int .i64 a0_2, .bool a0_3] 25 (0, 0)) (by (with_reducible repeat (first | refine blk_drewN ?_ _ | refine blk_drew ?_ | refine blk_alloc ?_ _)); exact BK345.out)) : gb345 ≠ gb356)); have n8_ := Aside0.mk ((by rw [hg]; exact Nat.ne_of_gt (blk_lt (g := gb345) (o := .cells #[.slice A0_0 l0_0.length c0_0, .slice A0_1 l0_1.length c0_1, .int .i64 a0_2, .bool a0_3] 25 (0, 0)) (by (with_reducible repeat (first | refine blk_drewN ?_ _ | refine blk_drew ?_ | refine blk_alloc ?_ _)); exact BK345.out)) : gb356 ≠ gb345)); clear HO350; clear HO353; clear BK345; clear HB; have HO350 := n0_; have HO353 := n1_; have BK345 := n2_; have HB := n3_; have BK356 := n4_; have GW356 := n5_; have GE356 := n6_; have NB345_356 := n7_; have NB356_345 := n8_; clear n0_ n1_ n2_ n3_ n4_ n5_ n6_ n7_ n8_; clear hb hbox hg; obtain ⟨Ao14, co14, eo14⟩ := Kd.R_slice HO350.out; subst eo14; have hnb15 := NB356_345.out; have hnc15 := NB345_356.out; have hcz16_0 : w13.cell? ⟨gb356, 0, none⟩ = some (.slice none 0 0) := (blk_cell BK356.out 0).trans rfl; have hcz16_1 : w13.cell? ⟨gb356, 1, none⟩ = some (.slice none 0 0) := (blk_cell BK356.out 1).trans rfl; have hcz16_2 : w13.cell? ⟨gb356, 2, none⟩ = some (.int .i64 0) := (blk_cell BK356.out 2).trans rfl; have hcz16_3 : w13.cell? ⟨gb356, 3, none⟩ = some (.bool false) := (blk_cell BK356.out 3).trans rfl; have hfz16_0 := blk_frozen BK356.out 0; have hfz16_1 := blk_frozen BK356.out 1; have hfz16_2 := blk_frozen BK356.out 2; have hfz16_3 := blk_frozen BK356.out 3; obtain ⟨Ao17, co17, eo17⟩ := Kd.R_slice HO353.out; subst eo17) | ((with_reducible refine gate_callee (f := 10) rfl ?_); refine goesL_ (some 20) rfl rfl Try.func10 (by kernel_rfl) rfl #[.agg #[.slice Ao14 t348.length co14, .slice Ao17 t351.length co17, .int .i64 t354, .bool t355]] rfl (by (try simp only [List.map_toArray, List.map_cons, List.map_nil]); first | done | rfl | (simp only [List.length_drop, List.length_take]; rfl)) ?_; (with_reducible refine (dev_Flush.calls _ _ t348 _ _ t351 t354 t355 t357 t360 t363 t364 t365 _ ?side1 ?side2 ?side3 ?side4 A5.out).mono ?_); (case side1 => refine (Kd.R_reads' (e := 9) (base := w.heap.size) (ok := fun k_ => True) (n := t348.length) (c := co14) ?_).2.2; exact (by (with_reducible repeat (first | apply Kd.R_alloc | apply Kd.R_drewN | apply Kd.R_drew)); exact (Kd.R_mono (Kd.R_far (p := ⟨gb356, 3, none⟩) (Kd.R_far (p := ⟨gb356, 2, none⟩) (Kd.R_far (p := ⟨gb356, 1, none⟩) (Kd.R_far (p := ⟨gb356, 0, none⟩) (Kd.R_types HO350.out BK356.out (by decide)) (fun _ hk => hk.2) (.slice Ao14 t348.length co14)) (fun _ hk => hk.2) (.slice Ao17 t351.length co17)) (fun _ hk => hk.2) (.int .i64 t354)) (fun _ hk => hk.2) (.bool t355)) (fun _ h_ => h_.1)))); (case side2 => exact (Kd.R_reads' HO350.out).2.1); (case side3 => refine (Kd.R_reads' (e := 40) (base := w.heap.size) (ok := fun k_ => True) (n := t351.length) (c := co17) ?_).2.2; exact (by (with_reducible repeat (first | apply Kd.R_alloc | apply Kd.R_drewN | apply Kd.R_drew)); exact (Kd.R_mono (Kd.R_far (p := ⟨gb356, 3, none⟩) (Kd.R_far (p := ⟨gb356, 2, none⟩) (Kd.R_far (p := ⟨gb356, 1, none⟩) (Kd.R_far (p := ⟨gb356, 0, none⟩) (Kd.R_types HO353.out BK356.out (by decide)) (fun _ hk => hk.2) (.slice Ao14 t348.length co14)) (fun _ hk => hk.2) (.slice Ao17 t351.length co17)) (fun _ hk => hk.2) (.int .i64 t354)) (fun _ hk => hk.2) (.bool t355)) (fun _ h_ => h_.1)))); (case side4 => exact (Kd.R_reads' HO353.out).2.1); rintro e w18 ⟨v358, v361, rfl, ho0, ho1, hb⟩; refine ⟨_, rfl, ?_⟩; have n0_ := Aside0.mk (Kd.R_elder' (by (with_reducible repeat (first | apply Kd.R_alloc | apply Kd.R_drewN | apply Kd.R_drew)); exact (Kd.R_mono (Kd.R_far (p := ⟨gb356, 3, none⟩) (Kd.R_far (p := ⟨gb356, 2, none⟩) (Kd.R_far (p := ⟨gb356, 1, none⟩) (Kd.R_far (p := ⟨gb356, 0, none⟩) (Kd.R_types HO350.out BK356.out (by decide)) (fun _ hk => hk.2) (.slice Ao14 t348.length co14)) (fun _ hk => hk.2) (.slice Ao17 t351.length co17)) (fun _ hk => hk.2) (.int .i64 t354)) (fun _ hk => hk.2) (.bool t355)) (fun _ h_ => h_.1))) (Kd.R_base ho0) hb); have n1_ := Aside0.mk (Kd.R_elder' (by (with_reducible repeat (first | apply Kd.R_alloc | apply Kd.R_drewN | apply Kd.R_drew)); exact (Kd.R_mono (Kd.R_far (p := ⟨gb356, 3, none⟩) (Kd.R_far (p := ⟨gb356, 2, none⟩) (Kd.R_far (p := ⟨gb356, 1, none⟩) (Kd.R_far (p := ⟨gb356, 0, none⟩) (Kd.R_types HO353.out BK356.out (by decide)) (fun _ hk => hk.2) (.slice Ao14 t348.length co14)) (fun _ hk => hk.2) (.slice Ao17 t351.length co17)) (fun _ hk => hk.2) (.int .i64 t354)) (fun _ hk => hk.2) (.bool t355)) (fun _ h_ => h_.1))) (Kd.R_base ho1) hb); have n2_ := Aside0.mk (Kd.R_lower (Kd.R_new' ho0 (Kd.R_lt (by (with_reducible repeat (first | apply Kd.R_alloc | apply Kd.R_drewN | apply Kd.R_drew)); exact (Kd.R_mono (Kd.R_far (p := ⟨gb356, 3, none⟩) (Kd.R_far (p := ⟨gb356, 2, none⟩) (Kd.R_far (p := ⟨gb356, 1, none⟩) (Kd.R_far (p := ⟨gb356, 0, none⟩) (Kd.R_types HO350.out BK356.out (by decide)) (fun _ hk => hk.2) (.slice Ao14 t348.length co14)) (fun _ hk => hk.2) (.slice Ao17 t351.length co17)) (fun _ hk => hk.2) (.int .i64 t354)) (fun _ hk => hk.2) (.bool t355)) (fun _ h_ => h_.1))))) (below_size (by repeat (first | (with_reducible first | exact HB.out | apply below_alloc | apply pw_below_drewN | apply below_drew1 | refine below_set ?_ GE345.out | refine below_set ?_ GE356.out) | exact HB.out)))); have n3_ := Aside0.mk (Kd.R_lower (Kd.R_new' ho1 (Kd.R_lt (by (with_reducible repeat (first | apply Kd.R_alloc | apply Kd.R_drewN | apply Kd.R_drew)); exact (Kd.R_mono (Kd.R_far (p := ⟨gb356, 3, none⟩) (Kd.R_far (p := ⟨gb356, 2, none⟩) (Kd.R_far (p := ⟨gb356, 1, none⟩) (Kd.R_far (p := ⟨gb356, 0, none⟩) (Kd.R_types HO353.out BK356.out (by decide)) (fun _ hk => hk.2) (.slice Ao14 t348.length co14)) (fun _ hk => hk.2) (.slice Ao17 t351.length co17)) (fun _ hk => hk.2) (.int .i64 t354)) (fun _ hk => hk.2) (.bool t355)) (fun _ h_ => h_.1))))) (below_size (by repeat (first | (with_reducible first | exact HB.out | apply below_alloc | apply pw_below_drewN | apply below_drew1 | refine below_set ?_ GE345.out | refine below_set ?_ GE356.out) | exact HB.out)))); have n4_ := Aside0.mk (blk_below (g := gb345) (o := .cells #[.slice A0_0 l0_0.length c0_0, .slice A0_1 l0_1.length c0_1, .int .i64 a0_2, .bool a0_3] 25 (0, 0)) (by (with_reducible repeat (first | refine blk_drewN ?_ _ | refine blk_drew ?_ | refine blk_alloc ?_ _)); refine blk_far ?_ NB345_356.out _; (with_reducible repeat (first | refine blk_drewN ?_ _ | refine blk_drew ?_ | refine blk_alloc ?_ _)); refine blk_far ?_ NB345_356.out _; (with_reducible repeat (first | refine blk_drewN ?_ _ | refine blk_drew ?_ | refine blk_alloc ?_ _)); refine blk_far ?_ NB345_356.out _; (with_reducible repeat (first | refine blk_drewN ?_ _ | refine blk_drew ?_ | refine blk_alloc ?_ _)); refine blk_far ?_ NB345_356.out _; (with_reducible repeat (first | refine blk_drewN ?_ _ | refine blk_drew ?_ | refine blk_alloc ?_ _)); exact BK345.out) hb); have n5_ := Aside0.mk (blk_below (g := gb356) (o := .cells #[.slice Ao14 t348.length co14, .slice Ao17 t351.length co17, .int .i64 t354, .bool t355] 25 (0, 0)) (by (with_reducible repeat (first | refine blk_drewN ?_ _ | refine blk_drew ?_ | refine blk_alloc ?_ _)); refine blk_put (cs := #[.slice Ao14 t348.length co14, .slice Ao17 t351.length co17, .int .i64 t354, .bool false]) ?_ 3 _ rfl; (with_reducible repeat (first | refine blk_drewN ?_ _ | refine blk_drew ?_ | refine blk_alloc ?_ _)); refine blk_put (cs := #[.slice Ao14 t348.length co14, .slice Ao17 t351.length co17, .int .i64 0, .bool false]) ?_ 2 _ rfl; (with_reducible repeat (first | refine blk_drewN ?_ _ | refine blk_drew ?_ | refine blk_alloc ?_ _)); refine blk_put (cs := #[.slice Ao14 t348.length co14, .slice none 0 0, .int .i64 0, .bool false]) ?_ 1 _ rfl; (with_reducible repeat (first | refine blk_drewN ?_ _ | refine blk_drew ?_ | refine blk_alloc ?_ _)); refine blk_put (cs := #[.slice none 0 0, .slice none 0 0, .int .i64 0, .bool false]) ?_ 0 _ rfl; (with_reducible repeat (first | refine blk_drewN ?_ _ | refine blk_drew ?_ | refine blk_alloc ?_ _)); exact BK356.out) hb); have n6_ := Aside0.mk (below_step (by repeat (first | (with_reducible first | exact HB.out | apply below_alloc | apply pw_below_drewN | apply below_drew1 | refine below_set ?_ GE345.out | refine below_set ?_ GE356.out) | exact HB.out)) hb); clear HO350; clear HO353; clear BK345; clear BK356; clear HB; have HO350 := n0_; have HO353 := n1_; have HO359 := n2_; have HO362 := n3_; have BK345 := n4_; have BK356 := n5_; have HB := n6_; clear n0_ n1_ n2_ n3_ n4_ n5_ n6_; (try clear hb); (try clear hb2); (try clear hk); (try clear hi); (try clear ho0); (try clear ho1)) | ((with_reducible refine gate_dst (N := 4) rfl ?_); (try (refine gate_guard (by rfl) ?_; dsimp only)); refine box_event ?hg (N := 4) ?hd (cs := #[.slice none 0 0, .slice none 0 0, .int .i64 0, .bool false]) (t := 25) ?hr ?_; (case hd => rfl); (case hg => rfl); (case hr => first | (go_simp; done) | (go_simp; rfl)); intro gb366 hg w19 hbox hb; have n0_ := Aside0.mk (Kd.R_below (by (with_reducible repeat (first | apply Kd.R_alloc | apply Kd.R_drewN | apply Kd.R_drew)); exact HO350.out) hb); have n1_ := Aside0.mk (Kd.R_below (by (with_reducible repeat (first | apply Kd.R_alloc | apply Kd.R_drewN | apply Kd.R_drew)); exact HO353.out) hb); have n2_ := Aside0.mk (Kd.R_below (by (with_reducible repeat (first | apply Kd.R_alloc | apply Kd.R_drewN | apply Kd.R_drew)); exact HO359.out) hb); have n3_ := Aside0.mk (Kd.R_below (by (with_reducible repeat (first | apply Kd.R_alloc | apply Kd.R_drewN | apply Kd.R_drew)); exact HO362.out) hb); have n4_ := Aside0.mk (blk_below (g := gb345) (o := .cells #[.slice A0_0 l0_0.length c0_0, .slice A0_1 l0_1.length c0_1, .int .i64 a0_2, .bool a0_3] 25 (0, 0)) (by (with_reducible repeat (first | refine blk_drewN ?_ _ | refine blk_drew ?_ | refine blk_alloc ?_ _)); exact BK345.out) hb); have n5_ := Aside0.mk (blk_below (g := gb356) (o := .cells #[.slice Ao14 t348.length co14, .slice Ao17 t351.length co17, .int .i64 t354, .bool t355] 25 (0, 0)) (by (with_reducible repeat (first | refine blk_drewN ?_ _ | refine blk_drew ?_ | refine blk_alloc ?_ _)); exact BK356.out) hb); have n6_ := Aside0.mk (below_step (by repeat (first | (with_reducible first | exact HB.out | apply below_alloc | apply pw_below_drewN | apply below_drew1 | refine below_set ?_ GE345.out | refine below_set ?_ GE356.out) | exact HB.out)) hb); have n7_ := Aside0.mk (hbox); have n8_ := Aside0.mk ((by rw [hg]; exact (below_size (by repeat (first | (with_reducible first | exact HB.out | apply below_alloc | apply pw_below_drewN | apply below_drew1 | refine below_set ?_ GE345.out | refine below_set ?_ GE356.out) | exact HB.out))) : w.heap.size ≤ gb366)); have n9_ := Aside0.mk ((by rw [hg]; exact (below_size (by repeat (first | (with_reducible first | exact HB.out | apply below_alloc | apply pw_below_drewN | apply below_drew1 | refine below_set ?_ GE345.out | refine below_set ?_ GE356.out) | exact HB.out))) : w.heap.size ≤ gb366)); have n10_ := Aside0.mk ((by rw [hg]; exact Nat.ne_of_lt (blk_lt (g := gb345) (o := .cells #[.slice A0_0 l0_0.length c0_0, .slice A0_1 l0_1.length c0_1, .int .i64 a0_2, .bool a0_3] 25 (0, 0)) (by (with_reducible repeat (first | refine blk_drewN ?_ _ | refine blk_drew ?_ | refine blk_alloc ?_ _)); exact BK345.out)) : gb345 ≠ gb366)); have n11_ := Aside0.mk ((by rw [hg]; exact Nat.ne_of_gt (blk_lt (g := gb345) (o := .cells #[.slice A0_0 l0_0.length c0_0, .slice A0_1 l0_1.length c0_1, .int .i64 a0_2, .bool a0_3] 25 (0, 0)) (by (with_reducible repeat (first | refine blk_drewN ?_ _ | refine blk_drew ?_ | refine blk_alloc ?_ _)); exact BK345.out)) : gb366 ≠ gb345)); have n12_ := Aside0.mk ((by rw [hg]; exact Nat.ne_of_lt (blk_lt (g := gb356) (o := .cells #[.slice Ao14 t348.length co14, .slice Ao17 t351.length co17, .int .i64 t354, .bool t355] 25 (0, 0)) (by (with_reducible repeat (first | refine blk_drewN ?_ _ | refine blk_drew ?_ | refine blk_alloc ?_ _)); exact BK356.out)) : gb356 ≠ gb366)); have n13_ := Aside0.mk ((by rw [hg]; exact Nat.ne_of_gt (blk_lt (g := gb356) (o := .cells #[.slice Ao14 t348.length co14, .slice Ao17 t351.length co17, .int .i64 t354, .bool t355] 25 (0, 0)) (by (with_reducible repeat (first | refine blk_drewN ?_ _ | refine blk_drew ?_ | refine blk_alloc ?_ _)); exact BK356.out)) : gb366 ≠ gb356)); clear HO350; clear HO353; clear HO359; clear HO362; clear BK345; clear BK356; clear HB; have HO350 := n0_; have HO353 := n1_; have HO359 := n2_; have HO362 := n3_; have BK345 := n4_; have BK356 := n5_; have HB := n6_; have BK366 := n7_; have GW366 := n8_; have GE366 := n9_; have NB345_366 := n10_; have NB366_345 := n11_; have NB356_366 := n12_; have NB366_356 := n13_; clear n0_ n1_ n2_ n3_ n4_ n5_ n6_ n7_ n8_ n9_ n10_ n11_ n12_ n13_; clear hb hbox hg; obtain ⟨Ao20, co20, eo20⟩ := Kd.R_slice HO359.out; subst eo20; have hnb21 := NB366_345.out; have hnc21 := NB345_366.out; have hnb22 := NB366_356.out; have hnc22 := NB356_366.out; have hcz23_0 : w19.cell? ⟨gb366, 0, none⟩ = some (.slice none 0 0) := (blk_cell BK366.out 0).trans rfl; have hcz23_1 : w19.cell? ⟨gb366, 1, none⟩ = some (.slice none 0 0) := (blk_cell BK366.out 1).trans rfl; have hcz23_2 : w19.cell? ⟨gb366, 2, none⟩ = some (.int .i64 0) := (blk_cell BK366.out 2).trans rfl; have hcz23_3 : w19.cell? ⟨gb366, 3, none⟩ = some (.bool false) := (blk_cell BK366.out 3).trans rfl; have hfz23_0 := blk_frozen BK366.out 0; have hfz23_1 := blk_frozen BK366.out 1; have hfz23_2 := blk_frozen BK366.out 2; have hfz23_3 := blk_frozen BK366.out 3; obtain ⟨Ao24, co24, eo24⟩ := Kd.R_slice HO362.out; subst eo24; have hcz25_0 : w19.cell? ⟨gb345, 0, none⟩ = some (.slice A0_0 l0_0.length c0_0) := (blk_cell BK345.out 0).trans rfl; have hcz25_1 : w19.cell? ⟨gb345, 1, none⟩ = some (.slice A0_1 l0_1.length c0_1) := (blk_cell BK345.out 1).trans rfl; have hcz25_2 : w19.cell? ⟨gb345, 2, none⟩ = some (.int .i64 a0_2) := (blk_cell BK345.out 2).trans rfl; have hcz25_3 : w19.cell? ⟨gb345, 3, none⟩ = some (.bool a0_3) := (blk_cell BK345.out 3).trans rfl; have hfz25_0 := blk_frozen BK345.out 0; have hfz25_1 := blk_frozen BK345.out 1; have hfz25_2 := blk_frozen BK345.out 2; have hfz25_3 := blk_frozen BK345.out 3) | ((with_reducible refine gate_dst (N := 26) rfl ?_); (try (refine gate_guard (by rfl) ?_; dsimp only)); refine Kd.R_make Kd.bool _ 4 rfl (N := 26) rfl 32 _ _ rfl (l0_1.length : Int) rfl rfl Try.underlying32 (.bool false) 1 info4 rfl (by decide) (by omega) false (ok := fun _ => True) (okp := fun _ => True) rfl (fun _ hk => hk) trivial (of_decide_eq_true (by first | (with_reducible assumption) | assumption)) (Nat.le_trans (Nat.mul_le_mul_right _ (of_decide_eq_true (by first | (with_reducible assumption) | assumption) : (l0_1.length : Int).toNat ≤ 281474976710656)) (by omega)) (Below.refl _ _) (Nat.le_refl _) ?_; intro v368 w26 ho27 hb hg_ hnew_; clear hg_ hnew_; (first | rw [← Ny367.out] at ho27 | (simp only [Int.reduceToNat] at ho27; rw [← Ny367.out] at ho27)); have n0_ := Aside0.mk (Kd.R_below (by (with_reducible repeat (first | apply Kd.R_alloc | apply Kd.R_drewN | apply Kd.R_drew)); exact (Kd.R_mono (Kd.R_far (p := ⟨gb366, 3, none⟩) (Kd.R_far (p := ⟨gb366, 2, none⟩) (Kd.R_far (p := ⟨gb366, 1, none⟩) (Kd.R_far (p := ⟨gb366, 0, none⟩) (Kd.R_types HO350.out BK366.out (by decide)) (fun _ hk => hk.2) (.slice Ao20 t357.length co20)) (fun _ hk => hk.2) (.slice Ao24 t360.length co24)) (fun _ hk => hk.2) (.int .i64 t363)) (fun _ hk => hk.2) (.bool t364)) (fun _ h_ => h_.1))) hb); have n1_ := Aside0.mk (Kd.R_below (by (with_reducible repeat (first | apply Kd.R_alloc | apply Kd.R_drewN | apply Kd.R_drew)); exact (Kd.R_mono (Kd.R_far (p := ⟨gb366, 3, none⟩) (Kd.R_far (p := ⟨gb366, 2, none⟩) (Kd.R_far (p := ⟨gb366, 1, none⟩) (Kd.R_far (p := ⟨gb366, 0, none⟩) (Kd.R_types HO353.out BK366.out (by decide)) (fun _ hk => hk.2) (.slice Ao20 t357.length co20)) (fun _ hk => hk.2) (.slice Ao24 t360.length co24)) (fun _ hk => hk.2) (.int .i64 t363)) (fun _ hk => hk.2) (.bool t364)) (fun _ h_ => h_.1))) hb); have n2_ := Aside0.mk (Kd.R_below (by (with_reducible repeat (first | apply Kd.R_alloc | apply Kd.R_drewN | apply Kd.R_drew)); exact (Kd.R_mono (Kd.R_far (p := ⟨gb366, 3, none⟩) (Kd.R_far (p := ⟨gb366, 2, none⟩) (Kd.R_far (p := ⟨gb366, 1, none⟩) (Kd.R_far (p := ⟨gb366, 0, none⟩) (Kd.R_types HO359.out BK366.out (by decide)) (fun _ hk => hk.2) (.slice Ao20 t357.length co20)) (fun _ hk => hk.2) (.slice Ao24 t360.length co24)) (fun _ hk => hk.2) (.int .i64 t363)) (fun _ hk => hk.2) (.bool t364)) (fun _ h_ => h_.1))) hb); have n3_ := Aside0.mk (Kd.R_below (by (with_reducible repeat (first | apply Kd.R_alloc | apply Kd.R_drewN | apply Kd.R_drew)); exact (Kd.R_mono (Kd.R_far (p := ⟨gb366, 3, none⟩) (Kd.R_far (p := ⟨gb366, 2, none⟩) (Kd.R_far (p := ⟨gb366, 1, none⟩) (Kd.R_far (p := ⟨gb366, 0, none⟩) (Kd.R_types HO362.out BK366.out (by decide)) (fun _ hk => hk.2) (.slice Ao20 t357.length co20)) (fun _ hk => hk.2) (.slice Ao24 t360.length co24)) (fun _ hk => hk.2) (.int .i64 t363)) (fun _ hk => hk.2) (.bool t364)) (fun _ h_ => h_.1))) hb); have n4_ := Aside0.mk (Kd.R_lower ho27 (below_size (by repeat (first | (with_reducible first | exact HB.out | apply below_alloc | apply pw_below_drewN | apply below_drew1 | refine below_set ?_ GE345.out | refine below_set ?_ GE356.out | refine below_set ?_ GE366.out) | exact HB.out)))); have n5_ := Aside0.mk (blk_below (g := gb345) (o := .cells #[.slice A0_0 l0_0.length c0_0, .slice A0_1 l0_1.length c0_1, .int .i64 a0_2, .bool a0_3] 25 (0, 0)) (by (with_reducible repeat (first | refine blk_drewN ?_ _ | refine blk_drew ?_ | refine blk_alloc ?_ _)); refine blk_far ?_ NB345_366.out _; (with_reducible repeat (first | refine blk_drewN ?_ _ | refine blk_drew ?_ | refine blk_alloc ?_ _)); refine blk_far ?_ NB345_366.out _; (with_reducible repeat (first | refine blk_drewN ?_ _ | refine blk_drew ?_ | refine blk_alloc ?_ _)); refine blk_far ?_ NB345_366.out _; (with_reducible repeat (first | refine blk_drewN ?_ _ | refine blk_drew ?_ | refine blk_alloc ?_ _)); refine blk_far ?_ NB345_366.out _; (with_reducible repeat (first | refine blk_drewN ?_ _ | refine blk_drew ?_ | refine blk_alloc ?_ _)); exact BK345.out) hb); have n6_ := Aside0.mk (blk_below (g := gb356) (o := .cells #[.slice Ao14 t348.length co14, .slice Ao17 t351.length co17, .int .i64 t354, .bool t355] 25 (0, 0)) (by (with_reducible repeat (first | refine blk_drewN ?_ _ | refine blk_drew ?_ | refine blk_alloc ?_ _)); refine blk_far ?_ NB356_366.out _; (with_reducible repeat (first | refine blk_drewN ?_ _ | refine blk_drew ?_ | refine blk_alloc ?_ _)); refine blk_far ?_ NB356_366.out _; (with_reducible repeat (first | refine blk_drewN ?_ _ | refine blk_drew ?_ | refine blk_alloc ?_ _)); refine blk_far ?_ NB356_366.out _; (with_reducible repeat (first | refine blk_drewN ?_ _ | refine blk_drew ?_ | refine blk_alloc ?_ _)); refine blk_far ?_ NB356_366.out _; (with_reducible repeat (first | refine blk_drewN ?_ _ | refine blk_drew ?_ | refine blk_alloc ?_ _)); exact BK356.out) hb); have n7_ := Aside0.mk (blk_below (g := gb366) (o := .cells #[.slice Ao20 t357.length co20, .slice Ao24 t360.length co24, .int .i64 t363, .bool t364] 25 (0, 0)) (by (with_reducible repeat (first | refine blk_drewN ?_ _ | refine blk_drew ?_ | refine blk_alloc ?_ _)); refine blk_put (cs := #[.slice Ao20 t357.length co20, .slice Ao24 t360.length co24, .int .i64 t363, .bool false]) ?_ 3 _ rfl; (with_reducible repeat (first | refine blk_drewN ?_ _ | refine blk_drew ?_ | refine blk_alloc ?_ _)); refine blk_put (cs := #[.slice Ao20 t357.length co20, .slice Ao24 t360.length co24, .int .i64 0, .bool false]) ?_ 2 _ rfl; (with_reducible repeat (first | refine blk_drewN ?_ _ | refine blk_drew ?_ | refine blk_alloc ?_ _)); refine blk_put (cs := #[.slice Ao20 t357.length co20, .slice none 0 0, .int .i64 0, .bool false]) ?_ 1 _ rfl; (with_reducible repeat (first | refine blk_drewN ?_ _ | refine blk_drew ?_ | refine blk_alloc ?_ _)); refine blk_put (cs := #[.slice none 0 0, .slice none 0 0, .int .i64 0, .bool false]) ?_ 0 _ rfl; (with_reducible repeat (first | refine blk_drewN ?_ _ | refine blk_drew ?_ | refine blk_alloc ?_ _)); exact BK366.out) hb); have n8_ := Aside0.mk (below_step (by repeat (first | (with_reducible first | exact HB.out | apply below_alloc | apply pw_below_drewN | apply below_drew1 | refine below_set ?_ GE345.out | refine below_set ?_ GE356.out | refine below_set ?_ GE366.out) | exact HB.out)) hb); clear HO350; clear HO353; clear HO359; clear HO362; clear BK345; clear BK356; clear BK366; clear HB; have HO350 := n0_; have HO353 := n1_; have HO359 := n2_; have HO362 := n3_; have HO369 := n4_; have BK345 := n5_; have BK356 := n6_; have BK366 := n7_; have HB := n8_; clear n0_ n1_ n2_ n3_ n4_ n5_ n6_ n7_ n8_; clear hb ho27; obtain ⟨Ao28, co28, eo28⟩ := Kd.R_slice HO369.out; subst eo28))
        go_loopg [29] k (fun kq v29 w' => ∃ (x6_1 : List Bool) (x29_1 : Int), v29 = .int .i64 x29_1 ∧ Aside0 (almanaclaw02_DevFlushes.l0 kq t365 x6_1 (y367.length : Int) x29_1 l0_0 l0_1 a0_2 a0_3 t348 t351 t354 t355 t357 t360 t363 t364 = some r) ∧ Aside0 (kq ≤ k) ∧ Aside0 (Kd.R Kd.bool 4 w' w.heap.size (fun _ => True) (.slice Ao28 y367.length co28) x6_1) ∧ Aside0 (Kd.R Kd.string 9 w' w.heap.size (fun k_ => some k_ ≠ ((.slice Ao20 t357.length co20) : Value).ownBlock) (.slice Ao14 t348.length co14) t348) ∧ Aside0 (Kd.R k40 40 w' w.heap.size (fun k_ => some k_ ≠ ((.slice Ao24 t360.length co24) : Value).ownBlock) (.slice Ao17 t351.length co17) t351) ∧ Aside0 (Kd.R Kd.string 9 w' w.heap.size (fun k_ => some k_ ≠ ((.slice Ao14 t348.length co14) : Value).ownBlock) (.slice Ao20 t357.length co20) t357) ∧ Aside0 (Kd.R k40 40 w' w.heap.size (fun k_ => some k_ ≠ ((.slice Ao17 t351.length co17) : Value).ownBlock) (.slice Ao24 t360.length co24) t360) ∧ Aside0 (w'.heap[gb345]? = some (.cells #[(.slice A0_0 l0_0.length c0_0), (.slice A0_1 l0_1.length c0_1), .int .i64 a0_2, .bool a0_3] 25 (0, 0))) ∧ Aside0 (w'.heap[gb356]? = some (.cells #[(.slice Ao14 t348.length co14), (.slice Ao17 t351.length co17), .int .i64 t354, .bool t355] 25 (0, 0))) ∧ Aside0 (w'.heap[gb366]? = some (.cells #[(.slice Ao20 t357.length co20), (.slice Ao24 t360.length co24), .int .i64 t363, .bool t364] 25 (0, 0))) ∧ Aside0 (Below w.heap.size w w'))
        case atStart => exact ⟨(y367), (0), (by first | rfl | (simp; done) | (simp [*]; done)), H', ⟨Nat.le_refl _⟩, ⟨by (with_reducible repeat (first | apply Kd.R_alloc | apply Kd.R_drewN | apply Kd.R_drew)); exact HO369.out⟩, ⟨by (with_reducible repeat (first | apply Kd.R_alloc | apply Kd.R_drewN | apply Kd.R_drew)); exact Kd.R_mono HO350.out (fun _ hk => hk.2)⟩, ⟨by (with_reducible repeat (first | apply Kd.R_alloc | apply Kd.R_drewN | apply Kd.R_drew)); exact Kd.R_mono HO353.out (fun _ hk => hk.2)⟩, ⟨by (with_reducible repeat (first | apply Kd.R_alloc | apply Kd.R_drewN | apply Kd.R_drew)); exact Kd.R_mono HO359.out (fun _ hk => hk.2)⟩, ⟨by (with_reducible repeat (first | apply Kd.R_alloc | apply Kd.R_drewN | apply Kd.R_drew)); exact Kd.R_mono HO362.out (fun _ hk => hk.2)⟩, ⟨by (with_reducible repeat (first | refine blk_drewN ?_ _ | refine blk_drew ?_ | refine blk_alloc ?_ _)); exact BK345.out⟩, ⟨by (with_reducible repeat (first | refine blk_drewN ?_ _ | refine blk_drew ?_ | refine blk_alloc ?_ _)); exact BK356.out⟩, ⟨by (with_reducible repeat (first | refine blk_drewN ?_ _ | refine blk_drew ?_ | refine blk_alloc ?_ _)); exact BK366.out⟩, ⟨by repeat (first | (with_reducible first | exact HB.out | apply below_alloc | apply pw_below_drewN | apply below_drew1 | refine below_set ?_ GE345.out | refine below_set ?_ GE356.out | refine below_set ?_ GE366.out) | exact HB.out)⟩⟩
        case round =>
          clear H'
          try clear c1
          try clear c2
          try clear p2
          try clear c3
          try clear c6
          try clear c6b0
          try clear c6b1
          try clear c7
          try clear c7b0
          try clear c7b1
          try clear c9
          try clear c10
          try clear c15
          try clear c21
          try clear c22
          try clear hcz11_0
          try clear hcz11_1
          try clear hcz11_2
          try clear hcz11_3
          try clear hcz16_0
          try clear hcz16_1
          try clear hcz16_2
          try clear hcz16_3
          try clear hcz23_0
          try clear hcz23_1
          try clear hcz23_2
          try clear hcz23_3
          try clear hcz25_0
          try clear hcz25_1
          try clear hcz25_2
          try clear hcz25_3
          try clear hcz9_0
          try clear hcz9_1
          try clear hcz9_2
          try clear hcz9_3
          try clear hfz11_0
          try clear hfz11_1
          try clear hfz11_2
          try clear hfz11_3
          try clear hfz16_0
          try clear hfz16_1
          try clear hfz16_2
          try clear hfz16_3
          try clear hfz23_0
          try clear hfz23_1
          try clear hfz23_2
          try clear hfz23_3
          try clear hfz25_0
          try clear hfz25_1
          try clear hfz25_2
          try clear hfz25_3
          try clear hfz9_0
          try clear hfz9_1
          try clear hfz9_2
          try clear hfz9_3
          obtain ⟨x6_1, x29_1, rfl, HA, HK1, HO_6, HO_357000, HO_357001, HO_367000, HO_367001, BK345, BK356, BK366, HB⟩ := hrel
          have hl6_1 := (Kd.R_reads' HO_6.out).1
          rw [hl6_1] at HO_6
          (try simp only [hl6_1])
          (try simp only [hl6_1] at BK345)
          (try simp only [hl6_1] at BK356)
          (try simp only [hl6_1] at BK366)
          (try simp only [hl6_1] at HO_357000)
          (try simp only [hl6_1] at HO_357001)
          (try simp only [hl6_1] at HO_367000)
          (try simp only [hl6_1] at HO_367001)
          cases gk with
          | zero => exact absurd HA.out (by simp [almanaclaw02_DevFlushes.l0])
          | succ k1 =>
            have H := HA.out
            clear HA
            simp only [almanaclaw02_DevFlushes.l0] at H
            by_cases c29 : x29_1 < (y367.length : Int)
            · rw [if_pos c29] at H
              have c29b0 : decide (x29_1 < (y367.length : Int)) = true := decide_eq_true c29
              clear c29
              by_cases c30 : 0 ≤ x29_1
              · rw [if_pos c30] at H
                have c30b0 : decide (0 ≤ x29_1) = true := decide_eq_true c30
                clear c30
                by_cases c31 : x29_1 < (x6_1.length : Int)
                · rw [if_pos c31] at H
                  have c31b0 : decide (x29_1 < (x6_1.length : Int)) = true := decide_eq_true c31
                  clear c31
                  obtain ⟨y370, hy370⟩ : ∃ y_ : List Bool, y_ = (x6_1.set (x29_1 : Int).toNat true) := ⟨_, rfl⟩
                  replace H : (almanaclaw02_DevFlushes.l0 k1 t365 y370 (y367.length : Int) (wrap64 (x29_1 + 1)) l0_0 l0_1 a0_2 a0_3 t348 t351 t354 t355 t357 t360 t363 t364) = some r := by first | (rw [hy370]; with_reducible exact H) | (have H2_ := (Option.bind_some _ _).symm.trans H; rw [hy370]; with_reducible exact H2_) | (have H2_ := (Option.bind_some _ _).symm.trans H; with_reducible exact H2_) | with_reducible exact H | (rw [hy370]; exact H) | exact H
                  have Ny370 := Aside0.mk hy370
                  clear hy370
                  have H' := Aside0.mk H
                  clear H
                  have p32 : 0 ≤ (x29_1 : Int) := of_decide_eq_true (by first | (with_reducible assumption) | assumption)
                  have q32 : (x29_1 : Int) < ((x6_1.length : Int) : Int) := of_decide_eq_true (by first | (with_reducible assumption) | assumption)
                  obtain ⟨go32, co32, eo32, gb32, gl32, cl32, HG32⟩ := Kd.R_form HO_6.out (by omega)
                  (first | cases eo32 | (injection eo32 with ea_ en_ ec_; (first | subst ea_ | (injection ea_ with ea_; subst ea_)); subst ec_; clear en_))
                  have GB32 := Aside0.mk gb32
                  have GG32 := Aside0.mk HG32
                  clear gb32 gl32 HG32
                  obtain ⟨hx32_0, hf32_0⟩ := Kd.R_celln false HO_6.out (x29_1 : Int) p32 q32
                  replace p32 := eq_true p32
                  replace q32 := eq_true q32
                  have HP33 := Kd.R_putg HO_6.out (x29_1 : Int) true
                  go_wp2_with (first | ((with_reducible refine gate_store (t := 4) (p := 34) rfl ?_); refine store_event (t := 4) (p := 34) (v := ?vo_w34) (w1 := (wr.setCell ⟨go32, (x29_1 : Int).toNat, none⟩ (.bool true))) ?hg ?ho ?hn ?hr ?_; (case ho => rfl); (case hg => rfl); (case hn => rfl); (case hr => first | (go_simp; done) | (go_simp; rfl)); intro w34 hw; have hg : wr.grownBy w34 (some go32) := (by rw [hw]; exact HP33.2); have hp_ : Kd.R Kd.bool 4 w34 w.heap.size (fun _ => True) (.slice (some ⟨go32, 0, none⟩) x6_1.length co28) y370 := (by rw [hw, Ny370.out]; exact HP33.1); clear HP33; have n0_ := Aside0.mk (hp_); have n1_ := Aside0.mk (Kd.R_over' (v := (.slice (some ⟨go32, 0, none⟩) x6_1.length co28)) (by (with_reducible repeat (first | apply Kd.R_alloc | apply Kd.R_drewN | apply Kd.R_drew)); exact HO_357000.out) (Kd.R_typed HO_6.out) (by decide) hg); have n2_ := Aside0.mk (Kd.R_over' (v := (.slice (some ⟨go32, 0, none⟩) x6_1.length co28)) (by (with_reducible repeat (first | apply Kd.R_alloc | apply Kd.R_drewN | apply Kd.R_drew)); exact HO_357001.out) (Kd.R_typed HO_6.out) (by decide) hg); have n3_ := Aside0.mk (Kd.R_over' (v := (.slice (some ⟨go32, 0, none⟩) x6_1.length co28)) (by (with_reducible repeat (first | apply Kd.R_alloc | apply Kd.R_drewN | apply Kd.R_drew)); exact HO_367000.out) (Kd.R_typed HO_6.out) (by decide) hg); have n4_ := Aside0.mk (Kd.R_over' (v := (.slice (some ⟨go32, 0, none⟩) x6_1.length co28)) (by (with_reducible repeat (first | apply Kd.R_alloc | apply Kd.R_drewN | apply Kd.R_drew)); exact HO_367001.out) (Kd.R_typed HO_6.out) (by decide) hg); have n5_ := Aside0.mk (blk_grown (g := gb345) (o := .cells #[.slice A0_0 l0_0.length c0_0, .slice A0_1 l0_1.length c0_1, .int .i64 a0_2, .bool a0_3] 25 (0, 0)) (by (with_reducible repeat (first | refine blk_drewN ?_ _ | refine blk_drew ?_ | refine blk_alloc ?_ _)); exact BK345.out) hg (Kd.R_ne HO_6.out BK345.out (by decide))); have n6_ := Aside0.mk (blk_grown (g := gb356) (o := .cells #[.slice Ao14 t348.length co14, .slice Ao17 t351.length co17, .int .i64 t354, .bool t355] 25 (0, 0)) (by (with_reducible repeat (first | refine blk_drewN ?_ _ | refine blk_drew ?_ | refine blk_alloc ?_ _)); exact BK356.out) hg (Kd.R_ne HO_6.out BK356.out (by decide))); have n7_ := Aside0.mk (blk_grown (g := gb366) (o := .cells #[.slice Ao20 t357.length co20, .slice Ao24 t360.length co24, .int .i64 t363, .bool t364] 25 (0, 0)) (by (with_reducible repeat (first | refine blk_drewN ?_ _ | refine blk_drew ?_ | refine blk_alloc ?_ _)); exact BK366.out) hg (Kd.R_ne HO_6.out BK366.out (by decide))); have n8_ := Aside0.mk ((by rw [hw]; exact below_set (HB.out) GB32.out : Below w.heap.size w w34)); clear HO_6; clear HO_357000; clear HO_357001; clear HO_367000; clear HO_367001; clear BK345; clear BK356; clear BK366; clear HB; have HO_6 := n0_; have HO_357000 := n1_; have HO_357001 := n2_; have HO_367000 := n3_; have HO_367001 := n4_; have BK345 := n5_; have BK356 := n6_; have BK366 := n7_; have HB := n8_; clear n0_ n1_ n2_ n3_ n4_ n5_ n6_ n7_ n8_; clear hg hw hp_))
                  (try simp only [← hl6_1])
                  go_roundg k1
                  case measure => have := HK1.out; omega
                  case rel => exact ⟨(y370), (wrap64 (x29_1 + 1)), (by first | rfl | (simp; done) | (simp [*]; done)), H', ⟨by have := HK1.out; omega⟩, ⟨by (try simp only [hl6_1]); (with_reducible repeat (first | apply Kd.R_alloc | apply Kd.R_drewN | apply Kd.R_drew)); exact HO_6.out⟩, ⟨by (try simp only [hl6_1]); (with_reducible repeat (first | apply Kd.R_alloc | apply Kd.R_drewN | apply Kd.R_drew)); exact HO_357000.out⟩, ⟨by (try simp only [hl6_1]); (with_reducible repeat (first | apply Kd.R_alloc | apply Kd.R_drewN | apply Kd.R_drew)); exact HO_357001.out⟩, ⟨by (try simp only [hl6_1]); (with_reducible repeat (first | apply Kd.R_alloc | apply Kd.R_drewN | apply Kd.R_drew)); exact HO_367000.out⟩, ⟨by (try simp only [hl6_1]); (with_reducible repeat (first | apply Kd.R_alloc | apply Kd.R_drewN | apply Kd.R_drew)); exact HO_367001.out⟩, ⟨by (try simp only [hl6_1]); (with_reducible repeat (first | refine blk_drewN ?_ _ | refine blk_drew ?_ | refine blk_alloc ?_ _)); exact BK345.out⟩, ⟨by (try simp only [hl6_1]); (with_reducible repeat (first | refine blk_drewN ?_ _ | refine blk_drew ?_ | refine blk_alloc ?_ _)); exact BK356.out⟩, ⟨by (try simp only [hl6_1]); (with_reducible repeat (first | refine blk_drewN ?_ _ | refine blk_drew ?_ | refine blk_alloc ?_ _)); exact BK366.out⟩, ⟨by repeat (first | (with_reducible first | exact HB.out | apply below_alloc | apply pw_below_drewN | apply below_drew1 | refine below_set ?_ GE345.out | refine below_set ?_ GE356.out | refine below_set ?_ GE366.out) | exact HB.out)⟩⟩
                · rw [if_neg c31] at H
                  exact absurd H (by simp)
              · rw [if_neg c30] at H
                exact absurd H (by simp)
            · rw [if_neg c29] at H
              have c29b0 : decide (x29_1 < (y367.length : Int)) = false := decide_eq_false c29
              clear c29
              rw [hl6_1] at c29b0
              replace H := Option.bind_eq_some_iff.mp H
              obtain ⟨⟨t371, t374, t377, t378⟩, A350, H⟩ := H
              replace H : ((dev_Arm.f t348 t351 t354 t355 0).bind fun bt380 => (if 0 < (l0_0.length : Int) then ((dev_Write.f k1 t348 t351 t354 t355 0 (rdOf ByteArray.empty l0_0 0)).bind fun bt389 => ((almanacref02_Same.f k1 t348 t351 t354 t355 l0_0 l0_1 a0_2 a0_3).bind fun t398 => (if t398 = true then (if t365 = 0 then (almanaclaw02_DevFlushes.l1 k1 (l0_0.length : Int) 0 l0_0 l0_1 a0_2 a0_3 t357 t360 t363 t364 t371 t374 t377 t378) else (if a0_3 = true then ((almanaclaw02_awake.f k1).bind fun t399 => (some t399)) else (if a0_2 = 0 then ((almanaclaw02_awake.f k1).bind fun t400 => (some t400)) else (some false)))) else (some false)))) else (none))) = some r := H
              have A35 := Aside0.mk A350
              clear A350
              replace H := Option.bind_eq_some_iff.mp H
              obtain ⟨⟨t380, t383, t386, t387⟩, A360, H⟩ := H
              replace H : (if 0 < (l0_0.length : Int) then ((dev_Write.f k1 t348 t351 t354 t355 0 (rdOf ByteArray.empty l0_0 0)).bind fun bt389 => ((almanacref02_Same.f k1 t348 t351 t354 t355 l0_0 l0_1 a0_2 a0_3).bind fun t398 => (if t398 = true then (if t365 = 0 then (almanaclaw02_DevFlushes.l1 k1 (l0_0.length : Int) 0 l0_0 l0_1 a0_2 a0_3 t357 t360 t363 t364 t371 t374 t377 t378) else (if a0_3 = true then ((almanaclaw02_awake.f k1).bind fun t399 => (some t399)) else (if a0_2 = 0 then ((almanaclaw02_awake.f k1).bind fun t400 => (some t400)) else (some false)))) else (some false)))) else (none)) = some r := H
              have A36 := Aside0.mk A360
              clear A360
              by_cases c37 : 0 < (l0_0.length : Int)
              · rw [if_pos c37] at H
                have c37b0 : decide (0 < (l0_0.length : Int)) = true := decide_eq_true c37
                have c37b1 : decide (0 < l0_0.length) = true := decide_eq_true (by omega)
                clear c37
                replace H := Option.bind_eq_some_iff.mp H
                obtain ⟨⟨t389, t392, t395, t396, t397⟩, A380, H⟩ := H
                replace H : ((almanacref02_Same.f k1 t348 t351 t354 t355 l0_0 l0_1 a0_2 a0_3).bind fun t398 => (if t398 = true then (if t365 = 0 then (almanaclaw02_DevFlushes.l1 k1 (l0_0.length : Int) 0 l0_0 l0_1 a0_2 a0_3 t357 t360 t363 t364 t371 t374 t377 t378) else (if a0_3 = true then ((almanaclaw02_awake.f k1).bind fun t399 => (some t399)) else (if a0_2 = 0 then ((almanaclaw02_awake.f k1).bind fun t400 => (some t400)) else (some false)))) else (some false))) = some r := H
                have A38 := Aside0.mk A380
                clear A380
                replace H := Option.bind_eq_some_iff.mp H
                obtain ⟨t398, A390, H⟩ := H
                replace H : (if t398 = true then (if t365 = 0 then (almanaclaw02_DevFlushes.l1 k1 (l0_0.length : Int) 0 l0_0 l0_1 a0_2 a0_3 t357 t360 t363 t364 t371 t374 t377 t378) else (if a0_3 = true then ((almanaclaw02_awake.f k1).bind fun t399 => (some t399)) else (if a0_2 = 0 then ((almanaclaw02_awake.f k1).bind fun t400 => (some t400)) else (some false)))) else (some false)) = some r := H
                have A39 := Aside0.mk A390
                clear A390
                by_cases c40 : t398 = true
                · subst c40
                  have H1 : (if t365 = 0 then (almanaclaw02_DevFlushes.l1 k1 (l0_0.length : Int) 0 l0_0 l0_1 a0_2 a0_3 t357 t360 t363 t364 t371 t374 t377 t378) else (if a0_3 = true then ((almanaclaw02_awake.f k1).bind fun t399 => (some t399)) else (if a0_2 = 0 then ((almanaclaw02_awake.f k1).bind fun t400 => (some t400)) else (some false)))) = some r := by rw [if_pos rfl] at H; exact H
                  clear H
                  have H := H1
                  clear H1
                  by_cases c41 : t365 = 0
                  · rw [if_pos c41] at H
                    have c41b0 : (t365 == 0) = true := beq_iff_eq.mpr c41
                    have c41b1 : (t365 != 0) = false := bne_eq_false_iff_eq.mpr c41
                    clear c41
                    have H' := Aside0.mk H
                    clear H
                    have hnb42 := NB356_345.out
                    have hnc42 := NB345_356.out
                    have hnb43 := NB356_366.out
                    have hnc43 := NB366_356.out
                    have hcz44_0 : wr.cell? ⟨gb356, 0, none⟩ = some (.slice Ao14 t348.length co14) := (blk_cell BK356.out 0).trans rfl
                    have hcz44_1 : wr.cell? ⟨gb356, 1, none⟩ = some (.slice Ao17 t351.length co17) := (blk_cell BK356.out 1).trans rfl
                    have hcz44_2 : wr.cell? ⟨gb356, 2, none⟩ = some (.int .i64 t354) := (blk_cell BK356.out 2).trans rfl
                    have hcz44_3 : wr.cell? ⟨gb356, 3, none⟩ = some (.bool t355) := (blk_cell BK356.out 3).trans rfl
                    have hfz44_0 := blk_frozen BK356.out 0
                    have hfz44_1 := blk_frozen BK356.out 1
                    have hfz44_2 := blk_frozen BK356.out 2
                    have hfz44_3 := blk_frozen BK356.out 3
                    try go_wp2_with (first | ((with_reducible refine gate_callee (f := 11) rfl ?_); refine goesL_ (some 38) rfl rfl Try.func11 (by kernel_rfl) rfl #[.agg #[.slice Ao14 t348.length co14, .slice Ao17 t351.length co17, .int .i64 t354, .bool t355], .slice Ao28 x6_1.length co28] rfl (by (try simp only [List.map_toArray, List.map_cons, List.map_nil]); first | done | rfl | (simp only [List.length_drop, List.length_take]; rfl)) ?_; (with_reducible refine (dev_Crash.calls _ _ t348 _ _ t351 t354 t355 _ _ x6_1 t371 t374 t377 t378 _ ?side1 ?side2 ?side3 ?side4 ?side5 ?side6 A35.out).mono ?_); (case side1 => repeat (first | exact (Kd.R_reads' HO_357000.out).2.2 | (with_reducible refine Kd.C_alloc ?_ _) | (with_reducible refine Kd.C_drewN ?_ _) | (with_reducible refine Kd.C_drew ?_))); (case side2 => exact (Kd.R_reads' HO_357000.out).2.1); (case side3 => repeat (first | exact (Kd.R_reads' HO_357001.out).2.2 | (with_reducible refine Kd.C_alloc ?_ _) | (with_reducible refine Kd.C_drewN ?_ _) | (with_reducible refine Kd.C_drew ?_))); (case side4 => exact (Kd.R_reads' HO_357001.out).2.1); (case side5 => repeat (first | exact (Kd.R_reads' HO_6.out).2.2 | (with_reducible refine Kd.C_alloc ?_ _) | (with_reducible refine Kd.C_drewN ?_ _) | (with_reducible refine Kd.C_drew ?_))); (case side6 => exact (Kd.R_reads' HO_6.out).2.1); rintro e w45 ⟨v372, v375, rfl, ho0, ho1, hb⟩; refine ⟨_, rfl, ?_⟩; have n0_ := Aside0.mk (Kd.R_below (by (with_reducible repeat (first | apply Kd.R_alloc | apply Kd.R_drewN | apply Kd.R_drew)); exact HO_6.out) hb); have n1_ := Aside0.mk (Kd.R_elder' (by (with_reducible repeat (first | apply Kd.R_alloc | apply Kd.R_drewN | apply Kd.R_drew)); exact HO_357000.out) (Kd.R_base ho0) hb); have n2_ := Aside0.mk (Kd.R_elder' (by (with_reducible repeat (first | apply Kd.R_alloc | apply Kd.R_drewN | apply Kd.R_drew)); exact HO_357001.out) (Kd.R_base ho1) hb); have n3_ := Aside0.mk (Kd.R_elder' (by (with_reducible repeat (first | apply Kd.R_alloc | apply Kd.R_drewN | apply Kd.R_drew)); exact HO_367000.out) (Kd.R_base ho0) hb); have n4_ := Aside0.mk (Kd.R_elder' (by (with_reducible repeat (first | apply Kd.R_alloc | apply Kd.R_drewN | apply Kd.R_drew)); exact HO_367001.out) (Kd.R_base ho1) hb); have n5_ := Aside0.mk (Kd.R_lower (Kd.R_new' (Kd.R_new' ho0 (Kd.R_lt (by (with_reducible repeat (first | apply Kd.R_alloc | apply Kd.R_drewN | apply Kd.R_drew)); exact HO_357000.out))) (Kd.R_lt (by (with_reducible repeat (first | apply Kd.R_alloc | apply Kd.R_drewN | apply Kd.R_drew)); exact HO_367000.out))) (below_size (by repeat (first | (with_reducible first | exact HB.out | apply below_alloc | apply pw_below_drewN | apply below_drew1 | refine below_set ?_ GE345.out | refine below_set ?_ GE356.out | refine below_set ?_ GE366.out) | exact HB.out)))); have n6_ := Aside0.mk (Kd.R_lower (Kd.R_new' (Kd.R_new' ho1 (Kd.R_lt (by (with_reducible repeat (first | apply Kd.R_alloc | apply Kd.R_drewN | apply Kd.R_drew)); exact HO_357001.out))) (Kd.R_lt (by (with_reducible repeat (first | apply Kd.R_alloc | apply Kd.R_drewN | apply Kd.R_drew)); exact HO_367001.out))) (below_size (by repeat (first | (with_reducible first | exact HB.out | apply below_alloc | apply pw_below_drewN | apply below_drew1 | refine below_set ?_ GE345.out | refine below_set ?_ GE356.out | refine below_set ?_ GE366.out) | exact HB.out)))); have n7_ := Aside0.mk (blk_below (g := gb345) (o := .cells #[.slice A0_0 l0_0.length c0_0, .slice A0_1 l0_1.length c0_1, .int .i64 a0_2, .bool a0_3] 25 (0, 0)) (by (with_reducible repeat (first | refine blk_drewN ?_ _ | refine blk_drew ?_ | refine blk_alloc ?_ _)); exact BK345.out) hb); have n8_ := Aside0.mk (blk_below (g := gb356) (o := .cells #[.slice Ao14 t348.length co14, .slice Ao17 t351.length co17, .int .i64 t354, .bool t355] 25 (0, 0)) (by (with_reducible repeat (first | refine blk_drewN ?_ _ | refine blk_drew ?_ | refine blk_alloc ?_ _)); exact BK356.out) hb); have n9_ := Aside0.mk (blk_below (g := gb366) (o := .cells #[.slice Ao20 t357.length co20, .slice Ao24 t360.length co24, .int .i64 t363, .bool t364] 25 (0, 0)) (by (with_reducible repeat (first | refine blk_drewN ?_ _ | refine blk_drew ?_ | refine blk_alloc ?_ _)); exact BK366.out) hb); have n10_ := Aside0.mk (below_step (by repeat (first | (with_reducible first | exact HB.out | apply below_alloc | apply pw_below_drewN | apply below_drew1 | refine below_set ?_ GE345.out | refine below_set ?_ GE356.out | refine below_set ?_ GE366.out) | exact HB.out)) hb); clear HO_6; clear HO_357000; clear HO_357001; clear HO_367000; clear HO_367001; clear BK345; clear BK356; clear BK366; clear HB; have HO_6 := n0_; have HO_357000 := n1_; have HO_357001 := n2_; have HO_367000 := n3_; have HO_367001 := n4_; have HO373 := n5_; have HO376 := n6_; have BK345 := n7_; have BK356 := n8_; have BK366 := n9_; have HB := n10_; clear n0_ n1_ n2_ n3_ n4_ n5_ n6_ n7_ n8_ n9_ n10_; (try clear hb); (try clear hb2); (try clear hk); (try clear hi); (try clear ho0); (try clear ho1)) | ((with_reducible refine gate_dst (N := 8) rfl ?_); (try (refine gate_guard (by rfl) ?_; dsimp only)); refine box_event ?hg (N := 8) ?hd (cs := #[.slice none 0 0, .slice none 0 0, .int .i64 0, .bool false]) (t := 25) ?hr ?_; (case hd => rfl); (case hg => rfl); (case hr => first | (go_simp; done) | (go_simp; rfl)); intro gb379 hg w46 hbox hb; have n0_ := Aside0.mk (Kd.R_below (by (with_reducible repeat (first | apply Kd.R_alloc | apply Kd.R_drewN | apply Kd.R_drew)); exact HO_6.out) hb); have n1_ := Aside0.mk (Kd.R_below (by (with_reducible repeat (first | apply Kd.R_alloc | apply Kd.R_drewN | apply Kd.R_drew)); exact HO_357000.out) hb); have n2_ := Aside0.mk (Kd.R_below (by (with_reducible repeat (first | apply Kd.R_alloc | apply Kd.R_drewN | apply Kd.R_drew)); exact HO_357001.out) hb); have n3_ := Aside0.mk (Kd.R_below (by (with_reducible repeat (first | apply Kd.R_alloc | apply Kd.R_drewN | apply Kd.R_drew)); exact HO_367000.out) hb); have n4_ := Aside0.mk (Kd.R_below (by (with_reducible repeat (first | apply Kd.R_alloc | apply Kd.R_drewN | apply Kd.R_drew)); exact HO_367001.out) hb); have n5_ := Aside0.mk (Kd.R_below (by (with_reducible repeat (first | apply Kd.R_alloc | apply Kd.R_drewN | apply Kd.R_drew)); exact HO373.out) hb); have n6_ := Aside0.mk (Kd.R_below (by (with_reducible repeat (first | apply Kd.R_alloc | apply Kd.R_drewN | apply Kd.R_drew)); exact HO376.out) hb); have n7_ := Aside0.mk (blk_below (g := gb345) (o := .cells #[.slice A0_0 l0_0.length c0_0, .slice A0_1 l0_1.length c0_1, .int .i64 a0_2, .bool a0_3] 25 (0, 0)) (by (with_reducible repeat (first | refine blk_drewN ?_ _ | refine blk_drew ?_ | refine blk_alloc ?_ _)); exact BK345.out) hb); have n8_ := Aside0.mk (blk_below (g := gb356) (o := .cells #[.slice Ao14 t348.length co14, .slice Ao17 t351.length co17, .int .i64 t354, .bool t355] 25 (0, 0)) (by (with_reducible repeat (first | refine blk_drewN ?_ _ | refine blk_drew ?_ | refine blk_alloc ?_ _)); exact BK356.out) hb); have n9_ := Aside0.mk (blk_below (g := gb366) (o := .cells #[.slice Ao20 t357.length co20, .slice Ao24 t360.length co24, .int .i64 t363, .bool t364] 25 (0, 0)) (by (with_reducible repeat (first | refine blk_drewN ?_ _ | refine blk_drew ?_ | refine blk_alloc ?_ _)); exact BK366.out) hb); have n10_ := Aside0.mk (below_step (by repeat (first | (with_reducible first | exact HB.out | apply below_alloc | apply pw_below_drewN | apply below_drew1 | refine below_set ?_ GE345.out | refine below_set ?_ GE356.out | refine below_set ?_ GE366.out) | exact HB.out)) hb); have n11_ := Aside0.mk (hbox); have n12_ := Aside0.mk ((by rw [hg]; exact (below_size (by repeat (first | (with_reducible first | exact HB.out | apply below_alloc | apply pw_below_drewN | apply below_drew1 | refine below_set ?_ GE345.out | refine below_set ?_ GE356.out | refine below_set ?_ GE366.out) | exact HB.out))) : w.heap.size ≤ gb379)); have n13_ := Aside0.mk ((by rw [hg]; exact (below_size (by repeat (first | (with_reducible first | exact HB.out | apply below_alloc | apply pw_below_drewN | apply below_drew1 | refine below_set ?_ GE345.out | refine below_set ?_ GE356.out | refine below_set ?_ GE366.out) | exact HB.out))) : w.heap.size ≤ gb379)); have n14_ := Aside0.mk ((by rw [hg]; exact Nat.ne_of_lt (blk_lt (g := gb345) (o := .cells #[.slice A0_0 l0_0.length c0_0, .slice A0_1 l0_1.length c0_1, .int .i64 a0_2, .bool a0_3] 25 (0, 0)) (by (with_reducible repeat (first | refine blk_drewN ?_ _ | refine blk_drew ?_ | refine blk_alloc ?_ _)); exact BK345.out)) : gb345 ≠ gb379)); have n15_ := Aside0.mk ((by rw [hg]; exact Nat.ne_of_gt (blk_lt (g := gb345) (o := .cells #[.slice A0_0 l0_0.length c0_0, .slice A0_1 l0_1.length c0_1, .int .i64 a0_2, .bool a0_3] 25 (0, 0)) (by (with_reducible repeat (first | refine blk_drewN ?_ _ | refine blk_drew ?_ | refine blk_alloc ?_ _)); exact BK345.out)) : gb379 ≠ gb345)); have n16_ := Aside0.mk ((by rw [hg]; exact Nat.ne_of_lt (blk_lt (g := gb356) (o := .cells #[.slice Ao14 t348.length co14, .slice Ao17 t351.length co17, .int .i64 t354, .bool t355] 25 (0, 0)) (by (with_reducible repeat (first | refine blk_drewN ?_ _ | refine blk_drew ?_ | refine blk_alloc ?_ _)); exact BK356.out)) : gb356 ≠ gb379)); have n17_ := Aside0.mk ((by rw [hg]; exact Nat.ne_of_gt (blk_lt (g := gb356) (o := .cells #[.slice Ao14 t348.length co14, .slice Ao17 t351.length co17, .int .i64 t354, .bool t355] 25 (0, 0)) (by (with_reducible repeat (first | refine blk_drewN ?_ _ | refine blk_drew ?_ | refine blk_alloc ?_ _)); exact BK356.out)) : gb379 ≠ gb356)); have n18_ := Aside0.mk ((by rw [hg]; exact Nat.ne_of_lt (blk_lt (g := gb366) (o := .cells #[.slice Ao20 t357.length co20, .slice Ao24 t360.length co24, .int .i64 t363, .bool t364] 25 (0, 0)) (by (with_reducible repeat (first | refine blk_drewN ?_ _ | refine blk_drew ?_ | refine blk_alloc ?_ _)); exact BK366.out)) : gb366 ≠ gb379)); have n19_ := Aside0.mk ((by rw [hg]; exact Nat.ne_of_gt (blk_lt (g := gb366) (o := .cells #[.slice Ao20 t357.length co20, .slice Ao24 t360.length co24, .int .i64 t363, .bool t364] 25 (0, 0)) (by (with_reducible repeat (first | refine blk_drewN ?_ _ | refine blk_drew ?_ | refine blk_alloc ?_ _)); exact BK366.out)) : gb379 ≠ gb366)); clear HO_6; clear HO_357000; clear HO_357001; clear HO_367000; clear HO_367001; clear HO373; clear HO376; clear BK345; clear BK356; clear BK366; clear HB; have HO_6 := n0_; have HO_357000 := n1_; have HO_357001 := n2_; have HO_367000 := n3_; have HO_367001 := n4_; have HO373 := n5_; have HO376 := n6_; have BK345 := n7_; have BK356 := n8_; have BK366 := n9_; have HB := n10_; have BK379 := n11_; have GW379 := n12_; have GE379 := n13_; have NB345_379 := n14_; have NB379_345 := n15_; have NB356_379 := n16_; have NB379_356 := n17_; have NB366_379 := n18_; have NB379_366 := n19_; clear n0_ n1_ n2_ n3_ n4_ n5_ n6_ n7_ n8_ n9_ n10_ n11_ n12_ n13_ n14_ n15_ n16_ n17_ n18_ n19_; clear hb hbox hg; obtain ⟨Ao47, co47, eo47⟩ := Kd.R_slice HO373.out; subst eo47; have hnb48 := NB379_345.out; have hnc48 := NB345_379.out; have hnb49 := NB379_356.out; have hnc49 := NB356_379.out; have hnb50 := NB379_366.out; have hnc50 := NB366_379.out; have hcz51_0 : w46.cell? ⟨gb379, 0, none⟩ = some (.slice none 0 0) := (blk_cell BK379.out 0).trans rfl; have hcz51_1 : w46.cell? ⟨gb379, 1, none⟩ = some (.slice none 0 0) := (blk_cell BK379.out 1).trans rfl; have hcz51_2 : w46.cell? ⟨gb379, 2, none⟩ = some (.int .i64 0) := (blk_cell BK379.out 2).trans rfl; have hcz51_3 : w46.cell? ⟨gb379, 3, none⟩ = some (.bool false) := (blk_cell BK379.out 3).trans rfl; have hfz51_0 := blk_frozen BK379.out 0; have hfz51_1 := blk_frozen BK379.out 1; have hfz51_2 := blk_frozen BK379.out 2; have hfz51_3 := blk_frozen BK379.out 3; obtain ⟨Ao52, co52, eo52⟩ := Kd.R_slice HO376.out; subst eo52; have hcz53_0 : w46.cell? ⟨gb356, 0, none⟩ = some (.slice Ao14 t348.length co14) := (blk_cell BK356.out 0).trans rfl; have hcz53_1 : w46.cell? ⟨gb356, 1, none⟩ = some (.slice Ao17 t351.length co17) := (blk_cell BK356.out 1).trans rfl; have hcz53_2 : w46.cell? ⟨gb356, 2, none⟩ = some (.int .i64 t354) := (blk_cell BK356.out 2).trans rfl; have hcz53_3 : w46.cell? ⟨gb356, 3, none⟩ = some (.bool t355) := (blk_cell BK356.out 3).trans rfl; have hfz53_0 := blk_frozen BK356.out 0; have hfz53_1 := blk_frozen BK356.out 1; have hfz53_2 := blk_frozen BK356.out 2; have hfz53_3 := blk_frozen BK356.out 3) | ((with_reducible refine gate_callee (f := 12) rfl ?_); refine goesL_ (some 40) rfl rfl Try.func12 (by kernel_rfl) rfl #[.agg #[.slice Ao14 t348.length co14, .slice Ao17 t351.length co17, .int .i64 t354, .bool t355], .int .i64 0] rfl (by (try simp only [List.map_toArray, List.map_cons, List.map_nil]); first | done | rfl | (simp only [List.length_drop, List.length_take]; rfl)) ?_; (with_reducible refine (dev_Arm.calls _ _ t348 _ _ t351 t354 t355 0 t380 t383 t386 t387 _ ?side1 ?side2 ?side3 ?side4 A36.out).mono ?_); (case side1 => refine (Kd.R_reads' (e := 9) (base := w.heap.size) (ok := fun k_ => (some k_ ≠ (.slice Ao20 t357.length co20 : Value).ownBlock ∧ some k_ ≠ (.slice Ao47 t371.length co47 : Value).ownBlock)) (n := t348.length) (c := co14) ?_).2.2; exact (by (with_reducible repeat (first | apply Kd.R_alloc | apply Kd.R_drewN | apply Kd.R_drew)); exact (Kd.R_mono (Kd.R_far (p := ⟨gb379, 3, none⟩) (Kd.R_far (p := ⟨gb379, 2, none⟩) (Kd.R_far (p := ⟨gb379, 1, none⟩) (Kd.R_far (p := ⟨gb379, 0, none⟩) (Kd.R_types HO_357000.out BK379.out (by decide)) (fun _ hk => hk.2) (.slice Ao47 t371.length co47)) (fun _ hk => hk.2) (.slice Ao52 t374.length co52)) (fun _ hk => hk.2) (.int .i64 t377)) (fun _ hk => hk.2) (.bool t378)) (fun _ h_ => h_.1)))); (case side2 => exact (Kd.R_reads' HO_357000.out).2.1); (case side3 => refine (Kd.R_reads' (e := 40) (base := w.heap.size) (ok := fun k_ => (some k_ ≠ (.slice Ao24 t360.length co24 : Value).ownBlock ∧ some k_ ≠ (.slice Ao52 t374.length co52 : Value).ownBlock)) (n := t351.length) (c := co17) ?_).2.2; exact (by (with_reducible repeat (first | apply Kd.R_alloc | apply Kd.R_drewN | apply Kd.R_drew)); exact (Kd.R_mono (Kd.R_far (p := ⟨gb379, 3, none⟩) (Kd.R_far (p := ⟨gb379, 2, none⟩) (Kd.R_far (p := ⟨gb379, 1, none⟩) (Kd.R_far (p := ⟨gb379, 0, none⟩) (Kd.R_types HO_357001.out BK379.out (by decide)) (fun _ hk => hk.2) (.slice Ao47 t371.length co47)) (fun _ hk => hk.2) (.slice Ao52 t374.length co52)) (fun _ hk => hk.2) (.int .i64 t377)) (fun _ hk => hk.2) (.bool t378)) (fun _ h_ => h_.1)))); (case side4 => exact (Kd.R_reads' HO_357001.out).2.1); rintro e w54 ⟨v381, v384, rfl, ho0, ho1, hb⟩; refine ⟨_, rfl, ?_⟩; have n0_ := Aside0.mk (Kd.R_below (by (with_reducible repeat (first | apply Kd.R_alloc | apply Kd.R_drewN | apply Kd.R_drew)); exact (Kd.R_mono (Kd.R_far (p := ⟨gb379, 3, none⟩) (Kd.R_far (p := ⟨gb379, 2, none⟩) (Kd.R_far (p := ⟨gb379, 1, none⟩) (Kd.R_far (p := ⟨gb379, 0, none⟩) (Kd.R_types HO_6.out BK379.out (by decide)) (fun _ hk => hk.2) (.slice Ao47 t371.length co47)) (fun _ hk => hk.2) (.slice Ao52 t374.length co52)) (fun _ hk => hk.2) (.int .i64 t377)) (fun _ hk => hk.2) (.bool t378)) (fun _ h_ => h_.1))) hb); have n1_ := Aside0.mk (Kd.R_elder' (by (with_reducible repeat (first | apply Kd.R_alloc | apply Kd.R_drewN | apply Kd.R_drew)); exact (Kd.R_mono (Kd.R_far (p := ⟨gb379, 3, none⟩) (Kd.R_far (p := ⟨gb379, 2, none⟩) (Kd.R_far (p := ⟨gb379, 1, none⟩) (Kd.R_far (p := ⟨gb379, 0, none⟩) (Kd.R_types HO_357000.out BK379.out (by decide)) (fun _ hk => hk.2) (.slice Ao47 t371.length co47)) (fun _ hk => hk.2) (.slice Ao52 t374.length co52)) (fun _ hk => hk.2) (.int .i64 t377)) (fun _ hk => hk.2) (.bool t378)) (fun _ h_ => h_.1))) (Kd.R_base ho0) hb); have n2_ := Aside0.mk (Kd.R_elder' (by (with_reducible repeat (first | apply Kd.R_alloc | apply Kd.R_drewN | apply Kd.R_drew)); exact (Kd.R_mono (Kd.R_far (p := ⟨gb379, 3, none⟩) (Kd.R_far (p := ⟨gb379, 2, none⟩) (Kd.R_far (p := ⟨gb379, 1, none⟩) (Kd.R_far (p := ⟨gb379, 0, none⟩) (Kd.R_types HO_357001.out BK379.out (by decide)) (fun _ hk => hk.2) (.slice Ao47 t371.length co47)) (fun _ hk => hk.2) (.slice Ao52 t374.length co52)) (fun _ hk => hk.2) (.int .i64 t377)) (fun _ hk => hk.2) (.bool t378)) (fun _ h_ => h_.1))) (Kd.R_base ho1) hb); have n3_ := Aside0.mk (Kd.R_elder' (by (with_reducible repeat (first | apply Kd.R_alloc | apply Kd.R_drewN | apply Kd.R_drew)); exact (Kd.R_mono (Kd.R_far (p := ⟨gb379, 3, none⟩) (Kd.R_far (p := ⟨gb379, 2, none⟩) (Kd.R_far (p := ⟨gb379, 1, none⟩) (Kd.R_far (p := ⟨gb379, 0, none⟩) (Kd.R_types HO_367000.out BK379.out (by decide)) (fun _ hk => hk.2) (.slice Ao47 t371.length co47)) (fun _ hk => hk.2) (.slice Ao52 t374.length co52)) (fun _ hk => hk.2) (.int .i64 t377)) (fun _ hk => hk.2) (.bool t378)) (fun _ h_ => h_.1))) (Kd.R_base ho0) hb); have n4_ := Aside0.mk (Kd.R_elder' (by (with_reducible repeat (first | apply Kd.R_alloc | apply Kd.R_drewN | apply Kd.R_drew)); exact (Kd.R_mono (Kd.R_far (p := ⟨gb379, 3, none⟩) (Kd.R_far (p := ⟨gb379, 2, none⟩) (Kd.R_far (p := ⟨gb379, 1, none⟩) (Kd.R_far (p := ⟨gb379, 0, none⟩) (Kd.R_types HO_367001.out BK379.out (by decide)) (fun _ hk => hk.2) (.slice Ao47 t371.length co47)) (fun _ hk => hk.2) (.slice Ao52 t374.length co52)) (fun _ hk => hk.2) (.int .i64 t377)) (fun _ hk => hk.2) (.bool t378)) (fun _ h_ => h_.1))) (Kd.R_base ho1) hb); have n5_ := Aside0.mk (Kd.R_elder' (by (with_reducible repeat (first | apply Kd.R_alloc | apply Kd.R_drewN | apply Kd.R_drew)); exact (Kd.R_mono (Kd.R_far (p := ⟨gb379, 3, none⟩) (Kd.R_far (p := ⟨gb379, 2, none⟩) (Kd.R_far (p := ⟨gb379, 1, none⟩) (Kd.R_far (p := ⟨gb379, 0, none⟩) (Kd.R_types HO373.out BK379.out (by decide)) (fun _ hk => hk.2) (.slice Ao47 t371.length co47)) (fun _ hk => hk.2) (.slice Ao52 t374.length co52)) (fun _ hk => hk.2) (.int .i64 t377)) (fun _ hk => hk.2) (.bool t378)) (fun _ h_ => h_.1))) (Kd.R_base ho0) hb); have n6_ := Aside0.mk (Kd.R_elder' (by (with_reducible repeat (first | apply Kd.R_alloc | apply Kd.R_drewN | apply Kd.R_drew)); exact (Kd.R_mono (Kd.R_far (p := ⟨gb379, 3, none⟩) (Kd.R_far (p := ⟨gb379, 2, none⟩) (Kd.R_far (p := ⟨gb379, 1, none⟩) (Kd.R_far (p := ⟨gb379, 0, none⟩) (Kd.R_types HO376.out BK379.out (by decide)) (fun _ hk => hk.2) (.slice Ao47 t371.length co47)) (fun _ hk => hk.2) (.slice Ao52 t374.length co52)) (fun _ hk => hk.2) (.int .i64 t377)) (fun _ hk => hk.2) (.bool t378)) (fun _ h_ => h_.1))) (Kd.R_base ho1) hb); have n7_ := Aside0.mk (Kd.R_lower (Kd.R_new' (Kd.R_new' (Kd.R_new' ho0 (Kd.R_lt (by (with_reducible repeat (first | apply Kd.R_alloc | apply Kd.R_drewN | apply Kd.R_drew)); exact (Kd.R_mono (Kd.R_far (p := ⟨gb379, 3, none⟩) (Kd.R_far (p := ⟨gb379, 2, none⟩) (Kd.R_far (p := ⟨gb379, 1, none⟩) (Kd.R_far (p := ⟨gb379, 0, none⟩) (Kd.R_types HO_357000.out BK379.out (by decide)) (fun _ hk => hk.2) (.slice Ao47 t371.length co47)) (fun _ hk => hk.2) (.slice Ao52 t374.length co52)) (fun _ hk => hk.2) (.int .i64 t377)) (fun _ hk => hk.2) (.bool t378)) (fun _ h_ => h_.1))))) (Kd.R_lt (by (with_reducible repeat (first | apply Kd.R_alloc | apply Kd.R_drewN | apply Kd.R_drew)); exact (Kd.R_mono (Kd.R_far (p := ⟨gb379, 3, none⟩) (Kd.R_far (p := ⟨gb379, 2, none⟩) (Kd.R_far (p := ⟨gb379, 1, none⟩) (Kd.R_far (p := ⟨gb379, 0, none⟩) (Kd.R_types HO_367000.out BK379.out (by decide)) (fun _ hk => hk.2) (.slice Ao47 t371.length co47)) (fun _ hk => hk.2) (.slice Ao52 t374.length co52)) (fun _ hk => hk.2) (.int .i64 t377)) (fun _ hk => hk.2) (.bool t378)) (fun _ h_ => h_.1))))) (Kd.R_lt (by (with_reducible repeat (first | apply Kd.R_alloc | apply Kd.R_drewN | apply Kd.R_drew)); exact (Kd.R_mono (Kd.R_far (p := ⟨gb379, 3, none⟩) (Kd.R_far (p := ⟨gb379, 2, none⟩) (Kd.R_far (p := ⟨gb379, 1, none⟩) (Kd.R_far (p := ⟨gb379, 0, none⟩) (Kd.R_types HO373.out BK379.out (by decide)) (fun _ hk => hk.2) (.slice Ao47 t371.length co47)) (fun _ hk => hk.2) (.slice Ao52 t374.length co52)) (fun _ hk => hk.2) (.int .i64 t377)) (fun _ hk => hk.2) (.bool t378)) (fun _ h_ => h_.1))))) (below_size (by repeat (first | (with_reducible first | exact HB.out | apply below_alloc | apply pw_below_drewN | apply below_drew1 | refine below_set ?_ GE345.out | refine below_set ?_ GE356.out | refine below_set ?_ GE366.out | refine below_set ?_ GE379.out) | exact HB.out)))); have n8_ := Aside0.mk (Kd.R_lower (Kd.R_new' (Kd.R_new' (Kd.R_new' ho1 (Kd.R_lt (by (with_reducible repeat (first | apply Kd.R_alloc | apply Kd.R_drewN | apply Kd.R_drew)); exact (Kd.R_mono (Kd.R_far (p := ⟨gb379, 3, none⟩) (Kd.R_far (p := ⟨gb379, 2, none⟩) (Kd.R_far (p := ⟨gb379, 1, none⟩) (Kd.R_far (p := ⟨gb379, 0, none⟩) (Kd.R_types HO_357001.out BK379.out (by decide)) (fun _ hk => hk.2) (.slice Ao47 t371.length co47)) (fun _ hk => hk.2) (.slice Ao52 t374.length co52)) (fun _ hk => hk.2) (.int .i64 t377)) (fun _ hk => hk.2) (.bool t378)) (fun _ h_ => h_.1))))) (Kd.R_lt (by (with_reducible repeat (first | apply Kd.R_alloc | apply Kd.R_drewN | apply Kd.R_drew)); exact (Kd.R_mono (Kd.R_far (p := ⟨gb379, 3, none⟩) (Kd.R_far (p := ⟨gb379, 2, none⟩) (Kd.R_far (p := ⟨gb379, 1, none⟩) (Kd.R_far (p := ⟨gb379, 0, none⟩) (Kd.R_types HO_367001.out BK379.out (by decide)) (fun _ hk => hk.2) (.slice Ao47 t371.length co47)) (fun _ hk => hk.2) (.slice Ao52 t374.length co52)) (fun _ hk => hk.2) (.int .i64 t377)) (fun _ hk => hk.2) (.bool t378)) (fun _ h_ => h_.1))))) (Kd.R_lt (by (with_reducible repeat (first | apply Kd.R_alloc | apply Kd.R_drewN | apply Kd.R_drew)); exact (Kd.R_mono (Kd.R_far (p := ⟨gb379, 3, none⟩) (Kd.R_far (p := ⟨gb379, 2, none⟩) (Kd.R_far (p := ⟨gb379, 1, none⟩) (Kd.R_far (p := ⟨gb379, 0, none⟩) (Kd.R_types HO376.out BK379.out (by decide)) (fun _ hk => hk.2) (.slice Ao47 t371.length co47)) (fun _ hk => hk.2) (.slice Ao52 t374.length co52)) (fun _ hk => hk.2) (.int .i64 t377)) (fun _ hk => hk.2) (.bool t378)) (fun _ h_ => h_.1))))) (below_size (by repeat (first | (with_reducible first | exact HB.out | apply below_alloc | apply pw_below_drewN | apply below_drew1 | refine below_set ?_ GE345.out | refine below_set ?_ GE356.out | refine below_set ?_ GE366.out | refine below_set ?_ GE379.out) | exact HB.out)))); have n9_ := Aside0.mk (blk_below (g := gb345) (o := .cells #[.slice A0_0 l0_0.length c0_0, .slice A0_1 l0_1.length c0_1, .int .i64 a0_2, .bool a0_3] 25 (0, 0)) (by (with_reducible repeat (first | refine blk_drewN ?_ _ | refine blk_drew ?_ | refine blk_alloc ?_ _)); refine blk_far ?_ NB345_379.out _; (with_reducible repeat (first | refine blk_drewN ?_ _ | refine blk_drew ?_ | refine blk_alloc ?_ _)); refine blk_far ?_ NB345_379.out _; (with_reducible repeat (first | refine blk_drewN ?_ _ | refine blk_drew ?_ | refine blk_alloc ?_ _)); refine blk_far ?_ NB345_379.out _; (with_reducible repeat (first | refine blk_drewN ?_ _ | refine blk_drew ?_ | refine blk_alloc ?_ _)); refine blk_far ?_ NB345_379.out _; (with_reducible repeat (first | refine blk_drewN ?_ _ | refine blk_drew ?_ | refine blk_alloc ?_ _)); exact BK345.out) hb); have n10_ := Aside0.mk (blk_below (g := gb356) (o := .cells #[.slice Ao14 t348.length co14, .slice Ao17 t351.length co17, .int .i64 t354, .bool t355] 25 (0, 0)) (by (with_reducible repeat (first | refine blk_drewN ?_ _ | refine blk_drew ?_ | refine blk_alloc ?_ _)); refine blk_far ?_ NB356_379.out _; (with_reducible repeat (first | refine blk_drewN ?_ _ | refine blk_drew ?_ | refine blk_alloc ?_ _)); refine blk_far ?_ NB356_379.out _; (with_reducible repeat (first | refine blk_drewN ?_ _ | refine blk_drew ?_ | refine blk_alloc ?_ _)); refine blk_far ?_ NB356_379.out _; (with_reducible repeat (first | refine blk_drewN ?_ _ | refine blk_drew ?_ | refine blk_alloc ?_ _)); refine blk_far ?_ NB356_379.out _; (with_reducible repeat (first | refine blk_drewN ?_ _ | refine blk_drew ?_ | refine blk_alloc ?_ _)); exact BK356.out) hb); have n11_ := Aside0.mk (blk_below (g := gb366) (o := .cells #[.slice Ao20 t357.length co20, .slice Ao24 t360.length co24, .int .i64 t363, .bool t364] 25 (0, 0)) (by (with_reducible repeat (first | refine blk_drewN ?_ _ | refine blk_drew ?_ | refine blk_alloc ?_ _)); refine blk_far ?_ NB366_379.out _; (with_reducible repeat (first | refine blk_drewN ?_ _ | refine blk_drew ?_ | refine blk_alloc ?_ _)); refine blk_far ?_ NB366_379.out _; (with_reducible repeat (first | refine blk_drewN ?_ _ | refine blk_drew ?_ | refine blk_alloc ?_ _)); refine blk_far ?_ NB366_379.out _; (with_reducible repeat (first | refine blk_drewN ?_ _ | refine blk_drew ?_ | refine blk_alloc ?_ _)); refine blk_far ?_ NB366_379.out _; (with_reducible repeat (first | refine blk_drewN ?_ _ | refine blk_drew ?_ | refine blk_alloc ?_ _)); exact BK366.out) hb); have n12_ := Aside0.mk (blk_below (g := gb379) (o := .cells #[.slice Ao47 t371.length co47, .slice Ao52 t374.length co52, .int .i64 t377, .bool t378] 25 (0, 0)) (by (with_reducible repeat (first | refine blk_drewN ?_ _ | refine blk_drew ?_ | refine blk_alloc ?_ _)); refine blk_put (cs := #[.slice Ao47 t371.length co47, .slice Ao52 t374.length co52, .int .i64 t377, .bool false]) ?_ 3 _ rfl; (with_reducible repeat (first | refine blk_drewN ?_ _ | refine blk_drew ?_ | refine blk_alloc ?_ _)); refine blk_put (cs := #[.slice Ao47 t371.length co47, .slice Ao52 t374.length co52, .int .i64 0, .bool false]) ?_ 2 _ rfl; (with_reducible repeat (first | refine blk_drewN ?_ _ | refine blk_drew ?_ | refine blk_alloc ?_ _)); refine blk_put (cs := #[.slice Ao47 t371.length co47, .slice none 0 0, .int .i64 0, .bool false]) ?_ 1 _ rfl; (with_reducible repeat (first | refine blk_drewN ?_ _ | refine blk_drew ?_ | refine blk_alloc ?_ _)); refine blk_put (cs := #[.slice none 0 0, .slice none 0 0, .int .i64 0, .bool false]) ?_ 0 _ rfl; (with_reducible repeat (first | refine blk_drewN ?_ _ | refine blk_drew ?_ | refine blk_alloc ?_ _)); exact BK379.out) hb); have n13_ := Aside0.mk (below_step (by repeat (first | (with_reducible first | exact HB.out | apply below_alloc | apply pw_below_drewN | apply below_drew1 | refine below_set ?_ GE345.out | refine below_set ?_ GE356.out | refine below_set ?_ GE366.out | refine below_set ?_ GE379.out) | exact HB.out)) hb); clear HO_6; clear HO_357000; clear HO_357001; clear HO_367000; clear HO_367001; clear HO373; clear HO376; clear BK345; clear BK356; clear BK366; clear BK379; clear HB; have HO_6 := n0_; have HO_357000 := n1_; have HO_357001 := n2_; have HO_367000 := n3_; have HO_367001 := n4_; have HO373 := n5_; have HO376 := n6_; have HO382 := n7_; have HO385 := n8_; have BK345 := n9_; have BK356 := n10_; have BK366 := n11_; have BK379 := n12_; have HB := n13_; clear n0_ n1_ n2_ n3_ n4_ n5_ n6_ n7_ n8_ n9_ n10_ n11_ n12_ n13_; (try clear hb); (try clear hb2); (try clear hk); (try clear hi); (try clear ho0); (try clear ho1)))
                    have n0_ := Aside0.mk (Kd.R_drew HO_6.out)
                    have n1_ := Aside0.mk (Kd.R_drew HO_357000.out)
                    have n2_ := Aside0.mk (Kd.R_drew HO_357001.out)
                    have n3_ := Aside0.mk (Kd.R_drew HO_367000.out)
                    have n4_ := Aside0.mk (Kd.R_drew HO_367001.out)
                    have n5_ := Aside0.mk (Kd.R_drew HO373.out)
                    have n6_ := Aside0.mk (Kd.R_drew HO376.out)
                    have n7_ := Aside0.mk (Kd.R_drew HO382.out)
                    have n8_ := Aside0.mk (Kd.R_drew HO385.out)
                    have n9_ := Aside0.mk (blk_drew BK345.out)
                    have n10_ := Aside0.mk (blk_drew BK356.out)
                    have n11_ := Aside0.mk (blk_drew BK366.out)
                    have n12_ := Aside0.mk (blk_drew BK379.out)
                    have n13_ := Aside0.mk (below_drew1 HB.out)
                    clear HO_6
                    clear HO_357000
                    clear HO_357001
                    clear HO_367000
                    clear HO_367001
                    clear HO373
                    clear HO376
                    clear HO382
                    clear HO385
                    clear BK345
                    clear BK356
                    clear BK366
                    clear BK379
                    clear HB
                    have HO_6 := n0_
                    have HO_357000 := n1_
                    have HO_357001 := n2_
                    have HO_367000 := n3_
                    have HO_367001 := n4_
                    have HO373 := n5_
                    have HO376 := n6_
                    have HO382 := n7_
                    have HO385 := n8_
                    have BK345 := n9_
                    have BK356 := n10_
                    have BK366 := n11_
                    have BK379 := n12_
                    have HB := n13_
                    clear n0_ n1_ n2_ n3_ n4_ n5_ n6_ n7_ n8_ n9_ n10_ n11_ n12_ n13_
                    have p388 : 0 ≤ (0 : Int) := (by omega)
                    have q388 : 0 < (l0_0.length : Int) := of_decide_eq_true (by first | (with_reducible assumption) | assumption)
                    obtain ⟨ad388, e388, hx388_0⟩ := Kd.at_string HR0_0.out 0 p388 q388
                    have hw388_0 := hx388_0
                    (try rw [show ((0 : Int)).toNat = 0 from rfl] at hw388_0)
                    (try rw [show 0 * 1 = 0 from rfl] at hw388_0)
                    (try rw [Addr.add_zero'] at hw388_0)
                    cases e388
                    have qi388 : (0 < l0_0.length) = True := eq_true (by omega)
                    (try rw [show ((0 : Int)).toNat = 0 from rfl] at hx388_0)
                    (try rw [Addr.add_zero'] at hx388_0)
                    replace hx388_0 := (HB.out.cell (World.block_lt_of_cell? w _ hx388_0)).trans hx388_0
                    replace p388 := eq_true p388
                    replace q388 := eq_true q388
                    refine start_ (n := 6) (S := fun w' => w'.cell? ⟨gb356, 0, none⟩ = some (.slice Ao14 t348.length co14) ∧ w'.cell? ⟨gb356, 1, none⟩ = some (.slice Ao17 t351.length co17) ∧ w'.cell? ⟨gb356, 2, none⟩ = some (.int .i64 t354) ∧ w'.cell? ⟨gb356, 3, none⟩ = some (.bool t355) ∧ w'.cell? ⟨gb345, 0, none⟩ = some (.slice (some ad388) l0_0.length c0_0) ∧ w'.cell? ⟨gb345, 1, none⟩ = some (.slice A0_1 l0_1.length c0_1) ∧ w'.cell? ⟨gb345, 2, none⟩ = some (.int .i64 a0_2) ∧ w'.cell? ⟨gb345, 3, none⟩ = some (.bool a0_3) ∧ w'.cell? ad388 = some (.string (rdOf ByteArray.empty l0_0 0))) (ds := []) #[false, false, false, false, false, false] (by kernel_rfl) rfl rfl ⟨(blk_cell BK356.out 0).trans rfl, (blk_cell BK356.out 1).trans rfl, (blk_cell BK356.out 2).trans rfl, (blk_cell BK356.out 3).trans rfl, (blk_cell BK345.out 0).trans rfl, (blk_cell BK345.out 1).trans rfl, (blk_cell BK345.out 2).trans rfl, (blk_cell BK345.out 3).trans rfl, ((HB.out.cell (World.block_lt_of_cell? w _ hw388_0)).trans hw388_0)⟩ (fun hHeld => ?_)
                    generalize w54.drew = w55 at HO_6 HO_357000 HO_357001 HO_367000 HO_367001 HO373 HO376 HO382 HO385 BK345 BK356 BK366 BK379 HB hx388_0 hHeld ⊢
                    refine pure_ (i := 1) (N := some 42) (v := ?_) (a' := ?_) #[false, true, false, false, false, false] rfl rfl (by kernel_rfl) (fun _ _ _ h => h) (Or.inl ⟨by rfl, ?_⟩) ?_ ?_
                    rotate_left
                    · intro w'
                      go_simp
                      with_reducible rfl
                    rotate_left
                    · simp only [Act.put, List.setIfInBounds_toArray, List.set_cons_zero, List.set_cons_succ, i64_w, i32_w]
                      rfl
                    refine take_ (i := 0) (N := some 41) (v := ?_) (a' := ?_) #[true, true, false, false, false, false] rfl rfl (by kernel_rfl) (fun _ _ _ h => h) (Or.inl ⟨by rfl, ?_⟩) hHeld ?_ ?_
                    rotate_left
                    · rintro w' ⟨s0, s1, s2, s3, s4, s5, s6, s7, s8⟩
                      go_simp
                      with_reducible rfl
                    rotate_left
                    · simp only [Act.put, List.setIfInBounds_toArray, List.set_cons_zero, List.set_cons_succ, i64_w, i32_w]
                      rfl
                    refine take_ (i := 2) (N := some 43) (v := ?_) (a' := ?_) #[true, true, true, false, false, false] rfl rfl (by kernel_rfl) (fun _ _ _ h => h) (Or.inl ⟨by rfl, ?_⟩) hHeld ?_ ?_
                    rotate_left
                    · rintro w' ⟨s0, s1, s2, s3, s4, s5, s6, s7, s8⟩
                      go_simp
                      with_reducible rfl
                    rotate_left
                    · simp only [Act.put, List.setIfInBounds_toArray, List.set_cons_zero, List.set_cons_succ, i64_w, i32_w]
                      rfl
                    refine pure_ (i := 3) (N := some 44) (v := ?_) (a' := ?_) #[true, true, true, true, false, false] rfl rfl (by kernel_rfl) (fun _ _ _ h => h) (Or.inl ⟨by rfl, ?_⟩) ?_ ?_
                    rotate_left
                    · intro w'
                      go_simp
                      with_reducible rfl
                    rotate_left
                    · simp only [Act.put, List.setIfInBounds_toArray, List.set_cons_zero, List.set_cons_succ, i64_w, i32_w]
                      rfl
                    refine take_ (i := 4) (N := some 45) (v := ?_) (a' := ?_) #[true, true, true, true, true, false] rfl rfl (by kernel_rfl) (fun _ _ _ h => h) (Or.inl ⟨by rfl, ?_⟩) hHeld ?_ ?_
                    rotate_left
                    · rintro w' ⟨s0, s1, s2, s3, s4, s5, s6, s7, s8⟩
                      go_simp
                      with_reducible rfl
                    rotate_left
                    · simp only [Act.put, List.setIfInBounds_toArray, List.set_cons_zero, List.set_cons_succ, i64_w, i32_w]
                      rfl
                    refine one_ (i := 5) (N := some 46) #[true, true, true, true, true, true] rfl rfl (by kernel_rfl) (by decide) (fun K hK => ?_)
                    refine goes_ Try.func13 (by kernel_rfl) rfl #[.agg #[.slice Ao14 t348.length co14, .slice Ao17 t351.length co17, .int .i64 t354, .bool t355], .int .i64 0, .string (rdOf ByteArray.empty l0_0 0)] (by rfl) rfl rfl (by (try simp only [List.map_toArray, List.map_cons, List.map_nil]); first | done | rfl | (simp only [List.length_drop, List.length_take]; rfl)) ?_
                    with_reducible refine (dev_Write.calls k1 _ _ t348 _ _ t351 t354 t355 0 (rdOf ByteArray.empty l0_0 0) t389 t392 t395 t396 t397 _ ?side1 ?side2 ?side3 ?side4 A38.out).mono ?_
                    (case side1 => repeat (first | exact (Kd.R_reads' HO_357000.out).2.2 | (with_reducible refine Kd.C_alloc ?_ _) | (with_reducible refine Kd.C_drewN ?_ _) | (with_reducible refine Kd.C_drew ?_)))
                    (case side2 => exact (Kd.R_reads' HO_357000.out).2.1)
                    (case side3 => repeat (first | exact (Kd.R_reads' HO_357001.out).2.2 | (with_reducible refine Kd.C_alloc ?_ _) | (with_reducible refine Kd.C_drewN ?_ _) | (with_reducible refine Kd.C_drew ?_)))
                    (case side4 => exact (Kd.R_reads' HO_357001.out).2.1)
                    rintro e w56 ⟨v390, v393, rfl, ho0, ho1, hb⟩
                    refine ⟨_, rfl, ?_⟩
                    have n0_ := Aside0.mk (Kd.R_below (by (with_reducible repeat (first | apply Kd.R_alloc | apply Kd.R_drewN | apply Kd.R_drew)); exact HO_6.out) hb)
                    have n1_ := Aside0.mk (Kd.R_elder' (by (with_reducible repeat (first | apply Kd.R_alloc | apply Kd.R_drewN | apply Kd.R_drew)); exact HO_357000.out) (Kd.R_base ho0) hb)
                    have n2_ := Aside0.mk (Kd.R_elder' (by (with_reducible repeat (first | apply Kd.R_alloc | apply Kd.R_drewN | apply Kd.R_drew)); exact HO_357001.out) (Kd.R_base ho1) hb)
                    have n3_ := Aside0.mk (Kd.R_elder' (by (with_reducible repeat (first | apply Kd.R_alloc | apply Kd.R_drewN | apply Kd.R_drew)); exact HO_367000.out) (Kd.R_base ho0) hb)
                    have n4_ := Aside0.mk (Kd.R_elder' (by (with_reducible repeat (first | apply Kd.R_alloc | apply Kd.R_drewN | apply Kd.R_drew)); exact HO_367001.out) (Kd.R_base ho1) hb)
                    have n5_ := Aside0.mk (Kd.R_elder' (by (with_reducible repeat (first | apply Kd.R_alloc | apply Kd.R_drewN | apply Kd.R_drew)); exact HO373.out) (Kd.R_base ho0) hb)
                    have n6_ := Aside0.mk (Kd.R_elder' (by (with_reducible repeat (first | apply Kd.R_alloc | apply Kd.R_drewN | apply Kd.R_drew)); exact HO376.out) (Kd.R_base ho1) hb)
                    have n7_ := Aside0.mk (Kd.R_elder' (by (with_reducible repeat (first | apply Kd.R_alloc | apply Kd.R_drewN | apply Kd.R_drew)); exact HO382.out) (Kd.R_base ho0) hb)
                    have n8_ := Aside0.mk (Kd.R_elder' (by (with_reducible repeat (first | apply Kd.R_alloc | apply Kd.R_drewN | apply Kd.R_drew)); exact HO385.out) (Kd.R_base ho1) hb)
                    have n9_ := Aside0.mk (Kd.R_lower (Kd.R_new' (Kd.R_new' (Kd.R_new' (Kd.R_new' ho0 (Kd.R_lt (by (with_reducible repeat (first | apply Kd.R_alloc | apply Kd.R_drewN | apply Kd.R_drew)); exact HO_357000.out))) (Kd.R_lt (by (with_reducible repeat (first | apply Kd.R_alloc | apply Kd.R_drewN | apply Kd.R_drew)); exact HO_367000.out))) (Kd.R_lt (by (with_reducible repeat (first | apply Kd.R_alloc | apply Kd.R_drewN | apply Kd.R_drew)); exact HO373.out))) (Kd.R_lt (by (with_reducible repeat (first | apply Kd.R_alloc | apply Kd.R_drewN | apply Kd.R_drew)); exact HO382.out))) (below_size (by repeat (first | (with_reducible first | exact HB.out | apply below_alloc | apply pw_below_drewN | apply below_drew1 | refine below_set ?_ GE345.out | refine below_set ?_ GE356.out | refine below_set ?_ GE366.out | refine below_set ?_ GE379.out) | exact HB.out))))
                    have n10_ := Aside0.mk (Kd.R_lower (Kd.R_new' (Kd.R_new' (Kd.R_new' (Kd.R_new' ho1 (Kd.R_lt (by (with_reducible repeat (first | apply Kd.R_alloc | apply Kd.R_drewN | apply Kd.R_drew)); exact HO_357001.out))) (Kd.R_lt (by (with_reducible repeat (first | apply Kd.R_alloc | apply Kd.R_drewN | apply Kd.R_drew)); exact HO_367001.out))) (Kd.R_lt (by (with_reducible repeat (first | apply Kd.R_alloc | apply Kd.R_drewN | apply Kd.R_drew)); exact HO376.out))) (Kd.R_lt (by (with_reducible repeat (first | apply Kd.R_alloc | apply Kd.R_drewN | apply Kd.R_drew)); exact HO385.out))) (below_size (by repeat (first | (with_reducible first | exact HB.out | apply below_alloc | apply pw_below_drewN | apply below_drew1 | refine below_set ?_ GE345.out | refine below_set ?_ GE356.out | refine below_set ?_ GE366.out | refine below_set ?_ GE379.out) | exact HB.out))))
                    have n11_ := Aside0.mk (blk_below (g := gb345) (o := .cells #[.slice (some ad388) l0_0.length c0_0, .slice A0_1 l0_1.length c0_1, .int .i64 a0_2, .bool a0_3] 25 (0, 0)) (by (with_reducible repeat (first | refine blk_drewN ?_ _ | refine blk_drew ?_ | refine blk_alloc ?_ _)); exact BK345.out) hb)
                    have n12_ := Aside0.mk (blk_below (g := gb356) (o := .cells #[.slice Ao14 t348.length co14, .slice Ao17 t351.length co17, .int .i64 t354, .bool t355] 25 (0, 0)) (by (with_reducible repeat (first | refine blk_drewN ?_ _ | refine blk_drew ?_ | refine blk_alloc ?_ _)); exact BK356.out) hb)
                    have n13_ := Aside0.mk (blk_below (g := gb366) (o := .cells #[.slice Ao20 t357.length co20, .slice Ao24 t360.length co24, .int .i64 t363, .bool t364] 25 (0, 0)) (by (with_reducible repeat (first | refine blk_drewN ?_ _ | refine blk_drew ?_ | refine blk_alloc ?_ _)); exact BK366.out) hb)
                    have n14_ := Aside0.mk (blk_below (g := gb379) (o := .cells #[.slice Ao47 t371.length co47, .slice Ao52 t374.length co52, .int .i64 t377, .bool t378] 25 (0, 0)) (by (with_reducible repeat (first | refine blk_drewN ?_ _ | refine blk_drew ?_ | refine blk_alloc ?_ _)); exact BK379.out) hb)
                    have n15_ := Aside0.mk (below_step (by repeat (first | (with_reducible first | exact HB.out | apply below_alloc | apply pw_below_drewN | apply below_drew1 | refine below_set ?_ GE345.out | refine below_set ?_ GE356.out | refine below_set ?_ GE366.out | refine below_set ?_ GE379.out) | exact HB.out)) hb)
                    clear HO_6
                    clear HO_357000
                    clear HO_357001
                    clear HO_367000
                    clear HO_367001
                    clear HO373
                    clear HO376
                    clear HO382
                    clear HO385
                    clear BK345
                    clear BK356
                    clear BK366
                    clear BK379
                    clear HB
                    have HO_6 := n0_
                    have HO_357000 := n1_
                    have HO_357001 := n2_
                    have HO_367000 := n3_
                    have HO_367001 := n4_
                    have HO373 := n5_
                    have HO376 := n6_
                    have HO382 := n7_
                    have HO385 := n8_
                    have HO391 := n9_
                    have HO394 := n10_
                    have BK345 := n11_
                    have BK356 := n12_
                    have BK366 := n13_
                    have BK379 := n14_
                    have HB := n15_
                    clear n0_ n1_ n2_ n3_ n4_ n5_ n6_ n7_ n8_ n9_ n10_ n11_ n12_ n13_ n14_ n15_
                    (try clear hb)
                    (try clear hb2)
                    (try clear hk)
                    (try clear hi)
                    (try clear ho0)
                    (try clear ho1)
                    refine hK.out _ _ ⟨(blk_cell BK356.out 0).trans rfl, (blk_cell BK356.out 1).trans rfl, (blk_cell BK356.out 2).trans rfl, (blk_cell BK356.out 3).trans rfl, (blk_cell BK345.out 0).trans rfl, (blk_cell BK345.out 1).trans rfl, (blk_cell BK345.out 2).trans rfl, (blk_cell BK345.out 3).trans rfl, ((HB.out.cell (World.block_lt_of_cell? w _ hw388_0)).trans hw388_0)⟩ (fun hHeld => ?_)
                    clear hK K
                    refine norm_ (a' := ?_) ?_ ?_
                    rotate_left
                    · show Act.put _ (some 46) _ = _
                      simp only [Act.put, List.setIfInBounds_toArray, List.set_cons_zero, List.set_cons_succ, i64_w, i32_w]
                      rfl
                    refine done_ (by kernel_rfl) ?_
                    have hcz57_0 : w56.cell? ⟨gb356, 0, none⟩ = some (.slice Ao14 t348.length co14) := (blk_cell BK356.out 0).trans rfl
                    have hcz57_1 : w56.cell? ⟨gb356, 1, none⟩ = some (.slice Ao17 t351.length co17) := (blk_cell BK356.out 1).trans rfl
                    have hcz57_2 : w56.cell? ⟨gb356, 2, none⟩ = some (.int .i64 t354) := (blk_cell BK356.out 2).trans rfl
                    have hcz57_3 : w56.cell? ⟨gb356, 3, none⟩ = some (.bool t355) := (blk_cell BK356.out 3).trans rfl
                    have hfz57_0 := blk_frozen BK356.out 0
                    have hfz57_1 := blk_frozen BK356.out 1
                    have hfz57_2 := blk_frozen BK356.out 2
                    have hfz57_3 := blk_frozen BK356.out 3
                    have hnb58 := NB345_366.out
                    have hnc58 := NB366_345.out
                    have hcz59_0 : w56.cell? ⟨gb345, 0, none⟩ = some (.slice (some ad388) l0_0.length c0_0) := (blk_cell BK345.out 0).trans rfl
                    have hcz59_1 : w56.cell? ⟨gb345, 1, none⟩ = some (.slice A0_1 l0_1.length c0_1) := (blk_cell BK345.out 1).trans rfl
                    have hcz59_2 : w56.cell? ⟨gb345, 2, none⟩ = some (.int .i64 a0_2) := (blk_cell BK345.out 2).trans rfl
                    have hcz59_3 : w56.cell? ⟨gb345, 3, none⟩ = some (.bool a0_3) := (blk_cell BK345.out 3).trans rfl
                    have hfz59_0 := blk_frozen BK345.out 0
                    have hfz59_1 := blk_frozen BK345.out 1
                    have hfz59_2 := blk_frozen BK345.out 2
                    have hfz59_3 := blk_frozen BK345.out 3
                    try go_wp2_with (first | ((with_reducible refine gate_callee (f := 14) rfl ?_); refine goesL_ (some 49) rfl rfl Try.func14 (by kernel_rfl) rfl #[.agg #[.slice Ao14 t348.length co14, .slice Ao17 t351.length co17, .int .i64 t354, .bool t355], .agg #[.slice (some ad388) l0_0.length c0_0, .slice A0_1 l0_1.length c0_1, .int .i64 a0_2, .bool a0_3]] rfl (by (try simp only [List.map_toArray, List.map_cons, List.map_nil]); first | done | rfl | (simp only [List.length_drop, List.length_take]; rfl)) ?_; (with_reducible refine (almanacref02_Same.calls k1 _ _ t348 _ _ t351 t354 t355 _ _ l0_0 _ _ l0_1 a0_2 a0_3 true _ ?side1 ?side2 ?side3 ?side4 ?side5 ?side6 ?side7 ?side8 A39.out).mono ?_); (case side1 => repeat (first | exact (Kd.R_reads' HO_357000.out).2.2 | (with_reducible refine Kd.C_alloc ?_ _) | (with_reducible refine Kd.C_drewN ?_ _) | (with_reducible refine Kd.C_drew ?_))); (case side2 => exact (Kd.R_reads' HO_357000.out).2.1); (case side3 => repeat (first | exact (Kd.R_reads' HO_357001.out).2.2 | (with_reducible refine Kd.C_alloc ?_ _) | (with_reducible refine Kd.C_drewN ?_ _) | (with_reducible refine Kd.C_drew ?_))); (case side4 => exact (Kd.R_reads' HO_357001.out).2.1); (case side5 => repeat (first | exact (Kd.C_below HR0_0.out HB.out) | (with_reducible refine Kd.C_alloc ?_ _) | (with_reducible refine Kd.C_drewN ?_ _) | (with_reducible refine Kd.C_drew ?_))); (case side6 => exact HC0_0.out); (case side7 => repeat (first | exact (Kd.C_below HR0_1.out HB.out) | (with_reducible refine Kd.C_alloc ?_ _) | (with_reducible refine Kd.C_drewN ?_ _) | (with_reducible refine Kd.C_drew ?_))); (case side8 => exact HC0_1.out); rintro e w60 ⟨rfl, hb⟩; refine ⟨_, rfl, ?_⟩; have n0_ := Aside0.mk (Kd.R_below (by (with_reducible repeat (first | apply Kd.R_alloc | apply Kd.R_drewN | apply Kd.R_drew)); exact HO_6.out) hb); have n1_ := Aside0.mk (Kd.R_below (by (with_reducible repeat (first | apply Kd.R_alloc | apply Kd.R_drewN | apply Kd.R_drew)); exact HO_357000.out) hb); have n2_ := Aside0.mk (Kd.R_below (by (with_reducible repeat (first | apply Kd.R_alloc | apply Kd.R_drewN | apply Kd.R_drew)); exact HO_357001.out) hb); have n3_ := Aside0.mk (Kd.R_below (by (with_reducible repeat (first | apply Kd.R_alloc | apply Kd.R_drewN | apply Kd.R_drew)); exact HO_367000.out) hb); have n4_ := Aside0.mk (Kd.R_below (by (with_reducible repeat (first | apply Kd.R_alloc | apply Kd.R_drewN | apply Kd.R_drew)); exact HO_367001.out) hb); have n5_ := Aside0.mk (Kd.R_below (by (with_reducible repeat (first | apply Kd.R_alloc | apply Kd.R_drewN | apply Kd.R_drew)); exact HO373.out) hb); have n6_ := Aside0.mk (Kd.R_below (by (with_reducible repeat (first | apply Kd.R_alloc | apply Kd.R_drewN | apply Kd.R_drew)); exact HO376.out) hb); have n7_ := Aside0.mk (Kd.R_below (by (with_reducible repeat (first | apply Kd.R_alloc | apply Kd.R_drewN | apply Kd.R_drew)); exact HO382.out) hb); have n8_ := Aside0.mk (Kd.R_below (by (with_reducible repeat (first | apply Kd.R_alloc | apply Kd.R_drewN | apply Kd.R_drew)); exact HO385.out) hb); have n9_ := Aside0.mk (Kd.R_below (by (with_reducible repeat (first | apply Kd.R_alloc | apply Kd.R_drewN | apply Kd.R_drew)); exact HO391.out) hb); have n10_ := Aside0.mk (Kd.R_below (by (with_reducible repeat (first | apply Kd.R_alloc | apply Kd.R_drewN | apply Kd.R_drew)); exact HO394.out) hb); have n11_ := Aside0.mk (blk_below (g := gb345) (o := .cells #[.slice (some ad388) l0_0.length c0_0, .slice A0_1 l0_1.length c0_1, .int .i64 a0_2, .bool a0_3] 25 (0, 0)) (by (with_reducible repeat (first | refine blk_drewN ?_ _ | refine blk_drew ?_ | refine blk_alloc ?_ _)); exact BK345.out) hb); have n12_ := Aside0.mk (blk_below (g := gb356) (o := .cells #[.slice Ao14 t348.length co14, .slice Ao17 t351.length co17, .int .i64 t354, .bool t355] 25 (0, 0)) (by (with_reducible repeat (first | refine blk_drewN ?_ _ | refine blk_drew ?_ | refine blk_alloc ?_ _)); exact BK356.out) hb); have n13_ := Aside0.mk (blk_below (g := gb366) (o := .cells #[.slice Ao20 t357.length co20, .slice Ao24 t360.length co24, .int .i64 t363, .bool t364] 25 (0, 0)) (by (with_reducible repeat (first | refine blk_drewN ?_ _ | refine blk_drew ?_ | refine blk_alloc ?_ _)); exact BK366.out) hb); have n14_ := Aside0.mk (blk_below (g := gb379) (o := .cells #[.slice Ao47 t371.length co47, .slice Ao52 t374.length co52, .int .i64 t377, .bool t378] 25 (0, 0)) (by (with_reducible repeat (first | refine blk_drewN ?_ _ | refine blk_drew ?_ | refine blk_alloc ?_ _)); exact BK379.out) hb); have n15_ := Aside0.mk (below_step (by repeat (first | (with_reducible first | exact HB.out | apply below_alloc | apply pw_below_drewN | apply below_drew1 | refine below_set ?_ GE345.out | refine below_set ?_ GE356.out | refine below_set ?_ GE366.out | refine below_set ?_ GE379.out) | exact HB.out)) hb); clear HO_6; clear HO_357000; clear HO_357001; clear HO_367000; clear HO_367001; clear HO373; clear HO376; clear HO382; clear HO385; clear HO391; clear HO394; clear BK345; clear BK356; clear BK366; clear BK379; clear HB; have HO_6 := n0_; have HO_357000 := n1_; have HO_357001 := n2_; have HO_367000 := n3_; have HO_367001 := n4_; have HO373 := n5_; have HO376 := n6_; have HO382 := n7_; have HO385 := n8_; have HO391 := n9_; have HO394 := n10_; have BK345 := n11_; have BK356 := n12_; have BK366 := n13_; have BK379 := n14_; have HB := n15_; clear n0_ n1_ n2_ n3_ n4_ n5_ n6_ n7_ n8_ n9_ n10_ n11_ n12_ n13_ n14_ n15_; (try clear hb); (try clear hb2); (try clear hk); (try clear hi); have hcz61_0 : w60.cell? ⟨gb345, 0, none⟩ = some (.slice (some ad388) l0_0.length c0_0) := (blk_cell BK345.out 0).trans rfl; have hcz61_1 : w60.cell? ⟨gb345, 1, none⟩ = some (.slice A0_1 l0_1.length c0_1) := (blk_cell BK345.out 1).trans rfl; have hcz61_2 : w60.cell? ⟨gb345, 2, none⟩ = some (.int .i64 a0_2) := (blk_cell BK345.out 2).trans rfl; have hcz61_3 : w60.cell? ⟨gb345, 3, none⟩ = some (.bool a0_3) := (blk_cell BK345.out 3).trans rfl; have hfz61_0 := blk_frozen BK345.out 0; have hfz61_1 := blk_frozen BK345.out 1; have hfz61_2 := blk_frozen BK345.out 2; have hfz61_3 := blk_frozen BK345.out 3))
                    go_loopg [66] k1 (fun kq v66 w' => ∃ (x66_2 : Int), v66 = .int .i64 x66_2 ∧ Aside0 (almanaclaw02_DevFlushes.l1 kq (l0_0.length : Int) x66_2 l0_0 l0_1 a0_2 a0_3 t357 t360 t363 t364 t371 t374 t377 t378 = some r) ∧ Aside0 (kq ≤ k1) ∧ Aside0 (Kd.R Kd.string 9 w' w.heap.size (fun k_ => some k_ ≠ ((.slice Ao20 t357.length co20) : Value).ownBlock ∧ some k_ ≠ ((.slice Ao47 t371.length co47) : Value).ownBlock) (.slice Ao14 t348.length co14) t348) ∧ Aside0 (Kd.R k40 40 w' w.heap.size (fun k_ => some k_ ≠ ((.slice Ao24 t360.length co24) : Value).ownBlock ∧ some k_ ≠ ((.slice Ao52 t374.length co52) : Value).ownBlock) (.slice Ao17 t351.length co17) t351) ∧ Aside0 (Kd.R Kd.string 9 w' w.heap.size (fun k_ => some k_ ≠ ((.slice Ao14 t348.length co14) : Value).ownBlock ∧ some k_ ≠ ((.slice Ao47 t371.length co47) : Value).ownBlock) (.slice Ao20 t357.length co20) t357) ∧ Aside0 (Kd.R k40 40 w' w.heap.size (fun k_ => some k_ ≠ ((.slice Ao17 t351.length co17) : Value).ownBlock ∧ some k_ ≠ ((.slice Ao52 t374.length co52) : Value).ownBlock) (.slice Ao24 t360.length co24) t360) ∧ Aside0 (Kd.R Kd.string 9 w' w.heap.size (fun k_ => some k_ ≠ ((.slice Ao14 t348.length co14) : Value).ownBlock ∧ some k_ ≠ ((.slice Ao20 t357.length co20) : Value).ownBlock) (.slice Ao47 t371.length co47) t371) ∧ Aside0 (Kd.R k40 40 w' w.heap.size (fun k_ => some k_ ≠ ((.slice Ao17 t351.length co17) : Value).ownBlock ∧ some k_ ≠ ((.slice Ao24 t360.length co24) : Value).ownBlock) (.slice Ao52 t374.length co52) t374) ∧ Aside0 (w'.heap[gb345]? = some (.cells #[(.slice (some ad388) l0_0.length c0_0), (.slice A0_1 l0_1.length c0_1), .int .i64 a0_2, .bool a0_3] 25 (0, 0))) ∧ Aside0 (w'.heap[gb356]? = some (.cells #[(.slice Ao14 t348.length co14), (.slice Ao17 t351.length co17), .int .i64 t354, .bool t355] 25 (0, 0))) ∧ Aside0 (w'.heap[gb366]? = some (.cells #[(.slice Ao20 t357.length co20), (.slice Ao24 t360.length co24), .int .i64 t363, .bool t364] 25 (0, 0))) ∧ Aside0 (w'.heap[gb379]? = some (.cells #[(.slice Ao47 t371.length co47), (.slice Ao52 t374.length co52), .int .i64 t377, .bool t378] 25 (0, 0))) ∧ Aside0 (Below w.heap.size w w'))
                    case atStart => exact ⟨(0), (by first | rfl | (simp; done) | (simp [*]; done)), H', ⟨Nat.le_refl _⟩, ⟨by (try simp only [hl6_1]); (with_reducible repeat (first | apply Kd.R_alloc | apply Kd.R_drewN | apply Kd.R_drew)); exact Kd.R_mono HO_357000.out (fun _ hk => ⟨hk.1.1.1, hk.1.1.2⟩)⟩, ⟨by (try simp only [hl6_1]); (with_reducible repeat (first | apply Kd.R_alloc | apply Kd.R_drewN | apply Kd.R_drew)); exact Kd.R_mono HO_357001.out (fun _ hk => ⟨hk.1.1.1, hk.1.1.2⟩)⟩, ⟨by (try simp only [hl6_1]); (with_reducible repeat (first | apply Kd.R_alloc | apply Kd.R_drewN | apply Kd.R_drew)); exact Kd.R_mono HO_367000.out (fun _ hk => ⟨hk.1.1.1, hk.1.1.2⟩)⟩, ⟨by (try simp only [hl6_1]); (with_reducible repeat (first | apply Kd.R_alloc | apply Kd.R_drewN | apply Kd.R_drew)); exact Kd.R_mono HO_367001.out (fun _ hk => ⟨hk.1.1.1, hk.1.1.2⟩)⟩, ⟨by (try simp only [hl6_1]); (with_reducible repeat (first | apply Kd.R_alloc | apply Kd.R_drewN | apply Kd.R_drew)); exact Kd.R_mono HO373.out (fun _ hk => ⟨hk.1.1.1.2, hk.1.1.2⟩)⟩, ⟨by (try simp only [hl6_1]); (with_reducible repeat (first | apply Kd.R_alloc | apply Kd.R_drewN | apply Kd.R_drew)); exact Kd.R_mono HO376.out (fun _ hk => ⟨hk.1.1.1.2, hk.1.1.2⟩)⟩, ⟨by (try simp only [hl6_1]); (with_reducible repeat (first | refine blk_drewN ?_ _ | refine blk_drew ?_ | refine blk_alloc ?_ _)); exact BK345.out⟩, ⟨by (try simp only [hl6_1]); (with_reducible repeat (first | refine blk_drewN ?_ _ | refine blk_drew ?_ | refine blk_alloc ?_ _)); exact BK356.out⟩, ⟨by (try simp only [hl6_1]); (with_reducible repeat (first | refine blk_drewN ?_ _ | refine blk_drew ?_ | refine blk_alloc ?_ _)); exact BK366.out⟩, ⟨by (try simp only [hl6_1]); (with_reducible repeat (first | refine blk_drewN ?_ _ | refine blk_drew ?_ | refine blk_alloc ?_ _)); exact BK379.out⟩, ⟨by repeat (first | (with_reducible first | exact HB.out | apply below_alloc | apply pw_below_drewN | apply below_drew1 | refine below_set ?_ GE345.out | refine below_set ?_ GE356.out | refine below_set ?_ GE366.out | refine below_set ?_ GE379.out) | exact HB.out)⟩⟩
                    case round =>
                      clear H'
                      try clear c1
                      try clear c2
                      try clear p2
                      try clear c3
                      try clear p3
                      try clear q3
                      try clear hx3
                      try clear qi3
                      try clear hf3
                      try clear c4
                      try clear c5
                      try clear c6
                      try clear c6b0
                      try clear c6b1
                      try clear p6
                      try clear c7
                      try clear c7b0
                      try clear c7b1
                      try clear c9
                      try clear c10
                      try clear c11
                      try clear c12
                      try clear c13
                      try clear c14
                      try clear c15
                      try clear c21
                      try clear c22
                      try clear c29
                      try clear c29b0
                      try clear c30
                      try clear c30b0
                      try clear c31
                      try clear c31b0
                      try clear p32
                      try clear q32
                      try clear hx32
                      try clear hf32
                      try clear c37
                      try clear c37b0
                      try clear c37b1
                      try clear p38
                      try clear q38
                      try clear hx38
                      try clear qi38
                      try clear c40
                      try clear c41
                      try clear c41b0
                      try clear c41b1
                      try clear c42
                      try clear c43
                      try clear c48
                      try clear c49
                      try clear c50
                      try clear c58
                      try clear hcz11_0
                      try clear hcz11_1
                      try clear hcz11_2
                      try clear hcz11_3
                      try clear hcz16_0
                      try clear hcz16_1
                      try clear hcz16_2
                      try clear hcz16_3
                      try clear hcz23_0
                      try clear hcz23_1
                      try clear hcz23_2
                      try clear hcz23_3
                      try clear hcz25_0
                      try clear hcz25_1
                      try clear hcz25_2
                      try clear hcz25_3
                      try clear hcz44_0
                      try clear hcz44_1
                      try clear hcz44_2
                      try clear hcz44_3
                      try clear hcz51_0
                      try clear hcz51_1
                      try clear hcz51_2
                      try clear hcz51_3
                      try clear hcz53_0
                      try clear hcz53_1
                      try clear hcz53_2
                      try clear hcz53_3
                      try clear hcz57_0
                      try clear hcz57_1
                      try clear hcz57_2
                      try clear hcz57_3
                      try clear hcz59_0
                      try clear hcz59_1
                      try clear hcz59_2
                      try clear hcz59_3
                      try clear hcz61_0
                      try clear hcz61_1
                      try clear hcz61_2
                      try clear hcz61_3
                      try clear hcz9_0
                      try clear hcz9_1
                      try clear hcz9_2
                      try clear hcz9_3
                      try clear hfz11_0
                      try clear hfz11_1
                      try clear hfz11_2
                      try clear hfz11_3
                      try clear hfz16_0
                      try clear hfz16_1
                      try clear hfz16_2
                      try clear hfz16_3
                      try clear hfz23_0
                      try clear hfz23_1
                      try clear hfz23_2
                      try clear hfz23_3
                      try clear hfz25_0
                      try clear hfz25_1
                      try clear hfz25_2
                      try clear hfz25_3
                      try clear hfz44_0
                      try clear hfz44_1
                      try clear hfz44_2
                      try clear hfz44_3
                      try clear hfz51_0
                      try clear hfz51_1
                      try clear hfz51_2
                      try clear hfz51_3
                      try clear hfz53_0
                      try clear hfz53_1
                      try clear hfz53_2
                      try clear hfz53_3
                      try clear hfz57_0
                      try clear hfz57_1
                      try clear hfz57_2
                      try clear hfz57_3
                      try clear hfz59_0
                      try clear hfz59_1
                      try clear hfz59_2
                      try clear hfz59_3
                      try clear hfz61_0
                      try clear hfz61_1
                      try clear hfz61_2
                      try clear hfz61_3
                      try clear hfz9_0
                      try clear hfz9_1
                      try clear hfz9_2
                      try clear hfz9_3
                      try clear hx32_0
                      try clear hx388_0
                      try clear p2
                      try clear p32
                      try clear p388
                      try clear q32
                      try clear q388
                      obtain ⟨x66_2, rfl, HA, HK2, HO_357000, HO_357001, HO_367000, HO_367001, HO_380000, HO_380001, BK345, BK356, BK366, BK379, HB⟩ := hrel
                      cases gk with
                      | zero => exact absurd HA.out (by simp [almanaclaw02_DevFlushes.l1])
                      | succ k2 =>
                        have H := HA.out
                        clear HA
                        simp only [almanaclaw02_DevFlushes.l1] at H
                        by_cases c62 : x66_2 < (l0_0.length : Int)
                        · rw [if_pos c62] at H
                          have c62b0 : decide (x66_2 < (l0_0.length : Int)) = true := decide_eq_true c62
                          clear c62
                          replace H := Option.bind_eq_some_iff.mp H
                          obtain ⟨⟨t401, t402⟩, A630, H⟩ := H
                          replace H : (if t402 = 0 then (if (t357.length : Int) = (l0_0.length : Int) then (if 0 ≤ x66_2 then (if x66_2 < (t357.length : Int) then (if (rdOf ByteArray.empty t357 x66_2).toList = t401.toList then (if (t371.length : Int) = (l0_0.length : Int) then (if x66_2 < (t371.length : Int) then (if (rdOf ByteArray.empty t371 x66_2).toList = t401.toList then (almanaclaw02_DevFlushes.l1 k2 (l0_0.length : Int) (wrap64 (x66_2 + 1)) l0_0 l0_1 a0_2 a0_3 t357 t360 t363 t364 t371 t374 t377 t378) else (some false)) else (none)) else (some false)) else (some false)) else (none)) else (none)) else (some false)) else (some false)) = some r := H
                          have A63 := Aside0.mk A630
                          clear A630
                          by_cases c64 : t402 = 0
                          · rw [if_pos c64] at H
                            have c64b0 : (t402 == 0) = true := beq_iff_eq.mpr c64
                            have c64b1 : (t402 != 0) = false := bne_eq_false_iff_eq.mpr c64
                            clear c64
                            by_cases c65 : (t357.length : Int) = (l0_0.length : Int)
                            · rw [if_pos c65] at H
                              have c65b0 : ((t357.length : Int) == (l0_0.length : Int)) = true := beq_iff_eq.mpr c65
                              have c65b1 : ((t357.length : Int) != (l0_0.length : Int)) = false := bne_eq_false_iff_eq.mpr c65
                              have c65b2 : (t357.length == l0_0.length) = true := by first | simpa using c65 | (simp at c65 ⊢; omega)
                              clear c65
                              by_cases c66 : 0 ≤ x66_2
                              · rw [if_pos c66] at H
                                have c66b0 : decide (0 ≤ x66_2) = true := decide_eq_true c66
                                clear c66
                                by_cases c67 : x66_2 < (t357.length : Int)
                                · rw [if_pos c67] at H
                                  have c67b0 : decide (x66_2 < (t357.length : Int)) = true := decide_eq_true c67
                                  clear c67
                                  by_cases c68 : (rdOf ByteArray.empty t357 x66_2).toList = t401.toList
                                  · rw [if_pos c68] at H
                                    have c68b0 : ((rdOf ByteArray.empty t357 x66_2).toList == t401.toList) = true := beq_iff_eq.mpr c68
                                    have c68b1 : ((rdOf ByteArray.empty t357 x66_2).toList != t401.toList) = false := bne_eq_false_iff_eq.mpr c68
                                    clear c68
                                    by_cases c69 : (t371.length : Int) = (l0_0.length : Int)
                                    · rw [if_pos c69] at H
                                      have c69b0 : ((t371.length : Int) == (l0_0.length : Int)) = true := beq_iff_eq.mpr c69
                                      have c69b1 : ((t371.length : Int) != (l0_0.length : Int)) = false := bne_eq_false_iff_eq.mpr c69
                                      have c69b2 : (t371.length == l0_0.length) = true := by first | simpa using c69 | (simp at c69 ⊢; omega)
                                      clear c69
                                      by_cases c70 : x66_2 < (t371.length : Int)
                                      · rw [if_pos c70] at H
                                        have c70b0 : decide (x66_2 < (t371.length : Int)) = true := decide_eq_true c70
                                        clear c70
                                        by_cases c71 : (rdOf ByteArray.empty t371 x66_2).toList = t401.toList
                                        · rw [if_pos c71] at H
                                          have c71b0 : ((rdOf ByteArray.empty t371 x66_2).toList == t401.toList) = true := beq_iff_eq.mpr c71
                                          have c71b1 : ((rdOf ByteArray.empty t371 x66_2).toList != t401.toList) = false := bne_eq_false_iff_eq.mpr c71
                                          clear c71
                                          have H' := Aside0.mk H
                                          clear H
                                          have hnb72 := NB345_356.out
                                          have hnc72 := NB356_345.out
                                          have hnb73 := NB345_366.out
                                          have hnc73 := NB366_345.out
                                          have hnb74 := NB345_379.out
                                          have hnc74 := NB379_345.out
                                          have hcz75_0 : wr.cell? ⟨gb345, 0, none⟩ = some (.slice (some ad388) l0_0.length c0_0) := (blk_cell BK345.out 0).trans rfl
                                          have hcz75_1 : wr.cell? ⟨gb345, 1, none⟩ = some (.slice A0_1 l0_1.length c0_1) := (blk_cell BK345.out 1).trans rfl
                                          have hcz75_2 : wr.cell? ⟨gb345, 2, none⟩ = some (.int .i64 a0_2) := (blk_cell BK345.out 2).trans rfl
                                          have hcz75_3 : wr.cell? ⟨gb345, 3, none⟩ = some (.bool a0_3) := (blk_cell BK345.out 3).trans rfl
                                          have hfz75_0 := blk_frozen BK345.out 0
                                          have hfz75_1 := blk_frozen BK345.out 1
                                          have hfz75_2 := blk_frozen BK345.out 2
                                          have hfz75_3 := blk_frozen BK345.out 3
                                          go_wp2_with (first | ((with_reducible refine gate_callee (f := 15) rfl ?_); refine goesL_ (some 72) rfl rfl Try.func15 (by kernel_rfl) rfl #[.agg #[.slice (some ad388) l0_0.length c0_0, .slice A0_1 l0_1.length c0_1, .int .i64 a0_2, .bool a0_3], .int .i64 x66_2] rfl (by (try simp only [List.map_toArray, List.map_cons, List.map_nil]); first | done | rfl | (simp only [List.length_drop, List.length_take]; rfl)) ?_; (with_reducible refine (dev_Read.calls _ _ l0_0 _ _ l0_1 a0_2 a0_3 x66_2 t401 t402 _ ?side1 ?side2 ?side3 ?side4 A63.out).mono ?_); (case side1 => repeat (first | exact (Kd.C_below HR0_0.out HB.out) | (with_reducible refine Kd.C_alloc ?_ _) | (with_reducible refine Kd.C_drewN ?_ _) | (with_reducible refine Kd.C_drew ?_))); (case side2 => exact HC0_0.out); (case side3 => repeat (first | exact (Kd.C_below HR0_1.out HB.out) | (with_reducible refine Kd.C_alloc ?_ _) | (with_reducible refine Kd.C_drewN ?_ _) | (with_reducible refine Kd.C_drew ?_))); (case side4 => exact HC0_1.out); rintro e w76 ⟨rfl, hb⟩; refine ⟨_, rfl, ?_⟩; have n0_ := Aside0.mk (Kd.R_below (by (with_reducible repeat (first | apply Kd.R_alloc | apply Kd.R_drewN | apply Kd.R_drew)); exact HO_357000.out) hb); have n1_ := Aside0.mk (Kd.R_below (by (with_reducible repeat (first | apply Kd.R_alloc | apply Kd.R_drewN | apply Kd.R_drew)); exact HO_357001.out) hb); have n2_ := Aside0.mk (Kd.R_below (by (with_reducible repeat (first | apply Kd.R_alloc | apply Kd.R_drewN | apply Kd.R_drew)); exact HO_367000.out) hb); have n3_ := Aside0.mk (Kd.R_below (by (with_reducible repeat (first | apply Kd.R_alloc | apply Kd.R_drewN | apply Kd.R_drew)); exact HO_367001.out) hb); have n4_ := Aside0.mk (Kd.R_below (by (with_reducible repeat (first | apply Kd.R_alloc | apply Kd.R_drewN | apply Kd.R_drew)); exact HO_380000.out) hb); have n5_ := Aside0.mk (Kd.R_below (by (with_reducible repeat (first | apply Kd.R_alloc | apply Kd.R_drewN | apply Kd.R_drew)); exact HO_380001.out) hb); have n6_ := Aside0.mk (blk_below (g := gb345) (o := .cells #[.slice (some ad388) l0_0.length c0_0, .slice A0_1 l0_1.length c0_1, .int .i64 a0_2, .bool a0_3] 25 (0, 0)) (by (with_reducible repeat (first | refine blk_drewN ?_ _ | refine blk_drew ?_ | refine blk_alloc ?_ _)); exact BK345.out) hb); have n7_ := Aside0.mk (blk_below (g := gb356) (o := .cells #[.slice Ao14 t348.length co14, .slice Ao17 t351.length co17, .int .i64 t354, .bool t355] 25 (0, 0)) (by (with_reducible repeat (first | refine blk_drewN ?_ _ | refine blk_drew ?_ | refine blk_alloc ?_ _)); exact BK356.out) hb); have n8_ := Aside0.mk (blk_below (g := gb366) (o := .cells #[.slice Ao20 t357.length co20, .slice Ao24 t360.length co24, .int .i64 t363, .bool t364] 25 (0, 0)) (by (with_reducible repeat (first | refine blk_drewN ?_ _ | refine blk_drew ?_ | refine blk_alloc ?_ _)); exact BK366.out) hb); have n9_ := Aside0.mk (blk_below (g := gb379) (o := .cells #[.slice Ao47 t371.length co47, .slice Ao52 t374.length co52, .int .i64 t377, .bool t378] 25 (0, 0)) (by (with_reducible repeat (first | refine blk_drewN ?_ _ | refine blk_drew ?_ | refine blk_alloc ?_ _)); exact BK379.out) hb); have n10_ := Aside0.mk (below_step (by repeat (first | (with_reducible first | exact HB.out | apply below_alloc | apply pw_below_drewN | apply below_drew1 | refine below_set ?_ GE345.out | refine below_set ?_ GE356.out | refine below_set ?_ GE366.out | refine below_set ?_ GE379.out) | exact HB.out)) hb); clear HO_357000; clear HO_357001; clear HO_367000; clear HO_367001; clear HO_380000; clear HO_380001; clear BK345; clear BK356; clear BK366; clear BK379; clear HB; have HO_357000 := n0_; have HO_357001 := n1_; have HO_367000 := n2_; have HO_367001 := n3_; have HO_380000 := n4_; have HO_380001 := n5_; have BK345 := n6_; have BK356 := n7_; have BK366 := n8_; have BK379 := n9_; have HB := n10_; clear n0_ n1_ n2_ n3_ n4_ n5_ n6_ n7_ n8_ n9_ n10_; (try clear hb); (try clear hb2); (try clear hk); (try clear hi); have hnb77 := NB366_356.out; have hnc77 := NB356_366.out; have hnb78 := NB366_379.out; have hnc78 := NB379_366.out; have hcz79_0 : w76.cell? ⟨gb366, 0, none⟩ = some (.slice Ao20 t357.length co20) := (blk_cell BK366.out 0).trans rfl; have hcz79_1 : w76.cell? ⟨gb366, 1, none⟩ = some (.slice Ao24 t360.length co24) := (blk_cell BK366.out 1).trans rfl; have hcz79_2 : w76.cell? ⟨gb366, 2, none⟩ = some (.int .i64 t363) := (blk_cell BK366.out 2).trans rfl; have hcz79_3 : w76.cell? ⟨gb366, 3, none⟩ = some (.bool t364) := (blk_cell BK366.out 3).trans rfl; have hfz79_0 := blk_frozen BK366.out 0; have hfz79_1 := blk_frozen BK366.out 1; have hfz79_2 := blk_frozen BK366.out 2; have hfz79_3 := blk_frozen BK366.out 3; have hcz80_0 : w76.cell? ⟨gb345, 0, none⟩ = some (.slice (some ad388) l0_0.length c0_0) := (blk_cell BK345.out 0).trans rfl; have hcz80_1 : w76.cell? ⟨gb345, 1, none⟩ = some (.slice A0_1 l0_1.length c0_1) := (blk_cell BK345.out 1).trans rfl; have hcz80_2 : w76.cell? ⟨gb345, 2, none⟩ = some (.int .i64 a0_2) := (blk_cell BK345.out 2).trans rfl; have hcz80_3 : w76.cell? ⟨gb345, 3, none⟩ = some (.bool a0_3) := (blk_cell BK345.out 3).trans rfl; have hfz80_0 := blk_frozen BK345.out 0; have hfz80_1 := blk_frozen BK345.out 1; have hfz80_2 := blk_frozen BK345.out 2; have hfz80_3 := blk_frozen BK345.out 3; have p403 : 0 ≤ (x66_2 : Int) := of_decide_eq_true (by first | (with_reducible assumption) | assumption); have q403 : x66_2 < (t357.length : Int) := of_decide_eq_true (by first | (with_reducible assumption) | assumption); obtain ⟨ad403, e403, hx403_0⟩ := Kd.at_string (Kd.R_reads' HO_367000.out).2.2 x66_2 p403 q403; cases e403; replace p403 := eq_true p403; replace q403 := eq_true q403; have hnb81 := NB379_356.out; have hnc81 := NB356_379.out; have hcz82_0 : w76.cell? ⟨gb379, 0, none⟩ = some (.slice Ao47 t371.length co47) := (blk_cell BK379.out 0).trans rfl; have hcz82_1 : w76.cell? ⟨gb379, 1, none⟩ = some (.slice Ao52 t374.length co52) := (blk_cell BK379.out 1).trans rfl; have hcz82_2 : w76.cell? ⟨gb379, 2, none⟩ = some (.int .i64 t377) := (blk_cell BK379.out 2).trans rfl; have hcz82_3 : w76.cell? ⟨gb379, 3, none⟩ = some (.bool t378) := (blk_cell BK379.out 3).trans rfl; have hfz82_0 := blk_frozen BK379.out 0; have hfz82_1 := blk_frozen BK379.out 1; have hfz82_2 := blk_frozen BK379.out 2; have hfz82_3 := blk_frozen BK379.out 3; have p404 : 0 ≤ (x66_2 : Int) := of_decide_eq_true (by first | (with_reducible assumption) | assumption); have q404 : x66_2 < (t371.length : Int) := of_decide_eq_true (by first | (with_reducible assumption) | assumption); obtain ⟨ad404, e404, hx404_0⟩ := Kd.at_string (Kd.R_reads' HO_380000.out).2.2 x66_2 p404 q404; cases e404; replace p404 := eq_true p404; replace q404 := eq_true q404))
                                          go_roundg k2
                                          case measure => have := HK1.out; have := HK2.out; omega
                                          case rel => exact ⟨(wrap64 (x66_2 + 1)), (by first | rfl | (simp; done) | (simp [*]; done)), H', ⟨by have := HK1.out; have := HK2.out; omega⟩, ⟨by (try simp only [hl6_1]); (with_reducible repeat (first | apply Kd.R_alloc | apply Kd.R_drewN | apply Kd.R_drew)); exact HO_357000.out⟩, ⟨by (try simp only [hl6_1]); (with_reducible repeat (first | apply Kd.R_alloc | apply Kd.R_drewN | apply Kd.R_drew)); exact HO_357001.out⟩, ⟨by (try simp only [hl6_1]); (with_reducible repeat (first | apply Kd.R_alloc | apply Kd.R_drewN | apply Kd.R_drew)); exact HO_367000.out⟩, ⟨by (try simp only [hl6_1]); (with_reducible repeat (first | apply Kd.R_alloc | apply Kd.R_drewN | apply Kd.R_drew)); exact HO_367001.out⟩, ⟨by (try simp only [hl6_1]); (with_reducible repeat (first | apply Kd.R_alloc | apply Kd.R_drewN | apply Kd.R_drew)); exact HO_380000.out⟩, ⟨by (try simp only [hl6_1]); (with_reducible repeat (first | apply Kd.R_alloc | apply Kd.R_drewN | apply Kd.R_drew)); exact HO_380001.out⟩, ⟨by (try simp only [hl6_1]); (with_reducible repeat (first | refine blk_drewN ?_ _ | refine blk_drew ?_ | refine blk_alloc ?_ _)); exact BK345.out⟩, ⟨by (try simp only [hl6_1]); (with_reducible repeat (first | refine blk_drewN ?_ _ | refine blk_drew ?_ | refine blk_alloc ?_ _)); exact BK356.out⟩, ⟨by (try simp only [hl6_1]); (with_reducible repeat (first | refine blk_drewN ?_ _ | refine blk_drew ?_ | refine blk_alloc ?_ _)); exact BK366.out⟩, ⟨by (try simp only [hl6_1]); (with_reducible repeat (first | refine blk_drewN ?_ _ | refine blk_drew ?_ | refine blk_alloc ?_ _)); exact BK379.out⟩, ⟨by repeat (first | (with_reducible first | exact HB.out | apply below_alloc | apply pw_below_drewN | apply below_drew1 | refine below_set ?_ GE345.out | refine below_set ?_ GE356.out | refine below_set ?_ GE366.out | refine below_set ?_ GE379.out) | exact HB.out)⟩⟩
                                        · rw [if_neg c71] at H
                                          have c71b0 : ((rdOf ByteArray.empty t371 x66_2).toList == t401.toList) = false := beq_eq_false_iff_ne.mpr c71
                                          have c71b1 : ((rdOf ByteArray.empty t371 x66_2).toList != t401.toList) = true := bne_iff_ne.mpr c71
                                          exact absurd ((Option.some.inj H).trans HRT.out) (by decide)
                                      · rw [if_neg c70] at H
                                        exact absurd H (by simp)
                                    · rw [if_neg c69] at H
                                      have c69b0 : ((t371.length : Int) == (l0_0.length : Int)) = false := beq_eq_false_iff_ne.mpr c69
                                      have c69b1 : ((t371.length : Int) != (l0_0.length : Int)) = true := bne_iff_ne.mpr c69
                                      have c69b2 : (t371.length == l0_0.length) = false := by first | simpa using c69 | (simp at c69 ⊢; omega)
                                      exact absurd ((Option.some.inj H).trans HRT.out) (by decide)
                                  · rw [if_neg c68] at H
                                    have c68b0 : ((rdOf ByteArray.empty t357 x66_2).toList == t401.toList) = false := beq_eq_false_iff_ne.mpr c68
                                    have c68b1 : ((rdOf ByteArray.empty t357 x66_2).toList != t401.toList) = true := bne_iff_ne.mpr c68
                                    exact absurd ((Option.some.inj H).trans HRT.out) (by decide)
                                · rw [if_neg c67] at H
                                  exact absurd H (by simp)
                              · rw [if_neg c66] at H
                                exact absurd H (by simp)
                            · rw [if_neg c65] at H
                              have c65b0 : ((t357.length : Int) == (l0_0.length : Int)) = false := beq_eq_false_iff_ne.mpr c65
                              have c65b1 : ((t357.length : Int) != (l0_0.length : Int)) = true := bne_iff_ne.mpr c65
                              have c65b2 : (t357.length == l0_0.length) = false := by first | simpa using c65 | (simp at c65 ⊢; omega)
                              exact absurd ((Option.some.inj H).trans HRT.out) (by decide)
                          · rw [if_neg c64] at H
                            have c64b0 : (t402 == 0) = false := beq_eq_false_iff_ne.mpr c64
                            have c64b1 : (t402 != 0) = true := bne_iff_ne.mpr c64
                            exact absurd ((Option.some.inj H).trans HRT.out) (by decide)
                        · rw [if_neg c62] at H
                          have c62b0 : decide (x66_2 < (l0_0.length : Int)) = false := decide_eq_false c62
                          clear c62
                          by_cases c83 : (t360.length : Int) = 0
                          · rw [if_pos c83] at H
                            have c83b0 : ((t360.length : Int) == 0) = true := beq_iff_eq.mpr c83
                            have c83b1 : ((t360.length : Int) != 0) = false := bne_eq_false_iff_eq.mpr c83
                            clear c83
                            replace H := Option.bind_eq_some_iff.mp H
                            obtain ⟨t405, A840, H⟩ := H
                            replace H : (some t405) = some r := H
                            have A84 := Aside0.mk A840
                            clear A840
                            obtain rfl := Option.some.inj H
                            have hnb85 := NB366_345.out
                            have hnc85 := NB345_366.out
                            have hnb86 := NB366_356.out
                            have hnc86 := NB356_366.out
                            have hnb87 := NB366_379.out
                            have hnc87 := NB379_366.out
                            have hcz88_0 : wr.cell? ⟨gb366, 0, none⟩ = some (.slice Ao20 t357.length co20) := (blk_cell BK366.out 0).trans rfl
                            have hcz88_1 : wr.cell? ⟨gb366, 1, none⟩ = some (.slice Ao24 t360.length co24) := (blk_cell BK366.out 1).trans rfl
                            have hcz88_2 : wr.cell? ⟨gb366, 2, none⟩ = some (.int .i64 t363) := (blk_cell BK366.out 2).trans rfl
                            have hcz88_3 : wr.cell? ⟨gb366, 3, none⟩ = some (.bool t364) := (blk_cell BK366.out 3).trans rfl
                            have hfz88_0 := blk_frozen BK366.out 0
                            have hfz88_1 := blk_frozen BK366.out 1
                            have hfz88_2 := blk_frozen BK366.out 2
                            have hfz88_3 := blk_frozen BK366.out 3
                            go_wp2_with (first | (go_at_call 8; (with_reducible refine (almanaclaw02_awake.calls k2  t405 _ A84.out).mono ?_); rintro e w89 ⟨rfl, hb⟩; have n0_ := Aside0.mk (Kd.R_below (by (with_reducible repeat (first | apply Kd.R_alloc | apply Kd.R_drewN | apply Kd.R_drew)); exact HO_357000.out) hb); have n1_ := Aside0.mk (Kd.R_below (by (with_reducible repeat (first | apply Kd.R_alloc | apply Kd.R_drewN | apply Kd.R_drew)); exact HO_357001.out) hb); have n2_ := Aside0.mk (Kd.R_below (by (with_reducible repeat (first | apply Kd.R_alloc | apply Kd.R_drewN | apply Kd.R_drew)); exact HO_367000.out) hb); have n3_ := Aside0.mk (Kd.R_below (by (with_reducible repeat (first | apply Kd.R_alloc | apply Kd.R_drewN | apply Kd.R_drew)); exact HO_367001.out) hb); have n4_ := Aside0.mk (Kd.R_below (by (with_reducible repeat (first | apply Kd.R_alloc | apply Kd.R_drewN | apply Kd.R_drew)); exact HO_380000.out) hb); have n5_ := Aside0.mk (Kd.R_below (by (with_reducible repeat (first | apply Kd.R_alloc | apply Kd.R_drewN | apply Kd.R_drew)); exact HO_380001.out) hb); have n6_ := Aside0.mk (blk_below (g := gb345) (o := .cells #[.slice (some ad388) l0_0.length c0_0, .slice A0_1 l0_1.length c0_1, .int .i64 a0_2, .bool a0_3] 25 (0, 0)) (by (with_reducible repeat (first | refine blk_drewN ?_ _ | refine blk_drew ?_ | refine blk_alloc ?_ _)); exact BK345.out) hb); have n7_ := Aside0.mk (blk_below (g := gb356) (o := .cells #[.slice Ao14 t348.length co14, .slice Ao17 t351.length co17, .int .i64 t354, .bool t355] 25 (0, 0)) (by (with_reducible repeat (first | refine blk_drewN ?_ _ | refine blk_drew ?_ | refine blk_alloc ?_ _)); exact BK356.out) hb); have n8_ := Aside0.mk (blk_below (g := gb366) (o := .cells #[.slice Ao20 t357.length co20, .slice Ao24 t360.length co24, .int .i64 t363, .bool t364] 25 (0, 0)) (by (with_reducible repeat (first | refine blk_drewN ?_ _ | refine blk_drew ?_ | refine blk_alloc ?_ _)); exact BK366.out) hb); have n9_ := Aside0.mk (blk_below (g := gb379) (o := .cells #[.slice Ao47 t371.length co47, .slice Ao52 t374.length co52, .int .i64 t377, .bool t378] 25 (0, 0)) (by (with_reducible repeat (first | refine blk_drewN ?_ _ | refine blk_drew ?_ | refine blk_alloc ?_ _)); exact BK379.out) hb); have n10_ := Aside0.mk (below_step (by repeat (first | (with_reducible first | exact HB.out | apply below_alloc | apply pw_below_drewN | apply below_drew1 | refine below_set ?_ GE345.out | refine below_set ?_ GE356.out | refine below_set ?_ GE366.out | refine below_set ?_ GE379.out) | exact HB.out)) hb); clear HO_357000; clear HO_357001; clear HO_367000; clear HO_367001; clear HO_380000; clear HO_380001; clear BK345; clear BK356; clear BK366; clear BK379; clear HB; have HO_357000 := n0_; have HO_357001 := n1_; have HO_367000 := n2_; have HO_367001 := n3_; have HO_380000 := n4_; have HO_380001 := n5_; have BK345 := n6_; have BK356 := n7_; have BK366 := n8_; have BK379 := n9_; have HB := n10_; clear n0_ n1_ n2_ n3_ n4_ n5_ n6_ n7_ n8_ n9_ n10_; (try clear hb); (try clear hb2); (try clear hk); (try clear hi)))
                            go_ret
                            exact ⟨by first | rfl | (simp [errW_none, errW_some] <;> rfl) | (simp [*, errW_none, errW_some] <;> rfl), by repeat (first | (with_reducible first | exact HB.out | apply below_alloc | apply pw_below_drewN | apply below_drew1 | refine below_set ?_ GE345.out | refine below_set ?_ GE356.out | refine below_set ?_ GE366.out | refine below_set ?_ GE379.out) | exact HB.out)⟩
                          · rw [if_neg c83] at H
                            have c83b0 : ((t360.length : Int) == 0) = false := beq_eq_false_iff_ne.mpr c83
                            have c83b1 : ((t360.length : Int) != 0) = true := bne_iff_ne.mpr c83
                            have c83b2 : ¬ (t360 = []) := fun h_ => c83 (by rw [h_]; rfl)
                            exact absurd ((Option.some.inj H).trans HRT.out) (by decide)
                  · rw [if_neg c41] at H
                    have c41b0 : (t365 == 0) = false := beq_eq_false_iff_ne.mpr c41
                    have c41b1 : (t365 != 0) = true := bne_iff_ne.mpr c41
                    by_cases c90 : a0_3 = true
                    · subst c90
                      have H1 : ((almanaclaw02_awake.f k1).bind fun t399 => (some t399)) = some r := by rw [if_pos rfl] at H; exact H
                      clear H
                      have H := H1
                      clear H1
                      replace H := Option.bind_eq_some_iff.mp H
                      obtain ⟨t399, A910, H⟩ := H
                      replace H : (some t399) = some r := H
                      have A91 := Aside0.mk A910
                      clear A910
                      obtain rfl := Option.some.inj H
                      have hnb92 := NB356_345.out
                      have hnc92 := NB345_356.out
                      have hnb93 := NB356_366.out
                      have hnc93 := NB366_356.out
                      have hcz94_0 : wr.cell? ⟨gb356, 0, none⟩ = some (.slice Ao14 t348.length co14) := (blk_cell BK356.out 0).trans rfl
                      have hcz94_1 : wr.cell? ⟨gb356, 1, none⟩ = some (.slice Ao17 t351.length co17) := (blk_cell BK356.out 1).trans rfl
                      have hcz94_2 : wr.cell? ⟨gb356, 2, none⟩ = some (.int .i64 t354) := (blk_cell BK356.out 2).trans rfl
                      have hcz94_3 : wr.cell? ⟨gb356, 3, none⟩ = some (.bool t355) := (blk_cell BK356.out 3).trans rfl
                      have hfz94_0 := blk_frozen BK356.out 0
                      have hfz94_1 := blk_frozen BK356.out 1
                      have hfz94_2 := blk_frozen BK356.out 2
                      have hfz94_3 := blk_frozen BK356.out 3
                      try go_wp2_with (first | ((with_reducible refine gate_callee (f := 11) rfl ?_); refine goesL_ (some 38) rfl rfl Try.func11 (by kernel_rfl) rfl #[.agg #[.slice Ao14 t348.length co14, .slice Ao17 t351.length co17, .int .i64 t354, .bool t355], .slice Ao28 x6_1.length co28] rfl (by (try simp only [List.map_toArray, List.map_cons, List.map_nil]); first | done | rfl | (simp only [List.length_drop, List.length_take]; rfl)) ?_; (with_reducible refine (dev_Crash.calls _ _ t348 _ _ t351 t354 t355 _ _ x6_1 t371 t374 t377 t378 _ ?side1 ?side2 ?side3 ?side4 ?side5 ?side6 A35.out).mono ?_); (case side1 => repeat (first | exact (Kd.R_reads' HO_357000.out).2.2 | (with_reducible refine Kd.C_alloc ?_ _) | (with_reducible refine Kd.C_drewN ?_ _) | (with_reducible refine Kd.C_drew ?_))); (case side2 => exact (Kd.R_reads' HO_357000.out).2.1); (case side3 => repeat (first | exact (Kd.R_reads' HO_357001.out).2.2 | (with_reducible refine Kd.C_alloc ?_ _) | (with_reducible refine Kd.C_drewN ?_ _) | (with_reducible refine Kd.C_drew ?_))); (case side4 => exact (Kd.R_reads' HO_357001.out).2.1); (case side5 => repeat (first | exact (Kd.R_reads' HO_6.out).2.2 | (with_reducible refine Kd.C_alloc ?_ _) | (with_reducible refine Kd.C_drewN ?_ _) | (with_reducible refine Kd.C_drew ?_))); (case side6 => exact (Kd.R_reads' HO_6.out).2.1); rintro e w95 ⟨v372, v375, rfl, ho0, ho1, hb⟩; refine ⟨_, rfl, ?_⟩; have n0_ := Aside0.mk (Kd.R_below (by (with_reducible repeat (first | apply Kd.R_alloc | apply Kd.R_drewN | apply Kd.R_drew)); exact HO_6.out) hb); have n1_ := Aside0.mk (Kd.R_elder' (by (with_reducible repeat (first | apply Kd.R_alloc | apply Kd.R_drewN | apply Kd.R_drew)); exact HO_357000.out) (Kd.R_base ho0) hb); have n2_ := Aside0.mk (Kd.R_elder' (by (with_reducible repeat (first | apply Kd.R_alloc | apply Kd.R_drewN | apply Kd.R_drew)); exact HO_357001.out) (Kd.R_base ho1) hb); have n3_ := Aside0.mk (Kd.R_elder' (by (with_reducible repeat (first | apply Kd.R_alloc | apply Kd.R_drewN | apply Kd.R_drew)); exact HO_367000.out) (Kd.R_base ho0) hb); have n4_ := Aside0.mk (Kd.R_elder' (by (with_reducible repeat (first | apply Kd.R_alloc | apply Kd.R_drewN | apply Kd.R_drew)); exact HO_367001.out) (Kd.R_base ho1) hb); have n5_ := Aside0.mk (Kd.R_lower (Kd.R_new' (Kd.R_new' ho0 (Kd.R_lt (by (with_reducible repeat (first | apply Kd.R_alloc | apply Kd.R_drewN | apply Kd.R_drew)); exact HO_357000.out))) (Kd.R_lt (by (with_reducible repeat (first | apply Kd.R_alloc | apply Kd.R_drewN | apply Kd.R_drew)); exact HO_367000.out))) (below_size (by repeat (first | (with_reducible first | exact HB.out | apply below_alloc | apply pw_below_drewN | apply below_drew1 | refine below_set ?_ GE345.out | refine below_set ?_ GE356.out | refine below_set ?_ GE366.out) | exact HB.out)))); have n6_ := Aside0.mk (Kd.R_lower (Kd.R_new' (Kd.R_new' ho1 (Kd.R_lt (by (with_reducible repeat (first | apply Kd.R_alloc | apply Kd.R_drewN | apply Kd.R_drew)); exact HO_357001.out))) (Kd.R_lt (by (with_reducible repeat (first | apply Kd.R_alloc | apply Kd.R_drewN | apply Kd.R_drew)); exact HO_367001.out))) (below_size (by repeat (first | (with_reducible first | exact HB.out | apply below_alloc | apply pw_below_drewN | apply below_drew1 | refine below_set ?_ GE345.out | refine below_set ?_ GE356.out | refine below_set ?_ GE366.out) | exact HB.out)))); have n7_ := Aside0.mk (blk_below (g := gb345) (o := .cells #[.slice A0_0 l0_0.length c0_0, .slice A0_1 l0_1.length c0_1, .int .i64 a0_2, .bool true] 25 (0, 0)) (by (with_reducible repeat (first | refine blk_drewN ?_ _ | refine blk_drew ?_ | refine blk_alloc ?_ _)); exact BK345.out) hb); have n8_ := Aside0.mk (blk_below (g := gb356) (o := .cells #[.slice Ao14 t348.length co14, .slice Ao17 t351.length co17, .int .i64 t354, .bool t355] 25 (0, 0)) (by (with_reducible repeat (first | refine blk_drewN ?_ _ | refine blk_drew ?_ | refine blk_alloc ?_ _)); exact BK356.out) hb); have n9_ := Aside0.mk (blk_below (g := gb366) (o := .cells #[.slice Ao20 t357.length co20, .slice Ao24 t360.length co24, .int .i64 t363, .bool t364] 25 (0, 0)) (by (with_reducible repeat (first | refine blk_drewN ?_ _ | refine blk_drew ?_ | refine blk_alloc ?_ _)); exact BK366.out) hb); have n10_ := Aside0.mk (below_step (by repeat (first | (with_reducible first | exact HB.out | apply below_alloc | apply pw_below_drewN | apply below_drew1 | refine below_set ?_ GE345.out | refine below_set ?_ GE356.out | refine below_set ?_ GE366.out) | exact HB.out)) hb); clear HO_6; clear HO_357000; clear HO_357001; clear HO_367000; clear HO_367001; clear BK345; clear BK356; clear BK366; clear HB; have HO_6 := n0_; have HO_357000 := n1_; have HO_357001 := n2_; have HO_367000 := n3_; have HO_367001 := n4_; have HO373 := n5_; have HO376 := n6_; have BK345 := n7_; have BK356 := n8_; have BK366 := n9_; have HB := n10_; clear n0_ n1_ n2_ n3_ n4_ n5_ n6_ n7_ n8_ n9_ n10_; (try clear hb); (try clear hb2); (try clear hk); (try clear hi); (try clear ho0); (try clear ho1)) | ((with_reducible refine gate_dst (N := 8) rfl ?_); (try (refine gate_guard (by rfl) ?_; dsimp only)); refine box_event ?hg (N := 8) ?hd (cs := #[.slice none 0 0, .slice none 0 0, .int .i64 0, .bool false]) (t := 25) ?hr ?_; (case hd => rfl); (case hg => rfl); (case hr => first | (go_simp; done) | (go_simp; rfl)); intro gb379 hg w96 hbox hb; have n0_ := Aside0.mk (Kd.R_below (by (with_reducible repeat (first | apply Kd.R_alloc | apply Kd.R_drewN | apply Kd.R_drew)); exact HO_6.out) hb); have n1_ := Aside0.mk (Kd.R_below (by (with_reducible repeat (first | apply Kd.R_alloc | apply Kd.R_drewN | apply Kd.R_drew)); exact HO_357000.out) hb); have n2_ := Aside0.mk (Kd.R_below (by (with_reducible repeat (first | apply Kd.R_alloc | apply Kd.R_drewN | apply Kd.R_drew)); exact HO_357001.out) hb); have n3_ := Aside0.mk (Kd.R_below (by (with_reducible repeat (first | apply Kd.R_alloc | apply Kd.R_drewN | apply Kd.R_drew)); exact HO_367000.out) hb); have n4_ := Aside0.mk (Kd.R_below (by (with_reducible repeat (first | apply Kd.R_alloc | apply Kd.R_drewN | apply Kd.R_drew)); exact HO_367001.out) hb); have n5_ := Aside0.mk (Kd.R_below (by (with_reducible repeat (first | apply Kd.R_alloc | apply Kd.R_drewN | apply Kd.R_drew)); exact HO373.out) hb); have n6_ := Aside0.mk (Kd.R_below (by (with_reducible repeat (first | apply Kd.R_alloc | apply Kd.R_drewN | apply Kd.R_drew)); exact HO376.out) hb); have n7_ := Aside0.mk (blk_below (g := gb345) (o := .cells #[.slice A0_0 l0_0.length c0_0, .slice A0_1 l0_1.length c0_1, .int .i64 a0_2, .bool true] 25 (0, 0)) (by (with_reducible repeat (first | refine blk_drewN ?_ _ | refine blk_drew ?_ | refine blk_alloc ?_ _)); exact BK345.out) hb); have n8_ := Aside0.mk (blk_below (g := gb356) (o := .cells #[.slice Ao14 t348.length co14, .slice Ao17 t351.length co17, .int .i64 t354, .bool t355] 25 (0, 0)) (by (with_reducible repeat (first | refine blk_drewN ?_ _ | refine blk_drew ?_ | refine blk_alloc ?_ _)); exact BK356.out) hb); have n9_ := Aside0.mk (blk_below (g := gb366) (o := .cells #[.slice Ao20 t357.length co20, .slice Ao24 t360.length co24, .int .i64 t363, .bool t364] 25 (0, 0)) (by (with_reducible repeat (first | refine blk_drewN ?_ _ | refine blk_drew ?_ | refine blk_alloc ?_ _)); exact BK366.out) hb); have n10_ := Aside0.mk (below_step (by repeat (first | (with_reducible first | exact HB.out | apply below_alloc | apply pw_below_drewN | apply below_drew1 | refine below_set ?_ GE345.out | refine below_set ?_ GE356.out | refine below_set ?_ GE366.out) | exact HB.out)) hb); have n11_ := Aside0.mk (hbox); have n12_ := Aside0.mk ((by rw [hg]; exact (below_size (by repeat (first | (with_reducible first | exact HB.out | apply below_alloc | apply pw_below_drewN | apply below_drew1 | refine below_set ?_ GE345.out | refine below_set ?_ GE356.out | refine below_set ?_ GE366.out) | exact HB.out))) : w.heap.size ≤ gb379)); have n13_ := Aside0.mk ((by rw [hg]; exact (below_size (by repeat (first | (with_reducible first | exact HB.out | apply below_alloc | apply pw_below_drewN | apply below_drew1 | refine below_set ?_ GE345.out | refine below_set ?_ GE356.out | refine below_set ?_ GE366.out) | exact HB.out))) : w.heap.size ≤ gb379)); have n14_ := Aside0.mk ((by rw [hg]; exact Nat.ne_of_lt (blk_lt (g := gb345) (o := .cells #[.slice A0_0 l0_0.length c0_0, .slice A0_1 l0_1.length c0_1, .int .i64 a0_2, .bool true] 25 (0, 0)) (by (with_reducible repeat (first | refine blk_drewN ?_ _ | refine blk_drew ?_ | refine blk_alloc ?_ _)); exact BK345.out)) : gb345 ≠ gb379)); have n15_ := Aside0.mk ((by rw [hg]; exact Nat.ne_of_gt (blk_lt (g := gb345) (o := .cells #[.slice A0_0 l0_0.length c0_0, .slice A0_1 l0_1.length c0_1, .int .i64 a0_2, .bool true] 25 (0, 0)) (by (with_reducible repeat (first | refine blk_drewN ?_ _ | refine blk_drew ?_ | refine blk_alloc ?_ _)); exact BK345.out)) : gb379 ≠ gb345)); have n16_ := Aside0.mk ((by rw [hg]; exact Nat.ne_of_lt (blk_lt (g := gb356) (o := .cells #[.slice Ao14 t348.length co14, .slice Ao17 t351.length co17, .int .i64 t354, .bool t355] 25 (0, 0)) (by (with_reducible repeat (first | refine blk_drewN ?_ _ | refine blk_drew ?_ | refine blk_alloc ?_ _)); exact BK356.out)) : gb356 ≠ gb379)); have n17_ := Aside0.mk ((by rw [hg]; exact Nat.ne_of_gt (blk_lt (g := gb356) (o := .cells #[.slice Ao14 t348.length co14, .slice Ao17 t351.length co17, .int .i64 t354, .bool t355] 25 (0, 0)) (by (with_reducible repeat (first | refine blk_drewN ?_ _ | refine blk_drew ?_ | refine blk_alloc ?_ _)); exact BK356.out)) : gb379 ≠ gb356)); have n18_ := Aside0.mk ((by rw [hg]; exact Nat.ne_of_lt (blk_lt (g := gb366) (o := .cells #[.slice Ao20 t357.length co20, .slice Ao24 t360.length co24, .int .i64 t363, .bool t364] 25 (0, 0)) (by (with_reducible repeat (first | refine blk_drewN ?_ _ | refine blk_drew ?_ | refine blk_alloc ?_ _)); exact BK366.out)) : gb366 ≠ gb379)); have n19_ := Aside0.mk ((by rw [hg]; exact Nat.ne_of_gt (blk_lt (g := gb366) (o := .cells #[.slice Ao20 t357.length co20, .slice Ao24 t360.length co24, .int .i64 t363, .bool t364] 25 (0, 0)) (by (with_reducible repeat (first | refine blk_drewN ?_ _ | refine blk_drew ?_ | refine blk_alloc ?_ _)); exact BK366.out)) : gb379 ≠ gb366)); clear HO_6; clear HO_357000; clear HO_357001; clear HO_367000; clear HO_367001; clear HO373; clear HO376; clear BK345; clear BK356; clear BK366; clear HB; have HO_6 := n0_; have HO_357000 := n1_; have HO_357001 := n2_; have HO_367000 := n3_; have HO_367001 := n4_; have HO373 := n5_; have HO376 := n6_; have BK345 := n7_; have BK356 := n8_; have BK366 := n9_; have HB := n10_; have BK379 := n11_; have GW379 := n12_; have GE379 := n13_; have NB345_379 := n14_; have NB379_345 := n15_; have NB356_379 := n16_; have NB379_356 := n17_; have NB366_379 := n18_; have NB379_366 := n19_; clear n0_ n1_ n2_ n3_ n4_ n5_ n6_ n7_ n8_ n9_ n10_ n11_ n12_ n13_ n14_ n15_ n16_ n17_ n18_ n19_; clear hb hbox hg; obtain ⟨Ao97, co97, eo97⟩ := Kd.R_slice HO373.out; subst eo97; have hnb98 := NB379_345.out; have hnc98 := NB345_379.out; have hnb99 := NB379_356.out; have hnc99 := NB356_379.out; have hnb100 := NB379_366.out; have hnc100 := NB366_379.out; have hcz101_0 : w96.cell? ⟨gb379, 0, none⟩ = some (.slice none 0 0) := (blk_cell BK379.out 0).trans rfl; have hcz101_1 : w96.cell? ⟨gb379, 1, none⟩ = some (.slice none 0 0) := (blk_cell BK379.out 1).trans rfl; have hcz101_2 : w96.cell? ⟨gb379, 2, none⟩ = some (.int .i64 0) := (blk_cell BK379.out 2).trans rfl; have hcz101_3 : w96.cell? ⟨gb379, 3, none⟩ = some (.bool false) := (blk_cell BK379.out 3).trans rfl; have hfz101_0 := blk_frozen BK379.out 0; have hfz101_1 := blk_frozen BK379.out 1; have hfz101_2 := blk_frozen BK379.out 2; have hfz101_3 := blk_frozen BK379.out 3; obtain ⟨Ao102, co102, eo102⟩ := Kd.R_slice HO376.out; subst eo102; have hcz103_0 : w96.cell? ⟨gb356, 0, none⟩ = some (.slice Ao14 t348.length co14) := (blk_cell BK356.out 0).trans rfl; have hcz103_1 : w96.cell? ⟨gb356, 1, none⟩ = some (.slice Ao17 t351.length co17) := (blk_cell BK356.out 1).trans rfl; have hcz103_2 : w96.cell? ⟨gb356, 2, none⟩ = some (.int .i64 t354) := (blk_cell BK356.out 2).trans rfl; have hcz103_3 : w96.cell? ⟨gb356, 3, none⟩ = some (.bool t355) := (blk_cell BK356.out 3).trans rfl; have hfz103_0 := blk_frozen BK356.out 0; have hfz103_1 := blk_frozen BK356.out 1; have hfz103_2 := blk_frozen BK356.out 2; have hfz103_3 := blk_frozen BK356.out 3) | ((with_reducible refine gate_callee (f := 12) rfl ?_); refine goesL_ (some 40) rfl rfl Try.func12 (by kernel_rfl) rfl #[.agg #[.slice Ao14 t348.length co14, .slice Ao17 t351.length co17, .int .i64 t354, .bool t355], .int .i64 0] rfl (by (try simp only [List.map_toArray, List.map_cons, List.map_nil]); first | done | rfl | (simp only [List.length_drop, List.length_take]; rfl)) ?_; (with_reducible refine (dev_Arm.calls _ _ t348 _ _ t351 t354 t355 0 t380 t383 t386 t387 _ ?side1 ?side2 ?side3 ?side4 A36.out).mono ?_); (case side1 => refine (Kd.R_reads' (e := 9) (base := w.heap.size) (ok := fun k_ => (some k_ ≠ (.slice Ao20 t357.length co20 : Value).ownBlock ∧ some k_ ≠ (.slice Ao97 t371.length co97 : Value).ownBlock)) (n := t348.length) (c := co14) ?_).2.2; exact (by (with_reducible repeat (first | apply Kd.R_alloc | apply Kd.R_drewN | apply Kd.R_drew)); exact (Kd.R_mono (Kd.R_far (p := ⟨gb379, 3, none⟩) (Kd.R_far (p := ⟨gb379, 2, none⟩) (Kd.R_far (p := ⟨gb379, 1, none⟩) (Kd.R_far (p := ⟨gb379, 0, none⟩) (Kd.R_types HO_357000.out BK379.out (by decide)) (fun _ hk => hk.2) (.slice Ao97 t371.length co97)) (fun _ hk => hk.2) (.slice Ao102 t374.length co102)) (fun _ hk => hk.2) (.int .i64 t377)) (fun _ hk => hk.2) (.bool t378)) (fun _ h_ => h_.1)))); (case side2 => exact (Kd.R_reads' HO_357000.out).2.1); (case side3 => refine (Kd.R_reads' (e := 40) (base := w.heap.size) (ok := fun k_ => (some k_ ≠ (.slice Ao24 t360.length co24 : Value).ownBlock ∧ some k_ ≠ (.slice Ao102 t374.length co102 : Value).ownBlock)) (n := t351.length) (c := co17) ?_).2.2; exact (by (with_reducible repeat (first | apply Kd.R_alloc | apply Kd.R_drewN | apply Kd.R_drew)); exact (Kd.R_mono (Kd.R_far (p := ⟨gb379, 3, none⟩) (Kd.R_far (p := ⟨gb379, 2, none⟩) (Kd.R_far (p := ⟨gb379, 1, none⟩) (Kd.R_far (p := ⟨gb379, 0, none⟩) (Kd.R_types HO_357001.out BK379.out (by decide)) (fun _ hk => hk.2) (.slice Ao97 t371.length co97)) (fun _ hk => hk.2) (.slice Ao102 t374.length co102)) (fun _ hk => hk.2) (.int .i64 t377)) (fun _ hk => hk.2) (.bool t378)) (fun _ h_ => h_.1)))); (case side4 => exact (Kd.R_reads' HO_357001.out).2.1); rintro e w104 ⟨v381, v384, rfl, ho0, ho1, hb⟩; refine ⟨_, rfl, ?_⟩; have n0_ := Aside0.mk (Kd.R_below (by (with_reducible repeat (first | apply Kd.R_alloc | apply Kd.R_drewN | apply Kd.R_drew)); exact (Kd.R_mono (Kd.R_far (p := ⟨gb379, 3, none⟩) (Kd.R_far (p := ⟨gb379, 2, none⟩) (Kd.R_far (p := ⟨gb379, 1, none⟩) (Kd.R_far (p := ⟨gb379, 0, none⟩) (Kd.R_types HO_6.out BK379.out (by decide)) (fun _ hk => hk.2) (.slice Ao97 t371.length co97)) (fun _ hk => hk.2) (.slice Ao102 t374.length co102)) (fun _ hk => hk.2) (.int .i64 t377)) (fun _ hk => hk.2) (.bool t378)) (fun _ h_ => h_.1))) hb); have n1_ := Aside0.mk (Kd.R_elder' (by (with_reducible repeat (first | apply Kd.R_alloc | apply Kd.R_drewN | apply Kd.R_drew)); exact (Kd.R_mono (Kd.R_far (p := ⟨gb379, 3, none⟩) (Kd.R_far (p := ⟨gb379, 2, none⟩) (Kd.R_far (p := ⟨gb379, 1, none⟩) (Kd.R_far (p := ⟨gb379, 0, none⟩) (Kd.R_types HO_357000.out BK379.out (by decide)) (fun _ hk => hk.2) (.slice Ao97 t371.length co97)) (fun _ hk => hk.2) (.slice Ao102 t374.length co102)) (fun _ hk => hk.2) (.int .i64 t377)) (fun _ hk => hk.2) (.bool t378)) (fun _ h_ => h_.1))) (Kd.R_base ho0) hb); have n2_ := Aside0.mk (Kd.R_elder' (by (with_reducible repeat (first | apply Kd.R_alloc | apply Kd.R_drewN | apply Kd.R_drew)); exact (Kd.R_mono (Kd.R_far (p := ⟨gb379, 3, none⟩) (Kd.R_far (p := ⟨gb379, 2, none⟩) (Kd.R_far (p := ⟨gb379, 1, none⟩) (Kd.R_far (p := ⟨gb379, 0, none⟩) (Kd.R_types HO_357001.out BK379.out (by decide)) (fun _ hk => hk.2) (.slice Ao97 t371.length co97)) (fun _ hk => hk.2) (.slice Ao102 t374.length co102)) (fun _ hk => hk.2) (.int .i64 t377)) (fun _ hk => hk.2) (.bool t378)) (fun _ h_ => h_.1))) (Kd.R_base ho1) hb); have n3_ := Aside0.mk (Kd.R_elder' (by (with_reducible repeat (first | apply Kd.R_alloc | apply Kd.R_drewN | apply Kd.R_drew)); exact (Kd.R_mono (Kd.R_far (p := ⟨gb379, 3, none⟩) (Kd.R_far (p := ⟨gb379, 2, none⟩) (Kd.R_far (p := ⟨gb379, 1, none⟩) (Kd.R_far (p := ⟨gb379, 0, none⟩) (Kd.R_types HO_367000.out BK379.out (by decide)) (fun _ hk => hk.2) (.slice Ao97 t371.length co97)) (fun _ hk => hk.2) (.slice Ao102 t374.length co102)) (fun _ hk => hk.2) (.int .i64 t377)) (fun _ hk => hk.2) (.bool t378)) (fun _ h_ => h_.1))) (Kd.R_base ho0) hb); have n4_ := Aside0.mk (Kd.R_elder' (by (with_reducible repeat (first | apply Kd.R_alloc | apply Kd.R_drewN | apply Kd.R_drew)); exact (Kd.R_mono (Kd.R_far (p := ⟨gb379, 3, none⟩) (Kd.R_far (p := ⟨gb379, 2, none⟩) (Kd.R_far (p := ⟨gb379, 1, none⟩) (Kd.R_far (p := ⟨gb379, 0, none⟩) (Kd.R_types HO_367001.out BK379.out (by decide)) (fun _ hk => hk.2) (.slice Ao97 t371.length co97)) (fun _ hk => hk.2) (.slice Ao102 t374.length co102)) (fun _ hk => hk.2) (.int .i64 t377)) (fun _ hk => hk.2) (.bool t378)) (fun _ h_ => h_.1))) (Kd.R_base ho1) hb); have n5_ := Aside0.mk (Kd.R_elder' (by (with_reducible repeat (first | apply Kd.R_alloc | apply Kd.R_drewN | apply Kd.R_drew)); exact (Kd.R_mono (Kd.R_far (p := ⟨gb379, 3, none⟩) (Kd.R_far (p := ⟨gb379, 2, none⟩) (Kd.R_far (p := ⟨gb379, 1, none⟩) (Kd.R_far (p := ⟨gb379, 0, none⟩) (Kd.R_types HO373.out BK379.out (by decide)) (fun _ hk => hk.2) (.slice Ao97 t371.length co97)) (fun _ hk => hk.2) (.slice Ao102 t374.length co102)) (fun _ hk => hk.2) (.int .i64 t377)) (fun _ hk => hk.2) (.bool t378)) (fun _ h_ => h_.1))) (Kd.R_base ho0) hb); have n6_ := Aside0.mk (Kd.R_elder' (by (with_reducible repeat (first | apply Kd.R_alloc | apply Kd.R_drewN | apply Kd.R_drew)); exact (Kd.R_mono (Kd.R_far (p := ⟨gb379, 3, none⟩) (Kd.R_far (p := ⟨gb379, 2, none⟩) (Kd.R_far (p := ⟨gb379, 1, none⟩) (Kd.R_far (p := ⟨gb379, 0, none⟩) (Kd.R_types HO376.out BK379.out (by decide)) (fun _ hk => hk.2) (.slice Ao97 t371.length co97)) (fun _ hk => hk.2) (.slice Ao102 t374.length co102)) (fun _ hk => hk.2) (.int .i64 t377)) (fun _ hk => hk.2) (.bool t378)) (fun _ h_ => h_.1))) (Kd.R_base ho1) hb); have n7_ := Aside0.mk (Kd.R_lower (Kd.R_new' (Kd.R_new' (Kd.R_new' ho0 (Kd.R_lt (by (with_reducible repeat (first | apply Kd.R_alloc | apply Kd.R_drewN | apply Kd.R_drew)); exact (Kd.R_mono (Kd.R_far (p := ⟨gb379, 3, none⟩) (Kd.R_far (p := ⟨gb379, 2, none⟩) (Kd.R_far (p := ⟨gb379, 1, none⟩) (Kd.R_far (p := ⟨gb379, 0, none⟩) (Kd.R_types HO_357000.out BK379.out (by decide)) (fun _ hk => hk.2) (.slice Ao97 t371.length co97)) (fun _ hk => hk.2) (.slice Ao102 t374.length co102)) (fun _ hk => hk.2) (.int .i64 t377)) (fun _ hk => hk.2) (.bool t378)) (fun _ h_ => h_.1))))) (Kd.R_lt (by (with_reducible repeat (first | apply Kd.R_alloc | apply Kd.R_drewN | apply Kd.R_drew)); exact (Kd.R_mono (Kd.R_far (p := ⟨gb379, 3, none⟩) (Kd.R_far (p := ⟨gb379, 2, none⟩) (Kd.R_far (p := ⟨gb379, 1, none⟩) (Kd.R_far (p := ⟨gb379, 0, none⟩) (Kd.R_types HO_367000.out BK379.out (by decide)) (fun _ hk => hk.2) (.slice Ao97 t371.length co97)) (fun _ hk => hk.2) (.slice Ao102 t374.length co102)) (fun _ hk => hk.2) (.int .i64 t377)) (fun _ hk => hk.2) (.bool t378)) (fun _ h_ => h_.1))))) (Kd.R_lt (by (with_reducible repeat (first | apply Kd.R_alloc | apply Kd.R_drewN | apply Kd.R_drew)); exact (Kd.R_mono (Kd.R_far (p := ⟨gb379, 3, none⟩) (Kd.R_far (p := ⟨gb379, 2, none⟩) (Kd.R_far (p := ⟨gb379, 1, none⟩) (Kd.R_far (p := ⟨gb379, 0, none⟩) (Kd.R_types HO373.out BK379.out (by decide)) (fun _ hk => hk.2) (.slice Ao97 t371.length co97)) (fun _ hk => hk.2) (.slice Ao102 t374.length co102)) (fun _ hk => hk.2) (.int .i64 t377)) (fun _ hk => hk.2) (.bool t378)) (fun _ h_ => h_.1))))) (below_size (by repeat (first | (with_reducible first | exact HB.out | apply below_alloc | apply pw_below_drewN | apply below_drew1 | refine below_set ?_ GE345.out | refine below_set ?_ GE356.out | refine below_set ?_ GE366.out | refine below_set ?_ GE379.out) | exact HB.out)))); have n8_ := Aside0.mk (Kd.R_lower (Kd.R_new' (Kd.R_new' (Kd.R_new' ho1 (Kd.R_lt (by (with_reducible repeat (first | apply Kd.R_alloc | apply Kd.R_drewN | apply Kd.R_drew)); exact (Kd.R_mono (Kd.R_far (p := ⟨gb379, 3, none⟩) (Kd.R_far (p := ⟨gb379, 2, none⟩) (Kd.R_far (p := ⟨gb379, 1, none⟩) (Kd.R_far (p := ⟨gb379, 0, none⟩) (Kd.R_types HO_357001.out BK379.out (by decide)) (fun _ hk => hk.2) (.slice Ao97 t371.length co97)) (fun _ hk => hk.2) (.slice Ao102 t374.length co102)) (fun _ hk => hk.2) (.int .i64 t377)) (fun _ hk => hk.2) (.bool t378)) (fun _ h_ => h_.1))))) (Kd.R_lt (by (with_reducible repeat (first | apply Kd.R_alloc | apply Kd.R_drewN | apply Kd.R_drew)); exact (Kd.R_mono (Kd.R_far (p := ⟨gb379, 3, none⟩) (Kd.R_far (p := ⟨gb379, 2, none⟩) (Kd.R_far (p := ⟨gb379, 1, none⟩) (Kd.R_far (p := ⟨gb379, 0, none⟩) (Kd.R_types HO_367001.out BK379.out (by decide)) (fun _ hk => hk.2) (.slice Ao97 t371.length co97)) (fun _ hk => hk.2) (.slice Ao102 t374.length co102)) (fun _ hk => hk.2) (.int .i64 t377)) (fun _ hk => hk.2) (.bool t378)) (fun _ h_ => h_.1))))) (Kd.R_lt (by (with_reducible repeat (first | apply Kd.R_alloc | apply Kd.R_drewN | apply Kd.R_drew)); exact (Kd.R_mono (Kd.R_far (p := ⟨gb379, 3, none⟩) (Kd.R_far (p := ⟨gb379, 2, none⟩) (Kd.R_far (p := ⟨gb379, 1, none⟩) (Kd.R_far (p := ⟨gb379, 0, none⟩) (Kd.R_types HO376.out BK379.out (by decide)) (fun _ hk => hk.2) (.slice Ao97 t371.length co97)) (fun _ hk => hk.2) (.slice Ao102 t374.length co102)) (fun _ hk => hk.2) (.int .i64 t377)) (fun _ hk => hk.2) (.bool t378)) (fun _ h_ => h_.1))))) (below_size (by repeat (first | (with_reducible first | exact HB.out | apply below_alloc | apply pw_below_drewN | apply below_drew1 | refine below_set ?_ GE345.out | refine below_set ?_ GE356.out | refine below_set ?_ GE366.out | refine below_set ?_ GE379.out) | exact HB.out)))); have n9_ := Aside0.mk (blk_below (g := gb345) (o := .cells #[.slice A0_0 l0_0.length c0_0, .slice A0_1 l0_1.length c0_1, .int .i64 a0_2, .bool true] 25 (0, 0)) (by (with_reducible repeat (first | refine blk_drewN ?_ _ | refine blk_drew ?_ | refine blk_alloc ?_ _)); refine blk_far ?_ NB345_379.out _; (with_reducible repeat (first | refine blk_drewN ?_ _ | refine blk_drew ?_ | refine blk_alloc ?_ _)); refine blk_far ?_ NB345_379.out _; (with_reducible repeat (first | refine blk_drewN ?_ _ | refine blk_drew ?_ | refine blk_alloc ?_ _)); refine blk_far ?_ NB345_379.out _; (with_reducible repeat (first | refine blk_drewN ?_ _ | refine blk_drew ?_ | refine blk_alloc ?_ _)); refine blk_far ?_ NB345_379.out _; (with_reducible repeat (first | refine blk_drewN ?_ _ | refine blk_drew ?_ | refine blk_alloc ?_ _)); exact BK345.out) hb); have n10_ := Aside0.mk (blk_below (g := gb356) (o := .cells #[.slice Ao14 t348.length co14, .slice Ao17 t351.length co17, .int .i64 t354, .bool t355] 25 (0, 0)) (by (with_reducible repeat (first | refine blk_drewN ?_ _ | refine blk_drew ?_ | refine blk_alloc ?_ _)); refine blk_far ?_ NB356_379.out _; (with_reducible repeat (first | refine blk_drewN ?_ _ | refine blk_drew ?_ | refine blk_alloc ?_ _)); refine blk_far ?_ NB356_379.out _; (with_reducible repeat (first | refine blk_drewN ?_ _ | refine blk_drew ?_ | refine blk_alloc ?_ _)); refine blk_far ?_ NB356_379.out _; (with_reducible repeat (first | refine blk_drewN ?_ _ | refine blk_drew ?_ | refine blk_alloc ?_ _)); refine blk_far ?_ NB356_379.out _; (with_reducible repeat (first | refine blk_drewN ?_ _ | refine blk_drew ?_ | refine blk_alloc ?_ _)); exact BK356.out) hb); have n11_ := Aside0.mk (blk_below (g := gb366) (o := .cells #[.slice Ao20 t357.length co20, .slice Ao24 t360.length co24, .int .i64 t363, .bool t364] 25 (0, 0)) (by (with_reducible repeat (first | refine blk_drewN ?_ _ | refine blk_drew ?_ | refine blk_alloc ?_ _)); refine blk_far ?_ NB366_379.out _; (with_reducible repeat (first | refine blk_drewN ?_ _ | refine blk_drew ?_ | refine blk_alloc ?_ _)); refine blk_far ?_ NB366_379.out _; (with_reducible repeat (first | refine blk_drewN ?_ _ | refine blk_drew ?_ | refine blk_alloc ?_ _)); refine blk_far ?_ NB366_379.out _; (with_reducible repeat (first | refine blk_drewN ?_ _ | refine blk_drew ?_ | refine blk_alloc ?_ _)); refine blk_far ?_ NB366_379.out _; (with_reducible repeat (first | refine blk_drewN ?_ _ | refine blk_drew ?_ | refine blk_alloc ?_ _)); exact BK366.out) hb); have n12_ := Aside0.mk (blk_below (g := gb379) (o := .cells #[.slice Ao97 t371.length co97, .slice Ao102 t374.length co102, .int .i64 t377, .bool t378] 25 (0, 0)) (by (with_reducible repeat (first | refine blk_drewN ?_ _ | refine blk_drew ?_ | refine blk_alloc ?_ _)); refine blk_put (cs := #[.slice Ao97 t371.length co97, .slice Ao102 t374.length co102, .int .i64 t377, .bool false]) ?_ 3 _ rfl; (with_reducible repeat (first | refine blk_drewN ?_ _ | refine blk_drew ?_ | refine blk_alloc ?_ _)); refine blk_put (cs := #[.slice Ao97 t371.length co97, .slice Ao102 t374.length co102, .int .i64 0, .bool false]) ?_ 2 _ rfl; (with_reducible repeat (first | refine blk_drewN ?_ _ | refine blk_drew ?_ | refine blk_alloc ?_ _)); refine blk_put (cs := #[.slice Ao97 t371.length co97, .slice none 0 0, .int .i64 0, .bool false]) ?_ 1 _ rfl; (with_reducible repeat (first | refine blk_drewN ?_ _ | refine blk_drew ?_ | refine blk_alloc ?_ _)); refine blk_put (cs := #[.slice none 0 0, .slice none 0 0, .int .i64 0, .bool false]) ?_ 0 _ rfl; (with_reducible repeat (first | refine blk_drewN ?_ _ | refine blk_drew ?_ | refine blk_alloc ?_ _)); exact BK379.out) hb); have n13_ := Aside0.mk (below_step (by repeat (first | (with_reducible first | exact HB.out | apply below_alloc | apply pw_below_drewN | apply below_drew1 | refine below_set ?_ GE345.out | refine below_set ?_ GE356.out | refine below_set ?_ GE366.out | refine below_set ?_ GE379.out) | exact HB.out)) hb); clear HO_6; clear HO_357000; clear HO_357001; clear HO_367000; clear HO_367001; clear HO373; clear HO376; clear BK345; clear BK356; clear BK366; clear BK379; clear HB; have HO_6 := n0_; have HO_357000 := n1_; have HO_357001 := n2_; have HO_367000 := n3_; have HO_367001 := n4_; have HO373 := n5_; have HO376 := n6_; have HO382 := n7_; have HO385 := n8_; have BK345 := n9_; have BK356 := n10_; have BK366 := n11_; have BK379 := n12_; have HB := n13_; clear n0_ n1_ n2_ n3_ n4_ n5_ n6_ n7_ n8_ n9_ n10_ n11_ n12_ n13_; (try clear hb); (try clear hb2); (try clear hk); (try clear hi); (try clear ho0); (try clear ho1)))
                      have n0_ := Aside0.mk (Kd.R_drew HO_6.out)
                      have n1_ := Aside0.mk (Kd.R_drew HO_357000.out)
                      have n2_ := Aside0.mk (Kd.R_drew HO_357001.out)
                      have n3_ := Aside0.mk (Kd.R_drew HO_367000.out)
                      have n4_ := Aside0.mk (Kd.R_drew HO_367001.out)
                      have n5_ := Aside0.mk (Kd.R_drew HO373.out)
                      have n6_ := Aside0.mk (Kd.R_drew HO376.out)
                      have n7_ := Aside0.mk (Kd.R_drew HO382.out)
                      have n8_ := Aside0.mk (Kd.R_drew HO385.out)
                      have n9_ := Aside0.mk (blk_drew BK345.out)
                      have n10_ := Aside0.mk (blk_drew BK356.out)
                      have n11_ := Aside0.mk (blk_drew BK366.out)
                      have n12_ := Aside0.mk (blk_drew BK379.out)
                      have n13_ := Aside0.mk (below_drew1 HB.out)
                      clear HO_6
                      clear HO_357000
                      clear HO_357001
                      clear HO_367000
                      clear HO_367001
                      clear HO373
                      clear HO376
                      clear HO382
                      clear HO385
                      clear BK345
                      clear BK356
                      clear BK366
                      clear BK379
                      clear HB
                      have HO_6 := n0_
                      have HO_357000 := n1_
                      have HO_357001 := n2_
                      have HO_367000 := n3_
                      have HO_367001 := n4_
                      have HO373 := n5_
                      have HO376 := n6_
                      have HO382 := n7_
                      have HO385 := n8_
                      have BK345 := n9_
                      have BK356 := n10_
                      have BK366 := n11_
                      have BK379 := n12_
                      have HB := n13_
                      clear n0_ n1_ n2_ n3_ n4_ n5_ n6_ n7_ n8_ n9_ n10_ n11_ n12_ n13_
                      have p388 : 0 ≤ (0 : Int) := (by omega)
                      have q388 : 0 < (l0_0.length : Int) := of_decide_eq_true (by first | (with_reducible assumption) | assumption)
                      obtain ⟨ad388, e388, hx388_0⟩ := Kd.at_string HR0_0.out 0 p388 q388
                      have hw388_0 := hx388_0
                      (try rw [show ((0 : Int)).toNat = 0 from rfl] at hw388_0)
                      (try rw [show 0 * 1 = 0 from rfl] at hw388_0)
                      (try rw [Addr.add_zero'] at hw388_0)
                      cases e388
                      have qi388 : (0 < l0_0.length) = True := eq_true (by omega)
                      (try rw [show ((0 : Int)).toNat = 0 from rfl] at hx388_0)
                      (try rw [Addr.add_zero'] at hx388_0)
                      replace hx388_0 := (HB.out.cell (World.block_lt_of_cell? w _ hx388_0)).trans hx388_0
                      replace p388 := eq_true p388
                      replace q388 := eq_true q388
                      refine start_ (n := 6) (S := fun w' => w'.cell? ⟨gb356, 0, none⟩ = some (.slice Ao14 t348.length co14) ∧ w'.cell? ⟨gb356, 1, none⟩ = some (.slice Ao17 t351.length co17) ∧ w'.cell? ⟨gb356, 2, none⟩ = some (.int .i64 t354) ∧ w'.cell? ⟨gb356, 3, none⟩ = some (.bool t355) ∧ w'.cell? ⟨gb345, 0, none⟩ = some (.slice (some ad388) l0_0.length c0_0) ∧ w'.cell? ⟨gb345, 1, none⟩ = some (.slice A0_1 l0_1.length c0_1) ∧ w'.cell? ⟨gb345, 2, none⟩ = some (.int .i64 a0_2) ∧ w'.cell? ⟨gb345, 3, none⟩ = some (.bool true) ∧ w'.cell? ad388 = some (.string (rdOf ByteArray.empty l0_0 0))) (ds := []) #[false, false, false, false, false, false] (by kernel_rfl) rfl rfl ⟨(blk_cell BK356.out 0).trans rfl, (blk_cell BK356.out 1).trans rfl, (blk_cell BK356.out 2).trans rfl, (blk_cell BK356.out 3).trans rfl, (blk_cell BK345.out 0).trans rfl, (blk_cell BK345.out 1).trans rfl, (blk_cell BK345.out 2).trans rfl, (blk_cell BK345.out 3).trans rfl, ((HB.out.cell (World.block_lt_of_cell? w _ hw388_0)).trans hw388_0)⟩ (fun hHeld => ?_)
                      generalize w104.drew = w105 at HO_6 HO_357000 HO_357001 HO_367000 HO_367001 HO373 HO376 HO382 HO385 BK345 BK356 BK366 BK379 HB hx388_0 hHeld ⊢
                      refine pure_ (i := 1) (N := some 42) (v := ?_) (a' := ?_) #[false, true, false, false, false, false] rfl rfl (by kernel_rfl) (fun _ _ _ h => h) (Or.inl ⟨by rfl, ?_⟩) ?_ ?_
                      rotate_left
                      · intro w'
                        go_simp
                        with_reducible rfl
                      rotate_left
                      · simp only [Act.put, List.setIfInBounds_toArray, List.set_cons_zero, List.set_cons_succ, i64_w, i32_w]
                        rfl
                      refine take_ (i := 0) (N := some 41) (v := ?_) (a' := ?_) #[true, true, false, false, false, false] rfl rfl (by kernel_rfl) (fun _ _ _ h => h) (Or.inl ⟨by rfl, ?_⟩) hHeld ?_ ?_
                      rotate_left
                      · rintro w' ⟨s0, s1, s2, s3, s4, s5, s6, s7, s8⟩
                        go_simp
                        with_reducible rfl
                      rotate_left
                      · simp only [Act.put, List.setIfInBounds_toArray, List.set_cons_zero, List.set_cons_succ, i64_w, i32_w]
                        rfl
                      refine take_ (i := 2) (N := some 43) (v := ?_) (a' := ?_) #[true, true, true, false, false, false] rfl rfl (by kernel_rfl) (fun _ _ _ h => h) (Or.inl ⟨by rfl, ?_⟩) hHeld ?_ ?_
                      rotate_left
                      · rintro w' ⟨s0, s1, s2, s3, s4, s5, s6, s7, s8⟩
                        go_simp
                        with_reducible rfl
                      rotate_left
                      · simp only [Act.put, List.setIfInBounds_toArray, List.set_cons_zero, List.set_cons_succ, i64_w, i32_w]
                        rfl
                      refine pure_ (i := 3) (N := some 44) (v := ?_) (a' := ?_) #[true, true, true, true, false, false] rfl rfl (by kernel_rfl) (fun _ _ _ h => h) (Or.inl ⟨by rfl, ?_⟩) ?_ ?_
                      rotate_left
                      · intro w'
                        go_simp
                        with_reducible rfl
                      rotate_left
                      · simp only [Act.put, List.setIfInBounds_toArray, List.set_cons_zero, List.set_cons_succ, i64_w, i32_w]
                        rfl
                      refine take_ (i := 4) (N := some 45) (v := ?_) (a' := ?_) #[true, true, true, true, true, false] rfl rfl (by kernel_rfl) (fun _ _ _ h => h) (Or.inl ⟨by rfl, ?_⟩) hHeld ?_ ?_
                      rotate_left
                      · rintro w' ⟨s0, s1, s2, s3, s4, s5, s6, s7, s8⟩
                        go_simp
                        with_reducible rfl
                      rotate_left
                      · simp only [Act.put, List.setIfInBounds_toArray, List.set_cons_zero, List.set_cons_succ, i64_w, i32_w]
                        rfl
                      refine one_ (i := 5) (N := some 46) #[true, true, true, true, true, true] rfl rfl (by kernel_rfl) (by decide) (fun K hK => ?_)
                      refine goes_ Try.func13 (by kernel_rfl) rfl #[.agg #[.slice Ao14 t348.length co14, .slice Ao17 t351.length co17, .int .i64 t354, .bool t355], .int .i64 0, .string (rdOf ByteArray.empty l0_0 0)] (by rfl) rfl rfl (by (try simp only [List.map_toArray, List.map_cons, List.map_nil]); first | done | rfl | (simp only [List.length_drop, List.length_take]; rfl)) ?_
                      with_reducible refine (dev_Write.calls k1 _ _ t348 _ _ t351 t354 t355 0 (rdOf ByteArray.empty l0_0 0) t389 t392 t395 t396 t397 _ ?side1 ?side2 ?side3 ?side4 A38.out).mono ?_
                      (case side1 => repeat (first | exact (Kd.R_reads' HO_357000.out).2.2 | (with_reducible refine Kd.C_alloc ?_ _) | (with_reducible refine Kd.C_drewN ?_ _) | (with_reducible refine Kd.C_drew ?_)))
                      (case side2 => exact (Kd.R_reads' HO_357000.out).2.1)
                      (case side3 => repeat (first | exact (Kd.R_reads' HO_357001.out).2.2 | (with_reducible refine Kd.C_alloc ?_ _) | (with_reducible refine Kd.C_drewN ?_ _) | (with_reducible refine Kd.C_drew ?_)))
                      (case side4 => exact (Kd.R_reads' HO_357001.out).2.1)
                      rintro e w106 ⟨v390, v393, rfl, ho0, ho1, hb⟩
                      refine ⟨_, rfl, ?_⟩
                      have n0_ := Aside0.mk (Kd.R_below (by (with_reducible repeat (first | apply Kd.R_alloc | apply Kd.R_drewN | apply Kd.R_drew)); exact HO_6.out) hb)
                      have n1_ := Aside0.mk (Kd.R_elder' (by (with_reducible repeat (first | apply Kd.R_alloc | apply Kd.R_drewN | apply Kd.R_drew)); exact HO_357000.out) (Kd.R_base ho0) hb)
                      have n2_ := Aside0.mk (Kd.R_elder' (by (with_reducible repeat (first | apply Kd.R_alloc | apply Kd.R_drewN | apply Kd.R_drew)); exact HO_357001.out) (Kd.R_base ho1) hb)
                      have n3_ := Aside0.mk (Kd.R_elder' (by (with_reducible repeat (first | apply Kd.R_alloc | apply Kd.R_drewN | apply Kd.R_drew)); exact HO_367000.out) (Kd.R_base ho0) hb)
                      have n4_ := Aside0.mk (Kd.R_elder' (by (with_reducible repeat (first | apply Kd.R_alloc | apply Kd.R_drewN | apply Kd.R_drew)); exact HO_367001.out) (Kd.R_base ho1) hb)
                      have n5_ := Aside0.mk (Kd.R_elder' (by (with_reducible repeat (first | apply Kd.R_alloc | apply Kd.R_drewN | apply Kd.R_drew)); exact HO373.out) (Kd.R_base ho0) hb)
                      have n6_ := Aside0.mk (Kd.R_elder' (by (with_reducible repeat (first | apply Kd.R_alloc | apply Kd.R_drewN | apply Kd.R_drew)); exact HO376.out) (Kd.R_base ho1) hb)
                      have n7_ := Aside0.mk (Kd.R_elder' (by (with_reducible repeat (first | apply Kd.R_alloc | apply Kd.R_drewN | apply Kd.R_drew)); exact HO382.out) (Kd.R_base ho0) hb)
                      have n8_ := Aside0.mk (Kd.R_elder' (by (with_reducible repeat (first | apply Kd.R_alloc | apply Kd.R_drewN | apply Kd.R_drew)); exact HO385.out) (Kd.R_base ho1) hb)
                      have n9_ := Aside0.mk (Kd.R_lower (Kd.R_new' (Kd.R_new' (Kd.R_new' (Kd.R_new' ho0 (Kd.R_lt (by (with_reducible repeat (first | apply Kd.R_alloc | apply Kd.R_drewN | apply Kd.R_drew)); exact HO_357000.out))) (Kd.R_lt (by (with_reducible repeat (first | apply Kd.R_alloc | apply Kd.R_drewN | apply Kd.R_drew)); exact HO_367000.out))) (Kd.R_lt (by (with_reducible repeat (first | apply Kd.R_alloc | apply Kd.R_drewN | apply Kd.R_drew)); exact HO373.out))) (Kd.R_lt (by (with_reducible repeat (first | apply Kd.R_alloc | apply Kd.R_drewN | apply Kd.R_drew)); exact HO382.out))) (below_size (by repeat (first | (with_reducible first | exact HB.out | apply below_alloc | apply pw_below_drewN | apply below_drew1 | refine below_set ?_ GE345.out | refine below_set ?_ GE356.out | refine below_set ?_ GE366.out | refine below_set ?_ GE379.out) | exact HB.out))))
                      have n10_ := Aside0.mk (Kd.R_lower (Kd.R_new' (Kd.R_new' (Kd.R_new' (Kd.R_new' ho1 (Kd.R_lt (by (with_reducible repeat (first | apply Kd.R_alloc | apply Kd.R_drewN | apply Kd.R_drew)); exact HO_357001.out))) (Kd.R_lt (by (with_reducible repeat (first | apply Kd.R_alloc | apply Kd.R_drewN | apply Kd.R_drew)); exact HO_367001.out))) (Kd.R_lt (by (with_reducible repeat (first | apply Kd.R_alloc | apply Kd.R_drewN | apply Kd.R_drew)); exact HO376.out))) (Kd.R_lt (by (with_reducible repeat (first | apply Kd.R_alloc | apply Kd.R_drewN | apply Kd.R_drew)); exact HO385.out))) (below_size (by repeat (first | (with_reducible first | exact HB.out | apply below_alloc | apply pw_below_drewN | apply below_drew1 | refine below_set ?_ GE345.out | refine below_set ?_ GE356.out | refine below_set ?_ GE366.out | refine below_set ?_ GE379.out) | exact HB.out))))
                      have n11_ := Aside0.mk (blk_below (g := gb345) (o := .cells #[.slice (some ad388) l0_0.length c0_0, .slice A0_1 l0_1.length c0_1, .int .i64 a0_2, .bool true] 25 (0, 0)) (by (with_reducible repeat (first | refine blk_drewN ?_ _ | refine blk_drew ?_ | refine blk_alloc ?_ _)); exact BK345.out) hb)
                      have n12_ := Aside0.mk (blk_below (g := gb356) (o := .cells #[.slice Ao14 t348.length co14, .slice Ao17 t351.length co17, .int .i64 t354, .bool t355] 25 (0, 0)) (by (with_reducible repeat (first | refine blk_drewN ?_ _ | refine blk_drew ?_ | refine blk_alloc ?_ _)); exact BK356.out) hb)
                      have n13_ := Aside0.mk (blk_below (g := gb366) (o := .cells #[.slice Ao20 t357.length co20, .slice Ao24 t360.length co24, .int .i64 t363, .bool t364] 25 (0, 0)) (by (with_reducible repeat (first | refine blk_drewN ?_ _ | refine blk_drew ?_ | refine blk_alloc ?_ _)); exact BK366.out) hb)
                      have n14_ := Aside0.mk (blk_below (g := gb379) (o := .cells #[.slice Ao97 t371.length co97, .slice Ao102 t374.length co102, .int .i64 t377, .bool t378] 25 (0, 0)) (by (with_reducible repeat (first | refine blk_drewN ?_ _ | refine blk_drew ?_ | refine blk_alloc ?_ _)); exact BK379.out) hb)
                      have n15_ := Aside0.mk (below_step (by repeat (first | (with_reducible first | exact HB.out | apply below_alloc | apply pw_below_drewN | apply below_drew1 | refine below_set ?_ GE345.out | refine below_set ?_ GE356.out | refine below_set ?_ GE366.out | refine below_set ?_ GE379.out) | exact HB.out)) hb)
                      clear HO_6
                      clear HO_357000
                      clear HO_357001
                      clear HO_367000
                      clear HO_367001
                      clear HO373
                      clear HO376
                      clear HO382
                      clear HO385
                      clear BK345
                      clear BK356
                      clear BK366
                      clear BK379
                      clear HB
                      have HO_6 := n0_
                      have HO_357000 := n1_
                      have HO_357001 := n2_
                      have HO_367000 := n3_
                      have HO_367001 := n4_
                      have HO373 := n5_
                      have HO376 := n6_
                      have HO382 := n7_
                      have HO385 := n8_
                      have HO391 := n9_
                      have HO394 := n10_
                      have BK345 := n11_
                      have BK356 := n12_
                      have BK366 := n13_
                      have BK379 := n14_
                      have HB := n15_
                      clear n0_ n1_ n2_ n3_ n4_ n5_ n6_ n7_ n8_ n9_ n10_ n11_ n12_ n13_ n14_ n15_
                      (try clear hb)
                      (try clear hb2)
                      (try clear hk)
                      (try clear hi)
                      (try clear ho0)
                      (try clear ho1)
                      refine hK.out _ _ ⟨(blk_cell BK356.out 0).trans rfl, (blk_cell BK356.out 1).trans rfl, (blk_cell BK356.out 2).trans rfl, (blk_cell BK356.out 3).trans rfl, (blk_cell BK345.out 0).trans rfl, (blk_cell BK345.out 1).trans rfl, (blk_cell BK345.out 2).trans rfl, (blk_cell BK345.out 3).trans rfl, ((HB.out.cell (World.block_lt_of_cell? w _ hw388_0)).trans hw388_0)⟩ (fun hHeld => ?_)
                      clear hK K
                      refine norm_ (a' := ?_) ?_ ?_
                      rotate_left
                      · show Act.put _ (some 46) _ = _
                        simp only [Act.put, List.setIfInBounds_toArray, List.set_cons_zero, List.set_cons_succ, i64_w, i32_w]
                        rfl
                      refine done_ (by kernel_rfl) ?_
                      have hcz107_0 : w106.cell? ⟨gb356, 0, none⟩ = some (.slice Ao14 t348.length co14) := (blk_cell BK356.out 0).trans rfl
                      have hcz107_1 : w106.cell? ⟨gb356, 1, none⟩ = some (.slice Ao17 t351.length co17) := (blk_cell BK356.out 1).trans rfl
                      have hcz107_2 : w106.cell? ⟨gb356, 2, none⟩ = some (.int .i64 t354) := (blk_cell BK356.out 2).trans rfl
                      have hcz107_3 : w106.cell? ⟨gb356, 3, none⟩ = some (.bool t355) := (blk_cell BK356.out 3).trans rfl
                      have hfz107_0 := blk_frozen BK356.out 0
                      have hfz107_1 := blk_frozen BK356.out 1
                      have hfz107_2 := blk_frozen BK356.out 2
                      have hfz107_3 := blk_frozen BK356.out 3
                      have hnb108 := NB345_366.out
                      have hnc108 := NB366_345.out
                      have hcz109_0 : w106.cell? ⟨gb345, 0, none⟩ = some (.slice (some ad388) l0_0.length c0_0) := (blk_cell BK345.out 0).trans rfl
                      have hcz109_1 : w106.cell? ⟨gb345, 1, none⟩ = some (.slice A0_1 l0_1.length c0_1) := (blk_cell BK345.out 1).trans rfl
                      have hcz109_2 : w106.cell? ⟨gb345, 2, none⟩ = some (.int .i64 a0_2) := (blk_cell BK345.out 2).trans rfl
                      have hcz109_3 : w106.cell? ⟨gb345, 3, none⟩ = some (.bool true) := (blk_cell BK345.out 3).trans rfl
                      have hfz109_0 := blk_frozen BK345.out 0
                      have hfz109_1 := blk_frozen BK345.out 1
                      have hfz109_2 := blk_frozen BK345.out 2
                      have hfz109_3 := blk_frozen BK345.out 3
                      try go_wp2_with (first | ((with_reducible refine gate_callee (f := 14) rfl ?_); refine goesL_ (some 49) rfl rfl Try.func14 (by kernel_rfl) rfl #[.agg #[.slice Ao14 t348.length co14, .slice Ao17 t351.length co17, .int .i64 t354, .bool t355], .agg #[.slice (some ad388) l0_0.length c0_0, .slice A0_1 l0_1.length c0_1, .int .i64 a0_2, .bool true]] rfl (by (try simp only [List.map_toArray, List.map_cons, List.map_nil]); first | done | rfl | (simp only [List.length_drop, List.length_take]; rfl)) ?_; (with_reducible refine (almanacref02_Same.calls k1 _ _ t348 _ _ t351 t354 t355 _ _ l0_0 _ _ l0_1 a0_2 true true _ ?side1 ?side2 ?side3 ?side4 ?side5 ?side6 ?side7 ?side8 A39.out).mono ?_); (case side1 => repeat (first | exact (Kd.R_reads' HO_357000.out).2.2 | (with_reducible refine Kd.C_alloc ?_ _) | (with_reducible refine Kd.C_drewN ?_ _) | (with_reducible refine Kd.C_drew ?_))); (case side2 => exact (Kd.R_reads' HO_357000.out).2.1); (case side3 => repeat (first | exact (Kd.R_reads' HO_357001.out).2.2 | (with_reducible refine Kd.C_alloc ?_ _) | (with_reducible refine Kd.C_drewN ?_ _) | (with_reducible refine Kd.C_drew ?_))); (case side4 => exact (Kd.R_reads' HO_357001.out).2.1); (case side5 => repeat (first | exact (Kd.C_below HR0_0.out HB.out) | (with_reducible refine Kd.C_alloc ?_ _) | (with_reducible refine Kd.C_drewN ?_ _) | (with_reducible refine Kd.C_drew ?_))); (case side6 => exact HC0_0.out); (case side7 => repeat (first | exact (Kd.C_below HR0_1.out HB.out) | (with_reducible refine Kd.C_alloc ?_ _) | (with_reducible refine Kd.C_drewN ?_ _) | (with_reducible refine Kd.C_drew ?_))); (case side8 => exact HC0_1.out); rintro e w110 ⟨rfl, hb⟩; refine ⟨_, rfl, ?_⟩; have n0_ := Aside0.mk (Kd.R_below (by (with_reducible repeat (first | apply Kd.R_alloc | apply Kd.R_drewN | apply Kd.R_drew)); exact HO_6.out) hb); have n1_ := Aside0.mk (Kd.R_below (by (with_reducible repeat (first | apply Kd.R_alloc | apply Kd.R_drewN | apply Kd.R_drew)); exact HO_357000.out) hb); have n2_ := Aside0.mk (Kd.R_below (by (with_reducible repeat (first | apply Kd.R_alloc | apply Kd.R_drewN | apply Kd.R_drew)); exact HO_357001.out) hb); have n3_ := Aside0.mk (Kd.R_below (by (with_reducible repeat (first | apply Kd.R_alloc | apply Kd.R_drewN | apply Kd.R_drew)); exact HO_367000.out) hb); have n4_ := Aside0.mk (Kd.R_below (by (with_reducible repeat (first | apply Kd.R_alloc | apply Kd.R_drewN | apply Kd.R_drew)); exact HO_367001.out) hb); have n5_ := Aside0.mk (Kd.R_below (by (with_reducible repeat (first | apply Kd.R_alloc | apply Kd.R_drewN | apply Kd.R_drew)); exact HO373.out) hb); have n6_ := Aside0.mk (Kd.R_below (by (with_reducible repeat (first | apply Kd.R_alloc | apply Kd.R_drewN | apply Kd.R_drew)); exact HO376.out) hb); have n7_ := Aside0.mk (Kd.R_below (by (with_reducible repeat (first | apply Kd.R_alloc | apply Kd.R_drewN | apply Kd.R_drew)); exact HO382.out) hb); have n8_ := Aside0.mk (Kd.R_below (by (with_reducible repeat (first | apply Kd.R_alloc | apply Kd.R_drewN | apply Kd.R_drew)); exact HO385.out) hb); have n9_ := Aside0.mk (Kd.R_below (by (with_reducible repeat (first | apply Kd.R_alloc | apply Kd.R_drewN | apply Kd.R_drew)); exact HO391.out) hb); have n10_ := Aside0.mk (Kd.R_below (by (with_reducible repeat (first | apply Kd.R_alloc | apply Kd.R_drewN | apply Kd.R_drew)); exact HO394.out) hb); have n11_ := Aside0.mk (blk_below (g := gb345) (o := .cells #[.slice (some ad388) l0_0.length c0_0, .slice A0_1 l0_1.length c0_1, .int .i64 a0_2, .bool true] 25 (0, 0)) (by (with_reducible repeat (first | refine blk_drewN ?_ _ | refine blk_drew ?_ | refine blk_alloc ?_ _)); exact BK345.out) hb); have n12_ := Aside0.mk (blk_below (g := gb356) (o := .cells #[.slice Ao14 t348.length co14, .slice Ao17 t351.length co17, .int .i64 t354, .bool t355] 25 (0, 0)) (by (with_reducible repeat (first | refine blk_drewN ?_ _ | refine blk_drew ?_ | refine blk_alloc ?_ _)); exact BK356.out) hb); have n13_ := Aside0.mk (blk_below (g := gb366) (o := .cells #[.slice Ao20 t357.length co20, .slice Ao24 t360.length co24, .int .i64 t363, .bool t364] 25 (0, 0)) (by (with_reducible repeat (first | refine blk_drewN ?_ _ | refine blk_drew ?_ | refine blk_alloc ?_ _)); exact BK366.out) hb); have n14_ := Aside0.mk (blk_below (g := gb379) (o := .cells #[.slice Ao97 t371.length co97, .slice Ao102 t374.length co102, .int .i64 t377, .bool t378] 25 (0, 0)) (by (with_reducible repeat (first | refine blk_drewN ?_ _ | refine blk_drew ?_ | refine blk_alloc ?_ _)); exact BK379.out) hb); have n15_ := Aside0.mk (below_step (by repeat (first | (with_reducible first | exact HB.out | apply below_alloc | apply pw_below_drewN | apply below_drew1 | refine below_set ?_ GE345.out | refine below_set ?_ GE356.out | refine below_set ?_ GE366.out | refine below_set ?_ GE379.out) | exact HB.out)) hb); clear HO_6; clear HO_357000; clear HO_357001; clear HO_367000; clear HO_367001; clear HO373; clear HO376; clear HO382; clear HO385; clear HO391; clear HO394; clear BK345; clear BK356; clear BK366; clear BK379; clear HB; have HO_6 := n0_; have HO_357000 := n1_; have HO_357001 := n2_; have HO_367000 := n3_; have HO_367001 := n4_; have HO373 := n5_; have HO376 := n6_; have HO382 := n7_; have HO385 := n8_; have HO391 := n9_; have HO394 := n10_; have BK345 := n11_; have BK356 := n12_; have BK366 := n13_; have BK379 := n14_; have HB := n15_; clear n0_ n1_ n2_ n3_ n4_ n5_ n6_ n7_ n8_ n9_ n10_ n11_ n12_ n13_ n14_ n15_; (try clear hb); (try clear hb2); (try clear hk); (try clear hi); have hcz111_0 : w110.cell? ⟨gb345, 0, none⟩ = some (.slice (some ad388) l0_0.length c0_0) := (blk_cell BK345.out 0).trans rfl; have hcz111_1 : w110.cell? ⟨gb345, 1, none⟩ = some (.slice A0_1 l0_1.length c0_1) := (blk_cell BK345.out 1).trans rfl; have hcz111_2 : w110.cell? ⟨gb345, 2, none⟩ = some (.int .i64 a0_2) := (blk_cell BK345.out 2).trans rfl; have hcz111_3 : w110.cell? ⟨gb345, 3, none⟩ = some (.bool true) := (blk_cell BK345.out 3).trans rfl; have hfz111_0 := blk_frozen BK345.out 0; have hfz111_1 := blk_frozen BK345.out 1; have hfz111_2 := blk_frozen BK345.out 2; have hfz111_3 := blk_frozen BK345.out 3) | (go_at_call 8; (with_reducible refine (almanaclaw02_awake.calls k1  t399 _ A91.out).mono ?_); rintro e w112 ⟨rfl, hb⟩; have n0_ := Aside0.mk (Kd.R_below (by (with_reducible repeat (first | apply Kd.R_alloc | apply Kd.R_drewN | apply Kd.R_drew)); exact HO_6.out) hb); have n1_ := Aside0.mk (Kd.R_below (by (with_reducible repeat (first | apply Kd.R_alloc | apply Kd.R_drewN | apply Kd.R_drew)); exact HO_357000.out) hb); have n2_ := Aside0.mk (Kd.R_below (by (with_reducible repeat (first | apply Kd.R_alloc | apply Kd.R_drewN | apply Kd.R_drew)); exact HO_357001.out) hb); have n3_ := Aside0.mk (Kd.R_below (by (with_reducible repeat (first | apply Kd.R_alloc | apply Kd.R_drewN | apply Kd.R_drew)); exact HO_367000.out) hb); have n4_ := Aside0.mk (Kd.R_below (by (with_reducible repeat (first | apply Kd.R_alloc | apply Kd.R_drewN | apply Kd.R_drew)); exact HO_367001.out) hb); have n5_ := Aside0.mk (Kd.R_below (by (with_reducible repeat (first | apply Kd.R_alloc | apply Kd.R_drewN | apply Kd.R_drew)); exact HO373.out) hb); have n6_ := Aside0.mk (Kd.R_below (by (with_reducible repeat (first | apply Kd.R_alloc | apply Kd.R_drewN | apply Kd.R_drew)); exact HO376.out) hb); have n7_ := Aside0.mk (Kd.R_below (by (with_reducible repeat (first | apply Kd.R_alloc | apply Kd.R_drewN | apply Kd.R_drew)); exact HO382.out) hb); have n8_ := Aside0.mk (Kd.R_below (by (with_reducible repeat (first | apply Kd.R_alloc | apply Kd.R_drewN | apply Kd.R_drew)); exact HO385.out) hb); have n9_ := Aside0.mk (Kd.R_below (by (with_reducible repeat (first | apply Kd.R_alloc | apply Kd.R_drewN | apply Kd.R_drew)); exact HO391.out) hb); have n10_ := Aside0.mk (Kd.R_below (by (with_reducible repeat (first | apply Kd.R_alloc | apply Kd.R_drewN | apply Kd.R_drew)); exact HO394.out) hb); have n11_ := Aside0.mk (blk_below (g := gb345) (o := .cells #[.slice (some ad388) l0_0.length c0_0, .slice A0_1 l0_1.length c0_1, .int .i64 a0_2, .bool true] 25 (0, 0)) (by (with_reducible repeat (first | refine blk_drewN ?_ _ | refine blk_drew ?_ | refine blk_alloc ?_ _)); exact BK345.out) hb); have n12_ := Aside0.mk (blk_below (g := gb356) (o := .cells #[.slice Ao14 t348.length co14, .slice Ao17 t351.length co17, .int .i64 t354, .bool t355] 25 (0, 0)) (by (with_reducible repeat (first | refine blk_drewN ?_ _ | refine blk_drew ?_ | refine blk_alloc ?_ _)); exact BK356.out) hb); have n13_ := Aside0.mk (blk_below (g := gb366) (o := .cells #[.slice Ao20 t357.length co20, .slice Ao24 t360.length co24, .int .i64 t363, .bool t364] 25 (0, 0)) (by (with_reducible repeat (first | refine blk_drewN ?_ _ | refine blk_drew ?_ | refine blk_alloc ?_ _)); exact BK366.out) hb); have n14_ := Aside0.mk (blk_below (g := gb379) (o := .cells #[.slice Ao97 t371.length co97, .slice Ao102 t374.length co102, .int .i64 t377, .bool t378] 25 (0, 0)) (by (with_reducible repeat (first | refine blk_drewN ?_ _ | refine blk_drew ?_ | refine blk_alloc ?_ _)); exact BK379.out) hb); have n15_ := Aside0.mk (below_step (by repeat (first | (with_reducible first | exact HB.out | apply below_alloc | apply pw_below_drewN | apply below_drew1 | refine below_set ?_ GE345.out | refine below_set ?_ GE356.out | refine below_set ?_ GE366.out | refine below_set ?_ GE379.out) | exact HB.out)) hb); clear HO_6; clear HO_357000; clear HO_357001; clear HO_367000; clear HO_367001; clear HO373; clear HO376; clear HO382; clear HO385; clear HO391; clear HO394; clear BK345; clear BK356; clear BK366; clear BK379; clear HB; have HO_6 := n0_; have HO_357000 := n1_; have HO_357001 := n2_; have HO_367000 := n3_; have HO_367001 := n4_; have HO373 := n5_; have HO376 := n6_; have HO382 := n7_; have HO385 := n8_; have HO391 := n9_; have HO394 := n10_; have BK345 := n11_; have BK356 := n12_; have BK366 := n13_; have BK379 := n14_; have HB := n15_; clear n0_ n1_ n2_ n3_ n4_ n5_ n6_ n7_ n8_ n9_ n10_ n11_ n12_ n13_ n14_ n15_; (try clear hb); (try clear hb2); (try clear hk); (try clear hi)))
                      go_ret
                      exact ⟨by first | rfl | (simp [errW_none, errW_some] <;> rfl) | (simp [*, errW_none, errW_some] <;> rfl), by repeat (first | (with_reducible first | exact HB.out | apply below_alloc | apply pw_below_drewN | apply below_drew1 | refine below_set ?_ GE345.out | refine below_set ?_ GE356.out | refine below_set ?_ GE366.out | refine below_set ?_ GE379.out) | exact HB.out)⟩
                    · replace c90 := Bool.eq_false_iff.mpr c90
                      subst c90
                      have H1 : (if a0_2 = 0 then ((almanaclaw02_awake.f k1).bind fun t400 => (some t400)) else (some false)) = some r := by rw [if_neg (show ¬ (false = true) by decide)] at H; exact H
                      clear H
                      have H := H1
                      clear H1
                      by_cases c113 : a0_2 = 0
                      · rw [if_pos c113] at H
                        have c113b0 : (a0_2 == 0) = true := beq_iff_eq.mpr c113
                        have c113b1 : (a0_2 != 0) = false := bne_eq_false_iff_eq.mpr c113
                        clear c113
                        replace H := Option.bind_eq_some_iff.mp H
                        obtain ⟨t400, A1140, H⟩ := H
                        replace H : (some t400) = some r := H
                        have A114 := Aside0.mk A1140
                        clear A1140
                        obtain rfl := Option.some.inj H
                        have hnb115 := NB356_345.out
                        have hnc115 := NB345_356.out
                        have hnb116 := NB356_366.out
                        have hnc116 := NB366_356.out
                        have hcz117_0 : wr.cell? ⟨gb356, 0, none⟩ = some (.slice Ao14 t348.length co14) := (blk_cell BK356.out 0).trans rfl
                        have hcz117_1 : wr.cell? ⟨gb356, 1, none⟩ = some (.slice Ao17 t351.length co17) := (blk_cell BK356.out 1).trans rfl
                        have hcz117_2 : wr.cell? ⟨gb356, 2, none⟩ = some (.int .i64 t354) := (blk_cell BK356.out 2).trans rfl
                        have hcz117_3 : wr.cell? ⟨gb356, 3, none⟩ = some (.bool t355) := (blk_cell BK356.out 3).trans rfl
                        have hfz117_0 := blk_frozen BK356.out 0
                        have hfz117_1 := blk_frozen BK356.out 1
                        have hfz117_2 := blk_frozen BK356.out 2
                        have hfz117_3 := blk_frozen BK356.out 3
                        try go_wp2_with (first | ((with_reducible refine gate_callee (f := 11) rfl ?_); refine goesL_ (some 38) rfl rfl Try.func11 (by kernel_rfl) rfl #[.agg #[.slice Ao14 t348.length co14, .slice Ao17 t351.length co17, .int .i64 t354, .bool t355], .slice Ao28 x6_1.length co28] rfl (by (try simp only [List.map_toArray, List.map_cons, List.map_nil]); first | done | rfl | (simp only [List.length_drop, List.length_take]; rfl)) ?_; (with_reducible refine (dev_Crash.calls _ _ t348 _ _ t351 t354 t355 _ _ x6_1 t371 t374 t377 t378 _ ?side1 ?side2 ?side3 ?side4 ?side5 ?side6 A35.out).mono ?_); (case side1 => repeat (first | exact (Kd.R_reads' HO_357000.out).2.2 | (with_reducible refine Kd.C_alloc ?_ _) | (with_reducible refine Kd.C_drewN ?_ _) | (with_reducible refine Kd.C_drew ?_))); (case side2 => exact (Kd.R_reads' HO_357000.out).2.1); (case side3 => repeat (first | exact (Kd.R_reads' HO_357001.out).2.2 | (with_reducible refine Kd.C_alloc ?_ _) | (with_reducible refine Kd.C_drewN ?_ _) | (with_reducible refine Kd.C_drew ?_))); (case side4 => exact (Kd.R_reads' HO_357001.out).2.1); (case side5 => repeat (first | exact (Kd.R_reads' HO_6.out).2.2 | (with_reducible refine Kd.C_alloc ?_ _) | (with_reducible refine Kd.C_drewN ?_ _) | (with_reducible refine Kd.C_drew ?_))); (case side6 => exact (Kd.R_reads' HO_6.out).2.1); rintro e w118 ⟨v372, v375, rfl, ho0, ho1, hb⟩; refine ⟨_, rfl, ?_⟩; have n0_ := Aside0.mk (Kd.R_below (by (with_reducible repeat (first | apply Kd.R_alloc | apply Kd.R_drewN | apply Kd.R_drew)); exact HO_6.out) hb); have n1_ := Aside0.mk (Kd.R_elder' (by (with_reducible repeat (first | apply Kd.R_alloc | apply Kd.R_drewN | apply Kd.R_drew)); exact HO_357000.out) (Kd.R_base ho0) hb); have n2_ := Aside0.mk (Kd.R_elder' (by (with_reducible repeat (first | apply Kd.R_alloc | apply Kd.R_drewN | apply Kd.R_drew)); exact HO_357001.out) (Kd.R_base ho1) hb); have n3_ := Aside0.mk (Kd.R_elder' (by (with_reducible repeat (first | apply Kd.R_alloc | apply Kd.R_drewN | apply Kd.R_drew)); exact HO_367000.out) (Kd.R_base ho0) hb); have n4_ := Aside0.mk (Kd.R_elder' (by (with_reducible repeat (first | apply Kd.R_alloc | apply Kd.R_drewN | apply Kd.R_drew)); exact HO_367001.out) (Kd.R_base ho1) hb); have n5_ := Aside0.mk (Kd.R_lower (Kd.R_new' (Kd.R_new' ho0 (Kd.R_lt (by (with_reducible repeat (first | apply Kd.R_alloc | apply Kd.R_drewN | apply Kd.R_drew)); exact HO_357000.out))) (Kd.R_lt (by (with_reducible repeat (first | apply Kd.R_alloc | apply Kd.R_drewN | apply Kd.R_drew)); exact HO_367000.out))) (below_size (by repeat (first | (with_reducible first | exact HB.out | apply below_alloc | apply pw_below_drewN | apply below_drew1 | refine below_set ?_ GE345.out | refine below_set ?_ GE356.out | refine below_set ?_ GE366.out) | exact HB.out)))); have n6_ := Aside0.mk (Kd.R_lower (Kd.R_new' (Kd.R_new' ho1 (Kd.R_lt (by (with_reducible repeat (first | apply Kd.R_alloc | apply Kd.R_drewN | apply Kd.R_drew)); exact HO_357001.out))) (Kd.R_lt (by (with_reducible repeat (first | apply Kd.R_alloc | apply Kd.R_drewN | apply Kd.R_drew)); exact HO_367001.out))) (below_size (by repeat (first | (with_reducible first | exact HB.out | apply below_alloc | apply pw_below_drewN | apply below_drew1 | refine below_set ?_ GE345.out | refine below_set ?_ GE356.out | refine below_set ?_ GE366.out) | exact HB.out)))); have n7_ := Aside0.mk (blk_below (g := gb345) (o := .cells #[.slice A0_0 l0_0.length c0_0, .slice A0_1 l0_1.length c0_1, .int .i64 a0_2, .bool false] 25 (0, 0)) (by (with_reducible repeat (first | refine blk_drewN ?_ _ | refine blk_drew ?_ | refine blk_alloc ?_ _)); exact BK345.out) hb); have n8_ := Aside0.mk (blk_below (g := gb356) (o := .cells #[.slice Ao14 t348.length co14, .slice Ao17 t351.length co17, .int .i64 t354, .bool t355] 25 (0, 0)) (by (with_reducible repeat (first | refine blk_drewN ?_ _ | refine blk_drew ?_ | refine blk_alloc ?_ _)); exact BK356.out) hb); have n9_ := Aside0.mk (blk_below (g := gb366) (o := .cells #[.slice Ao20 t357.length co20, .slice Ao24 t360.length co24, .int .i64 t363, .bool t364] 25 (0, 0)) (by (with_reducible repeat (first | refine blk_drewN ?_ _ | refine blk_drew ?_ | refine blk_alloc ?_ _)); exact BK366.out) hb); have n10_ := Aside0.mk (below_step (by repeat (first | (with_reducible first | exact HB.out | apply below_alloc | apply pw_below_drewN | apply below_drew1 | refine below_set ?_ GE345.out | refine below_set ?_ GE356.out | refine below_set ?_ GE366.out) | exact HB.out)) hb); clear HO_6; clear HO_357000; clear HO_357001; clear HO_367000; clear HO_367001; clear BK345; clear BK356; clear BK366; clear HB; have HO_6 := n0_; have HO_357000 := n1_; have HO_357001 := n2_; have HO_367000 := n3_; have HO_367001 := n4_; have HO373 := n5_; have HO376 := n6_; have BK345 := n7_; have BK356 := n8_; have BK366 := n9_; have HB := n10_; clear n0_ n1_ n2_ n3_ n4_ n5_ n6_ n7_ n8_ n9_ n10_; (try clear hb); (try clear hb2); (try clear hk); (try clear hi); (try clear ho0); (try clear ho1)) | ((with_reducible refine gate_dst (N := 8) rfl ?_); (try (refine gate_guard (by rfl) ?_; dsimp only)); refine box_event ?hg (N := 8) ?hd (cs := #[.slice none 0 0, .slice none 0 0, .int .i64 0, .bool false]) (t := 25) ?hr ?_; (case hd => rfl); (case hg => rfl); (case hr => first | (go_simp; done) | (go_simp; rfl)); intro gb379 hg w119 hbox hb; have n0_ := Aside0.mk (Kd.R_below (by (with_reducible repeat (first | apply Kd.R_alloc | apply Kd.R_drewN | apply Kd.R_drew)); exact HO_6.out) hb); have n1_ := Aside0.mk (Kd.R_below (by (with_reducible repeat (first | apply Kd.R_alloc | apply Kd.R_drewN | apply Kd.R_drew)); exact HO_357000.out) hb); have n2_ := Aside0.mk (Kd.R_below (by (with_reducible repeat (first | apply Kd.R_alloc | apply Kd.R_drewN | apply Kd.R_drew)); exact HO_357001.out) hb); have n3_ := Aside0.mk (Kd.R_below (by (with_reducible repeat (first | apply Kd.R_alloc | apply Kd.R_drewN | apply Kd.R_drew)); exact HO_367000.out) hb); have n4_ := Aside0.mk (Kd.R_below (by (with_reducible repeat (first | apply Kd.R_alloc | apply Kd.R_drewN | apply Kd.R_drew)); exact HO_367001.out) hb); have n5_ := Aside0.mk (Kd.R_below (by (with_reducible repeat (first | apply Kd.R_alloc | apply Kd.R_drewN | apply Kd.R_drew)); exact HO373.out) hb); have n6_ := Aside0.mk (Kd.R_below (by (with_reducible repeat (first | apply Kd.R_alloc | apply Kd.R_drewN | apply Kd.R_drew)); exact HO376.out) hb); have n7_ := Aside0.mk (blk_below (g := gb345) (o := .cells #[.slice A0_0 l0_0.length c0_0, .slice A0_1 l0_1.length c0_1, .int .i64 a0_2, .bool false] 25 (0, 0)) (by (with_reducible repeat (first | refine blk_drewN ?_ _ | refine blk_drew ?_ | refine blk_alloc ?_ _)); exact BK345.out) hb); have n8_ := Aside0.mk (blk_below (g := gb356) (o := .cells #[.slice Ao14 t348.length co14, .slice Ao17 t351.length co17, .int .i64 t354, .bool t355] 25 (0, 0)) (by (with_reducible repeat (first | refine blk_drewN ?_ _ | refine blk_drew ?_ | refine blk_alloc ?_ _)); exact BK356.out) hb); have n9_ := Aside0.mk (blk_below (g := gb366) (o := .cells #[.slice Ao20 t357.length co20, .slice Ao24 t360.length co24, .int .i64 t363, .bool t364] 25 (0, 0)) (by (with_reducible repeat (first | refine blk_drewN ?_ _ | refine blk_drew ?_ | refine blk_alloc ?_ _)); exact BK366.out) hb); have n10_ := Aside0.mk (below_step (by repeat (first | (with_reducible first | exact HB.out | apply below_alloc | apply pw_below_drewN | apply below_drew1 | refine below_set ?_ GE345.out | refine below_set ?_ GE356.out | refine below_set ?_ GE366.out) | exact HB.out)) hb); have n11_ := Aside0.mk (hbox); have n12_ := Aside0.mk ((by rw [hg]; exact (below_size (by repeat (first | (with_reducible first | exact HB.out | apply below_alloc | apply pw_below_drewN | apply below_drew1 | refine below_set ?_ GE345.out | refine below_set ?_ GE356.out | refine below_set ?_ GE366.out) | exact HB.out))) : w.heap.size ≤ gb379)); have n13_ := Aside0.mk ((by rw [hg]; exact (below_size (by repeat (first | (with_reducible first | exact HB.out | apply below_alloc | apply pw_below_drewN | apply below_drew1 | refine below_set ?_ GE345.out | refine below_set ?_ GE356.out | refine below_set ?_ GE366.out) | exact HB.out))) : w.heap.size ≤ gb379)); have n14_ := Aside0.mk ((by rw [hg]; exact Nat.ne_of_lt (blk_lt (g := gb345) (o := .cells #[.slice A0_0 l0_0.length c0_0, .slice A0_1 l0_1.length c0_1, .int .i64 a0_2, .bool false] 25 (0, 0)) (by (with_reducible repeat (first | refine blk_drewN ?_ _ | refine blk_drew ?_ | refine blk_alloc ?_ _)); exact BK345.out)) : gb345 ≠ gb379)); have n15_ := Aside0.mk ((by rw [hg]; exact Nat.ne_of_gt (blk_lt (g := gb345) (o := .cells #[.slice A0_0 l0_0.length c0_0, .slice A0_1 l0_1.length c0_1, .int .i64 a0_2, .bool false] 25 (0, 0)) (by (with_reducible repeat (first | refine blk_drewN ?_ _ | refine blk_drew ?_ | refine blk_alloc ?_ _)); exact BK345.out)) : gb379 ≠ gb345)); have n16_ := Aside0.mk ((by rw [hg]; exact Nat.ne_of_lt (blk_lt (g := gb356) (o := .cells #[.slice Ao14 t348.length co14, .slice Ao17 t351.length co17, .int .i64 t354, .bool t355] 25 (0, 0)) (by (with_reducible repeat (first | refine blk_drewN ?_ _ | refine blk_drew ?_ | refine blk_alloc ?_ _)); exact BK356.out)) : gb356 ≠ gb379)); have n17_ := Aside0.mk ((by rw [hg]; exact Nat.ne_of_gt (blk_lt (g := gb356) (o := .cells #[.slice Ao14 t348.length co14, .slice Ao17 t351.length co17, .int .i64 t354, .bool t355] 25 (0, 0)) (by (with_reducible repeat (first | refine blk_drewN ?_ _ | refine blk_drew ?_ | refine blk_alloc ?_ _)); exact BK356.out)) : gb379 ≠ gb356)); have n18_ := Aside0.mk ((by rw [hg]; exact Nat.ne_of_lt (blk_lt (g := gb366) (o := .cells #[.slice Ao20 t357.length co20, .slice Ao24 t360.length co24, .int .i64 t363, .bool t364] 25 (0, 0)) (by (with_reducible repeat (first | refine blk_drewN ?_ _ | refine blk_drew ?_ | refine blk_alloc ?_ _)); exact BK366.out)) : gb366 ≠ gb379)); have n19_ := Aside0.mk ((by rw [hg]; exact Nat.ne_of_gt (blk_lt (g := gb366) (o := .cells #[.slice Ao20 t357.length co20, .slice Ao24 t360.length co24, .int .i64 t363, .bool t364] 25 (0, 0)) (by (with_reducible repeat (first | refine blk_drewN ?_ _ | refine blk_drew ?_ | refine blk_alloc ?_ _)); exact BK366.out)) : gb379 ≠ gb366)); clear HO_6; clear HO_357000; clear HO_357001; clear HO_367000; clear HO_367001; clear HO373; clear HO376; clear BK345; clear BK356; clear BK366; clear HB; have HO_6 := n0_; have HO_357000 := n1_; have HO_357001 := n2_; have HO_367000 := n3_; have HO_367001 := n4_; have HO373 := n5_; have HO376 := n6_; have BK345 := n7_; have BK356 := n8_; have BK366 := n9_; have HB := n10_; have BK379 := n11_; have GW379 := n12_; have GE379 := n13_; have NB345_379 := n14_; have NB379_345 := n15_; have NB356_379 := n16_; have NB379_356 := n17_; have NB366_379 := n18_; have NB379_366 := n19_; clear n0_ n1_ n2_ n3_ n4_ n5_ n6_ n7_ n8_ n9_ n10_ n11_ n12_ n13_ n14_ n15_ n16_ n17_ n18_ n19_; clear hb hbox hg; obtain ⟨Ao120, co120, eo120⟩ := Kd.R_slice HO373.out; subst eo120; have hnb121 := NB379_345.out; have hnc121 := NB345_379.out; have hnb122 := NB379_356.out; have hnc122 := NB356_379.out; have hnb123 := NB379_366.out; have hnc123 := NB366_379.out; have hcz124_0 : w119.cell? ⟨gb379, 0, none⟩ = some (.slice none 0 0) := (blk_cell BK379.out 0).trans rfl; have hcz124_1 : w119.cell? ⟨gb379, 1, none⟩ = some (.slice none 0 0) := (blk_cell BK379.out 1).trans rfl; have hcz124_2 : w119.cell? ⟨gb379, 2, none⟩ = some (.int .i64 0) := (blk_cell BK379.out 2).trans rfl; have hcz124_3 : w119.cell? ⟨gb379, 3, none⟩ = some (.bool false) := (blk_cell BK379.out 3).trans rfl; have hfz124_0 := blk_frozen BK379.out 0; have hfz124_1 := blk_frozen BK379.out 1; have hfz124_2 := blk_frozen BK379.out 2; have hfz124_3 := blk_frozen BK379.out 3; obtain ⟨Ao125, co125, eo125⟩ := Kd.R_slice HO376.out; subst eo125; have hcz126_0 : w119.cell? ⟨gb356, 0, none⟩ = some (.slice Ao14 t348.length co14) := (blk_cell BK356.out 0).trans rfl; have hcz126_1 : w119.cell? ⟨gb356, 1, none⟩ = some (.slice Ao17 t351.length co17) := (blk_cell BK356.out 1).trans rfl; have hcz126_2 : w119.cell? ⟨gb356, 2, none⟩ = some (.int .i64 t354) := (blk_cell BK356.out 2).trans rfl; have hcz126_3 : w119.cell? ⟨gb356, 3, none⟩ = some (.bool t355) := (blk_cell BK356.out 3).trans rfl; have hfz126_0 := blk_frozen BK356.out 0; have hfz126_1 := blk_frozen BK356.out 1; have hfz126_2 := blk_frozen BK356.out 2; have hfz126_3 := blk_frozen BK356.out 3) | ((with_reducible refine gate_callee (f := 12) rfl ?_); refine goesL_ (some 40) rfl rfl Try.func12 (by kernel_rfl) rfl #[.agg #[.slice Ao14 t348.length co14, .slice Ao17 t351.length co17, .int .i64 t354, .bool t355], .int .i64 0] rfl (by (try simp only [List.map_toArray, List.map_cons, List.map_nil]); first | done | rfl | (simp only [List.length_drop, List.length_take]; rfl)) ?_; (with_reducible refine (dev_Arm.calls _ _ t348 _ _ t351 t354 t355 0 t380 t383 t386 t387 _ ?side1 ?side2 ?side3 ?side4 A36.out).mono ?_); (case side1 => refine (Kd.R_reads' (e := 9) (base := w.heap.size) (ok := fun k_ => (some k_ ≠ (.slice Ao20 t357.length co20 : Value).ownBlock ∧ some k_ ≠ (.slice Ao120 t371.length co120 : Value).ownBlock)) (n := t348.length) (c := co14) ?_).2.2; exact (by (with_reducible repeat (first | apply Kd.R_alloc | apply Kd.R_drewN | apply Kd.R_drew)); exact (Kd.R_mono (Kd.R_far (p := ⟨gb379, 3, none⟩) (Kd.R_far (p := ⟨gb379, 2, none⟩) (Kd.R_far (p := ⟨gb379, 1, none⟩) (Kd.R_far (p := ⟨gb379, 0, none⟩) (Kd.R_types HO_357000.out BK379.out (by decide)) (fun _ hk => hk.2) (.slice Ao120 t371.length co120)) (fun _ hk => hk.2) (.slice Ao125 t374.length co125)) (fun _ hk => hk.2) (.int .i64 t377)) (fun _ hk => hk.2) (.bool t378)) (fun _ h_ => h_.1)))); (case side2 => exact (Kd.R_reads' HO_357000.out).2.1); (case side3 => refine (Kd.R_reads' (e := 40) (base := w.heap.size) (ok := fun k_ => (some k_ ≠ (.slice Ao24 t360.length co24 : Value).ownBlock ∧ some k_ ≠ (.slice Ao125 t374.length co125 : Value).ownBlock)) (n := t351.length) (c := co17) ?_).2.2; exact (by (with_reducible repeat (first | apply Kd.R_alloc | apply Kd.R_drewN | apply Kd.R_drew)); exact (Kd.R_mono (Kd.R_far (p := ⟨gb379, 3, none⟩) (Kd.R_far (p := ⟨gb379, 2, none⟩) (Kd.R_far (p := ⟨gb379, 1, none⟩) (Kd.R_far (p := ⟨gb379, 0, none⟩) (Kd.R_types HO_357001.out BK379.out (by decide)) (fun _ hk => hk.2) (.slice Ao120 t371.length co120)) (fun _ hk => hk.2) (.slice Ao125 t374.length co125)) (fun _ hk => hk.2) (.int .i64 t377)) (fun _ hk => hk.2) (.bool t378)) (fun _ h_ => h_.1)))); (case side4 => exact (Kd.R_reads' HO_357001.out).2.1); rintro e w127 ⟨v381, v384, rfl, ho0, ho1, hb⟩; refine ⟨_, rfl, ?_⟩; have n0_ := Aside0.mk (Kd.R_below (by (with_reducible repeat (first | apply Kd.R_alloc | apply Kd.R_drewN | apply Kd.R_drew)); exact (Kd.R_mono (Kd.R_far (p := ⟨gb379, 3, none⟩) (Kd.R_far (p := ⟨gb379, 2, none⟩) (Kd.R_far (p := ⟨gb379, 1, none⟩) (Kd.R_far (p := ⟨gb379, 0, none⟩) (Kd.R_types HO_6.out BK379.out (by decide)) (fun _ hk => hk.2) (.slice Ao120 t371.length co120)) (fun _ hk => hk.2) (.slice Ao125 t374.length co125)) (fun _ hk => hk.2) (.int .i64 t377)) (fun _ hk => hk.2) (.bool t378)) (fun _ h_ => h_.1))) hb); have n1_ := Aside0.mk (Kd.R_elder' (by (with_reducible repeat (first | apply Kd.R_alloc | apply Kd.R_drewN | apply Kd.R_drew)); exact (Kd.R_mono (Kd.R_far (p := ⟨gb379, 3, none⟩) (Kd.R_far (p := ⟨gb379, 2, none⟩) (Kd.R_far (p := ⟨gb379, 1, none⟩) (Kd.R_far (p := ⟨gb379, 0, none⟩) (Kd.R_types HO_357000.out BK379.out (by decide)) (fun _ hk => hk.2) (.slice Ao120 t371.length co120)) (fun _ hk => hk.2) (.slice Ao125 t374.length co125)) (fun _ hk => hk.2) (.int .i64 t377)) (fun _ hk => hk.2) (.bool t378)) (fun _ h_ => h_.1))) (Kd.R_base ho0) hb); have n2_ := Aside0.mk (Kd.R_elder' (by (with_reducible repeat (first | apply Kd.R_alloc | apply Kd.R_drewN | apply Kd.R_drew)); exact (Kd.R_mono (Kd.R_far (p := ⟨gb379, 3, none⟩) (Kd.R_far (p := ⟨gb379, 2, none⟩) (Kd.R_far (p := ⟨gb379, 1, none⟩) (Kd.R_far (p := ⟨gb379, 0, none⟩) (Kd.R_types HO_357001.out BK379.out (by decide)) (fun _ hk => hk.2) (.slice Ao120 t371.length co120)) (fun _ hk => hk.2) (.slice Ao125 t374.length co125)) (fun _ hk => hk.2) (.int .i64 t377)) (fun _ hk => hk.2) (.bool t378)) (fun _ h_ => h_.1))) (Kd.R_base ho1) hb); have n3_ := Aside0.mk (Kd.R_elder' (by (with_reducible repeat (first | apply Kd.R_alloc | apply Kd.R_drewN | apply Kd.R_drew)); exact (Kd.R_mono (Kd.R_far (p := ⟨gb379, 3, none⟩) (Kd.R_far (p := ⟨gb379, 2, none⟩) (Kd.R_far (p := ⟨gb379, 1, none⟩) (Kd.R_far (p := ⟨gb379, 0, none⟩) (Kd.R_types HO_367000.out BK379.out (by decide)) (fun _ hk => hk.2) (.slice Ao120 t371.length co120)) (fun _ hk => hk.2) (.slice Ao125 t374.length co125)) (fun _ hk => hk.2) (.int .i64 t377)) (fun _ hk => hk.2) (.bool t378)) (fun _ h_ => h_.1))) (Kd.R_base ho0) hb); have n4_ := Aside0.mk (Kd.R_elder' (by (with_reducible repeat (first | apply Kd.R_alloc | apply Kd.R_drewN | apply Kd.R_drew)); exact (Kd.R_mono (Kd.R_far (p := ⟨gb379, 3, none⟩) (Kd.R_far (p := ⟨gb379, 2, none⟩) (Kd.R_far (p := ⟨gb379, 1, none⟩) (Kd.R_far (p := ⟨gb379, 0, none⟩) (Kd.R_types HO_367001.out BK379.out (by decide)) (fun _ hk => hk.2) (.slice Ao120 t371.length co120)) (fun _ hk => hk.2) (.slice Ao125 t374.length co125)) (fun _ hk => hk.2) (.int .i64 t377)) (fun _ hk => hk.2) (.bool t378)) (fun _ h_ => h_.1))) (Kd.R_base ho1) hb); have n5_ := Aside0.mk (Kd.R_elder' (by (with_reducible repeat (first | apply Kd.R_alloc | apply Kd.R_drewN | apply Kd.R_drew)); exact (Kd.R_mono (Kd.R_far (p := ⟨gb379, 3, none⟩) (Kd.R_far (p := ⟨gb379, 2, none⟩) (Kd.R_far (p := ⟨gb379, 1, none⟩) (Kd.R_far (p := ⟨gb379, 0, none⟩) (Kd.R_types HO373.out BK379.out (by decide)) (fun _ hk => hk.2) (.slice Ao120 t371.length co120)) (fun _ hk => hk.2) (.slice Ao125 t374.length co125)) (fun _ hk => hk.2) (.int .i64 t377)) (fun _ hk => hk.2) (.bool t378)) (fun _ h_ => h_.1))) (Kd.R_base ho0) hb); have n6_ := Aside0.mk (Kd.R_elder' (by (with_reducible repeat (first | apply Kd.R_alloc | apply Kd.R_drewN | apply Kd.R_drew)); exact (Kd.R_mono (Kd.R_far (p := ⟨gb379, 3, none⟩) (Kd.R_far (p := ⟨gb379, 2, none⟩) (Kd.R_far (p := ⟨gb379, 1, none⟩) (Kd.R_far (p := ⟨gb379, 0, none⟩) (Kd.R_types HO376.out BK379.out (by decide)) (fun _ hk => hk.2) (.slice Ao120 t371.length co120)) (fun _ hk => hk.2) (.slice Ao125 t374.length co125)) (fun _ hk => hk.2) (.int .i64 t377)) (fun _ hk => hk.2) (.bool t378)) (fun _ h_ => h_.1))) (Kd.R_base ho1) hb); have n7_ := Aside0.mk (Kd.R_lower (Kd.R_new' (Kd.R_new' (Kd.R_new' ho0 (Kd.R_lt (by (with_reducible repeat (first | apply Kd.R_alloc | apply Kd.R_drewN | apply Kd.R_drew)); exact (Kd.R_mono (Kd.R_far (p := ⟨gb379, 3, none⟩) (Kd.R_far (p := ⟨gb379, 2, none⟩) (Kd.R_far (p := ⟨gb379, 1, none⟩) (Kd.R_far (p := ⟨gb379, 0, none⟩) (Kd.R_types HO_357000.out BK379.out (by decide)) (fun _ hk => hk.2) (.slice Ao120 t371.length co120)) (fun _ hk => hk.2) (.slice Ao125 t374.length co125)) (fun _ hk => hk.2) (.int .i64 t377)) (fun _ hk => hk.2) (.bool t378)) (fun _ h_ => h_.1))))) (Kd.R_lt (by (with_reducible repeat (first | apply Kd.R_alloc | apply Kd.R_drewN | apply Kd.R_drew)); exact (Kd.R_mono (Kd.R_far (p := ⟨gb379, 3, none⟩) (Kd.R_far (p := ⟨gb379, 2, none⟩) (Kd.R_far (p := ⟨gb379, 1, none⟩) (Kd.R_far (p := ⟨gb379, 0, none⟩) (Kd.R_types HO_367000.out BK379.out (by decide)) (fun _ hk => hk.2) (.slice Ao120 t371.length co120)) (fun _ hk => hk.2) (.slice Ao125 t374.length co125)) (fun _ hk => hk.2) (.int .i64 t377)) (fun _ hk => hk.2) (.bool t378)) (fun _ h_ => h_.1))))) (Kd.R_lt (by (with_reducible repeat (first | apply Kd.R_alloc | apply Kd.R_drewN | apply Kd.R_drew)); exact (Kd.R_mono (Kd.R_far (p := ⟨gb379, 3, none⟩) (Kd.R_far (p := ⟨gb379, 2, none⟩) (Kd.R_far (p := ⟨gb379, 1, none⟩) (Kd.R_far (p := ⟨gb379, 0, none⟩) (Kd.R_types HO373.out BK379.out (by decide)) (fun _ hk => hk.2) (.slice Ao120 t371.length co120)) (fun _ hk => hk.2) (.slice Ao125 t374.length co125)) (fun _ hk => hk.2) (.int .i64 t377)) (fun _ hk => hk.2) (.bool t378)) (fun _ h_ => h_.1))))) (below_size (by repeat (first | (with_reducible first | exact HB.out | apply below_alloc | apply pw_below_drewN | apply below_drew1 | refine below_set ?_ GE345.out | refine below_set ?_ GE356.out | refine below_set ?_ GE366.out | refine below_set ?_ GE379.out) | exact HB.out)))); have n8_ := Aside0.mk (Kd.R_lower (Kd.R_new' (Kd.R_new' (Kd.R_new' ho1 (Kd.R_lt (by (with_reducible repeat (first | apply Kd.R_alloc | apply Kd.R_drewN | apply Kd.R_drew)); exact (Kd.R_mono (Kd.R_far (p := ⟨gb379, 3, none⟩) (Kd.R_far (p := ⟨gb379, 2, none⟩) (Kd.R_far (p := ⟨gb379, 1, none⟩) (Kd.R_far (p := ⟨gb379, 0, none⟩) (Kd.R_types HO_357001.out BK379.out (by decide)) (fun _ hk => hk.2) (.slice Ao120 t371.length co120)) (fun _ hk => hk.2) (.slice Ao125 t374.length co125)) (fun _ hk => hk.2) (.int .i64 t377)) (fun _ hk => hk.2) (.bool t378)) (fun _ h_ => h_.1))))) (Kd.R_lt (by (with_reducible repeat (first | apply Kd.R_alloc | apply Kd.R_drewN | apply Kd.R_drew)); exact (Kd.R_mono (Kd.R_far (p := ⟨gb379, 3, none⟩) (Kd.R_far (p := ⟨gb379, 2, none⟩) (Kd.R_far (p := ⟨gb379, 1, none⟩) (Kd.R_far (p := ⟨gb379, 0, none⟩) (Kd.R_types HO_367001.out BK379.out (by decide)) (fun _ hk => hk.2) (.slice Ao120 t371.length co120)) (fun _ hk => hk.2) (.slice Ao125 t374.length co125)) (fun _ hk => hk.2) (.int .i64 t377)) (fun _ hk => hk.2) (.bool t378)) (fun _ h_ => h_.1))))) (Kd.R_lt (by (with_reducible repeat (first | apply Kd.R_alloc | apply Kd.R_drewN | apply Kd.R_drew)); exact (Kd.R_mono (Kd.R_far (p := ⟨gb379, 3, none⟩) (Kd.R_far (p := ⟨gb379, 2, none⟩) (Kd.R_far (p := ⟨gb379, 1, none⟩) (Kd.R_far (p := ⟨gb379, 0, none⟩) (Kd.R_types HO376.out BK379.out (by decide)) (fun _ hk => hk.2) (.slice Ao120 t371.length co120)) (fun _ hk => hk.2) (.slice Ao125 t374.length co125)) (fun _ hk => hk.2) (.int .i64 t377)) (fun _ hk => hk.2) (.bool t378)) (fun _ h_ => h_.1))))) (below_size (by repeat (first | (with_reducible first | exact HB.out | apply below_alloc | apply pw_below_drewN | apply below_drew1 | refine below_set ?_ GE345.out | refine below_set ?_ GE356.out | refine below_set ?_ GE366.out | refine below_set ?_ GE379.out) | exact HB.out)))); have n9_ := Aside0.mk (blk_below (g := gb345) (o := .cells #[.slice A0_0 l0_0.length c0_0, .slice A0_1 l0_1.length c0_1, .int .i64 a0_2, .bool false] 25 (0, 0)) (by (with_reducible repeat (first | refine blk_drewN ?_ _ | refine blk_drew ?_ | refine blk_alloc ?_ _)); refine blk_far ?_ NB345_379.out _; (with_reducible repeat (first | refine blk_drewN ?_ _ | refine blk_drew ?_ | refine blk_alloc ?_ _)); refine blk_far ?_ NB345_379.out _; (with_reducible repeat (first | refine blk_drewN ?_ _ | refine blk_drew ?_ | refine blk_alloc ?_ _)); refine blk_far ?_ NB345_379.out _; (with_reducible repeat (first | refine blk_drewN ?_ _ | refine blk_drew ?_ | refine blk_alloc ?_ _)); refine blk_far ?_ NB345_379.out _; (with_reducible repeat (first | refine blk_drewN ?_ _ | refine blk_drew ?_ | refine blk_alloc ?_ _)); exact BK345.out) hb); have n10_ := Aside0.mk (blk_below (g := gb356) (o := .cells #[.slice Ao14 t348.length co14, .slice Ao17 t351.length co17, .int .i64 t354, .bool t355] 25 (0, 0)) (by (with_reducible repeat (first | refine blk_drewN ?_ _ | refine blk_drew ?_ | refine blk_alloc ?_ _)); refine blk_far ?_ NB356_379.out _; (with_reducible repeat (first | refine blk_drewN ?_ _ | refine blk_drew ?_ | refine blk_alloc ?_ _)); refine blk_far ?_ NB356_379.out _; (with_reducible repeat (first | refine blk_drewN ?_ _ | refine blk_drew ?_ | refine blk_alloc ?_ _)); refine blk_far ?_ NB356_379.out _; (with_reducible repeat (first | refine blk_drewN ?_ _ | refine blk_drew ?_ | refine blk_alloc ?_ _)); refine blk_far ?_ NB356_379.out _; (with_reducible repeat (first | refine blk_drewN ?_ _ | refine blk_drew ?_ | refine blk_alloc ?_ _)); exact BK356.out) hb); have n11_ := Aside0.mk (blk_below (g := gb366) (o := .cells #[.slice Ao20 t357.length co20, .slice Ao24 t360.length co24, .int .i64 t363, .bool t364] 25 (0, 0)) (by (with_reducible repeat (first | refine blk_drewN ?_ _ | refine blk_drew ?_ | refine blk_alloc ?_ _)); refine blk_far ?_ NB366_379.out _; (with_reducible repeat (first | refine blk_drewN ?_ _ | refine blk_drew ?_ | refine blk_alloc ?_ _)); refine blk_far ?_ NB366_379.out _; (with_reducible repeat (first | refine blk_drewN ?_ _ | refine blk_drew ?_ | refine blk_alloc ?_ _)); refine blk_far ?_ NB366_379.out _; (with_reducible repeat (first | refine blk_drewN ?_ _ | refine blk_drew ?_ | refine blk_alloc ?_ _)); refine blk_far ?_ NB366_379.out _; (with_reducible repeat (first | refine blk_drewN ?_ _ | refine blk_drew ?_ | refine blk_alloc ?_ _)); exact BK366.out) hb); have n12_ := Aside0.mk (blk_below (g := gb379) (o := .cells #[.slice Ao120 t371.length co120, .slice Ao125 t374.length co125, .int .i64 t377, .bool t378] 25 (0, 0)) (by (with_reducible repeat (first | refine blk_drewN ?_ _ | refine blk_drew ?_ | refine blk_alloc ?_ _)); refine blk_put (cs := #[.slice Ao120 t371.length co120, .slice Ao125 t374.length co125, .int .i64 t377, .bool false]) ?_ 3 _ rfl; (with_reducible repeat (first | refine blk_drewN ?_ _ | refine blk_drew ?_ | refine blk_alloc ?_ _)); refine blk_put (cs := #[.slice Ao120 t371.length co120, .slice Ao125 t374.length co125, .int .i64 0, .bool false]) ?_ 2 _ rfl; (with_reducible repeat (first | refine blk_drewN ?_ _ | refine blk_drew ?_ | refine blk_alloc ?_ _)); refine blk_put (cs := #[.slice Ao120 t371.length co120, .slice none 0 0, .int .i64 0, .bool false]) ?_ 1 _ rfl; (with_reducible repeat (first | refine blk_drewN ?_ _ | refine blk_drew ?_ | refine blk_alloc ?_ _)); refine blk_put (cs := #[.slice none 0 0, .slice none 0 0, .int .i64 0, .bool false]) ?_ 0 _ rfl; (with_reducible repeat (first | refine blk_drewN ?_ _ | refine blk_drew ?_ | refine blk_alloc ?_ _)); exact BK379.out) hb); have n13_ := Aside0.mk (below_step (by repeat (first | (with_reducible first | exact HB.out | apply below_alloc | apply pw_below_drewN | apply below_drew1 | refine below_set ?_ GE345.out | refine below_set ?_ GE356.out | refine below_set ?_ GE366.out | refine below_set ?_ GE379.out) | exact HB.out)) hb); clear HO_6; clear HO_357000; clear HO_357001; clear HO_367000; clear HO_367001; clear HO373; clear HO376; clear BK345; clear BK356; clear BK366; clear BK379; clear HB; have HO_6 := n0_; have HO_357000 := n1_; have HO_357001 := n2_; have HO_367000 := n3_; have HO_367001 := n4_; have HO373 := n5_; have HO376 := n6_; have HO382 := n7_; have HO385 := n8_; have BK345 := n9_; have BK356 := n10_; have BK366 := n11_; have BK379 := n12_; have HB := n13_; clear n0_ n1_ n2_ n3_ n4_ n5_ n6_ n7_ n8_ n9_ n10_ n11_ n12_ n13_; (try clear hb); (try clear hb2); (try clear hk); (try clear hi); (try clear ho0); (try clear ho1)))
                        have n0_ := Aside0.mk (Kd.R_drew HO_6.out)
                        have n1_ := Aside0.mk (Kd.R_drew HO_357000.out)
                        have n2_ := Aside0.mk (Kd.R_drew HO_357001.out)
                        have n3_ := Aside0.mk (Kd.R_drew HO_367000.out)
                        have n4_ := Aside0.mk (Kd.R_drew HO_367001.out)
                        have n5_ := Aside0.mk (Kd.R_drew HO373.out)
                        have n6_ := Aside0.mk (Kd.R_drew HO376.out)
                        have n7_ := Aside0.mk (Kd.R_drew HO382.out)
                        have n8_ := Aside0.mk (Kd.R_drew HO385.out)
                        have n9_ := Aside0.mk (blk_drew BK345.out)
                        have n10_ := Aside0.mk (blk_drew BK356.out)
                        have n11_ := Aside0.mk (blk_drew BK366.out)
                        have n12_ := Aside0.mk (blk_drew BK379.out)
                        have n13_ := Aside0.mk (below_drew1 HB.out)
                        clear HO_6
                        clear HO_357000
                        clear HO_357001
                        clear HO_367000
                        clear HO_367001
                        clear HO373
                        clear HO376
                        clear HO382
                        clear HO385
                        clear BK345
                        clear BK356
                        clear BK366
                        clear BK379
                        clear HB
                        have HO_6 := n0_
                        have HO_357000 := n1_
                        have HO_357001 := n2_
                        have HO_367000 := n3_
                        have HO_367001 := n4_
                        have HO373 := n5_
                        have HO376 := n6_
                        have HO382 := n7_
                        have HO385 := n8_
                        have BK345 := n9_
                        have BK356 := n10_
                        have BK366 := n11_
                        have BK379 := n12_
                        have HB := n13_
                        clear n0_ n1_ n2_ n3_ n4_ n5_ n6_ n7_ n8_ n9_ n10_ n11_ n12_ n13_
                        have p388 : 0 ≤ (0 : Int) := (by omega)
                        have q388 : 0 < (l0_0.length : Int) := of_decide_eq_true (by first | (with_reducible assumption) | assumption)
                        obtain ⟨ad388, e388, hx388_0⟩ := Kd.at_string HR0_0.out 0 p388 q388
                        have hw388_0 := hx388_0
                        (try rw [show ((0 : Int)).toNat = 0 from rfl] at hw388_0)
                        (try rw [show 0 * 1 = 0 from rfl] at hw388_0)
                        (try rw [Addr.add_zero'] at hw388_0)
                        cases e388
                        have qi388 : (0 < l0_0.length) = True := eq_true (by omega)
                        (try rw [show ((0 : Int)).toNat = 0 from rfl] at hx388_0)
                        (try rw [Addr.add_zero'] at hx388_0)
                        replace hx388_0 := (HB.out.cell (World.block_lt_of_cell? w _ hx388_0)).trans hx388_0
                        replace p388 := eq_true p388
                        replace q388 := eq_true q388
                        refine start_ (n := 6) (S := fun w' => w'.cell? ⟨gb356, 0, none⟩ = some (.slice Ao14 t348.length co14) ∧ w'.cell? ⟨gb356, 1, none⟩ = some (.slice Ao17 t351.length co17) ∧ w'.cell? ⟨gb356, 2, none⟩ = some (.int .i64 t354) ∧ w'.cell? ⟨gb356, 3, none⟩ = some (.bool t355) ∧ w'.cell? ⟨gb345, 0, none⟩ = some (.slice (some ad388) l0_0.length c0_0) ∧ w'.cell? ⟨gb345, 1, none⟩ = some (.slice A0_1 l0_1.length c0_1) ∧ w'.cell? ⟨gb345, 2, none⟩ = some (.int .i64 a0_2) ∧ w'.cell? ⟨gb345, 3, none⟩ = some (.bool false) ∧ w'.cell? ad388 = some (.string (rdOf ByteArray.empty l0_0 0))) (ds := []) #[false, false, false, false, false, false] (by kernel_rfl) rfl rfl ⟨(blk_cell BK356.out 0).trans rfl, (blk_cell BK356.out 1).trans rfl, (blk_cell BK356.out 2).trans rfl, (blk_cell BK356.out 3).trans rfl, (blk_cell BK345.out 0).trans rfl, (blk_cell BK345.out 1).trans rfl, (blk_cell BK345.out 2).trans rfl, (blk_cell BK345.out 3).trans rfl, ((HB.out.cell (World.block_lt_of_cell? w _ hw388_0)).trans hw388_0)⟩ (fun hHeld => ?_)
                        generalize w127.drew = w128 at HO_6 HO_357000 HO_357001 HO_367000 HO_367001 HO373 HO376 HO382 HO385 BK345 BK356 BK366 BK379 HB hx388_0 hHeld ⊢
                        refine pure_ (i := 1) (N := some 42) (v := ?_) (a' := ?_) #[false, true, false, false, false, false] rfl rfl (by kernel_rfl) (fun _ _ _ h => h) (Or.inl ⟨by rfl, ?_⟩) ?_ ?_
                        rotate_left
                        · intro w'
                          go_simp
                          with_reducible rfl
                        rotate_left
                        · simp only [Act.put, List.setIfInBounds_toArray, List.set_cons_zero, List.set_cons_succ, i64_w, i32_w]
                          rfl
                        refine take_ (i := 0) (N := some 41) (v := ?_) (a' := ?_) #[true, true, false, false, false, false] rfl rfl (by kernel_rfl) (fun _ _ _ h => h) (Or.inl ⟨by rfl, ?_⟩) hHeld ?_ ?_
                        rotate_left
                        · rintro w' ⟨s0, s1, s2, s3, s4, s5, s6, s7, s8⟩
                          go_simp
                          with_reducible rfl
                        rotate_left
                        · simp only [Act.put, List.setIfInBounds_toArray, List.set_cons_zero, List.set_cons_succ, i64_w, i32_w]
                          rfl
                        refine take_ (i := 2) (N := some 43) (v := ?_) (a' := ?_) #[true, true, true, false, false, false] rfl rfl (by kernel_rfl) (fun _ _ _ h => h) (Or.inl ⟨by rfl, ?_⟩) hHeld ?_ ?_
                        rotate_left
                        · rintro w' ⟨s0, s1, s2, s3, s4, s5, s6, s7, s8⟩
                          go_simp
                          with_reducible rfl
                        rotate_left
                        · simp only [Act.put, List.setIfInBounds_toArray, List.set_cons_zero, List.set_cons_succ, i64_w, i32_w]
                          rfl
                        refine pure_ (i := 3) (N := some 44) (v := ?_) (a' := ?_) #[true, true, true, true, false, false] rfl rfl (by kernel_rfl) (fun _ _ _ h => h) (Or.inl ⟨by rfl, ?_⟩) ?_ ?_
                        rotate_left
                        · intro w'
                          go_simp
                          with_reducible rfl
                        rotate_left
                        · simp only [Act.put, List.setIfInBounds_toArray, List.set_cons_zero, List.set_cons_succ, i64_w, i32_w]
                          rfl
                        refine take_ (i := 4) (N := some 45) (v := ?_) (a' := ?_) #[true, true, true, true, true, false] rfl rfl (by kernel_rfl) (fun _ _ _ h => h) (Or.inl ⟨by rfl, ?_⟩) hHeld ?_ ?_
                        rotate_left
                        · rintro w' ⟨s0, s1, s2, s3, s4, s5, s6, s7, s8⟩
                          go_simp
                          with_reducible rfl
                        rotate_left
                        · simp only [Act.put, List.setIfInBounds_toArray, List.set_cons_zero, List.set_cons_succ, i64_w, i32_w]
                          rfl
                        refine one_ (i := 5) (N := some 46) #[true, true, true, true, true, true] rfl rfl (by kernel_rfl) (by decide) (fun K hK => ?_)
                        refine goes_ Try.func13 (by kernel_rfl) rfl #[.agg #[.slice Ao14 t348.length co14, .slice Ao17 t351.length co17, .int .i64 t354, .bool t355], .int .i64 0, .string (rdOf ByteArray.empty l0_0 0)] (by rfl) rfl rfl (by (try simp only [List.map_toArray, List.map_cons, List.map_nil]); first | done | rfl | (simp only [List.length_drop, List.length_take]; rfl)) ?_
                        with_reducible refine (dev_Write.calls k1 _ _ t348 _ _ t351 t354 t355 0 (rdOf ByteArray.empty l0_0 0) t389 t392 t395 t396 t397 _ ?side1 ?side2 ?side3 ?side4 A38.out).mono ?_
                        (case side1 => repeat (first | exact (Kd.R_reads' HO_357000.out).2.2 | (with_reducible refine Kd.C_alloc ?_ _) | (with_reducible refine Kd.C_drewN ?_ _) | (with_reducible refine Kd.C_drew ?_)))
                        (case side2 => exact (Kd.R_reads' HO_357000.out).2.1)
                        (case side3 => repeat (first | exact (Kd.R_reads' HO_357001.out).2.2 | (with_reducible refine Kd.C_alloc ?_ _) | (with_reducible refine Kd.C_drewN ?_ _) | (with_reducible refine Kd.C_drew ?_)))
                        (case side4 => exact (Kd.R_reads' HO_357001.out).2.1)
                        rintro e w129 ⟨v390, v393, rfl, ho0, ho1, hb⟩
                        refine ⟨_, rfl, ?_⟩
                        have n0_ := Aside0.mk (Kd.R_below (by (with_reducible repeat (first | apply Kd.R_alloc | apply Kd.R_drewN | apply Kd.R_drew)); exact HO_6.out) hb)
                        have n1_ := Aside0.mk (Kd.R_elder' (by (with_reducible repeat (first | apply Kd.R_alloc | apply Kd.R_drewN | apply Kd.R_drew)); exact HO_357000.out) (Kd.R_base ho0) hb)
                        have n2_ := Aside0.mk (Kd.R_elder' (by (with_reducible repeat (first | apply Kd.R_alloc | apply Kd.R_drewN | apply Kd.R_drew)); exact HO_357001.out) (Kd.R_base ho1) hb)
                        have n3_ := Aside0.mk (Kd.R_elder' (by (with_reducible repeat (first | apply Kd.R_alloc | apply Kd.R_drewN | apply Kd.R_drew)); exact HO_367000.out) (Kd.R_base ho0) hb)
                        have n4_ := Aside0.mk (Kd.R_elder' (by (with_reducible repeat (first | apply Kd.R_alloc | apply Kd.R_drewN | apply Kd.R_drew)); exact HO_367001.out) (Kd.R_base ho1) hb)
                        have n5_ := Aside0.mk (Kd.R_elder' (by (with_reducible repeat (first | apply Kd.R_alloc | apply Kd.R_drewN | apply Kd.R_drew)); exact HO373.out) (Kd.R_base ho0) hb)
                        have n6_ := Aside0.mk (Kd.R_elder' (by (with_reducible repeat (first | apply Kd.R_alloc | apply Kd.R_drewN | apply Kd.R_drew)); exact HO376.out) (Kd.R_base ho1) hb)
                        have n7_ := Aside0.mk (Kd.R_elder' (by (with_reducible repeat (first | apply Kd.R_alloc | apply Kd.R_drewN | apply Kd.R_drew)); exact HO382.out) (Kd.R_base ho0) hb)
                        have n8_ := Aside0.mk (Kd.R_elder' (by (with_reducible repeat (first | apply Kd.R_alloc | apply Kd.R_drewN | apply Kd.R_drew)); exact HO385.out) (Kd.R_base ho1) hb)
                        have n9_ := Aside0.mk (Kd.R_lower (Kd.R_new' (Kd.R_new' (Kd.R_new' (Kd.R_new' ho0 (Kd.R_lt (by (with_reducible repeat (first | apply Kd.R_alloc | apply Kd.R_drewN | apply Kd.R_drew)); exact HO_357000.out))) (Kd.R_lt (by (with_reducible repeat (first | apply Kd.R_alloc | apply Kd.R_drewN | apply Kd.R_drew)); exact HO_367000.out))) (Kd.R_lt (by (with_reducible repeat (first | apply Kd.R_alloc | apply Kd.R_drewN | apply Kd.R_drew)); exact HO373.out))) (Kd.R_lt (by (with_reducible repeat (first | apply Kd.R_alloc | apply Kd.R_drewN | apply Kd.R_drew)); exact HO382.out))) (below_size (by repeat (first | (with_reducible first | exact HB.out | apply below_alloc | apply pw_below_drewN | apply below_drew1 | refine below_set ?_ GE345.out | refine below_set ?_ GE356.out | refine below_set ?_ GE366.out | refine below_set ?_ GE379.out) | exact HB.out))))
                        have n10_ := Aside0.mk (Kd.R_lower (Kd.R_new' (Kd.R_new' (Kd.R_new' (Kd.R_new' ho1 (Kd.R_lt (by (with_reducible repeat (first | apply Kd.R_alloc | apply Kd.R_drewN | apply Kd.R_drew)); exact HO_357001.out))) (Kd.R_lt (by (with_reducible repeat (first | apply Kd.R_alloc | apply Kd.R_drewN | apply Kd.R_drew)); exact HO_367001.out))) (Kd.R_lt (by (with_reducible repeat (first | apply Kd.R_alloc | apply Kd.R_drewN | apply Kd.R_drew)); exact HO376.out))) (Kd.R_lt (by (with_reducible repeat (first | apply Kd.R_alloc | apply Kd.R_drewN | apply Kd.R_drew)); exact HO385.out))) (below_size (by repeat (first | (with_reducible first | exact HB.out | apply below_alloc | apply pw_below_drewN | apply below_drew1 | refine below_set ?_ GE345.out | refine below_set ?_ GE356.out | refine below_set ?_ GE366.out | refine below_set ?_ GE379.out) | exact HB.out))))
                        have n11_ := Aside0.mk (blk_below (g := gb345) (o := .cells #[.slice (some ad388) l0_0.length c0_0, .slice A0_1 l0_1.length c0_1, .int .i64 a0_2, .bool false] 25 (0, 0)) (by (with_reducible repeat (first | refine blk_drewN ?_ _ | refine blk_drew ?_ | refine blk_alloc ?_ _)); exact BK345.out) hb)
                        have n12_ := Aside0.mk (blk_below (g := gb356) (o := .cells #[.slice Ao14 t348.length co14, .slice Ao17 t351.length co17, .int .i64 t354, .bool t355] 25 (0, 0)) (by (with_reducible repeat (first | refine blk_drewN ?_ _ | refine blk_drew ?_ | refine blk_alloc ?_ _)); exact BK356.out) hb)
                        have n13_ := Aside0.mk (blk_below (g := gb366) (o := .cells #[.slice Ao20 t357.length co20, .slice Ao24 t360.length co24, .int .i64 t363, .bool t364] 25 (0, 0)) (by (with_reducible repeat (first | refine blk_drewN ?_ _ | refine blk_drew ?_ | refine blk_alloc ?_ _)); exact BK366.out) hb)
                        have n14_ := Aside0.mk (blk_below (g := gb379) (o := .cells #[.slice Ao120 t371.length co120, .slice Ao125 t374.length co125, .int .i64 t377, .bool t378] 25 (0, 0)) (by (with_reducible repeat (first | refine blk_drewN ?_ _ | refine blk_drew ?_ | refine blk_alloc ?_ _)); exact BK379.out) hb)
                        have n15_ := Aside0.mk (below_step (by repeat (first | (with_reducible first | exact HB.out | apply below_alloc | apply pw_below_drewN | apply below_drew1 | refine below_set ?_ GE345.out | refine below_set ?_ GE356.out | refine below_set ?_ GE366.out | refine below_set ?_ GE379.out) | exact HB.out)) hb)
                        clear HO_6
                        clear HO_357000
                        clear HO_357001
                        clear HO_367000
                        clear HO_367001
                        clear HO373
                        clear HO376
                        clear HO382
                        clear HO385
                        clear BK345
                        clear BK356
                        clear BK366
                        clear BK379
                        clear HB
                        have HO_6 := n0_
                        have HO_357000 := n1_
                        have HO_357001 := n2_
                        have HO_367000 := n3_
                        have HO_367001 := n4_
                        have HO373 := n5_
                        have HO376 := n6_
                        have HO382 := n7_
                        have HO385 := n8_
                        have HO391 := n9_
                        have HO394 := n10_
                        have BK345 := n11_
                        have BK356 := n12_
                        have BK366 := n13_
                        have BK379 := n14_
                        have HB := n15_
                        clear n0_ n1_ n2_ n3_ n4_ n5_ n6_ n7_ n8_ n9_ n10_ n11_ n12_ n13_ n14_ n15_
                        (try clear hb)
                        (try clear hb2)
                        (try clear hk)
                        (try clear hi)
                        (try clear ho0)
                        (try clear ho1)
                        refine hK.out _ _ ⟨(blk_cell BK356.out 0).trans rfl, (blk_cell BK356.out 1).trans rfl, (blk_cell BK356.out 2).trans rfl, (blk_cell BK356.out 3).trans rfl, (blk_cell BK345.out 0).trans rfl, (blk_cell BK345.out 1).trans rfl, (blk_cell BK345.out 2).trans rfl, (blk_cell BK345.out 3).trans rfl, ((HB.out.cell (World.block_lt_of_cell? w _ hw388_0)).trans hw388_0)⟩ (fun hHeld => ?_)
                        clear hK K
                        refine norm_ (a' := ?_) ?_ ?_
                        rotate_left
                        · show Act.put _ (some 46) _ = _
                          simp only [Act.put, List.setIfInBounds_toArray, List.set_cons_zero, List.set_cons_succ, i64_w, i32_w]
                          rfl
                        refine done_ (by kernel_rfl) ?_
                        have hcz130_0 : w129.cell? ⟨gb356, 0, none⟩ = some (.slice Ao14 t348.length co14) := (blk_cell BK356.out 0).trans rfl
                        have hcz130_1 : w129.cell? ⟨gb356, 1, none⟩ = some (.slice Ao17 t351.length co17) := (blk_cell BK356.out 1).trans rfl
                        have hcz130_2 : w129.cell? ⟨gb356, 2, none⟩ = some (.int .i64 t354) := (blk_cell BK356.out 2).trans rfl
                        have hcz130_3 : w129.cell? ⟨gb356, 3, none⟩ = some (.bool t355) := (blk_cell BK356.out 3).trans rfl
                        have hfz130_0 := blk_frozen BK356.out 0
                        have hfz130_1 := blk_frozen BK356.out 1
                        have hfz130_2 := blk_frozen BK356.out 2
                        have hfz130_3 := blk_frozen BK356.out 3
                        have hnb131 := NB345_366.out
                        have hnc131 := NB366_345.out
                        have hcz132_0 : w129.cell? ⟨gb345, 0, none⟩ = some (.slice (some ad388) l0_0.length c0_0) := (blk_cell BK345.out 0).trans rfl
                        have hcz132_1 : w129.cell? ⟨gb345, 1, none⟩ = some (.slice A0_1 l0_1.length c0_1) := (blk_cell BK345.out 1).trans rfl
                        have hcz132_2 : w129.cell? ⟨gb345, 2, none⟩ = some (.int .i64 a0_2) := (blk_cell BK345.out 2).trans rfl
                        have hcz132_3 : w129.cell? ⟨gb345, 3, none⟩ = some (.bool false) := (blk_cell BK345.out 3).trans rfl
                        have hfz132_0 := blk_frozen BK345.out 0
                        have hfz132_1 := blk_frozen BK345.out 1
                        have hfz132_2 := blk_frozen BK345.out 2
                        have hfz132_3 := blk_frozen BK345.out 3
                        try go_wp2_with (first | ((with_reducible refine gate_callee (f := 14) rfl ?_); refine goesL_ (some 49) rfl rfl Try.func14 (by kernel_rfl) rfl #[.agg #[.slice Ao14 t348.length co14, .slice Ao17 t351.length co17, .int .i64 t354, .bool t355], .agg #[.slice (some ad388) l0_0.length c0_0, .slice A0_1 l0_1.length c0_1, .int .i64 a0_2, .bool false]] rfl (by (try simp only [List.map_toArray, List.map_cons, List.map_nil]); first | done | rfl | (simp only [List.length_drop, List.length_take]; rfl)) ?_; (with_reducible refine (almanacref02_Same.calls k1 _ _ t348 _ _ t351 t354 t355 _ _ l0_0 _ _ l0_1 a0_2 false true _ ?side1 ?side2 ?side3 ?side4 ?side5 ?side6 ?side7 ?side8 A39.out).mono ?_); (case side1 => repeat (first | exact (Kd.R_reads' HO_357000.out).2.2 | (with_reducible refine Kd.C_alloc ?_ _) | (with_reducible refine Kd.C_drewN ?_ _) | (with_reducible refine Kd.C_drew ?_))); (case side2 => exact (Kd.R_reads' HO_357000.out).2.1); (case side3 => repeat (first | exact (Kd.R_reads' HO_357001.out).2.2 | (with_reducible refine Kd.C_alloc ?_ _) | (with_reducible refine Kd.C_drewN ?_ _) | (with_reducible refine Kd.C_drew ?_))); (case side4 => exact (Kd.R_reads' HO_357001.out).2.1); (case side5 => repeat (first | exact (Kd.C_below HR0_0.out HB.out) | (with_reducible refine Kd.C_alloc ?_ _) | (with_reducible refine Kd.C_drewN ?_ _) | (with_reducible refine Kd.C_drew ?_))); (case side6 => exact HC0_0.out); (case side7 => repeat (first | exact (Kd.C_below HR0_1.out HB.out) | (with_reducible refine Kd.C_alloc ?_ _) | (with_reducible refine Kd.C_drewN ?_ _) | (with_reducible refine Kd.C_drew ?_))); (case side8 => exact HC0_1.out); rintro e w133 ⟨rfl, hb⟩; refine ⟨_, rfl, ?_⟩; have n0_ := Aside0.mk (Kd.R_below (by (with_reducible repeat (first | apply Kd.R_alloc | apply Kd.R_drewN | apply Kd.R_drew)); exact HO_6.out) hb); have n1_ := Aside0.mk (Kd.R_below (by (with_reducible repeat (first | apply Kd.R_alloc | apply Kd.R_drewN | apply Kd.R_drew)); exact HO_357000.out) hb); have n2_ := Aside0.mk (Kd.R_below (by (with_reducible repeat (first | apply Kd.R_alloc | apply Kd.R_drewN | apply Kd.R_drew)); exact HO_357001.out) hb); have n3_ := Aside0.mk (Kd.R_below (by (with_reducible repeat (first | apply Kd.R_alloc | apply Kd.R_drewN | apply Kd.R_drew)); exact HO_367000.out) hb); have n4_ := Aside0.mk (Kd.R_below (by (with_reducible repeat (first | apply Kd.R_alloc | apply Kd.R_drewN | apply Kd.R_drew)); exact HO_367001.out) hb); have n5_ := Aside0.mk (Kd.R_below (by (with_reducible repeat (first | apply Kd.R_alloc | apply Kd.R_drewN | apply Kd.R_drew)); exact HO373.out) hb); have n6_ := Aside0.mk (Kd.R_below (by (with_reducible repeat (first | apply Kd.R_alloc | apply Kd.R_drewN | apply Kd.R_drew)); exact HO376.out) hb); have n7_ := Aside0.mk (Kd.R_below (by (with_reducible repeat (first | apply Kd.R_alloc | apply Kd.R_drewN | apply Kd.R_drew)); exact HO382.out) hb); have n8_ := Aside0.mk (Kd.R_below (by (with_reducible repeat (first | apply Kd.R_alloc | apply Kd.R_drewN | apply Kd.R_drew)); exact HO385.out) hb); have n9_ := Aside0.mk (Kd.R_below (by (with_reducible repeat (first | apply Kd.R_alloc | apply Kd.R_drewN | apply Kd.R_drew)); exact HO391.out) hb); have n10_ := Aside0.mk (Kd.R_below (by (with_reducible repeat (first | apply Kd.R_alloc | apply Kd.R_drewN | apply Kd.R_drew)); exact HO394.out) hb); have n11_ := Aside0.mk (blk_below (g := gb345) (o := .cells #[.slice (some ad388) l0_0.length c0_0, .slice A0_1 l0_1.length c0_1, .int .i64 a0_2, .bool false] 25 (0, 0)) (by (with_reducible repeat (first | refine blk_drewN ?_ _ | refine blk_drew ?_ | refine blk_alloc ?_ _)); exact BK345.out) hb); have n12_ := Aside0.mk (blk_below (g := gb356) (o := .cells #[.slice Ao14 t348.length co14, .slice Ao17 t351.length co17, .int .i64 t354, .bool t355] 25 (0, 0)) (by (with_reducible repeat (first | refine blk_drewN ?_ _ | refine blk_drew ?_ | refine blk_alloc ?_ _)); exact BK356.out) hb); have n13_ := Aside0.mk (blk_below (g := gb366) (o := .cells #[.slice Ao20 t357.length co20, .slice Ao24 t360.length co24, .int .i64 t363, .bool t364] 25 (0, 0)) (by (with_reducible repeat (first | refine blk_drewN ?_ _ | refine blk_drew ?_ | refine blk_alloc ?_ _)); exact BK366.out) hb); have n14_ := Aside0.mk (blk_below (g := gb379) (o := .cells #[.slice Ao120 t371.length co120, .slice Ao125 t374.length co125, .int .i64 t377, .bool t378] 25 (0, 0)) (by (with_reducible repeat (first | refine blk_drewN ?_ _ | refine blk_drew ?_ | refine blk_alloc ?_ _)); exact BK379.out) hb); have n15_ := Aside0.mk (below_step (by repeat (first | (with_reducible first | exact HB.out | apply below_alloc | apply pw_below_drewN | apply below_drew1 | refine below_set ?_ GE345.out | refine below_set ?_ GE356.out | refine below_set ?_ GE366.out | refine below_set ?_ GE379.out) | exact HB.out)) hb); clear HO_6; clear HO_357000; clear HO_357001; clear HO_367000; clear HO_367001; clear HO373; clear HO376; clear HO382; clear HO385; clear HO391; clear HO394; clear BK345; clear BK356; clear BK366; clear BK379; clear HB; have HO_6 := n0_; have HO_357000 := n1_; have HO_357001 := n2_; have HO_367000 := n3_; have HO_367001 := n4_; have HO373 := n5_; have HO376 := n6_; have HO382 := n7_; have HO385 := n8_; have HO391 := n9_; have HO394 := n10_; have BK345 := n11_; have BK356 := n12_; have BK366 := n13_; have BK379 := n14_; have HB := n15_; clear n0_ n1_ n2_ n3_ n4_ n5_ n6_ n7_ n8_ n9_ n10_ n11_ n12_ n13_ n14_ n15_; (try clear hb); (try clear hb2); (try clear hk); (try clear hi); have hcz134_0 : w133.cell? ⟨gb345, 0, none⟩ = some (.slice (some ad388) l0_0.length c0_0) := (blk_cell BK345.out 0).trans rfl; have hcz134_1 : w133.cell? ⟨gb345, 1, none⟩ = some (.slice A0_1 l0_1.length c0_1) := (blk_cell BK345.out 1).trans rfl; have hcz134_2 : w133.cell? ⟨gb345, 2, none⟩ = some (.int .i64 a0_2) := (blk_cell BK345.out 2).trans rfl; have hcz134_3 : w133.cell? ⟨gb345, 3, none⟩ = some (.bool false) := (blk_cell BK345.out 3).trans rfl; have hfz134_0 := blk_frozen BK345.out 0; have hfz134_1 := blk_frozen BK345.out 1; have hfz134_2 := blk_frozen BK345.out 2; have hfz134_3 := blk_frozen BK345.out 3) | (go_at_call 8; (with_reducible refine (almanaclaw02_awake.calls k1  t400 _ A114.out).mono ?_); rintro e w135 ⟨rfl, hb⟩; have n0_ := Aside0.mk (Kd.R_below (by (with_reducible repeat (first | apply Kd.R_alloc | apply Kd.R_drewN | apply Kd.R_drew)); exact HO_6.out) hb); have n1_ := Aside0.mk (Kd.R_below (by (with_reducible repeat (first | apply Kd.R_alloc | apply Kd.R_drewN | apply Kd.R_drew)); exact HO_357000.out) hb); have n2_ := Aside0.mk (Kd.R_below (by (with_reducible repeat (first | apply Kd.R_alloc | apply Kd.R_drewN | apply Kd.R_drew)); exact HO_357001.out) hb); have n3_ := Aside0.mk (Kd.R_below (by (with_reducible repeat (first | apply Kd.R_alloc | apply Kd.R_drewN | apply Kd.R_drew)); exact HO_367000.out) hb); have n4_ := Aside0.mk (Kd.R_below (by (with_reducible repeat (first | apply Kd.R_alloc | apply Kd.R_drewN | apply Kd.R_drew)); exact HO_367001.out) hb); have n5_ := Aside0.mk (Kd.R_below (by (with_reducible repeat (first | apply Kd.R_alloc | apply Kd.R_drewN | apply Kd.R_drew)); exact HO373.out) hb); have n6_ := Aside0.mk (Kd.R_below (by (with_reducible repeat (first | apply Kd.R_alloc | apply Kd.R_drewN | apply Kd.R_drew)); exact HO376.out) hb); have n7_ := Aside0.mk (Kd.R_below (by (with_reducible repeat (first | apply Kd.R_alloc | apply Kd.R_drewN | apply Kd.R_drew)); exact HO382.out) hb); have n8_ := Aside0.mk (Kd.R_below (by (with_reducible repeat (first | apply Kd.R_alloc | apply Kd.R_drewN | apply Kd.R_drew)); exact HO385.out) hb); have n9_ := Aside0.mk (Kd.R_below (by (with_reducible repeat (first | apply Kd.R_alloc | apply Kd.R_drewN | apply Kd.R_drew)); exact HO391.out) hb); have n10_ := Aside0.mk (Kd.R_below (by (with_reducible repeat (first | apply Kd.R_alloc | apply Kd.R_drewN | apply Kd.R_drew)); exact HO394.out) hb); have n11_ := Aside0.mk (blk_below (g := gb345) (o := .cells #[.slice (some ad388) l0_0.length c0_0, .slice A0_1 l0_1.length c0_1, .int .i64 a0_2, .bool false] 25 (0, 0)) (by (with_reducible repeat (first | refine blk_drewN ?_ _ | refine blk_drew ?_ | refine blk_alloc ?_ _)); exact BK345.out) hb); have n12_ := Aside0.mk (blk_below (g := gb356) (o := .cells #[.slice Ao14 t348.length co14, .slice Ao17 t351.length co17, .int .i64 t354, .bool t355] 25 (0, 0)) (by (with_reducible repeat (first | refine blk_drewN ?_ _ | refine blk_drew ?_ | refine blk_alloc ?_ _)); exact BK356.out) hb); have n13_ := Aside0.mk (blk_below (g := gb366) (o := .cells #[.slice Ao20 t357.length co20, .slice Ao24 t360.length co24, .int .i64 t363, .bool t364] 25 (0, 0)) (by (with_reducible repeat (first | refine blk_drewN ?_ _ | refine blk_drew ?_ | refine blk_alloc ?_ _)); exact BK366.out) hb); have n14_ := Aside0.mk (blk_below (g := gb379) (o := .cells #[.slice Ao120 t371.length co120, .slice Ao125 t374.length co125, .int .i64 t377, .bool t378] 25 (0, 0)) (by (with_reducible repeat (first | refine blk_drewN ?_ _ | refine blk_drew ?_ | refine blk_alloc ?_ _)); exact BK379.out) hb); have n15_ := Aside0.mk (below_step (by repeat (first | (with_reducible first | exact HB.out | apply below_alloc | apply pw_below_drewN | apply below_drew1 | refine below_set ?_ GE345.out | refine below_set ?_ GE356.out | refine below_set ?_ GE366.out | refine below_set ?_ GE379.out) | exact HB.out)) hb); clear HO_6; clear HO_357000; clear HO_357001; clear HO_367000; clear HO_367001; clear HO373; clear HO376; clear HO382; clear HO385; clear HO391; clear HO394; clear BK345; clear BK356; clear BK366; clear BK379; clear HB; have HO_6 := n0_; have HO_357000 := n1_; have HO_357001 := n2_; have HO_367000 := n3_; have HO_367001 := n4_; have HO373 := n5_; have HO376 := n6_; have HO382 := n7_; have HO385 := n8_; have HO391 := n9_; have HO394 := n10_; have BK345 := n11_; have BK356 := n12_; have BK366 := n13_; have BK379 := n14_; have HB := n15_; clear n0_ n1_ n2_ n3_ n4_ n5_ n6_ n7_ n8_ n9_ n10_ n11_ n12_ n13_ n14_ n15_; (try clear hb); (try clear hb2); (try clear hk); (try clear hi)))
                        go_ret
                        exact ⟨by first | rfl | (simp [errW_none, errW_some] <;> rfl) | (simp [*, errW_none, errW_some] <;> rfl), by repeat (first | (with_reducible first | exact HB.out | apply below_alloc | apply pw_below_drewN | apply below_drew1 | refine below_set ?_ GE345.out | refine below_set ?_ GE356.out | refine below_set ?_ GE366.out | refine below_set ?_ GE379.out) | exact HB.out)⟩
                      · rw [if_neg c113] at H
                        have c113b0 : (a0_2 == 0) = false := beq_eq_false_iff_ne.mpr c113
                        have c113b1 : (a0_2 != 0) = true := bne_iff_ne.mpr c113
                        exact absurd ((Option.some.inj H).trans HRT.out) (by decide)
                · replace c40 := Bool.eq_false_iff.mpr c40
                  subst c40
                  have H1 : (some false) = some r := by rw [if_neg (show ¬ (false = true) by decide)] at H; exact H
                  clear H
                  have H := H1
                  clear H1
                  exact absurd ((Option.some.inj H).trans HRT.out) (by decide)
              · rw [if_neg c37] at H
                exact absurd H (by simp)
      · rw [if_neg c7] at H
        exact absurd H (by simp)
    · rw [if_neg c6] at H
      exact absurd H (by simp)
  · replace c3 := Bool.eq_false_iff.mpr c3
    subst c3
    have H1 : ((almanaclaw02_awake.f k).bind fun t347 => (some t347)) = some r := by rw [if_neg (show ¬ (false = true) by decide)] at H; exact H
    clear H
    have H := H1
    clear H1
    replace H := Option.bind_eq_some_iff.mp H
    obtain ⟨t347, A1360, H⟩ := H
    replace H : (some t347) = some r := H
    have A136 := Aside0.mk A1360
    clear A1360
    obtain rfl := Option.some.inj H
    go_enter Try.func3, Try.ntmps3
    go_wp2_with (first | ((with_reducible refine gate_dst (N := 1) rfl ?_); (try (refine gate_guard (by rfl) ?_; dsimp only)); refine box_event ?hg (N := 1) ?hd (cs := #[.slice A0_0 l0_0.length c0_0, .slice A0_1 l0_1.length c0_1, .int .i64 a0_2, .bool a0_3]) (t := 25) ?hr ?_; (case hd => rfl); (case hg => rfl); (case hr => first | (go_simp; done) | (go_simp; rfl)); intro gb345 hg w137 hbox hb; have n0_ := Aside0.mk (below_step (by repeat (first | (with_reducible first | exact HB.out | apply below_alloc | apply pw_below_drewN | apply below_drew1) | exact HB.out)) hb); have n1_ := Aside0.mk (hbox); have n2_ := Aside0.mk ((by rw [hg]; exact (below_size (by repeat (first | (with_reducible first | exact HB.out | apply below_alloc | apply pw_below_drewN | apply below_drew1) | exact HB.out))) : w.heap.size ≤ gb345)); have n3_ := Aside0.mk ((by rw [hg]; exact (below_size (by repeat (first | (with_reducible first | exact HB.out | apply below_alloc | apply pw_below_drewN | apply below_drew1) | exact HB.out))) : w.heap.size ≤ gb345)); clear HB; have HB := n0_; have BK345 := n1_; have GW345 := n2_; have GE345 := n3_; clear n0_ n1_ n2_ n3_; clear hb hbox hg; have hcz138_0 : w137.cell? ⟨gb345, 0, none⟩ = some (.slice A0_0 l0_0.length c0_0) := (blk_cell BK345.out 0).trans rfl; have hcz138_1 : w137.cell? ⟨gb345, 1, none⟩ = some (.slice A0_1 l0_1.length c0_1) := (blk_cell BK345.out 1).trans rfl; have hcz138_2 : w137.cell? ⟨gb345, 2, none⟩ = some (.int .i64 a0_2) := (blk_cell BK345.out 2).trans rfl; have hcz138_3 : w137.cell? ⟨gb345, 3, none⟩ = some (.bool a0_3) := (blk_cell BK345.out 3).trans rfl; have hfz138_0 := blk_frozen BK345.out 0; have hfz138_1 := blk_frozen BK345.out 1; have hfz138_2 := blk_frozen BK345.out 2; have hfz138_3 := blk_frozen BK345.out 3) | ((with_reducible refine gate_callee (f := 7) rfl ?_); refine goesL_ (some 13) rfl rfl Try.func7 (by kernel_rfl) rfl #[.agg #[.slice A0_0 l0_0.length c0_0, .slice A0_1 l0_1.length c0_1, .int .i64 a0_2, .bool a0_3]] rfl (by (try simp only [List.map_toArray, List.map_cons, List.map_nil]); first | done | rfl | (simp only [List.length_drop, List.length_take]; rfl)) ?_; (with_reducible refine (almanacref02_Fit.calls k _ _ l0_0 _ _ l0_1 a0_2 a0_3 false _ ?side1 ?side2 ?side3 ?side4 A2.out).mono ?_); (case side1 => repeat (first | exact (Kd.C_below HR0_0.out HB.out) | (with_reducible refine Kd.C_alloc ?_ _) | (with_reducible refine Kd.C_drewN ?_ _) | (with_reducible refine Kd.C_drew ?_))); (case side2 => exact HC0_0.out); (case side3 => repeat (first | exact (Kd.C_below HR0_1.out HB.out) | (with_reducible refine Kd.C_alloc ?_ _) | (with_reducible refine Kd.C_drewN ?_ _) | (with_reducible refine Kd.C_drew ?_))); (case side4 => exact HC0_1.out); rintro e w139 ⟨rfl, hb⟩; refine ⟨_, rfl, ?_⟩; have n0_ := Aside0.mk (blk_below (g := gb345) (o := .cells #[.slice A0_0 l0_0.length c0_0, .slice A0_1 l0_1.length c0_1, .int .i64 a0_2, .bool a0_3] 25 (0, 0)) (by (with_reducible repeat (first | refine blk_drewN ?_ _ | refine blk_drew ?_ | refine blk_alloc ?_ _)); exact BK345.out) hb); have n1_ := Aside0.mk (below_step (by repeat (first | (with_reducible first | exact HB.out | apply below_alloc | apply pw_below_drewN | apply below_drew1 | refine below_set ?_ GE345.out) | exact HB.out)) hb); clear BK345; clear HB; have BK345 := n0_; have HB := n1_; clear n0_ n1_; (try clear hb); (try clear hb2); (try clear hk); (try clear hi)) | ((with_reducible refine gate_callee (f := 8) rfl ?_); refine goesL_ (some 15) rfl rfl Try.func8 (by kernel_rfl) rfl #[] rfl (by (try simp only [List.map_toArray, List.map_cons, List.map_nil]); first | done | rfl | (simp only [List.length_drop, List.length_take]; rfl)) ?_; (with_reducible refine (almanaclaw02_awake.calls k  t347 _ A136.out).mono ?_); rintro e w140 ⟨rfl, hb⟩; refine ⟨_, rfl, ?_⟩; have n0_ := Aside0.mk (blk_below (g := gb345) (o := .cells #[.slice A0_0 l0_0.length c0_0, .slice A0_1 l0_1.length c0_1, .int .i64 a0_2, .bool a0_3] 25 (0, 0)) (by (with_reducible repeat (first | refine blk_drewN ?_ _ | refine blk_drew ?_ | refine blk_alloc ?_ _)); exact BK345.out) hb); have n1_ := Aside0.mk (below_step (by repeat (first | (with_reducible first | exact HB.out | apply below_alloc | apply pw_below_drewN | apply below_drew1 | refine below_set ?_ GE345.out) | exact HB.out)) hb); clear BK345; clear HB; have BK345 := n0_; have HB := n1_; clear n0_ n1_; (try clear hb); (try clear hb2); (try clear hk); (try clear hi)))
    go_ret
    exact ⟨by first | rfl | (simp [errW_none, errW_some] <;> rfl) | (simp [*, errW_none, errW_some] <;> rfl), by repeat (first | (with_reducible first | exact HB.out | apply below_alloc | apply pw_below_drewN | apply below_drew1 | refine below_set ?_ GE345.out) | exact HB.out)⟩

end Go.Proofs.Ytaocplhijfkicaa.PD
/- Plain lemmas on loops that go through a list. -/
namespace Go.Proofs.Ytaocplhijfkicaa.PD
open Go.RowKit Go.Proofs.YtaocplhijfkicaaW.PrintWords Go.Proofs.YtaocplhijfkicaaW.PrintLast Go.Proofs.YtaocplhijfkicaaW.PrintMore
def allFrom (p : Nat → Bool) : Nat → Nat → Bool
  | _, 0 => true
  | i, d + 1 => p i && allFrom p (i + 1) d
theorem allFrom_congr {p q : Nat → Bool} : ∀ (d i : Nat), (∀ j, i ≤ j → j < i + d → p j = q j) → allFrom p i d = allFrom q i d
  | 0, _, _ => rfl
  | d + 1, i, h => by
    simp only [allFrom]
    rw [h i (Nat.le_refl _) (by omega), allFrom_congr d (i + 1) (fun j h1 h2 => h j (by omega) (by omega))]
theorem allFrom_true (i d : Nat) : allFrom (fun _ => true) i d = true := by
  induction d generalizing i with
  | zero => rfl
  | succ d ih => simp only [allFrom, ih, Bool.and_self]
theorem allFrom_and (p q : Nat → Bool) : ∀ (d i : Nat), allFrom (fun j => p j && q j) i d = (allFrom p i d && allFrom q i d)
  | 0, _ => rfl
  | d + 1, i => by
    simp only [allFrom, allFrom_and p q d (i + 1)]
    cases p i <;> cases q i <;> simp
theorem allFrom_iff (p : Nat → Bool) : ∀ (d i : Nat), allFrom p i d = true ↔ ∀ j, i ≤ j → j < i + d → p j = true
  | 0, i => by simp [allFrom]; intro j h1 h2; omega
  | d + 1, i => by
    simp only [allFrom, Bool.and_eq_true, allFrom_iff p d (i + 1)]
    constructor
    · rintro ⟨h, h'⟩ j h1 h2
      rcases Nat.eq_or_lt_of_le h1 with rfl | h3
      · exact h
      · exact h' j h3 (by omega)
    · intro h
      exact ⟨h i (Nat.le_refl _) (by omega), fun j h1 h2 => h j (by omega) (by omega)⟩
theorem allFrom_list {α : Type} (q : α → Bool) (z : α) (l : List α) : allFrom (fun j => q (l.getD j z)) 0 l.length = l.all q := by
  rw [Bool.eq_iff_iff, allFrom_iff, List.all_eq_true]
  constructor
  · intro h x hx
    obtain ⟨j, hj, rfl⟩ := List.getElem_of_mem hx
    have := h j (Nat.zero_le _) (by omega)
    rwa [List.getD_eq_getElem?_getD, List.getElem?_eq_getElem hj] at this
  · intro h j _ hj
    have hj' : j < l.length := by omega
    simp only [List.getD_eq_getElem?_getD, List.getElem?_eq_getElem hj', Option.getD_some]
    exact h _ (List.getElem_mem hj')
/-- A loop that ends at the first place at which p fails. -/
theorem all_loop {β : Type} (L : Nat → Int → Option β) (n : Nat) (p : Nat → Bool) (bad : β) (Fin : Nat → Option β)
    (h1 : ∀ k i, i < n → p i = true → L (k + 1) (i : Nat) = L k ((i + 1 : Nat) : Int)) (h2 : ∀ k i, i < n → p i = false → L (k + 1) (i : Nat) = some bad) (h3 : ∀ k, L (k + 1) (n : Nat) = Fin k) :
    ∀ (d k i : Nat), i + d = n → d < k → L k (i : Nat) = if allFrom p i d = true then Fin (k - 1 - d) else some bad
  | 0, k, i, hi, hk => by
    obtain ⟨k, rfl⟩ : ∃ m, k = m + 1 := ⟨k - 1, by omega⟩
    obtain rfl : i = n := by omega
    rw [h3]; simp [allFrom]
  | d + 1, k, i, hi, hk => by
    obtain ⟨k, rfl⟩ : ∃ m, k = m + 1 := ⟨k - 1, by omega⟩
    cases hp : p i with
    | true =>
      rw [h1 k i (by omega) hp, all_loop L n p bad Fin h1 h2 h3 d k (i + 1) (by omega) (by omega)]
      simp only [allFrom, hp, Bool.true_and]
      rw [show k + 1 - 1 - (d + 1) = k - 1 - d by omega]
    | false =>
      rw [h2 k i (by omega) hp]
      simp [allFrom, hp]
/-- A loop that looks for the first place at which p holds. -/
theorem find_loop (L : Nat → Int → Option Int) (n : Nat) (p : Nat → Bool)
    (h1 : ∀ k i, i < n → p i = false → L (k + 1) (i : Nat) = L k ((i + 1 : Nat) : Int)) (h2 : ∀ k i, i < n → p i = true → L (k + 1) (i : Nat) = some (i : Int)) (h3 : ∀ k, L (k + 1) (n : Nat) = some (-1)) :
    ∀ (d k i : Nat), i + d = n → d < k → ∃ r : Int, L k (i : Nat) = some r ∧ decide (r ≥ 0) = !allFrom (fun j => !p j) i d
  | 0, k, i, hi, hk => by
    obtain ⟨k, rfl⟩ : ∃ m, k = m + 1 := ⟨k - 1, by omega⟩
    obtain rfl : i = n := by omega
    exact ⟨-1, h3 k, by simp [allFrom]⟩
  | d + 1, k, i, hi, hk => by
    obtain ⟨k, rfl⟩ : ∃ m, k = m + 1 := ⟨k - 1, by omega⟩
    cases hp : p i with
    | false =>
      obtain ⟨r, hr, h⟩ := find_loop L n p h1 h2 h3 d k (i + 1) (by omega) (by omega)
      exact ⟨r, by rw [h1 k i (by omega) hp, hr], by rw [h]; simp [allFrom, hp]⟩
    | true => exact ⟨i, h2 k i (by omega) hp, by simp [allFrom, hp]⟩
theorem wrapN {i n : Nat} (h : i < n) (hn : n ≤ 9223372036854775807) : wrap64 ((i : Int) + 1) = ((i + 1 : Nat) : Int) := by unfold wrap64; omega
theorem rdS (l : List ByteArray) (i : Nat) : rdOf ByteArray.empty l (i : Int) = l.getD i ByteArray.empty := by unfold rdOf; rw [Int.toNat_natCast]
theorem rdW (l : List S40) (i : Nat) : rd_T40 l (i : Int) = l.getD i z40 := by unfold rd_T40; rw [Int.toNat_natCast]
end Go.Proofs.Ytaocplhijfkicaa.PD
/- What it means that a device is fit, by the reference. -/
namespace Go.Proofs.Ytaocplhijfkicaa.PD
open Go.RowKit Go.Proofs.YtaocplhijfkicaaW.PrintWords Go.Proofs.YtaocplhijfkicaaW.PrintLast Go.Proofs.YtaocplhijfkicaaW.PrintMore
def fitB (bl : List ByteArray) (ca : List S40) (left : Int) (dead : Bool) : Bool := decide (0 < bl.length) && decide (bl.length ≤ 1024) && decide (ca.length ≤ 4096) && decide (-1 ≤ left) && (!dead || left == 0) && allFrom (fun j => (bl.getD j ByteArray.empty).size == 128) 0 bl.length && allFrom (fun j => decide (0 ≤ (ca.getD j z40).f0) && decide ((ca.getD j z40).f0 < bl.length) && (ca.getD j z40).f1.size == 128) 0 ca.length
theorem rfit_l1 (bl : List ByteArray) (ca : List S40) (hc : ca.length ≤ 9223372036854775807) (left : Int) (dead : Bool) (k : Nat) (hk : ca.length < k) :
    almanacref02_Fit.l1 k 0 bl ca left dead = some (allFrom (fun j => decide (0 ≤ (ca.getD j z40).f0) && decide ((ca.getD j z40).f0 < bl.length) && (ca.getD j z40).f1.size == 128) 0 ca.length) := by
  have h := all_loop (fun k i => almanacref02_Fit.l1 k i bl ca left dead) ca.length (fun j => decide (0 ≤ (ca.getD j z40).f0) && decide ((ca.getD j z40).f0 < bl.length) && (ca.getD j z40).f1.size == 128) false (fun _ => some true)
    (fun k i hi hp => by
      simp only [Bool.and_eq_true, decide_eq_true_eq, beq_iff_eq] at hp
      simp only [almanacref02_Fit.l1, rdW]
      rw [if_pos (by omega), if_pos (by omega), if_neg (by omega), if_neg (by omega), if_pos (by omega), wrapN hi hc])
    (fun k i hi hp => by
      simp only [Bool.and_eq_false_iff, decide_eq_false_iff_not, beq_eq_false_iff_ne, ne_eq] at hp
      simp only [almanacref02_Fit.l1, rdW]
      rw [if_pos (by omega), if_pos (by omega)]
      split
      · rfl
      · split
        · rfl
        · split
          · exfalso; omega
          · rfl)
    (fun k => by simp only [almanacref02_Fit.l1]; rw [if_neg (by omega)])
    ca.length k 0 (by omega) hk
  rw [show ((0 : Nat) : Int) = 0 from rfl] at h
  rw [h]
  split
  · rename_i h'; rw [h']
  · rename_i h'; rw [Bool.not_eq_true] at h'; rw [h']
theorem rfit_l0 (bl : List ByteArray) (ca : List S40) (hb : bl.length ≤ 9223372036854775807) (hc : ca.length ≤ 9223372036854775807) (left : Int) (dead : Bool) (k : Nat) (hk : bl.length + ca.length + 1 < k) :
    almanacref02_Fit.l0 k 0 bl ca left dead = some (allFrom (fun j => (bl.getD j ByteArray.empty).size == 128) 0 bl.length && allFrom (fun j => decide (0 ≤ (ca.getD j z40).f0) && decide ((ca.getD j z40).f0 < bl.length) && (ca.getD j z40).f1.size == 128) 0 ca.length) := by
  have h := all_loop (fun k i => almanacref02_Fit.l0 k i bl ca left dead) bl.length (fun j => (bl.getD j ByteArray.empty).size == 128) false (fun k => almanacref02_Fit.l1 k 0 bl ca left dead)
    (fun k i hi hp => by
      simp only [beq_iff_eq] at hp
      simp only [almanacref02_Fit.l0, rdS]
      rw [if_pos (by omega), if_pos (by omega), if_pos (by omega), wrapN hi hb])
    (fun k i hi hp => by
      simp only [beq_eq_false_iff_ne, ne_eq] at hp
      simp only [almanacref02_Fit.l0, rdS]
      rw [if_pos (by omega), if_pos (by omega), if_neg (by omega)])
    (fun k => by simp only [almanacref02_Fit.l0]; rw [if_neg (by omega)])
    bl.length k 0 (by omega) (by omega)
  rw [show ((0 : Nat) : Int) = 0 from rfl] at h
  rw [h]
  split
  · rename_i h'; rw [h', rfit_l1 bl ca hc left dead _ (by omega)]; rfl
  · rename_i h'; rw [Bool.not_eq_true] at h'; rw [h']; rfl
theorem rfit_f (bl : List ByteArray) (ca : List S40) (hb : bl.length ≤ 9223372036854775807) (hc : ca.length ≤ 9223372036854775807) (left : Int) (dead : Bool) (k : Nat) (hk : bl.length + ca.length + 2 < k) :
    almanacref02_Fit.f k bl ca left dead = some (fitB bl ca left dead) := by
  obtain ⟨k, rfl⟩ : ∃ m, k = m + 1 := ⟨k - 1, by omega⟩
  unfold almanacref02_Fit.f
  simp only [almanacref02_Fit.j0, if_true]
  rw [rfit_l0 bl ca hb hc left dead k (by omega)]
  unfold fitB
  generalize allFrom (fun j => (bl.getD j ByteArray.empty).size == 128) 0 bl.length = A
  generalize allFrom (fun j => decide (0 ≤ (ca.getD j z40).f0) && decide ((ca.getD j z40).f0 < bl.length) && (ca.getD j z40).f1.size == 128) 0 ca.length = B
  by_cases h1 : 0 < bl.length
  · rw [if_neg (by omega)]
    by_cases h2 : bl.length ≤ 1024
    · rw [if_neg (by omega)]
      by_cases h3 : ca.length ≤ 4096
      · rw [if_neg (by omega)]
        by_cases h4 : -1 ≤ left
        · rw [if_neg (by omega)]
          cases dead with
          | true =>
            by_cases h5 : left = 0
            · subst h5; simp [h1, h2, h3]
            · simp [h1, h2, h3, h4, h5]
          | false => simp [h1, h2, h3, h4]
        · rw [if_pos (by omega)]; simp [h4]
      · rw [if_pos (by omega)]; simp [h3]
    · rw [if_pos (by omega)]; simp [h2]
  · rw [if_pos (by omega)]; simp [h1]
end Go.Proofs.Ytaocplhijfkicaa.PD
/- A copy of a device reads as the device; the program is awake. -/
namespace Go.Proofs.Ytaocplhijfkicaa.PD
open Go.RowKit Go.Proofs.YtaocplhijfkicaaW.PrintWords Go.Proofs.YtaocplhijfkicaaW.PrintLast Go.Proofs.YtaocplhijfkicaaW.PrintMore
theorem copy_f (a : List ByteArray) (ca : List S40) (l : Int) (d : Bool) (h0 : a.length < 8796093022208) (h1 : ca.length < 5864062014805) : almanacref02_Copy.f a ca l d = some (a, ca, l, d) := by
  unfold almanacref02_Copy.f
  rw [if_pos (by simpa using h0), if_pos (by simpa using h1)]
  simp
theorem awake_any (k : Nat) (hk : 10 ≤ k) : almanaclaw02_awake.f k = some true := at_rounds (fun k => almanaclaw02_awake.mono k) hk awake_val
end Go.Proofs.Ytaocplhijfkicaa.PD
/- What a flush leaves, in plain words: each block is what a read at it told before; and the rounds of a write. -/
namespace Go.Proofs.Ytaocplhijfkicaa.PD
open Go.RowKit Go.Proofs.YtaocplhijfkicaaW.PrintWords Go.Proofs.YtaocplhijfkicaaW.PrintLast Go.Proofs.YtaocplhijfkicaaW.PrintMore
theorem doneL_len (p : Nat → Bool) : ∀ (ca : List S40) (n : Nat) (bl : List ByteArray), (doneL p n bl ca).length = bl.length
  | [], _, _ => rfl
  | w :: r, n, bl => by
    simp only [doneL]
    rw [doneL_len p r]
    split <;> simp
/-- Each block behind the writes is what it was, or what a write at it holds. -/
theorem doneL_get (p : Nat → Bool) : ∀ (ca : List S40) (n : Nat) (bl : List ByteArray) (j : Nat), j < bl.length →
    (doneL p n bl ca).getD j ByteArray.empty = bl.getD j ByteArray.empty ∨ ∃ w ∈ ca, w.f0.toNat = j ∧ (doneL p n bl ca).getD j ByteArray.empty = w.f1
  | [], _, _, _, _ => .inl rfl
  | w :: r, n, bl, j, hj => by
    simp only [doneL]
    rcases doneL_get p r (n + 1) (if p n then bl.set w.f0.toNat w.f1 else bl) j (by split <;> simpa using hj) with h | ⟨x, hx, h1, h2⟩
    · rw [h]
      by_cases hp : p n = true
      · rw [if_pos hp]
        by_cases hw : w.f0.toNat = j
        · subst hw
          exact .inr ⟨w, List.mem_cons_self, rfl, by rw [List.getD_eq_getElem?_getD, List.getElem?_set_self hj]; rfl⟩
        · refine .inl ?_
          rw [List.getD_eq_getElem?_getD, List.getD_eq_getElem?_getD, List.getElem?_set_ne hw]
      · rw [if_neg hp]; exact .inl rfl
    · exact .inr ⟨x, List.mem_cons_of_mem _ hx, h1, h2⟩
/-- Where every write counts, each block behind them is what a read tells. -/
theorem doneL_latest (p : Nat → Bool) (j : Nat) : ∀ (ca : List S40) (n : Nat) (bl : List ByteArray), j < bl.length → (∀ i, n ≤ i → i < n + ca.length → p i = true) → (∀ w ∈ ca, 0 ≤ w.f0) →
    (doneL p n bl ca).getD j ByteArray.empty = ((ca.reverse.find? fun w => w.f0 == (j : Int)).map (·.f1)).getD (bl.getD j ⟨#[]⟩)
  | [], _, _, _, _, _ => rfl
  | w :: r, n, bl, hj, hp, h0 => by
    simp only [doneL]
    rw [if_pos (hp n (Nat.le_refl _) (by simp)), doneL_latest p j r (n + 1) _ (by simpa using hj) (fun i h1 h2 => hp i (by omega) (by simp; omega)) (fun x hx => h0 x (List.mem_cons_of_mem _ hx)), List.reverse_cons, List.find?_append]
    have hw := h0 w List.mem_cons_self
    cases hf : r.reverse.find? (fun w => w.f0 == (j : Int)) with
    | some x => rfl
    | none =>
      by_cases he : w.f0 = (j : Int)
      · have : w.f0.toNat = j := by omega
        have hb : (w.f0 == (j : Int)) = true := by simpa only [beq_iff_eq] using he
        simp only [List.find?, hb, Option.none_or, Option.map_some, Option.map_none, Option.getD_some, Option.getD_none]
        rw [this, List.getD_eq_getElem?_getD, List.getElem?_set_self hj]
        rfl
      · have : w.f0.toNat ≠ j := by omega
        have hb : (w.f0 == (j : Int)) = false := by simpa only [beq_eq_false_iff_ne, ne_eq] using he
        simp only [List.find?, hb, Option.none_or, Option.map_none, Option.getD_none]
        rw [List.getD_eq_getElem?_getD, List.getD_eq_getElem?_getD, List.getElem?_set_ne this]
theorem latest_nat (bl : List ByteArray) (ca : List S40) (j : Nat) : latestOf bl ca (j : Int) = ((ca.reverse.find? fun w => w.f0 == (j : Int)).map (·.f1)).getD (bl.getD j ⟨#[]⟩) := by unfold latestOf; rw [Int.toNat_natCast]
theorem fitW_of (p : Nat → Bool) (m : Nat) : ∀ (ca : List S40) (n : Nat), (∀ w ∈ ca, 0 ≤ w.f0 ∧ w.f0 < m) → fitW p m n ca = true
  | [], _, _ => rfl
  | w :: r, n, h => by
    simp only [fitW, fitW_of p m r (n + 1) (fun x hx => h x (List.mem_cons_of_mem _ hx)), Bool.and_true, Bool.or_eq_true, Bool.and_eq_true, decide_eq_true_eq]
    exact .inr (h w List.mem_cons_self)
/-- What a fit device is. -/
theorem fitB_iff {bl : List ByteArray} {ca : List S40} {left : Int} {dead : Bool} (h : fitB bl ca left dead = true) :
    0 < bl.length ∧ bl.length ≤ 1024 ∧ ca.length ≤ 4096 ∧ -1 ≤ left ∧ (∀ j, j < bl.length → (bl.getD j ByteArray.empty).size = 128) ∧ ∀ w ∈ ca, (0 ≤ w.f0 ∧ w.f0 < bl.length) ∧ w.f1.size = 128 := by
  unfold fitB at h
  simp only [Bool.and_eq_true, decide_eq_true_eq, allFrom_iff, beq_iff_eq] at h
  obtain ⟨⟨⟨⟨⟨⟨h1, h2⟩, h3⟩, h4⟩, _⟩, h5⟩, h6⟩ := h
  refine ⟨h1, h2, h3, h4, fun j hj => h5 j (Nat.zero_le _) (by omega), fun w hw => ?_⟩
  obtain ⟨i, hi, rfl⟩ := List.getElem_of_mem hw
  have := h6 i (Nat.zero_le _) (by omega)
  rw [List.getD_eq_getElem?_getD, List.getElem?_eq_getElem hi] at this
  simpa using this
theorem fitB_dead {bl : List ByteArray} {ca : List S40} {left : Int} {dead : Bool} (h : fitB bl ca left dead = true) (hd : dead = true) : left = 0 := by
  unfold fitB at h
  simp only [Bool.and_eq_true] at h
  obtain ⟨⟨⟨_, h5⟩, _⟩, _⟩ := h
  subst hd
  simpa using h5
theorem fitB_of {bl : List ByteArray} {ca : List S40} {left : Int} {dead : Bool} (h1 : 0 < bl.length) (h2 : bl.length ≤ 1024) (h3 : ca.length ≤ 4096) (h4 : -1 ≤ left) (h5 : dead = true → left = 0) (h6 : ∀ j, j < bl.length → (bl.getD j ByteArray.empty).size = 128)
    (h7 : ∀ w ∈ ca, (0 ≤ w.f0 ∧ w.f0 < bl.length) ∧ w.f1.size = 128) : fitB bl ca left dead = true := by
  unfold fitB
  simp only [Bool.and_eq_true, decide_eq_true_eq, allFrom_iff, beq_iff_eq]
  refine ⟨⟨⟨⟨⟨⟨h1, h2⟩, h3⟩, h4⟩, ?_⟩, fun j _ hj => h6 j (by omega)⟩, fun j _ hj => ?_⟩
  · cases dead
    · rfl
    · simp [h5 rfl]
  · rw [List.getD_eq_getElem?_getD, List.getElem?_eq_getElem (show j < ca.length by omega)]
    exact h7 _ (List.getElem_mem _)
end Go.Proofs.Ytaocplhijfkicaa.PD
