/- Part 5 of the texts that the claim leans on: the functions' walks, and what they compute. -/
import Derived.Test.YtebmbfobmakheaaItipMakes4
import Derived.Test.YtebmbfobmakheaaItipMakes2
import Derived.Test.YtebmbfobmakheaaItipMakes1
import Derived.Test.YtebmbfobmakheaaItipMakes3
namespace Go.Proofs.Ytebmbfobmakheaa.PD
open Go.RowKit Go.Proofs.YtebmbfobmakheaaW.PrintWords Go.Proofs.YtebmbfobmakheaaW.PrintLast Go.Proofs.YtebmbfobmakheaaW.PrintMore
attribute [local go_sem] isSome_setCell max2_int min2_int max_two min_two max_three min_three max_four min_four
set_option linter.unusedVariables false
set_option linter.unusedSimpArgs false
mutual
def almanacref26_Status.l0 : Nat → ByteArray → List (S25) → Int → Option (ByteArray)
 | 0, _, _, _ => none
 | k + 1, x1, x5, x6 => if x6 < (x5.length : Int) then (if 0 ≤ x6 then ((almanacref12_Props.f k ((rd_T25 x5 x6).f0) ((rd_T25 x5 x6).f1) ((rd_T25 x5 x6).f2) (⟨#[65, 84, 84, 69, 78, 68, 69, 69]⟩ : ByteArray)).bind fun t433 => (almanacref26_Status.l1 k x1 x5 x6 t433 0)) else (none)) else (some (⟨#[]⟩ : ByteArray))
def almanacref26_Status.l1 : Nat → ByteArray → List (S25) → Int → List (S45) → Int → Option (ByteArray)
 | 0, _, _, _, _, _ => none
 | k + 1, x1, x5, x6, x7, x8 => if x8 < (x7.length : Int) then (if 0 ≤ x8 then ((almanacref26_Alike.f k ((rd_T45 x7 x8).f2) x1).bind fun t437 => (if t437 = true then ((almanacref11_Param.f k ((rd_T45 x7 x8).f0) ((rd_T45 x7 x8).f1) ((rd_T45 x7 x8).f2) (⟨#[80, 65, 82, 84, 83, 84, 65, 84]⟩ : ByteArray)).bind fun bt439 => (if bt439.2 = true then ((almanacref08_Upper.f bt439.1).bind fun t441 => (some t441)) else (some (⟨#[78, 69, 69, 68, 83, 45, 65, 67, 84, 73, 79, 78]⟩ : ByteArray)))) else (almanacref26_Status.l1 k x1 x5 x6 x7 (wrap64 (x8 + 1))))) else (none)) else (almanacref26_Status.l0 k x1 x5 (wrap64 (x6 + 1)))
end
def almanacref26_Status.f (k : Nat) (a0_0 : ByteArray) (l0_1 : List (S45)) (l0_2 : List (S25)) (a1 : ByteArray) : Option (ByteArray) := (almanacref17_Others.f k a0_0 l0_1 l0_2).bind fun t429 => (almanacref26_Status.l0 k a1 t429 0)
set_option maxHeartbeats 8000000 in
set_option maxRecDepth 100000 in
theorem almanacref26_Status.calls (k : Nat) (a0_0 : ByteArray) (A0_1 : Option Addr) (c0_1 : Nat) (l0_1 : List (S45)) (A0_2 : Option Addr) (c0_2 : Nat) (l0_2 : List (S25)) (a1 : ByteArray) (r : ByteArray) (w : World) (hr0_1 : Kd.C k45 w A0_1 l0_1.length l0_1) (hc0_1 : l0_1.length ≤ c0_1) (hr0_2 : Kd.C k25 w A0_2 l0_2.length l0_2) (hc0_2 : l0_2.length ≤ c0_2) (h : almanacref26_Status.f k a0_0 l0_1 l0_2 a1 = some r) :
  Calls Try.prog 28 #[.agg #[.string a0_0, .slice A0_1 l0_1.length c0_1, .slice A0_2 l0_2.length c0_2], .string a1] w fun e w' => e = .returned (.string r) ∧ Below w.heap.size w w' := by
 have hu25 := Try.underlying25
 have hu45 := Try.underlying45
 have HR0_1 := Aside0.mk hr0_1
 have HC0_1 := Aside0.mk hc0_1
 clear hr0_1 hc0_1
 have HR0_2 := Aside0.mk hr0_2
 have HC0_2 := Aside0.mk hc0_2
 clear hr0_2 hc0_2
 have HB := Aside0.mk (Below.refl w.heap.size w)
 have H : ((almanacref17_Others.f k a0_0 l0_1 l0_2).bind fun t429 => (almanacref26_Status.l0 k a1 t429 0)) = some r := h
 clear h
 replace H := Option.bind_eq_some_iff.mp H
 obtain ⟨t429, A30, H⟩ := H
 replace H : (almanacref26_Status.l0 k a1 t429 0) = some r := H
 have A3 := Aside0.mk A30
 clear A30
 have H' := Aside0.mk H
 clear H
 go_enter Try.func28, Try.ntmps28
 go_wp2_with (first | ((with_reducible refine gate_dst (N := 2) rfl ?_); refine box_event ?hg (N := 2) ?hd (cs := #[.string a0_0, .slice A0_1 l0_1.length c0_1, .slice A0_2 l0_2.length c0_2]) (t := 25) ?hr ?_; (case hd => rfl); (case hg => rfl); (case hr => first | (go_simp; done) | (go_simp; rfl)); intro gb428 hg w4 hbox hb; have n0_ := Aside0.mk (below_step (bU HB) hb); have n1_ := Aside0.mk (hbox); have n2_ := Aside0.mk ((by rw [hg]; exact (below_size (bU HB)) : w.heap.size ≤ gb428)); have n3_ := Aside0.mk ((by rw [hg]; exact (below_size (bU HB)) : w.heap.size ≤ gb428)); clear HB; have HB := n0_; have BK428 := n1_; have GW428 := n2_; have GE428 := n3_; clear n0_ n1_ n2_ n3_; clear hb hbox hg; have hcz5_0 : w4.cell? ⟨gb428, 0, none⟩ = some (.string a0_0) := (blk_cell BK428.out 0).trans rfl; have hcz5_1 : w4.cell? ⟨gb428, 1, none⟩ = some (.slice A0_1 l0_1.length c0_1) := (blk_cell BK428.out 1).trans rfl; have hcz5_2 : w4.cell? ⟨gb428, 2, none⟩ = some (.slice A0_2 l0_2.length c0_2) := (blk_cell BK428.out 2).trans rfl; have hfz5_0 := blk_frozen BK428.out 0; have hfz5_1 := blk_frozen BK428.out 1; have hfz5_2 := blk_frozen BK428.out 2) | ((with_reducible refine gate_callee (f := 43) rfl ?_); refine goesL_ (some 12) rfl rfl Try.func43 (by kernel_rfl) rfl #[.agg #[.string a0_0, .slice A0_1 l0_1.length c0_1, .slice A0_2 l0_2.length c0_2]] rfl (by (try simp only [List.map_toArray, List.map_cons, List.map_nil]); first | done | rfl | (simp only [List.length_drop, List.length_take]; rfl)) ?_; (with_reducible refine (almanacref17_Others.calls k a0_0 _ _ l0_1 (fun k_ => k_ < w.heap.size) _ _ l0_2 t429 _ ?side1 ?side2 ?side3 A3.out).mono ?_); (case side1 => exact cU (Kd.C_below HR0_1.out HB.out)); (case side2 => exact HC0_1.out); (case side3 => exact Kd.V_mk HC0_2.out (Kd.F_below (Kd.C_F k25_heap HR0_2.out) (bU HB))); rintro e w6 ⟨v430, rfl, ho0, hb⟩; refine ⟨_, rfl, ?_⟩; have n0_ := Aside0.mk (Kd.N_lower (Kd.N_mono (ok' := fun k_ => k_ ≠ gb428) ho0 (fun k_ hk_ => Or.elim hk_ (fun hs_ => fun e_ => Nat.not_le.2 hs_ (by rw [e_]; exact GW428.out)) (fun hn_ => (Kd.freshB (g := gb428) (o := .cells #[.string a0_0, .slice A0_1 l0_1.length c0_1, .slice A0_2 l0_2.length c0_2] 25 (0, 0)) (kU BK428) k_ hn_)))) (below_size (bU HB))); have n1_ := Aside0.mk (blk_below (kU BK428) hb); have n2_ := Aside0.mk (below_step (bU HB) hb); clear BK428; clear HB; have HO431 := n0_; have BK428 := n1_; have HB := n2_; clear n0_ n1_ n2_; (try clear hb); (try clear hb2); (try clear hk); (try clear hi); (try clear ho0)))
 go_loopg [6] k (fun kq v6 w' => ∃ (x6_1 : Int), v6 = .int .i64 x6_1 ∧ Aside0 (almanacref26_Status.l0 kq a1 t429 x6_1 = some r) ∧ Aside0 (kq ≤ k) ∧ Aside0 (Kd.N k25 25 w' w.heap.size (fun k_ => k_ ≠ gb428) v430 t429) ∧ Aside0 (w'.heap[gb428]? = some (.cells #[.string a0_0, (.slice A0_1 l0_1.length c0_1), (.slice A0_2 l0_2.length c0_2)] 25 (0, 0))) ∧ Aside0 (Below w.heap.size w w'))
 case atStart => exact ⟨(0), (by first | rfl | (simp; done) | (simp [*]; done)), H', ⟨Nat.le_refl _⟩, ⟨by (with_reducible repeat (first | apply Kd.N_alloc | apply Kd.N_drewN | apply Kd.N_drew)); exact HO431.out⟩, ⟨kU BK428⟩, ⟨bU HB⟩⟩
 case round =>
  clear H'
  try clear c2
  try clear p2
  try clear c4
  try clear hcz5_0 hcz5_1 hcz5_2 hfz5_0 hfz5_1 hfz5_2
  obtain ⟨x6_1, rfl, HA, HK1, HO_5, BK428, HB⟩ := hrel
  cases gk with
  | zero => exact absurd HA.out (by simp [almanacref26_Status.l0])
  | succ k1 =>
   have H := HA.out
   clear HA
   simp only [almanacref26_Status.l0] at H
   by_cases c7 : x6_1 < (t429.length : Int)
   ·rw [if_pos c7] at H
    have c7b0 : decide (x6_1 < (t429.length : Int)) = true := decide_eq_true c7
    clear c7
    by_cases c8 : 0 ≤ x6_1
    ·rw [if_pos c8] at H
     have c8b0 : decide (0 ≤ x6_1) = true := decide_eq_true c8
     clear c8
     replace H := Option.bind_eq_some_iff.mp H
     obtain ⟨t433, A90, H⟩ := H
     replace H : (almanacref26_Status.l1 k1 a1 t429 x6_1 t433 0) = some r := H
     have A9 := Aside0.mk A90
     clear A90
     have H' := Aside0.mk H
     clear H
     obtain ⟨Ao10, co10, eo10⟩ := Kd.N_slice HO_5.out
     subst eo10
     have p432 : 0 ≤ (x6_1 : Int) := of_decide_eq_true (by first | (with_reducible assumption) | assumption)
     have q432 : x6_1 < (t429.length : Int) := of_decide_eq_true (by first | (with_reducible assumption) | assumption)
     obtain ⟨ad432, A432_1, c432_1, A432_2, c432_2, e432, hx432_0, hx432_1, hx432_2, hl432_1, hi432_1, hl432_2, hi432_2⟩ := at_T25 (Kd.N_reads' HO_5.out).2.2 x6_1 p432 q432
     cases e432
     obtain ⟨ce432, hce432, hMe432, hcc432⟩ := Kd.N_get HO_5.out z25 x6_1 p432 (by first | exact q432 | exact of_decide_eq_true (by first | (with_reducible assumption) | assumption) | (have e_ := (Kd.N_reads' HO_5.out).1; omega))
     obtain ⟨ua432_1, uc432_1, ua432_2, uc432_2, rfl, ul432_1, ge432_1, ul432_2, ge432_2⟩ := k25_openF hMe432
     have hv432_1 := hcc432 1 _ rfl
     rw [add_field _ _ 1 (by omega)] at hv432_1
     replace hv432_1 := Option.some.inj (hv432_1.symm.trans hx432_1)
     injection hv432_1 with hva_ hvn_ hvc_
     rw [hva_] at ge432_1
     rw [hvc_] at ul432_1
     have HL432_1 := Aside0.mk (show Kd.V k45 45 _ w.heap.size _ _ ((rd_T25 t429 x6_1).f1) from Kd.V_mk ul432_1 ge432_1)
     clear hva_ hvn_ hvc_ ge432_1 ul432_1
     have hv432_2 := hcc432 2 _ rfl
     rw [add_field _ _ 2 (by omega)] at hv432_2
     replace hv432_2 := Option.some.inj (hv432_2.symm.trans hx432_2)
     injection hv432_2 with hva_ hvn_ hvc_
     rw [hva_] at ge432_2
     rw [hvc_] at ul432_2
     have HL432_2 := Aside0.mk (show Kd.V k25 25 _ w.heap.size _ _ ((rd_T25 t429 x6_1).f2) from Kd.V_mk ul432_2 ge432_2)
     clear hva_ hvn_ hvc_ ge432_2 ul432_2
     clear hcc432 hce432
     have HR432_1 := Aside0.mk hi432_1
     have HC432_1 := Aside0.mk hl432_1
     clear hi432_1 hl432_1
     have HR432_2 := Aside0.mk hi432_2
     have HC432_2 := Aside0.mk hl432_2
     clear hi432_2 hl432_2
     replace p432 := eq_true p432
     replace q432 := eq_true q432
     go_wp2_with (first | ((with_reducible refine gate_callee (f := 49) rfl ?_); refine goesL_ (some 23) rfl rfl Try.func49 (by kernel_rfl) rfl #[.agg #[.string ((rd_T25 t429 x6_1).f0), .slice A432_1 ((rd_T25 t429 x6_1).f1).length c432_1, .slice A432_2 ((rd_T25 t429 x6_1).f2).length c432_2], .string (⟨#[65, 84, 84, 69, 78, 68, 69, 69]⟩ : ByteArray)] rfl (by (try simp only [List.map_toArray, List.map_cons, List.map_nil]); first | done | rfl | (simp only [List.length_drop, List.length_take]; rfl)) ?_; (with_reducible refine (almanacref12_Props.calls k1 ((rd_T25 t429 x6_1).f0) (fun k_ => (k_ ≠ gb428 ∧ some k_ ≠ (.slice (some ad432) t429.length co10 : Value).ownBlock)) _ _ ((rd_T25 t429 x6_1).f1) _ _ ((rd_T25 t429 x6_1).f2) (⟨#[65, 84, 84, 69, 78, 68, 69, 69]⟩ : ByteArray) t433 _ ?side1 ?side2 ?side3 A9.out).mono ?_); (case side1 => exact HL432_1.out); (case side2 => repeat (first | exact (by repeat (first | (with_reducible exact HR432_2.out) | (with_reducible refine Kd.C_alloc ?_ _) | (with_reducible refine Kd.C_drewN ?_ _) | (with_reducible refine Kd.C_drew ?_) | exact HR432_2.out)) | (with_reducible refine Kd.C_alloc ?_ _) | (with_reducible refine Kd.C_drewN ?_ _) | (with_reducible refine Kd.C_drew ?_))); (case side3 => exact HC432_2.out); rintro e w11 ⟨v434, rfl, ho0, hb⟩; refine ⟨_, rfl, ?_⟩; have n0_ := Aside0.mk (Kd.N_elder' (by (with_reducible repeat (first | apply Kd.N_alloc | apply Kd.N_drewN | apply Kd.N_drew)); exact HO_5.out) (Kd.N_base ho0) hb); have n1_ := Aside0.mk (Kd.V_elder' (by (with_reducible repeat (first | apply Kd.V_alloc | apply Kd.V_drewN | apply Kd.V_drew)); exact HL432_1.out) (Kd.N_base ho0) hb); have n2_ := Aside0.mk (Kd.V_elder' (by (with_reducible repeat (first | apply Kd.V_alloc | apply Kd.V_drewN | apply Kd.V_drew)); exact HL432_2.out) (Kd.N_base ho0) hb); have n3_ := Aside0.mk (Kd.N_lower (Kd.N_mono (ok' := fun k_ => some k_ ≠ (.slice (some ad432) t429.length co10 : Value).ownBlock ∧ k_ ≠ gb428) ho0 (fun k_ hk_ => ⟨Or.elim hk_ (fun hs_ => hs_.2) (fun hn_ => (Kd.fresh' (Kd.N_lt (by (with_reducible repeat (first | apply Kd.N_alloc | apply Kd.N_drewN | apply Kd.N_drew)); exact HO_5.out)) k_ hn_)), Or.elim hk_ (fun hs_ => hs_.1) (fun hn_ => (Kd.freshB (g := gb428) (o := .cells #[.string a0_0, .slice A0_1 l0_1.length c0_1, .slice A0_2 l0_2.length c0_2] 25 (0, 0)) (kU BK428) k_ hn_))⟩)) (below_size (bU HB))); have n4_ := Aside0.mk (blk_below (kU BK428) hb); have n5_ := Aside0.mk (Kd.C_below (by repeat (first | (with_reducible exact HR432_1.out) | (with_reducible refine Kd.C_alloc ?_ _) | (with_reducible refine Kd.C_drewN ?_ _) | (with_reducible refine Kd.C_drew ?_) | exact HR432_1.out)) hb); have n6_ := Aside0.mk (Kd.C_below (by repeat (first | (with_reducible exact HR432_2.out) | (with_reducible refine Kd.C_alloc ?_ _) | (with_reducible refine Kd.C_drewN ?_ _) | (with_reducible refine Kd.C_drew ?_) | exact HR432_2.out)) hb); have n7_ := Aside0.mk (below_step (bU HB) hb); clear HO_5; clear HL432_1; clear HL432_2; clear BK428; clear HR432_1; clear HR432_2; clear HB; have HO_5 := n0_; have HL432_1 := n1_; have HL432_2 := n2_; have HO435 := n3_; have BK428 := n4_; have HR432_1 := n5_; have HR432_2 := n6_; have HB := n7_; clear n0_ n1_ n2_ n3_ n4_ n5_ n6_ n7_; (try clear hb); (try clear hb2); (try clear hk); (try clear hi); (try clear ho0)))
     go_loopg [8] k1 (fun kq v8 w' => ∃ (x8_2 : Int), v8 = .int .i64 x8_2 ∧ Aside0 (almanacref26_Status.l1 kq a1 t429 x6_1 t433 x8_2 = some r) ∧ Aside0 (kq ≤ k1) ∧ Aside0 (Kd.N k25 25 w' w.heap.size (fun k_ => some k_ ≠ (v434 : Value).ownBlock ∧ k_ ≠ gb428) (.slice (some ad432) t429.length co10) t429) ∧ Aside0 (Kd.N k45 45 w' w.heap.size (fun k_ => some k_ ≠ ((.slice (some ad432) t429.length co10) : Value).ownBlock ∧ k_ ≠ gb428) v434 t433) ∧ Aside0 (w'.heap[gb428]? = some (.cells #[.string a0_0, (.slice A0_1 l0_1.length c0_1), (.slice A0_2 l0_2.length c0_2)] 25 (0, 0))) ∧ Aside0 (Kd.C k45 w' A432_1 ((rd_T25 t429 x6_1).f1).length ((rd_T25 t429 x6_1).f1)) ∧ Aside0 (Kd.C k25 w' A432_2 ((rd_T25 t429 x6_1).f2).length ((rd_T25 t429 x6_1).f2)) ∧ Aside0 (Below w.heap.size w w'))
     case atStart => exact ⟨(0), (by first | rfl | (simp; done) | (simp [*]; done)), H', ⟨Nat.le_refl _⟩, ⟨by (with_reducible repeat (first | apply Kd.N_alloc | apply Kd.N_drewN | apply Kd.N_drew)); exact Kd.N_mono HO_5.out (fun _ hk => ⟨hk.2, hk.1⟩)⟩, ⟨by (with_reducible repeat (first | apply Kd.N_alloc | apply Kd.N_drewN | apply Kd.N_drew)); exact HO435.out⟩, ⟨kU BK428⟩, ⟨by repeat (first | (with_reducible exact HR432_1.out) | (with_reducible refine Kd.C_alloc ?_ _) | (with_reducible refine Kd.C_drewN ?_ _) | (with_reducible refine Kd.C_drew ?_) | exact HR432_1.out)⟩, ⟨by repeat (first | (with_reducible exact HR432_2.out) | (with_reducible refine Kd.C_alloc ?_ _) | (with_reducible refine Kd.C_drewN ?_ _) | (with_reducible refine Kd.C_drew ?_) | exact HR432_2.out)⟩, ⟨bU HB⟩⟩
     case round =>
      clear H'
      try clear c2
      try clear p2
      try clear c4
      try clear p4
      try clear q4
      try clear hx4
      try clear c7
      try clear c7b0
      try clear c8
      try clear c8b0
      try clear hcz5_0 hcz5_1 hcz5_2 hfz5_0 hfz5_1 hfz5_2
      try clear hx432_0
      try clear hx432_1
      try clear hx432_2
      try clear p2
      try clear p432
      try clear q432
      obtain ⟨x8_2, rfl, HA, HK2, HO_5, HO_7, BK428, HR432_1, HR432_2, HB⟩ := hrel
      cases gk with
      | zero => exact absurd HA.out (by simp [almanacref26_Status.l1])
      | succ k2 =>
       have H := HA.out
       clear HA
       simp only [almanacref26_Status.l1] at H
       by_cases c12 : x8_2 < (t433.length : Int)
       ·rw [if_pos c12] at H
        have c12b0 : decide (x8_2 < (t433.length : Int)) = true := decide_eq_true c12
        clear c12
        by_cases c13 : 0 ≤ x8_2
        ·rw [if_pos c13] at H
         have c13b0 : decide (0 ≤ x8_2) = true := decide_eq_true c13
         clear c13
         replace H := Option.bind_eq_some_iff.mp H
         obtain ⟨t437, A140, H⟩ := H
         replace H : (if t437 = true then ((almanacref11_Param.f k2 ((rd_T45 t433 x8_2).f0) ((rd_T45 t433 x8_2).f1) ((rd_T45 t433 x8_2).f2) (⟨#[80, 65, 82, 84, 83, 84, 65, 84]⟩ : ByteArray)).bind fun bt439 => (if bt439.2 = true then ((almanacref08_Upper.f bt439.1).bind fun t441 => (some t441)) else (some (⟨#[78, 69, 69, 68, 83, 45, 65, 67, 84, 73, 79, 78]⟩ : ByteArray)))) else (almanacref26_Status.l1 k2 a1 t429 x6_1 t433 (wrap64 (x8_2 + 1)))) = some r := H
         have A14 := Aside0.mk A140
         clear A140
         by_cases c15 : t437 = true
         ·subst c15
          have H1 : ((almanacref11_Param.f k2 ((rd_T45 t433 x8_2).f0) ((rd_T45 t433 x8_2).f1) ((rd_T45 t433 x8_2).f2) (⟨#[80, 65, 82, 84, 83, 84, 65, 84]⟩ : ByteArray)).bind fun bt439 => (if bt439.2 = true then ((almanacref08_Upper.f bt439.1).bind fun t441 => (some t441)) else (some (⟨#[78, 69, 69, 68, 83, 45, 65, 67, 84, 73, 79, 78]⟩ : ByteArray)))) = some r := by rw [if_pos rfl] at H; exact H
          clear H
          have H := H1
          clear H1
          replace H := Option.bind_eq_some_iff.mp H
          obtain ⟨⟨t439, t440⟩, A160, H⟩ := H
          replace H : (if t440 = true then ((almanacref08_Upper.f t439).bind fun t441 => (some t441)) else (some (⟨#[78, 69, 69, 68, 83, 45, 65, 67, 84, 73, 79, 78]⟩ : ByteArray))) = some r := H
          have A16 := Aside0.mk A160
          clear A160
          by_cases c17 : t440 = true
          ·subst c17
           have H1 : ((almanacref08_Upper.f t439).bind fun t441 => (some t441)) = some r := by rw [if_pos rfl] at H; exact H
           clear H
           have H := H1
           clear H1
           replace H := Option.bind_eq_some_iff.mp H
           obtain ⟨t441, A180, H⟩ := H
           replace H : (some t441) = some r := H
           have A18 := Aside0.mk A180
           clear A180
           obtain rfl := Option.some.inj H
           obtain ⟨Ao19, co19, eo19⟩ := Kd.N_slice HO_7.out
           subst eo19
           have p436 : 0 ≤ (x8_2 : Int) := of_decide_eq_true (by first | (with_reducible assumption) | assumption)
           have q436 : x8_2 < (t433.length : Int) := of_decide_eq_true (by first | (with_reducible assumption) | assumption)
           obtain ⟨ad436, A436_1, c436_1, e436, hx436_0, hx436_1, hx436_2, hl436_1, hi436_1⟩ := at_T45 (Kd.N_reads' HO_7.out).2.2 x8_2 p436 q436
           cases e436
           obtain ⟨ce436, hce436, hMe436, hcc436⟩ := Kd.N_get HO_7.out z45 x8_2 p436 (by first | exact q436 | exact of_decide_eq_true (by first | (with_reducible assumption) | assumption) | (have e_ := (Kd.N_reads' HO_7.out).1; omega))
           obtain ⟨ua436_1, uc436_1, rfl, ul436_1, ge436_1⟩ := k45_openF hMe436
           have hv436_1 := hcc436 1 _ rfl
           rw [add_field _ _ 1 (by omega)] at hv436_1
           replace hv436_1 := Option.some.inj (hv436_1.symm.trans hx436_1)
           injection hv436_1 with hva_ hvn_ hvc_
           rw [hva_] at ge436_1
           rw [hvc_] at ul436_1
           have HL436_1 := Aside0.mk (show Kd.V k77 77 _ w.heap.size _ _ ((rd_T45 t433 x8_2).f1) from Kd.V_mk ul436_1 ge436_1)
           clear hva_ hvn_ hvc_ ge436_1 ul436_1
           clear hcc436 hce436
           have HR436_1 := Aside0.mk hi436_1
           have HC436_1 := Aside0.mk hl436_1
           clear hi436_1 hl436_1
           replace p436 := eq_true p436
           replace q436 := eq_true q436
           go_wp2_with (first | ((with_reducible refine gate_callee (f := 69) rfl ?_); refine goesL_ (some 36) rfl rfl Try.func69 (by kernel_rfl) rfl #[.string ((rd_T45 t433 x8_2).f2), .string a1] rfl (by (try simp only [List.map_toArray, List.map_cons, List.map_nil]); first | done | rfl | (simp only [List.length_drop, List.length_take]; rfl)) ?_; (with_reducible refine (almanacref26_Alike.calls k2 ((rd_T45 t433 x8_2).f2) a1 true _ A14.out).mono ?_); rintro e w20 ⟨rfl, hb⟩; refine ⟨_, rfl, ?_⟩; have n0_ := Aside0.mk (Kd.N_below (by (with_reducible repeat (first | apply Kd.N_alloc | apply Kd.N_drewN | apply Kd.N_drew)); exact HO_5.out) hb); have n1_ := Aside0.mk (Kd.N_below (by (with_reducible repeat (first | apply Kd.N_alloc | apply Kd.N_drewN | apply Kd.N_drew)); exact HO_7.out) hb); have n2_ := Aside0.mk (Kd.V_below (by (with_reducible repeat (first | apply Kd.V_alloc | apply Kd.V_drewN | apply Kd.V_drew)); exact HL436_1.out) hb); have n3_ := Aside0.mk (blk_below (kU BK428) hb); have n4_ := Aside0.mk (Kd.C_below (by repeat (first | (with_reducible exact HR432_1.out) | (with_reducible refine Kd.C_alloc ?_ _) | (with_reducible refine Kd.C_drewN ?_ _) | (with_reducible refine Kd.C_drew ?_) | exact HR432_1.out)) hb); have n5_ := Aside0.mk (Kd.C_below (by repeat (first | (with_reducible exact HR432_2.out) | (with_reducible refine Kd.C_alloc ?_ _) | (with_reducible refine Kd.C_drewN ?_ _) | (with_reducible refine Kd.C_drew ?_) | exact HR432_2.out)) hb); have n6_ := Aside0.mk (Kd.C_below (by repeat (first | (with_reducible exact HR436_1.out) | (with_reducible refine Kd.C_alloc ?_ _) | (with_reducible refine Kd.C_drewN ?_ _) | (with_reducible refine Kd.C_drew ?_) | exact HR436_1.out)) hb); have n7_ := Aside0.mk (below_step (bU HB) hb); clear HO_5; clear HO_7; clear HL436_1; clear BK428; clear HR432_1; clear HR432_2; clear HR436_1; clear HB; have HO_5 := n0_; have HO_7 := n1_; have HL436_1 := n2_; have BK428 := n3_; have HR432_1 := n4_; have HR432_2 := n5_; have HR436_1 := n6_; have HB := n7_; clear n0_ n1_ n2_ n3_ n4_ n5_ n6_ n7_; (try clear hb); (try clear hb2); (try clear hk); (try clear hi); have p438 : 0 ≤ (x8_2 : Int) := of_decide_eq_true (by first | (with_reducible assumption) | assumption); have q438 : x8_2 < (t433.length : Int) := of_decide_eq_true (by first | (with_reducible assumption) | assumption); obtain ⟨ad438, A438_1, c438_1, e438, hx438_0, hx438_1, hx438_2, hl438_1, hi438_1⟩ := at_T45 (Kd.N_reads' HO_7.out).2.2 x8_2 p438 q438; obtain rfl : ad436 = ad438 := (by injection e438); obtain ⟨ce438, hce438, hMe438, hcc438⟩ := Kd.N_get HO_7.out z45 x8_2 p438 (by first | exact q438 | exact of_decide_eq_true (by first | (with_reducible assumption) | assumption) | (have e_ := (Kd.N_reads' HO_7.out).1; omega)); obtain ⟨ua438_1, uc438_1, rfl, ul438_1, ge438_1⟩ := k45_openF hMe438; have hv438_1 := hcc438 1 _ rfl; rw [add_field _ _ 1 (by omega)] at hv438_1; replace hv438_1 := Option.some.inj (hv438_1.symm.trans hx438_1); injection hv438_1 with hva_ hvn_ hvc_; rw [hva_] at ge438_1; rw [hvc_] at ul438_1; have HL438_1 := Aside0.mk (show Kd.V k77 77 _ w.heap.size _ _ ((rd_T45 t433 x8_2).f1) from Kd.V_mk ul438_1 ge438_1); clear hva_ hvn_ hvc_ ge438_1 ul438_1; clear hcc438 hce438; have HR438_1 := Aside0.mk hi438_1; have HC438_1 := Aside0.mk hl438_1; clear hi438_1 hl438_1; replace p438 := eq_true p438; replace q438 := eq_true q438) | ((with_reducible refine gate_callee (f := 70) rfl ?_); refine goesL_ (some 42) rfl rfl Try.func70 (by kernel_rfl) rfl #[.agg #[.string ((rd_T45 t433 x8_2).f0), .slice A438_1 ((rd_T45 t433 x8_2).f1).length c438_1, .string ((rd_T45 t433 x8_2).f2)], .string (⟨#[80, 65, 82, 84, 83, 84, 65, 84]⟩ : ByteArray)] rfl (by (try simp only [List.map_toArray, List.map_cons, List.map_nil]); first | done | rfl | (simp only [List.length_drop, List.length_take]; rfl)) ?_; (with_reducible refine (almanacref11_Param.calls k2 ((rd_T45 t433 x8_2).f0) _ _ ((rd_T45 t433 x8_2).f1) ((rd_T45 t433 x8_2).f2) (⟨#[80, 65, 82, 84, 83, 84, 65, 84]⟩ : ByteArray) t439 true _ ?side1 ?side2 A16.out).mono ?_); (case side1 => repeat (first | exact (by repeat (first | (with_reducible exact HR438_1.out) | (with_reducible refine Kd.C_alloc ?_ _) | (with_reducible refine Kd.C_drewN ?_ _) | (with_reducible refine Kd.C_drew ?_) | exact HR438_1.out)) | (with_reducible refine Kd.C_alloc ?_ _) | (with_reducible refine Kd.C_drewN ?_ _) | (with_reducible refine Kd.C_drew ?_))); (case side2 => exact HC438_1.out); rintro e w21 ⟨rfl, hb⟩; refine ⟨_, rfl, ?_⟩; have n0_ := Aside0.mk (Kd.N_below (by (with_reducible repeat (first | apply Kd.N_alloc | apply Kd.N_drewN | apply Kd.N_drew)); exact HO_5.out) hb); have n1_ := Aside0.mk (Kd.N_below (by (with_reducible repeat (first | apply Kd.N_alloc | apply Kd.N_drewN | apply Kd.N_drew)); exact HO_7.out) hb); have n2_ := Aside0.mk (Kd.V_below (by (with_reducible repeat (first | apply Kd.V_alloc | apply Kd.V_drewN | apply Kd.V_drew)); exact HL436_1.out) hb); have n3_ := Aside0.mk (Kd.V_below (by (with_reducible repeat (first | apply Kd.V_alloc | apply Kd.V_drewN | apply Kd.V_drew)); exact HL438_1.out) hb); have n4_ := Aside0.mk (blk_below (kU BK428) hb); have n5_ := Aside0.mk (Kd.C_below (by repeat (first | (with_reducible exact HR432_1.out) | (with_reducible refine Kd.C_alloc ?_ _) | (with_reducible refine Kd.C_drewN ?_ _) | (with_reducible refine Kd.C_drew ?_) | exact HR432_1.out)) hb); have n6_ := Aside0.mk (Kd.C_below (by repeat (first | (with_reducible exact HR432_2.out) | (with_reducible refine Kd.C_alloc ?_ _) | (with_reducible refine Kd.C_drewN ?_ _) | (with_reducible refine Kd.C_drew ?_) | exact HR432_2.out)) hb); have n7_ := Aside0.mk (Kd.C_below (by repeat (first | (with_reducible exact HR436_1.out) | (with_reducible refine Kd.C_alloc ?_ _) | (with_reducible refine Kd.C_drewN ?_ _) | (with_reducible refine Kd.C_drew ?_) | exact HR436_1.out)) hb); have n8_ := Aside0.mk (Kd.C_below (by repeat (first | (with_reducible exact HR438_1.out) | (with_reducible refine Kd.C_alloc ?_ _) | (with_reducible refine Kd.C_drewN ?_ _) | (with_reducible refine Kd.C_drew ?_) | exact HR438_1.out)) hb); have n9_ := Aside0.mk (below_step (bU HB) hb); clear HO_5; clear HO_7; clear HL436_1; clear HL438_1; clear BK428; clear HR432_1; clear HR432_2; clear HR436_1; clear HR438_1; clear HB; have HO_5 := n0_; have HO_7 := n1_; have HL436_1 := n2_; have HL438_1 := n3_; have BK428 := n4_; have HR432_1 := n5_; have HR432_2 := n6_; have HR436_1 := n7_; have HR438_1 := n8_; have HB := n9_; clear n0_ n1_ n2_ n3_ n4_ n5_ n6_ n7_ n8_ n9_; (try clear hb); (try clear hb2); (try clear hk); (try clear hi)) | ((with_reducible refine gate_callee (f := 21) rfl ?_); refine goesL_ (some 48) rfl rfl Try.func21 (by kernel_rfl) rfl #[.string t439] rfl (by (try simp only [List.map_toArray, List.map_cons, List.map_nil]); first | done | rfl | (simp only [List.length_drop, List.length_take]; rfl)) ?_; (with_reducible refine (almanacref08_Upper.calls t439 t441 _ A18.out).mono ?_); rintro e w22 ⟨rfl, hb⟩; refine ⟨_, rfl, ?_⟩; have n0_ := Aside0.mk (Kd.N_below (by (with_reducible repeat (first | apply Kd.N_alloc | apply Kd.N_drewN | apply Kd.N_drew)); exact HO_5.out) hb); have n1_ := Aside0.mk (Kd.N_below (by (with_reducible repeat (first | apply Kd.N_alloc | apply Kd.N_drewN | apply Kd.N_drew)); exact HO_7.out) hb); have n2_ := Aside0.mk (Kd.V_below (by (with_reducible repeat (first | apply Kd.V_alloc | apply Kd.V_drewN | apply Kd.V_drew)); exact HL436_1.out) hb); have n3_ := Aside0.mk (Kd.V_below (by (with_reducible repeat (first | apply Kd.V_alloc | apply Kd.V_drewN | apply Kd.V_drew)); exact HL438_1.out) hb); have n4_ := Aside0.mk (blk_below (kU BK428) hb); have n5_ := Aside0.mk (Kd.C_below (by repeat (first | (with_reducible exact HR432_1.out) | (with_reducible refine Kd.C_alloc ?_ _) | (with_reducible refine Kd.C_drewN ?_ _) | (with_reducible refine Kd.C_drew ?_) | exact HR432_1.out)) hb); have n6_ := Aside0.mk (Kd.C_below (by repeat (first | (with_reducible exact HR432_2.out) | (with_reducible refine Kd.C_alloc ?_ _) | (with_reducible refine Kd.C_drewN ?_ _) | (with_reducible refine Kd.C_drew ?_) | exact HR432_2.out)) hb); have n7_ := Aside0.mk (Kd.C_below (by repeat (first | (with_reducible exact HR436_1.out) | (with_reducible refine Kd.C_alloc ?_ _) | (with_reducible refine Kd.C_drewN ?_ _) | (with_reducible refine Kd.C_drew ?_) | exact HR436_1.out)) hb); have n8_ := Aside0.mk (Kd.C_below (by repeat (first | (with_reducible exact HR438_1.out) | (with_reducible refine Kd.C_alloc ?_ _) | (with_reducible refine Kd.C_drewN ?_ _) | (with_reducible refine Kd.C_drew ?_) | exact HR438_1.out)) hb); have n9_ := Aside0.mk (below_step (bU HB) hb); clear HO_5; clear HO_7; clear HL436_1; clear HL438_1; clear BK428; clear HR432_1; clear HR432_2; clear HR436_1; clear HR438_1; clear HB; have HO_5 := n0_; have HO_7 := n1_; have HL436_1 := n2_; have HL438_1 := n3_; have BK428 := n4_; have HR432_1 := n5_; have HR432_2 := n6_; have HR436_1 := n7_; have HR438_1 := n8_; have HB := n9_; clear n0_ n1_ n2_ n3_ n4_ n5_ n6_ n7_ n8_ n9_; (try clear hb); (try clear hb2); (try clear hk); (try clear hi)))
           go_ret
           exact ⟨eqU, bU HB⟩
          ·replace c17 := Bool.eq_false_iff.mpr c17
           subst c17
           have H1 : (some (⟨#[78, 69, 69, 68, 83, 45, 65, 67, 84, 73, 79, 78]⟩ : ByteArray)) = some r := by rw [if_neg (show ¬ (false = true) by decide)] at H; exact H
           clear H
           have H := H1
           clear H1
           obtain rfl := Option.some.inj H
           obtain ⟨Ao23, co23, eo23⟩ := Kd.N_slice HO_7.out
           subst eo23
           have p436 : 0 ≤ (x8_2 : Int) := of_decide_eq_true (by first | (with_reducible assumption) | assumption)
           have q436 : x8_2 < (t433.length : Int) := of_decide_eq_true (by first | (with_reducible assumption) | assumption)
           obtain ⟨ad436, A436_1, c436_1, e436, hx436_0, hx436_1, hx436_2, hl436_1, hi436_1⟩ := at_T45 (Kd.N_reads' HO_7.out).2.2 x8_2 p436 q436
           cases e436
           obtain ⟨ce436, hce436, hMe436, hcc436⟩ := Kd.N_get HO_7.out z45 x8_2 p436 (by first | exact q436 | exact of_decide_eq_true (by first | (with_reducible assumption) | assumption) | (have e_ := (Kd.N_reads' HO_7.out).1; omega))
           obtain ⟨ua436_1, uc436_1, rfl, ul436_1, ge436_1⟩ := k45_openF hMe436
           have hv436_1 := hcc436 1 _ rfl
           rw [add_field _ _ 1 (by omega)] at hv436_1
           replace hv436_1 := Option.some.inj (hv436_1.symm.trans hx436_1)
           injection hv436_1 with hva_ hvn_ hvc_
           rw [hva_] at ge436_1
           rw [hvc_] at ul436_1
           have HL436_1 := Aside0.mk (show Kd.V k77 77 _ w.heap.size _ _ ((rd_T45 t433 x8_2).f1) from Kd.V_mk ul436_1 ge436_1)
           clear hva_ hvn_ hvc_ ge436_1 ul436_1
           clear hcc436 hce436
           have HR436_1 := Aside0.mk hi436_1
           have HC436_1 := Aside0.mk hl436_1
           clear hi436_1 hl436_1
           replace p436 := eq_true p436
           replace q436 := eq_true q436
           go_wp2_with (first | ((with_reducible refine gate_callee (f := 69) rfl ?_); refine goesL_ (some 36) rfl rfl Try.func69 (by kernel_rfl) rfl #[.string ((rd_T45 t433 x8_2).f2), .string a1] rfl (by (try simp only [List.map_toArray, List.map_cons, List.map_nil]); first | done | rfl | (simp only [List.length_drop, List.length_take]; rfl)) ?_; (with_reducible refine (almanacref26_Alike.calls k2 ((rd_T45 t433 x8_2).f2) a1 true _ A14.out).mono ?_); rintro e w24 ⟨rfl, hb⟩; refine ⟨_, rfl, ?_⟩; have n0_ := Aside0.mk (Kd.N_below (by (with_reducible repeat (first | apply Kd.N_alloc | apply Kd.N_drewN | apply Kd.N_drew)); exact HO_5.out) hb); have n1_ := Aside0.mk (Kd.N_below (by (with_reducible repeat (first | apply Kd.N_alloc | apply Kd.N_drewN | apply Kd.N_drew)); exact HO_7.out) hb); have n2_ := Aside0.mk (Kd.V_below (by (with_reducible repeat (first | apply Kd.V_alloc | apply Kd.V_drewN | apply Kd.V_drew)); exact HL436_1.out) hb); have n3_ := Aside0.mk (blk_below (kU BK428) hb); have n4_ := Aside0.mk (Kd.C_below (by repeat (first | (with_reducible exact HR432_1.out) | (with_reducible refine Kd.C_alloc ?_ _) | (with_reducible refine Kd.C_drewN ?_ _) | (with_reducible refine Kd.C_drew ?_) | exact HR432_1.out)) hb); have n5_ := Aside0.mk (Kd.C_below (by repeat (first | (with_reducible exact HR432_2.out) | (with_reducible refine Kd.C_alloc ?_ _) | (with_reducible refine Kd.C_drewN ?_ _) | (with_reducible refine Kd.C_drew ?_) | exact HR432_2.out)) hb); have n6_ := Aside0.mk (Kd.C_below (by repeat (first | (with_reducible exact HR436_1.out) | (with_reducible refine Kd.C_alloc ?_ _) | (with_reducible refine Kd.C_drewN ?_ _) | (with_reducible refine Kd.C_drew ?_) | exact HR436_1.out)) hb); have n7_ := Aside0.mk (below_step (bU HB) hb); clear HO_5; clear HO_7; clear HL436_1; clear BK428; clear HR432_1; clear HR432_2; clear HR436_1; clear HB; have HO_5 := n0_; have HO_7 := n1_; have HL436_1 := n2_; have BK428 := n3_; have HR432_1 := n4_; have HR432_2 := n5_; have HR436_1 := n6_; have HB := n7_; clear n0_ n1_ n2_ n3_ n4_ n5_ n6_ n7_; (try clear hb); (try clear hb2); (try clear hk); (try clear hi); have p438 : 0 ≤ (x8_2 : Int) := of_decide_eq_true (by first | (with_reducible assumption) | assumption); have q438 : x8_2 < (t433.length : Int) := of_decide_eq_true (by first | (with_reducible assumption) | assumption); obtain ⟨ad438, A438_1, c438_1, e438, hx438_0, hx438_1, hx438_2, hl438_1, hi438_1⟩ := at_T45 (Kd.N_reads' HO_7.out).2.2 x8_2 p438 q438; obtain rfl : ad436 = ad438 := (by injection e438); obtain ⟨ce438, hce438, hMe438, hcc438⟩ := Kd.N_get HO_7.out z45 x8_2 p438 (by first | exact q438 | exact of_decide_eq_true (by first | (with_reducible assumption) | assumption) | (have e_ := (Kd.N_reads' HO_7.out).1; omega)); obtain ⟨ua438_1, uc438_1, rfl, ul438_1, ge438_1⟩ := k45_openF hMe438; have hv438_1 := hcc438 1 _ rfl; rw [add_field _ _ 1 (by omega)] at hv438_1; replace hv438_1 := Option.some.inj (hv438_1.symm.trans hx438_1); injection hv438_1 with hva_ hvn_ hvc_; rw [hva_] at ge438_1; rw [hvc_] at ul438_1; have HL438_1 := Aside0.mk (show Kd.V k77 77 _ w.heap.size _ _ ((rd_T45 t433 x8_2).f1) from Kd.V_mk ul438_1 ge438_1); clear hva_ hvn_ hvc_ ge438_1 ul438_1; clear hcc438 hce438; have HR438_1 := Aside0.mk hi438_1; have HC438_1 := Aside0.mk hl438_1; clear hi438_1 hl438_1; replace p438 := eq_true p438; replace q438 := eq_true q438) | ((with_reducible refine gate_callee (f := 70) rfl ?_); refine goesL_ (some 42) rfl rfl Try.func70 (by kernel_rfl) rfl #[.agg #[.string ((rd_T45 t433 x8_2).f0), .slice A438_1 ((rd_T45 t433 x8_2).f1).length c438_1, .string ((rd_T45 t433 x8_2).f2)], .string (⟨#[80, 65, 82, 84, 83, 84, 65, 84]⟩ : ByteArray)] rfl (by (try simp only [List.map_toArray, List.map_cons, List.map_nil]); first | done | rfl | (simp only [List.length_drop, List.length_take]; rfl)) ?_; (with_reducible refine (almanacref11_Param.calls k2 ((rd_T45 t433 x8_2).f0) _ _ ((rd_T45 t433 x8_2).f1) ((rd_T45 t433 x8_2).f2) (⟨#[80, 65, 82, 84, 83, 84, 65, 84]⟩ : ByteArray) t439 false _ ?side1 ?side2 A16.out).mono ?_); (case side1 => repeat (first | exact (by repeat (first | (with_reducible exact HR438_1.out) | (with_reducible refine Kd.C_alloc ?_ _) | (with_reducible refine Kd.C_drewN ?_ _) | (with_reducible refine Kd.C_drew ?_) | exact HR438_1.out)) | (with_reducible refine Kd.C_alloc ?_ _) | (with_reducible refine Kd.C_drewN ?_ _) | (with_reducible refine Kd.C_drew ?_))); (case side2 => exact HC438_1.out); rintro e w25 ⟨rfl, hb⟩; refine ⟨_, rfl, ?_⟩; have n0_ := Aside0.mk (Kd.N_below (by (with_reducible repeat (first | apply Kd.N_alloc | apply Kd.N_drewN | apply Kd.N_drew)); exact HO_5.out) hb); have n1_ := Aside0.mk (Kd.N_below (by (with_reducible repeat (first | apply Kd.N_alloc | apply Kd.N_drewN | apply Kd.N_drew)); exact HO_7.out) hb); have n2_ := Aside0.mk (Kd.V_below (by (with_reducible repeat (first | apply Kd.V_alloc | apply Kd.V_drewN | apply Kd.V_drew)); exact HL436_1.out) hb); have n3_ := Aside0.mk (Kd.V_below (by (with_reducible repeat (first | apply Kd.V_alloc | apply Kd.V_drewN | apply Kd.V_drew)); exact HL438_1.out) hb); have n4_ := Aside0.mk (blk_below (kU BK428) hb); have n5_ := Aside0.mk (Kd.C_below (by repeat (first | (with_reducible exact HR432_1.out) | (with_reducible refine Kd.C_alloc ?_ _) | (with_reducible refine Kd.C_drewN ?_ _) | (with_reducible refine Kd.C_drew ?_) | exact HR432_1.out)) hb); have n6_ := Aside0.mk (Kd.C_below (by repeat (first | (with_reducible exact HR432_2.out) | (with_reducible refine Kd.C_alloc ?_ _) | (with_reducible refine Kd.C_drewN ?_ _) | (with_reducible refine Kd.C_drew ?_) | exact HR432_2.out)) hb); have n7_ := Aside0.mk (Kd.C_below (by repeat (first | (with_reducible exact HR436_1.out) | (with_reducible refine Kd.C_alloc ?_ _) | (with_reducible refine Kd.C_drewN ?_ _) | (with_reducible refine Kd.C_drew ?_) | exact HR436_1.out)) hb); have n8_ := Aside0.mk (Kd.C_below (by repeat (first | (with_reducible exact HR438_1.out) | (with_reducible refine Kd.C_alloc ?_ _) | (with_reducible refine Kd.C_drewN ?_ _) | (with_reducible refine Kd.C_drew ?_) | exact HR438_1.out)) hb); have n9_ := Aside0.mk (below_step (bU HB) hb); clear HO_5; clear HO_7; clear HL436_1; clear HL438_1; clear BK428; clear HR432_1; clear HR432_2; clear HR436_1; clear HR438_1; clear HB; have HO_5 := n0_; have HO_7 := n1_; have HL436_1 := n2_; have HL438_1 := n3_; have BK428 := n4_; have HR432_1 := n5_; have HR432_2 := n6_; have HR436_1 := n7_; have HR438_1 := n8_; have HB := n9_; clear n0_ n1_ n2_ n3_ n4_ n5_ n6_ n7_ n8_ n9_; (try clear hb); (try clear hb2); (try clear hk); (try clear hi)))
           go_ret
           exact ⟨eqU, bU HB⟩
         ·replace c15 := Bool.eq_false_iff.mpr c15
          subst c15
          have H1 : (almanacref26_Status.l1 k2 a1 t429 x6_1 t433 (wrap64 (x8_2 + 1))) = some r := by rw [if_neg (show ¬ (false = true) by decide)] at H; exact H
          clear H
          have H := H1
          clear H1
          have H' := Aside0.mk H
          clear H
          obtain ⟨Ao26, co26, eo26⟩ := Kd.N_slice HO_7.out
          subst eo26
          have p436 : 0 ≤ (x8_2 : Int) := of_decide_eq_true (by first | (with_reducible assumption) | assumption)
          have q436 : x8_2 < (t433.length : Int) := of_decide_eq_true (by first | (with_reducible assumption) | assumption)
          obtain ⟨ad436, A436_1, c436_1, e436, hx436_0, hx436_1, hx436_2, hl436_1, hi436_1⟩ := at_T45 (Kd.N_reads' HO_7.out).2.2 x8_2 p436 q436
          cases e436
          obtain ⟨ce436, hce436, hMe436, hcc436⟩ := Kd.N_get HO_7.out z45 x8_2 p436 (by first | exact q436 | exact of_decide_eq_true (by first | (with_reducible assumption) | assumption) | (have e_ := (Kd.N_reads' HO_7.out).1; omega))
          obtain ⟨ua436_1, uc436_1, rfl, ul436_1, ge436_1⟩ := k45_openF hMe436
          have hv436_1 := hcc436 1 _ rfl
          rw [add_field _ _ 1 (by omega)] at hv436_1
          replace hv436_1 := Option.some.inj (hv436_1.symm.trans hx436_1)
          injection hv436_1 with hva_ hvn_ hvc_
          rw [hva_] at ge436_1
          rw [hvc_] at ul436_1
          have HL436_1 := Aside0.mk (show Kd.V k77 77 _ w.heap.size _ _ ((rd_T45 t433 x8_2).f1) from Kd.V_mk ul436_1 ge436_1)
          clear hva_ hvn_ hvc_ ge436_1 ul436_1
          clear hcc436 hce436
          have HR436_1 := Aside0.mk hi436_1
          have HC436_1 := Aside0.mk hl436_1
          clear hi436_1 hl436_1
          replace p436 := eq_true p436
          replace q436 := eq_true q436
          go_wp2_with (first | ((with_reducible refine gate_callee (f := 69) rfl ?_); refine goesL_ (some 36) rfl rfl Try.func69 (by kernel_rfl) rfl #[.string ((rd_T45 t433 x8_2).f2), .string a1] rfl (by (try simp only [List.map_toArray, List.map_cons, List.map_nil]); first | done | rfl | (simp only [List.length_drop, List.length_take]; rfl)) ?_; (with_reducible refine (almanacref26_Alike.calls k2 ((rd_T45 t433 x8_2).f2) a1 false _ A14.out).mono ?_); rintro e w27 ⟨rfl, hb⟩; refine ⟨_, rfl, ?_⟩; have n0_ := Aside0.mk (Kd.N_below (by (with_reducible repeat (first | apply Kd.N_alloc | apply Kd.N_drewN | apply Kd.N_drew)); exact HO_5.out) hb); have n1_ := Aside0.mk (Kd.N_below (by (with_reducible repeat (first | apply Kd.N_alloc | apply Kd.N_drewN | apply Kd.N_drew)); exact HO_7.out) hb); have n2_ := Aside0.mk (Kd.V_below (by (with_reducible repeat (first | apply Kd.V_alloc | apply Kd.V_drewN | apply Kd.V_drew)); exact HL436_1.out) hb); have n3_ := Aside0.mk (blk_below (kU BK428) hb); have n4_ := Aside0.mk (Kd.C_below (by repeat (first | (with_reducible exact HR432_1.out) | (with_reducible refine Kd.C_alloc ?_ _) | (with_reducible refine Kd.C_drewN ?_ _) | (with_reducible refine Kd.C_drew ?_) | exact HR432_1.out)) hb); have n5_ := Aside0.mk (Kd.C_below (by repeat (first | (with_reducible exact HR432_2.out) | (with_reducible refine Kd.C_alloc ?_ _) | (with_reducible refine Kd.C_drewN ?_ _) | (with_reducible refine Kd.C_drew ?_) | exact HR432_2.out)) hb); have n6_ := Aside0.mk (Kd.C_below (by repeat (first | (with_reducible exact HR436_1.out) | (with_reducible refine Kd.C_alloc ?_ _) | (with_reducible refine Kd.C_drewN ?_ _) | (with_reducible refine Kd.C_drew ?_) | exact HR436_1.out)) hb); have n7_ := Aside0.mk (below_step (bU HB) hb); clear HO_5; clear HO_7; clear HL436_1; clear BK428; clear HR432_1; clear HR432_2; clear HR436_1; clear HB; have HO_5 := n0_; have HO_7 := n1_; have HL436_1 := n2_; have BK428 := n3_; have HR432_1 := n4_; have HR432_2 := n5_; have HR436_1 := n6_; have HB := n7_; clear n0_ n1_ n2_ n3_ n4_ n5_ n6_ n7_; (try clear hb); (try clear hb2); (try clear hk); (try clear hi)))
          go_roundg k2
          case measure => have := HK1.out; have := HK2.out; omega
          case rel => exact ⟨(wrap64 (x8_2 + 1)), (by first | rfl | (simp; done) | (simp [*]; done)), H', ⟨by have := HK1.out; have := HK2.out; omega⟩, ⟨by (with_reducible repeat (first | apply Kd.N_alloc | apply Kd.N_drewN | apply Kd.N_drew)); exact HO_5.out⟩, ⟨by (with_reducible repeat (first | apply Kd.N_alloc | apply Kd.N_drewN | apply Kd.N_drew)); exact HO_7.out⟩, ⟨kU BK428⟩, ⟨by repeat (first | (with_reducible exact HR432_1.out) | (with_reducible refine Kd.C_alloc ?_ _) | (with_reducible refine Kd.C_drewN ?_ _) | (with_reducible refine Kd.C_drew ?_) | exact HR432_1.out)⟩, ⟨by repeat (first | (with_reducible exact HR432_2.out) | (with_reducible refine Kd.C_alloc ?_ _) | (with_reducible refine Kd.C_drewN ?_ _) | (with_reducible refine Kd.C_drew ?_) | exact HR432_2.out)⟩, ⟨bU HB⟩⟩
        ·rw [if_neg c13] at H
         exact absurd H (by simp)
       ·rw [if_neg c12] at H
        have c12b0 : decide (x8_2 < (t433.length : Int)) = false := decide_eq_false c12
        clear c12
        have H' := Aside0.mk H
        clear H
        obtain ⟨Ao28, co28, eo28⟩ := Kd.N_slice HO_7.out
        subst eo28
        go_wp2
        go_roundg k2
        case measure => have := HK1.out; have := HK2.out; omega
        case rel => exact ⟨(wrap64 (x6_1 + 1)), (by first | rfl | (simp; done) | (simp [*]; done)), H', ⟨by have := HK1.out; have := HK2.out; omega⟩, ⟨by (with_reducible repeat (first | apply Kd.N_alloc | apply Kd.N_drewN | apply Kd.N_drew)); exact Kd.N_mono HO_5.out (fun _ hk => hk.2)⟩, ⟨kU BK428⟩, ⟨bU HB⟩⟩
    ·rw [if_neg c8] at H
     exact absurd H (by simp)
   ·rw [if_neg c7] at H
    have c7b0 : decide (x6_1 < (t429.length : Int)) = false := decide_eq_false c7
    clear c7
    obtain rfl := Option.some.inj H
    obtain ⟨Ao29, co29, eo29⟩ := Kd.N_slice HO_5.out
    subst eo29
    go_wp2
    go_ret
    exact ⟨eqU, bU HB⟩
end Go.Proofs.Ytebmbfobmakheaa.PD
namespace Go.Proofs.Ytebmbfobmakheaa.PD
open Go.RowKit Go.Proofs.YtebmbfobmakheaaW.PrintWords Go.Proofs.YtebmbfobmakheaaW.PrintLast Go.Proofs.YtebmbfobmakheaaW.PrintMore
attribute [local go_sem] isSome_setCell max2_int min2_int max_two min_two max_three min_three max_four min_four
set_option linter.unusedVariables false
set_option linter.unusedSimpArgs false
mutual
def almanacref12_Same.j0 : Nat → Bool → ByteArray → List (S45) → List (S25) → ByteArray → List (S45) → List (S25) → Option (Bool)
 | 0, _, _, _, _, _, _, _ => none
 | k + 1, x27, x385000, x385001, x385002, x386000, x386001, x386002 => if x27 = true then (some false) else (almanacref12_Same.l0 k 0 x385000 x385001 x385002 x386000 x386001 x386002)
def almanacref12_Same.l0 : Nat → Int → ByteArray → List (S45) → List (S25) → ByteArray → List (S45) → List (S25) → Option (Bool)
 | 0, _, _, _, _, _, _, _ => none
 | k + 1, x5, x385000, x385001, x385002, x386000, x386001, x386002 => if x5 < (x385002.length : Int) then (if 0 ≤ x5 then (if x5 < (x386002.length : Int) then ((almanacref12_Same.f k ((rd_T25 x385002 x5).f0) ((rd_T25 x385002 x5).f1) ((rd_T25 x385002 x5).f2) ((rd_T25 x386002 x5).f0) ((rd_T25 x386002 x5).f1) ((rd_T25 x386002 x5).f2)).bind fun t389 => (if t389 = true then (almanacref12_Same.l0 k (wrap64 (x5 + 1)) x385000 x385001 x385002 x386000 x386001 x386002) else (some false))) else (none)) else (none)) else (some true)
def almanacref12_Same.f : Nat → ByteArray → List (S45) → List (S25) → ByteArray → List (S45) → List (S25) → Option (Bool)
 | 0, _, _, _, _, _, _ => none
 | k + 1, a0_0, l0_1, l0_2, a1_0, l1_1, l1_2 => if a0_0.toList = a1_0.toList then ((almanacref12_Rows.f k l0_1 l1_1).bind fun t386 => (if t386 = true then (almanacref12_Same.j0 k ((l0_2.length : Int) != (l1_2.length : Int)) a0_0 l0_1 l0_2 a1_0 l1_1 l1_2) else (almanacref12_Same.j0 k true a0_0 l0_1 l0_2 a1_0 l1_1 l1_2))) else (almanacref12_Same.j0 k true a0_0 l0_1 l0_2 a1_0 l1_1 l1_2)
end
def almanacref12_Same.T6 : Bool × List (List Nat × List Nat) := (true, [([], []), ([0], [0]), ([], []), ([1, 2], [1, 2]), ([3], [3]), ([], []), ([5], [5]), ([], []), ([6, 7], [6, 7]), ([8], [8]), ([4, 9], [4, 9]), ([10], [10])])
def almanacref12_Same.B6 : List Nat := [0, 1, 0, 7, 15, 0, 32, 0, 224, 480, 1023, 2047]
theorem almanacref12_Same.tab6 : rtab .any (opsOf Try.f25 6) = almanacref12_Same.T6 := by kernel_rfl
theorem almanacref12_Same.bits6 : waitsOk almanacref12_Same.T6.2 almanacref12_Same.B6 = true := by kernel_rfl
set_option maxHeartbeats 8000000 in
set_option maxRecDepth 100000 in
theorem almanacref12_Same.calls (k : Nat) : ∀ (a0_0 : ByteArray) (A0_1 : Option Addr) (c0_1 : Nat) (l0_1 : List (S45)) (A0_2 : Option Addr) (c0_2 : Nat) (l0_2 : List (S25)) (a1_0 : ByteArray) (A1_1 : Option Addr) (c1_1 : Nat) (l1_1 : List (S45)) (A1_2 : Option Addr) (c1_2 : Nat) (l1_2 : List (S25)) (r : Bool) (w : World) (hr0_1 : Kd.C k45 w A0_1 l0_1.length l0_1) (hc0_1 : l0_1.length ≤ c0_1) (hr0_2 : Kd.C k25 w A0_2 l0_2.length l0_2) (hc0_2 : l0_2.length ≤ c0_2) (hr1_1 : Kd.C k45 w A1_1 l1_1.length l1_1) (hc1_1 : l1_1.length ≤ c1_1) (hr1_2 : Kd.C k25 w A1_2 l1_2.length l1_2) (hc1_2 : l1_2.length ≤ c1_2) (h : almanacref12_Same.f k a0_0 l0_1 l0_2 a1_0 l1_1 l1_2 = some r),
  Calls Try.prog 25 #[.agg #[.string a0_0, .slice A0_1 l0_1.length c0_1, .slice A0_2 l0_2.length c0_2], .agg #[.string a1_0, .slice A1_1 l1_1.length c1_1, .slice A1_2 l1_2.length c1_2]] w fun e w' => e = .returned (.bool r) ∧ Below w.heap.size w w' := by
 induction k using Nat.strongRecOn with
 | _ k ih =>
 intro a0_0 A0_1 c0_1 l0_1 A0_2 c0_2 l0_2 a1_0 A1_1 c1_1 l1_1 A1_2 c1_2 l1_2 r w hr0_1 hc0_1 hr0_2 hc0_2 hr1_1 hc1_1 hr1_2 hc1_2 h
 cases k with
 | zero => exact absurd h (by simp [almanacref12_Same.f])
 | succ k =>
 simp only [almanacref12_Same.f] at h
 have hu25 := Try.underlying25
 have HR0_1 := Aside0.mk hr0_1
 have HC0_1 := Aside0.mk hc0_1
 clear hr0_1 hc0_1
 have HR0_2 := Aside0.mk hr0_2
 have HC0_2 := Aside0.mk hc0_2
 clear hr0_2 hc0_2
 have HR1_1 := Aside0.mk hr1_1
 have HC1_1 := Aside0.mk hc1_1
 clear hr1_1 hc1_1
 have HR1_2 := Aside0.mk hr1_2
 have HC1_2 := Aside0.mk hc1_2
 clear hr1_2 hc1_2
 have HB := Aside0.mk (Below.refl w.heap.size w)
 have H : (if a0_0.toList = a1_0.toList then ((almanacref12_Rows.f k l0_1 l1_1).bind fun t386 => (if t386 = true then (almanacref12_Same.j0 k ((l0_2.length : Int) != (l1_2.length : Int)) a0_0 l0_1 l0_2 a1_0 l1_1 l1_2) else (almanacref12_Same.j0 k true a0_0 l0_1 l0_2 a1_0 l1_1 l1_2))) else (almanacref12_Same.j0 k true a0_0 l0_1 l0_2 a1_0 l1_1 l1_2)) = some r := h
 clear h
 have HC3 := Aside0.mk H
 clear H
 go_enter Try.func25, Try.ntmps25
 go_upto_region 1 with (first | ((with_reducible refine gate_dst (N := 2) rfl ?_); (try (refine gate_guard (by rfl) ?_; dsimp only)); refine box_event ?hg (N := 2) ?hd (cs := #[.string a0_0, .slice A0_1 l0_1.length c0_1, .slice A0_2 l0_2.length c0_2]) (t := 25) ?hr ?_; (case hd => rfl); (case hg => rfl); (case hr => first | (go_simp; done) | (go_simp; rfl)); intro gb384 hg w4 hbox hb; have n0_ := Aside0.mk (below_step (bU HB) hb); have n1_ := Aside0.mk (hbox); have n2_ := Aside0.mk ((by rw [hg]; exact (below_size (bU HB)) : w.heap.size ≤ gb384)); have n3_ := Aside0.mk ((by rw [hg]; exact (below_size (bU HB)) : w.heap.size ≤ gb384)); clear HB; have HB := n0_; have BK384 := n1_; have GW384 := n2_; have GE384 := n3_; clear n0_ n1_ n2_ n3_; clear hb hbox hg) | ((with_reducible refine gate_dst (N := 3) rfl ?_); (try (refine gate_guard (by rfl) ?_; dsimp only)); refine box_event ?hg (N := 3) ?hd (cs := #[.string a1_0, .slice A1_1 l1_1.length c1_1, .slice A1_2 l1_2.length c1_2]) (t := 25) ?hr ?_; (case hd => rfl); (case hg => rfl); (case hr => first | (go_simp; done) | (go_simp; rfl)); intro gb385 hg w5 hbox hb; have n0_ := Aside0.mk (blk_below (kU BK384) hb); have n1_ := Aside0.mk (below_step (bU HB) hb); have n2_ := Aside0.mk (hbox); have n3_ := Aside0.mk ((by rw [hg]; exact (below_size (bU HB)) : w.heap.size ≤ gb385)); have n4_ := Aside0.mk ((by rw [hg]; exact (below_size (bU HB)) : w.heap.size ≤ gb385)); have n5_ := Aside0.mk ((by rw [hg]; exact Nat.ne_of_lt (blk_lt (g := gb384) (o := .cells #[.string a0_0, .slice A0_1 l0_1.length c0_1, .slice A0_2 l0_2.length c0_2] 25 (0, 0)) (kU BK384)) : gb384 ≠ gb385)); have n6_ := Aside0.mk ((by rw [hg]; exact Nat.ne_of_gt (blk_lt (g := gb384) (o := .cells #[.string a0_0, .slice A0_1 l0_1.length c0_1, .slice A0_2 l0_2.length c0_2] 25 (0, 0)) (kU BK384)) : gb385 ≠ gb384)); clear BK384; clear HB; have BK384 := n0_; have HB := n1_; have BK385 := n2_; have GW385 := n3_; have GE385 := n4_; have NB384_385 := n5_; have NB385_384 := n6_; clear n0_ n1_ n2_ n3_ n4_ n5_ n6_; clear hb hbox hg))
 (try simp only [Act.put, List.setIfInBounds_toArray, List.set_cons_zero, List.set_cons_succ])
 go_cut [27] (fun v27 wc => ∃ (kq : Nat) (x27_2 : Bool), v27 = .bool x27_2 ∧ Aside0 (almanacref12_Same.j0 kq x27_2 a0_0 l0_1 l0_2 a1_0 l1_1 l1_2 = some r) ∧ Aside0 (kq ≤ k) ∧ Aside0 (wc.heap[gb384]? = some (.cells #[.string a0_0, (.slice A0_1 l0_1.length c0_1), (.slice A0_2 l0_2.length c0_2)] 25 (0, 0))) ∧ Aside0 (wc.heap[gb385]? = some (.cells #[.string a1_0, (.slice A1_1 l1_1.length c1_1), (.slice A1_2 l1_2.length c1_2)] 25 (0, 0))) ∧ Aside0 (Below w.heap.size w wc))
 case first =>
  have H := HC3.out
  clear HC3
  by_cases c6 : a0_0.toList = a1_0.toList
  ·rw [if_pos c6] at H
   have c6b0 : (a0_0.toList == a1_0.toList) = true := beq_iff_eq.mpr c6
   have c6b1 : (a0_0.toList != a1_0.toList) = false := bne_eq_false_iff_eq.mpr c6
   clear c6
   (first | rw [c6b0] | (simp only [i64_w, i32_w]; rw [c6b0]) | skip)
   replace H := Option.bind_eq_some_iff.mp H
   obtain ⟨t386, A70, H⟩ := H
   replace H : (if t386 = true then (almanacref12_Same.j0 k ((l0_2.length : Int) != (l1_2.length : Int)) a0_0 l0_1 l0_2 a1_0 l1_1 l1_2) else (almanacref12_Same.j0 k true a0_0 l0_1 l0_2 a1_0 l1_1 l1_2)) = some r := H
   have A7 := Aside0.mk A70
   clear A70
   by_cases c8 : t386 = true
   ·subst c8
    have H1 : (almanacref12_Same.j0 k ((l0_2.length : Int) != (l1_2.length : Int)) a0_0 l0_1 l0_2 a1_0 l1_1 l1_2) = some r := by rw [if_pos rfl] at H; exact H
    clear H
    have H := H1
    clear H1
    have H' := Aside0.mk H
    clear H
    have hnb9 := NB384_385.out
    have hnc9 := NB385_384.out
    have hcz10_0 : w5.cell? ⟨gb384, 0, none⟩ = some (.string a0_0) := (blk_cell BK384.out 0).trans rfl
    have hcz10_1 : w5.cell? ⟨gb384, 1, none⟩ = some (.slice A0_1 l0_1.length c0_1) := (blk_cell BK384.out 1).trans rfl
    have hcz10_2 : w5.cell? ⟨gb384, 2, none⟩ = some (.slice A0_2 l0_2.length c0_2) := (blk_cell BK384.out 2).trans rfl
    have hfz10_0 := blk_frozen BK384.out 0
    have hfz10_1 := blk_frozen BK384.out 1
    have hfz10_2 := blk_frozen BK384.out 2
    have hcz11_0 : w5.cell? ⟨gb385, 0, none⟩ = some (.string a1_0) := (blk_cell BK385.out 0).trans rfl
    have hcz11_1 : w5.cell? ⟨gb385, 1, none⟩ = some (.slice A1_1 l1_1.length c1_1) := (blk_cell BK385.out 1).trans rfl
    have hcz11_2 : w5.cell? ⟨gb385, 2, none⟩ = some (.slice A1_2 l1_2.length c1_2) := (blk_cell BK385.out 2).trans rfl
    have hfz11_0 := blk_frozen BK385.out 0
    have hfz11_1 := blk_frozen BK385.out 1
    have hfz11_2 := blk_frozen BK385.out 2
    go_wp2_with (first | (go_at_call 57; (with_reducible refine (almanacref12_Rows.calls k _ _ l0_1 _ _ l1_1 true _ ?side1 ?side2 ?side3 ?side4 A7.out).mono ?_); (case side1 => exact cU (Kd.C_below HR0_1.out HB.out)); (case side2 => exact HC0_1.out); (case side3 => exact cU (Kd.C_below HR1_1.out HB.out)); (case side4 => exact HC1_1.out); rintro e w12 ⟨rfl, hb⟩; have n0_ := Aside0.mk (blk_below (kU BK384) hb); have n1_ := Aside0.mk (blk_below (kU BK385) hb); have n2_ := Aside0.mk (below_step (bU HB) hb); clear BK384; clear BK385; clear HB; have BK384 := n0_; have BK385 := n1_; have HB := n2_; clear n0_ n1_ n2_; (try clear hb); (try clear hb2); (try clear hk); (try clear hi); have hcz13_0 : w12.cell? ⟨gb384, 0, none⟩ = some (.string a0_0) := (blk_cell BK384.out 0).trans rfl; have hcz13_1 : w12.cell? ⟨gb384, 1, none⟩ = some (.slice A0_1 l0_1.length c0_1) := (blk_cell BK384.out 1).trans rfl; have hcz13_2 : w12.cell? ⟨gb384, 2, none⟩ = some (.slice A0_2 l0_2.length c0_2) := (blk_cell BK384.out 2).trans rfl; have hfz13_0 := blk_frozen BK384.out 0; have hfz13_1 := blk_frozen BK384.out 1; have hfz13_2 := blk_frozen BK384.out 2; have hcz14_0 : w12.cell? ⟨gb385, 0, none⟩ = some (.string a1_0) := (blk_cell BK385.out 0).trans rfl; have hcz14_1 : w12.cell? ⟨gb385, 1, none⟩ = some (.slice A1_1 l1_1.length c1_1) := (blk_cell BK385.out 1).trans rfl; have hcz14_2 : w12.cell? ⟨gb385, 2, none⟩ = some (.slice A1_2 l1_2.length c1_2) := (blk_cell BK385.out 2).trans rfl; have hfz14_0 := blk_frozen BK385.out 0; have hfz14_1 := blk_frozen BK385.out 1; have hfz14_2 := blk_frozen BK385.out 2))
    go_meet
    case rel => exact ⟨_, (((l0_2.length : Int) != (l1_2.length : Int))), (by first | rfl | (simp; done) | (simp [*]; done)), H', ⟨by first | omega | exact Nat.le_refl _⟩, ⟨kU BK384⟩, ⟨kU BK385⟩, ⟨bU HB⟩⟩
   ·replace c8 := Bool.eq_false_iff.mpr c8
    subst c8
    have H1 : (almanacref12_Same.j0 k true a0_0 l0_1 l0_2 a1_0 l1_1 l1_2) = some r := by rw [if_neg (show ¬ (false = true) by decide)] at H; exact H
    clear H
    have H := H1
    clear H1
    have H' := Aside0.mk H
    clear H
    have hnb15 := NB384_385.out
    have hnc15 := NB385_384.out
    have hcz16_0 : w5.cell? ⟨gb384, 0, none⟩ = some (.string a0_0) := (blk_cell BK384.out 0).trans rfl
    have hcz16_1 : w5.cell? ⟨gb384, 1, none⟩ = some (.slice A0_1 l0_1.length c0_1) := (blk_cell BK384.out 1).trans rfl
    have hcz16_2 : w5.cell? ⟨gb384, 2, none⟩ = some (.slice A0_2 l0_2.length c0_2) := (blk_cell BK384.out 2).trans rfl
    have hfz16_0 := blk_frozen BK384.out 0
    have hfz16_1 := blk_frozen BK384.out 1
    have hfz16_2 := blk_frozen BK384.out 2
    have hcz17_0 : w5.cell? ⟨gb385, 0, none⟩ = some (.string a1_0) := (blk_cell BK385.out 0).trans rfl
    have hcz17_1 : w5.cell? ⟨gb385, 1, none⟩ = some (.slice A1_1 l1_1.length c1_1) := (blk_cell BK385.out 1).trans rfl
    have hcz17_2 : w5.cell? ⟨gb385, 2, none⟩ = some (.slice A1_2 l1_2.length c1_2) := (blk_cell BK385.out 2).trans rfl
    have hfz17_0 := blk_frozen BK385.out 0
    have hfz17_1 := blk_frozen BK385.out 1
    have hfz17_2 := blk_frozen BK385.out 2
    go_wp2_with (first | (go_at_call 57; (with_reducible refine (almanacref12_Rows.calls k _ _ l0_1 _ _ l1_1 false _ ?side1 ?side2 ?side3 ?side4 A7.out).mono ?_); (case side1 => exact cU (Kd.C_below HR0_1.out HB.out)); (case side2 => exact HC0_1.out); (case side3 => exact cU (Kd.C_below HR1_1.out HB.out)); (case side4 => exact HC1_1.out); rintro e w18 ⟨rfl, hb⟩; have n0_ := Aside0.mk (blk_below (kU BK384) hb); have n1_ := Aside0.mk (blk_below (kU BK385) hb); have n2_ := Aside0.mk (below_step (bU HB) hb); clear BK384; clear BK385; clear HB; have BK384 := n0_; have BK385 := n1_; have HB := n2_; clear n0_ n1_ n2_; (try clear hb); (try clear hb2); (try clear hk); (try clear hi)))
    go_meet
    case rel => exact ⟨_, (true), (by first | rfl | (simp; done) | (simp [*]; done)), H', ⟨by first | omega | exact Nat.le_refl _⟩, ⟨kU BK384⟩, ⟨kU BK385⟩, ⟨bU HB⟩⟩
  ·rw [if_neg c6] at H
   have c6b0 : (a0_0.toList == a1_0.toList) = false := beq_eq_false_iff_ne.mpr c6
   have c6b1 : (a0_0.toList != a1_0.toList) = true := bne_iff_ne.mpr c6
   (first | rw [c6b0] | (simp only [i64_w, i32_w]; rw [c6b0]) | skip)
   have H' := Aside0.mk H
   clear H
   have hnb19 := NB384_385.out
   have hnc19 := NB385_384.out
   have hcz20_0 : w5.cell? ⟨gb384, 0, none⟩ = some (.string a0_0) := (blk_cell BK384.out 0).trans rfl
   have hcz20_1 : w5.cell? ⟨gb384, 1, none⟩ = some (.slice A0_1 l0_1.length c0_1) := (blk_cell BK384.out 1).trans rfl
   have hcz20_2 : w5.cell? ⟨gb384, 2, none⟩ = some (.slice A0_2 l0_2.length c0_2) := (blk_cell BK384.out 2).trans rfl
   have hfz20_0 := blk_frozen BK384.out 0
   have hfz20_1 := blk_frozen BK384.out 1
   have hfz20_2 := blk_frozen BK384.out 2
   have hcz21_0 : w5.cell? ⟨gb385, 0, none⟩ = some (.string a1_0) := (blk_cell BK385.out 0).trans rfl
   have hcz21_1 : w5.cell? ⟨gb385, 1, none⟩ = some (.slice A1_1 l1_1.length c1_1) := (blk_cell BK385.out 1).trans rfl
   have hcz21_2 : w5.cell? ⟨gb385, 2, none⟩ = some (.slice A1_2 l1_2.length c1_2) := (blk_cell BK385.out 2).trans rfl
   have hfz21_0 := blk_frozen BK385.out 0
   have hfz21_1 := blk_frozen BK385.out 1
   have hfz21_2 := blk_frozen BK385.out 2
   go_wp2
   go_meet
   case rel => exact ⟨_, (true), (by first | rfl | (simp; done) | (simp [*]; done)), H', ⟨by first | omega | exact Nat.le_refl _⟩, ⟨kU BK384⟩, ⟨kU BK385⟩, ⟨bU HB⟩⟩
 case rest =>
  clear HC3
  try clear c1
  try clear c2
  try clear p2
  try clear c6
  try clear c6b0
  try clear c6b1
  try clear c8
  try clear c9
  try clear c15
  try clear c19
  try clear hcz10_0 hcz10_1 hcz10_2 hfz10_0 hfz10_1 hfz10_2
  try clear hcz11_0 hcz11_1 hcz11_2 hfz11_0 hfz11_1 hfz11_2
  try clear hcz13_0 hcz13_1 hcz13_2 hfz13_0 hfz13_1 hfz13_2
  try clear hcz14_0 hcz14_1 hcz14_2 hfz14_0 hfz14_1 hfz14_2
  try clear hcz16_0 hcz16_1 hcz16_2 hfz16_0 hfz16_1 hfz16_2
  try clear hcz17_0 hcz17_1 hcz17_2 hfz17_0 hfz17_1 hfz17_2
  try clear hcz20_0 hcz20_1 hcz20_2 hfz20_0 hfz20_1 hfz20_2
  try clear hcz21_0 hcz21_1 hcz21_2 hfz21_0 hfz21_1 hfz21_2
  obtain ⟨kq, x27_2, rfl, HA, HJ2, BK384, BK385, HB⟩ := hcut
  cases kq with
  | zero => exact absurd HA.out (by simp [almanacref12_Same.j0])
  | succ kj2 =>
   have H := HA.out
   clear HA
   simp only [almanacref12_Same.j0] at H
   by_cases c22 : x27_2 = true
   ·subst c22
    have H1 : (some false) = some r := by rw [if_pos rfl] at H; exact H
    clear H
    have H := H1
    clear H1
    obtain rfl := Option.some.inj H
    go_wp2
    go_ret
    exact ⟨eqU, bU HB⟩
   ·replace c22 := Bool.eq_false_iff.mpr c22
    subst c22
    have H1 : (almanacref12_Same.l0 kj2 0 a0_0 l0_1 l0_2 a1_0 l1_1 l1_2) = some r := by rw [if_neg (show ¬ (false = true) by decide)] at H; exact H
    clear H
    have H := H1
    clear H1
    have H' := Aside0.mk H
    clear H
    go_wp2
    go_loopg [5] kj2 (fun kq v5 w' => ∃ (x5_2 : Int), v5 = .int .i64 x5_2 ∧ Aside0 (almanacref12_Same.l0 kq x5_2 a0_0 l0_1 l0_2 a1_0 l1_1 l1_2 = some r) ∧ Aside0 (kq ≤ kj2) ∧ Aside0 (w'.heap[gb384]? = some (.cells #[.string a0_0, (.slice A0_1 l0_1.length c0_1), (.slice A0_2 l0_2.length c0_2)] 25 (0, 0))) ∧ Aside0 (w'.heap[gb385]? = some (.cells #[.string a1_0, (.slice A1_1 l1_1.length c1_1), (.slice A1_2 l1_2.length c1_2)] 25 (0, 0))) ∧ Aside0 (Below w.heap.size w w'))
    case atStart => exact ⟨(0), (by first | rfl | (simp; done) | (simp [*]; done)), H', ⟨Nat.le_refl _⟩, ⟨kU BK384⟩, ⟨kU BK385⟩, ⟨bU HB⟩⟩
    case round =>
     clear H'
     try clear c1
     try clear c2
     try clear p2
     try clear c6
     try clear c6b0
     try clear c6b1
     try clear c8
     try clear c9
     try clear c15
     try clear c19
     try clear c22
     try clear hcz10_0 hcz10_1 hcz10_2 hfz10_0 hfz10_1 hfz10_2
     try clear hcz11_0 hcz11_1 hcz11_2 hfz11_0 hfz11_1 hfz11_2
     try clear hcz13_0 hcz13_1 hcz13_2 hfz13_0 hfz13_1 hfz13_2
     try clear hcz14_0 hcz14_1 hcz14_2 hfz14_0 hfz14_1 hfz14_2
     try clear hcz16_0 hcz16_1 hcz16_2 hfz16_0 hfz16_1 hfz16_2
     try clear hcz17_0 hcz17_1 hcz17_2 hfz17_0 hfz17_1 hfz17_2
     try clear hcz20_0 hcz20_1 hcz20_2 hfz20_0 hfz20_1 hfz20_2
     try clear hcz21_0 hcz21_1 hcz21_2 hfz21_0 hfz21_1 hfz21_2
     try clear p2
     obtain ⟨x5_2, rfl, HA, HK2, BK384, BK385, HB⟩ := hrel
     cases gk with
     | zero => exact absurd HA.out (by simp [almanacref12_Same.l0])
     | succ k2 =>
      have H := HA.out
      clear HA
      simp only [almanacref12_Same.l0] at H
      by_cases c23 : x5_2 < (l0_2.length : Int)
      ·rw [if_pos c23] at H
       have c23b0 : decide (x5_2 < (l0_2.length : Int)) = true := decide_eq_true c23
       clear c23
       by_cases c24 : 0 ≤ x5_2
       ·rw [if_pos c24] at H
        have c24b0 : decide (0 ≤ x5_2) = true := decide_eq_true c24
        clear c24
        by_cases c25 : x5_2 < (l1_2.length : Int)
        ·rw [if_pos c25] at H
         have c25b0 : decide (x5_2 < (l1_2.length : Int)) = true := decide_eq_true c25
         clear c25
         replace H := Option.bind_eq_some_iff.mp H
         obtain ⟨t389, A260, H⟩ := H
         replace H : (if t389 = true then (almanacref12_Same.l0 k2 (wrap64 (x5_2 + 1)) a0_0 l0_1 l0_2 a1_0 l1_1 l1_2) else (some false)) = some r := H
         have A26 := Aside0.mk A260
         clear A260
         by_cases c27 : t389 = true
         ·subst c27
          have H1 : (almanacref12_Same.l0 k2 (wrap64 (x5_2 + 1)) a0_0 l0_1 l0_2 a1_0 l1_1 l1_2) = some r := by rw [if_pos rfl] at H; exact H
          clear H
          have H := H1
          clear H1
          have H' := Aside0.mk H
          clear H
          have hnb28 := NB384_385.out
          have hnc28 := NB385_384.out
          have hcz29_0 : wr.cell? ⟨gb384, 0, none⟩ = some (.string a0_0) := (blk_cell BK384.out 0).trans rfl
          have hcz29_1 : wr.cell? ⟨gb384, 1, none⟩ = some (.slice A0_1 l0_1.length c0_1) := (blk_cell BK384.out 1).trans rfl
          have hcz29_2 : wr.cell? ⟨gb384, 2, none⟩ = some (.slice A0_2 l0_2.length c0_2) := (blk_cell BK384.out 2).trans rfl
          have hfz29_0 := blk_frozen BK384.out 0
          have hfz29_1 := blk_frozen BK384.out 1
          have hfz29_2 := blk_frozen BK384.out 2
          try go_wp2
          have n0_ := Aside0.mk (blk_drew BK384.out)
          have n1_ := Aside0.mk (blk_drew BK385.out)
          have n2_ := Aside0.mk (below_drew1 HB.out)
          clear BK384
          clear BK385
          clear HB
          have BK384 := n0_
          have BK385 := n1_
          have HB := n2_
          clear n0_ n1_ n2_
          have p387 : 0 ≤ (x5_2 : Int) := of_decide_eq_true (by first | (with_reducible assumption) | assumption)
          have q387 : x5_2 < (l0_2.length : Int) := of_decide_eq_true (by first | (with_reducible assumption) | assumption)
          obtain ⟨ad387, A387_1, c387_1, A387_2, c387_2, e387, hx387_0, hx387_1, hx387_2, hl387_1, hi387_1, hl387_2, hi387_2⟩ := at_T25 HR0_2.out x5_2 p387 q387
          have hw387_2 := hx387_2
          have hw387_1 := hx387_1
          have hw387_0 := hx387_0
          cases e387
          replace hx387_0 := (HB.out.cell (World.block_lt_of_cell? w _ hx387_0)).trans hx387_0
          replace hx387_1 := (HB.out.cell (World.block_lt_of_cell? w _ hx387_1)).trans hx387_1
          replace hx387_2 := (HB.out.cell (World.block_lt_of_cell? w _ hx387_2)).trans hx387_2
          have HR387_1 := Aside0.mk hi387_1
          have HC387_1 := Aside0.mk hl387_1
          clear hi387_1 hl387_1
          have HR387_2 := Aside0.mk hi387_2
          have HC387_2 := Aside0.mk hl387_2
          clear hi387_2 hl387_2
          replace p387 := eq_true p387
          replace q387 := eq_true q387
          have p388 : 0 ≤ (x5_2 : Int) := of_decide_eq_true (by first | (with_reducible assumption) | assumption)
          have q388 : x5_2 < (l1_2.length : Int) := of_decide_eq_true (by first | (with_reducible assumption) | assumption)
          obtain ⟨ad388, A388_1, c388_1, A388_2, c388_2, e388, hx388_0, hx388_1, hx388_2, hl388_1, hi388_1, hl388_2, hi388_2⟩ := at_T25 HR1_2.out x5_2 p388 q388
          have hw388_2 := hx388_2
          have hw388_1 := hx388_1
          have hw388_0 := hx388_0
          cases e388
          replace hx388_0 := (HB.out.cell (World.block_lt_of_cell? w _ hx388_0)).trans hx388_0
          replace hx388_1 := (HB.out.cell (World.block_lt_of_cell? w _ hx388_1)).trans hx388_1
          replace hx388_2 := (HB.out.cell (World.block_lt_of_cell? w _ hx388_2)).trans hx388_2
          have HR388_1 := Aside0.mk hi388_1
          have HC388_1 := Aside0.mk hl388_1
          clear hi388_1 hl388_1
          have HR388_2 := Aside0.mk hi388_2
          have HC388_2 := Aside0.mk hl388_2
          clear hi388_2 hl388_2
          replace p388 := eq_true p388
          replace q388 := eq_true q388
          refine start_ (n := 12) (S := fun w' => w'.cell? ⟨gb384, 0, none⟩ = some (.string a0_0) ∧ w'.cell? ⟨gb384, 1, none⟩ = some (.slice A0_1 l0_1.length c0_1) ∧ w'.cell? ⟨gb384, 2, none⟩ = some (.slice (some ad387) l0_2.length c0_2) ∧ w'.cell? ⟨gb385, 0, none⟩ = some (.string a1_0) ∧ w'.cell? ⟨gb385, 1, none⟩ = some (.slice A1_1 l1_1.length c1_1) ∧ w'.cell? ⟨gb385, 2, none⟩ = some (.slice (some ad388) l1_2.length c1_2) ∧ w'.cell? (ad387.add ((x5_2).toNat * 3)) = some (.string ((rd_T25 l0_2 x5_2).f0)) ∧ w'.cell? ⟨(ad387.add ((x5_2).toNat * 3)).block, (ad387.add ((x5_2).toNat * 3)).off + 1, none⟩ = some (.slice A387_1 ((rd_T25 l0_2 x5_2).f1).length c387_1) ∧ w'.cell? ⟨(ad387.add ((x5_2).toNat * 3)).block, (ad387.add ((x5_2).toNat * 3)).off + 2, none⟩ = some (.slice A387_2 ((rd_T25 l0_2 x5_2).f2).length c387_2) ∧ w'.cell? (ad388.add ((x5_2).toNat * 3)) = some (.string ((rd_T25 l1_2 x5_2).f0)) ∧ w'.cell? ⟨(ad388.add ((x5_2).toNat * 3)).block, (ad388.add ((x5_2).toNat * 3)).off + 1, none⟩ = some (.slice A388_1 ((rd_T25 l1_2 x5_2).f1).length c388_1) ∧ w'.cell? ⟨(ad388.add ((x5_2).toNat * 3)).block, (ad388.add ((x5_2).toNat * 3)).off + 2, none⟩ = some (.slice A388_2 ((rd_T25 l1_2 x5_2).f2).length c388_2)) (ds := []) #[false, false, false, false, false, false, false, false, false, false, false, false] (by kernel_rfl) rfl rfl ⟨(blk_cell BK384.out 0).trans rfl, (blk_cell BK384.out 1).trans rfl, (blk_cell BK384.out 2).trans rfl, (blk_cell BK385.out 0).trans rfl, (blk_cell BK385.out 1).trans rfl, (blk_cell BK385.out 2).trans rfl, ((HB.out.cell (World.block_lt_of_cell? w _ hw387_0)).trans hw387_0), ((HB.out.cell (World.block_lt_of_cell? w _ hw387_1)).trans hw387_1), ((HB.out.cell (World.block_lt_of_cell? w _ hw387_2)).trans hw387_2), ((HB.out.cell (World.block_lt_of_cell? w _ hw388_0)).trans hw388_0), ((HB.out.cell (World.block_lt_of_cell? w _ hw388_1)).trans hw388_1), ((HB.out.cell (World.block_lt_of_cell? w _ hw388_2)).trans hw388_2)⟩ (fun hHeld => ?_); refine with_tabW almanacref12_Same.tab6 almanacref12_Same.bits6 (fun HT_ HW_ => ?_)
          generalize wr.drew = w30 at BK384 BK385 HB HR387_1 HR387_2 HR388_1 HR388_2 hx387_0 hx387_1 hx387_2 hx388_0 hx388_1 hx388_2 hHeld ⊢
          refine pure_ (i := 0) (N := some 35) (v := ?_) (a' := ?_) #[true, false, false, false, false, false, false, false, false, false, false, false] rfl rfl (any_of HT_.out (by kernel_rfl)) (fun _ _ _ h => h) (Or.inl ⟨by rfl, ?_⟩) ?_ ?_
          rotate_left
          ·intro w'
           go_simp
           with_reducible rfl
          rotate_left
          ·simp only [Act.put, List.setIfInBounds_toArray, List.set_cons_zero, List.set_cons_succ, i64_w, i32_w]
           rfl
          refine pure_ (i := 2) (N := some 37) (v := ?_) (a' := ?_) #[true, false, true, false, false, false, false, false, false, false, false, false] rfl rfl (any_of HT_.out (by kernel_rfl)) (fun _ _ _ h => h) (Or.inl ⟨by rfl, ?_⟩) ?_ ?_
          rotate_left
          ·intro w'
           go_simp
           with_reducible rfl
          rotate_left
          ·simp only [Act.put, List.setIfInBounds_toArray, List.set_cons_zero, List.set_cons_succ, i64_w, i32_w]
           rfl
          refine pure_ (i := 5) (N := some 40) (v := ?_) (a' := ?_) #[true, false, true, false, false, true, false, false, false, false, false, false] rfl rfl (any_of HT_.out (by kernel_rfl)) (fun _ _ _ h => h) (Or.inl ⟨by rfl, ?_⟩) ?_ ?_
          rotate_left
          ·intro w'
           go_simp
           with_reducible rfl
          rotate_left
          ·simp only [Act.put, List.setIfInBounds_toArray, List.set_cons_zero, List.set_cons_succ, i64_w, i32_w]
           rfl
          refine pure_ (i := 7) (N := some 42) (v := ?_) (a' := ?_) #[true, false, true, false, false, true, false, true, false, false, false, false] rfl rfl (any_of HT_.out (by kernel_rfl)) (fun _ _ _ h => h) (Or.inl ⟨by rfl, ?_⟩) ?_ ?_
          rotate_left
          ·intro w'
           go_simp
           with_reducible rfl
          rotate_left
          ·simp only [Act.put, List.setIfInBounds_toArray, List.set_cons_zero, List.set_cons_succ, i64_w, i32_w]
           rfl
          refine take_ (i := 1) (N := some 36) (v := ?_) (a' := ?_) #[true, true, true, false, false, true, false, true, false, false, false, false] rfl rfl (take_ofW HT_.out HW_.out (by kernel_rfl)) (fun _ _ _ h => h) (Or.inl ⟨by rfl, ?_⟩) hHeld ?_ ?_
          rotate_left
          ·rintro w' ⟨s0, s1, s2, s3, s4, s5, s6, s7, s8, s9, s10, s11⟩
           go_simp
           with_reducible rfl
          rotate_left
          ·simp only [Act.put, List.setIfInBounds_toArray, List.set_cons_zero, List.set_cons_succ, i64_w, i32_w]
           rfl
          refine pure_ (i := 3) (N := some 38) (v := ?_) (a' := ?_) #[true, true, true, true, false, true, false, true, false, false, false, false] rfl rfl (any_of HT_.out (by kernel_rfl)) (fun _ _ _ h => h) (Or.inl ⟨by rfl, ?_⟩) ?_ ?_
          rotate_left
          ·intro w'
           go_simp
           with_reducible rfl
          rotate_left
          ·simp only [Act.put, List.setIfInBounds_toArray, List.set_cons_zero, List.set_cons_succ, i64_w, i32_w]
           rfl
          refine take_ (i := 4) (N := some 39) (v := ?_) (a' := ?_) #[true, true, true, true, true, true, false, true, false, false, false, false] rfl rfl (take_ofW HT_.out HW_.out (by kernel_rfl)) (fun _ _ _ h => h) (Or.inl ⟨by rfl, ?_⟩) hHeld ?_ ?_
          rotate_left
          ·rintro w' ⟨s0, s1, s2, s3, s4, s5, s6, s7, s8, s9, s10, s11⟩
           go_simp
           with_reducible rfl
          rotate_left
          ·simp only [Act.put, List.setIfInBounds_toArray, List.set_cons_zero, List.set_cons_succ, i64_w, i32_w]
           rfl
          refine take_ (i := 6) (N := some 41) (v := ?_) (a' := ?_) #[true, true, true, true, true, true, true, true, false, false, false, false] rfl rfl (take_ofW HT_.out HW_.out (by kernel_rfl)) (fun _ _ _ h => h) (Or.inl ⟨by rfl, ?_⟩) hHeld ?_ ?_
          rotate_left
          ·rintro w' ⟨s0, s1, s2, s3, s4, s5, s6, s7, s8, s9, s10, s11⟩
           go_simp
           with_reducible rfl
          rotate_left
          ·simp only [Act.put, List.setIfInBounds_toArray, List.set_cons_zero, List.set_cons_succ, i64_w, i32_w]
           rfl
          refine pure_ (i := 8) (N := some 43) (v := ?_) (a' := ?_) #[true, true, true, true, true, true, true, true, true, false, false, false] rfl rfl (any_of HT_.out (by kernel_rfl)) (fun _ _ _ h => h) (Or.inl ⟨by rfl, ?_⟩) ?_ ?_
          rotate_left
          ·intro w'
           go_simp
           with_reducible rfl
          rotate_left
          ·simp only [Act.put, List.setIfInBounds_toArray, List.set_cons_zero, List.set_cons_succ, i64_w, i32_w]
           rfl
          refine take_ (i := 9) (N := some 44) (v := ?_) (a' := ?_) #[true, true, true, true, true, true, true, true, true, true, false, false] rfl rfl (take_ofW HT_.out HW_.out (by kernel_rfl)) (fun _ _ _ h => h) (Or.inl ⟨by rfl, ?_⟩) hHeld ?_ ?_
          rotate_left
          ·rintro w' ⟨s0, s1, s2, s3, s4, s5, s6, s7, s8, s9, s10, s11⟩
           go_simp
           with_reducible rfl
          rotate_left
          ·simp only [Act.put, List.setIfInBounds_toArray, List.set_cons_zero, List.set_cons_succ, i64_w, i32_w]
           rfl
          refine one_ (i := 10) (N := some 45) #[true, true, true, true, true, true, true, true, true, true, true, false] rfl rfl (one_of HT_.out (by kernel_rfl)) (by decide) (fun K hK => ?_)
          refine goes_ Try.func25 (by kernel_rfl) rfl #[.agg #[.string ((rd_T25 l0_2 x5_2).f0), .slice A387_1 ((rd_T25 l0_2 x5_2).f1).length c387_1, .slice A387_2 ((rd_T25 l0_2 x5_2).f2).length c387_2], .agg #[.string ((rd_T25 l1_2 x5_2).f0), .slice A388_1 ((rd_T25 l1_2 x5_2).f1).length c388_1, .slice A388_2 ((rd_T25 l1_2 x5_2).f2).length c388_2]] (by rfl) rfl rfl (by (try simp only [List.map_toArray, List.map_cons, List.map_nil]); first | done | rfl | (simp only [List.length_drop, List.length_take]; rfl)) ?_
          with_reducible refine (ih k2 (by have := HJ2.out; have := HK2.out; omega) ((rd_T25 l0_2 x5_2).f0) _ _ ((rd_T25 l0_2 x5_2).f1) _ _ ((rd_T25 l0_2 x5_2).f2) ((rd_T25 l1_2 x5_2).f0) _ _ ((rd_T25 l1_2 x5_2).f1) _ _ ((rd_T25 l1_2 x5_2).f2) true _ ?side1 ?side2 ?side3 ?side4 ?side5 ?side6 ?side7 ?side8 A26.out).mono ?_
          (case side1 => exact cU (Kd.C_below HR387_1.out HB.out))
          (case side2 => exact HC387_1.out)
          (case side3 => exact cU (Kd.C_below HR387_2.out HB.out))
          (case side4 => exact HC387_2.out)
          (case side5 => exact cU (Kd.C_below HR388_1.out HB.out))
          (case side6 => exact HC388_1.out)
          (case side7 => exact cU (Kd.C_below HR388_2.out HB.out))
          (case side8 => exact HC388_2.out)
          rintro e w31 ⟨rfl, hb⟩
          refine ⟨_, rfl, ?_⟩
          have n0_ := Aside0.mk (blk_below (kU BK384) hb)
          have n1_ := Aside0.mk (blk_below (kU BK385) hb)
          have n2_ := Aside0.mk (below_step (bU HB) hb)
          clear BK384
          clear BK385
          clear HB
          have BK384 := n0_
          have BK385 := n1_
          have HB := n2_
          clear n0_ n1_ n2_
          (try clear hb)
          (try clear hb2)
          (try clear hk)
          (try clear hi)
          refine hK.out _ _ ⟨(blk_cell BK384.out 0).trans rfl, (blk_cell BK384.out 1).trans rfl, (blk_cell BK384.out 2).trans rfl, (blk_cell BK385.out 0).trans rfl, (blk_cell BK385.out 1).trans rfl, (blk_cell BK385.out 2).trans rfl, ((HB.out.cell (World.block_lt_of_cell? w _ hw387_0)).trans hw387_0), ((HB.out.cell (World.block_lt_of_cell? w _ hw387_1)).trans hw387_1), ((HB.out.cell (World.block_lt_of_cell? w _ hw387_2)).trans hw387_2), ((HB.out.cell (World.block_lt_of_cell? w _ hw388_0)).trans hw388_0), ((HB.out.cell (World.block_lt_of_cell? w _ hw388_1)).trans hw388_1), ((HB.out.cell (World.block_lt_of_cell? w _ hw388_2)).trans hw388_2)⟩ (fun hHeld => ?_)
          clear hK K
          refine norm_ (a' := ?_) ?_ ?_
          rotate_left
          ·show Act.put _ (some 45) _ = _
           simp only [Act.put, List.setIfInBounds_toArray, List.set_cons_zero, List.set_cons_succ, i64_w, i32_w]
           rfl
          refine pure_ (i := 11) (N := some 46) (v := ?_) (a' := ?_) #[true, true, true, true, true, true, true, true, true, true, true, true] rfl rfl (any_of HT_.out (by kernel_rfl)) (fun _ _ _ h => h) (Or.inl ⟨by rfl, ?_⟩) ?_ ?_
          rotate_left
          ·intro w'
           go_simp
           with_reducible rfl
          rotate_left
          ·simp only [Act.put, List.setIfInBounds_toArray, List.set_cons_zero, List.set_cons_succ, i64_w, i32_w]
           rfl
          refine done_ (done_of HT_.out (by kernel_rfl)) ?_
          try go_wp2
          go_roundg k2
          case measure => have := HJ2.out; have := HK2.out; omega
          case rel => exact ⟨(wrap64 (x5_2 + 1)), (by first | rfl | (simp; done) | (simp [*]; done)), H', ⟨by have := HJ2.out; have := HK2.out; omega⟩, ⟨kU BK384⟩, ⟨kU BK385⟩, ⟨bU HB⟩⟩
         ·replace c27 := Bool.eq_false_iff.mpr c27
          subst c27
          have H1 : (some false) = some r := by rw [if_neg (show ¬ (false = true) by decide)] at H; exact H
          clear H
          have H := H1
          clear H1
          obtain rfl := Option.some.inj H
          have hnb32 := NB384_385.out
          have hnc32 := NB385_384.out
          have hcz33_0 : wr.cell? ⟨gb384, 0, none⟩ = some (.string a0_0) := (blk_cell BK384.out 0).trans rfl
          have hcz33_1 : wr.cell? ⟨gb384, 1, none⟩ = some (.slice A0_1 l0_1.length c0_1) := (blk_cell BK384.out 1).trans rfl
          have hcz33_2 : wr.cell? ⟨gb384, 2, none⟩ = some (.slice A0_2 l0_2.length c0_2) := (blk_cell BK384.out 2).trans rfl
          have hfz33_0 := blk_frozen BK384.out 0
          have hfz33_1 := blk_frozen BK384.out 1
          have hfz33_2 := blk_frozen BK384.out 2
          try go_wp2
          have n0_ := Aside0.mk (blk_drew BK384.out)
          have n1_ := Aside0.mk (blk_drew BK385.out)
          have n2_ := Aside0.mk (below_drew1 HB.out)
          clear BK384
          clear BK385
          clear HB
          have BK384 := n0_
          have BK385 := n1_
          have HB := n2_
          clear n0_ n1_ n2_
          have p387 : 0 ≤ (x5_2 : Int) := of_decide_eq_true (by first | (with_reducible assumption) | assumption)
          have q387 : x5_2 < (l0_2.length : Int) := of_decide_eq_true (by first | (with_reducible assumption) | assumption)
          obtain ⟨ad387, A387_1, c387_1, A387_2, c387_2, e387, hx387_0, hx387_1, hx387_2, hl387_1, hi387_1, hl387_2, hi387_2⟩ := at_T25 HR0_2.out x5_2 p387 q387
          have hw387_2 := hx387_2
          have hw387_1 := hx387_1
          have hw387_0 := hx387_0
          cases e387
          replace hx387_0 := (HB.out.cell (World.block_lt_of_cell? w _ hx387_0)).trans hx387_0
          replace hx387_1 := (HB.out.cell (World.block_lt_of_cell? w _ hx387_1)).trans hx387_1
          replace hx387_2 := (HB.out.cell (World.block_lt_of_cell? w _ hx387_2)).trans hx387_2
          have HR387_1 := Aside0.mk hi387_1
          have HC387_1 := Aside0.mk hl387_1
          clear hi387_1 hl387_1
          have HR387_2 := Aside0.mk hi387_2
          have HC387_2 := Aside0.mk hl387_2
          clear hi387_2 hl387_2
          replace p387 := eq_true p387
          replace q387 := eq_true q387
          have p388 : 0 ≤ (x5_2 : Int) := of_decide_eq_true (by first | (with_reducible assumption) | assumption)
          have q388 : x5_2 < (l1_2.length : Int) := of_decide_eq_true (by first | (with_reducible assumption) | assumption)
          obtain ⟨ad388, A388_1, c388_1, A388_2, c388_2, e388, hx388_0, hx388_1, hx388_2, hl388_1, hi388_1, hl388_2, hi388_2⟩ := at_T25 HR1_2.out x5_2 p388 q388
          have hw388_2 := hx388_2
          have hw388_1 := hx388_1
          have hw388_0 := hx388_0
          cases e388
          replace hx388_0 := (HB.out.cell (World.block_lt_of_cell? w _ hx388_0)).trans hx388_0
          replace hx388_1 := (HB.out.cell (World.block_lt_of_cell? w _ hx388_1)).trans hx388_1
          replace hx388_2 := (HB.out.cell (World.block_lt_of_cell? w _ hx388_2)).trans hx388_2
          have HR388_1 := Aside0.mk hi388_1
          have HC388_1 := Aside0.mk hl388_1
          clear hi388_1 hl388_1
          have HR388_2 := Aside0.mk hi388_2
          have HC388_2 := Aside0.mk hl388_2
          clear hi388_2 hl388_2
          replace p388 := eq_true p388
          replace q388 := eq_true q388
          refine start_ (n := 12) (S := fun w' => w'.cell? ⟨gb384, 0, none⟩ = some (.string a0_0) ∧ w'.cell? ⟨gb384, 1, none⟩ = some (.slice A0_1 l0_1.length c0_1) ∧ w'.cell? ⟨gb384, 2, none⟩ = some (.slice (some ad387) l0_2.length c0_2) ∧ w'.cell? ⟨gb385, 0, none⟩ = some (.string a1_0) ∧ w'.cell? ⟨gb385, 1, none⟩ = some (.slice A1_1 l1_1.length c1_1) ∧ w'.cell? ⟨gb385, 2, none⟩ = some (.slice (some ad388) l1_2.length c1_2) ∧ w'.cell? (ad387.add ((x5_2).toNat * 3)) = some (.string ((rd_T25 l0_2 x5_2).f0)) ∧ w'.cell? ⟨(ad387.add ((x5_2).toNat * 3)).block, (ad387.add ((x5_2).toNat * 3)).off + 1, none⟩ = some (.slice A387_1 ((rd_T25 l0_2 x5_2).f1).length c387_1) ∧ w'.cell? ⟨(ad387.add ((x5_2).toNat * 3)).block, (ad387.add ((x5_2).toNat * 3)).off + 2, none⟩ = some (.slice A387_2 ((rd_T25 l0_2 x5_2).f2).length c387_2) ∧ w'.cell? (ad388.add ((x5_2).toNat * 3)) = some (.string ((rd_T25 l1_2 x5_2).f0)) ∧ w'.cell? ⟨(ad388.add ((x5_2).toNat * 3)).block, (ad388.add ((x5_2).toNat * 3)).off + 1, none⟩ = some (.slice A388_1 ((rd_T25 l1_2 x5_2).f1).length c388_1) ∧ w'.cell? ⟨(ad388.add ((x5_2).toNat * 3)).block, (ad388.add ((x5_2).toNat * 3)).off + 2, none⟩ = some (.slice A388_2 ((rd_T25 l1_2 x5_2).f2).length c388_2)) (ds := []) #[false, false, false, false, false, false, false, false, false, false, false, false] (by kernel_rfl) rfl rfl ⟨(blk_cell BK384.out 0).trans rfl, (blk_cell BK384.out 1).trans rfl, (blk_cell BK384.out 2).trans rfl, (blk_cell BK385.out 0).trans rfl, (blk_cell BK385.out 1).trans rfl, (blk_cell BK385.out 2).trans rfl, ((HB.out.cell (World.block_lt_of_cell? w _ hw387_0)).trans hw387_0), ((HB.out.cell (World.block_lt_of_cell? w _ hw387_1)).trans hw387_1), ((HB.out.cell (World.block_lt_of_cell? w _ hw387_2)).trans hw387_2), ((HB.out.cell (World.block_lt_of_cell? w _ hw388_0)).trans hw388_0), ((HB.out.cell (World.block_lt_of_cell? w _ hw388_1)).trans hw388_1), ((HB.out.cell (World.block_lt_of_cell? w _ hw388_2)).trans hw388_2)⟩ (fun hHeld => ?_); refine with_tabW almanacref12_Same.tab6 almanacref12_Same.bits6 (fun HT_ HW_ => ?_)
          generalize wr.drew = w34 at BK384 BK385 HB HR387_1 HR387_2 HR388_1 HR388_2 hx387_0 hx387_1 hx387_2 hx388_0 hx388_1 hx388_2 hHeld ⊢
          refine pure_ (i := 0) (N := some 35) (v := ?_) (a' := ?_) #[true, false, false, false, false, false, false, false, false, false, false, false] rfl rfl (any_of HT_.out (by kernel_rfl)) (fun _ _ _ h => h) (Or.inl ⟨by rfl, ?_⟩) ?_ ?_
          rotate_left
          ·intro w'
           go_simp
           with_reducible rfl
          rotate_left
          ·simp only [Act.put, List.setIfInBounds_toArray, List.set_cons_zero, List.set_cons_succ, i64_w, i32_w]
           rfl
          refine pure_ (i := 2) (N := some 37) (v := ?_) (a' := ?_) #[true, false, true, false, false, false, false, false, false, false, false, false] rfl rfl (any_of HT_.out (by kernel_rfl)) (fun _ _ _ h => h) (Or.inl ⟨by rfl, ?_⟩) ?_ ?_
          rotate_left
          ·intro w'
           go_simp
           with_reducible rfl
          rotate_left
          ·simp only [Act.put, List.setIfInBounds_toArray, List.set_cons_zero, List.set_cons_succ, i64_w, i32_w]
           rfl
          refine pure_ (i := 5) (N := some 40) (v := ?_) (a' := ?_) #[true, false, true, false, false, true, false, false, false, false, false, false] rfl rfl (any_of HT_.out (by kernel_rfl)) (fun _ _ _ h => h) (Or.inl ⟨by rfl, ?_⟩) ?_ ?_
          rotate_left
          ·intro w'
           go_simp
           with_reducible rfl
          rotate_left
          ·simp only [Act.put, List.setIfInBounds_toArray, List.set_cons_zero, List.set_cons_succ, i64_w, i32_w]
           rfl
          refine pure_ (i := 7) (N := some 42) (v := ?_) (a' := ?_) #[true, false, true, false, false, true, false, true, false, false, false, false] rfl rfl (any_of HT_.out (by kernel_rfl)) (fun _ _ _ h => h) (Or.inl ⟨by rfl, ?_⟩) ?_ ?_
          rotate_left
          ·intro w'
           go_simp
           with_reducible rfl
          rotate_left
          ·simp only [Act.put, List.setIfInBounds_toArray, List.set_cons_zero, List.set_cons_succ, i64_w, i32_w]
           rfl
          refine take_ (i := 1) (N := some 36) (v := ?_) (a' := ?_) #[true, true, true, false, false, true, false, true, false, false, false, false] rfl rfl (take_ofW HT_.out HW_.out (by kernel_rfl)) (fun _ _ _ h => h) (Or.inl ⟨by rfl, ?_⟩) hHeld ?_ ?_
          rotate_left
          ·rintro w' ⟨s0, s1, s2, s3, s4, s5, s6, s7, s8, s9, s10, s11⟩
           go_simp
           with_reducible rfl
          rotate_left
          ·simp only [Act.put, List.setIfInBounds_toArray, List.set_cons_zero, List.set_cons_succ, i64_w, i32_w]
           rfl
          refine pure_ (i := 3) (N := some 38) (v := ?_) (a' := ?_) #[true, true, true, true, false, true, false, true, false, false, false, false] rfl rfl (any_of HT_.out (by kernel_rfl)) (fun _ _ _ h => h) (Or.inl ⟨by rfl, ?_⟩) ?_ ?_
          rotate_left
          ·intro w'
           go_simp
           with_reducible rfl
          rotate_left
          ·simp only [Act.put, List.setIfInBounds_toArray, List.set_cons_zero, List.set_cons_succ, i64_w, i32_w]
           rfl
          refine take_ (i := 4) (N := some 39) (v := ?_) (a' := ?_) #[true, true, true, true, true, true, false, true, false, false, false, false] rfl rfl (take_ofW HT_.out HW_.out (by kernel_rfl)) (fun _ _ _ h => h) (Or.inl ⟨by rfl, ?_⟩) hHeld ?_ ?_
          rotate_left
          ·rintro w' ⟨s0, s1, s2, s3, s4, s5, s6, s7, s8, s9, s10, s11⟩
           go_simp
           with_reducible rfl
          rotate_left
          ·simp only [Act.put, List.setIfInBounds_toArray, List.set_cons_zero, List.set_cons_succ, i64_w, i32_w]
           rfl
          refine take_ (i := 6) (N := some 41) (v := ?_) (a' := ?_) #[true, true, true, true, true, true, true, true, false, false, false, false] rfl rfl (take_ofW HT_.out HW_.out (by kernel_rfl)) (fun _ _ _ h => h) (Or.inl ⟨by rfl, ?_⟩) hHeld ?_ ?_
          rotate_left
          ·rintro w' ⟨s0, s1, s2, s3, s4, s5, s6, s7, s8, s9, s10, s11⟩
           go_simp
           with_reducible rfl
          rotate_left
          ·simp only [Act.put, List.setIfInBounds_toArray, List.set_cons_zero, List.set_cons_succ, i64_w, i32_w]
           rfl
          refine pure_ (i := 8) (N := some 43) (v := ?_) (a' := ?_) #[true, true, true, true, true, true, true, true, true, false, false, false] rfl rfl (any_of HT_.out (by kernel_rfl)) (fun _ _ _ h => h) (Or.inl ⟨by rfl, ?_⟩) ?_ ?_
          rotate_left
          ·intro w'
           go_simp
           with_reducible rfl
          rotate_left
          ·simp only [Act.put, List.setIfInBounds_toArray, List.set_cons_zero, List.set_cons_succ, i64_w, i32_w]
           rfl
          refine take_ (i := 9) (N := some 44) (v := ?_) (a' := ?_) #[true, true, true, true, true, true, true, true, true, true, false, false] rfl rfl (take_ofW HT_.out HW_.out (by kernel_rfl)) (fun _ _ _ h => h) (Or.inl ⟨by rfl, ?_⟩) hHeld ?_ ?_
          rotate_left
          ·rintro w' ⟨s0, s1, s2, s3, s4, s5, s6, s7, s8, s9, s10, s11⟩
           go_simp
           with_reducible rfl
          rotate_left
          ·simp only [Act.put, List.setIfInBounds_toArray, List.set_cons_zero, List.set_cons_succ, i64_w, i32_w]
           rfl
          refine one_ (i := 10) (N := some 45) #[true, true, true, true, true, true, true, true, true, true, true, false] rfl rfl (one_of HT_.out (by kernel_rfl)) (by decide) (fun K hK => ?_)
          refine goes_ Try.func25 (by kernel_rfl) rfl #[.agg #[.string ((rd_T25 l0_2 x5_2).f0), .slice A387_1 ((rd_T25 l0_2 x5_2).f1).length c387_1, .slice A387_2 ((rd_T25 l0_2 x5_2).f2).length c387_2], .agg #[.string ((rd_T25 l1_2 x5_2).f0), .slice A388_1 ((rd_T25 l1_2 x5_2).f1).length c388_1, .slice A388_2 ((rd_T25 l1_2 x5_2).f2).length c388_2]] (by rfl) rfl rfl (by (try simp only [List.map_toArray, List.map_cons, List.map_nil]); first | done | rfl | (simp only [List.length_drop, List.length_take]; rfl)) ?_
          with_reducible refine (ih k2 (by have := HJ2.out; have := HK2.out; omega) ((rd_T25 l0_2 x5_2).f0) _ _ ((rd_T25 l0_2 x5_2).f1) _ _ ((rd_T25 l0_2 x5_2).f2) ((rd_T25 l1_2 x5_2).f0) _ _ ((rd_T25 l1_2 x5_2).f1) _ _ ((rd_T25 l1_2 x5_2).f2) false _ ?side1 ?side2 ?side3 ?side4 ?side5 ?side6 ?side7 ?side8 A26.out).mono ?_
          (case side1 => exact cU (Kd.C_below HR387_1.out HB.out))
          (case side2 => exact HC387_1.out)
          (case side3 => exact cU (Kd.C_below HR387_2.out HB.out))
          (case side4 => exact HC387_2.out)
          (case side5 => exact cU (Kd.C_below HR388_1.out HB.out))
          (case side6 => exact HC388_1.out)
          (case side7 => exact cU (Kd.C_below HR388_2.out HB.out))
          (case side8 => exact HC388_2.out)
          rintro e w35 ⟨rfl, hb⟩
          refine ⟨_, rfl, ?_⟩
          have n0_ := Aside0.mk (blk_below (kU BK384) hb)
          have n1_ := Aside0.mk (blk_below (kU BK385) hb)
          have n2_ := Aside0.mk (below_step (bU HB) hb)
          clear BK384
          clear BK385
          clear HB
          have BK384 := n0_
          have BK385 := n1_
          have HB := n2_
          clear n0_ n1_ n2_
          (try clear hb)
          (try clear hb2)
          (try clear hk)
          (try clear hi)
          refine hK.out _ _ ⟨(blk_cell BK384.out 0).trans rfl, (blk_cell BK384.out 1).trans rfl, (blk_cell BK384.out 2).trans rfl, (blk_cell BK385.out 0).trans rfl, (blk_cell BK385.out 1).trans rfl, (blk_cell BK385.out 2).trans rfl, ((HB.out.cell (World.block_lt_of_cell? w _ hw387_0)).trans hw387_0), ((HB.out.cell (World.block_lt_of_cell? w _ hw387_1)).trans hw387_1), ((HB.out.cell (World.block_lt_of_cell? w _ hw387_2)).trans hw387_2), ((HB.out.cell (World.block_lt_of_cell? w _ hw388_0)).trans hw388_0), ((HB.out.cell (World.block_lt_of_cell? w _ hw388_1)).trans hw388_1), ((HB.out.cell (World.block_lt_of_cell? w _ hw388_2)).trans hw388_2)⟩ (fun hHeld => ?_)
          clear hK K
          refine norm_ (a' := ?_) ?_ ?_
          rotate_left
          ·show Act.put _ (some 45) _ = _
           simp only [Act.put, List.setIfInBounds_toArray, List.set_cons_zero, List.set_cons_succ, i64_w, i32_w]
           rfl
          refine pure_ (i := 11) (N := some 46) (v := ?_) (a' := ?_) #[true, true, true, true, true, true, true, true, true, true, true, true] rfl rfl (any_of HT_.out (by kernel_rfl)) (fun _ _ _ h => h) (Or.inl ⟨by rfl, ?_⟩) ?_ ?_
          rotate_left
          ·intro w'
           go_simp
           with_reducible rfl
          rotate_left
          ·simp only [Act.put, List.setIfInBounds_toArray, List.set_cons_zero, List.set_cons_succ, i64_w, i32_w]
           rfl
          refine done_ (done_of HT_.out (by kernel_rfl)) ?_
          try go_wp2
          go_ret
          exact ⟨eqU, bU HB⟩
        ·rw [if_neg c25] at H
         exact absurd H (by simp)
       ·rw [if_neg c24] at H
        exact absurd H (by simp)
      ·rw [if_neg c23] at H
       have c23b0 : decide (x5_2 < (l0_2.length : Int)) = false := decide_eq_false c23
       clear c23
       obtain rfl := Option.some.inj H
       have hnb36 := NB384_385.out
       have hnc36 := NB385_384.out
       have hcz37_0 : wr.cell? ⟨gb384, 0, none⟩ = some (.string a0_0) := (blk_cell BK384.out 0).trans rfl
       have hcz37_1 : wr.cell? ⟨gb384, 1, none⟩ = some (.slice A0_1 l0_1.length c0_1) := (blk_cell BK384.out 1).trans rfl
       have hcz37_2 : wr.cell? ⟨gb384, 2, none⟩ = some (.slice A0_2 l0_2.length c0_2) := (blk_cell BK384.out 2).trans rfl
       have hfz37_0 := blk_frozen BK384.out 0
       have hfz37_1 := blk_frozen BK384.out 1
       have hfz37_2 := blk_frozen BK384.out 2
       go_wp2
       go_ret
       exact ⟨eqU, bU HB⟩
end Go.Proofs.Ytebmbfobmakheaa.PD
namespace Go.Proofs.Ytebmbfobmakheaa.PD
open Go.RowKit Go.Proofs.YtebmbfobmakheaaW.PrintWords Go.Proofs.YtebmbfobmakheaaW.PrintLast Go.Proofs.YtebmbfobmakheaaW.PrintMore
attribute [local go_sem] isSome_setCell max2_int min2_int max_two min_two
set_option linter.unusedVariables false
set_option linter.unusedSimpArgs false
theorem onlyF_snoc (addr : ByteArray) (l : List S45) (j : Nat) (hj : j < l.length) : onlyF addr (l.take (j + 1)) = onlyF addr (l.take j) ++ (if (isAtt l[j].f0 && !alikeB l[j].f2 addr) = true then [] else [l[j]]) := by
  unfold onlyF
  rw [List.take_succ_eq_append_getElem hj, List.filter_append]
  congr 1
  rw [List.filter_cons]
  cases h : (isAtt l[j].f0 && !alikeB l[j].f2 addr) with
  | true => rfl
  | false => rfl
theorem onlyF_len (addr : ByteArray) (l : List S45) : (onlyF addr l).length ≤ l.length := List.length_filter_le _ _
theorem F_get45 {W : World} {ok : Nat → Prop} {A : Option Addr} {xs : List S45} (h : Kd.F k45 W ok A xs.length xs) (i : Nat) (hi : i < xs.length) :
    ∃ ad A1 c1, A = some ad ∧ W.cell? (ad.add (i * 3)) = some (.string xs[i].f0) ∧ W.cell? ⟨(ad.add (i * 3)).block, (ad.add (i * 3)).off + 1, none⟩ = some (.slice A1 xs[i].f1.length c1) ∧ W.cell? ⟨(ad.add (i * 3)).block, (ad.add (i * 3)).off + 2, none⟩ = some (.string xs[i].f2) ∧
      xs[i].f1.length ≤ c1 ∧ Kd.F k77 W ok A1 xs[i].f1.length xs[i].f1 := by
  obtain ⟨ad, c, e, hl, hK, hc0, _⟩ := Kd.F_get h z45 (i : Int) (by omega) (by omega)
  have hg2 : xs.getD (i : Int).toNat z45 = xs[i] := by simp [hi]
  rw [hg2] at hK
  rw [Int.toNat_natCast] at hc0
  have hc : ∀ j u, c[j]? = some u → W.cell? (ad.add (i * 3 + j)) = some u := hc0
  obtain ⟨A1, c1, rfl, l1, f1⟩ := k45_openF hK
  exact ⟨ad, A1, c1, e, hc 0 _ rfl, by rw [← add_field _ _ 1 (by omega)]; exact hc 1 _ rfl, by rw [← add_field _ _ 2 (by omega)]; exact hc 2 _ rfl, l1, f1⟩
set_option maxRecDepth 100000 in
set_option maxHeartbeats 8000000 in
theorem ronly_walk (kk : Nat) (nm : ByteArray) (A1 : Option Addr) (n1 c1 : Nat) (P : Nat → Prop) (A : Option Addr) (c : Nat) (l : List S25) (addr : ByteArray) (w : World) (hs : Kd.V k25 25 w w.heap.size P (.slice A l.length c) l) (hlim : limO l = true) (hal : ∀ x ∈ l, ∀ p ∈ x.f1, isAtt p.f0 = true → almanacref26_Alike.f kk p.f2 addr = some (alikeB p.f2 addr)) :
    Calls Try.prog 27 #[.agg #[.string nm, .slice A1 n1 c1, .slice A l.length c], .string addr] w fun e w' => ∃ v : Value, e = .returned (.agg #[.string nm, .slice A1 n1 c1, v]) ∧ Kd.N k25 25 w' w.heap.size (fun k => P k ∨ w.heap.size ≤ k) v (chgP (onlyF addr) l) ∧ Below w.heap.size w w' := by
  have HV := Aside0.mk hs
  have HAL := Aside0.mk hal
  have hll := limO_len hlim
  have HLIM := Aside0.mk (limO_at hlim)
  clear hs hal
  go_enter Try.func27, Try.ntmps27
  go_wp2_with (go_at_call 68; refine Aside0.out ?_)
  refine ⟨?_⟩
  obtain ⟨W3, hW3⟩ : ∃ W3, (w.alloc (Obj.cells #[Value.string nm, Value.slice A1 n1 c1, Value.slice A l.length c] 25)).alloc (Obj.cells #[Value.string { data := #[] }, Value.slice none 0 0, Value.slice none 0 0] 25) = W3 := ⟨_, rfl⟩
  have hz3 : W3.heap.size = w.heap.size + 2 := by rw [← hW3]; simp
  have hb3 : Below w.heap.size w W3 := by rw [← hW3]; exact below_alloc (below_alloc (Below.refl _ _) _) _
  have kC : W3.heap[w.heap.size]? = some (.cells #[.string nm, .slice A1 n1 c1, .slice A l.length c] 25 (0, 0)) := by rw [← hW3]; exact blk_alloc (alloc_at rfl) _
  have kR : W3.heap[w.heap.size + 1]? = some (.cells #[.string ⟨#[]⟩, .slice none 0 0, .slice none 0 0] 25 (0, 0)) := by rw [← hW3]; exact alloc_at (by simp)
  rw [hW3]
  clear hW3
  refine (own_walk nm A1 n1 c1 (fun k => P k ∧ k < w.heap.size) A c l W3 (Kd.V_below (Kd.V_bound HV.out) hb3) hll).mono ?_
  rintro e w5 ⟨v5, rfl, hn5, hb5⟩
  obtain ⟨A', c', rfl⟩ := Kd.N_slice hn5
  have HST := Aside0.mk (St.start hz3 hb3 kC kR hn5 hb5)
  have hC5 := blk_below kC hb5
  have q0 : w5.cell? ⟨w.heap.size, 0, none⟩ = some (.string nm) := (blk_cell hC5 0).trans rfl
  have q1 : w5.cell? ⟨w.heap.size, 1, none⟩ = some (.slice A1 n1 c1) := (blk_cell hC5 1).trans rfl
  have q2 : w5.cell? ⟨w.heap.size, 2, none⟩ = some (.slice A l.length c) := (blk_cell hC5 2).trans rfl
  have q3 : w5.frozen? ⟨w.heap.size, 0, none⟩ = false := blk_frozen hC5 0
  have q4 : w5.frozen? ⟨w.heap.size, 1, none⟩ = false := blk_frozen hC5 1
  have q5 : w5.frozen? ⟨w.heap.size, 2, none⟩ = false := blk_frozen hC5 2
  clear hn5 hb5 hb3 hC5 kC kR
  go_wp2
  clear q0 q1 q2 q3 q4 q5
  have hml : l.length ≤ 9223372036854775807 := by omega
  go_loopw [5] (fun v wr => ∃ k : Nat, v = .int .i64 k ∧ k ≤ l.length ∧ Aside0 (St w nm A1 n1 c1 A' c' P l.length (chgK (onlyF addr) k l) wr)) (fun v _ => l.length - (intOf v).toNat)
  case atStart => exact ⟨0, rfl, Nat.zero_le _, ⟨by rw [chgK_zero]; exact HST.out⟩⟩
  case round =>
    obtain ⟨k, rfl, hk, HS⟩ := hrel
    have s0 : wr.cell? ⟨w.heap.size, 2, none⟩ = some (.slice A' l.length c') := (blk_cell HS.out.C 2).trans rfl
    by_cases hlt : k < l.length
    · have hlt0 : decide ((k : Int) < (l.length : Int)) = true := decide_eq_true (by omega)
      have hku : k < (chgK (onlyF addr) k l).length := by rw [chgK_len]; exact hlt
      obtain ⟨g, cap, Ax, cx, A2, c2, ev, e0, e1, e2, hfz, le1, f1, le2, f2⟩ := N_get25 HS.out.N k hku
      have hgb := Kd.N_base HS.out.N g (by rw [ev]; rfl)
      have hglt := Kd.N_lt HS.out.N g (by rw [ev]; rfl)
      have hup := chgK_at (onlyF addr) l k hlt hku
      rw [hup] at e0 e1 e2 le1 f1
      rw [chgK_len] at ev
      injection ev with eA _ ecv
      subst eA
      subst ecv
      obtain ⟨x, ex⟩ : ∃ x, l[k] = x := ⟨_, rfl⟩
      have hxm : x ∈ l := by rw [← ex]; exact List.getElem_mem hlt
      rw [ex] at e0 e1 e2 le1 f1
      have EX := Aside0.mk ex
      have F1 := Aside0.mk f1
      have HF := Aside0.mk hfz
      clear f1 f2 le2 e2 ex hfz hup
      cases htz : isTz x.f0 with
      | true =>
        have q3 := isTz_q3 htz
        have q4 : (x.f0.toList = ([86, 84, 73, 77, 69, 90, 79, 78, 69] : List UInt8)) = True := eq_true (beq_iff_eq.1 q3)
        have q5 : (x.f0.toList != ([86, 84, 73, 77, 69, 90, 79, 78, 69] : List UInt8)) = false := by rw [bne, q3]; rfl
        have hsk := Aside0.mk (chgK_skip (onlyF addr) l k hlt (by rw [EX.out]; exact htz))
        clear htz
        go_wp2
        exact ⟨⟨k + 1, by simp, hlt, ⟨by rw [hsk.out]; exact HS.out⟩⟩, by show l.length - ((k : Int) + 1).toNat < l.length - (k : Int).toNat; omega⟩
      | false =>
        have q3 := isTz_q3 htz
        have q4 : (x.f0.toList = ([86, 84, 73, 77, 69, 90, 79, 78, 69] : List UInt8)) = False := eq_false (beq_eq_false_iff_ne.1 q3)
        have q5 : (x.f0.toList != ([86, 84, 73, 77, 69, 90, 79, 78, 69] : List UInt8)) = true := by rw [bne, q3]; rfl
        have hsk := Aside0.mk (chgK_hit (onlyF addr) l k hlt (by rw [EX.out]; exact htz))
        clear htz
        have hax := Aside0.mk (HAL.out x hxm)
        have hxl := (HLIM.out x hxm).1
        have hxsz : x.f1.length ≤ 9223372036854775807 := by omega
        have HST := Aside0.mk (show ∀ W', Below wr.heap.size wr W' → St w nm A1 n1 c1 (some ⟨g, 0, none⟩) c' P l.length (chgK (onlyF addr) k l) W' from fun W' hb => HS.out.below hb)
        have hgc := Aside0.mk (show ∀ W', Below wr.heap.size wr W' → W'.cell? ⟨g, k * 3 + 1, none⟩ = some (.slice Ax x.f1.length cx) from fun W' hb => (hb.cell (World.block_lt_of_cell? wr _ e1)).trans e1)
        have hgf := Aside0.mk (show ∀ W', Below wr.heap.size wr W' → W'.frozen? ⟨g, k * 3 + 1, none⟩ = false from fun W' hb => by
          obtain ⟨cells, hcl⟩ := Kd.N_typed HS.out.N g rfl
          exact blk_frozen (blk_below hcl hb) _)
        have HFx := Aside0.mk (show ∀ W', Below wr.heap.size wr W' → Kd.F k45 W' (fun q => (((P q ∧ q < w.heap.size) ∨ w.heap.size + 4 ≤ q) ∧ q ≠ g) ∧ q < wr.heap.size) Ax x.f1.length x.f1 from fun W' hb => Kd.F_below (Kd.F_bound F1.out) hb)
        have hBw := HS.out.B.size
        go_wp2
        clear s0 e0 e1
        obtain ⟨wo, hwo⟩ : ∃ wo, wo = wr := ⟨_, rfl⟩
        subst hwo
        go_loopw [6, 7] (fun v6 v7 wi => ∃ j : Nat, v7 = .int .i64 j ∧ j ≤ x.f1.length ∧ Aside0 (Kd.N k45 45 wi wo.heap.size (fun q => ((P q ∧ q < w.heap.size) ∨ w.heap.size + 4 ≤ q) ∧ q ≠ g) v6 (onlyF addr (x.f1.take j))) ∧ Aside0 (Below wo.heap.size wo wi)) (fun _ v7 _ => x.f1.length - (intOf v7).toNat)
        case atStart => exact ⟨0, rfl, Nat.zero_le _, ⟨by rw [List.take_zero]; exact Kd.N_nil _ _ _ _ _⟩, ⟨Below.refl _ _⟩⟩
        case round =>
          obtain ⟨j, rfl, hj, HNi, HBi⟩ := hrel
          obtain ⟨m, hm⟩ : ∃ m, onlyF addr (x.f1.take j) = m := ⟨_, rfl⟩
          have hol := onlyF_len addr (x.f1.take j)
          rw [List.length_take, Nat.min_eq_left hj] at hol
          rw [hm] at HNi hol
          have HM := Aside0.mk hm
          clear hm
          obtain ⟨Av, cv, rfl⟩ := Kd.N_slice HNi.out
          have hci := (HST.out wr HBi.out).C
          have s0 : wr.cell? ⟨w.heap.size, 2, none⟩ = some (.slice (some ⟨g, 0, none⟩) l.length c') := (blk_cell hci 2).trans rfl
          have s1 := hgc.out wr HBi.out
          have hsi := HBi.out.size
          clear hci
          by_cases hltj : j < x.f1.length
          · have hltj0 : decide ((j : Int) < (x.f1.length : Int)) = true := decide_eq_true (by omega)
            obtain ⟨ad, Ap, cp, eax, p0, p1, p2, lp, fp⟩ := F_get45 (HFx.out wr HBi.out) j hltj
            subst eax
            obtain ⟨p, ep⟩ : ∃ p, x.f1[j] = p := ⟨_, rfl⟩
            have hpm : p ∈ x.f1 := by rw [← ep]; exact List.getElem_mem hltj
            rw [ep] at p0 p1 p2 lp fp
            have hsn := Aside0.mk (onlyF_snoc addr x.f1 j hltj)
            rw [ep, HM.out] at hsn
            have FP := Aside0.mk fp
            clear fp ep
            cases hat : isAtt p.f0 with
            | false =>
              have q3 : (p.f0.toList == ([65, 84, 84, 69, 78, 68, 69, 69] : List UInt8)) = false := hat
              have q4 : (p.f0.toList = ([65, 84, 84, 69, 78, 68, 69, 69] : List UInt8)) = False := eq_false (beq_eq_false_iff_ne.1 hat)
              have q5 : (p.f0.toList != ([65, 84, 84, 69, 78, 68, 69, 69] : List UInt8)) = true := by rw [bne, q3]; rfl
              rw [hat, Bool.false_and, if_neg (by simp)] at hsn
              clear hat
              have HX := Aside0.mk (show Below wr.heap.size wr (wr.alloc (.cells #[.string p.f0, .slice Ap p.f1.length cp, .string p.f2] 45)) from below_alloc (Below.refl _ _) _)
              go_wp2_with ((with_reducible refine gate_builtin (b := .append) (xs := #[.tmp 54, .tmp 56]) rfl ?_); refine Aside0.out ?_)
              refine ⟨?_⟩
              at_builtin
              refine Kd.N_append k45 (w0 := wo) wo.heap.size rfl (.tmp 54) (.tmp 56) 22 45 (.agg #[(.string ⟨#[]⟩), (.slice none 0 0), (.string ⟨#[]⟩)]) 56 rfl Try.underlying22 info45 rfl (by decide) (by omega) (.slice Av m.length cv) m p [.string p.f0, .slice Ap p.f1.length cp, .string p.f2] (fun q => ((P q ∧ q < w.heap.size) ∨ w.heap.size + 4 ≤ q) ∧ q ≠ g) (fun q => (((P q ∧ q < w.heap.size) ∨ w.heap.size + 4 ≤ q) ∧ q ≠ g) ∧ q < wo.heap.size) rfl (by first | (go_simp; done) | (go_simp; rfl)) ?aP ?aQ ?aF ?aO ?aB ?aS ?aL ?_
              case aP => exact k45_mkF _ _ p lp (Kd.F_below FP.out HX.out)
              case aQ => exact fun q hq => ⟨hq.1, fun e => by have := Kd.N_base HNi.out q e.symm; omega⟩
              case aF => exact fun q hq => by have := HX.out.size; exact ⟨.inr (by omega), by omega⟩
              case aO => exact Kd.N_below HNi.out HX.out
              case aB => exact HBi.out.trans (HX.out.mono hsi)
              case aS => have := HX.out.size; omega
              case aL => omega
              intro v9 w9 hn9 hb9 hg9 hat9
              have HN9 := Aside0.mk hn9
              have HB9 := Aside0.mk hb9
              clear hn9 hb9 hg9 hat9
              go_wp2
              exact ⟨⟨j + 1, by simp, hltj, ⟨by rw [hsn.out]; exact HN9.out⟩, ⟨HB9.out⟩⟩, by show x.f1.length - ((j : Int) + 1).toNat < x.f1.length - (j : Int).toNat; omega⟩
            | true =>
              have q3 : (p.f0.toList == ([65, 84, 84, 69, 78, 68, 69, 69] : List UInt8)) = true := hat
              have q4 : (p.f0.toList = ([65, 84, 84, 69, 78, 68, 69, 69] : List UInt8)) = True := eq_true (beq_iff_eq.1 hat)
              have q5 : (p.f0.toList != ([65, 84, 84, 69, 78, 68, 69, 69] : List UInt8)) = false := by rw [bne, q3]; rfl
              have hc := almanacref26_Alike.calls kk p.f2 addr _ (wr.alloc (.cells #[.string p.f0, .slice Ap p.f1.length cp, .string p.f2] 45)) (hax.out p hpm hat)
              cases hal : alikeB p.f2 addr with
              | false =>
                rw [hat, hal, if_pos (by rfl), List.append_nil] at hsn
                rw [hal] at hc
                have HC := Aside0.mk hc
                clear hat hal hc
                go_wp2_with (go_at_call 69; refine HC.out.mono ?_; rintro e w5 ⟨rfl, hb5⟩; have HB5 := Aside0.mk ((below_alloc (Below.refl wr.heap.size wr) (.cells #[.string p.f0, .slice Ap p.f1.length cp, .string p.f2] 45)).trans (hb5.mono (by simp))); clear hb5)
                exact ⟨⟨j + 1, by simp, hltj, ⟨by rw [hsn.out]; exact Kd.N_below HNi.out HB5.out⟩, ⟨HBi.out.trans (HB5.out.mono hsi)⟩⟩, by show x.f1.length - ((j : Int) + 1).toNat < x.f1.length - (j : Int).toNat; omega⟩
              | true =>
                rw [hat, hal, if_neg (by simp)] at hsn
                rw [hal] at hc
                have HC := Aside0.mk hc
                clear hat hal hc
                go_wp2_with (first | (go_at_call 69; refine HC.out.mono ?_; rintro e w5 ⟨rfl, hb5⟩; have BP := Aside0.mk (blk_below (heap_alloc_new wr (.cells #[.string p.f0, .slice Ap p.f1.length cp, .string p.f2] 45)) hb5); have p10 : w5.cell? ⟨wr.heap.size, 0, none⟩ = some (.string p.f0) := (blk_cell BP.out 0).trans rfl; have p11 : w5.cell? ⟨wr.heap.size, 1, none⟩ = some (.slice Ap p.f1.length cp) := (blk_cell BP.out 1).trans rfl; have p12 : w5.cell? ⟨wr.heap.size, 2, none⟩ = some (.string p.f2) := (blk_cell BP.out 2).trans rfl; have HB5 := Aside0.mk ((below_alloc (Below.refl wr.heap.size wr) (.cells #[.string p.f0, .slice Ap p.f1.length cp, .string p.f2] 45)).trans (hb5.mono (by simp))); clear hb5) | ((with_reducible refine gate_builtin (b := .append) (xs := #[.tmp 54, .tmp 56]) rfl ?_); refine Aside0.out ?_))
                refine ⟨?_⟩
                at_builtin
                refine Kd.N_append k45 (w0 := wo) wo.heap.size rfl (.tmp 54) (.tmp 56) 22 45 (.agg #[(.string ⟨#[]⟩), (.slice none 0 0), (.string ⟨#[]⟩)]) 56 rfl Try.underlying22 info45 rfl (by decide) (by omega) (.slice Av m.length cv) m p [.string p.f0, .slice Ap p.f1.length cp, .string p.f2] (fun q => ((P q ∧ q < w.heap.size) ∨ w.heap.size + 4 ≤ q) ∧ q ≠ g) (fun q => (((P q ∧ q < w.heap.size) ∨ w.heap.size + 4 ≤ q) ∧ q ≠ g) ∧ q < wo.heap.size) rfl (by first | (go_simp; done) | (go_simp; rfl)) ?aP ?aQ ?aF ?aO ?aB ?aS ?aL ?_
                case aP => exact k45_mkF _ _ p lp (Kd.F_below FP.out HB5.out)
                case aQ => exact fun q hq => ⟨hq.1, fun e => by have := Kd.N_base HNi.out q e.symm; omega⟩
                case aF => exact fun q hq => by have := HB5.out.size; exact ⟨.inr (by omega), by omega⟩
                case aO => exact Kd.N_below HNi.out HB5.out
                case aB => exact HBi.out.trans (HB5.out.mono hsi)
                case aS => have := HB5.out.size; omega
                case aL => omega
                intro v9 w9 hn9 hb9 hg9 hat9
                have HN9 := Aside0.mk hn9
                have HB9 := Aside0.mk hb9
                clear hn9 hb9 hg9 hat9
                go_wp2
                exact ⟨⟨j + 1, by simp, hltj, ⟨by rw [hsn.out]; exact HN9.out⟩, ⟨HB9.out⟩⟩, by show x.f1.length - ((j : Int) + 1).toNat < x.f1.length - (j : Int).toNat; omega⟩
          · have hltj0 : decide ((j : Int) < (x.f1.length : Int)) = false := decide_eq_false (by omega)
            have HCF := Aside0.mk (show onlyF addr x.f1 = m by rw [← HM.out, List.take_of_length_le (by omega)])
            have z1 := hgf.out wr HBi.out
            have hput := Aside0.mk ((HST.out _ (Below.refl _ _)).put HBi.out (chgK_len _ _ _).symm k hku HNi.out)
            go_wp2
            exact ⟨⟨k + 1, by simp, hlt, ⟨by rw [hsk.out]; have h_ := hput.out; rw [chgK_at (onlyF addr) l k hlt hku] at h_; rw [EX.out] at h_ ⊢; rw [HCF.out]; exact h_⟩⟩, by show l.length - ((k : Int) + 1).toNat < l.length - (k : Int).toNat; omega⟩
    · have hlt0 : decide ((k : Int) < (l.length : Int)) = false := decide_eq_false (by omega)
      have hN := HS.out.N
      rw [chgK_all (onlyF addr) l k (by omega)] at hN
      have HN := Aside0.mk hN
      have c0 : wr.cell? ⟨w.heap.size, 0, none⟩ = some (.string nm) := (blk_cell HS.out.C 0).trans rfl
      have c1' : wr.cell? ⟨w.heap.size, 1, none⟩ = some (.slice A1 n1 c1) := (blk_cell HS.out.C 1).trans rfl
      have r0 : wr.cell? ⟨w.heap.size + 1, 0, none⟩ = some (.string ⟨#[]⟩) := (blk_cell HS.out.R 0).trans rfl
      have r1 : wr.cell? ⟨w.heap.size + 1, 1, none⟩ = some (.slice none 0 0) := (blk_cell HS.out.R 1).trans rfl
      have r2 : wr.cell? ⟨w.heap.size + 1, 2, none⟩ = some (.slice none 0 0) := (blk_cell HS.out.R 2).trans rfl
      have t0 : wr.frozen? ⟨w.heap.size + 1, 0, none⟩ = false := blk_frozen HS.out.R 0
      have t1 : wr.frozen? ⟨w.heap.size + 1, 1, none⟩ = false := blk_frozen HS.out.R 1
      have t2 : wr.frozen? ⟨w.heap.size + 1, 2, none⟩ = false := blk_frozen HS.out.R 2
      clear hN
      go_wp2
      refine bodyPost_ret (results_box25 _ 4 rfl _ _ (w.heap.size + 1) nm A1 A' n1 c1 _ c' rfl (box3_at _ _ _ HS.out.R)) rfl ?_
      refine ⟨_, rfl, Kd.N_lower (Kd.N_mono (Kd.N_step HN.out (fun k hk _ => ?_)) (fun k hk => ?_)) (by omega), below_boxed HS.out.B (by omega) _ _ _⟩
      · have hne : k ≠ w.heap.size + 1 := by rcases hk with hk | hk <;> omega
        exact ((Below.heap_setCell _ _ _ k hne).trans (Below.heap_setCell _ _ _ k hne)).trans (Below.heap_setCell _ _ _ k hne)
      · exact hk.elim (fun hk => .inl hk.1) (fun hk => .inr (by omega))
def roundsA (k : Nat) (l : List S25) (a : ByteArray) : Bool := decide (a.size + 1 < k) && l.all fun x => x.f1.all fun p => !isAtt p.f0 || decide (p.f2.size + 1 < k)
theorem roundsA_at {k : Nat} {l : List S25} {a : ByteArray} (h : roundsA k l a = true) : a.size + 1 < k ∧ ∀ x ∈ l, ∀ p ∈ x.f1, isAtt p.f0 = true → p.f2.size + 1 < k := by
  unfold roundsA at h
  simp only [Bool.and_eq_true, decide_eq_true_eq, List.all_eq_true, Bool.or_eq_true, Bool.not_eq_true'] at h
  exact ⟨h.1, fun x hx p hp ha => (h.2 x hx p hp).resolve_left (by rw [ha]; simp)⟩
theorem roundsA_alike {k : Nat} {l : List S25} {a : ByteArray} (h : roundsA k l a = true) (ha : shortB a = true) (hl : limO l = true) : ∀ x ∈ l, ∀ p ∈ x.f1, isAtt p.f0 = true → almanacref26_Alike.f k p.f2 a = some (alikeB p.f2 a) := fun x hx p hp hat => by
  obtain ⟨h1, h2⟩ := roundsA_at h
  obtain ⟨k, rfl⟩ : ∃ m, k = m + 1 := ⟨k - 1, by omega⟩
  exact ralike_val k p.f2 a ((limO_at hl x hx).2 p hp hat).1 ha (by have := h2 x hx p hp hat; omega) (by omega)
def almanacref26_Only.f (k : Nat) (a0_0 : ByteArray) (l0_1 : List (S45)) (l0_2 : List (S25)) (a1 : ByteArray) : Option (ByteArray × (List (S45)) × (List (S25))) := if (limO l0_2 && (shortB a1 && roundsA k l0_2 a1)) = true then some (a0_0, l0_1, chgP (onlyF a1) l0_2) else none
theorem almanacref26_Only.calls (k : Nat) (a0_0 : ByteArray) (P0_1_ : Nat → Prop) (A0_1 : Option Addr) (c0_1 : Nat) (l0_1 : List (S45)) (P0_2_ : Nat → Prop) (A0_2 : Option Addr) (c0_2 : Nat) (l0_2 : List (S25)) (a1 : ByteArray) (r1 : ByteArray) (r2 : List (S45)) (r3 : List (S25)) (w : World) (hs0_1 : Kd.V k45 45 w w.heap.size (fun k_ => P0_1_ k_) (.slice A0_1 l0_1.length c0_1) l0_1) (hs0_2 : Kd.V k25 25 w w.heap.size (fun k_ => P0_2_ k_) (.slice A0_2 l0_2.length c0_2) l0_2) (h : almanacref26_Only.f k a0_0 l0_1 l0_2 a1 = some (r1, r2, r3)) :
    Calls Try.prog 27 #[.agg #[.string a0_0, .slice A0_1 l0_1.length c0_1, .slice A0_2 l0_2.length c0_2], .string a1] w fun e w' => ∃ v1_ v2_ : Value, e = .returned (.agg #[.string r1, v1_, v2_]) ∧ Kd.V k45 45 w' w.heap.size (fun k_ => ((P0_1_ k_ ∨ P0_2_ k_) ∨ w.heap.size ≤ k_) ∧ some k_ ≠ (v2_ : Value).ownBlock) v1_ r2 ∧ Kd.N k25 25 w' w.heap.size (fun k_ => ((P0_1_ k_ ∨ P0_2_ k_) ∨ w.heap.size ≤ k_)) v2_ r3 ∧ Below w.heap.size w w' := by
  unfold almanacref26_Only.f at h
  split at h
  case isFalse => cases h
  rename_i hc
  simp only [Bool.and_eq_true] at hc
  simp only [Option.some.injEq, Prod.mk.injEq] at h
  obtain ⟨rfl, rfl, rfl⟩ := h
  refine (ronly_walk k a0_0 A0_1 _ c0_1 P0_2_ A0_2 c0_2 l0_2 a1 w hs0_2 hc.1 (roundsA_alike hc.2.2 hc.2.1 hc.1)).mono ?_
  rintro e w' ⟨v, rfl, hn, hb⟩
  exact ⟨_, v, rfl, V_beside hs0_1 hb hn, Kd.N_mono hn (fun k hk => hk.imp (fun h => .inr h) id), hb⟩
end Go.Proofs.Ytebmbfobmakheaa.PD
namespace Go.Proofs.Ytebmbfobmakheaa.PD
open Go.RowKit Go.Proofs.YtebmbfobmakheaaW.PrintWords Go.Proofs.YtebmbfobmakheaaW.PrintLast Go.Proofs.YtebmbfobmakheaaW.PrintMore
attribute [local go_sem] isSome_setCell max2_int min2_int max_two min_two
set_option linter.unusedVariables false
set_option linter.unusedSimpArgs false
def set1 (addr name value : ByteArray) (x : S45) : S45 := if hitB addr x = true then { x with f1 := paramF name value x.f1 } else x
theorem setF_snoc (addr name value : ByteArray) (l : List S45) (j : Nat) (hj : j < l.length) : setF addr name value (l.take (j + 1)) = setF addr name value (l.take j) ++ [set1 addr name value l[j]] := by
  unfold setF
  rw [List.take_succ_eq_append_getElem hj, List.map_append]
  rfl
theorem setF_len (addr name value : ByteArray) (l : List S45) : (setF addr name value l).length = l.length := by unfold setF; rw [List.length_map]
theorem N_box45 {wr w7 : World} {base pb : Nat} {ok : Nat → Prop} {v : Value} {m : List S45} (h : Kd.N k45 45 wr base ok v m) (hb : Below wr.heap.size wr w7) (hp : wr.heap.size ≤ pb) (x y z : Value) :
    Kd.N k45 45 (((w7.setCell ⟨pb, 0, none⟩ x).setCell ⟨pb, 1, none⟩ y).setCell ⟨pb, 2, none⟩ z) base ok v m :=
  Kd.N_mono (Kd.N_step (Kd.N_below (Kd.N_bound h) hb) (fun k hk _ => by
    have hne : k ≠ pb := by have := hk.2; omega
    exact ((Below.heap_setCell _ _ _ k hne).trans (Below.heap_setCell _ _ _ k hne)).trans (Below.heap_setCell _ _ _ k hne))) (fun k hk => hk.1)
set_option maxRecDepth 100000 in
set_option maxHeartbeats 8000000 in
theorem rset_walk (kk : Nat) (nm : ByteArray) (A1 : Option Addr) (n1 c1 : Nat) (P : Nat → Prop) (A : Option Addr) (c : Nat) (l : List S25) (addr name value : ByteArray) (w : World) (hs : Kd.V k25 25 w w.heap.size P (.slice A l.length c) l) (hlim : limO l = true) (hal : ∀ x ∈ l, ∀ p ∈ x.f1, isAtt p.f0 = true → almanacref26_Alike.f kk p.f2 addr = some (alikeB p.f2 addr)) :
    Calls Try.prog 71 #[.agg #[.string nm, .slice A1 n1 c1, .slice A l.length c], .string addr, .string name, .string value] w fun e w' => ∃ v : Value, e = .returned (.agg #[.string nm, .slice A1 n1 c1, v]) ∧ Kd.N k25 25 w' w.heap.size (fun k => P k ∨ w.heap.size ≤ k) v (chgP (setF addr name value) l) ∧ Below w.heap.size w w' := by
  have HV := Aside0.mk hs
  have HAL := Aside0.mk hal
  have hll := limO_len hlim
  have HLIM := Aside0.mk (limO_at hlim)
  clear hs hal
  go_enter Try.func71, Try.ntmps71
  go_wp2_with (go_at_call 68; refine Aside0.out ?_)
  refine ⟨?_⟩
  obtain ⟨W3, hW3⟩ : ∃ W3, (w.alloc (Obj.cells #[Value.string nm, Value.slice A1 n1 c1, Value.slice A l.length c] 25)).alloc (Obj.cells #[Value.string { data := #[] }, Value.slice none 0 0, Value.slice none 0 0] 25) = W3 := ⟨_, rfl⟩
  have hz3 : W3.heap.size = w.heap.size + 2 := by rw [← hW3]; simp
  have hb3 : Below w.heap.size w W3 := by rw [← hW3]; exact below_alloc (below_alloc (Below.refl _ _) _) _
  have kC : W3.heap[w.heap.size]? = some (.cells #[.string nm, .slice A1 n1 c1, .slice A l.length c] 25 (0, 0)) := by rw [← hW3]; exact blk_alloc (alloc_at rfl) _
  have kR : W3.heap[w.heap.size + 1]? = some (.cells #[.string ⟨#[]⟩, .slice none 0 0, .slice none 0 0] 25 (0, 0)) := by rw [← hW3]; exact alloc_at (by simp)
  rw [hW3]
  clear hW3
  refine (own_walk nm A1 n1 c1 (fun k => P k ∧ k < w.heap.size) A c l W3 (Kd.V_below (Kd.V_bound HV.out) hb3) hll).mono ?_
  rintro e w5 ⟨v5, rfl, hn5, hb5⟩
  obtain ⟨A', c', rfl⟩ := Kd.N_slice hn5
  have HST := Aside0.mk (St.start hz3 hb3 kC kR hn5 hb5)
  have hC5 := blk_below kC hb5
  have q0 : w5.cell? ⟨w.heap.size, 0, none⟩ = some (.string nm) := (blk_cell hC5 0).trans rfl
  have q1 : w5.cell? ⟨w.heap.size, 1, none⟩ = some (.slice A1 n1 c1) := (blk_cell hC5 1).trans rfl
  have q2 : w5.cell? ⟨w.heap.size, 2, none⟩ = some (.slice A l.length c) := (blk_cell hC5 2).trans rfl
  have q3 : w5.frozen? ⟨w.heap.size, 0, none⟩ = false := blk_frozen hC5 0
  have q4 : w5.frozen? ⟨w.heap.size, 1, none⟩ = false := blk_frozen hC5 1
  have q5 : w5.frozen? ⟨w.heap.size, 2, none⟩ = false := blk_frozen hC5 2
  clear hn5 hb5 hb3 hC5 kC kR
  go_wp2
  clear q0 q1 q2 q3 q4 q5
  have hml : l.length ≤ 9223372036854775807 := by omega
  go_loopw [9] (fun v wr => ∃ k : Nat, v = .int .i64 k ∧ k ≤ l.length ∧ Aside0 (St w nm A1 n1 c1 A' c' P l.length (chgK (setF addr name value) k l) wr)) (fun v _ => l.length - (intOf v).toNat)
  case atStart => exact ⟨0, rfl, Nat.zero_le _, ⟨by rw [chgK_zero]; exact HST.out⟩⟩
  case round =>
    obtain ⟨k, rfl, hk, HS⟩ := hrel
    have s0 : wr.cell? ⟨w.heap.size, 2, none⟩ = some (.slice A' l.length c') := (blk_cell HS.out.C 2).trans rfl
    by_cases hlt : k < l.length
    · have hlt0 : decide ((k : Int) < (l.length : Int)) = true := decide_eq_true (by omega)
      have hku : k < (chgK (setF addr name value) k l).length := by rw [chgK_len]; exact hlt
      obtain ⟨g, cap, Ax, cx, A2, c2, ev, e0, e1, e2, hfz, le1, f1, le2, f2⟩ := N_get25 HS.out.N k hku
      have hgb := Kd.N_base HS.out.N g (by rw [ev]; rfl)
      have hglt := Kd.N_lt HS.out.N g (by rw [ev]; rfl)
      have hup := chgK_at (setF addr name value) l k hlt hku
      rw [hup] at e0 e1 e2 le1 f1
      rw [chgK_len] at ev
      injection ev with eA _ ecv
      subst eA
      subst ecv
      obtain ⟨x, ex⟩ : ∃ x, l[k] = x := ⟨_, rfl⟩
      have hxm : x ∈ l := by rw [← ex]; exact List.getElem_mem hlt
      rw [ex] at e0 e1 e2 le1 f1
      have EX := Aside0.mk ex
      have F1 := Aside0.mk f1
      have HF := Aside0.mk hfz
      clear f1 f2 le2 e2 ex hfz hup
      cases htz : isTz x.f0 with
      | true =>
        have q3 := isTz_q3 htz
        have q4 : (x.f0.toList = ([86, 84, 73, 77, 69, 90, 79, 78, 69] : List UInt8)) = True := eq_true (beq_iff_eq.1 q3)
        have q5 : (x.f0.toList != ([86, 84, 73, 77, 69, 90, 79, 78, 69] : List UInt8)) = false := by rw [bne, q3]; rfl
        have hsk := Aside0.mk (chgK_skip (setF addr name value) l k hlt (by rw [EX.out]; exact htz))
        clear htz
        go_wp2
        exact ⟨⟨k + 1, by simp, hlt, ⟨by rw [hsk.out]; exact HS.out⟩⟩, by show l.length - ((k : Int) + 1).toNat < l.length - (k : Int).toNat; omega⟩
      | false =>
        have q3 := isTz_q3 htz
        have q4 : (x.f0.toList = ([86, 84, 73, 77, 69, 90, 79, 78, 69] : List UInt8)) = False := eq_false (beq_eq_false_iff_ne.1 q3)
        have q5 : (x.f0.toList != ([86, 84, 73, 77, 69, 90, 79, 78, 69] : List UInt8)) = true := by rw [bne, q3]; rfl
        have hsk := Aside0.mk (chgK_hit (setF addr name value) l k hlt (by rw [EX.out]; exact htz))
        clear htz
        have hax := Aside0.mk (HAL.out x hxm)
        have hxl := (HLIM.out x hxm).1
        have hxsz : x.f1.length ≤ 9223372036854775807 := by omega
        have HST := Aside0.mk (show ∀ W', Below wr.heap.size wr W' → St w nm A1 n1 c1 (some ⟨g, 0, none⟩) c' P l.length (chgK (setF addr name value) k l) W' from fun W' hb => HS.out.below hb)
        have hgc := Aside0.mk (show ∀ W', Below wr.heap.size wr W' → W'.cell? ⟨g, k * 3 + 1, none⟩ = some (.slice Ax x.f1.length cx) from fun W' hb => (hb.cell (World.block_lt_of_cell? wr _ e1)).trans e1)
        have hgf := Aside0.mk (show ∀ W', Below wr.heap.size wr W' → W'.frozen? ⟨g, k * 3 + 1, none⟩ = false from fun W' hb => by
          obtain ⟨cells, hcl⟩ := Kd.N_typed HS.out.N g rfl
          exact blk_frozen (blk_below hcl hb) _)
        have HFx := Aside0.mk (show ∀ W', Below wr.heap.size wr W' → Kd.F k45 W' (fun q => (((P q ∧ q < w.heap.size) ∨ w.heap.size + 4 ≤ q) ∧ q ≠ g) ∧ q < wr.heap.size) Ax x.f1.length x.f1 from fun W' hb => Kd.F_below (Kd.F_bound F1.out) hb)
        have hBw := HS.out.B.size
        go_wp2
        clear s0 e0 e1
        obtain ⟨wo, hwo⟩ : ∃ wo, wo = wr := ⟨_, rfl⟩
        subst hwo
        go_loopw [10, 11] (fun v6 v7 wi => ∃ j : Nat, v7 = .int .i64 j ∧ j ≤ x.f1.length ∧ Aside0 (Kd.N k45 45 wi wo.heap.size (fun q => ((P q ∧ q < w.heap.size) ∨ w.heap.size + 4 ≤ q) ∧ q ≠ g) v6 (setF addr name value (x.f1.take j))) ∧ Aside0 (Below wo.heap.size wo wi)) (fun _ v7 _ => x.f1.length - (intOf v7).toNat)
        case atStart => exact ⟨0, rfl, Nat.zero_le _, ⟨by rw [List.take_zero]; exact Kd.N_nil _ _ _ _ _⟩, ⟨Below.refl _ _⟩⟩
        case round =>
          obtain ⟨j, rfl, hj, HNi, HBi⟩ := hrel
          obtain ⟨m, hm⟩ : ∃ m, setF addr name value (x.f1.take j) = m := ⟨_, rfl⟩
          have hol := Nat.le_of_eq (setF_len addr name value (x.f1.take j))
          rw [List.length_take, Nat.min_eq_left hj] at hol
          rw [hm] at HNi hol
          have HM := Aside0.mk hm
          clear hm
          obtain ⟨Av, cv, rfl⟩ := Kd.N_slice HNi.out
          have hci := (HST.out wr HBi.out).C
          have s0 : wr.cell? ⟨w.heap.size, 2, none⟩ = some (.slice (some ⟨g, 0, none⟩) l.length c') := (blk_cell hci 2).trans rfl
          have s1 := hgc.out wr HBi.out
          have hsi := HBi.out.size
          clear hci
          by_cases hltj : j < x.f1.length
          · have hltj0 : decide ((j : Int) < (x.f1.length : Int)) = true := decide_eq_true (by omega)
            obtain ⟨ad, Ap, cp, eax, p0, p1, p2, lp, fp⟩ := F_get45 (HFx.out wr HBi.out) j hltj
            subst eax
            obtain ⟨p, ep⟩ : ∃ p, x.f1[j] = p := ⟨_, rfl⟩
            have hpm : p ∈ x.f1 := by rw [← ep]; exact List.getElem_mem hltj
            rw [ep] at p0 p1 p2 lp fp
            have hsn := Aside0.mk (setF_snoc addr name value x.f1 j hltj)
            rw [ep, HM.out] at hsn
            have FP := Aside0.mk fp
            clear fp ep
            cases hat : isAtt p.f0 with
            | false =>
              have q3 : (p.f0.toList == ([65, 84, 84, 69, 78, 68, 69, 69] : List UInt8)) = false := hat
              have q4 : (p.f0.toList = ([65, 84, 84, 69, 78, 68, 69, 69] : List UInt8)) = False := eq_false (beq_eq_false_iff_ne.1 hat)
              rw [show set1 addr name value p = p by unfold set1 hitB; rw [hat, Bool.false_and, if_neg (by simp)]] at hsn
              clear hat
              have HX := Aside0.mk (show Below wr.heap.size wr (wr.alloc (.cells #[.string p.f0, .slice Ap p.f1.length cp, .string p.f2] 45)) from below_alloc (Below.refl _ _) _)
              go_wp2_with ((with_reducible refine gate_builtin (b := .append) (xs := #[.tmp 62, .tmp 64]) rfl ?_); refine Aside0.out ?_)
              refine ⟨?_⟩
              at_builtin
              refine Kd.N_append k45 (w0 := wo) wo.heap.size rfl (.tmp 62) (.tmp 64) 22 45 (.agg #[(.string ⟨#[]⟩), (.slice none 0 0), (.string ⟨#[]⟩)]) 56 rfl Try.underlying22 info45 rfl (by decide) (by omega) (.slice Av m.length cv) m p [.string p.f0, .slice Ap p.f1.length cp, .string p.f2] (fun q => ((P q ∧ q < w.heap.size) ∨ w.heap.size + 4 ≤ q) ∧ q ≠ g) (fun q => (((P q ∧ q < w.heap.size) ∨ w.heap.size + 4 ≤ q) ∧ q ≠ g) ∧ q < wo.heap.size) rfl (by first | (go_simp; done) | (go_simp; rfl)) ?aP ?aQ ?aF ?aO ?aB ?aS ?aL ?_
              case aP => exact k45_mkF _ _ p lp (Kd.F_below FP.out HX.out)
              case aQ => exact fun q hq => ⟨hq.1, fun e => by have := Kd.N_base HNi.out q e.symm; omega⟩
              case aF => exact fun q hq => by have := HX.out.size; exact ⟨.inr (by omega), by omega⟩
              case aO => exact Kd.N_below HNi.out HX.out
              case aB => exact HBi.out.trans (HX.out.mono hsi)
              case aS => have := HX.out.size; omega
              case aL => omega
              intro v9 w9 hn9 hb9 hg9 hat9
              have HN9 := Aside0.mk hn9
              have HB9 := Aside0.mk hb9
              clear hn9 hb9 hg9 hat9
              go_wp2
              exact ⟨⟨j + 1, by simp, hltj, ⟨by rw [hsn.out]; exact HN9.out⟩, ⟨HB9.out⟩⟩, by show x.f1.length - ((j : Int) + 1).toNat < x.f1.length - (j : Int).toNat; omega⟩
            | true =>
              have q3 : (p.f0.toList == ([65, 84, 84, 69, 78, 68, 69, 69] : List UInt8)) = true := hat
              have q4 : (p.f0.toList = ([65, 84, 84, 69, 78, 68, 69, 69] : List UInt8)) = True := eq_true (beq_iff_eq.1 hat)
              have hpl := ((HLIM.out x hxm).2 p hpm hat).2
              have hc := almanacref26_Alike.calls kk p.f2 addr _ (wr.alloc (.cells #[.string p.f0, .slice Ap p.f1.length cp, .string p.f2] 45)) (hax.out p hpm hat)
              cases hal : alikeB p.f2 addr with
              | false =>
                rw [show set1 addr name value p = p by unfold set1 hitB; rw [hat, hal, if_neg (by simp)]] at hsn
                rw [hal] at hc
                have HC := Aside0.mk hc
                clear hat hal hc
                go_wp2_with (first | (go_at_call 69; refine HC.out.mono ?_; rintro e w5 ⟨rfl, hb5⟩; have BP := Aside0.mk (blk_below (heap_alloc_new wr (.cells #[.string p.f0, .slice Ap p.f1.length cp, .string p.f2] 45)) hb5); have p10 : w5.cell? ⟨wr.heap.size, 0, none⟩ = some (.string p.f0) := (blk_cell BP.out 0).trans rfl; have p11 : w5.cell? ⟨wr.heap.size, 1, none⟩ = some (.slice Ap p.f1.length cp) := (blk_cell BP.out 1).trans rfl; have p12 : w5.cell? ⟨wr.heap.size, 2, none⟩ = some (.string p.f2) := (blk_cell BP.out 2).trans rfl; have HB5 := Aside0.mk ((below_alloc (Below.refl wr.heap.size wr) (.cells #[.string p.f0, .slice Ap p.f1.length cp, .string p.f2] 45)).trans (hb5.mono (by simp))); have hs5 : wr.heap.size < w5.heap.size := blk_lt BP.out; clear hb5) | ((with_reducible refine gate_builtin (b := .append) (xs := #[.tmp 62, .tmp 64]) rfl ?_); refine Aside0.out ?_))
                refine ⟨?_⟩
                at_builtin
                refine Kd.N_append k45 (w0 := wo) wo.heap.size rfl (.tmp 62) (.tmp 64) 22 45 (.agg #[(.string ⟨#[]⟩), (.slice none 0 0), (.string ⟨#[]⟩)]) 56 rfl Try.underlying22 info45 rfl (by decide) (by omega) (.slice Av m.length cv) m p [.string p.f0, .slice Ap p.f1.length cp, .string p.f2] (fun q => ((P q ∧ q < w.heap.size) ∨ w.heap.size + 4 ≤ q) ∧ q ≠ g) (fun q => (((P q ∧ q < w.heap.size) ∨ w.heap.size + 4 ≤ q) ∧ q ≠ g) ∧ q < wo.heap.size) rfl (by first | (go_simp; done) | (go_simp; rfl)) ?aP ?aQ ?aF ?aO ?aB ?aS ?aL ?_
                case aP => exact k45_mkF _ _ p lp (Kd.F_below FP.out HB5.out)
                case aQ => exact fun q hq => ⟨hq.1, fun e => by have := Kd.N_base HNi.out q e.symm; omega⟩
                case aF => exact fun q hq => by have := HB5.out.size; exact ⟨.inr (by omega), by omega⟩
                case aO => exact Kd.N_below HNi.out HB5.out
                case aB => exact HBi.out.trans (HB5.out.mono hsi)
                case aS => have := HB5.out.size; omega
                case aL => omega
                intro v9 w9 hn9 hb9 hg9 hat9
                have HN9 := Aside0.mk hn9
                have HB9 := Aside0.mk hb9
                clear hn9 hb9 hg9 hat9
                go_wp2
                exact ⟨⟨j + 1, by simp, hltj, ⟨by rw [hsn.out]; exact HN9.out⟩, ⟨HB9.out⟩⟩, by show x.f1.length - ((j : Int) + 1).toNat < x.f1.length - (j : Int).toNat; omega⟩
              | true =>
                rw [show set1 addr name value p = { p with f1 := paramF name value p.f1 } by unfold set1 hitB; rw [hat, hal, if_pos (by rfl)]] at hsn
                rw [hal] at hc
                have HC := Aside0.mk hc
                clear hat hal hc
                go_wp2_with (first | (go_at_call 69; refine HC.out.mono ?_; rintro e w5 ⟨rfl, hb5⟩; have BP := Aside0.mk (blk_below (heap_alloc_new wr (.cells #[.string p.f0, .slice Ap p.f1.length cp, .string p.f2] 45)) hb5); have p10 : w5.cell? ⟨wr.heap.size, 0, none⟩ = some (.string p.f0) := (blk_cell BP.out 0).trans rfl; have p11 : w5.cell? ⟨wr.heap.size, 1, none⟩ = some (.slice Ap p.f1.length cp) := (blk_cell BP.out 1).trans rfl; have p12 : w5.cell? ⟨wr.heap.size, 2, none⟩ = some (.string p.f2) := (blk_cell BP.out 2).trans rfl; have HB5 := Aside0.mk ((below_alloc (Below.refl wr.heap.size wr) (.cells #[.string p.f0, .slice Ap p.f1.length cp, .string p.f2] 45)).trans (hb5.mono (by simp))); have hs5 : wr.heap.size < w5.heap.size := blk_lt BP.out; clear hb5) | (go_at_call 97; refine Aside0.out ?_))
                refine ⟨?_⟩
                refine (param_walk p.f0 p.f2 name value (fun q => (((P q ∧ q < w.heap.size) ∨ w.heap.size + 4 ≤ q) ∧ q ≠ g) ∧ q < wo.heap.size) Ap cp p.f1 w5 (Kd.V_mk lp (Kd.F_below FP.out HB5.out)) hpl).mono ?_
                rintro e w7 ⟨v7, rfl, hn7, hb7⟩
                obtain ⟨y, hy⟩ : ∃ y, paramF name value p.f1 = y := ⟨_, rfl⟩
                rw [hy] at hn7 hsn
                clear hy
                obtain ⟨A7, c7, rfl⟩ := Kd.N_slice hn7
                have HN7 := Aside0.mk hn7
                have BP7 := Aside0.mk (blk_below BP.out hb7)
                have HB7 := Aside0.mk (HB5.out.trans (hb7.mono HB5.out.size))
                have hs7 := hb7.size
                have p70 : w7.cell? ⟨wr.heap.size, 0, none⟩ = some (.string p.f0) := (blk_cell BP7.out 0).trans rfl
                have p71 : w7.cell? ⟨wr.heap.size, 1, none⟩ = some (.slice Ap p.f1.length cp) := (blk_cell BP7.out 1).trans rfl
                have p72 : w7.cell? ⟨wr.heap.size, 2, none⟩ = some (.string p.f2) := (blk_cell BP7.out 2).trans rfl
                have p73 : w7.frozen? ⟨wr.heap.size, 0, none⟩ = false := blk_frozen BP7.out 0
                have p74 : w7.frozen? ⟨wr.heap.size, 1, none⟩ = false := blk_frozen BP7.out 1
                have p75 : w7.frozen? ⟨wr.heap.size, 2, none⟩ = false := blk_frozen BP7.out 2
                clear hn7 hb7 p10 p11 p12
                go_wp2_with ((with_reducible refine gate_builtin (b := .append) (xs := #[.tmp 62, .tmp 64]) rfl ?_); refine Aside0.out ?_)
                refine ⟨?_⟩
                obtain ⟨W8, hW8⟩ : ∃ W8, ((w7.setCell ⟨wr.heap.size, 0, none⟩ (.string p.f0)).setCell ⟨wr.heap.size, 1, none⟩ (.slice A7 y.length c7)).setCell ⟨wr.heap.size, 2, none⟩ (.string p.f2) = W8 := ⟨_, rfl⟩
                have HO8 := Aside0.mk (show Kd.N k45 45 W8 wo.heap.size (fun q => ((P q ∧ q < w.heap.size) ∨ w.heap.size + 4 ≤ q) ∧ q ≠ g) (.slice Av m.length cv) m by rw [← hW8]; exact N_box45 HNi.out HB7.out (Nat.le_refl _) _ _ _)
                have HB8 := Aside0.mk (show Below wr.heap.size wr W8 by rw [← hW8]; exact below_boxed HB7.out (Nat.le_refl _) _ _ _)
                have HF8 := Aside0.mk (show Kd.F k77 W8 (fun q => ((((P q ∧ q < w.heap.size) ∨ w.heap.size + 4 ≤ q) ∧ q ≠ g) ∧ q < wo.heap.size) ∨ w5.heap.size ≤ q) A7 y.length y by
                  rw [← hW8]
                  refine Kd.F_mono (Kd.F_step (Kd.N_F HN7.out) (fun q hq _ => ?_)) (fun q hq => hq.imp (fun h => h.1) (fun h => by omega))
                  have hne : q ≠ wr.heap.size := by rcases hq with hq | hq <;> omega
                  exact ((Below.heap_setCell _ _ _ q hne).trans (Below.heap_setCell _ _ _ q hne)).trans (Below.heap_setCell _ _ _ q hne))
                have hyl := (Kd.N_reads' HN7.out).2.1
                have hz8 : W8.heap.size = w7.heap.size := by rw [← hW8]; simp [World.setCell]
                rw [hW8]
                clear hW8
                at_builtin
                refine Kd.N_append k45 (w0 := wo) wo.heap.size rfl (.tmp 62) (.tmp 64) 22 45 (.agg #[(.string ⟨#[]⟩), (.slice none 0 0), (.string ⟨#[]⟩)]) 56 rfl Try.underlying22 info45 rfl (by decide) (by omega) (.slice Av m.length cv) m ({ p with f1 := y } : S45) [.string p.f0, .slice A7 y.length c7, .string p.f2] (fun q => ((P q ∧ q < w.heap.size) ∨ w.heap.size + 4 ≤ q) ∧ q ≠ g) (fun q => ((((P q ∧ q < w.heap.size) ∨ w.heap.size + 4 ≤ q) ∧ q ≠ g) ∧ q < wo.heap.size) ∨ w5.heap.size ≤ q) rfl (by first | (go_simp; done) | (go_simp; rfl)) ?aP ?aQ ?aF ?aO ?aB ?aS ?aL ?_
                case aP => exact k45_mkF _ _ ({ p with f1 := y } : S45) hyl HF8.out
                case aQ =>
                  rintro q (hq | hq)
                  · exact ⟨hq.1, fun e => by have := Kd.N_base HNi.out q e.symm; omega⟩
                  · exact ⟨⟨.inr (by omega), by omega⟩, fun e => by have := Kd.N_lt HNi.out q e.symm; omega⟩
                case aF => exact fun q hq => by have := HB8.out.size; exact ⟨.inr (by omega), by omega⟩
                case aO => exact HO8.out
                case aB => exact HBi.out.trans (HB8.out.mono hsi)
                case aS => have := HB8.out.size; omega
                case aL => omega
                intro v9 w9 hn9 hb9 hg9 hat9
                have HN9 := Aside0.mk hn9
                have HB9 := Aside0.mk hb9
                clear hn9 hb9 hg9 hat9
                go_wp2
                exact ⟨⟨j + 1, by simp, hltj, ⟨by rw [hsn.out]; exact HN9.out⟩, ⟨HB9.out⟩⟩, by show x.f1.length - ((j : Int) + 1).toNat < x.f1.length - (j : Int).toNat; omega⟩
          · have hltj0 : decide ((j : Int) < (x.f1.length : Int)) = false := decide_eq_false (by omega)
            have HCF := Aside0.mk (show setF addr name value x.f1 = m by rw [← HM.out, List.take_of_length_le (by omega)])
            have z1 := hgf.out wr HBi.out
            have hput := Aside0.mk ((HST.out _ (Below.refl _ _)).put HBi.out (chgK_len _ _ _).symm k hku HNi.out)
            go_wp2
            exact ⟨⟨k + 1, by simp, hlt, ⟨by rw [hsk.out]; have h_ := hput.out; rw [chgK_at (setF addr name value) l k hlt hku] at h_; rw [EX.out] at h_ ⊢; rw [HCF.out]; exact h_⟩⟩, by show l.length - ((k : Int) + 1).toNat < l.length - (k : Int).toNat; omega⟩
    · have hlt0 : decide ((k : Int) < (l.length : Int)) = false := decide_eq_false (by omega)
      have hN := HS.out.N
      rw [chgK_all (setF addr name value) l k (by omega)] at hN
      have HN := Aside0.mk hN
      have c0 : wr.cell? ⟨w.heap.size, 0, none⟩ = some (.string nm) := (blk_cell HS.out.C 0).trans rfl
      have c1' : wr.cell? ⟨w.heap.size, 1, none⟩ = some (.slice A1 n1 c1) := (blk_cell HS.out.C 1).trans rfl
      have r0 : wr.cell? ⟨w.heap.size + 1, 0, none⟩ = some (.string ⟨#[]⟩) := (blk_cell HS.out.R 0).trans rfl
      have r1 : wr.cell? ⟨w.heap.size + 1, 1, none⟩ = some (.slice none 0 0) := (blk_cell HS.out.R 1).trans rfl
      have r2 : wr.cell? ⟨w.heap.size + 1, 2, none⟩ = some (.slice none 0 0) := (blk_cell HS.out.R 2).trans rfl
      have t0 : wr.frozen? ⟨w.heap.size + 1, 0, none⟩ = false := blk_frozen HS.out.R 0
      have t1 : wr.frozen? ⟨w.heap.size + 1, 1, none⟩ = false := blk_frozen HS.out.R 1
      have t2 : wr.frozen? ⟨w.heap.size + 1, 2, none⟩ = false := blk_frozen HS.out.R 2
      clear hN
      go_wp2
      refine bodyPost_ret (results_box25 _ 8 rfl _ _ (w.heap.size + 1) nm A1 A' n1 c1 _ c' rfl (box3_at _ _ _ HS.out.R)) rfl ?_
      refine ⟨_, rfl, Kd.N_lower (Kd.N_mono (Kd.N_step HN.out (fun k hk _ => ?_)) (fun k hk => ?_)) (by omega), below_boxed HS.out.B (by omega) _ _ _⟩
      · have hne : k ≠ w.heap.size + 1 := by rcases hk with hk | hk <;> omega
        exact ((Below.heap_setCell _ _ _ k hne).trans (Below.heap_setCell _ _ _ k hne)).trans (Below.heap_setCell _ _ _ k hne)
      · exact hk.elim (fun hk => .inl hk.1) (fun hk => .inr (by omega))
def almanacref26_set.f (k : Nat) (a0_0 : ByteArray) (l0_1 : List (S45)) (l0_2 : List (S25)) (a1 : ByteArray) (a2 : ByteArray) (a3 : ByteArray) : Option (ByteArray × (List (S45)) × (List (S25))) := if (limO l0_2 && (shortB a1 && roundsA k l0_2 a1)) = true then some (a0_0, l0_1, chgP (setF a1 a2 a3) l0_2) else none
theorem almanacref26_set.calls (k : Nat) (a0_0 : ByteArray) (P0_1_ : Nat → Prop) (A0_1 : Option Addr) (c0_1 : Nat) (l0_1 : List (S45)) (P0_2_ : Nat → Prop) (A0_2 : Option Addr) (c0_2 : Nat) (l0_2 : List (S25)) (a1 : ByteArray) (a2 : ByteArray) (a3 : ByteArray) (r1 : ByteArray) (r2 : List (S45)) (r3 : List (S25)) (w : World) (hs0_1 : Kd.V k45 45 w w.heap.size (fun k_ => P0_1_ k_) (.slice A0_1 l0_1.length c0_1) l0_1) (hs0_2 : Kd.V k25 25 w w.heap.size (fun k_ => P0_2_ k_) (.slice A0_2 l0_2.length c0_2) l0_2) (h : almanacref26_set.f k a0_0 l0_1 l0_2 a1 a2 a3 = some (r1, r2, r3)) :
    Calls Try.prog 71 #[.agg #[.string a0_0, .slice A0_1 l0_1.length c0_1, .slice A0_2 l0_2.length c0_2], .string a1, .string a2, .string a3] w fun e w' => ∃ v1_ v2_ : Value, e = .returned (.agg #[.string r1, v1_, v2_]) ∧ Kd.V k45 45 w' w.heap.size (fun k_ => ((P0_1_ k_ ∨ P0_2_ k_) ∨ w.heap.size ≤ k_) ∧ some k_ ≠ (v2_ : Value).ownBlock) v1_ r2 ∧ Kd.N k25 25 w' w.heap.size (fun k_ => ((P0_1_ k_ ∨ P0_2_ k_) ∨ w.heap.size ≤ k_)) v2_ r3 ∧ Below w.heap.size w w' := by
  unfold almanacref26_set.f at h
  split at h
  case isFalse => cases h
  rename_i hc
  simp only [Bool.and_eq_true] at hc
  simp only [Option.some.injEq, Prod.mk.injEq] at h
  obtain ⟨rfl, rfl, rfl⟩ := h
  refine (rset_walk k a0_0 A0_1 _ c0_1 P0_2_ A0_2 c0_2 l0_2 a1 a2 a3 w hs0_2 hc.1 (roundsA_alike hc.2.2 hc.2.1 hc.1)).mono ?_
  rintro e w' ⟨v, rfl, hn, hb⟩
  exact ⟨_, v, rfl, V_beside hs0_1 hb hn, Kd.N_mono hn (fun k hk => hk.imp (fun h => .inr h) id), hb⟩
end Go.Proofs.Ytebmbfobmakheaa.PD
namespace Go.Proofs.Ytebmbfobmakheaa.PD
open Go.RowKit Go.Proofs.YtebmbfobmakheaaW.PrintWords Go.Proofs.YtebmbfobmakheaaW.PrintLast Go.Proofs.YtebmbfobmakheaaW.PrintMore
set_option linter.unusedVariables false
set_option linter.unusedSimpArgs false
theorem rparam (a : ByteArray) (l : List S77) (b n : ByteArray) (hl : l.length ≤ 9223372036854775807) : Ev (fun k => almanacref11_Param.f k a l b n) (paramP l n) := by
  unfold almanacref11_Param.f
  have key : ∀ (d i : Nat), l.length - i = d → i ≤ l.length → Ev (fun k => almanacref11_Param.l0 k n i a l b) (paramP (l.drop i) n) := by
    intro d
    induction d with
    | zero =>
      intro i hd hi
      refine ⟨1, fun k hk => ?_⟩
      obtain ⟨k, rfl⟩ : ∃ m, k = m + 1 := ⟨k - 1, by omega⟩
      simp only [almanacref11_Param.l0]
      rw [if_neg (by omega), List.drop_eq_nil_of_le (by omega)]
      rfl
    | succ d ih =>
      intro i hd hi
      have hlt : i < l.length := by omega
      rw [List.drop_eq_getElem_cons hlt]
      by_cases he : l[i].f0.toList = n.toList
      · refine ⟨1, fun k hk => ?_⟩
        obtain ⟨k, rfl⟩ : ∃ m, k = m + 1 := ⟨k - 1, by omega⟩
        simp only [almanacref11_Param.l0]
        rw [if_pos (by omega), if_pos (by omega), rd77_at l i hlt, if_pos he]
        unfold paramP
        rw [List.find?_cons, show (l[i].f0.toList == n.toList) = true from beq_iff_eq.2 he]
        simp only
        cases hv : l[i].f1 with
        | nil => rfl
        | cons v r =>
          have e : rdOf ByteArray.empty (v :: r) 0 = v := by simp [rdOf]
          rw [if_neg (by simp; omega), if_pos (by simp), e]
          rfl
      · refine Ev.step (f := fun k => almanacref11_Param.l0 k n ((i + 1 : Nat) : Int) a l b) (fun k => ?_) ?_
        · simp only [almanacref11_Param.l0]
          rw [if_pos (by omega), if_pos (by omega), rd77_at l i hlt, if_neg he, wrap_next hlt (by omega)]
        · have := ih (i + 1) (by omega) (by omega)
          unfold paramP at this ⊢
          rw [List.find?_cons, show (l[i].f0.toList == n.toList) = false from beq_eq_false_iff_ne.2 he]
          exact this
  have := key l.length 0 (by omega) (by omega)
  rw [List.drop_zero] at this
  exact this
def stOf (ps : List S45) (addr : ByteArray) : ByteArray := match ps.find? (fun x => alikeB x.f2 addr) with | some x => answerP x | none => ⟨#[]⟩
theorem stOf_append (a b : List S45) (addr : ByteArray) : stOf (a ++ b) addr = match a.find? (fun x => alikeB x.f2 addr) with | some x => answerP x | none => stOf b addr := by
  unfold stOf
  rw [List.find?_append]
  cases a.find? (fun x => alikeB x.f2 addr) <;> rfl
theorem rst_l1 (addr : ByteArray) (ha : shortB addr = true) (l : List S25) (i : Nat) (hi : i < l.length) (hll : l.length ≤ 1000000000) (ps : List S45) (hps : ∀ p ∈ ps, SzP p) (hpm : ps.length ≤ 1000000000) (rest : ByteArray) (hrest : Ev (fun k => almanacref26_Status.l0 k addr l ((i + 1 : Nat) : Int)) rest) :
    ∀ (d j : Nat), ps.length - j = d → j ≤ ps.length → Ev (fun k => almanacref26_Status.l1 k addr l i ps j) (match (ps.drop j).find? (fun x => alikeB x.f2 addr) with | some x => answerP x | none => rest) := by
  intro d
  induction d with
  | zero =>
    intro j hd hj
    rw [List.drop_eq_nil_of_le (by omega)]
    refine Ev.step (f := fun k => almanacref26_Status.l0 k addr l ((i + 1 : Nat) : Int)) (fun k => ?_) hrest
    simp only [almanacref26_Status.l1]
    rw [if_neg (by omega), wrap_next hi (by omega)]
  | succ d ih =>
    intro j hd hj
    have hlt : j < ps.length := by omega
    obtain ⟨hs1, hs2, hs3⟩ := hps ps[j] (List.getElem_mem hlt)
    rw [List.drop_eq_getElem_cons hlt, List.find?_cons]
    refine Ev.step (f := fun k => (almanacref26_Alike.f k ps[j].f2 addr).bind fun t437 => (if t437 = true then ((almanacref11_Param.f k ps[j].f0 ps[j].f1 ps[j].f2 (⟨#[80, 65, 82, 84, 83, 84, 65, 84]⟩ : ByteArray)).bind fun bt439 => (if bt439.2 = true then ((almanacref08_Upper.f bt439.1).bind fun t441 => (some t441)) else (some (⟨#[78, 69, 69, 68, 83, 45, 65, 67, 84, 73, 79, 78]⟩ : ByteArray)))) else (almanacref26_Status.l1 k addr l i ps ((j + 1 : Nat) : Int)))) (fun k => ?_) ?_
    · simp only [almanacref26_Status.l1]
      rw [if_pos (by omega), if_pos (by omega), wrap_next hlt (by omega), rd45_at ps j hlt]
    · refine Ev.bind (ralike ps[j].f2 addr (short_of hs1) ha) ?_
      cases hb : alikeB ps[j].f2 addr with
      | false =>
        refine Ev.congr (fun k => ?_) (ih (j + 1) (by omega) (by omega))
        rw [if_neg (by simp)]
      | true =>
        refine Ev.congr (fun k => if_pos rfl) ?_
        refine Ev.bind (rparam _ ps[j].f1 _ _ (by omega)) ?_
        simp only
        unfold answerP
        cases hp : (paramP ps[j].f1 (⟨#[80, 65, 82, 84, 83, 84, 65, 84]⟩ : ByteArray)).2 with
        | false => exact ⟨0, fun k _ => by simp⟩
        | true =>
          refine ⟨0, fun k _ => ?_⟩
          have hsh : shortB (paramP ps[j].f1 (⟨#[80, 65, 82, 84, 83, 84, 65, 84]⟩ : ByteArray)).1 = true := by
            unfold paramP
            split
            · rename_i q hq
              have hqm := List.mem_of_find?_eq_some hq
              cases hv : q.f1 with
              | nil => exact short_of (by show (0 : Nat) ≤ _; omega)
              | cons v r => exact short_of ((hs3 q hqm).2 v (by rw [hv]; exact List.mem_cons_self))
            · exact short_of (by show (0 : Nat) ≤ _; omega)
          simp only [if_true]
          unfold almanacref08_Upper.f
          rw [if_pos hsh]
          rfl
theorem rst_l0 (addr : ByteArray) (ha : shortB addr = true) (l : List S25) (hl : LimL l) (hp : ∀ x ∈ l, ∀ p ∈ x.f1, SzP p) : ∀ (d i : Nat), l.length - i = d → i ≤ l.length → Ev (fun k => almanacref26_Status.l0 k addr l i) (stOf (attL (l.drop i)) addr) := by
  intro d
  induction d with
  | zero =>
    intro i hd hi
    refine ⟨1, fun k hk => ?_⟩
    obtain ⟨k, rfl⟩ : ∃ m, k = m + 1 := ⟨k - 1, by omega⟩
    simp only [almanacref26_Status.l0]
    rw [if_neg (by omega), List.drop_eq_nil_of_le (by omega)]
    rfl
  | succ d ih =>
    intro i hd hi
    have hlt : i < l.length := by omega
    have hln := hl.1
    have hfl := hl.2 l[i] (List.getElem_mem hlt)
    rw [List.drop_eq_getElem_cons hlt, show attL (l[i] :: l.drop (i + 1)) = byN l[i].f1 attN ++ attL (l.drop (i + 1)) from rfl, stOf_append]
    refine Ev.step (f := fun k => (almanacref12_Props.f k l[i].f0 l[i].f1 l[i].f2 attN).bind fun t433 => (almanacref26_Status.l1 k addr l i t433 0)) (fun k => ?_) ?_
    · simp only [almanacref26_Status.l0]
      rw [if_pos (by omega), if_pos (by omega), rd25_at l i hlt]
    · refine Ev.bind (rprops _ _ _ attN (by omega)) ?_
      have := rst_l1 addr ha l i hlt hln (byN l[i].f1 attN) (fun p h => hp _ (List.getElem_mem hlt) p (List.mem_filter.1 h).1) (Nat.le_trans (List.length_filter_le _ _) hfl) _ (ih (i + 1) (by omega) (by omega)) _ 0 rfl (Nat.zero_le _)
      rw [List.drop_zero] at this
      exact this
theorem statusP_st (l : List S25) (addr : ByteArray) : statusP l addr = stOf (attL (oth l)) addr := by
  unfold statusP stOf
  rw [attP_oth]
  rfl
theorem rstatus (a : ByteArray) (l1 : List S45) (l : List S25) (addr : ByteArray) (ha : shortB addr = true) (hl : LimL l) (hp : ∀ x ∈ l, ∀ p ∈ x.f1, SzP p) : Ev (fun k => almanacref26_Status.f k a l1 l addr) (statusP l addr) := by
  unfold almanacref26_Status.f
  refine Ev.bind (rothers a l1 l hl.1) ?_
  rw [statusP_st]
  have := rst_l0 addr ha (oth l) hl.oth (fun x hx => hp x (oth_mem_l hx)) _ 0 rfl (Nat.zero_le _)
  rw [List.drop_zero] at this
  exact this
inductive Ln : S25 → Prop
  | mk (x : S25) : x.f1.length ≤ 4611686018427387904 → (∀ p ∈ x.f1, LimP p) → x.f2.length ≤ 4611686018427387904 → (∀ y ∈ x.f2, Ln y) → Ln x
theorem SzP.lim {p : S45} (h : SzP p) : LimP p := ⟨by have := h.2.1; omega, fun q hq => by have := (h.2.2 q hq).1; omega⟩
theorem Sz.ln {x : S25} (h : Sz x) : Ln x := by
  induction h with
  | mk x h1 h2 h3 h4 ih => exact Ln.mk x (by omega) (fun p hp => (h2 p hp).lim) (by omega) ih
theorem eqL_refl {α : Type} (p : α → α → Bool) (l : List α) (h : ∀ x, p x x = true) : eqL p l l = true := eqL_true p l l rfl (fun j hj => h l[j])
theorem sameV_refl (x : S77) : sameV x x = true := by unfold sameV sameB; rw [texts_same, Bool.true_and]; exact eqL_refl _ _ (fun s => texts_same s)
theorem sameP_refl (x : S45) : sameP x x = true := by unfold sameP sameB; rw [texts_same, texts_same, Bool.true_and, Bool.true_and]; exact eqL_refl _ _ sameV_refl
theorem same_loop (a : ByteArray) (l1 : List S45) (l2 : List S25) (hl2 : l2.length ≤ 4611686018427387904) (ih : ∀ y ∈ l2, Ev (fun k => almanacref12_Same.f k y.f0 y.f1 y.f2 y.f0 y.f1 y.f2) true) : ∀ (d i : Nat), l2.length - i = d → i ≤ l2.length → Ev (fun k => almanacref12_Same.l0 k i a l1 l2 a l1 l2) true := by
  intro d
  induction d with
  | zero =>
    intro i hd hi
    refine ⟨1, fun k hk => ?_⟩
    obtain ⟨k, rfl⟩ : ∃ m, k = m + 1 := ⟨k - 1, by omega⟩
    simp only [almanacref12_Same.l0]
    rw [if_neg (by omega)]
  | succ d ihd =>
    intro i hd hi
    have hlt : i < l2.length := by omega
    refine Ev.step (f := fun k => (almanacref12_Same.f k l2[i].f0 l2[i].f1 l2[i].f2 l2[i].f0 l2[i].f1 l2[i].f2).bind fun t389 => (if t389 = true then (almanacref12_Same.l0 k ((i + 1 : Nat) : Int) a l1 l2 a l1 l2) else (some false))) (fun k => ?_) ?_
    · simp only [almanacref12_Same.l0]
      rw [if_pos (by omega), if_pos (by omega), if_pos (by omega), wrap_next hlt (by omega), rd25_at l2 i hlt]
    · refine Ev.bind (ih _ (List.getElem_mem hlt)) ?_
      exact Ev.congr (fun k => if_pos rfl) (ihd (i + 1) (by omega) (by omega))
theorem same_of (a : ByteArray) (l1 : List S45) (l2 : List S25) (hl1 : l1.length ≤ 4611686018427387904) (hp1 : ∀ p ∈ l1, LimP p) (hl2 : l2.length ≤ 4611686018427387904) (ih : ∀ y ∈ l2, Ev (fun k => almanacref12_Same.f k y.f0 y.f1 y.f2 y.f0 y.f1 y.f2) true) : Ev (fun k => almanacref12_Same.f k a l1 l2 a l1 l2) true := by
  refine Ev.step (f := fun k => (almanacref12_Rows.f k l1 l1).bind fun t386 => (if t386 = true then (almanacref12_Same.j0 k false a l1 l2 a l1 l2) else (almanacref12_Same.j0 k true a l1 l2 a l1 l2))) (fun k => ?_) ?_
  · simp only [almanacref12_Same.f]
    rw [if_pos trivial, show ((l2.length : Int) != (l2.length : Int)) = false by simp]
  · refine Ev.bind (rrows l1 l1 (by omega) hp1) ?_
    rw [eqL_refl sameP l1 sameP_refl]
    refine Ev.congr (fun k => if_pos rfl) (Ev.step (f := fun k => almanacref12_Same.l0 k 0 a l1 l2 a l1 l2) (fun k => ?_) (same_loop a l1 l2 hl2 ih _ 0 rfl (Nat.zero_le _)))
    simp only [almanacref12_Same.j0]
    rw [if_neg (by simp)]
theorem Ln.same {x : S25} (h : Ln x) : Ev (fun k => almanacref12_Same.f k x.f0 x.f1 x.f2 x.f0 x.f1 x.f2) true := by
  induction h with
  | mk x h1 h2 h3 h4 ih => exact same_of x.f0 x.f1 x.f2 h1 h2 h3 ih
end Go.Proofs.Ytebmbfobmakheaa.PD
namespace Go.Proofs.Ytebmbfobmakheaa.PD
open Go.RowKit Go.Proofs.YtebmbfobmakheaaW.PrintWords Go.Proofs.YtebmbfobmakheaaW.PrintLast Go.Proofs.YtebmbfobmakheaaW.PrintMore
attribute [local go_sem] isSome_setCell max2_int min2_int max_two min_two
set_option linter.unusedVariables false
set_option linter.unusedSimpArgs false
set_option maxRecDepth 100000 in
set_option maxHeartbeats 1600000 in
theorem delivered_walk (nm : ByteArray) (A1 : Option Addr) (n1 c1 : Nat) (P : Nat → Prop) (A : Option Addr) (c : Nat) (l : List S25) (addr value : ByteArray) (w : World) (hs : Kd.V k25 25 w w.heap.size P (.slice A l.length c) l) (hlim : limO l = true) (ha : shortB addr = true) :
    Calls Try.prog 24 #[.agg #[.string nm, .slice A1 n1 c1, .slice A l.length c], .string addr, .string value] w fun e w' => ∃ v : Value, e = .returned (.agg #[.string nm, .slice A1 n1 c1, v]) ∧ Kd.N k25 25 w' w.heap.size (fun k => P k ∨ w.heap.size ≤ k) v (chgP (setF addr (⟨#[83, 67, 72, 69, 68, 85, 76, 69, 45, 83, 84, 65, 84, 85, 83]⟩ : ByteArray) value) l) ∧ Below w.heap.size w w' := by
  have HV := Aside0.mk hs
  clear hs
  go_enter Try.func24, Try.ntmps24
  go_wp2_with (go_at_call 59; refine Aside0.out ?_)
  refine ⟨?_⟩
  obtain ⟨W3, hW3⟩ : ∃ W3, (w.alloc (Obj.cells #[Value.string nm, Value.slice A1 n1 c1, Value.slice A l.length c] 25)).alloc (Obj.cells #[Value.string { data := #[] }, Value.slice none 0 0, Value.slice none 0 0] 25) = W3 := ⟨_, rfl⟩
  have hz3 : W3.heap.size = w.heap.size + 2 := by rw [← hW3]; simp
  have hb3 : Below w.heap.size w W3 := by rw [← hW3]; exact below_alloc (below_alloc (Below.refl _ _) _) _
  have kR : W3.heap[w.heap.size + 1]? = some (.cells #[.string ⟨#[]⟩, .slice none 0 0, .slice none 0 0] 25 (0, 0)) := by rw [← hW3]; exact alloc_at (by simp)
  rw [hW3]
  clear hW3
  refine (set_walk nm A1 n1 c1 (fun k => P k ∧ k < w.heap.size) A c l addr (⟨#[83, 67, 72, 69, 68, 85, 76, 69, 45, 83, 84, 65, 84, 85, 83]⟩ : ByteArray) value W3 (Kd.V_below (Kd.V_bound HV.out) hb3) hlim ha).mono ?_
  rintro e w5 ⟨v5, rfl, hn5, hb5⟩
  obtain ⟨A5, c5, rfl⟩ := Kd.N_slice hn5
  have hR5 := blk_below kR hb5
  have r0 : w5.cell? ⟨w.heap.size + 1, 0, none⟩ = some (.string ⟨#[]⟩) := (blk_cell hR5 0).trans rfl
  have r1 : w5.cell? ⟨w.heap.size + 1, 1, none⟩ = some (.slice none 0 0) := (blk_cell hR5 1).trans rfl
  have r2 : w5.cell? ⟨w.heap.size + 1, 2, none⟩ = some (.slice none 0 0) := (blk_cell hR5 2).trans rfl
  have t0 : w5.frozen? ⟨w.heap.size + 1, 0, none⟩ = false := blk_frozen hR5 0
  have t1 : w5.frozen? ⟨w.heap.size + 1, 1, none⟩ = false := blk_frozen hR5 1
  have t2 : w5.frozen? ⟨w.heap.size + 1, 2, none⟩ = false := blk_frozen hR5 2
  have HN5 := Aside0.mk (Kd.N_lower hn5 (show w.heap.size ≤ W3.heap.size by omega))
  rw [hz3] at HN5
  have HB5 := Aside0.mk (hb3.trans (hb5.mono (by omega)))
  have HR5 := Aside0.mk hR5
  clear hn5 hb5 hb3 hR5 kR
  go_wp2
  refine bodyPost_ret (results_box25 _ 6 rfl _ _ (w.heap.size + 1) nm A1 A5 n1 c1 _ c5 rfl (box3_at _ _ _ HR5.out)) rfl ?_
  exact ⟨_, rfl, N_boxed HN5.out (by omega) (by omega) _ _ _, below_boxed HB5.out (by omega) _ _ _⟩
def itip_Delivered.f (k : Nat) (a0_0 : ByteArray) (l0_1 : List (S45)) (l0_2 : List (S25)) (a1 : ByteArray) (a2 : ByteArray) : Option (ByteArray × (List (S45)) × (List (S25))) := if (limO l0_2 && shortB a1) = true then some (a0_0, l0_1, chgP (setF a1 (⟨#[83, 67, 72, 69, 68, 85, 76, 69, 45, 83, 84, 65, 84, 85, 83]⟩ : ByteArray) a2) l0_2) else none
theorem itip_Delivered.calls (k : Nat) (a0_0 : ByteArray) (P0_1_ : Nat → Prop) (A0_1 : Option Addr) (c0_1 : Nat) (l0_1 : List (S45)) (P0_2_ : Nat → Prop) (A0_2 : Option Addr) (c0_2 : Nat) (l0_2 : List (S25)) (a1 : ByteArray) (a2 : ByteArray) (r1 : ByteArray) (r2 : List (S45)) (r3 : List (S25)) (w : World) (hs0_1 : Kd.V k45 45 w w.heap.size (fun k_ => P0_1_ k_) (.slice A0_1 l0_1.length c0_1) l0_1) (hs0_2 : Kd.V k25 25 w w.heap.size (fun k_ => P0_2_ k_) (.slice A0_2 l0_2.length c0_2) l0_2) (h : itip_Delivered.f k a0_0 l0_1 l0_2 a1 a2 = some (r1, r2, r3)) :
    Calls Try.prog 24 #[.agg #[.string a0_0, .slice A0_1 l0_1.length c0_1, .slice A0_2 l0_2.length c0_2], .string a1, .string a2] w fun e w' => ∃ v1_ v2_ : Value, e = .returned (.agg #[.string r1, v1_, v2_]) ∧ Kd.V k45 45 w' w.heap.size (fun k_ => ((P0_1_ k_ ∨ P0_2_ k_) ∨ w.heap.size ≤ k_) ∧ some k_ ≠ (v2_ : Value).ownBlock) v1_ r2 ∧ Kd.N k25 25 w' w.heap.size (fun k_ => ((P0_1_ k_ ∨ P0_2_ k_) ∨ w.heap.size ≤ k_)) v2_ r3 ∧ Below w.heap.size w w' := by
  unfold itip_Delivered.f at h
  split at h
  case isFalse => cases h
  rename_i hc
  simp only [Bool.and_eq_true] at hc
  simp only [Option.some.injEq, Prod.mk.injEq] at h
  obtain ⟨rfl, rfl, rfl⟩ := h
  refine (delivered_walk a0_0 A0_1 _ c0_1 P0_2_ A0_2 c0_2 l0_2 a1 a2 w hs0_2 hc.1 hc.2).mono ?_
  rintro e w' ⟨v, rfl, hn, hb⟩
  exact ⟨_, v, rfl, V_beside hs0_1 hb hn, Kd.N_mono hn (fun k hk => hk.imp (fun h => .inr h) id), hb⟩
end Go.Proofs.Ytebmbfobmakheaa.PD
namespace Go.Proofs.Ytebmbfobmakheaa.PD
open Go.RowKit Go.Proofs.YtebmbfobmakheaaW.PrintWords Go.Proofs.YtebmbfobmakheaaW.PrintLast Go.Proofs.YtebmbfobmakheaaW.PrintMore
attribute [local go_sem] isSome_setCell max2_int min2_int max_two min_two max_three min_three max_four min_four
set_option linter.unusedVariables false
set_option linter.unusedSimpArgs false
def almanacref26_Message.f (k : Nat) (a0_0 : ByteArray) (l0_1 : List (S45)) (l0_2 : List (S25)) (a1 : ByteArray) : Option (ByteArray × (List (S45)) × (List (S25))) := (almanacref26_without.f k l0_1 (⟨#[77, 69, 84, 72, 79, 68]⟩ : ByteArray)).bind fun t397 => (if a1.toList = ([] : List UInt8) then (some (a0_0, t397, l0_2)) else (if t397.length < 2513169434916 then (some (a0_0, (t397 ++ [(⟨(⟨#[77, 69, 84, 72, 79, 68]⟩ : ByteArray), ([] : List (S77)), a1⟩ : S45)]), l0_2)) else (none)))
set_option maxHeartbeats 8000000 in
set_option maxRecDepth 100000 in
theorem almanacref26_Message.calls (k : Nat) (a0_0 : ByteArray) (P0_1_ : Nat → Prop) (A0_1 : Option Addr) (c0_1 : Nat) (l0_1 : List (S45)) (P0_2_ : Nat → Prop) (A0_2 : Option Addr) (c0_2 : Nat) (l0_2 : List (S25)) (a1 : ByteArray) (r1 : ByteArray) (r2 : List (S45)) (r3 : List (S25)) (w : World) (hs0_1 : Kd.V k45 45 w w.heap.size (fun k_ => P0_1_ k_) (.slice A0_1 l0_1.length c0_1) l0_1) (hs0_2 : Kd.V k25 25 w w.heap.size (fun k_ => P0_2_ k_) (.slice A0_2 l0_2.length c0_2) l0_2) (h : almanacref26_Message.f k a0_0 l0_1 l0_2 a1 = some (r1, r2, r3)) :
  Calls Try.prog 26 #[.agg #[.string a0_0, .slice A0_1 l0_1.length c0_1, .slice A0_2 l0_2.length c0_2], .string a1] w fun e w' => ∃ v1_ v2_ : Value, e = .returned (.agg #[.string r1, v1_, v2_]) ∧ Kd.N k45 45 w' w.heap.size (fun k_ => ((P0_1_ k_ ∨ P0_2_ k_) ∨ w.heap.size ≤ k_)) v1_ r2 ∧ Kd.V k25 25 w' w.heap.size (fun k_ => ((P0_1_ k_ ∨ P0_2_ k_) ∨ w.heap.size ≤ k_) ∧ some k_ ≠ (v1_ : Value).ownBlock) v2_ r3 ∧ Below w.heap.size w w' := by
 have hu25 := Try.underlying25
 have hu45 := Try.underlying45
 have HO0_1 := Aside0.mk (show Kd.V k45 45 w w.heap.size (fun k_ => ((P0_1_ k_ ∨ P0_2_ k_) ∨ w.heap.size ≤ k_)) (.slice A0_1 l0_1.length c0_1) l0_1 from Kd.V_mono hs0_1 (fun k_ hk => .inl (.inl hk)))
 have HO0_2 := Aside0.mk (show Kd.V k25 25 w w.heap.size (fun k_ => ((P0_1_ k_ ∨ P0_2_ k_) ∨ w.heap.size ≤ k_)) (.slice A0_2 l0_2.length c0_2) l0_2 from Kd.V_mono hs0_2 (fun k_ hk => .inl (.inr hk)))
 have HB := Aside0.mk (Below.refl w.heap.size w)
 have H : ((almanacref26_without.f k l0_1 (⟨#[77, 69, 84, 72, 79, 68]⟩ : ByteArray)).bind fun t397 => (if a1.toList = ([] : List UInt8) then (some (a0_0, t397, l0_2)) else (if t397.length < 2513169434916 then (some (a0_0, (t397 ++ [(⟨(⟨#[77, 69, 84, 72, 79, 68]⟩ : ByteArray), ([] : List (S77)), a1⟩ : S45)]), l0_2)) else (none)))) = some (r1, r2, r3) := h
 clear h
 replace H := Option.bind_eq_some_iff.mp H
 obtain ⟨t397, A30, H⟩ := H
 replace H : (if a1.toList = ([] : List UInt8) then (some (a0_0, t397, l0_2)) else (if t397.length < 2513169434916 then (some (a0_0, (t397 ++ [(⟨(⟨#[77, 69, 84, 72, 79, 68]⟩ : ByteArray), ([] : List (S77)), a1⟩ : S45)]), l0_2)) else (none))) = some (r1, r2, r3) := H
 have A3 := Aside0.mk A30
 clear A30
 by_cases c4 : a1.toList = ([] : List UInt8)
 ·rw [if_pos c4] at H
  have c4b0 : (a1.toList == ([] : List UInt8)) = true := beq_iff_eq.mpr c4
  have c4b1 : (a1.toList != ([] : List UInt8)) = false := bne_eq_false_iff_eq.mpr c4
  clear c4
  simp only [Option.some.injEq, Prod.mk.injEq] at H
  obtain ⟨rfl, rfl, rfl⟩ := H
  go_enter Try.func26, Try.ntmps26
  go_wp2_with (first | ((with_reducible refine gate_dst (N := 2) rfl ?_); refine box_event ?hg (N := 2) ?hd (cs := #[.string a0_0, .slice A0_1 l0_1.length c0_1, .slice A0_2 l0_2.length c0_2]) (t := 25) ?hr ?_; (case hd => rfl); (case hg => rfl); (case hr => first | (go_simp; done) | (go_simp; rfl)); intro gb395 hg w5 hbox hb; have n0_ := Aside0.mk (Kd.V_below (Kd.V_elderB (by (with_reducible repeat (first | apply Kd.V_alloc | apply Kd.V_drewN | apply Kd.V_drew)); exact HO0_1.out) gb395 (Nat.le_of_eq hg.symm)) hb); have n1_ := Aside0.mk (Kd.V_below (Kd.V_elderB (by (with_reducible repeat (first | apply Kd.V_alloc | apply Kd.V_drewN | apply Kd.V_drew)); exact HO0_2.out) gb395 (Nat.le_of_eq hg.symm)) hb); have n2_ := Aside0.mk (below_step (bU HB) hb); have n3_ := Aside0.mk (hbox); have n4_ := Aside0.mk ((by rw [hg]; exact (below_size (bU HB)) : w.heap.size ≤ gb395)); have n5_ := Aside0.mk ((by rw [hg]; exact (below_size (bU HB)) : w.heap.size ≤ gb395)); clear HO0_1; clear HO0_2; clear HB; have HO0_1 := n0_; have HO0_2 := n1_; have HB := n2_; have BK395 := n3_; have GW395 := n4_; have GE395 := n5_; clear n0_ n1_ n2_ n3_ n4_ n5_; clear hb hbox hg) | ((with_reducible refine gate_dst (N := 4) rfl ?_); refine box_event ?hg (N := 4) ?hd (cs := #[.string (⟨#[]⟩ : ByteArray), .slice none 0 0, .slice none 0 0]) (t := 25) ?hr ?_; (case hd => rfl); (case hg => rfl); (case hr => first | (go_simp; done) | (go_simp; rfl)); intro gb396 hg w6 hbox hb; have n0_ := Aside0.mk (Kd.V_below (Kd.V_elderB (by (with_reducible repeat (first | apply Kd.V_alloc | apply Kd.V_drewN | apply Kd.V_drew)); exact HO0_1.out) gb396 (Nat.le_of_eq hg.symm)) hb); have n1_ := Aside0.mk (Kd.V_below (Kd.V_elderB (by (with_reducible repeat (first | apply Kd.V_alloc | apply Kd.V_drewN | apply Kd.V_drew)); exact HO0_2.out) gb396 (Nat.le_of_eq hg.symm)) hb); have n2_ := Aside0.mk (blk_below (kU BK395) hb); have n3_ := Aside0.mk (below_step (bU HB) hb); have n4_ := Aside0.mk (hbox); have n5_ := Aside0.mk ((by rw [hg]; exact (below_size (bU HB)) : w.heap.size ≤ gb396)); have n6_ := Aside0.mk ((by rw [hg]; exact (below_size (bU HB)) : w.heap.size ≤ gb396)); have n7_ := Aside0.mk ((by rw [hg]; exact Nat.ne_of_lt (blk_lt (g := gb395) (o := .cells #[.string a0_0, .slice A0_1 l0_1.length c0_1, .slice A0_2 l0_2.length c0_2] 25 (0, 0)) (kU BK395)) : gb395 ≠ gb396)); have n8_ := Aside0.mk ((by rw [hg]; exact Nat.ne_of_gt (blk_lt (g := gb395) (o := .cells #[.string a0_0, .slice A0_1 l0_1.length c0_1, .slice A0_2 l0_2.length c0_2] 25 (0, 0)) (kU BK395)) : gb396 ≠ gb395)); clear HO0_1; clear HO0_2; clear BK395; clear HB; have HO0_1 := n0_; have HO0_2 := n1_; have BK395 := n2_; have HB := n3_; have BK396 := n4_; have GW396 := n5_; have GE396 := n6_; have NB395_396 := n7_; have NB396_395 := n8_; clear n0_ n1_ n2_ n3_ n4_ n5_ n6_ n7_ n8_; clear hb hbox hg; have hnb7 := NB395_396.out; have hnc7 := NB396_395.out; have hcz8_0 : w6.cell? ⟨gb395, 0, none⟩ = some (.string a0_0) := (blk_cell BK395.out 0).trans rfl; have hcz8_1 : w6.cell? ⟨gb395, 1, none⟩ = some (.slice A0_1 l0_1.length c0_1) := (blk_cell BK395.out 1).trans rfl; have hcz8_2 : w6.cell? ⟨gb395, 2, none⟩ = some (.slice A0_2 l0_2.length c0_2) := (blk_cell BK395.out 2).trans rfl; have hfz8_0 := blk_frozen BK395.out 0; have hfz8_1 := blk_frozen BK395.out 1; have hfz8_2 := blk_frozen BK395.out 2) | ((with_reducible refine gate_callee (f := 67) rfl ?_); refine goesL_ (some 7) rfl rfl Try.func67 (by kernel_rfl) rfl #[.slice A0_1 l0_1.length c0_1, .string (⟨#[77, 69, 84, 72, 79, 68]⟩ : ByteArray)] rfl (by (try simp only [List.map_toArray, List.map_cons, List.map_nil]); first | done | rfl | (simp only [List.length_drop, List.length_take]; rfl)) ?_; (with_reducible refine (almanacref26_without.calls k (fun k_ => ((((P0_1_ k_ ∨ P0_2_ k_) ∨ w.heap.size ≤ k_) ∧ k_ ≠ gb395) ∧ k_ ≠ gb396)) _ _ l0_1 (⟨#[77, 69, 84, 72, 79, 68]⟩ : ByteArray) t397 _ ?side1 A3.out).mono ?_); (case side1 => exact HO0_1.out); rintro e w9 ⟨v398, rfl, ho0, hb⟩; refine ⟨_, rfl, ?_⟩; have n0_ := Aside0.mk (Kd.V_elder' (by (with_reducible repeat (first | apply Kd.V_alloc | apply Kd.V_drewN | apply Kd.V_drew)); exact HO0_1.out) (Kd.N_base ho0) hb); have n1_ := Aside0.mk (Kd.V_elder' (by (with_reducible repeat (first | apply Kd.V_alloc | apply Kd.V_drewN | apply Kd.V_drew)); exact HO0_2.out) (Kd.N_base ho0) hb); have n2_ := Aside0.mk (Kd.N_lower (Kd.N_mono (ok' := fun k_ => ((P0_1_ k_ ∨ P0_2_ k_) ∨ w.heap.size ≤ k_) ∧ k_ ≠ gb395 ∧ k_ ≠ gb396) ho0 (fun k_ hk_ => ⟨Or.elim hk_ (fun hs_ => hs_.1.1) (fun hn_ => (.inr (Nat.le_trans (below_size (bU HB)) hn_))), Or.elim hk_ (fun hs_ => hs_.1.2) (fun hn_ => (Kd.freshB (g := gb395) (o := .cells #[.string a0_0, .slice A0_1 l0_1.length c0_1, .slice A0_2 l0_2.length c0_2] 25 (0, 0)) (kU BK395) k_ hn_)), Or.elim hk_ (fun hs_ => hs_.2) (fun hn_ => (Kd.freshB (g := gb396) (o := .cells #[.string (⟨#[]⟩ : ByteArray), .slice none 0 0, .slice none 0 0] 25 (0, 0)) (kU BK396) k_ hn_))⟩)) (below_size (bU HB))); have n3_ := Aside0.mk (blk_below (kU BK395) hb); have n4_ := Aside0.mk (blk_below (kU BK396) hb); have n5_ := Aside0.mk (below_step (bU HB) hb); clear HO0_1; clear HO0_2; clear BK395; clear BK396; clear HB; have HO0_1 := n0_; have HO0_2 := n1_; have HO399 := n2_; have BK395 := n3_; have BK396 := n4_; have HB := n5_; clear n0_ n1_ n2_ n3_ n4_ n5_; (try clear hb); (try clear hb2); (try clear hk); (try clear hi); (try clear ho0); obtain ⟨Ao10, co10, eo10⟩ := Kd.N_slice HO399.out; subst eo10; have hcz11_0 : w9.cell? ⟨gb395, 0, none⟩ = some (.string a0_0) := (blk_cell BK395.out 0).trans rfl; have hcz11_1 : w9.cell? ⟨gb395, 1, none⟩ = some (.slice A0_1 l0_1.length c0_1) := (blk_cell BK395.out 1).trans rfl; have hcz11_2 : w9.cell? ⟨gb395, 2, none⟩ = some (.slice A0_2 l0_2.length c0_2) := (blk_cell BK395.out 2).trans rfl; have hfz11_0 := blk_frozen BK395.out 0; have hfz11_1 := blk_frozen BK395.out 1; have hfz11_2 := blk_frozen BK395.out 2; have hcz12_0 : w9.cell? ⟨gb396, 0, none⟩ = some (.string (⟨#[]⟩ : ByteArray)) := (blk_cell BK396.out 0).trans rfl; have hcz12_1 : w9.cell? ⟨gb396, 1, none⟩ = some (.slice none 0 0) := (blk_cell BK396.out 1).trans rfl; have hcz12_2 : w9.cell? ⟨gb396, 2, none⟩ = some (.slice none 0 0) := (blk_cell BK396.out 2).trans rfl; have hfz12_0 := blk_frozen BK396.out 0; have hfz12_1 := blk_frozen BK396.out 1; have hfz12_2 := blk_frozen BK396.out 2))
  refine bodyPost_ret (results_cell_row rfl _ _ gb396 25 #[.string a0_0, .slice Ao10 t397.length co10, .slice A0_2 l0_2.length c0_2] (0, 0) _ rfl (kP BK396) Try.underlying25 rfl (by kernel_rfl)) rfl ?_
  exact ⟨_, _, eqU, by (with_reducible repeat (first | apply Kd.N_alloc | apply Kd.N_drewN | apply Kd.N_drew)); exact Kd.N_mono (Kd.N_far (p := ⟨gb396, 2, none⟩) (Kd.N_far (p := ⟨gb396, 1, none⟩) (Kd.N_far (p := ⟨gb396, 0, none⟩) (Kd.N_far (p := ⟨gb395, 1, none⟩) (Kd.N_mono (Kd.N_mono HO399.out (fun k_ hk => (⟨hk, hk.2.1⟩ : _ ∧ k_ ≠ gb395))) (fun k_ hk => (⟨hk, hk.1.2.2⟩ : _ ∧ k_ ≠ gb396))) (fun _ hk => hk.1.2) (.slice Ao10 t397.length co10)) (fun _ hk => hk.2) (.string a0_0)) (fun _ hk => hk.2) (.slice Ao10 t397.length co10)) (fun _ hk => hk.2) (.slice A0_2 l0_2.length c0_2)) (fun _ hk => hk.1.1.1), by (with_reducible repeat (first | apply Kd.V_alloc | apply Kd.V_drewN | apply Kd.V_drew)); exact Kd.V_mono (Kd.V_far (p := ⟨gb396, 2, none⟩) (Kd.V_far (p := ⟨gb396, 1, none⟩) (Kd.V_far (p := ⟨gb396, 0, none⟩) (Kd.V_far (p := ⟨gb395, 1, none⟩) (Kd.V_mono (Kd.V_mono HO0_2.out (fun k_ hk => (⟨hk, hk.1.1.2⟩ : _ ∧ k_ ≠ gb395))) (fun k_ hk => (⟨hk, hk.1.1.2⟩ : _ ∧ k_ ≠ gb396))) (fun _ hk => hk.1.2) (.slice Ao10 t397.length co10)) (fun _ hk => hk.2) (.string a0_0)) (fun _ hk => hk.2) (.slice Ao10 t397.length co10)) (fun _ hk => hk.2) (.slice A0_2 l0_2.length c0_2)) (fun _ hk => ⟨hk.1.1.1.1.1, hk.1.1.2⟩), bU HB⟩
 ·rw [if_neg c4] at H
  have c4b0 : (a1.toList == ([] : List UInt8)) = false := beq_eq_false_iff_ne.mpr c4
  have c4b1 : (a1.toList != ([] : List UInt8)) = true := bne_iff_ne.mpr c4
  by_cases c13 : t397.length < 2513169434916
  ·rw [if_pos c13] at H
   have LMc13 := Aside0.mk c13
   clear c13
   obtain ⟨y400, hy400⟩ : ∃ y_ : List (S45), y_ = (t397 ++ [(⟨(⟨#[77, 69, 84, 72, 79, 68]⟩ : ByteArray), ([] : List (S77)), a1⟩ : S45)]) := ⟨_, rfl⟩
   replace H : (some (a0_0, y400, l0_2)) = some (r1, r2, r3) := by first | (rw [hy400]; with_reducible exact H) | (have H2_ := (Option.bind_some _ _).symm.trans H; rw [hy400]; with_reducible exact H2_) | (have H2_ := (Option.bind_some _ _).symm.trans H; with_reducible exact H2_) | with_reducible exact H | (rw [hy400]; exact H) | exact H
   have Ny400 := Aside0.mk hy400
   clear hy400
   simp only [Option.some.injEq, Prod.mk.injEq] at H
   obtain ⟨rfl, rfl, rfl⟩ := H
   go_enter Try.func26, Try.ntmps26
   go_wp2_with (first | ((with_reducible refine gate_dst (N := 2) rfl ?_); refine box_event ?hg (N := 2) ?hd (cs := #[.string a0_0, .slice A0_1 l0_1.length c0_1, .slice A0_2 l0_2.length c0_2]) (t := 25) ?hr ?_; (case hd => rfl); (case hg => rfl); (case hr => first | (go_simp; done) | (go_simp; rfl)); intro gb395 hg w14 hbox hb; have n0_ := Aside0.mk (Kd.V_below (Kd.V_elderB (by (with_reducible repeat (first | apply Kd.V_alloc | apply Kd.V_drewN | apply Kd.V_drew)); exact HO0_1.out) gb395 (Nat.le_of_eq hg.symm)) hb); have n1_ := Aside0.mk (Kd.V_below (Kd.V_elderB (by (with_reducible repeat (first | apply Kd.V_alloc | apply Kd.V_drewN | apply Kd.V_drew)); exact HO0_2.out) gb395 (Nat.le_of_eq hg.symm)) hb); have n2_ := Aside0.mk (below_step (bU HB) hb); have n3_ := Aside0.mk (hbox); have n4_ := Aside0.mk ((by rw [hg]; exact (below_size (bU HB)) : w.heap.size ≤ gb395)); have n5_ := Aside0.mk ((by rw [hg]; exact (below_size (bU HB)) : w.heap.size ≤ gb395)); clear HO0_1; clear HO0_2; clear HB; have HO0_1 := n0_; have HO0_2 := n1_; have HB := n2_; have BK395 := n3_; have GW395 := n4_; have GE395 := n5_; clear n0_ n1_ n2_ n3_ n4_ n5_; clear hb hbox hg) | ((with_reducible refine gate_dst (N := 4) rfl ?_); refine box_event ?hg (N := 4) ?hd (cs := #[.string (⟨#[]⟩ : ByteArray), .slice none 0 0, .slice none 0 0]) (t := 25) ?hr ?_; (case hd => rfl); (case hg => rfl); (case hr => first | (go_simp; done) | (go_simp; rfl)); intro gb396 hg w15 hbox hb; have n0_ := Aside0.mk (Kd.V_below (Kd.V_elderB (by (with_reducible repeat (first | apply Kd.V_alloc | apply Kd.V_drewN | apply Kd.V_drew)); exact HO0_1.out) gb396 (Nat.le_of_eq hg.symm)) hb); have n1_ := Aside0.mk (Kd.V_below (Kd.V_elderB (by (with_reducible repeat (first | apply Kd.V_alloc | apply Kd.V_drewN | apply Kd.V_drew)); exact HO0_2.out) gb396 (Nat.le_of_eq hg.symm)) hb); have n2_ := Aside0.mk (blk_below (kU BK395) hb); have n3_ := Aside0.mk (below_step (bU HB) hb); have n4_ := Aside0.mk (hbox); have n5_ := Aside0.mk ((by rw [hg]; exact (below_size (bU HB)) : w.heap.size ≤ gb396)); have n6_ := Aside0.mk ((by rw [hg]; exact (below_size (bU HB)) : w.heap.size ≤ gb396)); have n7_ := Aside0.mk ((by rw [hg]; exact Nat.ne_of_lt (blk_lt (g := gb395) (o := .cells #[.string a0_0, .slice A0_1 l0_1.length c0_1, .slice A0_2 l0_2.length c0_2] 25 (0, 0)) (kU BK395)) : gb395 ≠ gb396)); have n8_ := Aside0.mk ((by rw [hg]; exact Nat.ne_of_gt (blk_lt (g := gb395) (o := .cells #[.string a0_0, .slice A0_1 l0_1.length c0_1, .slice A0_2 l0_2.length c0_2] 25 (0, 0)) (kU BK395)) : gb396 ≠ gb395)); clear HO0_1; clear HO0_2; clear BK395; clear HB; have HO0_1 := n0_; have HO0_2 := n1_; have BK395 := n2_; have HB := n3_; have BK396 := n4_; have GW396 := n5_; have GE396 := n6_; have NB395_396 := n7_; have NB396_395 := n8_; clear n0_ n1_ n2_ n3_ n4_ n5_ n6_ n7_ n8_; clear hb hbox hg; have hnb16 := NB395_396.out; have hnc16 := NB396_395.out; have hcz17_0 : w15.cell? ⟨gb395, 0, none⟩ = some (.string a0_0) := (blk_cell BK395.out 0).trans rfl; have hcz17_1 : w15.cell? ⟨gb395, 1, none⟩ = some (.slice A0_1 l0_1.length c0_1) := (blk_cell BK395.out 1).trans rfl; have hcz17_2 : w15.cell? ⟨gb395, 2, none⟩ = some (.slice A0_2 l0_2.length c0_2) := (blk_cell BK395.out 2).trans rfl; have hfz17_0 := blk_frozen BK395.out 0; have hfz17_1 := blk_frozen BK395.out 1; have hfz17_2 := blk_frozen BK395.out 2) | ((with_reducible refine gate_callee (f := 67) rfl ?_); refine goesL_ (some 7) rfl rfl Try.func67 (by kernel_rfl) rfl #[.slice A0_1 l0_1.length c0_1, .string (⟨#[77, 69, 84, 72, 79, 68]⟩ : ByteArray)] rfl (by (try simp only [List.map_toArray, List.map_cons, List.map_nil]); first | done | rfl | (simp only [List.length_drop, List.length_take]; rfl)) ?_; (with_reducible refine (almanacref26_without.calls k (fun k_ => ((((P0_1_ k_ ∨ P0_2_ k_) ∨ w.heap.size ≤ k_) ∧ k_ ≠ gb395) ∧ k_ ≠ gb396)) _ _ l0_1 (⟨#[77, 69, 84, 72, 79, 68]⟩ : ByteArray) t397 _ ?side1 A3.out).mono ?_); (case side1 => exact HO0_1.out); rintro e w18 ⟨v398, rfl, ho0, hb⟩; refine ⟨_, rfl, ?_⟩; have n0_ := Aside0.mk (Kd.V_elder' (by (with_reducible repeat (first | apply Kd.V_alloc | apply Kd.V_drewN | apply Kd.V_drew)); exact HO0_1.out) (Kd.N_base ho0) hb); have n1_ := Aside0.mk (Kd.V_elder' (by (with_reducible repeat (first | apply Kd.V_alloc | apply Kd.V_drewN | apply Kd.V_drew)); exact HO0_2.out) (Kd.N_base ho0) hb); have n2_ := Aside0.mk (Kd.N_lower (Kd.N_mono (ok' := fun k_ => ((P0_1_ k_ ∨ P0_2_ k_) ∨ w.heap.size ≤ k_) ∧ k_ ≠ gb395 ∧ k_ ≠ gb396) ho0 (fun k_ hk_ => ⟨Or.elim hk_ (fun hs_ => hs_.1.1) (fun hn_ => (.inr (Nat.le_trans (below_size (bU HB)) hn_))), Or.elim hk_ (fun hs_ => hs_.1.2) (fun hn_ => (Kd.freshB (g := gb395) (o := .cells #[.string a0_0, .slice A0_1 l0_1.length c0_1, .slice A0_2 l0_2.length c0_2] 25 (0, 0)) (kU BK395) k_ hn_)), Or.elim hk_ (fun hs_ => hs_.2) (fun hn_ => (Kd.freshB (g := gb396) (o := .cells #[.string (⟨#[]⟩ : ByteArray), .slice none 0 0, .slice none 0 0] 25 (0, 0)) (kU BK396) k_ hn_))⟩)) (below_size (bU HB))); have n3_ := Aside0.mk (blk_below (kU BK395) hb); have n4_ := Aside0.mk (blk_below (kU BK396) hb); have n5_ := Aside0.mk (below_step (bU HB) hb); clear HO0_1; clear HO0_2; clear BK395; clear BK396; clear HB; have HO0_1 := n0_; have HO0_2 := n1_; have HO399 := n2_; have BK395 := n3_; have BK396 := n4_; have HB := n5_; clear n0_ n1_ n2_ n3_ n4_ n5_; (try clear hb); (try clear hb2); (try clear hk); (try clear hi); (try clear ho0); obtain ⟨Ao19, co19, eo19⟩ := Kd.N_slice HO399.out; subst eo19; have hcz20_0 : w18.cell? ⟨gb395, 0, none⟩ = some (.string a0_0) := (blk_cell BK395.out 0).trans rfl; have hcz20_1 : w18.cell? ⟨gb395, 1, none⟩ = some (.slice A0_1 l0_1.length c0_1) := (blk_cell BK395.out 1).trans rfl; have hcz20_2 : w18.cell? ⟨gb395, 2, none⟩ = some (.slice A0_2 l0_2.length c0_2) := (blk_cell BK395.out 2).trans rfl; have hfz20_0 := blk_frozen BK395.out 0; have hfz20_1 := blk_frozen BK395.out 1; have hfz20_2 := blk_frozen BK395.out 2) | ((with_reducible refine gate_builtin (b := .append) (xs := #[.tmp 12, .tmp 15]) rfl ?_); at_builtin; refine Kd.N_append k45 (w0 := w) w.heap.size rfl (.tmp 12) (.tmp 15) 22 45 (.agg #[(.string ⟨#[]⟩), (.slice none 0 0), (.string ⟨#[]⟩)]) 56 rfl Try.underlying22 info45 rfl (by decide) (by omega) (.slice Ao19 t397.length co19) t397 (⟨(⟨#[77, 69, 84, 72, 79, 68]⟩ : ByteArray), ([] : List (S77)), a1⟩ : S45) [.string (⟨#[77, 69, 84, 72, 79, 68]⟩ : ByteArray), .slice none 0 0, .string a1] (fun k_ => ((P0_1_ k_ ∨ P0_2_ k_) ∨ w.heap.size ≤ k_) ∧ k_ ≠ gb395 ∧ k_ ≠ gb396) (fun k_ => ((fun k_ => ((P0_1_ k_ ∨ P0_2_ k_) ∨ w.heap.size ≤ k_) ∧ k_ ≠ gb395 ∧ k_ ≠ gb396)) k_ ∧ some k_ ≠ (.slice Ao19 t397.length co19 : Value).ownBlock) rfl (by first | (go_simp; done) | (go_simp; rfl)) ?aP (fun _ hk => hk) ?aF ?aO ?aB ?aS ?aL ?_; (case aP => exact (k45_mkF _ _ (⟨(⟨#[77, 69, 84, 72, 79, 68]⟩ : ByteArray), ([] : List (S77)), a1⟩ : S45) (Nat.le_refl _) (Kd.F_nil _ _ _))); (case aB => exact (bU HB)); (case aF => exact (fun k_ hk => ⟨(.inr (Nat.le_trans (below_size (bU HB)) hk)), Kd.freshB (g := gb395) (o := .cells #[.string a0_0, .slice Ao19 t397.length co19, .slice A0_2 l0_2.length c0_2] 25 (0, 0)) (kP BK395) k_ hk, Kd.freshB (g := gb396) (o := .cells #[.string (⟨#[]⟩ : ByteArray), .slice none 0 0, .slice none 0 0] 25 (0, 0)) (kF BK396) k_ hk⟩)); (case aO => exact (by (with_reducible repeat (first | apply Kd.N_alloc | apply Kd.N_drewN | apply Kd.N_drew)); exact Kd.N_mono (Kd.N_far (p := ⟨gb395, 1, none⟩) (Kd.N_mono HO399.out (fun k_ hk => (⟨hk, hk.2.1⟩ : _ ∧ k_ ≠ gb395))) (fun _ hk => hk.2) (.slice Ao19 t397.length co19)) (fun _ hk => ⟨hk.1.1, ⟨hk.1.2.1, hk.1.2.2⟩⟩))); (case aS => exact (below_size (bU HB))); (case aL => have := LMc13.out; omega); intro v401 w21 ho hb hg hat; rw [← Ny400.out] at ho; have n0_ := Aside0.mk (Kd.V_afterv (ok := (fun k_ => ((P0_1_ k_ ∨ P0_2_ k_) ∨ w.heap.size ≤ k_) ∧ k_ ≠ gb395 ∧ k_ ≠ gb396)) (by (with_reducible repeat (first | apply Kd.V_alloc | apply Kd.V_drewN | apply Kd.V_drew)); exact Kd.V_mono (Kd.V_far (p := ⟨gb395, 1, none⟩) (Kd.V_mono HO0_1.out (fun k_ hk => (⟨hk, hk.1.1.2⟩ : _ ∧ k_ ≠ gb395))) (fun _ hk => hk.2) (.slice Ao19 t397.length co19)) (fun _ hk => ⟨⟨hk.1.1.1.1, ⟨hk.1.1.1.2, hk.1.1.2⟩⟩, hk.1.2⟩)) hg hat); have n1_ := Aside0.mk (Kd.V_afterv (ok := (fun k_ => ((P0_1_ k_ ∨ P0_2_ k_) ∨ w.heap.size ≤ k_) ∧ k_ ≠ gb395 ∧ k_ ≠ gb396)) (by (with_reducible repeat (first | apply Kd.V_alloc | apply Kd.V_drewN | apply Kd.V_drew)); exact Kd.V_mono (Kd.V_far (p := ⟨gb395, 1, none⟩) (Kd.V_mono HO0_2.out (fun k_ hk => (⟨hk, hk.1.1.2⟩ : _ ∧ k_ ≠ gb395))) (fun _ hk => hk.2) (.slice Ao19 t397.length co19)) (fun _ hk => ⟨⟨hk.1.1.1.1, ⟨hk.1.1.1.2, hk.1.1.2⟩⟩, hk.1.2⟩)) hg hat); have n2_ := Aside0.mk (blk_grown (g := gb395) (o := .cells #[.string a0_0, .slice Ao19 t397.length co19, .slice A0_2 l0_2.length c0_2] 25 (0, 0)) (kP BK395) hg (Kd.N_ne HO399.out BK395.out (by decide))); have n3_ := Aside0.mk (blk_grown (g := gb396) (o := .cells #[.string (⟨#[]⟩ : ByteArray), .slice none 0 0, .slice none 0 0] 25 (0, 0)) (kF BK396) hg (Kd.N_ne HO399.out BK396.out (by decide))); have n4_ := Aside0.mk (hb); have n5_ := Aside0.mk (ho); clear HO0_1; clear HO0_2; clear BK395; clear BK396; clear HB; clear HO399; have HO0_1 := n0_; have HO0_2 := n1_; have BK395 := n2_; have BK396 := n3_; have HB := n4_; have HO402 := n5_; clear n0_ n1_ n2_ n3_ n4_ n5_; clear ho hb hg hat; obtain ⟨Ao22, co22, eo22⟩ := Kd.N_slice HO402.out; subst eo22; have hcz23_0 : w21.cell? ⟨gb395, 0, none⟩ = some (.string a0_0) := (blk_cell BK395.out 0).trans rfl; have hcz23_1 : w21.cell? ⟨gb395, 1, none⟩ = some (.slice Ao19 t397.length co19) := (blk_cell BK395.out 1).trans rfl; have hcz23_2 : w21.cell? ⟨gb395, 2, none⟩ = some (.slice A0_2 l0_2.length c0_2) := (blk_cell BK395.out 2).trans rfl; have hfz23_0 := blk_frozen BK395.out 0; have hfz23_1 := blk_frozen BK395.out 1; have hfz23_2 := blk_frozen BK395.out 2; have hcz24_0 : w21.cell? ⟨gb396, 0, none⟩ = some (.string (⟨#[]⟩ : ByteArray)) := (blk_cell BK396.out 0).trans rfl; have hcz24_1 : w21.cell? ⟨gb396, 1, none⟩ = some (.slice none 0 0) := (blk_cell BK396.out 1).trans rfl; have hcz24_2 : w21.cell? ⟨gb396, 2, none⟩ = some (.slice none 0 0) := (blk_cell BK396.out 2).trans rfl; have hfz24_0 := blk_frozen BK396.out 0; have hfz24_1 := blk_frozen BK396.out 1; have hfz24_2 := blk_frozen BK396.out 2))
   refine bodyPost_ret (results_cell_row rfl _ _ gb396 25 #[.string a0_0, .slice Ao22 y400.length co22, .slice A0_2 l0_2.length c0_2] (0, 0) _ rfl (kP BK396) Try.underlying25 rfl (by kernel_rfl)) rfl ?_
   exact ⟨_, _, eqU, by (with_reducible repeat (first | apply Kd.N_alloc | apply Kd.N_drewN | apply Kd.N_drew)); exact Kd.N_mono (Kd.N_far (p := ⟨gb396, 2, none⟩) (Kd.N_far (p := ⟨gb396, 1, none⟩) (Kd.N_far (p := ⟨gb396, 0, none⟩) (Kd.N_far (p := ⟨gb395, 1, none⟩) (Kd.N_mono (Kd.N_mono HO402.out (fun k_ hk => (⟨hk, hk.2.1⟩ : _ ∧ k_ ≠ gb395))) (fun k_ hk => (⟨hk, hk.1.2.2⟩ : _ ∧ k_ ≠ gb396))) (fun _ hk => hk.1.2) (.slice Ao22 y400.length co22)) (fun _ hk => hk.2) (.string a0_0)) (fun _ hk => hk.2) (.slice Ao22 y400.length co22)) (fun _ hk => hk.2) (.slice A0_2 l0_2.length c0_2)) (fun _ hk => hk.1.1.1), by (with_reducible repeat (first | apply Kd.V_alloc | apply Kd.V_drewN | apply Kd.V_drew)); exact Kd.V_mono (Kd.V_far (p := ⟨gb396, 2, none⟩) (Kd.V_far (p := ⟨gb396, 1, none⟩) (Kd.V_far (p := ⟨gb396, 0, none⟩) (Kd.V_far (p := ⟨gb395, 1, none⟩) (Kd.V_mono (Kd.V_mono HO0_2.out (fun k_ hk => (⟨hk, hk.1.2.1⟩ : _ ∧ k_ ≠ gb395))) (fun k_ hk => (⟨hk, hk.1.1.2.2⟩ : _ ∧ k_ ≠ gb396))) (fun _ hk => hk.1.2) (.slice Ao22 y400.length co22)) (fun _ hk => hk.2) (.string a0_0)) (fun _ hk => hk.2) (.slice Ao22 y400.length co22)) (fun _ hk => hk.2) (.slice A0_2 l0_2.length c0_2)) (fun _ hk => ⟨hk.1.1.1.1, hk.1.1.2⟩), bU HB⟩
  ·rw [if_neg c13] at H
   exact absurd H (by simp)
end Go.Proofs.Ytebmbfobmakheaa.PD
namespace Go.Proofs.Ytebmbfobmakheaa.PD
open Go.RowKit Go.Proofs.YtebmbfobmakheaaW.PrintWords Go.Proofs.YtebmbfobmakheaaW.PrintLast Go.Proofs.YtebmbfobmakheaaW.PrintMore
attribute [local go_sem] isSome_setCell max2_int min2_int max_two min_two max_three min_three max_four min_four
set_option linter.unusedVariables false
set_option linter.unusedSimpArgs false
def almanacref26_SetStatus.f (k : Nat) (a0_0 : ByteArray) (l0_1 : List (S45)) (l0_2 : List (S25)) (a1 : ByteArray) (a2 : ByteArray) : Option (ByteArray × (List (S45)) × (List (S25))) := (almanacref26_set.f k a0_0 l0_1 l0_2 a1 (⟨#[80, 65, 82, 84, 83, 84, 65, 84]⟩ : ByteArray) a2).bind fun bt475 => (some (bt475.1, bt475.2.1, bt475.2.2))
set_option maxHeartbeats 8000000 in
set_option maxRecDepth 100000 in
theorem almanacref26_SetStatus.calls (k : Nat) (a0_0 : ByteArray) (P0_1_ : Nat → Prop) (A0_1 : Option Addr) (c0_1 : Nat) (l0_1 : List (S45)) (P0_2_ : Nat → Prop) (A0_2 : Option Addr) (c0_2 : Nat) (l0_2 : List (S25)) (a1 : ByteArray) (a2 : ByteArray) (r1 : ByteArray) (r2 : List (S45)) (r3 : List (S25)) (w : World) (hs0_1 : Kd.V k45 45 w w.heap.size (fun k_ => P0_1_ k_) (.slice A0_1 l0_1.length c0_1) l0_1) (hs0_2 : Kd.V k25 25 w w.heap.size (fun k_ => P0_2_ k_) (.slice A0_2 l0_2.length c0_2) l0_2) (h : almanacref26_SetStatus.f k a0_0 l0_1 l0_2 a1 a2 = some (r1, r2, r3)) :
  Calls Try.prog 29 #[.agg #[.string a0_0, .slice A0_1 l0_1.length c0_1, .slice A0_2 l0_2.length c0_2], .string a1, .string a2] w fun e w' => ∃ v1_ v2_ : Value, e = .returned (.agg #[.string r1, v1_, v2_]) ∧ Kd.V k45 45 w' w.heap.size (fun k_ => ((P0_1_ k_ ∨ P0_2_ k_) ∨ w.heap.size ≤ k_) ∧ some k_ ≠ (v2_ : Value).ownBlock) v1_ r2 ∧ Kd.N k25 25 w' w.heap.size (fun k_ => ((P0_1_ k_ ∨ P0_2_ k_) ∨ w.heap.size ≤ k_)) v2_ r3 ∧ Below w.heap.size w w' := by
 have hu25 := Try.underlying25
 have HO0_1 := Aside0.mk (show Kd.V k45 45 w w.heap.size (fun k_ => ((P0_1_ k_ ∨ P0_2_ k_) ∨ w.heap.size ≤ k_)) (.slice A0_1 l0_1.length c0_1) l0_1 from Kd.V_mono hs0_1 (fun k_ hk => .inl (.inl hk)))
 have HO0_2 := Aside0.mk (show Kd.V k25 25 w w.heap.size (fun k_ => ((P0_1_ k_ ∨ P0_2_ k_) ∨ w.heap.size ≤ k_)) (.slice A0_2 l0_2.length c0_2) l0_2 from Kd.V_mono hs0_2 (fun k_ hk => .inl (.inr hk)))
 have HB := Aside0.mk (Below.refl w.heap.size w)
 have H : ((almanacref26_set.f k a0_0 l0_1 l0_2 a1 (⟨#[80, 65, 82, 84, 83, 84, 65, 84]⟩ : ByteArray) a2).bind fun bt475 => (some (bt475.1, bt475.2.1, bt475.2.2))) = some (r1, r2, r3) := h
 clear h
 replace H := Option.bind_eq_some_iff.mp H
 obtain ⟨⟨t475, t476, t479⟩, A40, H⟩ := H
 replace H : (some (t475, t476, t479)) = some (r1, r2, r3) := H
 have A4 := Aside0.mk A40
 clear A40
 simp only [Option.some.injEq, Prod.mk.injEq] at H
 obtain ⟨rfl, rfl, rfl⟩ := H
 go_enter Try.func29, Try.ntmps29
 go_wp2_with (first | ((with_reducible refine gate_dst (N := 3) rfl ?_); refine box_event ?hg (N := 3) ?hd (cs := #[.string a0_0, .slice A0_1 l0_1.length c0_1, .slice A0_2 l0_2.length c0_2]) (t := 25) ?hr ?_; (case hd => rfl); (case hg => rfl); (case hr => first | (go_simp; done) | (go_simp; rfl)); intro gb473 hg w5 hbox hb; have n0_ := Aside0.mk (Kd.V_below (Kd.V_elderB (by (with_reducible repeat (first | apply Kd.V_alloc | apply Kd.V_drewN | apply Kd.V_drew)); exact HO0_1.out) gb473 (Nat.le_of_eq hg.symm)) hb); have n1_ := Aside0.mk (Kd.V_below (Kd.V_elderB (by (with_reducible repeat (first | apply Kd.V_alloc | apply Kd.V_drewN | apply Kd.V_drew)); exact HO0_2.out) gb473 (Nat.le_of_eq hg.symm)) hb); have n2_ := Aside0.mk (below_step (bU HB) hb); have n3_ := Aside0.mk (hbox); have n4_ := Aside0.mk ((by rw [hg]; exact (below_size (bU HB)) : w.heap.size ≤ gb473)); have n5_ := Aside0.mk ((by rw [hg]; exact (below_size (bU HB)) : w.heap.size ≤ gb473)); clear HO0_1; clear HO0_2; clear HB; have HO0_1 := n0_; have HO0_2 := n1_; have HB := n2_; have BK473 := n3_; have GW473 := n4_; have GE473 := n5_; clear n0_ n1_ n2_ n3_ n4_ n5_; clear hb hbox hg) | ((with_reducible refine gate_dst (N := 6) rfl ?_); refine box_event ?hg (N := 6) ?hd (cs := #[.string (⟨#[]⟩ : ByteArray), .slice none 0 0, .slice none 0 0]) (t := 25) ?hr ?_; (case hd => rfl); (case hg => rfl); (case hr => first | (go_simp; done) | (go_simp; rfl)); intro gb474 hg w6 hbox hb; have n0_ := Aside0.mk (Kd.V_below (Kd.V_elderB (by (with_reducible repeat (first | apply Kd.V_alloc | apply Kd.V_drewN | apply Kd.V_drew)); exact HO0_1.out) gb474 (Nat.le_of_eq hg.symm)) hb); have n1_ := Aside0.mk (Kd.V_below (Kd.V_elderB (by (with_reducible repeat (first | apply Kd.V_alloc | apply Kd.V_drewN | apply Kd.V_drew)); exact HO0_2.out) gb474 (Nat.le_of_eq hg.symm)) hb); have n2_ := Aside0.mk (blk_below (kU BK473) hb); have n3_ := Aside0.mk (below_step (bU HB) hb); have n4_ := Aside0.mk (hbox); have n5_ := Aside0.mk ((by rw [hg]; exact (below_size (bU HB)) : w.heap.size ≤ gb474)); have n6_ := Aside0.mk ((by rw [hg]; exact (below_size (bU HB)) : w.heap.size ≤ gb474)); have n7_ := Aside0.mk ((by rw [hg]; exact Nat.ne_of_lt (blk_lt (g := gb473) (o := .cells #[.string a0_0, .slice A0_1 l0_1.length c0_1, .slice A0_2 l0_2.length c0_2] 25 (0, 0)) (kU BK473)) : gb473 ≠ gb474)); have n8_ := Aside0.mk ((by rw [hg]; exact Nat.ne_of_gt (blk_lt (g := gb473) (o := .cells #[.string a0_0, .slice A0_1 l0_1.length c0_1, .slice A0_2 l0_2.length c0_2] 25 (0, 0)) (kU BK473)) : gb474 ≠ gb473)); clear HO0_1; clear HO0_2; clear BK473; clear HB; have HO0_1 := n0_; have HO0_2 := n1_; have BK473 := n2_; have HB := n3_; have BK474 := n4_; have GW474 := n5_; have GE474 := n6_; have NB473_474 := n7_; have NB474_473 := n8_; clear n0_ n1_ n2_ n3_ n4_ n5_ n6_ n7_ n8_; clear hb hbox hg; have hnb7 := NB473_474.out; have hnc7 := NB474_473.out; have hcz8_0 : w6.cell? ⟨gb473, 0, none⟩ = some (.string a0_0) := (blk_cell BK473.out 0).trans rfl; have hcz8_1 : w6.cell? ⟨gb473, 1, none⟩ = some (.slice A0_1 l0_1.length c0_1) := (blk_cell BK473.out 1).trans rfl; have hcz8_2 : w6.cell? ⟨gb473, 2, none⟩ = some (.slice A0_2 l0_2.length c0_2) := (blk_cell BK473.out 2).trans rfl; have hfz8_0 := blk_frozen BK473.out 0; have hfz8_1 := blk_frozen BK473.out 1; have hfz8_2 := blk_frozen BK473.out 2) | ((with_reducible refine gate_callee (f := 71) rfl ?_); refine goesL_ (some 10) rfl rfl Try.func71 (by kernel_rfl) rfl #[.agg #[.string a0_0, .slice A0_1 l0_1.length c0_1, .slice A0_2 l0_2.length c0_2], .string a1, .string (⟨#[80, 65, 82, 84, 83, 84, 65, 84]⟩ : ByteArray), .string a2] rfl (by (try simp only [List.map_toArray, List.map_cons, List.map_nil]); first | done | rfl | (simp only [List.length_drop, List.length_take]; rfl)) ?_; (with_reducible refine (almanacref26_set.calls k a0_0 (fun k_ => ((((P0_1_ k_ ∨ P0_2_ k_) ∨ w.heap.size ≤ k_) ∧ k_ ≠ gb473) ∧ k_ ≠ gb474)) _ _ l0_1 (fun k_ => ((((P0_1_ k_ ∨ P0_2_ k_) ∨ w.heap.size ≤ k_) ∧ k_ ≠ gb473) ∧ k_ ≠ gb474)) _ _ l0_2 a1 (⟨#[80, 65, 82, 84, 83, 84, 65, 84]⟩ : ByteArray) a2 t475 t476 t479 _ ?side1 ?side2 A4.out).mono ?_); (case side1 => exact HO0_1.out); (case side2 => exact HO0_2.out); rintro e w9 ⟨v477, v480, rfl, ho0, ho1, hb⟩; refine ⟨_, rfl, ?_⟩; have n0_ := Aside0.mk (Kd.V_elder' (by (with_reducible repeat (first | apply Kd.V_alloc | apply Kd.V_drewN | apply Kd.V_drew)); exact HO0_1.out) (Kd.N_base ho1) hb); have n1_ := Aside0.mk (Kd.V_elder' (by (with_reducible repeat (first | apply Kd.V_alloc | apply Kd.V_drewN | apply Kd.V_drew)); exact HO0_2.out) (Kd.N_base ho1) hb); have n2_ := Aside0.mk (Kd.V_lower (Kd.V_mono (ok' := fun k_ => ((P0_1_ k_ ∨ P0_2_ k_) ∨ w.heap.size ≤ k_) ∧ some k_ ≠ (v480 : Value).ownBlock ∧ k_ ≠ gb473 ∧ k_ ≠ gb474) ho0 (fun k_ hk_ => ⟨Or.elim hk_.1 (fun hs_ => Or.elim hs_ (fun hs_ => hs_.1.1) (fun hs_ => hs_.1.1)) (fun hn_ => (.inr (Nat.le_trans (below_size (bU HB)) hn_))), hk_.2, Or.elim hk_.1 (fun hs_ => Or.elim hs_ (fun hs_ => hs_.1.2) (fun hs_ => hs_.1.2)) (fun hn_ => (Kd.freshB (g := gb473) (o := .cells #[.string a0_0, .slice A0_1 l0_1.length c0_1, .slice A0_2 l0_2.length c0_2] 25 (0, 0)) (kU BK473) k_ hn_)), Or.elim hk_.1 (fun hs_ => Or.elim hs_ (fun hs_ => hs_.2) (fun hs_ => hs_.2)) (fun hn_ => (Kd.freshB (g := gb474) (o := .cells #[.string (⟨#[]⟩ : ByteArray), .slice none 0 0, .slice none 0 0] 25 (0, 0)) (kU BK474) k_ hn_))⟩)) (below_size (bU HB))); have n3_ := Aside0.mk (Kd.N_lower (Kd.N_mono (ok' := fun k_ => ((P0_1_ k_ ∨ P0_2_ k_) ∨ w.heap.size ≤ k_) ∧ k_ ≠ gb473 ∧ k_ ≠ gb474) ho1 (fun k_ hk_ => ⟨Or.elim hk_ (fun hs_ => Or.elim hs_ (fun hs_ => hs_.1.1) (fun hs_ => hs_.1.1)) (fun hn_ => (.inr (Nat.le_trans (below_size (bU HB)) hn_))), Or.elim hk_ (fun hs_ => Or.elim hs_ (fun hs_ => hs_.1.2) (fun hs_ => hs_.1.2)) (fun hn_ => (Kd.freshB (g := gb473) (o := .cells #[.string a0_0, .slice A0_1 l0_1.length c0_1, .slice A0_2 l0_2.length c0_2] 25 (0, 0)) (kU BK473) k_ hn_)), Or.elim hk_ (fun hs_ => Or.elim hs_ (fun hs_ => hs_.2) (fun hs_ => hs_.2)) (fun hn_ => (Kd.freshB (g := gb474) (o := .cells #[.string (⟨#[]⟩ : ByteArray), .slice none 0 0, .slice none 0 0] 25 (0, 0)) (kU BK474) k_ hn_))⟩)) (below_size (bU HB))); have n4_ := Aside0.mk (blk_below (kU BK473) hb); have n5_ := Aside0.mk (blk_below (kU BK474) hb); have n6_ := Aside0.mk (below_step (bU HB) hb); clear HO0_1; clear HO0_2; clear BK473; clear BK474; clear HB; have HO0_1 := n0_; have HO0_2 := n1_; have HO478 := n2_; have HO481 := n3_; have BK473 := n4_; have BK474 := n5_; have HB := n6_; clear n0_ n1_ n2_ n3_ n4_ n5_ n6_; (try clear hb); (try clear hb2); (try clear hk); (try clear hi); (try clear ho0); (try clear ho1); have hcz10_0 : w9.cell? ⟨gb474, 0, none⟩ = some (.string (⟨#[]⟩ : ByteArray)) := (blk_cell BK474.out 0).trans rfl; have hcz10_1 : w9.cell? ⟨gb474, 1, none⟩ = some (.slice none 0 0) := (blk_cell BK474.out 1).trans rfl; have hcz10_2 : w9.cell? ⟨gb474, 2, none⟩ = some (.slice none 0 0) := (blk_cell BK474.out 2).trans rfl; have hfz10_0 := blk_frozen BK474.out 0; have hfz10_1 := blk_frozen BK474.out 1; have hfz10_2 := blk_frozen BK474.out 2; obtain ⟨Ao11, co11, eo11⟩ := Kd.V_slice HO478.out; subst eo11; obtain ⟨Ao12, co12, eo12⟩ := Kd.N_slice HO481.out; subst eo12))
 refine bodyPost_ret (results_cell_row rfl _ _ gb474 25 #[.string t475, .slice Ao11 t476.length co11, .slice Ao12 t479.length co12] (0, 0) _ rfl (kP BK474) Try.underlying25 rfl (by kernel_rfl)) rfl ?_
 exact ⟨_, _, eqU, by (with_reducible repeat (first | apply Kd.V_alloc | apply Kd.V_drewN | apply Kd.V_drew)); exact Kd.V_mono (Kd.V_far (p := ⟨gb474, 2, none⟩) (Kd.V_far (p := ⟨gb474, 1, none⟩) (Kd.V_far (p := ⟨gb474, 0, none⟩) (Kd.V_mono HO478.out (fun k_ hk => (⟨hk, hk.2.2.2⟩ : _ ∧ k_ ≠ gb474))) (fun _ hk => hk.2) (.string t475)) (fun _ hk => hk.2) (.slice Ao11 t476.length co11)) (fun _ hk => hk.2) (.slice Ao12 t479.length co12)) (fun _ hk => ⟨hk.1.1, hk.1.2.1⟩), by (with_reducible repeat (first | apply Kd.N_alloc | apply Kd.N_drewN | apply Kd.N_drew)); exact Kd.N_mono (Kd.N_far (p := ⟨gb474, 2, none⟩) (Kd.N_far (p := ⟨gb474, 1, none⟩) (Kd.N_far (p := ⟨gb474, 0, none⟩) (Kd.N_mono HO481.out (fun k_ hk => (⟨hk, hk.2.2⟩ : _ ∧ k_ ≠ gb474))) (fun _ hk => hk.2) (.string t475)) (fun _ hk => hk.2) (.slice Ao11 t476.length co11)) (fun _ hk => hk.2) (.slice Ao12 t479.length co12)) (fun _ hk => hk.1.1), bU HB⟩
end Go.Proofs.Ytebmbfobmakheaa.PD
namespace Go.Proofs.Ytebmbfobmakheaa.PD
open Go.RowKit Go.Proofs.YtebmbfobmakheaaW.PrintWords Go.Proofs.YtebmbfobmakheaaW.PrintLast Go.Proofs.YtebmbfobmakheaaW.PrintMore
attribute [local go_sem] isSome_setCell max2_int min2_int max_two min_two max_three min_three max_four min_four
set_option linter.unusedVariables false
set_option linter.unusedSimpArgs false
def almanacref26_Delivered.f (k : Nat) (a0_0 : ByteArray) (l0_1 : List (S45)) (l0_2 : List (S25)) (a1 : ByteArray) (a2 : ByteArray) : Option (ByteArray × (List (S45)) × (List (S25))) := (almanacref26_set.f k a0_0 l0_1 l0_2 a1 (⟨#[83, 67, 72, 69, 68, 85, 76, 69, 45, 83, 84, 65, 84, 85, 83]⟩ : ByteArray) a2).bind fun bt484 => (some (bt484.1, bt484.2.1, bt484.2.2))
set_option maxHeartbeats 8000000 in
set_option maxRecDepth 100000 in
theorem almanacref26_Delivered.calls (k : Nat) (a0_0 : ByteArray) (P0_1_ : Nat → Prop) (A0_1 : Option Addr) (c0_1 : Nat) (l0_1 : List (S45)) (P0_2_ : Nat → Prop) (A0_2 : Option Addr) (c0_2 : Nat) (l0_2 : List (S25)) (a1 : ByteArray) (a2 : ByteArray) (r1 : ByteArray) (r2 : List (S45)) (r3 : List (S25)) (w : World) (hs0_1 : Kd.V k45 45 w w.heap.size (fun k_ => P0_1_ k_) (.slice A0_1 l0_1.length c0_1) l0_1) (hs0_2 : Kd.V k25 25 w w.heap.size (fun k_ => P0_2_ k_) (.slice A0_2 l0_2.length c0_2) l0_2) (h : almanacref26_Delivered.f k a0_0 l0_1 l0_2 a1 a2 = some (r1, r2, r3)) :
  Calls Try.prog 30 #[.agg #[.string a0_0, .slice A0_1 l0_1.length c0_1, .slice A0_2 l0_2.length c0_2], .string a1, .string a2] w fun e w' => ∃ v1_ v2_ : Value, e = .returned (.agg #[.string r1, v1_, v2_]) ∧ Kd.V k45 45 w' w.heap.size (fun k_ => ((P0_1_ k_ ∨ P0_2_ k_) ∨ w.heap.size ≤ k_) ∧ some k_ ≠ (v2_ : Value).ownBlock) v1_ r2 ∧ Kd.N k25 25 w' w.heap.size (fun k_ => ((P0_1_ k_ ∨ P0_2_ k_) ∨ w.heap.size ≤ k_)) v2_ r3 ∧ Below w.heap.size w w' := by
 have hu25 := Try.underlying25
 have HO0_1 := Aside0.mk (show Kd.V k45 45 w w.heap.size (fun k_ => ((P0_1_ k_ ∨ P0_2_ k_) ∨ w.heap.size ≤ k_)) (.slice A0_1 l0_1.length c0_1) l0_1 from Kd.V_mono hs0_1 (fun k_ hk => .inl (.inl hk)))
 have HO0_2 := Aside0.mk (show Kd.V k25 25 w w.heap.size (fun k_ => ((P0_1_ k_ ∨ P0_2_ k_) ∨ w.heap.size ≤ k_)) (.slice A0_2 l0_2.length c0_2) l0_2 from Kd.V_mono hs0_2 (fun k_ hk => .inl (.inr hk)))
 have HB := Aside0.mk (Below.refl w.heap.size w)
 have H : ((almanacref26_set.f k a0_0 l0_1 l0_2 a1 (⟨#[83, 67, 72, 69, 68, 85, 76, 69, 45, 83, 84, 65, 84, 85, 83]⟩ : ByteArray) a2).bind fun bt484 => (some (bt484.1, bt484.2.1, bt484.2.2))) = some (r1, r2, r3) := h
 clear h
 replace H := Option.bind_eq_some_iff.mp H
 obtain ⟨⟨t484, t485, t488⟩, A40, H⟩ := H
 replace H : (some (t484, t485, t488)) = some (r1, r2, r3) := H
 have A4 := Aside0.mk A40
 clear A40
 simp only [Option.some.injEq, Prod.mk.injEq] at H
 obtain ⟨rfl, rfl, rfl⟩ := H
 go_enter Try.func30, Try.ntmps30
 go_wp2_with (first | ((with_reducible refine gate_dst (N := 3) rfl ?_); refine box_event ?hg (N := 3) ?hd (cs := #[.string a0_0, .slice A0_1 l0_1.length c0_1, .slice A0_2 l0_2.length c0_2]) (t := 25) ?hr ?_; (case hd => rfl); (case hg => rfl); (case hr => first | (go_simp; done) | (go_simp; rfl)); intro gb482 hg w5 hbox hb; have n0_ := Aside0.mk (Kd.V_below (Kd.V_elderB (by (with_reducible repeat (first | apply Kd.V_alloc | apply Kd.V_drewN | apply Kd.V_drew)); exact HO0_1.out) gb482 (Nat.le_of_eq hg.symm)) hb); have n1_ := Aside0.mk (Kd.V_below (Kd.V_elderB (by (with_reducible repeat (first | apply Kd.V_alloc | apply Kd.V_drewN | apply Kd.V_drew)); exact HO0_2.out) gb482 (Nat.le_of_eq hg.symm)) hb); have n2_ := Aside0.mk (below_step (bU HB) hb); have n3_ := Aside0.mk (hbox); have n4_ := Aside0.mk ((by rw [hg]; exact (below_size (bU HB)) : w.heap.size ≤ gb482)); have n5_ := Aside0.mk ((by rw [hg]; exact (below_size (bU HB)) : w.heap.size ≤ gb482)); clear HO0_1; clear HO0_2; clear HB; have HO0_1 := n0_; have HO0_2 := n1_; have HB := n2_; have BK482 := n3_; have GW482 := n4_; have GE482 := n5_; clear n0_ n1_ n2_ n3_ n4_ n5_; clear hb hbox hg) | ((with_reducible refine gate_dst (N := 6) rfl ?_); refine box_event ?hg (N := 6) ?hd (cs := #[.string (⟨#[]⟩ : ByteArray), .slice none 0 0, .slice none 0 0]) (t := 25) ?hr ?_; (case hd => rfl); (case hg => rfl); (case hr => first | (go_simp; done) | (go_simp; rfl)); intro gb483 hg w6 hbox hb; have n0_ := Aside0.mk (Kd.V_below (Kd.V_elderB (by (with_reducible repeat (first | apply Kd.V_alloc | apply Kd.V_drewN | apply Kd.V_drew)); exact HO0_1.out) gb483 (Nat.le_of_eq hg.symm)) hb); have n1_ := Aside0.mk (Kd.V_below (Kd.V_elderB (by (with_reducible repeat (first | apply Kd.V_alloc | apply Kd.V_drewN | apply Kd.V_drew)); exact HO0_2.out) gb483 (Nat.le_of_eq hg.symm)) hb); have n2_ := Aside0.mk (blk_below (kU BK482) hb); have n3_ := Aside0.mk (below_step (bU HB) hb); have n4_ := Aside0.mk (hbox); have n5_ := Aside0.mk ((by rw [hg]; exact (below_size (bU HB)) : w.heap.size ≤ gb483)); have n6_ := Aside0.mk ((by rw [hg]; exact (below_size (bU HB)) : w.heap.size ≤ gb483)); have n7_ := Aside0.mk ((by rw [hg]; exact Nat.ne_of_lt (blk_lt (g := gb482) (o := .cells #[.string a0_0, .slice A0_1 l0_1.length c0_1, .slice A0_2 l0_2.length c0_2] 25 (0, 0)) (kU BK482)) : gb482 ≠ gb483)); have n8_ := Aside0.mk ((by rw [hg]; exact Nat.ne_of_gt (blk_lt (g := gb482) (o := .cells #[.string a0_0, .slice A0_1 l0_1.length c0_1, .slice A0_2 l0_2.length c0_2] 25 (0, 0)) (kU BK482)) : gb483 ≠ gb482)); clear HO0_1; clear HO0_2; clear BK482; clear HB; have HO0_1 := n0_; have HO0_2 := n1_; have BK482 := n2_; have HB := n3_; have BK483 := n4_; have GW483 := n5_; have GE483 := n6_; have NB482_483 := n7_; have NB483_482 := n8_; clear n0_ n1_ n2_ n3_ n4_ n5_ n6_ n7_ n8_; clear hb hbox hg; have hnb7 := NB482_483.out; have hnc7 := NB483_482.out; have hcz8_0 : w6.cell? ⟨gb482, 0, none⟩ = some (.string a0_0) := (blk_cell BK482.out 0).trans rfl; have hcz8_1 : w6.cell? ⟨gb482, 1, none⟩ = some (.slice A0_1 l0_1.length c0_1) := (blk_cell BK482.out 1).trans rfl; have hcz8_2 : w6.cell? ⟨gb482, 2, none⟩ = some (.slice A0_2 l0_2.length c0_2) := (blk_cell BK482.out 2).trans rfl; have hfz8_0 := blk_frozen BK482.out 0; have hfz8_1 := blk_frozen BK482.out 1; have hfz8_2 := blk_frozen BK482.out 2) | ((with_reducible refine gate_callee (f := 71) rfl ?_); refine goesL_ (some 10) rfl rfl Try.func71 (by kernel_rfl) rfl #[.agg #[.string a0_0, .slice A0_1 l0_1.length c0_1, .slice A0_2 l0_2.length c0_2], .string a1, .string (⟨#[83, 67, 72, 69, 68, 85, 76, 69, 45, 83, 84, 65, 84, 85, 83]⟩ : ByteArray), .string a2] rfl (by (try simp only [List.map_toArray, List.map_cons, List.map_nil]); first | done | rfl | (simp only [List.length_drop, List.length_take]; rfl)) ?_; (with_reducible refine (almanacref26_set.calls k a0_0 (fun k_ => ((((P0_1_ k_ ∨ P0_2_ k_) ∨ w.heap.size ≤ k_) ∧ k_ ≠ gb482) ∧ k_ ≠ gb483)) _ _ l0_1 (fun k_ => ((((P0_1_ k_ ∨ P0_2_ k_) ∨ w.heap.size ≤ k_) ∧ k_ ≠ gb482) ∧ k_ ≠ gb483)) _ _ l0_2 a1 (⟨#[83, 67, 72, 69, 68, 85, 76, 69, 45, 83, 84, 65, 84, 85, 83]⟩ : ByteArray) a2 t484 t485 t488 _ ?side1 ?side2 A4.out).mono ?_); (case side1 => exact HO0_1.out); (case side2 => exact HO0_2.out); rintro e w9 ⟨v486, v489, rfl, ho0, ho1, hb⟩; refine ⟨_, rfl, ?_⟩; have n0_ := Aside0.mk (Kd.V_elder' (by (with_reducible repeat (first | apply Kd.V_alloc | apply Kd.V_drewN | apply Kd.V_drew)); exact HO0_1.out) (Kd.N_base ho1) hb); have n1_ := Aside0.mk (Kd.V_elder' (by (with_reducible repeat (first | apply Kd.V_alloc | apply Kd.V_drewN | apply Kd.V_drew)); exact HO0_2.out) (Kd.N_base ho1) hb); have n2_ := Aside0.mk (Kd.V_lower (Kd.V_mono (ok' := fun k_ => ((P0_1_ k_ ∨ P0_2_ k_) ∨ w.heap.size ≤ k_) ∧ some k_ ≠ (v489 : Value).ownBlock ∧ k_ ≠ gb482 ∧ k_ ≠ gb483) ho0 (fun k_ hk_ => ⟨Or.elim hk_.1 (fun hs_ => Or.elim hs_ (fun hs_ => hs_.1.1) (fun hs_ => hs_.1.1)) (fun hn_ => (.inr (Nat.le_trans (below_size (bU HB)) hn_))), hk_.2, Or.elim hk_.1 (fun hs_ => Or.elim hs_ (fun hs_ => hs_.1.2) (fun hs_ => hs_.1.2)) (fun hn_ => (Kd.freshB (g := gb482) (o := .cells #[.string a0_0, .slice A0_1 l0_1.length c0_1, .slice A0_2 l0_2.length c0_2] 25 (0, 0)) (kU BK482) k_ hn_)), Or.elim hk_.1 (fun hs_ => Or.elim hs_ (fun hs_ => hs_.2) (fun hs_ => hs_.2)) (fun hn_ => (Kd.freshB (g := gb483) (o := .cells #[.string (⟨#[]⟩ : ByteArray), .slice none 0 0, .slice none 0 0] 25 (0, 0)) (kU BK483) k_ hn_))⟩)) (below_size (bU HB))); have n3_ := Aside0.mk (Kd.N_lower (Kd.N_mono (ok' := fun k_ => ((P0_1_ k_ ∨ P0_2_ k_) ∨ w.heap.size ≤ k_) ∧ k_ ≠ gb482 ∧ k_ ≠ gb483) ho1 (fun k_ hk_ => ⟨Or.elim hk_ (fun hs_ => Or.elim hs_ (fun hs_ => hs_.1.1) (fun hs_ => hs_.1.1)) (fun hn_ => (.inr (Nat.le_trans (below_size (bU HB)) hn_))), Or.elim hk_ (fun hs_ => Or.elim hs_ (fun hs_ => hs_.1.2) (fun hs_ => hs_.1.2)) (fun hn_ => (Kd.freshB (g := gb482) (o := .cells #[.string a0_0, .slice A0_1 l0_1.length c0_1, .slice A0_2 l0_2.length c0_2] 25 (0, 0)) (kU BK482) k_ hn_)), Or.elim hk_ (fun hs_ => Or.elim hs_ (fun hs_ => hs_.2) (fun hs_ => hs_.2)) (fun hn_ => (Kd.freshB (g := gb483) (o := .cells #[.string (⟨#[]⟩ : ByteArray), .slice none 0 0, .slice none 0 0] 25 (0, 0)) (kU BK483) k_ hn_))⟩)) (below_size (bU HB))); have n4_ := Aside0.mk (blk_below (kU BK482) hb); have n5_ := Aside0.mk (blk_below (kU BK483) hb); have n6_ := Aside0.mk (below_step (bU HB) hb); clear HO0_1; clear HO0_2; clear BK482; clear BK483; clear HB; have HO0_1 := n0_; have HO0_2 := n1_; have HO487 := n2_; have HO490 := n3_; have BK482 := n4_; have BK483 := n5_; have HB := n6_; clear n0_ n1_ n2_ n3_ n4_ n5_ n6_; (try clear hb); (try clear hb2); (try clear hk); (try clear hi); (try clear ho0); (try clear ho1); have hcz10_0 : w9.cell? ⟨gb483, 0, none⟩ = some (.string (⟨#[]⟩ : ByteArray)) := (blk_cell BK483.out 0).trans rfl; have hcz10_1 : w9.cell? ⟨gb483, 1, none⟩ = some (.slice none 0 0) := (blk_cell BK483.out 1).trans rfl; have hcz10_2 : w9.cell? ⟨gb483, 2, none⟩ = some (.slice none 0 0) := (blk_cell BK483.out 2).trans rfl; have hfz10_0 := blk_frozen BK483.out 0; have hfz10_1 := blk_frozen BK483.out 1; have hfz10_2 := blk_frozen BK483.out 2; obtain ⟨Ao11, co11, eo11⟩ := Kd.V_slice HO487.out; subst eo11; obtain ⟨Ao12, co12, eo12⟩ := Kd.N_slice HO490.out; subst eo12))
 refine bodyPost_ret (results_cell_row rfl _ _ gb483 25 #[.string t484, .slice Ao11 t485.length co11, .slice Ao12 t488.length co12] (0, 0) _ rfl (kP BK483) Try.underlying25 rfl (by kernel_rfl)) rfl ?_
 exact ⟨_, _, eqU, by (with_reducible repeat (first | apply Kd.V_alloc | apply Kd.V_drewN | apply Kd.V_drew)); exact Kd.V_mono (Kd.V_far (p := ⟨gb483, 2, none⟩) (Kd.V_far (p := ⟨gb483, 1, none⟩) (Kd.V_far (p := ⟨gb483, 0, none⟩) (Kd.V_mono HO487.out (fun k_ hk => (⟨hk, hk.2.2.2⟩ : _ ∧ k_ ≠ gb483))) (fun _ hk => hk.2) (.string t484)) (fun _ hk => hk.2) (.slice Ao11 t485.length co11)) (fun _ hk => hk.2) (.slice Ao12 t488.length co12)) (fun _ hk => ⟨hk.1.1, hk.1.2.1⟩), by (with_reducible repeat (first | apply Kd.N_alloc | apply Kd.N_drewN | apply Kd.N_drew)); exact Kd.N_mono (Kd.N_far (p := ⟨gb483, 2, none⟩) (Kd.N_far (p := ⟨gb483, 1, none⟩) (Kd.N_far (p := ⟨gb483, 0, none⟩) (Kd.N_mono HO490.out (fun k_ hk => (⟨hk, hk.2.2⟩ : _ ∧ k_ ≠ gb483))) (fun _ hk => hk.2) (.string t484)) (fun _ hk => hk.2) (.slice Ao11 t485.length co11)) (fun _ hk => hk.2) (.slice Ao12 t488.length co12)) (fun _ hk => hk.1.1), bU HB⟩
end Go.Proofs.Ytebmbfobmakheaa.PD
