/- The law SpanOrder holds of every row of spans and every two windows: whatever the input, the call returns true, and its arguments read as they did. -/
import Derived.Test.YthcoiabgemclbaaSpanOrder2
import Derived.Test.YthcoiabgemclbaaSpBase1
import Derived.Test.YthcoiabgemclbaaSpBase
import Derived.Test.YthcoiabgemclbaaSpanOrder1
-- written by a program of this work (mk.sh, over the kit's print; stubs are proved by hand)
namespace Go.Proofs.Ythcoiabgemclbaa.PD
open Go.RowKit Go.Proofs.YthcoiabgemclbaaW.PrintWords Go.Proofs.YthcoiabgemclbaaW.PrintLast Go.Proofs.YthcoiabgemclbaaW.PrintMore
attribute [local go_sem] isSome_setCell max2_int min2_int max_two min_two max_three min_three max_four min_four   -- for this text's walks alone
set_option linter.unusedVariables false
set_option linter.unusedSimpArgs false

/-! ### almanaclaw19_SpanOrder: function 3 -/
mutual
def almanaclaw19_SpanOrder.l0 : Nat → List (S25) → Int → Int → Int → List (S25) → Int → Int → Option (Bool)
  | 0, _, _, _, _, _, _, _ => none
  | k + 1, x0, x1, x2, x3, x19, x20, x21 => if x21 < x20 then (if 0 ≤ x21 then (if x21 < (x19.length : Int) then (if ((rd_T25 x19 x21).f0).toList = ([] : List UInt8) then (almanaclaw19_SpanOrder.j1 k x0 x1 x2 x3 x21 x19 x20 x21 true ((rd_T25 x19 x21).f0) ((rd_T25 x19 x21).f1) ((rd_T25 x19 x21).f2)) else (if (((rd_T25 x19 x21).f0).size : Int) > 24 then (almanaclaw19_SpanOrder.j1 k x0 x1 x2 x3 x21 x19 x20 x21 true ((rd_T25 x19 x21).f0) ((rd_T25 x19 x21).f1) ((rd_T25 x19 x21).f2)) else (if ((rd_T25 x19 x21).f2) < ((rd_T25 x19 x21).f1) then (almanaclaw19_SpanOrder.j1 k x0 x1 x2 x3 x21 x19 x20 x21 true ((rd_T25 x19 x21).f0) ((rd_T25 x19 x21).f1) ((rd_T25 x19 x21).f2)) else (almanaclaw19_SpanOrder.j1 k x0 x1 x2 x3 x21 x19 x20 x21 (decide (x21 ≥ 32)) ((rd_T25 x19 x21).f0) ((rd_T25 x19 x21).f1) ((rd_T25 x19 x21).f2))))) else (none)) else (none)) else (almanaclaw19_SpanOrder.l2 k x0 x1 x2 x3 ([] : List (S25)) ([] : List (S25)) (x0.length : Int) 0)
def almanaclaw19_SpanOrder.j1 : Nat → List (S25) → Int → Int → Int → Int → List (S25) → Int → Int → Bool → ByteArray → Int → Int → Option (Bool)
  | 0, _, _, _, _, _, _, _, _, _, _, _, _ => none
  | k + 1, x0, x1, x2, x3, x11, x19, x20, x21, x45, x291000, x291001, x291002 => if x45 = true then ((almanaclaw19_awake.f k).bind fun t291 => (some t291)) else (if 0 ≤ x11 then (if x11 ≤ (x0.length : Int) then ((some (x0.take (x11 : Int).toNat : List (S25))).bind fun y292 => (almanaclaw19_SpanOrder.l1 k x0 x1 x2 x3 x19 x20 x21 y292 (y292.length : Int) 0 x291000 x291001 x291002)) else (none)) else (none))
def almanaclaw19_SpanOrder.l1 : Nat → List (S25) → Int → Int → Int → List (S25) → Int → Int → List (S25) → Int → Int → ByteArray → Int → Int → Option (Bool)
  | 0, _, _, _, _, _, _, _, _, _, _, _, _, _ => none
  | k + 1, x0, x1, x2, x3, x19, x20, x21, x49, x50, x51, x291000, x291001, x291002 => if x51 < x50 then (if 0 ≤ x51 then (if x51 < (x49.length : Int) then (if x291000.toList = ((rd_T25 x49 x51).f0).toList then ((almanaclaw19_awake.f k).bind fun t298 => (some t298)) else (almanaclaw19_SpanOrder.l1 k x0 x1 x2 x3 x19 x20 x21 x49 x50 (wrap64 (x51 + 1)) x291000 x291001 x291002)) else (none)) else (none)) else (almanaclaw19_SpanOrder.l0 k x0 x1 x2 x3 x19 x20 (wrap64 (x21 + 1)))
def almanaclaw19_SpanOrder.l2 : Nat → List (S25) → Int → Int → Int → List (S25) → List (S25) → Int → Int → Option (Bool)
  | 0, _, _, _, _, _, _, _, _ => none
  | k + 1, x0, x1, x2, x3, x9, x10, x64, x65 => if x65 < x64 then (if 0 ≤ x65 then (if x65 < (x0.length : Int) then ((span_Put.f x9 ((rd_T25 x0 x65).f0) ((rd_T25 x0 x65).f1) ((rd_T25 x0 x65).f2)).bind fun t300 => (if 0 ≤ (wrap64 ((wrap64 ((x0.length : Int) - 1)) - x65)) then (if (wrap64 ((wrap64 ((x0.length : Int) - 1)) - x65)) < (x0.length : Int) then ((span_Put.f x10 ((rd_T25 x0 (wrap64 ((wrap64 ((x0.length : Int) - 1)) - x65))).f0) ((rd_T25 x0 (wrap64 ((wrap64 ((x0.length : Int) - 1)) - x65))).f1) ((rd_T25 x0 (wrap64 ((wrap64 ((x0.length : Int) - 1)) - x65))).f2)).bind fun t304 => (almanaclaw19_SpanOrder.l2 k x0 x1 x2 x3 t300 t304 x64 (wrap64 (x65 + 1)))) else (none)) else (none))) else (none)) else (none)) else ((span_Fit.f x9).bind fun t307 => (if t307 = true then ((almanacref19_Same.f k x9 x10).bind fun t308 => (if t308 = true then (if (x9.length : Int) = (x0.length : Int) then (if x1 < (-4611686018427387904) then (almanaclaw19_SpanOrder.j4 k x1 x2 x3 x9 true) else (almanaclaw19_SpanOrder.j4 k x1 x2 x3 x9 (decide (x2 > 4611686018427387904)))) else (almanaclaw19_SpanOrder.j4 k x1 x2 x3 x9 true)) else (almanaclaw19_SpanOrder.j4 k x1 x2 x3 x9 true))) else (almanaclaw19_SpanOrder.j4 k x1 x2 x3 x9 true)))
def almanaclaw19_SpanOrder.j4 : Nat → Int → Int → Int → List (S25) → Bool → Option (Bool)
  | 0, _, _, _, _, _ => none
  | k + 1, x1, x2, x3, x9, x108 => if x108 = true then (if x1 < (-4611686018427387904) then ((almanaclaw19_awake.f k).bind fun t309 => (some t309)) else (if x2 > 4611686018427387904 then ((almanaclaw19_awake.f k).bind fun t310 => (some t310)) else (some false))) else ((span_Over.f x9 (wrap64 (x1 - (wrap64 (x3)))) (wrap64 (x2 + (wrap64 (x3))))).bind fun t311 => ((span_Over.f x9 x1 x2).bind fun t314 => (almanaclaw19_SpanOrder.l3 k t311 t314 (t314.length : Int) 0)))
def almanaclaw19_SpanOrder.l3 : Nat → List ByteArray → List ByteArray → Int → Int → Option (Bool)
  | 0, _, _, _, _ => none
  | k + 1, x16, x131, x132, x133 => if x133 < x132 then (if 0 ≤ x133 then (if x133 < (x131.length : Int) then ((almanacref08_Has.f k x16 (rdOf ByteArray.empty x131 x133)).bind fun t318 => (if t318 = true then (almanaclaw19_SpanOrder.l3 k x16 x131 x132 (wrap64 (x133 + 1))) else (some false))) else (none)) else (none)) else ((almanaclaw19_awake.f k).bind fun t319 => (some t319))
end
def almanaclaw19_SpanOrder.f (k : Nat) (l0 : List (S25)) (a1 : Int) (a2 : Int) (a3 : Int) : Option (Bool) := almanaclaw19_SpanOrder.l0 k l0 a1 a2 a3 l0 (l0.length : Int) 0
theorem almanaclaw19_SpanOrder.mono_l : ∀ k, (∀ y0 y1 y2 y3 y4 y5 y6, LeO (almanaclaw19_SpanOrder.l0 k y0 y1 y2 y3 y4 y5 y6) (almanaclaw19_SpanOrder.l0 (k + 1) y0 y1 y2 y3 y4 y5 y6)) ∧ (∀ y0 y1 y2 y3 y4 y5 y6 y7 y8 y9 y10 y11, LeO (almanaclaw19_SpanOrder.j1 k y0 y1 y2 y3 y4 y5 y6 y7 y8 y9 y10 y11) (almanaclaw19_SpanOrder.j1 (k + 1) y0 y1 y2 y3 y4 y5 y6 y7 y8 y9 y10 y11)) ∧ (∀ y0 y1 y2 y3 y4 y5 y6 y7 y8 y9 y10 y11 y12, LeO (almanaclaw19_SpanOrder.l1 k y0 y1 y2 y3 y4 y5 y6 y7 y8 y9 y10 y11 y12) (almanaclaw19_SpanOrder.l1 (k + 1) y0 y1 y2 y3 y4 y5 y6 y7 y8 y9 y10 y11 y12)) ∧ (∀ y0 y1 y2 y3 y4 y5 y6 y7, LeO (almanaclaw19_SpanOrder.l2 k y0 y1 y2 y3 y4 y5 y6 y7) (almanaclaw19_SpanOrder.l2 (k + 1) y0 y1 y2 y3 y4 y5 y6 y7)) ∧ (∀ y0 y1 y2 y3 y4, LeO (almanaclaw19_SpanOrder.j4 k y0 y1 y2 y3 y4) (almanaclaw19_SpanOrder.j4 (k + 1) y0 y1 y2 y3 y4)) ∧ (∀ y0 y1 y2 y3, LeO (almanaclaw19_SpanOrder.l3 k y0 y1 y2 y3) (almanaclaw19_SpanOrder.l3 (k + 1) y0 y1 y2 y3))
  | 0 => ⟨fun _ _ _ _ _ _ _ r h => by simp [almanaclaw19_SpanOrder.l0] at h, fun _ _ _ _ _ _ _ _ _ _ _ _ r h => by simp [almanaclaw19_SpanOrder.j1] at h, fun _ _ _ _ _ _ _ _ _ _ _ _ _ r h => by simp [almanaclaw19_SpanOrder.l1] at h, fun _ _ _ _ _ _ _ _ r h => by simp [almanaclaw19_SpanOrder.l2] at h, fun _ _ _ _ _ r h => by simp [almanaclaw19_SpanOrder.j4] at h, fun _ _ _ _ r h => by simp [almanaclaw19_SpanOrder.l3] at h⟩
  | k + 1 => by
    obtain ⟨ih0, ih1, ih2, ih3, ih4, ih5⟩ := almanaclaw19_SpanOrder.mono_l k
    refine ⟨?_, ?_, ?_, ?_, ?_, ?_⟩
    · intro y0 y1 y2 y3 y4 y5 y6
      unfold almanaclaw19_SpanOrder.l0
      repeat' first
      | (with_reducible exact ih0 _ _ _ _ _ _ _)
      | (with_reducible exact ih1 _ _ _ _ _ _ _ _ _ _ _ _)
      | (with_reducible exact ih2 _ _ _ _ _ _ _ _ _ _ _ _ _)
      | (with_reducible exact ih3 _ _ _ _ _ _ _ _)
      | (with_reducible exact ih4 _ _ _ _ _)
      | (with_reducible exact ih5 _ _ _ _)
      | (with_reducible exact almanaclaw19_awake.mono _)
      | (with_reducible exact almanacref08_Has.mono _ _ _)
      | (with_reducible exact almanacref19_Same.mono _ _ _)
      | (with_reducible exact LeO.refl _)
      | (with_reducible exact LeO.none _)
      | (with_reducible refine LeO.ite ?_ ?_)
      | (with_reducible refine LeO.bind ?_ (fun _ => ?_))
      | exact ih0 _ _ _ _ _ _ _
      | exact ih1 _ _ _ _ _ _ _ _ _ _ _ _
      | exact ih2 _ _ _ _ _ _ _ _ _ _ _ _ _
      | exact ih3 _ _ _ _ _ _ _ _
      | exact ih4 _ _ _ _ _
      | exact ih5 _ _ _ _
      | exact almanaclaw19_awake.mono _
      | exact almanacref08_Has.mono _ _ _
      | exact almanacref19_Same.mono _ _ _
      | exact LeO.none _
      | refine LeO.ite ?_ ?_
      | refine LeO.bind ?_ (fun _ => ?_)
    · intro y0 y1 y2 y3 y4 y5 y6 y7 y8 y9 y10 y11
      unfold almanaclaw19_SpanOrder.j1
      repeat' first
      | (with_reducible exact ih0 _ _ _ _ _ _ _)
      | (with_reducible exact ih1 _ _ _ _ _ _ _ _ _ _ _ _)
      | (with_reducible exact ih2 _ _ _ _ _ _ _ _ _ _ _ _ _)
      | (with_reducible exact ih3 _ _ _ _ _ _ _ _)
      | (with_reducible exact ih4 _ _ _ _ _)
      | (with_reducible exact ih5 _ _ _ _)
      | (with_reducible exact almanaclaw19_awake.mono _)
      | (with_reducible exact almanacref08_Has.mono _ _ _)
      | (with_reducible exact almanacref19_Same.mono _ _ _)
      | (with_reducible exact LeO.refl _)
      | (with_reducible exact LeO.none _)
      | (with_reducible refine LeO.ite ?_ ?_)
      | (with_reducible refine LeO.bind ?_ (fun _ => ?_))
      | exact ih0 _ _ _ _ _ _ _
      | exact ih1 _ _ _ _ _ _ _ _ _ _ _ _
      | exact ih2 _ _ _ _ _ _ _ _ _ _ _ _ _
      | exact ih3 _ _ _ _ _ _ _ _
      | exact ih4 _ _ _ _ _
      | exact ih5 _ _ _ _
      | exact almanaclaw19_awake.mono _
      | exact almanacref08_Has.mono _ _ _
      | exact almanacref19_Same.mono _ _ _
      | exact LeO.none _
      | refine LeO.ite ?_ ?_
      | refine LeO.bind ?_ (fun _ => ?_)
    · intro y0 y1 y2 y3 y4 y5 y6 y7 y8 y9 y10 y11 y12
      unfold almanaclaw19_SpanOrder.l1
      repeat' first
      | (with_reducible exact ih0 _ _ _ _ _ _ _)
      | (with_reducible exact ih1 _ _ _ _ _ _ _ _ _ _ _ _)
      | (with_reducible exact ih2 _ _ _ _ _ _ _ _ _ _ _ _ _)
      | (with_reducible exact ih3 _ _ _ _ _ _ _ _)
      | (with_reducible exact ih4 _ _ _ _ _)
      | (with_reducible exact ih5 _ _ _ _)
      | (with_reducible exact almanaclaw19_awake.mono _)
      | (with_reducible exact almanacref08_Has.mono _ _ _)
      | (with_reducible exact almanacref19_Same.mono _ _ _)
      | (with_reducible exact LeO.refl _)
      | (with_reducible exact LeO.none _)
      | (with_reducible refine LeO.ite ?_ ?_)
      | (with_reducible refine LeO.bind ?_ (fun _ => ?_))
      | exact ih0 _ _ _ _ _ _ _
      | exact ih1 _ _ _ _ _ _ _ _ _ _ _ _
      | exact ih2 _ _ _ _ _ _ _ _ _ _ _ _ _
      | exact ih3 _ _ _ _ _ _ _ _
      | exact ih4 _ _ _ _ _
      | exact ih5 _ _ _ _
      | exact almanaclaw19_awake.mono _
      | exact almanacref08_Has.mono _ _ _
      | exact almanacref19_Same.mono _ _ _
      | exact LeO.none _
      | refine LeO.ite ?_ ?_
      | refine LeO.bind ?_ (fun _ => ?_)
    · intro y0 y1 y2 y3 y4 y5 y6 y7
      unfold almanaclaw19_SpanOrder.l2
      repeat' first
      | (with_reducible exact ih0 _ _ _ _ _ _ _)
      | (with_reducible exact ih1 _ _ _ _ _ _ _ _ _ _ _ _)
      | (with_reducible exact ih2 _ _ _ _ _ _ _ _ _ _ _ _ _)
      | (with_reducible exact ih3 _ _ _ _ _ _ _ _)
      | (with_reducible exact ih4 _ _ _ _ _)
      | (with_reducible exact ih5 _ _ _ _)
      | (with_reducible exact almanaclaw19_awake.mono _)
      | (with_reducible exact almanacref08_Has.mono _ _ _)
      | (with_reducible exact almanacref19_Same.mono _ _ _)
      | (with_reducible exact LeO.refl _)
      | (with_reducible exact LeO.none _)
      | (with_reducible refine LeO.ite ?_ ?_)
      | (with_reducible refine LeO.bind ?_ (fun _ => ?_))
      | exact ih0 _ _ _ _ _ _ _
      | exact ih1 _ _ _ _ _ _ _ _ _ _ _ _
      | exact ih2 _ _ _ _ _ _ _ _ _ _ _ _ _
      | exact ih3 _ _ _ _ _ _ _ _
      | exact ih4 _ _ _ _ _
      | exact ih5 _ _ _ _
      | exact almanaclaw19_awake.mono _
      | exact almanacref08_Has.mono _ _ _
      | exact almanacref19_Same.mono _ _ _
      | exact LeO.none _
      | refine LeO.ite ?_ ?_
      | refine LeO.bind ?_ (fun _ => ?_)
    · intro y0 y1 y2 y3 y4
      unfold almanaclaw19_SpanOrder.j4
      repeat' first
      | (with_reducible exact ih0 _ _ _ _ _ _ _)
      | (with_reducible exact ih1 _ _ _ _ _ _ _ _ _ _ _ _)
      | (with_reducible exact ih2 _ _ _ _ _ _ _ _ _ _ _ _ _)
      | (with_reducible exact ih3 _ _ _ _ _ _ _ _)
      | (with_reducible exact ih4 _ _ _ _ _)
      | (with_reducible exact ih5 _ _ _ _)
      | (with_reducible exact almanaclaw19_awake.mono _)
      | (with_reducible exact almanacref08_Has.mono _ _ _)
      | (with_reducible exact almanacref19_Same.mono _ _ _)
      | (with_reducible exact LeO.refl _)
      | (with_reducible exact LeO.none _)
      | (with_reducible refine LeO.ite ?_ ?_)
      | (with_reducible refine LeO.bind ?_ (fun _ => ?_))
      | exact ih0 _ _ _ _ _ _ _
      | exact ih1 _ _ _ _ _ _ _ _ _ _ _ _
      | exact ih2 _ _ _ _ _ _ _ _ _ _ _ _ _
      | exact ih3 _ _ _ _ _ _ _ _
      | exact ih4 _ _ _ _ _
      | exact ih5 _ _ _ _
      | exact almanaclaw19_awake.mono _
      | exact almanacref08_Has.mono _ _ _
      | exact almanacref19_Same.mono _ _ _
      | exact LeO.none _
      | refine LeO.ite ?_ ?_
      | refine LeO.bind ?_ (fun _ => ?_)
    · intro y0 y1 y2 y3
      unfold almanaclaw19_SpanOrder.l3
      repeat' first
      | (with_reducible exact ih0 _ _ _ _ _ _ _)
      | (with_reducible exact ih1 _ _ _ _ _ _ _ _ _ _ _ _)
      | (with_reducible exact ih2 _ _ _ _ _ _ _ _ _ _ _ _ _)
      | (with_reducible exact ih3 _ _ _ _ _ _ _ _)
      | (with_reducible exact ih4 _ _ _ _ _)
      | (with_reducible exact ih5 _ _ _ _)
      | (with_reducible exact almanaclaw19_awake.mono _)
      | (with_reducible exact almanacref08_Has.mono _ _ _)
      | (with_reducible exact almanacref19_Same.mono _ _ _)
      | (with_reducible exact LeO.refl _)
      | (with_reducible exact LeO.none _)
      | (with_reducible refine LeO.ite ?_ ?_)
      | (with_reducible refine LeO.bind ?_ (fun _ => ?_))
      | exact ih0 _ _ _ _ _ _ _
      | exact ih1 _ _ _ _ _ _ _ _ _ _ _ _
      | exact ih2 _ _ _ _ _ _ _ _ _ _ _ _ _
      | exact ih3 _ _ _ _ _ _ _ _
      | exact ih4 _ _ _ _ _
      | exact ih5 _ _ _ _
      | exact almanaclaw19_awake.mono _
      | exact almanacref08_Has.mono _ _ _
      | exact almanacref19_Same.mono _ _ _
      | exact LeO.none _
      | refine LeO.ite ?_ ?_
      | refine LeO.bind ?_ (fun _ => ?_)
theorem almanaclaw19_SpanOrder.mono : ∀ a0 a1 a2 a3 k, LeO (almanaclaw19_SpanOrder.f k a0 a1 a2 a3) (almanaclaw19_SpanOrder.f (k + 1) a0 a1 a2 a3) := by
  intro a0 a1 a2 a3 k
  obtain ⟨ih0, ih1, ih2, ih3, ih4, ih5⟩ := almanaclaw19_SpanOrder.mono_l k
  unfold almanaclaw19_SpanOrder.f
  repeat' first
      | (with_reducible exact ih0 _ _ _ _ _ _ _)
      | (with_reducible exact ih1 _ _ _ _ _ _ _ _ _ _ _ _)
      | (with_reducible exact ih2 _ _ _ _ _ _ _ _ _ _ _ _ _)
      | (with_reducible exact ih3 _ _ _ _ _ _ _ _)
      | (with_reducible exact ih4 _ _ _ _ _)
      | (with_reducible exact ih5 _ _ _ _)
      | (with_reducible exact almanaclaw19_awake.mono _)
      | (with_reducible exact almanacref08_Has.mono _ _ _)
      | (with_reducible exact almanacref19_Same.mono _ _ _)
      | (with_reducible exact LeO.refl _)
      | (with_reducible exact LeO.none _)
      | (with_reducible refine LeO.ite ?_ ?_)
      | (with_reducible refine LeO.bind ?_ (fun _ => ?_))
      | exact ih0 _ _ _ _ _ _ _
      | exact ih1 _ _ _ _ _ _ _ _ _ _ _ _
      | exact ih2 _ _ _ _ _ _ _ _ _ _ _ _ _
      | exact ih3 _ _ _ _ _ _ _ _
      | exact ih4 _ _ _ _ _
      | exact ih5 _ _ _ _
      | exact almanaclaw19_awake.mono _
      | exact almanacref08_Has.mono _ _ _
      | exact almanacref19_Same.mono _ _ _
      | exact LeO.none _
      | refine LeO.ite ?_ ?_
      | refine LeO.bind ?_ (fun _ => ?_)
def almanaclaw19_SpanOrder.T17 : Bool × List (List Nat × List Nat) := (true, [([], []), ([], []), ([], []), ([1, 2], [1, 2]), ([3], [3]), ([0, 4], [0, 4]), ([], []), ([], []), ([], []), ([8], [8]), ([9], [9]), ([], []), ([10, 11], [10, 11]), ([7, 12], [7, 12]), ([13], [13]), ([6, 14, 5], [6, 14]), ([5, 15, 0, 1, 2, 3, 4, 5], [0, 5]), ([15, 16, 0, 1, 2, 3, 4, 5, 6, 7, 8, 9, 10, 11, 12, 13, 14, 15, 16], [6, 15])])
def almanaclaw19_SpanOrder.B17 : List Nat := [0, 0, 0, 6, 14, 31, 0, 0, 0, 256, 768, 0, 3840, 8064, 16256, 32767, 65535, 131071]
theorem almanaclaw19_SpanOrder.tab17 : rtab .any (opsOf Try.f3 17) = almanaclaw19_SpanOrder.T17 := by kernel_rfl
theorem almanaclaw19_SpanOrder.bits17 : waitsOk almanaclaw19_SpanOrder.T17.2 almanaclaw19_SpanOrder.B17 = true := by kernel_rfl
set_option maxHeartbeats 8000000 in
set_option maxRecDepth 100000 in
theorem almanaclaw19_SpanOrder.callsT (k : Nat) (A0 : Option Addr) (c0 : Nat) (l0 : List (S25)) (a1 : Int) (a2 : Int) (a3 : Int) (r : Bool) (w : World) (hr0 : Kd.C k25 w A0 l0.length l0) (hc0 : l0.length ≤ c0) (h : almanaclaw19_SpanOrder.f k l0 a1 a2 a3 = some r) (hr : r = true) :
    Calls Try.prog 3 #[.slice A0 l0.length c0, .int .i64 a1, .int .i64 a2, .int .u32 a3] w fun e w' => e = .returned (.bool r) ∧ Below w.heap.size w w' := by
  have HRT := Aside0.mk hr
  clear hr
  have hu25 := Try.underlying25
  have HR0 := Aside0.mk hr0
  have HC0 := Aside0.mk hc0
  clear hr0 hc0
  have HB := Aside0.mk (Below.refl w.heap.size w)
  have H : (almanaclaw19_SpanOrder.l0 k l0 a1 a2 a3 l0 (l0.length : Int) 0) = some r := h
  clear h
  have H' := Aside0.mk H
  clear H
  go_enter Try.func3, Try.ntmps3
  go_wp2
  go_loopg [21] k (fun kq v21 w' => ∃ (x21_1 : Int), v21 = .int .i64 x21_1 ∧ Aside0 (almanaclaw19_SpanOrder.l0 kq l0 a1 a2 a3 l0 (l0.length : Int) x21_1 = some r) ∧ Aside0 (kq ≤ k) ∧ Aside0 (Below w.heap.size w w'))
  case atStart => exact ⟨(0), (by first | rfl | (simp; done) | (simp [*]; done)), H', ⟨Nat.le_refl _⟩, ⟨by repeat (first | (with_reducible first | exact HB.out | apply below_alloc | apply pw_below_drewN | apply below_drew1) | exact HB.out)⟩⟩
  case round =>
    clear H'
    try clear p2
    try clear c3
    obtain ⟨x21_1, rfl, HA, HK1, HB⟩ := hrel
    cases gk with
    | zero => exact absurd HA.out (by simp [almanaclaw19_SpanOrder.l0])
    | succ k1 =>
      have H := HA.out
      clear HA
      simp only [almanaclaw19_SpanOrder.l0] at H
      by_cases c5 : x21_1 < (l0.length : Int)
      · rw [if_pos c5] at H
        have c5b0 : decide (x21_1 < (l0.length : Int)) = true := decide_eq_true c5
        clear c5
        by_cases c6 : 0 ≤ x21_1
        · rw [if_pos c6] at H
          have c6b0 : decide (0 ≤ x21_1) = true := decide_eq_true c6
          clear c6
          by_cases c7 : x21_1 < (l0.length : Int)
          · rw [if_pos c7] at H
            have c7b0 : decide (x21_1 < (l0.length : Int)) = true := decide_eq_true c7
            clear c7
            have HC8 := Aside0.mk H
            clear H
            have p289 : 0 ≤ (x21_1 : Int) := of_decide_eq_true (by first | (with_reducible assumption) | assumption)
            have q289 : x21_1 < (l0.length : Int) := of_decide_eq_true (by first | (with_reducible assumption) | assumption)
            obtain ⟨ad289, e289, hx289_0, hx289_1, hx289_2⟩ := at_T25 HR0.out x21_1 p289 q289
            cases e289
            replace hx289_0 := (HB.out.cell (World.block_lt_of_cell? w _ hx289_0)).trans hx289_0
            replace hx289_1 := (HB.out.cell (World.block_lt_of_cell? w _ hx289_1)).trans hx289_1
            replace hx289_2 := (HB.out.cell (World.block_lt_of_cell? w _ hx289_2)).trans hx289_2
            replace p289 := eq_true p289
            replace q289 := eq_true q289
            go_upto_region 5 with (first | ((with_reducible refine gate_dst (N := 12) rfl ?_); (try (refine gate_guard (by rfl) ?_; dsimp only)); refine box_event ?hg (N := 12) ?hd (cs := #[.string (⟨#[]⟩ : ByteArray), .int .i64 0, .int .i64 0]) (t := 25) ?hr ?_; (case hd => rfl); (case hg => rfl); (case hr => first | (go_simp; done) | (go_simp; rfl)); intro gb290 hg w9 hbox hb; have n0_ := Aside0.mk (below_step (by repeat (first | (with_reducible first | exact HB.out | apply below_alloc | apply pw_below_drewN | apply below_drew1) | exact HB.out)) hb); have n1_ := Aside0.mk (hbox); have n2_ := Aside0.mk ((by rw [hg]; exact (below_size (by repeat (first | (with_reducible first | exact HB.out | apply below_alloc | apply pw_below_drewN | apply below_drew1) | exact HB.out))) : w.heap.size ≤ gb290)); have n3_ := Aside0.mk ((by rw [hg]; exact (below_size (by repeat (first | (with_reducible first | exact HB.out | apply below_alloc | apply pw_below_drewN | apply below_drew1) | exact HB.out))) : w.heap.size ≤ gb290)); clear HB; have HB := n0_; have BK290 := n1_; have GW290 := n2_; have GE290 := n3_; clear n0_ n1_ n2_ n3_; clear hb hbox hg; have hcz10_0 : w9.cell? ⟨gb290, 0, none⟩ = some (.string (⟨#[]⟩ : ByteArray)) := (blk_cell BK290.out 0).trans rfl; have hcz10_1 : w9.cell? ⟨gb290, 1, none⟩ = some (.int .i64 0) := (blk_cell BK290.out 1).trans rfl; have hcz10_2 : w9.cell? ⟨gb290, 2, none⟩ = some (.int .i64 0) := (blk_cell BK290.out 2).trans rfl; have hfz10_0 := blk_frozen BK290.out 0; have hfz10_1 := blk_frozen BK290.out 1; have hfz10_2 := blk_frozen BK290.out 2))
            (try simp only [Act.put, List.setIfInBounds_toArray, List.set_cons_zero, List.set_cons_succ])
            go_cut [45] (fun v45 wc => ∃ (kq : Nat) (x45_7 : Bool), v45 = .bool x45_7 ∧ Aside0 (almanaclaw19_SpanOrder.j1 kq l0 a1 a2 a3 x21_1 l0 (l0.length : Int) x21_1 x45_7 ((rd_T25 l0 x21_1).f0) ((rd_T25 l0 x21_1).f1) ((rd_T25 l0 x21_1).f2) = some r) ∧ Aside0 (kq ≤ k1) ∧ Aside0 (wc.heap[gb290]? = some (.cells #[.string ((rd_T25 l0 x21_1).f0), .int .i64 ((rd_T25 l0 x21_1).f1), .int .i64 ((rd_T25 l0 x21_1).f2)] 25 (0, 0))) ∧ Aside0 (Below w.heap.size w wc))
            case first =>
              have H := HC8.out
              clear HC8
              by_cases c11 : ((rd_T25 l0 x21_1).f0).toList = ([] : List UInt8)
              · rw [if_pos c11] at H
                have c11b0 : (((rd_T25 l0 x21_1).f0).toList == ([] : List UInt8)) = true := beq_iff_eq.mpr c11
                have c11b1 : (((rd_T25 l0 x21_1).f0).toList != ([] : List UInt8)) = false := bne_eq_false_iff_eq.mpr c11
                clear c11
                (first | rw [c11b0] | (simp only [i64_w, i32_w]; rw [c11b0]) | skip)
                have H' := Aside0.mk H
                clear H
                have hcz12_0 : w9.cell? ⟨gb290, 0, none⟩ = some (.string (⟨#[]⟩ : ByteArray)) := (blk_cell BK290.out 0).trans rfl
                have hcz12_1 : w9.cell? ⟨gb290, 1, none⟩ = some (.int .i64 0) := (blk_cell BK290.out 1).trans rfl
                have hcz12_2 : w9.cell? ⟨gb290, 2, none⟩ = some (.int .i64 0) := (blk_cell BK290.out 2).trans rfl
                have hfz12_0 := blk_frozen BK290.out 0
                have hfz12_1 := blk_frozen BK290.out 1
                have hfz12_2 := blk_frozen BK290.out 2
                go_wp2
                go_meet
                case rel => exact ⟨_, (true), (by first | rfl | (simp; done) | (simp [*]; done)), H', ⟨by have := HK1.out; first | omega | exact Nat.le_refl _⟩, ⟨by (with_reducible repeat (first | refine blk_drewN ?_ _ | refine blk_drew ?_ | refine blk_alloc ?_ _)); refine blk_put (cs := #[.string ((rd_T25 l0 x21_1).f0), .int .i64 ((rd_T25 l0 x21_1).f1), .int .i64 0]) ?_ 2 _ rfl; (with_reducible repeat (first | refine blk_drewN ?_ _ | refine blk_drew ?_ | refine blk_alloc ?_ _)); refine blk_put (cs := #[.string ((rd_T25 l0 x21_1).f0), .int .i64 0, .int .i64 0]) ?_ 1 _ rfl; (with_reducible repeat (first | refine blk_drewN ?_ _ | refine blk_drew ?_ | refine blk_alloc ?_ _)); refine blk_put (cs := #[.string (⟨#[]⟩ : ByteArray), .int .i64 0, .int .i64 0]) ?_ 0 _ rfl; (with_reducible repeat (first | refine blk_drewN ?_ _ | refine blk_drew ?_ | refine blk_alloc ?_ _)); exact BK290.out⟩, ⟨by repeat (first | (with_reducible first | exact HB.out | apply below_alloc | apply pw_below_drewN | apply below_drew1 | refine below_set ?_ GE290.out) | exact HB.out)⟩⟩
              · rw [if_neg c11] at H
                have c11b0 : (((rd_T25 l0 x21_1).f0).toList == ([] : List UInt8)) = false := beq_eq_false_iff_ne.mpr c11
                have c11b1 : (((rd_T25 l0 x21_1).f0).toList != ([] : List UInt8)) = true := bne_iff_ne.mpr c11
                (first | rw [c11b0] | (simp only [i64_w, i32_w]; rw [c11b0]) | skip)
                by_cases c13 : (((rd_T25 l0 x21_1).f0).size : Int) > 24
                · rw [if_pos c13] at H
                  have c13b0 : decide (24 < (((rd_T25 l0 x21_1).f0).size : Int)) = true := decide_eq_true c13
                  have c13b1 : decide (24 < ((rd_T25 l0 x21_1).f0).size) = true := decide_eq_true (by omega)
                  clear c13
                  have H' := Aside0.mk H
                  clear H
                  have hcz14_0 : w9.cell? ⟨gb290, 0, none⟩ = some (.string (⟨#[]⟩ : ByteArray)) := (blk_cell BK290.out 0).trans rfl
                  have hcz14_1 : w9.cell? ⟨gb290, 1, none⟩ = some (.int .i64 0) := (blk_cell BK290.out 1).trans rfl
                  have hcz14_2 : w9.cell? ⟨gb290, 2, none⟩ = some (.int .i64 0) := (blk_cell BK290.out 2).trans rfl
                  have hfz14_0 := blk_frozen BK290.out 0
                  have hfz14_1 := blk_frozen BK290.out 1
                  have hfz14_2 := blk_frozen BK290.out 2
                  go_wp2
                  go_meet
                  case rel => exact ⟨_, (true), (by first | rfl | (simp; done) | (simp [*]; done)), H', ⟨by have := HK1.out; first | omega | exact Nat.le_refl _⟩, ⟨by (with_reducible repeat (first | refine blk_drewN ?_ _ | refine blk_drew ?_ | refine blk_alloc ?_ _)); refine blk_put (cs := #[.string ((rd_T25 l0 x21_1).f0), .int .i64 ((rd_T25 l0 x21_1).f1), .int .i64 0]) ?_ 2 _ rfl; (with_reducible repeat (first | refine blk_drewN ?_ _ | refine blk_drew ?_ | refine blk_alloc ?_ _)); refine blk_put (cs := #[.string ((rd_T25 l0 x21_1).f0), .int .i64 0, .int .i64 0]) ?_ 1 _ rfl; (with_reducible repeat (first | refine blk_drewN ?_ _ | refine blk_drew ?_ | refine blk_alloc ?_ _)); refine blk_put (cs := #[.string (⟨#[]⟩ : ByteArray), .int .i64 0, .int .i64 0]) ?_ 0 _ rfl; (with_reducible repeat (first | refine blk_drewN ?_ _ | refine blk_drew ?_ | refine blk_alloc ?_ _)); exact BK290.out⟩, ⟨by repeat (first | (with_reducible first | exact HB.out | apply below_alloc | apply pw_below_drewN | apply below_drew1 | refine below_set ?_ GE290.out) | exact HB.out)⟩⟩
                · rw [if_neg c13] at H
                  have c13b0 : decide (24 < (((rd_T25 l0 x21_1).f0).size : Int)) = false := decide_eq_false c13
                  have c13b1 : decide (24 < ((rd_T25 l0 x21_1).f0).size) = false := decide_eq_false (by omega)
                  clear c13
                  by_cases c15 : ((rd_T25 l0 x21_1).f2) < ((rd_T25 l0 x21_1).f1)
                  · rw [if_pos c15] at H
                    have c15b0 : decide (((rd_T25 l0 x21_1).f2) < ((rd_T25 l0 x21_1).f1)) = true := decide_eq_true c15
                    clear c15
                    have H' := Aside0.mk H
                    clear H
                    have hcz16_0 : w9.cell? ⟨gb290, 0, none⟩ = some (.string (⟨#[]⟩ : ByteArray)) := (blk_cell BK290.out 0).trans rfl
                    have hcz16_1 : w9.cell? ⟨gb290, 1, none⟩ = some (.int .i64 0) := (blk_cell BK290.out 1).trans rfl
                    have hcz16_2 : w9.cell? ⟨gb290, 2, none⟩ = some (.int .i64 0) := (blk_cell BK290.out 2).trans rfl
                    have hfz16_0 := blk_frozen BK290.out 0
                    have hfz16_1 := blk_frozen BK290.out 1
                    have hfz16_2 := blk_frozen BK290.out 2
                    go_wp2
                    go_meet
                    case rel => exact ⟨_, (true), (by first | rfl | (simp; done) | (simp [*]; done)), H', ⟨by have := HK1.out; first | omega | exact Nat.le_refl _⟩, ⟨by (with_reducible repeat (first | refine blk_drewN ?_ _ | refine blk_drew ?_ | refine blk_alloc ?_ _)); refine blk_put (cs := #[.string ((rd_T25 l0 x21_1).f0), .int .i64 ((rd_T25 l0 x21_1).f1), .int .i64 0]) ?_ 2 _ rfl; (with_reducible repeat (first | refine blk_drewN ?_ _ | refine blk_drew ?_ | refine blk_alloc ?_ _)); refine blk_put (cs := #[.string ((rd_T25 l0 x21_1).f0), .int .i64 0, .int .i64 0]) ?_ 1 _ rfl; (with_reducible repeat (first | refine blk_drewN ?_ _ | refine blk_drew ?_ | refine blk_alloc ?_ _)); refine blk_put (cs := #[.string (⟨#[]⟩ : ByteArray), .int .i64 0, .int .i64 0]) ?_ 0 _ rfl; (with_reducible repeat (first | refine blk_drewN ?_ _ | refine blk_drew ?_ | refine blk_alloc ?_ _)); exact BK290.out⟩, ⟨by repeat (first | (with_reducible first | exact HB.out | apply below_alloc | apply pw_below_drewN | apply below_drew1 | refine below_set ?_ GE290.out) | exact HB.out)⟩⟩
                  · rw [if_neg c15] at H
                    have c15b0 : decide (((rd_T25 l0 x21_1).f2) < ((rd_T25 l0 x21_1).f1)) = false := decide_eq_false c15
                    clear c15
                    have H' := Aside0.mk H
                    clear H
                    have hcz17_0 : w9.cell? ⟨gb290, 0, none⟩ = some (.string (⟨#[]⟩ : ByteArray)) := (blk_cell BK290.out 0).trans rfl
                    have hcz17_1 : w9.cell? ⟨gb290, 1, none⟩ = some (.int .i64 0) := (blk_cell BK290.out 1).trans rfl
                    have hcz17_2 : w9.cell? ⟨gb290, 2, none⟩ = some (.int .i64 0) := (blk_cell BK290.out 2).trans rfl
                    have hfz17_0 := blk_frozen BK290.out 0
                    have hfz17_1 := blk_frozen BK290.out 1
                    have hfz17_2 := blk_frozen BK290.out 2
                    go_wp2
                    go_meet
                    case rel => exact ⟨_, (decide (x21_1 ≥ 32)), (by first | rfl | (simp; done) | (simp [*]; done)), H', ⟨by have := HK1.out; first | omega | exact Nat.le_refl _⟩, ⟨by (with_reducible repeat (first | refine blk_drewN ?_ _ | refine blk_drew ?_ | refine blk_alloc ?_ _)); refine blk_put (cs := #[.string ((rd_T25 l0 x21_1).f0), .int .i64 ((rd_T25 l0 x21_1).f1), .int .i64 0]) ?_ 2 _ rfl; (with_reducible repeat (first | refine blk_drewN ?_ _ | refine blk_drew ?_ | refine blk_alloc ?_ _)); refine blk_put (cs := #[.string ((rd_T25 l0 x21_1).f0), .int .i64 0, .int .i64 0]) ?_ 1 _ rfl; (with_reducible repeat (first | refine blk_drewN ?_ _ | refine blk_drew ?_ | refine blk_alloc ?_ _)); refine blk_put (cs := #[.string (⟨#[]⟩ : ByteArray), .int .i64 0, .int .i64 0]) ?_ 0 _ rfl; (with_reducible repeat (first | refine blk_drewN ?_ _ | refine blk_drew ?_ | refine blk_alloc ?_ _)); exact BK290.out⟩, ⟨by repeat (first | (with_reducible first | exact HB.out | apply below_alloc | apply pw_below_drewN | apply below_drew1 | refine below_set ?_ GE290.out) | exact HB.out)⟩⟩
            case rest =>
              clear HC8
              try clear c1
              try clear p2
              try clear q2
              try clear hx2
              try clear c3
              try clear c5
              try clear c5b0
              try clear c6
              try clear c6b0
              try clear c7
              try clear c7b0
              try clear c11
              try clear c11b0
              try clear c11b1
              try clear c13
              try clear c13b0
              try clear c13b1
              try clear c15
              try clear c15b0
              try clear hcz10_0
              try clear hcz10_1
              try clear hcz10_2
              try clear hcz12_0
              try clear hcz12_1
              try clear hcz12_2
              try clear hcz14_0
              try clear hcz14_1
              try clear hcz14_2
              try clear hcz16_0
              try clear hcz16_1
              try clear hcz16_2
              try clear hcz17_0
              try clear hcz17_1
              try clear hcz17_2
              try clear hfz10_0
              try clear hfz10_1
              try clear hfz10_2
              try clear hfz12_0
              try clear hfz12_1
              try clear hfz12_2
              try clear hfz14_0
              try clear hfz14_1
              try clear hfz14_2
              try clear hfz16_0
              try clear hfz16_1
              try clear hfz16_2
              try clear hfz17_0
              try clear hfz17_1
              try clear hfz17_2
              try clear hx289_0
              try clear hx289_1
              try clear hx289_2
              try clear p2
              try clear p289
              try clear q289
              obtain ⟨kq, x45_7, rfl, HA, HJ7, BK290, HB⟩ := hcut
              cases kq with
              | zero => exact absurd HA.out (by simp [almanaclaw19_SpanOrder.j1])
              | succ kj7 =>
                have H := HA.out
                clear HA
                simp only [almanaclaw19_SpanOrder.j1] at H
                by_cases c18 : x45_7 = true
                · subst c18
                  have H1 : ((almanaclaw19_awake.f kj7).bind fun t291 => (some t291)) = some r := by rw [if_pos rfl] at H; exact H
                  clear H
                  have H := H1
                  clear H1
                  replace H := Option.bind_eq_some_iff.mp H
                  obtain ⟨t291, A190, H⟩ := H
                  replace H : (some t291) = some r := H
                  have A19 := Aside0.mk A190
                  clear A190
                  obtain rfl := Option.some.inj H
                  go_wp2_with (first | ((with_reducible refine gate_callee (f := 6) rfl ?_); refine goesL_ (some 46) rfl rfl Try.func6 (by kernel_rfl) rfl #[] rfl (by (try simp only [List.map_toArray, List.map_cons, List.map_nil]); first | done | rfl | (simp only [List.length_drop, List.length_take]; rfl)) ?_; (with_reducible refine (almanaclaw19_awake.calls kj7  t291 _ A19.out).mono ?_); rintro e w20 ⟨rfl, hb⟩; refine ⟨_, rfl, ?_⟩; have n0_ := Aside0.mk (blk_below (g := gb290) (o := .cells #[.string ((rd_T25 l0 x21_1).f0), .int .i64 ((rd_T25 l0 x21_1).f1), .int .i64 ((rd_T25 l0 x21_1).f2)] 25 (0, 0)) (by (with_reducible repeat (first | refine blk_drewN ?_ _ | refine blk_drew ?_ | refine blk_alloc ?_ _)); exact BK290.out) hb); have n1_ := Aside0.mk (below_step (by repeat (first | (with_reducible first | exact HB.out | apply below_alloc | apply pw_below_drewN | apply below_drew1 | refine below_set ?_ GE290.out) | exact HB.out)) hb); clear BK290; clear HB; have BK290 := n0_; have HB := n1_; clear n0_ n1_; (try clear hb); (try clear hb2); (try clear hk); (try clear hi)))
                  go_ret
                  exact ⟨by first | rfl | (simp [errW_none, errW_some] <;> rfl) | (simp [*, errW_none, errW_some] <;> rfl), by repeat (first | (with_reducible first | exact HB.out | apply below_alloc | apply pw_below_drewN | apply below_drew1 | refine below_set ?_ GE290.out) | exact HB.out)⟩
                · replace c18 := Bool.eq_false_iff.mpr c18
                  subst c18
                  have H1 : (if 0 ≤ x21_1 then (if x21_1 ≤ (l0.length : Int) then ((some (l0.take (x21_1 : Int).toNat : List (S25))).bind fun y292 => (almanaclaw19_SpanOrder.l1 kj7 l0 a1 a2 a3 l0 (l0.length : Int) x21_1 y292 (y292.length : Int) 0 ((rd_T25 l0 x21_1).f0) ((rd_T25 l0 x21_1).f1) ((rd_T25 l0 x21_1).f2))) else (none)) else (none)) = some r := by rw [if_neg (show ¬ (false = true) by decide)] at H; exact H
                  clear H
                  have H := H1
                  clear H1
                  by_cases c21 : 0 ≤ x21_1
                  · rw [if_pos c21] at H
                    have c21b0 := eq_true c21
                    have c21b1 : decide (0 ≤ x21_1) = true := decide_eq_true c21
                    clear c21
                    by_cases c22 : x21_1 ≤ (l0.length : Int)
                    · rw [if_pos c22] at H
                      have c22b0 := eq_true c22
                      have c22b1 : decide (x21_1 ≤ (l0.length : Int)) = true := decide_eq_true c22
                      clear c22
                      obtain ⟨y292, hy292⟩ : ∃ y_ : List (S25), y_ = (l0.take (x21_1 : Int).toNat) := ⟨_, rfl⟩
                      replace H : (almanaclaw19_SpanOrder.l1 kj7 l0 a1 a2 a3 l0 (l0.length : Int) x21_1 y292 (y292.length : Int) 0 ((rd_T25 l0 x21_1).f0) ((rd_T25 l0 x21_1).f1) ((rd_T25 l0 x21_1).f2)) = some r := by first | (rw [hy292]; with_reducible exact H) | (have H2_ := (Option.bind_some _ _).symm.trans H; rw [hy292]; with_reducible exact H2_) | (have H2_ := (Option.bind_some _ _).symm.trans H; with_reducible exact H2_) | with_reducible exact H | (rw [hy292]; exact H) | exact H
                      have Ny292 := Aside0.mk hy292
                      clear hy292
                      have H' := Aside0.mk H
                      clear H
                      have q23 : (x21_1 : Int) ≤ ((l0.length : Int) : Int) := of_decide_eq_true (by first | (with_reducible assumption) | assumption)
                      obtain ⟨i023, hi023, _, hsz23, _⟩ := info_parts info25
                      have hroom23 : l0.length ≤ c0 := HC0.out
                      have hC23 : Kd.C k25 _ (some ad289) l0.length l0 := HR0.out
                      have hcut23 := cut_to (P := Try.prog) 22 25 .i64 Try.underlying22 hi023 (some ad289) l0.length c0 x21_1 (of_decide_eq_true (by first | (with_reducible assumption) | assumption)) q23 hroom23
                      have hr23 := Kd.C_take (m := (x21_1 : Int).toNat) hC23 (by omega)
                      have hy23 : y292.length = (x21_1 : Int).toNat := (by rw [Ny292.out, List.length_take]; omega)
                      rw [← Ny292.out] at hr23
                      rw [← hy23] at hcut23
                      have HR295 := Aside0.mk hr23
                      have HC295 := Aside0.mk (show y292.length ≤ c0 from by omega)
                      clear hr23 hC23 hroom23 hi023 hsz23
                      have KY23 := Aside0.mk hy23
                      clear hy23
                      replace q23 := eq_true q23
                      go_wp2
                      go_loopg [51] kj7 (fun kq v51 w' => ∃ (x51_3 : Int), v51 = .int .i64 x51_3 ∧ Aside0 (almanaclaw19_SpanOrder.l1 kq l0 a1 a2 a3 l0 (l0.length : Int) x21_1 y292 (y292.length : Int) x51_3 ((rd_T25 l0 x21_1).f0) ((rd_T25 l0 x21_1).f1) ((rd_T25 l0 x21_1).f2) = some r) ∧ Aside0 (kq ≤ kj7) ∧ Aside0 (w'.heap[gb290]? = some (.cells #[.string ((rd_T25 l0 x21_1).f0), .int .i64 ((rd_T25 l0 x21_1).f1), .int .i64 ((rd_T25 l0 x21_1).f2)] 25 (0, 0))) ∧ Aside0 (Below w.heap.size w w'))
                      case atStart => exact ⟨(0), (by first | rfl | (simp; done) | (simp [*]; done)), H', ⟨Nat.le_refl _⟩, ⟨by (with_reducible repeat (first | refine blk_drewN ?_ _ | refine blk_drew ?_ | refine blk_alloc ?_ _)); exact BK290.out⟩, ⟨by repeat (first | (with_reducible first | exact HB.out | apply below_alloc | apply pw_below_drewN | apply below_drew1 | refine below_set ?_ GE290.out) | exact HB.out)⟩⟩
                      case round =>
                        clear H'
                        try clear c1
                        try clear c2
                        try clear p2
                        try clear q2
                        try clear hx2
                        try clear c3
                        try clear c5
                        try clear c5b0
                        try clear c6
                        try clear c6b0
                        try clear c7
                        try clear c7b0
                        try clear c11
                        try clear c11b0
                        try clear c11b1
                        try clear c13
                        try clear c13b0
                        try clear c13b1
                        try clear c15
                        try clear c15b0
                        try clear c18
                        try clear c21
                        try clear c21b0
                        try clear c21b1
                        try clear c22
                        try clear c22b0
                        try clear c22b1
                        try clear q23
                        try clear hcz10_0
                        try clear hcz10_1
                        try clear hcz10_2
                        try clear hcz12_0
                        try clear hcz12_1
                        try clear hcz12_2
                        try clear hcz14_0
                        try clear hcz14_1
                        try clear hcz14_2
                        try clear hcz16_0
                        try clear hcz16_1
                        try clear hcz16_2
                        try clear hcz17_0
                        try clear hcz17_1
                        try clear hcz17_2
                        try clear hfz10_0
                        try clear hfz10_1
                        try clear hfz10_2
                        try clear hfz12_0
                        try clear hfz12_1
                        try clear hfz12_2
                        try clear hfz14_0
                        try clear hfz14_1
                        try clear hfz14_2
                        try clear hfz16_0
                        try clear hfz16_1
                        try clear hfz16_2
                        try clear hfz17_0
                        try clear hfz17_1
                        try clear hfz17_2
                        try clear hx289_0
                        try clear hx289_1
                        try clear hx289_2
                        try clear p2
                        try clear p289
                        try clear q2
                        try clear q23
                        try clear q289
                        obtain ⟨x51_3, rfl, HA, HK3, BK290, HB⟩ := hrel
                        cases gk with
                        | zero => exact absurd HA.out (by simp [almanaclaw19_SpanOrder.l1])
                        | succ k3 =>
                          have H := HA.out
                          clear HA
                          simp only [almanaclaw19_SpanOrder.l1] at H
                          by_cases c24 : x51_3 < (y292.length : Int)
                          · rw [if_pos c24] at H
                            have c24b0 : decide (x51_3 < (y292.length : Int)) = true := decide_eq_true c24
                            clear c24
                            by_cases c25 : 0 ≤ x51_3
                            · rw [if_pos c25] at H
                              have c25b0 : decide (0 ≤ x51_3) = true := decide_eq_true c25
                              clear c25
                              by_cases c26 : x51_3 < (y292.length : Int)
                              · rw [if_pos c26] at H
                                have c26b0 : decide (x51_3 < (y292.length : Int)) = true := decide_eq_true c26
                                clear c26
                                by_cases c27 : ((rd_T25 l0 x21_1).f0).toList = ((rd_T25 y292 x51_3).f0).toList
                                · rw [if_pos c27] at H
                                  have c27b0 : (((rd_T25 l0 x21_1).f0).toList == ((rd_T25 y292 x51_3).f0).toList) = true := beq_iff_eq.mpr c27
                                  have c27b1 : (((rd_T25 l0 x21_1).f0).toList != ((rd_T25 y292 x51_3).f0).toList) = false := bne_eq_false_iff_eq.mpr c27
                                  clear c27
                                  replace H := Option.bind_eq_some_iff.mp H
                                  obtain ⟨t298, A280, H⟩ := H
                                  replace H : (some t298) = some r := H
                                  have A28 := Aside0.mk A280
                                  clear A280
                                  obtain rfl := Option.some.inj H
                                  have p296 : 0 ≤ (x51_3 : Int) := of_decide_eq_true (by first | (with_reducible assumption) | assumption)
                                  have q296 : x51_3 < (y292.length : Int) := of_decide_eq_true (by first | (with_reducible assumption) | assumption)
                                  obtain ⟨ad296, e296, hx296_0, hx296_1, hx296_2⟩ := at_T25 HR295.out x51_3 p296 q296
                                  obtain rfl : ad289 = ad296 := (by injection e296)
                                  replace hx296_0 := (HB.out.cell (World.block_lt_of_cell? w _ hx296_0)).trans hx296_0
                                  replace hx296_1 := (HB.out.cell (World.block_lt_of_cell? w _ hx296_1)).trans hx296_1
                                  replace hx296_2 := (HB.out.cell (World.block_lt_of_cell? w _ hx296_2)).trans hx296_2
                                  replace p296 := eq_true p296
                                  replace q296 := eq_true q296
                                  go_wp2_with (first | ((with_reducible refine gate_dst (N := 14) rfl ?_); (try (refine gate_guard (by rfl) ?_; dsimp only)); refine box_event ?hg (N := 14) ?hd (cs := #[.string (⟨#[]⟩ : ByteArray), .int .i64 0, .int .i64 0]) (t := 25) ?hr ?_; (case hd => rfl); (case hg => rfl); (case hr => first | (go_simp; done) | (go_simp; rfl)); intro gb297 hg w29 hbox hb; have n0_ := Aside0.mk (blk_below (g := gb290) (o := .cells #[.string ((rd_T25 l0 x21_1).f0), .int .i64 ((rd_T25 l0 x21_1).f1), .int .i64 ((rd_T25 l0 x21_1).f2)] 25 (0, 0)) (by (with_reducible repeat (first | refine blk_drewN ?_ _ | refine blk_drew ?_ | refine blk_alloc ?_ _)); exact BK290.out) hb); have n1_ := Aside0.mk (below_step (by repeat (first | (with_reducible first | exact HB.out | apply below_alloc | apply pw_below_drewN | apply below_drew1 | refine below_set ?_ GE290.out) | exact HB.out)) hb); have n2_ := Aside0.mk (hbox); have n3_ := Aside0.mk ((by rw [hg]; exact (below_size (by repeat (first | (with_reducible first | exact HB.out | apply below_alloc | apply pw_below_drewN | apply below_drew1 | refine below_set ?_ GE290.out) | exact HB.out))) : w.heap.size ≤ gb297)); have n4_ := Aside0.mk ((by rw [hg]; exact (below_size (by repeat (first | (with_reducible first | exact HB.out | apply below_alloc | apply pw_below_drewN | apply below_drew1 | refine below_set ?_ GE290.out) | exact HB.out))) : w.heap.size ≤ gb297)); have n5_ := Aside0.mk ((by rw [hg]; exact Nat.ne_of_lt (blk_lt (g := gb290) (o := .cells #[.string ((rd_T25 l0 x21_1).f0), .int .i64 ((rd_T25 l0 x21_1).f1), .int .i64 ((rd_T25 l0 x21_1).f2)] 25 (0, 0)) (by (with_reducible repeat (first | refine blk_drewN ?_ _ | refine blk_drew ?_ | refine blk_alloc ?_ _)); exact BK290.out)) : gb290 ≠ gb297)); have n6_ := Aside0.mk ((by rw [hg]; exact Nat.ne_of_gt (blk_lt (g := gb290) (o := .cells #[.string ((rd_T25 l0 x21_1).f0), .int .i64 ((rd_T25 l0 x21_1).f1), .int .i64 ((rd_T25 l0 x21_1).f2)] 25 (0, 0)) (by (with_reducible repeat (first | refine blk_drewN ?_ _ | refine blk_drew ?_ | refine blk_alloc ?_ _)); exact BK290.out)) : gb297 ≠ gb290)); clear BK290; clear HB; have BK290 := n0_; have HB := n1_; have BK297 := n2_; have GW297 := n3_; have GE297 := n4_; have NB290_297 := n5_; have NB297_290 := n6_; clear n0_ n1_ n2_ n3_ n4_ n5_ n6_; clear hb hbox hg; have hnb30 := NB297_290.out; have hnc30 := NB290_297.out; have hcz31_0 : w29.cell? ⟨gb297, 0, none⟩ = some (.string (⟨#[]⟩ : ByteArray)) := (blk_cell BK297.out 0).trans rfl; have hcz31_1 : w29.cell? ⟨gb297, 1, none⟩ = some (.int .i64 0) := (blk_cell BK297.out 1).trans rfl; have hcz31_2 : w29.cell? ⟨gb297, 2, none⟩ = some (.int .i64 0) := (blk_cell BK297.out 2).trans rfl; have hfz31_0 := blk_frozen BK297.out 0; have hfz31_1 := blk_frozen BK297.out 1; have hfz31_2 := blk_frozen BK297.out 2; have hcz32_0 : w29.cell? ⟨gb290, 0, none⟩ = some (.string ((rd_T25 l0 x21_1).f0)) := (blk_cell BK290.out 0).trans rfl; have hcz32_1 : w29.cell? ⟨gb290, 1, none⟩ = some (.int .i64 ((rd_T25 l0 x21_1).f1)) := (blk_cell BK290.out 1).trans rfl; have hcz32_2 : w29.cell? ⟨gb290, 2, none⟩ = some (.int .i64 ((rd_T25 l0 x21_1).f2)) := (blk_cell BK290.out 2).trans rfl; have hfz32_0 := blk_frozen BK290.out 0; have hfz32_1 := blk_frozen BK290.out 1; have hfz32_2 := blk_frozen BK290.out 2) | ((with_reducible refine gate_callee (f := 6) rfl ?_); refine goesL_ (some 60) rfl rfl Try.func6 (by kernel_rfl) rfl #[] rfl (by (try simp only [List.map_toArray, List.map_cons, List.map_nil]); first | done | rfl | (simp only [List.length_drop, List.length_take]; rfl)) ?_; (with_reducible refine (almanaclaw19_awake.calls k3  t298 _ A28.out).mono ?_); rintro e w33 ⟨rfl, hb⟩; refine ⟨_, rfl, ?_⟩; have n0_ := Aside0.mk (blk_below (g := gb290) (o := .cells #[.string ((rd_T25 l0 x21_1).f0), .int .i64 ((rd_T25 l0 x21_1).f1), .int .i64 ((rd_T25 l0 x21_1).f2)] 25 (0, 0)) (by (with_reducible repeat (first | refine blk_drewN ?_ _ | refine blk_drew ?_ | refine blk_alloc ?_ _)); refine blk_far ?_ NB290_297.out _; (with_reducible repeat (first | refine blk_drewN ?_ _ | refine blk_drew ?_ | refine blk_alloc ?_ _)); refine blk_far ?_ NB290_297.out _; (with_reducible repeat (first | refine blk_drewN ?_ _ | refine blk_drew ?_ | refine blk_alloc ?_ _)); refine blk_far ?_ NB290_297.out _; (with_reducible repeat (first | refine blk_drewN ?_ _ | refine blk_drew ?_ | refine blk_alloc ?_ _)); exact BK290.out) hb); have n1_ := Aside0.mk (blk_below (g := gb297) (o := .cells #[.string ((rd_T25 y292 x51_3).f0), .int .i64 ((rd_T25 y292 x51_3).f1), .int .i64 ((rd_T25 y292 x51_3).f2)] 25 (0, 0)) (by (with_reducible repeat (first | refine blk_drewN ?_ _ | refine blk_drew ?_ | refine blk_alloc ?_ _)); refine blk_put (cs := #[.string ((rd_T25 y292 x51_3).f0), .int .i64 ((rd_T25 y292 x51_3).f1), .int .i64 0]) ?_ 2 _ rfl; (with_reducible repeat (first | refine blk_drewN ?_ _ | refine blk_drew ?_ | refine blk_alloc ?_ _)); refine blk_put (cs := #[.string ((rd_T25 y292 x51_3).f0), .int .i64 0, .int .i64 0]) ?_ 1 _ rfl; (with_reducible repeat (first | refine blk_drewN ?_ _ | refine blk_drew ?_ | refine blk_alloc ?_ _)); refine blk_put (cs := #[.string (⟨#[]⟩ : ByteArray), .int .i64 0, .int .i64 0]) ?_ 0 _ rfl; (with_reducible repeat (first | refine blk_drewN ?_ _ | refine blk_drew ?_ | refine blk_alloc ?_ _)); exact BK297.out) hb); have n2_ := Aside0.mk (below_step (by repeat (first | (with_reducible first | exact HB.out | apply below_alloc | apply pw_below_drewN | apply below_drew1 | refine below_set ?_ GE290.out | refine below_set ?_ GE297.out) | exact HB.out)) hb); clear BK290; clear BK297; clear HB; have BK290 := n0_; have BK297 := n1_; have HB := n2_; clear n0_ n1_ n2_; (try clear hb); (try clear hb2); (try clear hk); (try clear hi)))
                                  go_ret
                                  exact ⟨by first | rfl | (simp [errW_none, errW_some] <;> rfl) | (simp [*, errW_none, errW_some] <;> rfl), by repeat (first | (with_reducible first | exact HB.out | apply below_alloc | apply pw_below_drewN | apply below_drew1 | refine below_set ?_ GE290.out | refine below_set ?_ GE297.out) | exact HB.out)⟩
                                · rw [if_neg c27] at H
                                  have c27b0 : (((rd_T25 l0 x21_1).f0).toList == ((rd_T25 y292 x51_3).f0).toList) = false := beq_eq_false_iff_ne.mpr c27
                                  have c27b1 : (((rd_T25 l0 x21_1).f0).toList != ((rd_T25 y292 x51_3).f0).toList) = true := bne_iff_ne.mpr c27
                                  have H' := Aside0.mk H
                                  clear H
                                  have p296 : 0 ≤ (x51_3 : Int) := of_decide_eq_true (by first | (with_reducible assumption) | assumption)
                                  have q296 : x51_3 < (y292.length : Int) := of_decide_eq_true (by first | (with_reducible assumption) | assumption)
                                  obtain ⟨ad296, e296, hx296_0, hx296_1, hx296_2⟩ := at_T25 HR295.out x51_3 p296 q296
                                  obtain rfl : ad289 = ad296 := (by injection e296)
                                  replace hx296_0 := (HB.out.cell (World.block_lt_of_cell? w _ hx296_0)).trans hx296_0
                                  replace hx296_1 := (HB.out.cell (World.block_lt_of_cell? w _ hx296_1)).trans hx296_1
                                  replace hx296_2 := (HB.out.cell (World.block_lt_of_cell? w _ hx296_2)).trans hx296_2
                                  replace p296 := eq_true p296
                                  replace q296 := eq_true q296
                                  go_wp2_with (first | ((with_reducible refine gate_dst (N := 14) rfl ?_); (try (refine gate_guard (by rfl) ?_; dsimp only)); refine box_event ?hg (N := 14) ?hd (cs := #[.string (⟨#[]⟩ : ByteArray), .int .i64 0, .int .i64 0]) (t := 25) ?hr ?_; (case hd => rfl); (case hg => rfl); (case hr => first | (go_simp; done) | (go_simp; rfl)); intro gb297 hg w34 hbox hb; have n0_ := Aside0.mk (blk_below (g := gb290) (o := .cells #[.string ((rd_T25 l0 x21_1).f0), .int .i64 ((rd_T25 l0 x21_1).f1), .int .i64 ((rd_T25 l0 x21_1).f2)] 25 (0, 0)) (by (with_reducible repeat (first | refine blk_drewN ?_ _ | refine blk_drew ?_ | refine blk_alloc ?_ _)); exact BK290.out) hb); have n1_ := Aside0.mk (below_step (by repeat (first | (with_reducible first | exact HB.out | apply below_alloc | apply pw_below_drewN | apply below_drew1 | refine below_set ?_ GE290.out) | exact HB.out)) hb); have n2_ := Aside0.mk (hbox); have n3_ := Aside0.mk ((by rw [hg]; exact (below_size (by repeat (first | (with_reducible first | exact HB.out | apply below_alloc | apply pw_below_drewN | apply below_drew1 | refine below_set ?_ GE290.out) | exact HB.out))) : w.heap.size ≤ gb297)); have n4_ := Aside0.mk ((by rw [hg]; exact (below_size (by repeat (first | (with_reducible first | exact HB.out | apply below_alloc | apply pw_below_drewN | apply below_drew1 | refine below_set ?_ GE290.out) | exact HB.out))) : w.heap.size ≤ gb297)); have n5_ := Aside0.mk ((by rw [hg]; exact Nat.ne_of_lt (blk_lt (g := gb290) (o := .cells #[.string ((rd_T25 l0 x21_1).f0), .int .i64 ((rd_T25 l0 x21_1).f1), .int .i64 ((rd_T25 l0 x21_1).f2)] 25 (0, 0)) (by (with_reducible repeat (first | refine blk_drewN ?_ _ | refine blk_drew ?_ | refine blk_alloc ?_ _)); exact BK290.out)) : gb290 ≠ gb297)); have n6_ := Aside0.mk ((by rw [hg]; exact Nat.ne_of_gt (blk_lt (g := gb290) (o := .cells #[.string ((rd_T25 l0 x21_1).f0), .int .i64 ((rd_T25 l0 x21_1).f1), .int .i64 ((rd_T25 l0 x21_1).f2)] 25 (0, 0)) (by (with_reducible repeat (first | refine blk_drewN ?_ _ | refine blk_drew ?_ | refine blk_alloc ?_ _)); exact BK290.out)) : gb297 ≠ gb290)); clear BK290; clear HB; have BK290 := n0_; have HB := n1_; have BK297 := n2_; have GW297 := n3_; have GE297 := n4_; have NB290_297 := n5_; have NB297_290 := n6_; clear n0_ n1_ n2_ n3_ n4_ n5_ n6_; clear hb hbox hg; have hnb35 := NB297_290.out; have hnc35 := NB290_297.out; have hcz36_0 : w34.cell? ⟨gb297, 0, none⟩ = some (.string (⟨#[]⟩ : ByteArray)) := (blk_cell BK297.out 0).trans rfl; have hcz36_1 : w34.cell? ⟨gb297, 1, none⟩ = some (.int .i64 0) := (blk_cell BK297.out 1).trans rfl; have hcz36_2 : w34.cell? ⟨gb297, 2, none⟩ = some (.int .i64 0) := (blk_cell BK297.out 2).trans rfl; have hfz36_0 := blk_frozen BK297.out 0; have hfz36_1 := blk_frozen BK297.out 1; have hfz36_2 := blk_frozen BK297.out 2; have hcz37_0 : w34.cell? ⟨gb290, 0, none⟩ = some (.string ((rd_T25 l0 x21_1).f0)) := (blk_cell BK290.out 0).trans rfl; have hcz37_1 : w34.cell? ⟨gb290, 1, none⟩ = some (.int .i64 ((rd_T25 l0 x21_1).f1)) := (blk_cell BK290.out 1).trans rfl; have hcz37_2 : w34.cell? ⟨gb290, 2, none⟩ = some (.int .i64 ((rd_T25 l0 x21_1).f2)) := (blk_cell BK290.out 2).trans rfl; have hfz37_0 := blk_frozen BK290.out 0; have hfz37_1 := blk_frozen BK290.out 1; have hfz37_2 := blk_frozen BK290.out 2))
                                  go_roundg k3
                                  case measure => have := HK1.out; have := HJ7.out; have := HK3.out; omega
                                  case rel => exact ⟨(wrap64 (x51_3 + 1)), (by first | rfl | (simp; done) | (simp [*]; done)), H', ⟨by have := HK1.out; have := HJ7.out; have := HK3.out; omega⟩, ⟨by (with_reducible repeat (first | refine blk_drewN ?_ _ | refine blk_drew ?_ | refine blk_alloc ?_ _)); refine blk_far ?_ NB290_297.out _; (with_reducible repeat (first | refine blk_drewN ?_ _ | refine blk_drew ?_ | refine blk_alloc ?_ _)); refine blk_far ?_ NB290_297.out _; (with_reducible repeat (first | refine blk_drewN ?_ _ | refine blk_drew ?_ | refine blk_alloc ?_ _)); refine blk_far ?_ NB290_297.out _; (with_reducible repeat (first | refine blk_drewN ?_ _ | refine blk_drew ?_ | refine blk_alloc ?_ _)); exact BK290.out⟩, ⟨by repeat (first | (with_reducible first | exact HB.out | apply below_alloc | apply pw_below_drewN | apply below_drew1 | refine below_set ?_ GE290.out | refine below_set ?_ GE297.out) | exact HB.out)⟩⟩
                              · rw [if_neg c26] at H
                                exact absurd H (by simp)
                            · rw [if_neg c25] at H
                              exact absurd H (by simp)
                          · rw [if_neg c24] at H
                            have c24b0 : decide (x51_3 < (y292.length : Int)) = false := decide_eq_false c24
                            clear c24
                            have H' := Aside0.mk H
                            clear H
                            go_wp2
                            go_roundg k3
                            case measure => have := HK1.out; have := HJ7.out; have := HK3.out; omega
                            case rel => exact ⟨(wrap64 (x21_1 + 1)), (by first | rfl | (simp; done) | (simp [*]; done)), H', ⟨by have := HK1.out; have := HJ7.out; have := HK3.out; omega⟩, ⟨by repeat (first | (with_reducible first | exact HB.out | apply below_alloc | apply pw_below_drewN | apply below_drew1 | refine below_set ?_ GE290.out) | exact HB.out)⟩⟩
                    · rw [if_neg c22] at H
                      exact absurd H (by simp)
                  · rw [if_neg c21] at H
                    exact absurd H (by simp)
          · rw [if_neg c7] at H
            exact absurd H (by simp)
        · rw [if_neg c6] at H
          exact absurd H (by simp)
      · rw [if_neg c5] at H
        have c5b0 : decide (x21_1 < (l0.length : Int)) = false := decide_eq_false c5
        clear c5
        have H' := Aside0.mk H
        clear H
        go_wp2
        go_loopg [9, 10, 65] k1 (fun kq v9 v10 v65 w' => ∃ (x9_2 : List (S25)) (x10_2 : List (S25)) (x65_2 : Int), v65 = .int .i64 x65_2 ∧ Aside0 (almanaclaw19_SpanOrder.l2 kq l0 a1 a2 a3 x9_2 x10_2 (l0.length : Int) x65_2 = some r) ∧ Aside0 (kq ≤ k1) ∧ Aside0 (Kd.R k25 25 w' w.heap.size (fun k_ => some k_ ≠ (v10 : Value).ownBlock) v9 x9_2) ∧ Aside0 (Kd.R k25 25 w' w.heap.size (fun k_ => some k_ ≠ (v9 : Value).ownBlock) v10 x10_2) ∧ Aside0 (Below w.heap.size w w'))
        case atStart => exact ⟨(([] : List (S25))), (([] : List (S25))), (0), (by first | rfl | (simp; done) | (simp [*]; done)), H', ⟨Nat.le_refl _⟩, ⟨by first | exact Kd.R_nil _ _ _ _ _ | exact Kd.N_nil _ _ _ _ _ | exact Kd.V_nil _ _ _ _ _ | exact Kd.Q_nil _ _ _ _ _ | exact Kd.S_nil _ _ _ _ _⟩, ⟨by first | exact Kd.R_nil _ _ _ _ _ | exact Kd.N_nil _ _ _ _ _ | exact Kd.V_nil _ _ _ _ _ | exact Kd.Q_nil _ _ _ _ _ | exact Kd.S_nil _ _ _ _ _⟩, ⟨by repeat (first | (with_reducible first | exact HB.out | apply below_alloc | apply pw_below_drewN | apply below_drew1) | exact HB.out)⟩⟩
        case round =>
          clear H'
          try clear c1
          try clear c2
          try clear p2
          try clear q2
          try clear hx2
          try clear c3
          try clear c5
          try clear c5b0
          try clear c6
          try clear c6b0
          try clear p6
          try clear c7
          try clear c7b0
          try clear c11
          try clear c11b0
          try clear c11b1
          try clear c13
          try clear c13b0
          try clear c13b1
          try clear c15
          try clear c15b0
          try clear c18
          try clear c21
          try clear c21b0
          try clear c21b1
          try clear c22
          try clear c22b0
          try clear c22b1
          try clear q23
          try clear c24
          try clear c24b0
          try clear c25
          try clear c25b0
          try clear c26
          try clear c26b0
          try clear c27
          try clear c27b0
          try clear c27b1
          try clear p28
          try clear q28
          try clear hx28
          try clear p29
          try clear q29
          try clear hx29
          try clear c30
          try clear c35
          try clear hcz10_0
          try clear hcz10_1
          try clear hcz10_2
          try clear hcz12_0
          try clear hcz12_1
          try clear hcz12_2
          try clear hcz14_0
          try clear hcz14_1
          try clear hcz14_2
          try clear hcz16_0
          try clear hcz16_1
          try clear hcz16_2
          try clear hcz17_0
          try clear hcz17_1
          try clear hcz17_2
          try clear hcz31_0
          try clear hcz31_1
          try clear hcz31_2
          try clear hcz32_0
          try clear hcz32_1
          try clear hcz32_2
          try clear hcz36_0
          try clear hcz36_1
          try clear hcz36_2
          try clear hcz37_0
          try clear hcz37_1
          try clear hcz37_2
          try clear hfz10_0
          try clear hfz10_1
          try clear hfz10_2
          try clear hfz12_0
          try clear hfz12_1
          try clear hfz12_2
          try clear hfz14_0
          try clear hfz14_1
          try clear hfz14_2
          try clear hfz16_0
          try clear hfz16_1
          try clear hfz16_2
          try clear hfz17_0
          try clear hfz17_1
          try clear hfz17_2
          try clear hfz31_0
          try clear hfz31_1
          try clear hfz31_2
          try clear hfz32_0
          try clear hfz32_1
          try clear hfz32_2
          try clear hfz36_0
          try clear hfz36_1
          try clear hfz36_2
          try clear hfz37_0
          try clear hfz37_1
          try clear hfz37_2
          try clear hx289_0
          try clear hx289_1
          try clear hx289_2
          try clear hx296_0
          try clear hx296_1
          try clear hx296_2
          try clear p2
          try clear p289
          try clear p296
          try clear q2
          try clear q23
          try clear q289
          try clear q296
          obtain ⟨x9_2, x10_2, x65_2, rfl, HA, HK2, HO_9, HO_10, HB⟩ := hrel
          cases gk with
          | zero => exact absurd HA.out (by simp [almanaclaw19_SpanOrder.l2])
          | succ k2 =>
            have H := HA.out
            clear HA
            simp only [almanaclaw19_SpanOrder.l2] at H
            by_cases c38 : x65_2 < (l0.length : Int)
            · rw [if_pos c38] at H
              have c38b0 : decide (x65_2 < (l0.length : Int)) = true := decide_eq_true c38
              clear c38
              by_cases c39 : 0 ≤ x65_2
              · rw [if_pos c39] at H
                have c39b0 : decide (0 ≤ x65_2) = true := decide_eq_true c39
                clear c39
                by_cases c40 : x65_2 < (l0.length : Int)
                · rw [if_pos c40] at H
                  have c40b0 : decide (x65_2 < (l0.length : Int)) = true := decide_eq_true c40
                  clear c40
                  replace H := Option.bind_eq_some_iff.mp H
                  obtain ⟨t300, A410, H⟩ := H
                  replace H : (if 0 ≤ (wrap64 ((wrap64 ((l0.length : Int) - 1)) - x65_2)) then (if (wrap64 ((wrap64 ((l0.length : Int) - 1)) - x65_2)) < (l0.length : Int) then ((span_Put.f x10_2 ((rd_T25 l0 (wrap64 ((wrap64 ((l0.length : Int) - 1)) - x65_2))).f0) ((rd_T25 l0 (wrap64 ((wrap64 ((l0.length : Int) - 1)) - x65_2))).f1) ((rd_T25 l0 (wrap64 ((wrap64 ((l0.length : Int) - 1)) - x65_2))).f2)).bind fun t304 => (almanaclaw19_SpanOrder.l2 k2 l0 a1 a2 a3 t300 t304 (l0.length : Int) (wrap64 (x65_2 + 1)))) else (none)) else (none)) = some r := H
                  have A41 := Aside0.mk A410
                  clear A410
                  obtain ⟨ji42, hji42⟩ : ∃ j_ : Int, (wrap64 ((wrap64 ((l0.length : Int) - 1)) - x65_2)) = j_ := ⟨_, rfl⟩
                  replace H : (if 0 ≤ (ji42) then (if (ji42) < (l0.length : Int) then ((span_Put.f x10_2 ((rd_T25 l0 (ji42)).f0) ((rd_T25 l0 (ji42)).f1) ((rd_T25 l0 (ji42)).f2)).bind fun t304 => (almanaclaw19_SpanOrder.l2 k2 l0 a1 a2 a3 t300 t304 (l0.length : Int) (wrap64 (x65_2 + 1)))) else (none)) else (none)) = some r := by first | (rw [hji42] at H; exact H) | (simp only [hji42] at H ⊢; exact H)
                  (try rw [hji42] at A41)
                  have hji42w : (IntKind.i64.wrap ((wrap64 ((l0.length : Int) - 1)) - x65_2)) = ji42 := (i64_w _).trans hji42
                  by_cases c43 : 0 ≤ (ji42)
                  · rw [if_pos c43] at H
                    have c43b0 : decide (0 ≤ (ji42)) = true := decide_eq_true c43
                    clear c43
                    by_cases c44 : (ji42) < (l0.length : Int)
                    · rw [if_pos c44] at H
                      have c44b0 : decide ((ji42) < (l0.length : Int)) = true := decide_eq_true c44
                      clear c44
                      replace H := Option.bind_eq_some_iff.mp H
                      obtain ⟨t304, A450, H⟩ := H
                      replace H : (almanaclaw19_SpanOrder.l2 k2 l0 a1 a2 a3 t300 t304 (l0.length : Int) (wrap64 (x65_2 + 1))) = some r := H
                      have A45 := Aside0.mk A450
                      clear A450
                      have H' := Aside0.mk H
                      clear H
                      try go_wp2
                      have n0_ := Aside0.mk (Kd.R_drew HO_9.out)
                      have n1_ := Aside0.mk (Kd.R_drew HO_10.out)
                      have n2_ := Aside0.mk (below_drew1 HB.out)
                      clear HO_9
                      clear HO_10
                      clear HB
                      have HO_9 := n0_
                      have HO_10 := n1_
                      have HB := n2_
                      clear n0_ n1_ n2_
                      have p299 : 0 ≤ (x65_2 : Int) := of_decide_eq_true (by first | (with_reducible assumption) | assumption)
                      have q299 : x65_2 < (l0.length : Int) := of_decide_eq_true (by first | (with_reducible assumption) | assumption)
                      obtain ⟨ad299, e299, hx299_0, hx299_1, hx299_2⟩ := at_T25 HR0.out x65_2 p299 q299
                      have hw299_2 := hx299_2
                      have hw299_1 := hx299_1
                      have hw299_0 := hx299_0
                      cases e299
                      replace hx299_0 := (HB.out.cell (World.block_lt_of_cell? w _ hx299_0)).trans hx299_0
                      replace hx299_1 := (HB.out.cell (World.block_lt_of_cell? w _ hx299_1)).trans hx299_1
                      replace hx299_2 := (HB.out.cell (World.block_lt_of_cell? w _ hx299_2)).trans hx299_2
                      replace p299 := eq_true p299
                      replace q299 := eq_true q299
                      have p303 : 0 ≤ ((ji42) : Int) := of_decide_eq_true (by first | (with_reducible assumption) | assumption)
                      have q303 : (ji42) < (l0.length : Int) := of_decide_eq_true (by first | (with_reducible assumption) | assumption)
                      obtain ⟨ad303, e303, hx303_0, hx303_1, hx303_2⟩ := at_T25 HR0.out (ji42) p303 q303
                      have hw303_2 := hx303_2
                      have hw303_1 := hx303_1
                      have hw303_0 := hx303_0
                      obtain rfl : ad299 = ad303 := (by injection e303)
                      replace hx303_0 := (HB.out.cell (World.block_lt_of_cell? w _ hx303_0)).trans hx303_0
                      replace hx303_1 := (HB.out.cell (World.block_lt_of_cell? w _ hx303_1)).trans hx303_1
                      replace hx303_2 := (HB.out.cell (World.block_lt_of_cell? w _ hx303_2)).trans hx303_2
                      replace p303 := eq_true p303
                      replace q303 := eq_true q303
                      obtain ⟨Ao47, co47, eo47⟩ := Kd.R_slice HO_9.out
                      (first | subst eo47 | (injection eo47 with f1_ f2_ f3_; have f4_ := f1_.symm; have f5_ := f3_.symm; clear f1_ f2_ f3_; subst f4_; subst f5_))
                      refine start_ (n := 18) (S := fun w' => w'.cell? (ad299.add ((x65_2).toNat * 3)) = some (.string ((rd_T25 l0 x65_2).f0)) ∧ w'.cell? ⟨(ad299.add ((x65_2).toNat * 3)).block, (ad299.add ((x65_2).toNat * 3)).off + 1, none⟩ = some (.int .i64 ((rd_T25 l0 x65_2).f1)) ∧ w'.cell? ⟨(ad299.add ((x65_2).toNat * 3)).block, (ad299.add ((x65_2).toNat * 3)).off + 2, none⟩ = some (.int .i64 ((rd_T25 l0 x65_2).f2)) ∧ w'.cell? (ad299.add (((ji42)).toNat * 3)) = some (.string ((rd_T25 l0 (ji42)).f0)) ∧ w'.cell? ⟨(ad299.add (((ji42)).toNat * 3)).block, (ad299.add (((ji42)).toNat * 3)).off + 1, none⟩ = some (.int .i64 ((rd_T25 l0 (ji42)).f1)) ∧ w'.cell? ⟨(ad299.add (((ji42)).toNat * 3)).block, (ad299.add (((ji42)).toNat * 3)).off + 2, none⟩ = some (.int .i64 ((rd_T25 l0 (ji42)).f2))) (ds := []) #[false, false, false, false, false, false, false, false, false, false, false, false, false, false, false, false, false, false] (by kernel_rfl) rfl rfl ⟨((HB.out.cell (World.block_lt_of_cell? w _ hw299_0)).trans hw299_0), ((HB.out.cell (World.block_lt_of_cell? w _ hw299_1)).trans hw299_1), ((HB.out.cell (World.block_lt_of_cell? w _ hw299_2)).trans hw299_2), ((HB.out.cell (World.block_lt_of_cell? w _ hw303_0)).trans hw303_0), ((HB.out.cell (World.block_lt_of_cell? w _ hw303_1)).trans hw303_1), ((HB.out.cell (World.block_lt_of_cell? w _ hw303_2)).trans hw303_2)⟩ (fun hHeld => ?_); refine with_tabW almanaclaw19_SpanOrder.tab17 almanaclaw19_SpanOrder.bits17 (fun HT_ HW_ => ?_)
                      generalize wr.drew = w46 at HO_9 HO_10 HB hx299_0 hx299_1 hx299_2 hx303_0 hx303_1 hx303_2 hHeld ⊢
                      refine pure_ (i := 0) (N := some 68) (v := ?_) (a' := ?_) #[true, false, false, false, false, false, false, false, false, false, false, false, false, false, false, false, false, false] rfl rfl (any_of HT_.out (by kernel_rfl)) (fun _ _ _ h => h) (Or.inl ⟨by rfl, ?_⟩) ?_ ?_
                      rotate_left
                      · intro w'
                        go_simp
                        with_reducible rfl
                      rotate_left
                      · simp only [Act.put, List.setIfInBounds_toArray, List.set_cons_zero, List.set_cons_succ, i64_w, i32_w]
                        rfl
                      refine pure_ (i := 1) (N := some 69) (v := ?_) (a' := ?_) #[true, true, false, false, false, false, false, false, false, false, false, false, false, false, false, false, false, false] rfl rfl (any_of HT_.out (by kernel_rfl)) (fun _ _ _ h => h) (Or.inl ⟨by rfl, ?_⟩) ?_ ?_
                      rotate_left
                      · intro w'
                        go_simp
                        with_reducible rfl
                      rotate_left
                      · simp only [Act.put, List.setIfInBounds_toArray, List.set_cons_zero, List.set_cons_succ, i64_w, i32_w]
                        rfl
                      refine pure_ (i := 2) (N := some 70) (v := ?_) (a' := ?_) #[true, true, true, false, false, false, false, false, false, false, false, false, false, false, false, false, false, false] rfl rfl (any_of HT_.out (by kernel_rfl)) (fun _ _ _ h => h) (Or.inl ⟨by rfl, ?_⟩) ?_ ?_
                      rotate_left
                      · intro w'
                        go_simp
                        with_reducible rfl
                      rotate_left
                      · simp only [Act.put, List.setIfInBounds_toArray, List.set_cons_zero, List.set_cons_succ, i64_w, i32_w]
                        rfl
                      refine pure_ (i := 3) (N := some 71) (v := ?_) (a' := ?_) #[true, true, true, true, false, false, false, false, false, false, false, false, false, false, false, false, false, false] rfl rfl (any_of HT_.out (by kernel_rfl)) (fun _ _ _ h => h) (Or.inl ⟨by rfl, ?_⟩) ?_ ?_
                      rotate_left
                      · intro w'
                        go_simp
                        with_reducible rfl
                      rotate_left
                      · simp only [Act.put, List.setIfInBounds_toArray, List.set_cons_zero, List.set_cons_succ, i64_w, i32_w]
                        rfl
                      refine pure_ (i := 6) (N := some 74) (v := ?_) (a' := ?_) #[true, true, true, true, false, false, true, false, false, false, false, false, false, false, false, false, false, false] rfl rfl (any_of HT_.out (by kernel_rfl)) (fun _ _ _ h => h) (Or.inl ⟨by rfl, ?_⟩) ?_ ?_
                      rotate_left
                      · intro w'
                        go_simp
                        with_reducible rfl
                      rotate_left
                      · simp only [Act.put, List.setIfInBounds_toArray, List.set_cons_zero, List.set_cons_succ, i64_w, i32_w]
                        rfl
                      refine pure_ (i := 7) (N := some 75) (v := ?_) (a' := ?_) #[true, true, true, true, false, false, true, true, false, false, false, false, false, false, false, false, false, false] rfl rfl (any_of HT_.out (by kernel_rfl)) (fun _ _ _ h => h) (Or.inl ⟨by rfl, ?_⟩) ?_ ?_
                      rotate_left
                      · intro w'
                        go_simp
                        with_reducible rfl
                      rotate_left
                      · simp only [Act.put, List.setIfInBounds_toArray, List.set_cons_zero, List.set_cons_succ, i64_w, i32_w]
                        rfl
                      refine pure_ (i := 8) (N := some 76) (v := ?_) (a' := ?_) #[true, true, true, true, false, false, true, true, true, false, false, false, false, false, false, false, false, false] rfl rfl (any_of HT_.out (by kernel_rfl)) (fun _ _ _ h => h) (Or.inl ⟨by rfl, ?_⟩) ?_ ?_
                      rotate_left
                      · intro w'
                        go_simp
                        with_reducible rfl
                      rotate_left
                      · simp only [Act.put, List.setIfInBounds_toArray, List.set_cons_zero, List.set_cons_succ, i64_w, i32_w]
                        rfl
                      refine pure_ (i := 9) (N := some 77) (v := ?_) (a' := ?_) #[true, true, true, true, false, false, true, true, true, true, false, false, false, false, false, false, false, false] rfl rfl (any_of HT_.out (by kernel_rfl)) (fun _ _ _ h => h) (Or.inl ⟨by rfl, ?_⟩) ?_ ?_
                      rotate_left
                      · intro w'
                        go_simp
                        with_reducible rfl
                      rotate_left
                      · simp only [Act.put, List.setIfInBounds_toArray, List.set_cons_zero, List.set_cons_succ, i64_w, i32_w]
                        rfl
                      refine pure_ (i := 10) (N := some 78) (v := ?_) (a' := ?_) #[true, true, true, true, false, false, true, true, true, true, true, false, false, false, false, false, false, false] rfl rfl (any_of HT_.out (by kernel_rfl)) (fun _ _ _ h => h) (Or.inl ⟨by rfl, ?_⟩) ?_ ?_
                      rotate_left
                      · intro w'
                        go_simp
                        with_reducible rfl
                      rotate_left
                      · simp only [Act.put, List.setIfInBounds_toArray, List.set_cons_zero, List.set_cons_succ, i64_w, i32_w]
                        rfl
                      refine pure_ (i := 11) (N := some 79) (v := ?_) (a' := ?_) #[true, true, true, true, false, false, true, true, true, true, true, true, false, false, false, false, false, false] rfl rfl (any_of HT_.out (by kernel_rfl)) (fun _ _ _ h => h) (Or.inl ⟨by rfl, ?_⟩) ?_ ?_
                      rotate_left
                      · intro w'
                        go_simp
                        with_reducible rfl
                      rotate_left
                      · simp only [Act.put, List.setIfInBounds_toArray, List.set_cons_zero, List.set_cons_succ, i64_w, i32_w]
                        rfl
                      refine pure_ (i := 12) (N := some 80) (v := ?_) (a' := ?_) #[true, true, true, true, false, false, true, true, true, true, true, true, true, false, false, false, false, false] rfl rfl (any_of HT_.out (by kernel_rfl)) (fun _ _ _ h => h) (Or.inl ⟨by rfl, ?_⟩) ?_ ?_
                      rotate_left
                      · intro w'
                        go_simp
                        with_reducible rfl
                      rotate_left
                      · simp only [Act.put, List.setIfInBounds_toArray, List.set_cons_zero, List.set_cons_succ, i64_w, i32_w]
                        rfl
                      refine pure_ (i := 13) (N := some 81) (v := ?_) (a' := ?_) #[true, true, true, true, false, false, true, true, true, true, true, true, true, true, false, false, false, false] rfl rfl (any_of HT_.out (by kernel_rfl)) (fun _ _ _ h => h) (Or.inl ⟨by rfl, ?_⟩) ?_ ?_
                      rotate_left
                      · intro w'
                        go_simp
                        with_reducible rfl
                      rotate_left
                      · simp only [Act.put, List.setIfInBounds_toArray, List.set_cons_zero, List.set_cons_succ, i64_w, i32_w]
                        rfl
                      refine take_ (i := 4) (N := some 72) (v := ?_) (a' := ?_) #[true, true, true, true, true, false, true, true, true, true, true, true, true, true, false, false, false, false] rfl rfl (take_ofW HT_.out HW_.out (by kernel_rfl)) (fun _ _ _ h => h) (Or.inl ⟨by rfl, ?_⟩) hHeld ?_ ?_
                      rotate_left
                      · rintro w' ⟨s0, s1, s2, s3, s4, s5⟩
                        go_simp
                        with_reducible rfl
                      rotate_left
                      · simp only [Act.put, List.setIfInBounds_toArray, List.set_cons_zero, List.set_cons_succ, i64_w, i32_w]
                        rfl
                      refine take_ (i := 14) (N := some 82) (v := ?_) (a' := ?_) #[true, true, true, true, true, false, true, true, true, true, true, true, true, true, true, false, false, false] rfl rfl (take_ofW HT_.out HW_.out (by kernel_rfl)) (fun _ _ _ h => h) (Or.inl ⟨by rfl, ?_⟩) hHeld ?_ ?_
                      rotate_left
                      · rintro w' ⟨s0, s1, s2, s3, s4, s5⟩
                        go_simp
                        with_reducible rfl
                      rotate_left
                      · simp only [Act.put, List.setIfInBounds_toArray, List.set_cons_zero, List.set_cons_succ, i64_w, i32_w]
                        rfl
                      refine one_ (i := 5) (N := some 73) #[true, true, true, true, true, true, true, true, true, true, true, true, true, true, true, false, false, false] rfl rfl (one_of HT_.out (by kernel_rfl)) (by decide) (fun K hK => ?_)
                      refine goes_ Try.func7 (by kernel_rfl) rfl #[.slice Ao47 x9_2.length co47, .agg #[.string ((rd_T25 l0 x65_2).f0), .int .i64 ((rd_T25 l0 x65_2).f1), .int .i64 ((rd_T25 l0 x65_2).f2)]] (by rfl) rfl rfl (by (try simp only [List.map_toArray, List.map_cons, List.map_nil]); first | done | rfl | (simp only [List.length_drop, List.length_take]; rfl)) ?_
                      with_reducible refine (span_Put.calls _ _ x9_2 ((rd_T25 l0 x65_2).f0) ((rd_T25 l0 x65_2).f1) ((rd_T25 l0 x65_2).f2) t300 _ ?side1 ?side2 A41.out).mono ?_
                      (case side1 => repeat (first | exact (Kd.R_reads' HO_9.out).2.2 | (with_reducible refine Kd.C_alloc ?_ _) | (with_reducible refine Kd.C_drewN ?_ _) | (with_reducible refine Kd.C_drew ?_)))
                      (case side2 => exact (Kd.R_reads' HO_9.out).2.1)
                      rintro e w48 ⟨v301, rfl, ho0, hb⟩
                      refine ⟨_, rfl, ?_⟩
                      have n0_ := Aside0.mk (Kd.R_elder' (by (with_reducible repeat (first | apply Kd.R_alloc | apply Kd.R_drewN | apply Kd.R_drew)); exact HO_9.out) (Kd.R_base ho0) hb)
                      have n1_ := Aside0.mk (Kd.R_elder' (by (with_reducible repeat (first | apply Kd.R_alloc | apply Kd.R_drewN | apply Kd.R_drew)); exact HO_10.out) (Kd.R_base ho0) hb)
                      have n2_ := Aside0.mk (Kd.R_lower (Kd.R_new' (Kd.R_new' ho0 (Kd.R_lt (by (with_reducible repeat (first | apply Kd.R_alloc | apply Kd.R_drewN | apply Kd.R_drew)); exact HO_9.out))) (Kd.R_lt (by (with_reducible repeat (first | apply Kd.R_alloc | apply Kd.R_drewN | apply Kd.R_drew)); exact HO_10.out))) (below_size (by repeat (first | (with_reducible first | exact HB.out | apply below_alloc | apply pw_below_drewN | apply below_drew1) | exact HB.out))))
                      have n3_ := Aside0.mk (below_step (by repeat (first | (with_reducible first | exact HB.out | apply below_alloc | apply pw_below_drewN | apply below_drew1) | exact HB.out)) hb)
                      clear HO_9
                      clear HO_10
                      clear HB
                      have HO_9 := n0_
                      have HO_10 := n1_
                      have HO302 := n2_
                      have HB := n3_
                      clear n0_ n1_ n2_ n3_
                      (try clear hb)
                      (try clear hb2)
                      (try clear hk)
                      (try clear hi)
                      (try clear ho0)
                      obtain ⟨Ao49, co49, eo49⟩ := Kd.R_slice HO_10.out
                      (first | subst eo49 | (injection eo49 with f1_ f2_ f3_; have f4_ := f1_.symm; have f5_ := f3_.symm; clear f1_ f2_ f3_; subst f4_; subst f5_))
                      refine hK.out _ _ ⟨((HB.out.cell (World.block_lt_of_cell? w _ hw299_0)).trans hw299_0), ((HB.out.cell (World.block_lt_of_cell? w _ hw299_1)).trans hw299_1), ((HB.out.cell (World.block_lt_of_cell? w _ hw299_2)).trans hw299_2), ((HB.out.cell (World.block_lt_of_cell? w _ hw303_0)).trans hw303_0), ((HB.out.cell (World.block_lt_of_cell? w _ hw303_1)).trans hw303_1), ((HB.out.cell (World.block_lt_of_cell? w _ hw303_2)).trans hw303_2)⟩ (fun hHeld => ?_)
                      clear hK K
                      refine norm_ (a' := ?_) ?_ ?_
                      rotate_left
                      · show Act.put _ (some 73) _ = _
                        simp only [Act.put, List.setIfInBounds_toArray, List.set_cons_zero, List.set_cons_succ, i64_w, i32_w]
                        rfl
                      refine one_ (i := 15) (N := some 83) #[true, true, true, true, true, true, true, true, true, true, true, true, true, true, true, true, false, false] rfl rfl (one_of HT_.out (by kernel_rfl)) (by decide) (fun K hK => ?_)
                      refine goes_ Try.func7 (by kernel_rfl) rfl #[.slice Ao49 x10_2.length co49, .agg #[.string ((rd_T25 l0 (ji42)).f0), .int .i64 ((rd_T25 l0 (ji42)).f1), .int .i64 ((rd_T25 l0 (ji42)).f2)]] (by rfl) rfl rfl (by (try simp only [List.map_toArray, List.map_cons, List.map_nil]); first | done | (simp only [hji42]; rfl) | rfl | (simp only [List.length_drop, List.length_take]; rfl)) ?_
                      with_reducible refine (span_Put.calls _ _ x10_2 ((rd_T25 l0 (ji42)).f0) ((rd_T25 l0 (ji42)).f1) ((rd_T25 l0 (ji42)).f2) t304 _ ?side1 ?side2 A45.out).mono ?_
                      (case side1 => repeat (first | exact (Kd.R_reads' HO_10.out).2.2 | (with_reducible refine Kd.C_alloc ?_ _) | (with_reducible refine Kd.C_drewN ?_ _) | (with_reducible refine Kd.C_drew ?_)))
                      (case side2 => exact (Kd.R_reads' HO_10.out).2.1)
                      rintro e w50 ⟨v305, rfl, ho0, hb⟩
                      refine ⟨_, rfl, ?_⟩
                      have n0_ := Aside0.mk (Kd.R_elder' (by (with_reducible repeat (first | apply Kd.R_alloc | apply Kd.R_drewN | apply Kd.R_drew)); exact HO_9.out) (Kd.R_base ho0) hb)
                      have n1_ := Aside0.mk (Kd.R_elder' (by (with_reducible repeat (first | apply Kd.R_alloc | apply Kd.R_drewN | apply Kd.R_drew)); exact HO_10.out) (Kd.R_base ho0) hb)
                      have n2_ := Aside0.mk (Kd.R_elder' (by (with_reducible repeat (first | apply Kd.R_alloc | apply Kd.R_drewN | apply Kd.R_drew)); exact HO302.out) (Kd.R_base ho0) hb)
                      have n3_ := Aside0.mk (Kd.R_lower (Kd.R_new' (Kd.R_new' (Kd.R_new' ho0 (Kd.R_lt (by (with_reducible repeat (first | apply Kd.R_alloc | apply Kd.R_drewN | apply Kd.R_drew)); exact HO_9.out))) (Kd.R_lt (by (with_reducible repeat (first | apply Kd.R_alloc | apply Kd.R_drewN | apply Kd.R_drew)); exact HO_10.out))) (Kd.R_lt (by (with_reducible repeat (first | apply Kd.R_alloc | apply Kd.R_drewN | apply Kd.R_drew)); exact HO302.out))) (below_size (by repeat (first | (with_reducible first | exact HB.out | apply below_alloc | apply pw_below_drewN | apply below_drew1) | exact HB.out))))
                      have n4_ := Aside0.mk (below_step (by repeat (first | (with_reducible first | exact HB.out | apply below_alloc | apply pw_below_drewN | apply below_drew1) | exact HB.out)) hb)
                      clear HO_9
                      clear HO_10
                      clear HO302
                      clear HB
                      have HO_9 := n0_
                      have HO_10 := n1_
                      have HO302 := n2_
                      have HO306 := n3_
                      have HB := n4_
                      clear n0_ n1_ n2_ n3_ n4_
                      (try clear hb)
                      (try clear hb2)
                      (try clear hk)
                      (try clear hi)
                      (try clear ho0)
                      refine hK.out _ _ ⟨((HB.out.cell (World.block_lt_of_cell? w _ hw299_0)).trans hw299_0), ((HB.out.cell (World.block_lt_of_cell? w _ hw299_1)).trans hw299_1), ((HB.out.cell (World.block_lt_of_cell? w _ hw299_2)).trans hw299_2), ((HB.out.cell (World.block_lt_of_cell? w _ hw303_0)).trans hw303_0), ((HB.out.cell (World.block_lt_of_cell? w _ hw303_1)).trans hw303_1), ((HB.out.cell (World.block_lt_of_cell? w _ hw303_2)).trans hw303_2)⟩ (fun hHeld => ?_)
                      clear hK K
                      refine norm_ (a' := ?_) ?_ ?_
                      rotate_left
                      · show Act.put _ (some 83) _ = _
                        simp only [Act.put, List.setIfInBounds_toArray, List.set_cons_zero, List.set_cons_succ, i64_w, i32_w]
                        rfl
                      refine pure_ (i := 16) (N := some 9) (v := ?_) (a' := ?_) #[true, true, true, true, true, true, true, true, true, true, true, true, true, true, true, true, true, false] rfl rfl (any_of HT_.out (by kernel_rfl)) (fun _ _ _ h => h) (Or.inl ⟨by rfl, ?_⟩) ?_ ?_
                      rotate_left
                      · intro w'
                        go_simp
                        with_reducible rfl
                      rotate_left
                      · simp only [Act.put, List.setIfInBounds_toArray, List.set_cons_zero, List.set_cons_succ, i64_w, i32_w]
                        rfl
                      refine pure_ (i := 17) (N := some 10) (v := ?_) (a' := ?_) #[true, true, true, true, true, true, true, true, true, true, true, true, true, true, true, true, true, true] rfl rfl (any_of HT_.out (by kernel_rfl)) (fun _ _ _ h => h) (Or.inl ⟨by rfl, ?_⟩) ?_ ?_
                      rotate_left
                      · intro w'
                        go_simp
                        with_reducible rfl
                      rotate_left
                      · simp only [Act.put, List.setIfInBounds_toArray, List.set_cons_zero, List.set_cons_succ, i64_w, i32_w]
                        rfl
                      refine done_ (done_of HT_.out (by kernel_rfl)) ?_
                      try go_wp2
                      go_roundg k2
                      case measure => have := HK1.out; have := HK2.out; omega
                      case rel => exact ⟨(t300), (t304), (wrap64 (x65_2 + 1)), (by first | rfl | (simp; done) | (simp [*]; done)), H', ⟨by have := HK1.out; have := HK2.out; omega⟩, ⟨by (with_reducible repeat (first | apply Kd.R_alloc | apply Kd.R_drewN | apply Kd.R_drew)); exact Kd.R_mono HO302.out (fun _ hk => hk.2)⟩, ⟨by (with_reducible repeat (first | apply Kd.R_alloc | apply Kd.R_drewN | apply Kd.R_drew)); exact Kd.R_mono HO306.out (fun _ hk => hk.2)⟩, ⟨by repeat (first | (with_reducible first | exact HB.out | apply below_alloc | apply pw_below_drewN | apply below_drew1) | exact HB.out)⟩⟩
                    · rw [if_neg c44] at H
                      exact absurd H (by simp)
                  · rw [if_neg c43] at H
                    exact absurd H (by simp)
                · rw [if_neg c40] at H
                  exact absurd H (by simp)
              · rw [if_neg c39] at H
                exact absurd H (by simp)
            · rw [if_neg c38] at H
              have c38b0 : decide (x65_2 < (l0.length : Int)) = false := decide_eq_false c38
              clear c38
              have HC51 := Aside0.mk H
              clear H
              go_upto_region 19 with (fail)
              go_cut [108] (fun v108 wc => ∃ (kq : Nat) (x108_50 : Bool), v108 = .bool x108_50 ∧ Aside0 (almanaclaw19_SpanOrder.j4 kq a1 a2 a3 x9_2 x108_50 = some r) ∧ Aside0 (kq ≤ k2) ∧ Aside0 (Kd.R k25 25 wc w.heap.size (fun _ => True) u9 x9_2) ∧ Aside0 (Below w.heap.size w wc))
              case first =>
                have H := HC51.out
                clear HC51
                replace H := Option.bind_eq_some_iff.mp H
                obtain ⟨t307, A520, H⟩ := H
                replace H : (if t307 = true then ((almanacref19_Same.f k2 x9_2 x10_2).bind fun t308 => (if t308 = true then (if (x9_2.length : Int) = (l0.length : Int) then (if a1 < (-4611686018427387904) then (almanaclaw19_SpanOrder.j4 k2 a1 a2 a3 x9_2 true) else (almanaclaw19_SpanOrder.j4 k2 a1 a2 a3 x9_2 (decide (a2 > 4611686018427387904)))) else (almanaclaw19_SpanOrder.j4 k2 a1 a2 a3 x9_2 true)) else (almanaclaw19_SpanOrder.j4 k2 a1 a2 a3 x9_2 true))) else (almanaclaw19_SpanOrder.j4 k2 a1 a2 a3 x9_2 true)) = some r := H
                have A52 := Aside0.mk A520
                clear A520
                by_cases c53 : t307 = true
                · subst c53
                  have H1 : ((almanacref19_Same.f k2 x9_2 x10_2).bind fun t308 => (if t308 = true then (if (x9_2.length : Int) = (l0.length : Int) then (if a1 < (-4611686018427387904) then (almanaclaw19_SpanOrder.j4 k2 a1 a2 a3 x9_2 true) else (almanaclaw19_SpanOrder.j4 k2 a1 a2 a3 x9_2 (decide (a2 > 4611686018427387904)))) else (almanaclaw19_SpanOrder.j4 k2 a1 a2 a3 x9_2 true)) else (almanaclaw19_SpanOrder.j4 k2 a1 a2 a3 x9_2 true))) = some r := by rw [if_pos rfl] at H; exact H
                  clear H
                  have H := H1
                  clear H1
                  replace H := Option.bind_eq_some_iff.mp H
                  obtain ⟨t308, A540, H⟩ := H
                  replace H : (if t308 = true then (if (x9_2.length : Int) = (l0.length : Int) then (if a1 < (-4611686018427387904) then (almanaclaw19_SpanOrder.j4 k2 a1 a2 a3 x9_2 true) else (almanaclaw19_SpanOrder.j4 k2 a1 a2 a3 x9_2 (decide (a2 > 4611686018427387904)))) else (almanaclaw19_SpanOrder.j4 k2 a1 a2 a3 x9_2 true)) else (almanaclaw19_SpanOrder.j4 k2 a1 a2 a3 x9_2 true)) = some r := H
                  have A54 := Aside0.mk A540
                  clear A540
                  by_cases c55 : t308 = true
                  · subst c55
                    have H1 : (if (x9_2.length : Int) = (l0.length : Int) then (if a1 < (-4611686018427387904) then (almanaclaw19_SpanOrder.j4 k2 a1 a2 a3 x9_2 true) else (almanaclaw19_SpanOrder.j4 k2 a1 a2 a3 x9_2 (decide (a2 > 4611686018427387904)))) else (almanaclaw19_SpanOrder.j4 k2 a1 a2 a3 x9_2 true)) = some r := by rw [if_pos rfl] at H; exact H
                    clear H
                    have H := H1
                    clear H1
                    by_cases c56 : (x9_2.length : Int) = (l0.length : Int)
                    · rw [if_pos c56] at H
                      have c56b0 : ((x9_2.length : Int) == (l0.length : Int)) = true := beq_iff_eq.mpr c56
                      have c56b1 : ((x9_2.length : Int) != (l0.length : Int)) = false := bne_eq_false_iff_eq.mpr c56
                      have c56b2 : (x9_2.length == l0.length) = true := by first | simpa using c56 | (simp at c56 ⊢; omega)
                      clear c56
                      (first | rw [c56b0] | (simp only [i64_w, i32_w]; rw [c56b0]) | skip)
                      by_cases c57 : a1 < (-4611686018427387904)
                      · rw [if_pos c57] at H
                        have c57b0 : decide (a1 < (-4611686018427387904)) = true := decide_eq_true c57
                        clear c57
                        have H' := Aside0.mk H
                        clear H
                        obtain ⟨Ao58, co58, eo58⟩ := Kd.R_slice HO_9.out
                        subst eo58
                        go_wp2_with (first | ((with_reducible refine gate_callee (f := 8) rfl ?_); refine goesL_ (some 86) rfl rfl Try.func8 (by kernel_rfl) rfl #[.slice Ao58 x9_2.length co58] rfl (by (try simp only [List.map_toArray, List.map_cons, List.map_nil]); first | done | rfl | (simp only [List.length_drop, List.length_take]; rfl)) ?_; (with_reducible refine (span_Fit.calls _ _ x9_2 true _ ?side1 ?side2 A52.out).mono ?_); (case side1 => repeat (first | exact (Kd.R_reads' HO_9.out).2.2 | (with_reducible refine Kd.C_alloc ?_ _) | (with_reducible refine Kd.C_drewN ?_ _) | (with_reducible refine Kd.C_drew ?_))); (case side2 => exact (Kd.R_reads' HO_9.out).2.1); rintro e w59 ⟨rfl, hb⟩; refine ⟨_, rfl, ?_⟩; have n0_ := Aside0.mk (Kd.R_below (by (with_reducible repeat (first | apply Kd.R_alloc | apply Kd.R_drewN | apply Kd.R_drew)); exact HO_9.out) hb); have n1_ := Aside0.mk (Kd.R_below (by (with_reducible repeat (first | apply Kd.R_alloc | apply Kd.R_drewN | apply Kd.R_drew)); exact HO_10.out) hb); have n2_ := Aside0.mk (below_step (by repeat (first | (with_reducible first | exact HB.out | apply below_alloc | apply pw_below_drewN | apply below_drew1) | exact HB.out)) hb); clear HO_9; clear HO_10; clear HB; have HO_9 := n0_; have HO_10 := n1_; have HB := n2_; clear n0_ n1_ n2_; (try clear hb); (try clear hb2); (try clear hk); (try clear hi); obtain ⟨Ao60, co60, eo60⟩ := Kd.R_slice HO_10.out; subst eo60) | (go_at_call 9; (with_reducible refine (almanacref19_Same.calls k2 _ _ x9_2 _ _ x10_2 true _ ?side1 ?side2 ?side3 ?side4 A54.out).mono ?_); (case side1 => repeat (first | exact (Kd.R_reads' HO_9.out).2.2 | (with_reducible refine Kd.C_alloc ?_ _) | (with_reducible refine Kd.C_drewN ?_ _) | (with_reducible refine Kd.C_drew ?_))); (case side2 => exact (Kd.R_reads' HO_9.out).2.1); (case side3 => repeat (first | exact (Kd.R_reads' HO_10.out).2.2 | (with_reducible refine Kd.C_alloc ?_ _) | (with_reducible refine Kd.C_drewN ?_ _) | (with_reducible refine Kd.C_drew ?_))); (case side4 => exact (Kd.R_reads' HO_10.out).2.1); rintro e w' ⟨rfl, ⟨nd, rfl⟩⟩))
                        go_meet
                        case rel => exact ⟨_, (true), (by first | rfl | (simp; done) | (simp [*]; done)), H', ⟨by have := HK1.out; have := HK2.out; first | omega | exact Nat.le_refl _⟩, ⟨by (with_reducible repeat (first | apply Kd.R_alloc | apply Kd.R_drewN | apply Kd.R_drew)); exact Kd.R_mono HO_9.out (fun _ hk => trivial)⟩, ⟨by repeat (first | (with_reducible first | exact HB.out | apply below_alloc | apply pw_below_drewN | apply below_drew1) | exact HB.out)⟩⟩
                      · rw [if_neg c57] at H
                        have c57b0 : decide (a1 < (-4611686018427387904)) = false := decide_eq_false c57
                        clear c57
                        have H' := Aside0.mk H
                        clear H
                        obtain ⟨Ao61, co61, eo61⟩ := Kd.R_slice HO_9.out
                        subst eo61
                        go_wp2_with (first | ((with_reducible refine gate_callee (f := 8) rfl ?_); refine goesL_ (some 86) rfl rfl Try.func8 (by kernel_rfl) rfl #[.slice Ao61 x9_2.length co61] rfl (by (try simp only [List.map_toArray, List.map_cons, List.map_nil]); first | done | rfl | (simp only [List.length_drop, List.length_take]; rfl)) ?_; (with_reducible refine (span_Fit.calls _ _ x9_2 true _ ?side1 ?side2 A52.out).mono ?_); (case side1 => repeat (first | exact (Kd.R_reads' HO_9.out).2.2 | (with_reducible refine Kd.C_alloc ?_ _) | (with_reducible refine Kd.C_drewN ?_ _) | (with_reducible refine Kd.C_drew ?_))); (case side2 => exact (Kd.R_reads' HO_9.out).2.1); rintro e w62 ⟨rfl, hb⟩; refine ⟨_, rfl, ?_⟩; have n0_ := Aside0.mk (Kd.R_below (by (with_reducible repeat (first | apply Kd.R_alloc | apply Kd.R_drewN | apply Kd.R_drew)); exact HO_9.out) hb); have n1_ := Aside0.mk (Kd.R_below (by (with_reducible repeat (first | apply Kd.R_alloc | apply Kd.R_drewN | apply Kd.R_drew)); exact HO_10.out) hb); have n2_ := Aside0.mk (below_step (by repeat (first | (with_reducible first | exact HB.out | apply below_alloc | apply pw_below_drewN | apply below_drew1) | exact HB.out)) hb); clear HO_9; clear HO_10; clear HB; have HO_9 := n0_; have HO_10 := n1_; have HB := n2_; clear n0_ n1_ n2_; (try clear hb); (try clear hb2); (try clear hk); (try clear hi); obtain ⟨Ao63, co63, eo63⟩ := Kd.R_slice HO_10.out; subst eo63) | (go_at_call 9; (with_reducible refine (almanacref19_Same.calls k2 _ _ x9_2 _ _ x10_2 true _ ?side1 ?side2 ?side3 ?side4 A54.out).mono ?_); (case side1 => repeat (first | exact (Kd.R_reads' HO_9.out).2.2 | (with_reducible refine Kd.C_alloc ?_ _) | (with_reducible refine Kd.C_drewN ?_ _) | (with_reducible refine Kd.C_drew ?_))); (case side2 => exact (Kd.R_reads' HO_9.out).2.1); (case side3 => repeat (first | exact (Kd.R_reads' HO_10.out).2.2 | (with_reducible refine Kd.C_alloc ?_ _) | (with_reducible refine Kd.C_drewN ?_ _) | (with_reducible refine Kd.C_drew ?_))); (case side4 => exact (Kd.R_reads' HO_10.out).2.1); rintro e w' ⟨rfl, ⟨nd, rfl⟩⟩))
                        go_meet
                        case rel => exact ⟨_, (decide (a2 > 4611686018427387904)), (by first | rfl | (simp; done) | (simp [*]; done)), H', ⟨by have := HK1.out; have := HK2.out; first | omega | exact Nat.le_refl _⟩, ⟨by (with_reducible repeat (first | apply Kd.R_alloc | apply Kd.R_drewN | apply Kd.R_drew)); exact Kd.R_mono HO_9.out (fun _ hk => trivial)⟩, ⟨by repeat (first | (with_reducible first | exact HB.out | apply below_alloc | apply pw_below_drewN | apply below_drew1) | exact HB.out)⟩⟩
                    · rw [if_neg c56] at H
                      have c56b0 : ((x9_2.length : Int) == (l0.length : Int)) = false := beq_eq_false_iff_ne.mpr c56
                      have c56b1 : ((x9_2.length : Int) != (l0.length : Int)) = true := bne_iff_ne.mpr c56
                      have c56b2 : (x9_2.length == l0.length) = false := by first | simpa using c56 | (simp at c56 ⊢; omega)
                      (first | rw [c56b0] | (simp only [i64_w, i32_w]; rw [c56b0]) | skip)
                      have H' := Aside0.mk H
                      clear H
                      obtain ⟨Ao64, co64, eo64⟩ := Kd.R_slice HO_9.out
                      subst eo64
                      go_wp2_with (first | ((with_reducible refine gate_callee (f := 8) rfl ?_); refine goesL_ (some 86) rfl rfl Try.func8 (by kernel_rfl) rfl #[.slice Ao64 x9_2.length co64] rfl (by (try simp only [List.map_toArray, List.map_cons, List.map_nil]); first | done | rfl | (simp only [List.length_drop, List.length_take]; rfl)) ?_; (with_reducible refine (span_Fit.calls _ _ x9_2 true _ ?side1 ?side2 A52.out).mono ?_); (case side1 => repeat (first | exact (Kd.R_reads' HO_9.out).2.2 | (with_reducible refine Kd.C_alloc ?_ _) | (with_reducible refine Kd.C_drewN ?_ _) | (with_reducible refine Kd.C_drew ?_))); (case side2 => exact (Kd.R_reads' HO_9.out).2.1); rintro e w65 ⟨rfl, hb⟩; refine ⟨_, rfl, ?_⟩; have n0_ := Aside0.mk (Kd.R_below (by (with_reducible repeat (first | apply Kd.R_alloc | apply Kd.R_drewN | apply Kd.R_drew)); exact HO_9.out) hb); have n1_ := Aside0.mk (Kd.R_below (by (with_reducible repeat (first | apply Kd.R_alloc | apply Kd.R_drewN | apply Kd.R_drew)); exact HO_10.out) hb); have n2_ := Aside0.mk (below_step (by repeat (first | (with_reducible first | exact HB.out | apply below_alloc | apply pw_below_drewN | apply below_drew1) | exact HB.out)) hb); clear HO_9; clear HO_10; clear HB; have HO_9 := n0_; have HO_10 := n1_; have HB := n2_; clear n0_ n1_ n2_; (try clear hb); (try clear hb2); (try clear hk); (try clear hi); obtain ⟨Ao66, co66, eo66⟩ := Kd.R_slice HO_10.out; subst eo66) | (go_at_call 9; (with_reducible refine (almanacref19_Same.calls k2 _ _ x9_2 _ _ x10_2 true _ ?side1 ?side2 ?side3 ?side4 A54.out).mono ?_); (case side1 => repeat (first | exact (Kd.R_reads' HO_9.out).2.2 | (with_reducible refine Kd.C_alloc ?_ _) | (with_reducible refine Kd.C_drewN ?_ _) | (with_reducible refine Kd.C_drew ?_))); (case side2 => exact (Kd.R_reads' HO_9.out).2.1); (case side3 => repeat (first | exact (Kd.R_reads' HO_10.out).2.2 | (with_reducible refine Kd.C_alloc ?_ _) | (with_reducible refine Kd.C_drewN ?_ _) | (with_reducible refine Kd.C_drew ?_))); (case side4 => exact (Kd.R_reads' HO_10.out).2.1); rintro e w' ⟨rfl, ⟨nd, rfl⟩⟩))
                      go_meet
                      case rel => exact ⟨_, (true), (by first | rfl | (simp; done) | (simp [*]; done)), H', ⟨by have := HK1.out; have := HK2.out; first | omega | exact Nat.le_refl _⟩, ⟨by (with_reducible repeat (first | apply Kd.R_alloc | apply Kd.R_drewN | apply Kd.R_drew)); exact Kd.R_mono HO_9.out (fun _ hk => trivial)⟩, ⟨by repeat (first | (with_reducible first | exact HB.out | apply below_alloc | apply pw_below_drewN | apply below_drew1) | exact HB.out)⟩⟩
                  · replace c55 := Bool.eq_false_iff.mpr c55
                    subst c55
                    have H1 : (almanaclaw19_SpanOrder.j4 k2 a1 a2 a3 x9_2 true) = some r := by rw [if_neg (show ¬ (false = true) by decide)] at H; exact H
                    clear H
                    have H := H1
                    clear H1
                    have H' := Aside0.mk H
                    clear H
                    obtain ⟨Ao67, co67, eo67⟩ := Kd.R_slice HO_9.out
                    subst eo67
                    go_wp2_with (first | ((with_reducible refine gate_callee (f := 8) rfl ?_); refine goesL_ (some 86) rfl rfl Try.func8 (by kernel_rfl) rfl #[.slice Ao67 x9_2.length co67] rfl (by (try simp only [List.map_toArray, List.map_cons, List.map_nil]); first | done | rfl | (simp only [List.length_drop, List.length_take]; rfl)) ?_; (with_reducible refine (span_Fit.calls _ _ x9_2 true _ ?side1 ?side2 A52.out).mono ?_); (case side1 => repeat (first | exact (Kd.R_reads' HO_9.out).2.2 | (with_reducible refine Kd.C_alloc ?_ _) | (with_reducible refine Kd.C_drewN ?_ _) | (with_reducible refine Kd.C_drew ?_))); (case side2 => exact (Kd.R_reads' HO_9.out).2.1); rintro e w68 ⟨rfl, hb⟩; refine ⟨_, rfl, ?_⟩; have n0_ := Aside0.mk (Kd.R_below (by (with_reducible repeat (first | apply Kd.R_alloc | apply Kd.R_drewN | apply Kd.R_drew)); exact HO_9.out) hb); have n1_ := Aside0.mk (Kd.R_below (by (with_reducible repeat (first | apply Kd.R_alloc | apply Kd.R_drewN | apply Kd.R_drew)); exact HO_10.out) hb); have n2_ := Aside0.mk (below_step (by repeat (first | (with_reducible first | exact HB.out | apply below_alloc | apply pw_below_drewN | apply below_drew1) | exact HB.out)) hb); clear HO_9; clear HO_10; clear HB; have HO_9 := n0_; have HO_10 := n1_; have HB := n2_; clear n0_ n1_ n2_; (try clear hb); (try clear hb2); (try clear hk); (try clear hi); obtain ⟨Ao69, co69, eo69⟩ := Kd.R_slice HO_10.out; subst eo69) | (go_at_call 9; (with_reducible refine (almanacref19_Same.calls k2 _ _ x9_2 _ _ x10_2 false _ ?side1 ?side2 ?side3 ?side4 A54.out).mono ?_); (case side1 => repeat (first | exact (Kd.R_reads' HO_9.out).2.2 | (with_reducible refine Kd.C_alloc ?_ _) | (with_reducible refine Kd.C_drewN ?_ _) | (with_reducible refine Kd.C_drew ?_))); (case side2 => exact (Kd.R_reads' HO_9.out).2.1); (case side3 => repeat (first | exact (Kd.R_reads' HO_10.out).2.2 | (with_reducible refine Kd.C_alloc ?_ _) | (with_reducible refine Kd.C_drewN ?_ _) | (with_reducible refine Kd.C_drew ?_))); (case side4 => exact (Kd.R_reads' HO_10.out).2.1); rintro e w' ⟨rfl, ⟨nd, rfl⟩⟩))
                    go_meet
                    case rel => exact ⟨_, (true), (by first | rfl | (simp; done) | (simp [*]; done)), H', ⟨by have := HK1.out; have := HK2.out; first | omega | exact Nat.le_refl _⟩, ⟨by (with_reducible repeat (first | apply Kd.R_alloc | apply Kd.R_drewN | apply Kd.R_drew)); exact Kd.R_mono HO_9.out (fun _ hk => trivial)⟩, ⟨by repeat (first | (with_reducible first | exact HB.out | apply below_alloc | apply pw_below_drewN | apply below_drew1) | exact HB.out)⟩⟩
                · replace c53 := Bool.eq_false_iff.mpr c53
                  subst c53
                  have H1 : (almanaclaw19_SpanOrder.j4 k2 a1 a2 a3 x9_2 true) = some r := by rw [if_neg (show ¬ (false = true) by decide)] at H; exact H
                  clear H
                  have H := H1
                  clear H1
                  have H' := Aside0.mk H
                  clear H
                  obtain ⟨Ao70, co70, eo70⟩ := Kd.R_slice HO_9.out
                  subst eo70
                  go_wp2_with (first | ((with_reducible refine gate_callee (f := 8) rfl ?_); refine goesL_ (some 86) rfl rfl Try.func8 (by kernel_rfl) rfl #[.slice Ao70 x9_2.length co70] rfl (by (try simp only [List.map_toArray, List.map_cons, List.map_nil]); first | done | rfl | (simp only [List.length_drop, List.length_take]; rfl)) ?_; (with_reducible refine (span_Fit.calls _ _ x9_2 false _ ?side1 ?side2 A52.out).mono ?_); (case side1 => repeat (first | exact (Kd.R_reads' HO_9.out).2.2 | (with_reducible refine Kd.C_alloc ?_ _) | (with_reducible refine Kd.C_drewN ?_ _) | (with_reducible refine Kd.C_drew ?_))); (case side2 => exact (Kd.R_reads' HO_9.out).2.1); rintro e w71 ⟨rfl, hb⟩; refine ⟨_, rfl, ?_⟩; have n0_ := Aside0.mk (Kd.R_below (by (with_reducible repeat (first | apply Kd.R_alloc | apply Kd.R_drewN | apply Kd.R_drew)); exact HO_9.out) hb); have n1_ := Aside0.mk (Kd.R_below (by (with_reducible repeat (first | apply Kd.R_alloc | apply Kd.R_drewN | apply Kd.R_drew)); exact HO_10.out) hb); have n2_ := Aside0.mk (below_step (by repeat (first | (with_reducible first | exact HB.out | apply below_alloc | apply pw_below_drewN | apply below_drew1) | exact HB.out)) hb); clear HO_9; clear HO_10; clear HB; have HO_9 := n0_; have HO_10 := n1_; have HB := n2_; clear n0_ n1_ n2_; (try clear hb); (try clear hb2); (try clear hk); (try clear hi)))
                  go_meet
                  case rel => exact ⟨_, (true), (by first | rfl | (simp; done) | (simp [*]; done)), H', ⟨by have := HK1.out; have := HK2.out; first | omega | exact Nat.le_refl _⟩, ⟨by (with_reducible repeat (first | apply Kd.R_alloc | apply Kd.R_drewN | apply Kd.R_drew)); exact Kd.R_mono HO_9.out (fun _ hk => trivial)⟩, ⟨by repeat (first | (with_reducible first | exact HB.out | apply below_alloc | apply pw_below_drewN | apply below_drew1) | exact HB.out)⟩⟩
              case rest =>
                clear HC51
                try clear c1
                try clear c2
                try clear p2
                try clear q2
                try clear hx2
                try clear c3
                try clear p3
                try clear q3
                try clear hx3
                try clear c4
                try clear c5
                try clear c5b0
                try clear c6
                try clear c6b0
                try clear p6
                try clear c7
                try clear c7b0
                try clear c8
                try clear c11
                try clear c11b0
                try clear c11b1
                try clear c13
                try clear c13b0
                try clear c13b1
                try clear c15
                try clear c15b0
                try clear c18
                try clear c21
                try clear c21b0
                try clear c21b1
                try clear c22
                try clear c22b0
                try clear c22b1
                try clear q23
                try clear c24
                try clear c24b0
                try clear c25
                try clear c25b0
                try clear c26
                try clear c26b0
                try clear c27
                try clear c27b0
                try clear c27b1
                try clear p28
                try clear q28
                try clear hx28
                try clear p29
                try clear q29
                try clear hx29
                try clear c30
                try clear p30
                try clear q30
                try clear hx30
                try clear c35
                try clear c38
                try clear c38b0
                try clear c39
                try clear c39b0
                try clear c40
                try clear c40b0
                try clear c43
                try clear c43b0
                try clear c44
                try clear c44b0
                try clear c53
                try clear c55
                try clear c56
                try clear c56b0
                try clear c56b1
                try clear c56b2
                try clear c57
                try clear c57b0
                try clear p64
                try clear hcz10_0
                try clear hcz10_1
                try clear hcz10_2
                try clear hcz12_0
                try clear hcz12_1
                try clear hcz12_2
                try clear hcz14_0
                try clear hcz14_1
                try clear hcz14_2
                try clear hcz16_0
                try clear hcz16_1
                try clear hcz16_2
                try clear hcz17_0
                try clear hcz17_1
                try clear hcz17_2
                try clear hcz31_0
                try clear hcz31_1
                try clear hcz31_2
                try clear hcz32_0
                try clear hcz32_1
                try clear hcz32_2
                try clear hcz36_0
                try clear hcz36_1
                try clear hcz36_2
                try clear hcz37_0
                try clear hcz37_1
                try clear hcz37_2
                try clear hfz10_0
                try clear hfz10_1
                try clear hfz10_2
                try clear hfz12_0
                try clear hfz12_1
                try clear hfz12_2
                try clear hfz14_0
                try clear hfz14_1
                try clear hfz14_2
                try clear hfz16_0
                try clear hfz16_1
                try clear hfz16_2
                try clear hfz17_0
                try clear hfz17_1
                try clear hfz17_2
                try clear hfz31_0
                try clear hfz31_1
                try clear hfz31_2
                try clear hfz32_0
                try clear hfz32_1
                try clear hfz32_2
                try clear hfz36_0
                try clear hfz36_1
                try clear hfz36_2
                try clear hfz37_0
                try clear hfz37_1
                try clear hfz37_2
                try clear hx289_0
                try clear hx289_1
                try clear hx289_2
                try clear hx296_0
                try clear hx296_1
                try clear hx296_2
                try clear hx299_0
                try clear hx299_1
                try clear hx299_2
                try clear hx303_0
                try clear hx303_1
                try clear hx303_2
                try clear p2
                try clear p28
                try clear p289
                try clear p29
                try clear p296
                try clear p299
                try clear p303
                try clear p6
                try clear q2
                try clear q23
                try clear q28
                try clear q289
                try clear q29
                try clear q296
                try clear q299
                try clear q303
                obtain ⟨kq, x108_50, rfl, HA, HJ50, HO_9, HB⟩ := hcut
                cases kq with
                | zero => exact absurd HA.out (by simp [almanaclaw19_SpanOrder.j4])
                | succ kj50 =>
                  have H := HA.out
                  clear HA
                  simp only [almanaclaw19_SpanOrder.j4] at H
                  by_cases c72 : x108_50 = true
                  · subst c72
                    have H1 : (if a1 < (-4611686018427387904) then ((almanaclaw19_awake.f kj50).bind fun t309 => (some t309)) else (if a2 > 4611686018427387904 then ((almanaclaw19_awake.f kj50).bind fun t310 => (some t310)) else (some false))) = some r := by rw [if_pos rfl] at H; exact H
                    clear H
                    have H := H1
                    clear H1
                    by_cases c73 : a1 < (-4611686018427387904)
                    · rw [if_pos c73] at H
                      have c73b0 : decide (a1 < (-4611686018427387904)) = true := decide_eq_true c73
                      clear c73
                      replace H := Option.bind_eq_some_iff.mp H
                      obtain ⟨t309, A740, H⟩ := H
                      replace H : (some t309) = some r := H
                      have A74 := Aside0.mk A740
                      clear A740
                      obtain rfl := Option.some.inj H
                      go_wp2_with (first | (go_at_call 6; (with_reducible refine (almanaclaw19_awake.calls kj50  t309 _ A74.out).mono ?_); rintro e w75 ⟨rfl, hb⟩; have n0_ := Aside0.mk (Kd.R_below (by (with_reducible repeat (first | apply Kd.R_alloc | apply Kd.R_drewN | apply Kd.R_drew)); exact HO_9.out) hb); have n1_ := Aside0.mk (below_step (by repeat (first | (with_reducible first | exact HB.out | apply below_alloc | apply pw_below_drewN | apply below_drew1) | exact HB.out)) hb); clear HO_9; clear HB; have HO_9 := n0_; have HB := n1_; clear n0_ n1_; (try clear hb); (try clear hb2); (try clear hk); (try clear hi)))
                      go_ret
                      exact ⟨by first | rfl | (simp [errW_none, errW_some] <;> rfl) | (simp [*, errW_none, errW_some] <;> rfl), by repeat (first | (with_reducible first | exact HB.out | apply below_alloc | apply pw_below_drewN | apply below_drew1) | exact HB.out)⟩
                    · rw [if_neg c73] at H
                      have c73b0 : decide (a1 < (-4611686018427387904)) = false := decide_eq_false c73
                      clear c73
                      by_cases c76 : a2 > 4611686018427387904
                      · rw [if_pos c76] at H
                        have c76b0 : decide (4611686018427387904 < a2) = true := decide_eq_true c76
                        clear c76
                        replace H := Option.bind_eq_some_iff.mp H
                        obtain ⟨t310, A770, H⟩ := H
                        replace H : (some t310) = some r := H
                        have A77 := Aside0.mk A770
                        clear A770
                        obtain rfl := Option.some.inj H
                        go_wp2_with (first | (go_at_call 6; (with_reducible refine (almanaclaw19_awake.calls kj50  t310 _ A77.out).mono ?_); rintro e w78 ⟨rfl, hb⟩; have n0_ := Aside0.mk (Kd.R_below (by (with_reducible repeat (first | apply Kd.R_alloc | apply Kd.R_drewN | apply Kd.R_drew)); exact HO_9.out) hb); have n1_ := Aside0.mk (below_step (by repeat (first | (with_reducible first | exact HB.out | apply below_alloc | apply pw_below_drewN | apply below_drew1) | exact HB.out)) hb); clear HO_9; clear HB; have HO_9 := n0_; have HB := n1_; clear n0_ n1_; (try clear hb); (try clear hb2); (try clear hk); (try clear hi)))
                        go_ret
                        exact ⟨by first | rfl | (simp [errW_none, errW_some] <;> rfl) | (simp [*, errW_none, errW_some] <;> rfl), by repeat (first | (with_reducible first | exact HB.out | apply below_alloc | apply pw_below_drewN | apply below_drew1) | exact HB.out)⟩
                      · rw [if_neg c76] at H
                        have c76b0 : decide (4611686018427387904 < a2) = false := decide_eq_false c76
                        clear c76
                        exact absurd ((Option.some.inj H).trans HRT.out) (by decide)
                  · replace c72 := Bool.eq_false_iff.mpr c72
                    subst c72
                    have H1 : ((span_Over.f x9_2 (wrap64 (a1 - (wrap64 (a3)))) (wrap64 (a2 + (wrap64 (a3))))).bind fun t311 => ((span_Over.f x9_2 a1 a2).bind fun t314 => (almanaclaw19_SpanOrder.l3 kj50 t311 t314 (t314.length : Int) 0))) = some r := by rw [if_neg (show ¬ (false = true) by decide)] at H; exact H
                    clear H
                    have H := H1
                    clear H1
                    replace H := Option.bind_eq_some_iff.mp H
                    obtain ⟨t311, A790, H⟩ := H
                    replace H : ((span_Over.f x9_2 a1 a2).bind fun t314 => (almanaclaw19_SpanOrder.l3 kj50 t311 t314 (t314.length : Int) 0)) = some r := H
                    have A79 := Aside0.mk A790
                    clear A790
                    replace H := Option.bind_eq_some_iff.mp H
                    obtain ⟨t314, A800, H⟩ := H
                    replace H : (almanaclaw19_SpanOrder.l3 kj50 t311 t314 (t314.length : Int) 0) = some r := H
                    have A80 := Aside0.mk A800
                    clear A800
                    have H' := Aside0.mk H
                    clear H
                    obtain ⟨Ao81, co81, eo81⟩ := Kd.R_slice HO_9.out
                    subst eo81
                    go_wp2_with (first | ((with_reducible refine gate_callee (f := 10) rfl ?_); refine goesL_ (some 127) rfl rfl Try.func10 (by kernel_rfl) rfl #[.slice Ao81 x9_2.length co81, .int .i64 (wrap64 (a1 - (wrap64 (a3)))), .int .i64 (wrap64 (a2 + (wrap64 (a3))))] rfl (by (try simp only [List.map_toArray, List.map_cons, List.map_nil]); first | done | rfl | (simp only [List.length_drop, List.length_take]; rfl)) ?_; (with_reducible refine (span_Over.calls _ _ x9_2 (wrap64 (a1 - (wrap64 (a3)))) (wrap64 (a2 + (wrap64 (a3)))) t311 _ ?side1 ?side2 A79.out).mono ?_); (case side1 => repeat (first | exact (Kd.R_reads' HO_9.out).2.2 | (with_reducible refine Kd.C_alloc ?_ _) | (with_reducible refine Kd.C_drewN ?_ _) | (with_reducible refine Kd.C_drew ?_))); (case side2 => exact (Kd.R_reads' HO_9.out).2.1); rintro e w82 ⟨v312, rfl, ho0, hb⟩; refine ⟨_, rfl, ?_⟩; have n0_ := Aside0.mk (Kd.R_below (by (with_reducible repeat (first | apply Kd.R_alloc | apply Kd.R_drewN | apply Kd.R_drew)); exact HO_9.out) hb); have n1_ := Aside0.mk (Kd.R_lower ho0 (below_size (by repeat (first | (with_reducible first | exact HB.out | apply below_alloc | apply pw_below_drewN | apply below_drew1) | exact HB.out)))); have n2_ := Aside0.mk (below_step (by repeat (first | (with_reducible first | exact HB.out | apply below_alloc | apply pw_below_drewN | apply below_drew1) | exact HB.out)) hb); clear HO_9; clear HB; have HO_9 := n0_; have HO313 := n1_; have HB := n2_; clear n0_ n1_ n2_; (try clear hb); (try clear hb2); (try clear hk); (try clear hi); (try clear ho0)) | ((with_reducible refine gate_callee (f := 10) rfl ?_); refine goesL_ (some 131) rfl rfl Try.func10 (by kernel_rfl) rfl #[.slice Ao81 x9_2.length co81, .int .i64 a1, .int .i64 a2] rfl (by (try simp only [List.map_toArray, List.map_cons, List.map_nil]); first | done | rfl | (simp only [List.length_drop, List.length_take]; rfl)) ?_; (with_reducible refine (span_Over.calls _ _ x9_2 a1 a2 t314 _ ?side1 ?side2 A80.out).mono ?_); (case side1 => repeat (first | exact (Kd.R_reads' HO_9.out).2.2 | (with_reducible refine Kd.C_alloc ?_ _) | (with_reducible refine Kd.C_drewN ?_ _) | (with_reducible refine Kd.C_drew ?_))); (case side2 => exact (Kd.R_reads' HO_9.out).2.1); rintro e w83 ⟨v315, rfl, ho0, hb⟩; refine ⟨_, rfl, ?_⟩; have n0_ := Aside0.mk (Kd.R_below (by (with_reducible repeat (first | apply Kd.R_alloc | apply Kd.R_drewN | apply Kd.R_drew)); exact HO_9.out) hb); have n1_ := Aside0.mk (Kd.R_elder' (by (with_reducible repeat (first | apply Kd.R_alloc | apply Kd.R_drewN | apply Kd.R_drew)); exact HO313.out) (Kd.R_base ho0) hb); have n2_ := Aside0.mk (Kd.R_lower (Kd.R_new' ho0 (Kd.R_lt (by (with_reducible repeat (first | apply Kd.R_alloc | apply Kd.R_drewN | apply Kd.R_drew)); exact HO313.out))) (below_size (by repeat (first | (with_reducible first | exact HB.out | apply below_alloc | apply pw_below_drewN | apply below_drew1) | exact HB.out)))); have n3_ := Aside0.mk (below_step (by repeat (first | (with_reducible first | exact HB.out | apply below_alloc | apply pw_below_drewN | apply below_drew1) | exact HB.out)) hb); clear HO_9; clear HO313; clear HB; have HO_9 := n0_; have HO313 := n1_; have HO316 := n2_; have HB := n3_; clear n0_ n1_ n2_ n3_; (try clear hb); (try clear hb2); (try clear hk); (try clear hi); (try clear ho0); obtain ⟨Ao84, co84, eo84⟩ := Kd.R_slice HO316.out; subst eo84))
                    go_loopg [133] kj50 (fun kq v133 w' => ∃ (x133_4 : Int), v133 = .int .i64 x133_4 ∧ Aside0 (almanaclaw19_SpanOrder.l3 kq t311 t314 (t314.length : Int) x133_4 = some r) ∧ Aside0 (kq ≤ kj50) ∧ Aside0 (Kd.R Kd.string 9 w' w.heap.size (fun k_ => some k_ ≠ ((.slice Ao84 t314.length co84) : Value).ownBlock) v312 t311) ∧ Aside0 (Kd.R Kd.string 9 w' w.heap.size (fun k_ => some k_ ≠ (v312 : Value).ownBlock) (.slice Ao84 t314.length co84) t314) ∧ Aside0 (Below w.heap.size w w'))
                    case atStart => exact ⟨(0), (by first | rfl | (simp; done) | (simp [*]; done)), H', ⟨Nat.le_refl _⟩, ⟨by (with_reducible repeat (first | apply Kd.R_alloc | apply Kd.R_drewN | apply Kd.R_drew)); exact Kd.R_mono HO313.out (fun _ hk => hk.2)⟩, ⟨by (with_reducible repeat (first | apply Kd.R_alloc | apply Kd.R_drewN | apply Kd.R_drew)); exact Kd.R_mono HO316.out (fun _ hk => hk.2)⟩, ⟨by repeat (first | (with_reducible first | exact HB.out | apply below_alloc | apply pw_below_drewN | apply below_drew1) | exact HB.out)⟩⟩
                    case round =>
                      clear H'
                      try clear c1
                      try clear c2
                      try clear p2
                      try clear q2
                      try clear hx2
                      try clear c3
                      try clear p3
                      try clear q3
                      try clear hx3
                      try clear c4
                      try clear c5
                      try clear c5b0
                      try clear c6
                      try clear c6b0
                      try clear p6
                      try clear c7
                      try clear c7b0
                      try clear c8
                      try clear c10
                      try clear c11
                      try clear c11b0
                      try clear c11b1
                      try clear c13
                      try clear c13b0
                      try clear c13b1
                      try clear c15
                      try clear c15b0
                      try clear c18
                      try clear c21
                      try clear c21b0
                      try clear c21b1
                      try clear c22
                      try clear c22b0
                      try clear c22b1
                      try clear q23
                      try clear c24
                      try clear c24b0
                      try clear c25
                      try clear c25b0
                      try clear c26
                      try clear c26b0
                      try clear c27
                      try clear c27b0
                      try clear c27b1
                      try clear p28
                      try clear q28
                      try clear hx28
                      try clear p29
                      try clear q29
                      try clear hx29
                      try clear c30
                      try clear p30
                      try clear q30
                      try clear hx30
                      try clear c35
                      try clear c38
                      try clear c38b0
                      try clear c39
                      try clear c39b0
                      try clear c40
                      try clear c40b0
                      try clear c43
                      try clear c43b0
                      try clear c44
                      try clear c44b0
                      try clear c53
                      try clear c55
                      try clear c56
                      try clear c56b0
                      try clear c56b1
                      try clear c56b2
                      try clear c57
                      try clear c57b0
                      try clear p64
                      try clear c72
                      try clear c73
                      try clear c73b0
                      try clear c76
                      try clear c76b0
                      try clear hcz10_0
                      try clear hcz10_1
                      try clear hcz10_2
                      try clear hcz12_0
                      try clear hcz12_1
                      try clear hcz12_2
                      try clear hcz14_0
                      try clear hcz14_1
                      try clear hcz14_2
                      try clear hcz16_0
                      try clear hcz16_1
                      try clear hcz16_2
                      try clear hcz17_0
                      try clear hcz17_1
                      try clear hcz17_2
                      try clear hcz31_0
                      try clear hcz31_1
                      try clear hcz31_2
                      try clear hcz32_0
                      try clear hcz32_1
                      try clear hcz32_2
                      try clear hcz36_0
                      try clear hcz36_1
                      try clear hcz36_2
                      try clear hcz37_0
                      try clear hcz37_1
                      try clear hcz37_2
                      try clear hfz10_0
                      try clear hfz10_1
                      try clear hfz10_2
                      try clear hfz12_0
                      try clear hfz12_1
                      try clear hfz12_2
                      try clear hfz14_0
                      try clear hfz14_1
                      try clear hfz14_2
                      try clear hfz16_0
                      try clear hfz16_1
                      try clear hfz16_2
                      try clear hfz17_0
                      try clear hfz17_1
                      try clear hfz17_2
                      try clear hfz31_0
                      try clear hfz31_1
                      try clear hfz31_2
                      try clear hfz32_0
                      try clear hfz32_1
                      try clear hfz32_2
                      try clear hfz36_0
                      try clear hfz36_1
                      try clear hfz36_2
                      try clear hfz37_0
                      try clear hfz37_1
                      try clear hfz37_2
                      try clear hx289_0
                      try clear hx289_1
                      try clear hx289_2
                      try clear hx296_0
                      try clear hx296_1
                      try clear hx296_2
                      try clear hx299_0
                      try clear hx299_1
                      try clear hx299_2
                      try clear hx303_0
                      try clear hx303_1
                      try clear hx303_2
                      try clear p2
                      try clear p28
                      try clear p289
                      try clear p29
                      try clear p296
                      try clear p299
                      try clear p3
                      try clear p30
                      try clear p303
                      try clear p6
                      try clear p64
                      try clear q2
                      try clear q23
                      try clear q28
                      try clear q289
                      try clear q29
                      try clear q296
                      try clear q299
                      try clear q3
                      try clear q30
                      try clear q303
                      obtain ⟨x133_4, rfl, HA, HK4, HO_16, HO_131, HB⟩ := hrel
                      cases gk with
                      | zero => exact absurd HA.out (by simp [almanaclaw19_SpanOrder.l3])
                      | succ k4 =>
                        have H := HA.out
                        clear HA
                        simp only [almanaclaw19_SpanOrder.l3] at H
                        by_cases c85 : x133_4 < (t314.length : Int)
                        · rw [if_pos c85] at H
                          have c85b0 : decide (x133_4 < (t314.length : Int)) = true := decide_eq_true c85
                          clear c85
                          by_cases c86 : 0 ≤ x133_4
                          · rw [if_pos c86] at H
                            have c86b0 : decide (0 ≤ x133_4) = true := decide_eq_true c86
                            clear c86
                            by_cases c87 : x133_4 < (t314.length : Int)
                            · rw [if_pos c87] at H
                              have c87b0 : decide (x133_4 < (t314.length : Int)) = true := decide_eq_true c87
                              clear c87
                              replace H := Option.bind_eq_some_iff.mp H
                              obtain ⟨t318, A880, H⟩ := H
                              replace H : (if t318 = true then (almanaclaw19_SpanOrder.l3 k4 t311 t314 (t314.length : Int) (wrap64 (x133_4 + 1))) else (some false)) = some r := H
                              have A88 := Aside0.mk A880
                              clear A880
                              by_cases c89 : t318 = true
                              · subst c89
                                have H1 : (almanaclaw19_SpanOrder.l3 k4 t311 t314 (t314.length : Int) (wrap64 (x133_4 + 1))) = some r := by rw [if_pos rfl] at H; exact H
                                clear H
                                have H := H1
                                clear H1
                                have H' := Aside0.mk H
                                clear H
                                have p317 : 0 ≤ (x133_4 : Int) := of_decide_eq_true (by first | (with_reducible assumption) | assumption)
                                have q317 : x133_4 < (t314.length : Int) := of_decide_eq_true (by first | (with_reducible assumption) | assumption)
                                obtain ⟨ad317, e317, hx317_0⟩ := Kd.at_string (Kd.R_reads' HO_131.out).2.2 x133_4 p317 q317
                                cases e317
                                replace p317 := eq_true p317
                                replace q317 := eq_true q317
                                obtain ⟨Ao90, co90, eo90⟩ := Kd.R_slice HO_16.out
                                subst eo90
                                go_wp2_with (first | ((with_reducible refine gate_callee (f := 11) rfl ?_); refine goesL_ (some 139) rfl rfl Try.func11 (by kernel_rfl) rfl #[.slice Ao90 t311.length co90, .string (rdOf ByteArray.empty t314 x133_4)] rfl (by (try simp only [List.map_toArray, List.map_cons, List.map_nil]); first | done | rfl | (simp only [List.length_drop, List.length_take]; rfl)) ?_; (with_reducible refine (almanacref08_Has.calls k4 _ _ t311 (rdOf ByteArray.empty t314 x133_4) true _ ?side1 ?side2 A88.out).mono ?_); (case side1 => repeat (first | exact (Kd.R_reads' HO_16.out).2.2 | (with_reducible refine Kd.C_alloc ?_ _) | (with_reducible refine Kd.C_drewN ?_ _) | (with_reducible refine Kd.C_drew ?_))); (case side2 => exact (Kd.R_reads' HO_16.out).2.1); rintro e w' ⟨rfl, ⟨nd, rfl⟩⟩; refine ⟨_, rfl, ?_⟩))
                                go_roundg k4
                                case measure => have := HK1.out; have := HK2.out; have := HJ50.out; have := HK4.out; omega
                                case rel => exact ⟨(wrap64 (x133_4 + 1)), (by first | rfl | (simp; done) | (simp [*]; done)), H', ⟨by have := HK1.out; have := HK2.out; have := HJ50.out; have := HK4.out; omega⟩, ⟨by (with_reducible repeat (first | apply Kd.R_alloc | apply Kd.R_drewN | apply Kd.R_drew)); exact HO_16.out⟩, ⟨by (with_reducible repeat (first | apply Kd.R_alloc | apply Kd.R_drewN | apply Kd.R_drew)); exact HO_131.out⟩, ⟨by repeat (first | (with_reducible first | exact HB.out | apply below_alloc | apply pw_below_drewN | apply below_drew1) | exact HB.out)⟩⟩
                              · replace c89 := Bool.eq_false_iff.mpr c89
                                subst c89
                                have H1 : (some false) = some r := by rw [if_neg (show ¬ (false = true) by decide)] at H; exact H
                                clear H
                                have H := H1
                                clear H1
                                exact absurd ((Option.some.inj H).trans HRT.out) (by decide)
                            · rw [if_neg c87] at H
                              exact absurd H (by simp)
                          · rw [if_neg c86] at H
                            exact absurd H (by simp)
                        · rw [if_neg c85] at H
                          have c85b0 : decide (x133_4 < (t314.length : Int)) = false := decide_eq_false c85
                          clear c85
                          replace H := Option.bind_eq_some_iff.mp H
                          obtain ⟨t319, A910, H⟩ := H
                          replace H : (some t319) = some r := H
                          have A91 := Aside0.mk A910
                          clear A910
                          obtain rfl := Option.some.inj H
                          go_wp2_with (first | ((with_reducible refine gate_callee (f := 6) rfl ?_); refine goesL_ (some 142) rfl rfl Try.func6 (by kernel_rfl) rfl #[] rfl (by (try simp only [List.map_toArray, List.map_cons, List.map_nil]); first | done | rfl | (simp only [List.length_drop, List.length_take]; rfl)) ?_; (with_reducible refine (almanaclaw19_awake.calls k4  t319 _ A91.out).mono ?_); rintro e w92 ⟨rfl, hb⟩; refine ⟨_, rfl, ?_⟩; have n0_ := Aside0.mk (Kd.R_below (by (with_reducible repeat (first | apply Kd.R_alloc | apply Kd.R_drewN | apply Kd.R_drew)); exact HO_16.out) hb); have n1_ := Aside0.mk (Kd.R_below (by (with_reducible repeat (first | apply Kd.R_alloc | apply Kd.R_drewN | apply Kd.R_drew)); exact HO_131.out) hb); have n2_ := Aside0.mk (below_step (by repeat (first | (with_reducible first | exact HB.out | apply below_alloc | apply pw_below_drewN | apply below_drew1) | exact HB.out)) hb); clear HO_16; clear HO_131; clear HB; have HO_16 := n0_; have HO_131 := n1_; have HB := n2_; clear n0_ n1_ n2_; (try clear hb); (try clear hb2); (try clear hk); (try clear hi)))
                          go_ret
                          exact ⟨by first | rfl | (simp [errW_none, errW_some] <;> rfl) | (simp [*, errW_none, errW_some] <;> rfl), by repeat (first | (with_reducible first | exact HB.out | apply below_alloc | apply pw_below_drewN | apply below_drew1) | exact HB.out)⟩

end Go.Proofs.Ythcoiabgemclbaa.PD
/- The law SpanOrder, in plain words. -/
namespace Go.Proofs.Ythcoiabgemclbaa.PD
open Go.RowKit Go.Proofs.YthcoiabgemclbaaW.PrintWords Go.Proofs.YthcoiabgemclbaaW.PrintLast Go.Proofs.YthcoiabgemclbaaW.PrintMore
set_option linter.unusedVariables false
set_option linter.unusedSimpArgs false
theorem awake_ev' : Ev (fun k => almanaclaw19_awake.f k) true := Ev.of (fun k => almanaclaw19_awake.mono k) awake_val
theorem awake_end' : Ev (fun k => (almanaclaw19_awake.f k).bind fun t => some t) true := Ev.bind awake_ev' (Ev.now _)
/-- A span that can be in an index. -/
def goodS (x : S25) : Prop := x.f0.toList ≠ [] ∧ x.f0.size ≤ 24 ∧ x.f1 ≤ x.f2
theorem fit_iff (l : List S25) : fitB l = true ↔ (l.Pairwise (fun a b => ltS a b = true) ∧ l.Pairwise (fun a b => a.f0 ≠ b.f0) ∧ (∀ x ∈ l, goodS x) ∧ l.length ≤ 32) := by
  constructor
  · intro h
    refine ⟨fit_sorted h, ?_, ?_, fit_len h⟩
    · rw [List.pairwise_iff_getElem]
      intro i j hi hj hij e
      have h1 := fit_at h j hj
      rw [okAt_eq hj] at h1
      simp only [Bool.and_eq_true] at h1
      have h2 : (l.take j).any (fun y => sameN y.f0 l[j].f0) = false := by simpa using h1.1.1.1.1
      have h3 : l[i] ∈ l.take j := by
        rw [List.mem_take_iff_getElem]
        exact ⟨i, by omega, rfl⟩
      have h4 := List.any_eq_false.1 h2 _ h3
      rw [sameN_eq] at h4
      simp [e] at h4
    · intro x hx
      obtain ⟨i, hi, rfl⟩ := List.getElem_of_mem hx
      have h1 := fit_at h i hi
      rw [okAt_eq hi] at h1
      simp only [Bool.and_eq_true, decide_eq_true_eq] at h1
      exact ⟨by have := h1.1.1.1.2; simpa using this, h1.1.1.2, h1.1.2⟩
  · rintro ⟨h1, h2, h3, h4⟩
    rw [fit_of_all (fun i hi => ?_)]
    · simpa using h4
    rw [okAt_eq hi]
    obtain ⟨g1, g2, g3⟩ := h3 l[i] (List.getElem_mem hi)
    have e1 : (l.take i).any (fun y => sameN y.f0 l[i].f0) = false := by
      rw [List.any_eq_false]
      intro y hy
      rw [List.mem_take_iff_getElem] at hy
      obtain ⟨j, hj, rfl⟩ := hy
      rw [List.pairwise_iff_getElem] at h2
      have := h2 j i (by omega) hi (by omega)
      rw [sameN_eq]
      simpa using this
    have e2 : (l[i].f0.toList == []) = false := beq_eq_false_iff_ne.2 g1
    rw [e1, e2, decide_eq_true g2, decide_eq_true g3]
    by_cases h0 : i = 0
    · rw [decide_eq_true h0]; rfl
    · rw [List.pairwise_iff_getElem] at h1
      have := h1 (i - 1) i (by omega) hi (by omega)
      rw [show ((i : Int) - 1) = ((i - 1 : Nat) : Int) by omega, rd_at (by omega), this]
      simp
theorem drop_id {l : List S25} {n : ByteArray} (h : ∀ y ∈ l, y.f0 ≠ n) : dropL l n = l := by
  unfold dropL
  rw [List.filter_eq_self]
  intro y hy
  rw [sameN_eq]
  simpa using h y hy
/-- A good span of a new name goes in. -/
theorem put_new {l : List S25} {x : S25} (h : fitB l = true) (hx : goodS x) (hn : ∀ y ∈ l, y.f0 ≠ x.f0) (hl : l.length < 32) : putL l x = insL x l ∧ fitB (insL x l) = true := by
  have hf : fitB (insL x l) = true := by
    rw [fit_iff] at h ⊢
    refine ⟨insL_sorted x l h.1 hn, ?_, ?_, by rw [(insL_perm x l).length_eq]; simp; omega⟩
    · refine (List.Perm.pairwise_iff (fun {a b} (e : a.f0 ≠ b.f0) => Ne.symm e) (insL_perm x l)).2 ?_
      rw [List.pairwise_append]
      exact ⟨h.2.1, List.pairwise_singleton _ _, fun a ha b hb => by rw [List.mem_singleton.1 hb]; exact hn a ha⟩
    · intro y hy
      rcases mem_insL hy with rfl | hy
      · exact hx
      · exact h.2.2.1 y hy
  refine ⟨?_, hf⟩
  unfold putL
  rw [drop_id hn, if_pos hf]
/-- A row of good spans of names of their own, not too many. -/
def goodL (l : List S25) : Prop := (∀ x ∈ l, goodS x) ∧ l.Pairwise (fun a b => a.f0 ≠ b.f0) ∧ l.length ≤ 32
theorem good_put {l p : List S25} {x : S25} (h : fitB l = true) (hp : l.Perm p) (hg : goodL (p ++ [x])) : fitB (putL l x) = true ∧ (putL l x).Perm (p ++ [x]) := by
  obtain ⟨g1, g2, g3⟩ := hg
  rw [List.pairwise_append] at g2
  obtain ⟨e, hf⟩ := put_new h (g1 x (by simp)) (fun y hy => g2.2.2 y (hp.subset hy) x (by simp)) (by rw [hp.length_eq]; simp at g3; omega)
  rw [e]
  exact ⟨hf, (insL_perm x l).trans (List.Perm.append_right _ hp)⟩
theorem goodL_take {l : List S25} (h : goodL l) (i : Nat) : goodL (l.take i) := ⟨fun x hx => h.1 x (List.take_subset _ _ hx), h.2.1.sublist (List.take_sublist _ _), by rw [List.length_take]; have := h.2.2; omega⟩
theorem goodL_rev {l : List S25} (h : goodL l) : goodL l.reverse := ⟨fun x hx => h.1 x (List.mem_reverse.1 hx), by rw [List.pairwise_reverse]; exact h.2.1.imp (fun e => Ne.symm e), by simpa using h.2.2⟩
theorem fit_one {a b : List S25} (ha : fitB a = true) (hb : fitB b = true) (hp : a.Perm b) : a = b := by
  have h1 := (fit_iff a).1 ha
  have h2 := (fit_iff b).1 hb
  refine List.Perm.eq_of_pairwise (le := fun x y => ltS x y = true) (fun x y _ _ h3 h4 => ?_) h1.1 h2.1 hp
  rw [ltS_asymm h3] at h4
  cases h4
/-! #### the last loop: all that lies over a window lies over a wider one -/
theorem mem_over {l : List S25} (h : fitB l = true) (a b : Int) (n : ByteArray) : n ∈ overL l a b ↔ ∃ x ∈ l, x.f1 < b ∧ a ≤ x.f2 ∧ x.f0 = n := by
  rw [overL_names h, (sortB_perm _).mem_iff]
  unfold namesB
  rw [List.mem_map]
  constructor
  · rintro ⟨x, hx, rfl⟩
    obtain ⟨h1, h2⟩ := List.mem_filter.1 hx
    unfold keepB at h2
    rw [Bool.and_eq_true, decide_eq_true_eq, decide_eq_true_eq] at h2
    exact ⟨x, h1, h2.1, h2.2, rfl⟩
  · rintro ⟨x, h1, h2, h3, rfl⟩
    exact ⟨x, List.mem_filter.2 ⟨h1, by unfold keepB; rw [decide_eq_true h2, decide_eq_true h3]; rfl⟩, rfl⟩
theorem order_l3 (m l : List ByteArray) (hm : m.length < 8796093022208) (hl : l.length < 8796093022208) (h : ∀ n ∈ l, n ∈ m) : ∀ d i : Nat, l.length - i = d → i ≤ l.length →
    Ev (fun k => almanaclaw19_SpanOrder.l3 k m l (l.length : Int) (i : Int)) true := by
  intro d
  induction d with
  | zero =>
    intro i hd hi
    refine Ev.step (f := fun k => (almanaclaw19_awake.f k).bind fun t => some t) (fun k => by simp only [almanaclaw19_SpanOrder.l3]; rw [if_neg (by omega)]) awake_end'
  | succ d ih =>
    intro i hd hi
    have h1 : i < l.length := by omega
    have e : hasB m l[i] = true := by
      unfold hasB
      rw [List.any_eq_true]
      exact ⟨l[i], h _ (List.getElem_mem h1), by rw [sameN_eq]; simp⟩
    refine Ev.step (f := fun k => (almanacref08_Has.f k m l[i]).bind fun t318 => if t318 = true then almanaclaw19_SpanOrder.l3 k m l (l.length : Int) ((i + 1 : Nat) : Int) else some false) (fun k => by
      simp only [almanaclaw19_SpanOrder.l3]
      rw [if_pos (by omega), if_pos (by omega), if_pos (by omega), rdb_at h1, w64n (by omega)]) ?_
    refine Ev.bind (has_val m l[i] hm) ?_
    rw [e]
    exact Ev.congr (fun k => by rw [if_pos rfl]) (ih (i + 1) (by omega) (by omega))
theorem over_some' {l : List S25} (hb : l.length < 4398046511104) (a b : Int) : span_Over.f l a b = some (overL l a b) := by unfold span_Over.f; rw [if_pos hb]
theorem order_j4 (l : List S25) (a b w : Int) (hf : fitB l = true) (hw0 : 0 ≤ w) (hw1 : w < 4294967296) (ha1 : a ≤ 9223372036854775807) (hb0 : -9223372036854775808 ≤ b) (ha : ¬ a < -4611686018427387904) (hb : ¬ b > 4611686018427387904) :
    Ev (fun k => almanaclaw19_SpanOrder.j4 k a b w l false) true := by
  have h32 := fit_len hf
  have e1 : wrap64 w = w := w64 (by omega) (by omega)
  have e2 : wrap64 (a - w) = a - w := w64 (by omega) (by omega)
  have e3 : wrap64 (b + w) = b + w := w64 (by omega) (by omega)
  refine Ev.step (f := fun k => almanaclaw19_SpanOrder.l3 k (overL l (a - w) (b + w)) (overL l a b) ((overL l a b).length : Int) ((0 : Nat) : Int)) (fun k => by
    simp only [almanaclaw19_SpanOrder.j4]
    rw [if_neg (by decide), e1, e2, e3, over_some' (by omega), Option.bind_some, over_some' (by omega), Option.bind_some]
    rfl) ?_
  have lo : ∀ c d, (overL l c d).length ≤ 32 := fun c d => by
    unfold overL
    rw [(sortB_perm _).length_eq]
    exact Nat.le_trans (over_len l c d) h32
  refine order_l3 _ _ (by have := lo (a - w) (b + w); omega) (by have := lo a b; omega) (fun n hn => ?_) _ 0 rfl (Nat.zero_le _)
  rw [mem_over hf] at hn ⊢
  obtain ⟨x, h1, h2, h3, h4⟩ := hn
  exact ⟨x, h1, by omega, by omega, h4⟩
theorem order_j4t (l : List S25) (a b w : Int) (h : a < -4611686018427387904 ∨ b > 4611686018427387904) : Ev (fun k => almanaclaw19_SpanOrder.j4 k a b w l true) true := by
  refine Ev.step (f := fun k => (almanaclaw19_awake.f k).bind fun t => some t) (fun k => by
    simp only [almanaclaw19_SpanOrder.j4]
    rw [if_pos trivial]
    by_cases c : a < -4611686018427387904
    · rw [if_pos c]
    · rw [if_neg c, if_pos (by omega)]) awake_end'
/-! #### the spans put, one way round and the other -/
theorem fit_some' {l : List S25} (h : fitB l = true) : span_Fit.f l = some true := by
  have := fit_len h
  unfold span_Fit.f
  rw [if_pos ⟨fit_size h, by omega⟩, h]
theorem put_some' {l : List S25} (h : fitB l = true) (x : S25) (hx : goodS x) : span_Put.f l x.f0 x.f1 x.f2 = some (putL l x) := by
  have := hx.2.1
  unfold span_Put.f
  rw [if_pos ⟨h, by unfold maxLen; omega⟩]
theorem take_rev_succ {l : List S25} {i : Nat} (h : i < l.length) : l.reverse.take (i + 1) = l.reverse.take i ++ [l[l.length - 1 - i]'(by omega)] := by
  rw [List.take_succ_eq_append_getElem (by simpa using h), List.getElem_reverse]
theorem order_l2 (l : List S25) (a b w : Int) (hg : goodL l) (hw0 : 0 ≤ w) (hw1 : w < 4294967296) (ha1 : a ≤ 9223372036854775807) (hb0 : -9223372036854775808 ≤ b) : ∀ (d i : Nat) (s t : List S25), l.length - i = d → i ≤ l.length →
    fitB s = true → s.Perm (l.take i) → fitB t = true → t.Perm (l.reverse.take i) → Ev (fun k => almanaclaw19_SpanOrder.l2 k l a b w s t (l.length : Int) (i : Int)) true := by
  have hl := hg.2.2
  intro d
  induction d with
  | zero =>
    intro i s t hd hi hs hps ht hpt
    have ei : i = l.length := by omega
    subst ei
    rw [List.take_length] at hps
    rw [List.take_of_length_le (by simp)] at hpt
    obtain rfl : s = t := fit_one hs ht (hps.trans ((List.reverse_perm l).symm.trans hpt.symm))
    have hsl : s.length = l.length := hps.length_eq
    refine Ev.step (f := fun k => (almanacref19_Same.f k s s).bind fun t308 => (if t308 = true then (if (s.length : Int) = (l.length : Int) then (if a < (-4611686018427387904) then (almanaclaw19_SpanOrder.j4 k a b w s true) else (almanaclaw19_SpanOrder.j4 k a b w s (decide (b > 4611686018427387904)))) else (almanaclaw19_SpanOrder.j4 k a b w s true)) else (almanaclaw19_SpanOrder.j4 k a b w s true))) (fun k => by
      simp only [almanaclaw19_SpanOrder.l2]
      rw [if_neg (by omega), fit_some' hs, Option.bind_some, if_pos rfl]) ?_
    refine Ev.bind (rsame_val s s (by omega)) ?_
    rw [decide_eq_true rfl]
    refine Ev.congr (fun k => by rw [if_pos rfl, if_pos (by omega)]) ?_
    by_cases c : a < -4611686018427387904
    · exact Ev.congr (fun k => by rw [if_pos c]) (order_j4t s a b w (.inl c))
    · refine Ev.congr (fun k => by rw [if_neg c]) ?_
      by_cases c2 : b > 4611686018427387904
      · rw [decide_eq_true c2]
        exact order_j4t s a b w (.inr c2)
      · rw [decide_eq_false c2]
        exact order_j4 s a b w hs hw0 hw1 ha1 hb0 c c2
  | succ d ih =>
    intro i s t hd hi hs hps ht hpt
    have h1 : i < l.length := by omega
    have h2 : l.length - 1 - i < l.length := by omega
    have g1 := hg.1 l[i] (List.getElem_mem h1)
    have g2 := hg.1 l[l.length - 1 - i] (List.getElem_mem h2)
    have e1 : wrap64 (wrap64 ((l.length : Int) - 1) - (i : Int)) = ((l.length - 1 - i : Nat) : Int) := by
      rw [w64 (a := (l.length : Int) - 1) (by omega) (by omega), w64 (by omega) (by omega)]
      omega
    refine Ev.step (f := fun k => almanaclaw19_SpanOrder.l2 k l a b w (putL s l[i]) (putL t l[l.length - 1 - i]) (l.length : Int) ((i + 1 : Nat) : Int)) (fun k => by
      simp only [almanaclaw19_SpanOrder.l2]
      rw [if_pos (by omega), if_pos (by omega), if_pos (by omega), rd_at h1, put_some' hs _ g1, Option.bind_some, e1, if_pos (by omega), if_pos (by omega), rd_at h2, put_some' ht _ g2, Option.bind_some, w64n (by omega)]) ?_
    have e2 : l.take (i + 1) = l.take i ++ [l[i]] := List.take_succ_eq_append_getElem h1
    have p1 := good_put hs hps (by rw [← e2]; exact goodL_take hg _)
    have p2 := good_put ht hpt (by rw [← take_rev_succ h1]; exact goodL_take (goodL_rev hg) _)
    rw [← e2] at p1
    rw [← take_rev_succ h1] at p2
    exact ih (i + 1) _ _ (by omega) (by omega) p1.1 p1.2 p2.1 p2.2
/-! #### the first loop: only good spans go on -/
theorem order_l1 (l : List S25) (a b w : Int) (hb : l.length < 4398046511104) (i : Nat) (hi : i < l.length) (H : l[i] ∉ l.take i → (∀ y ∈ l.take i, y.f0 ≠ l[i].f0) → Ev (fun k => almanaclaw19_SpanOrder.l0 k l a b w l (l.length : Int) ((i + 1 : Nat) : Int)) true) :
    ∀ d j : Nat, i - j = d → j ≤ i → (∀ y ∈ (l.take i).take j, y.f0 ≠ l[i].f0) → Ev (fun k => almanaclaw19_SpanOrder.l1 k l a b w l (l.length : Int) (i : Int) (l.take i) ((l.take i).length : Int) (j : Int) l[i].f0 l[i].f1 l[i].f2) true := by
  have hti : (l.take i).length = i := by simp; omega
  intro d
  induction d with
  | zero =>
    intro j hd hj hn
    rw [List.take_of_length_le (by omega)] at hn
    refine Ev.step (f := fun k => almanaclaw19_SpanOrder.l0 k l a b w l (l.length : Int) ((i + 1 : Nat) : Int)) (fun k => by
      simp only [almanaclaw19_SpanOrder.l1]
      rw [if_neg (by omega), w64n (by omega)]) ?_
    exact H (fun hm => hn _ hm rfl) hn
  | succ d ih =>
    intro j hd hj hn
    have h1 : j < (l.take i).length := by omega
    by_cases h : l[i].f0.toList = ((l.take i)[j]).f0.toList
    · refine Ev.step (f := fun k => (almanaclaw19_awake.f k).bind fun t => some t) (fun k => by
        simp only [almanaclaw19_SpanOrder.l1]
        rw [if_pos (by omega), if_pos (by omega), if_pos (by omega), rd_at h1, if_pos h]) awake_end'
    · refine Ev.step (f := fun k => almanaclaw19_SpanOrder.l1 k l a b w l (l.length : Int) (i : Int) (l.take i) ((l.take i).length : Int) ((j + 1 : Nat) : Int) l[i].f0 l[i].f1 l[i].f2) (fun k => by
        simp only [almanaclaw19_SpanOrder.l1]
        rw [if_pos (by omega), if_pos (by omega), if_pos (by omega), rd_at h1, if_neg h, w64n (by omega)]) ?_
      refine ih (j + 1) (by omega) (by omega) (fun y hy => ?_)
      rw [List.take_succ_eq_append_getElem h1, List.mem_append] at hy
      rcases hy with hy | hy
      · exact hn y hy
      · rw [List.mem_singleton.1 hy]
        intro e
        exact h (by rw [e])
theorem order_l0 (l : List S25) (a b w : Int) (hb : l.length < 4398046511104) (hw0 : 0 ≤ w) (hw1 : w < 4294967296) (ha1 : a ≤ 9223372036854775807) (hb0 : -9223372036854775808 ≤ b) : ∀ d i : Nat, l.length - i = d → i ≤ l.length → goodL (l.take i) →
    Ev (fun k => almanaclaw19_SpanOrder.l0 k l a b w l (l.length : Int) (i : Int)) true := by
  intro d
  induction d with
  | zero =>
    intro i hd hi hg
    rw [List.take_of_length_le (by omega)] at hg
    refine Ev.step (f := fun k => almanaclaw19_SpanOrder.l2 k l a b w [] [] (l.length : Int) ((0 : Nat) : Int)) (fun k => by
      simp only [almanaclaw19_SpanOrder.l0]
      rw [if_neg (by omega)]
      rfl) ?_
    exact order_l2 l a b w hg hw0 hw1 ha1 hb0 _ 0 [] [] rfl (Nat.zero_le _) rfl (by simp) rfl (by simp)
  | succ d ih =>
    intro i hd hi hg
    have h1 : i < l.length := by omega
    have hti : (l.take i).length = i := by simp; omega
    have jt : Ev (fun k => almanaclaw19_SpanOrder.j1 k l a b w (i : Int) l (l.length : Int) (i : Int) true l[i].f0 l[i].f1 l[i].f2) true := by
      refine Ev.step (f := fun k => (almanaclaw19_awake.f k).bind fun t => some t) (fun k => by simp only [almanaclaw19_SpanOrder.j1]; rw [if_pos trivial]) awake_end'
    by_cases c1 : l[i].f0.toList = []
    · refine Ev.step (fun k => by
        simp only [almanaclaw19_SpanOrder.l0]
        rw [if_pos (by omega), if_pos (by omega), if_pos (by omega), rd_at h1, if_pos c1]) jt
    by_cases c2 : (l[i].f0.size : Int) > 24
    · refine Ev.step (fun k => by
        simp only [almanaclaw19_SpanOrder.l0]
        rw [if_pos (by omega), if_pos (by omega), if_pos (by omega), rd_at h1, if_neg c1, if_pos c2]) jt
    by_cases c3 : l[i].f2 < l[i].f1
    · refine Ev.step (fun k => by
        simp only [almanaclaw19_SpanOrder.l0]
        rw [if_pos (by omega), if_pos (by omega), if_pos (by omega), rd_at h1, if_neg c1, if_neg c2, if_pos c3]) jt
    by_cases c4 : i ≥ 32
    · refine Ev.step (fun k => by
        simp only [almanaclaw19_SpanOrder.l0]
        rw [if_pos (by omega), if_pos (by omega), if_pos (by omega), rd_at h1, if_neg c1, if_neg c2, if_neg c3, decide_eq_true (show (i : Int) ≥ 32 by omega)]) jt
    refine Ev.step (f := fun k => almanaclaw19_SpanOrder.j1 k l a b w (i : Int) l (l.length : Int) (i : Int) false l[i].f0 l[i].f1 l[i].f2) (fun k => by
        simp only [almanaclaw19_SpanOrder.l0]
        rw [if_pos (by omega), if_pos (by omega), if_pos (by omega), rd_at h1, if_neg c1, if_neg c2, if_neg c3, decide_eq_false (show ¬ (i : Int) ≥ 32 by omega)]) ?_
    refine Ev.step (f := fun k => almanaclaw19_SpanOrder.l1 k l a b w l (l.length : Int) (i : Int) (l.take i) ((l.take i).length : Int) ((0 : Nat) : Int) l[i].f0 l[i].f1 l[i].f2) (fun k => by
        simp only [almanaclaw19_SpanOrder.j1]
        rw [if_neg (by decide), if_pos (by omega), if_pos (by omega), Option.bind_some, Int.toNat_natCast]
        rfl) ?_
    refine order_l1 l a b w hb i h1 (fun _ hn => ?_) _ 0 rfl (Nat.zero_le _) (by simp)
    refine ih (i + 1) (by omega) (by omega) ?_
    rw [List.take_succ_eq_append_getElem h1]
    refine ⟨fun x hx => ?_, ?_, by simp; omega⟩
    · rcases List.mem_append.1 hx with hx | hx
      · exact hg.1 x hx
      · rw [List.mem_singleton.1 hx]
        exact ⟨c1, by omega, by omega⟩
    · rw [List.pairwise_append]
      exact ⟨hg.2.1, List.pairwise_singleton _ _, fun u hu v hv => by rw [List.mem_singleton.1 hv]; exact hn u hu⟩
theorem spanOrder_pure (l : List S25) (a b w : Int) (hb : l.length < 4398046511104) (hw0 : 0 ≤ w) (hw1 : w < 4294967296) (ha1 : a ≤ 9223372036854775807) (hb0 : -9223372036854775808 ≤ b) : ∃ k, almanaclaw19_SpanOrder.f k l a b w = some true :=
  Ev.rounds (order_l0 l a b w hb hw0 hw1 ha1 hb0 _ 0 rfl (Nat.zero_le _) ⟨by simp, by simp, by simp⟩)
end Go.Proofs.Ythcoiabgemclbaa.PD
namespace Go.Proofs.Ythcoiabgemclbaa.PD
open Go.ChangeShapes Go.WideShapes Go.ChangeAt Go.RowKit Go.Proofs.YthcoiabgemclbaaW.PrintWords
set_option linter.unusedVariables false
namespace SpanOrderRow
open _root_.Go.Proofs.Ythcoiabgemclbaa.Rows
set_option maxRecDepth 100000 in
theorem lifted (os : Os) (started : os.Started) (H : Type) (enc : TypeId × Value → H) :
    ReturnsInHanded {} Try.checked os 3 .any (spanOrderSpec.pre6 enc Try.prog Try.f3 spanOrderRow.domain false) (spanOrderSpec.post enc Try.prog Try.f3 false true false false) := by
  refine returnsInHanded_of_change_sized (C := Try.checked) own started (by kernel_rfl) Try.func3
    (ChangeSpec.witness6 (enc := enc) (C := Try.checked) false ⟨#[], #[.slice none 0 0, .int .i64 0, .int .i64 0, .int .u32 0], []⟩ 8 (by kernel_rfl) (by kernel_rfl) (by kernel_rfl) (by kernel_rfl)) ?_
  intro W base args ds gs before hval0 hW hcnd hsz0 _
  have hsz : (DataW.weightsEach Try.prog (Try.f3.params.toList ++ spanOrderSpec.plain.varTypes Try.prog) (ds ++ gs)).all (· ≤ reachBytes) = true := hsz0
  have hval : ∀ (j : Nat) t v, Try.f3.params[j]? = some t → args[j]? = some v → Value.okWide Try.prog W .any base t v := hval0
  have hW' := hW
  obtain ⟨p, q, hA0, hV, rfl, hfz, hnd⟩ := hW
  have hA : DataW.TrodAll enc Try.prog W 0 (fun _ => true) true Try.f3.params.toList args.toList ds p := hA0
  rw [Try.params3] at hA hval hsz
  obtain ⟨v0, vs0, d0, ds0, p0, q0, hargs, rfl, rfl, h0, r0⟩ := trodAll_cons hA
  obtain ⟨v1, vs1, d1, ds1, p1, q1, rfl, rfl, rfl, h1, r1⟩ := trodAll_cons r0
  obtain ⟨v2, vs2, d2, ds2, p2, q2, rfl, rfl, rfl, h2, r2⟩ := trodAll_cons r1
  obtain ⟨v3, vs3, d3, ds3, p3, q3, rfl, rfl, rfl, h3, r3⟩ := trodAll_cons r2
  obtain ⟨rfl, rfl, rfl⟩ := trodAll_nil r3
  obtain rfl : args = #[v0, v1, v2, v3] := by cases args; simp_all
  obtain ⟨rfl, rfl⟩ := trodVars_none hV
  obtain ⟨A0, c0, l0, rfl, x0, y0, z0, s0⟩ := open_spans (hval 0 22 v0 rfl rfl) h0 (weighs hsz (j := 0) rfl rfl)
  obtain ⟨n1, rfl, rfl, rfl, w1⟩ := open_int Try.underlying2 (hval 1 2 v1 rfl rfl) h1
  obtain ⟨n2, rfl, rfl, rfl, w2⟩ := open_int Try.underlying2 (hval 2 2 v2 rfl rfl) h2
  obtain ⟨n3, rfl, rfl, rfl, w3⟩ := open_int Try.underlying23 (hval 3 23 v3 rfl rfl) h3
  have k0 := h0
  have lt0 : ∀ x ∈ p0, x.block < W.heap.size := by obtain ⟨m, hm⟩ := k0; exact DataW.trod_lt m _ _ _ hm
  clear hA0 hval0 hsz0 hsz
  have b1 := w1
  simp [Lit.wf, IntKind.min, IntKind.max, IntKind.signed, IntKind.bits] at b1
  have b2 := w2
  simp [Lit.wf, IntKind.min, IntKind.max, IntKind.signed, IntKind.bits] at b2
  have b3 := w3
  simp [Lit.wf, IntKind.min, IntKind.max, IntKind.signed, IntKind.bits] at b3
  obtain ⟨k, hk⟩ := spanOrder_pure l0 n1 n2 n3 (by omega) (by omega) (by omega) (by omega) (by omega)
  refine (almanaclaw19_SpanOrder.callsT k A0 c0 l0 n1 n2 n3 true W x0 y0 hk rfl).mono fun e W' ⟨he, bel⟩ => ?_
  subst he
  exact ⟨_, rfl, _, _, _, [], _, [], hW', trodAll_mk1 (shut_bool Try.underlying4 _), (trodAll_cons_mk (Below.trod laidOut (by kernel_rfl) (of_decide_eq_true (by kernel_rfl)) k0 bel lt0) (trodAll_cons_mk (shut_int Try.underlying2 w1) (trodAll_cons_mk (shut_int Try.underlying2 w2) (trodAll_cons_mk (shut_int Try.underlying23 w3) trodAll_mk0)))), rfl, bel.frame _, fun h => by cases h⟩
theorem over : spanOrderRow.holds Try.pinned (OpenSpec.ofChange spanOrderSpec) :=
  OpenClaim.holds_of_wide 3 Try.f3 rfl rfl rfl rfl rfl rfl rfl ⟨rfl, rfl, rfl, rfl, rfl⟩ rfl rfl rfl rfl rfl (by kernel_rfl) Try.func3 (by kernel_rfl)
    (of_decide_eq_true (by kernel_rfl)) (by unfold Func.isWrapper; first | (rw [if_pos (by decide +kernel)]; kernel_rfl) | (rw [if_neg (by decide +kernel)]; exact ⟨rfl, rfl⟩))
    (fun os started H enc _ => lifted os started H enc)
end SpanOrderRow
theorem spanOrder_holds : Rows.SpanOrderSaid := SpanOrderRow.over
end Go.Proofs.Ythcoiabgemclbaa.PD
