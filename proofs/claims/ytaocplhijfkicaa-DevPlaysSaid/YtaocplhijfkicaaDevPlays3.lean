/- Part 3 of the texts that the claim leans on: the functions' walks, and what they compute. -/
import Derived.Test.YtaocplhijfkicaaDevPlays2
import Derived.Test.YtaocplhijfkicaaSase1
import Derived.Test.YtaocplhijfkicaaDevPlays1
import Derived.Test.YtaocplhijfkicaaSase
-- written by a program of this work (mk.sh, over the kit's print; stubs are proved by hand)
namespace Go.Proofs.Ytaocplhijfkicaa.PD
open Go.RowKit Go.Proofs.YtaocplhijfkicaaW.PrintWords Go.Proofs.YtaocplhijfkicaaW.PrintLast Go.Proofs.YtaocplhijfkicaaW.PrintMore
attribute [local go_sem] isSome_setCell max2_int min2_int max_two min_two   -- for this text's walks alone
set_option linter.unusedVariables false
set_option linter.unusedSimpArgs false

/-! ### almanaclaw02_DevPlays: function 5 -/
mutual
def almanaclaw02_DevPlays.j0 : Nat → List (S45) → Bool → List ByteArray → List (S40) → Int → Bool → List ByteArray → List (S40) → Int → Bool → Option (Bool)
 | 0, _, _, _, _, _, _, _, _, _, _ => none
 | k + 1, x1, x33, x535000, x535001, x535002, x535003, x536000, x536001, x536002, x536003 => if x33 = true then (some false) else (almanaclaw02_DevPlays.l0 k x1 (x1.length : Int) 0 x535000 x535001 x535002 x535003 x536000 x536001 x536002 x536003)
def almanaclaw02_DevPlays.l0 : Nat → List (S45) → Int → Int → List ByteArray → List (S40) → Int → Bool → List ByteArray → List (S40) → Int → Bool → Option (Bool)
 | 0, _, _, _, _, _, _, _, _, _, _, _ => none
 | k + 1, x34, x35, x36, x535000, x535001, x535002, x535003, x536000, x536001, x536002, x536003 => if x36 < x35 then (if 0 ≤ x36 then (if x36 < (x34.length : Int) then ((almanacref02_Fit.f k x536000 x536001 x536002 x536003).bind fun t541 => (if t541 = true then ((almanacref02_Same.f k x535000 x535001 x535002 x535003 x536000 x536001 x536002 x536003).bind fun t542 => (almanaclaw02_DevPlays.j2 k x34 x35 x36 (!t542) x535000 x535001 x535002 x535003 x536000 x536001 x536002 x536003 ((rd_T45 x34 x36).f0) ((rd_T45 x34 x36).f1) ((rd_T45 x34 x36).f2) ((rd_T45 x34 x36).f3))) else (almanaclaw02_DevPlays.j2 k x34 x35 x36 true x535000 x535001 x535002 x535003 x536000 x536001 x536002 x536003 ((rd_T45 x34 x36).f0) ((rd_T45 x34 x36).f1) ((rd_T45 x34 x36).f2) ((rd_T45 x34 x36).f3)))) else (none)) else (none)) else ((almanaclaw02_awake.f k).bind fun t538 => (some t538))
def almanaclaw02_DevPlays.j2 : Nat → List (S45) → Int → Int → Bool → List ByteArray → List (S40) → Int → Bool → List ByteArray → List (S40) → Int → Bool → Int → Int → ByteArray → List Bool → Option (Bool)
 | 0, _, _, _, _, _, _, _, _, _, _, _, _, _, _, _, _ => none
 | k + 1, x34, x35, x36, x48, x535000, x535001, x535002, x535003, x536000, x536001, x536002, x536003, x541000, x541001, x541002, x541003 => if x48 = true then ((almanacref02_Fit.f k x536000 x536001 x536002 x536003).bind fun t543 => (if t543 = true then (some false) else ((almanaclaw02_awake.f k).bind fun t544 => (some t544)))) else (if (x541002.size : Int) = 127 then (almanaclaw02_DevPlays.j3 k 0 0 x541002 x34 x35 x36 x535000 x535001 x535002 x535003 x536000 x536001 x536002 x536003 x541000 x541001 x541002 x541003) else ((almanaclaw02_filled.f x541002).bind fun t545 => (almanaclaw02_DevPlays.j3 k 0 0 t545 x34 x35 x36 x535000 x535001 x535002 x535003 x536000 x536001 x536002 x536003 x541000 x541001 x541002 x541003)))
def almanaclaw02_DevPlays.j3 : Nat → Int → Int → ByteArray → List (S45) → Int → Int → List ByteArray → List (S40) → Int → Bool → List ByteArray → List (S40) → Int → Bool → Int → Int → ByteArray → List Bool → Option (Bool)
 | 0, _, _, _, _, _, _, _, _, _, _, _, _, _, _, _, _, _, _ => none
 | k + 1, x9, x10, x11, x34, x35, x36, x535000, x535001, x535002, x535003, x536000, x536001, x536002, x536003, x541000, x541001, x541002, x541003 => if x541000 = 0 then ((dev_Write.f k x535000 x535001 x535002 x535003 x541001 x11).bind fun bt546 => ((almanacref02_Write.f k x536000 x536001 x536002 x536003 x541001 x11).bind fun bt556 => (if bt546.2.2.2.2 = bt556.2.2.2.2 then ((almanacref02_Same.f k bt546.1 bt546.2.1 bt546.2.2.1 bt546.2.2.2.1 bt556.1 bt556.2.1 bt556.2.2.1 bt556.2.2.2.1).bind fun t565 => (if t565 = true then (almanaclaw02_DevPlays.l0 k x34 x35 (wrap64 (x36 + 1)) bt546.1 bt546.2.1 bt546.2.2.1 bt546.2.2.2.1 bt556.1 bt556.2.1 bt556.2.2.1 bt556.2.2.2.1) else (some false))) else (some false)))) else (if x541000 = 1 then ((dev_Flush.f x535000 x535001 x535002 x535003).bind fun bt566 => ((almanacref02_Flush.f k x536000 x536001 x536002 x536003).bind fun bt576 => (if bt566.2.2.2.2 = bt576.2.2.2.2 then ((almanacref02_Same.f k bt566.1 bt566.2.1 bt566.2.2.1 bt566.2.2.2.1 bt576.1 bt576.2.1 bt576.2.2.1 bt576.2.2.2.1).bind fun t585 => (if t585 = true then (almanaclaw02_DevPlays.l0 k x34 x35 (wrap64 (x36 + 1)) bt566.1 bt566.2.1 bt566.2.2.1 bt566.2.2.2.1 bt576.1 bt576.2.1 bt576.2.2.1 bt576.2.2.2.1) else (some false))) else (some false)))) else (if x541000 = 2 then ((dev_Crash.f x535000 x535001 x535002 x535003 x541003).bind fun bt586 => ((almanacref02_Crash.f k x536000 x536001 x536002 x536003 x541003).bind fun bt594 => (if x9 = x10 then ((almanacref02_Same.f k bt586.1 bt586.2.1 bt586.2.2.1 bt586.2.2.2 bt594.1 bt594.2.1 bt594.2.2.1 bt594.2.2.2).bind fun t602 => (if t602 = true then (almanaclaw02_DevPlays.l0 k x34 x35 (wrap64 (x36 + 1)) bt586.1 bt586.2.1 bt586.2.2.1 bt586.2.2.2 bt594.1 bt594.2.1 bt594.2.2.1 bt594.2.2.2) else (some false))) else (some false)))) else (if x541000 = 3 then ((dev_Arm.f x535000 x535001 x535002 x535003 x541001).bind fun bt603 => ((almanacref02_Arm.f x536000 x536001 x536002 x536003 x541001).bind fun bt611 => (if x9 = x10 then ((almanacref02_Same.f k bt603.1 bt603.2.1 bt603.2.2.1 bt603.2.2.2 bt611.1 bt611.2.1 bt611.2.2.1 bt611.2.2.2).bind fun t619 => (if t619 = true then (almanaclaw02_DevPlays.l0 k x34 x35 (wrap64 (x36 + 1)) bt603.1 bt603.2.1 bt603.2.2.1 bt603.2.2.2 bt611.1 bt611.2.1 bt611.2.2.1 bt611.2.2.2) else (some false))) else (some false)))) else ((dev_Read.f x535000 x535001 x535002 x535003 x541001).bind fun bt620 => ((almanacref02_Read.f k x536000 x536001 x536002 x536003 x541001).bind fun bt622 => (if bt620.1.toList = bt622.1.toList then (almanaclaw02_DevPlays.j4 k x9 x10 x34 x35 x36 (bt620.2 != bt622.2) x535000 x535001 x535002 x535003 x536000 x536001 x536002 x536003) else (almanaclaw02_DevPlays.j4 k x9 x10 x34 x35 x36 true x535000 x535001 x535002 x535003 x536000 x536001 x536002 x536003)))))))
def almanaclaw02_DevPlays.j4 : Nat → Int → Int → List (S45) → Int → Int → Bool → List ByteArray → List (S40) → Int → Bool → List ByteArray → List (S40) → Int → Bool → Option (Bool)
 | 0, _, _, _, _, _, _, _, _, _, _, _, _, _, _ => none
 | k + 1, x9, x10, x34, x35, x36, x85, x535000, x535001, x535002, x535003, x536000, x536001, x536002, x536003 => if x85 = true then (some false) else (if x9 = x10 then ((almanacref02_Same.f k x535000 x535001 x535002 x535003 x536000 x536001 x536002 x536003).bind fun t624 => (if t624 = true then (almanaclaw02_DevPlays.l0 k x34 x35 (wrap64 (x36 + 1)) x535000 x535001 x535002 x535003 x536000 x536001 x536002 x536003) else (some false))) else (some false))
end
def almanaclaw02_DevPlays.f (k : Nat) (a0 : Int) (l1 : List (S45)) : Option (Bool) := (dev_New.f k a0).bind fun bt518 => ((almanacref02_New.f k a0).bind fun bt526 => ((dev_Same.f k bt518.1 bt518.2.1 bt518.2.2.1 bt518.2.2.2 bt526.1 bt526.2.1 bt526.2.2.1 bt526.2.2.2).bind fun t536 => (if t536 = true then ((almanacref02_Same.f k bt518.1 bt518.2.1 bt518.2.2.1 bt518.2.2.2 bt526.1 bt526.2.1 bt526.2.2.1 bt526.2.2.2).bind fun t537 => (almanaclaw02_DevPlays.j0 k l1 (!t537) bt518.1 bt518.2.1 bt518.2.2.1 bt518.2.2.2 bt526.1 bt526.2.1 bt526.2.2.1 bt526.2.2.2)) else (almanaclaw02_DevPlays.j0 k l1 true bt518.1 bt518.2.1 bt518.2.2.1 bt518.2.2.2 bt526.1 bt526.2.1 bt526.2.2.1 bt526.2.2.2))))
theorem almanaclaw02_DevPlays.mono_l : ∀ k, (∀ y0 y1 y2 y3 y4 y5 y6 y7 y8 y9, LeO (almanaclaw02_DevPlays.j0 k y0 y1 y2 y3 y4 y5 y6 y7 y8 y9) (almanaclaw02_DevPlays.j0 (k + 1) y0 y1 y2 y3 y4 y5 y6 y7 y8 y9)) ∧ (∀ y0 y1 y2 y3 y4 y5 y6 y7 y8 y9 y10, LeO (almanaclaw02_DevPlays.l0 k y0 y1 y2 y3 y4 y5 y6 y7 y8 y9 y10) (almanaclaw02_DevPlays.l0 (k + 1) y0 y1 y2 y3 y4 y5 y6 y7 y8 y9 y10)) ∧ (∀ y0 y1 y2 y3 y4 y5 y6 y7 y8 y9 y10 y11 y12 y13 y14 y15, LeO (almanaclaw02_DevPlays.j2 k y0 y1 y2 y3 y4 y5 y6 y7 y8 y9 y10 y11 y12 y13 y14 y15) (almanaclaw02_DevPlays.j2 (k + 1) y0 y1 y2 y3 y4 y5 y6 y7 y8 y9 y10 y11 y12 y13 y14 y15)) ∧ (∀ y0 y1 y2 y3 y4 y5 y6 y7 y8 y9 y10 y11 y12 y13 y14 y15 y16 y17, LeO (almanaclaw02_DevPlays.j3 k y0 y1 y2 y3 y4 y5 y6 y7 y8 y9 y10 y11 y12 y13 y14 y15 y16 y17) (almanaclaw02_DevPlays.j3 (k + 1) y0 y1 y2 y3 y4 y5 y6 y7 y8 y9 y10 y11 y12 y13 y14 y15 y16 y17)) ∧ (∀ y0 y1 y2 y3 y4 y5 y6 y7 y8 y9 y10 y11 y12 y13, LeO (almanaclaw02_DevPlays.j4 k y0 y1 y2 y3 y4 y5 y6 y7 y8 y9 y10 y11 y12 y13) (almanaclaw02_DevPlays.j4 (k + 1) y0 y1 y2 y3 y4 y5 y6 y7 y8 y9 y10 y11 y12 y13))
 | 0 => ⟨fun _ _ _ _ _ _ _ _ _ _ r h => by simp [almanaclaw02_DevPlays.j0] at h, fun _ _ _ _ _ _ _ _ _ _ _ r h => by simp [almanaclaw02_DevPlays.l0] at h, fun _ _ _ _ _ _ _ _ _ _ _ _ _ _ _ _ r h => by simp [almanaclaw02_DevPlays.j2] at h, fun _ _ _ _ _ _ _ _ _ _ _ _ _ _ _ _ _ _ r h => by simp [almanaclaw02_DevPlays.j3] at h, fun _ _ _ _ _ _ _ _ _ _ _ _ _ _ r h => by simp [almanaclaw02_DevPlays.j4] at h⟩
 | k + 1 => by
  obtain ⟨ih0, ih1, ih2, ih3, ih4⟩ := almanaclaw02_DevPlays.mono_l k
  refine ⟨?_, ?_, ?_, ?_, ?_⟩
  ·intro y0 y1 y2 y3 y4 y5 y6 y7 y8 y9
   unfold almanaclaw02_DevPlays.j0
   repeat' first
   | (with_reducible exact ih0 _ _ _ _ _ _ _ _ _ _)
   | (with_reducible exact ih1 _ _ _ _ _ _ _ _ _ _ _)
   | (with_reducible exact ih2 _ _ _ _ _ _ _ _ _ _ _ _ _ _ _ _)
   | (with_reducible exact ih3 _ _ _ _ _ _ _ _ _ _ _ _ _ _ _ _ _ _)
   | (with_reducible exact ih4 _ _ _ _ _ _ _ _ _ _ _ _ _ _)
   | (with_reducible exact almanaclaw02_awake.mono _)
   | (with_reducible exact almanacref02_Crash.mono _ _ _ _ _ _)
   | (with_reducible exact almanacref02_Fit.mono _ _ _ _ _)
   | (with_reducible exact almanacref02_Flush.mono _ _ _ _ _)
   | (with_reducible exact almanacref02_New.mono _ _)
   | (with_reducible exact almanacref02_Read.mono _ _ _ _ _ _)
   | (with_reducible exact almanacref02_Same.mono _ _ _ _ _ _ _ _ _)
   | (with_reducible exact almanacref02_Write.mono _ _ _ _ _ _ _)
   | (with_reducible exact dev_New.mono _ _)
   | (with_reducible exact dev_Same.mono _ _ _ _ _ _ _ _ _)
   | (with_reducible exact dev_Write.mono _ _ _ _ _ _ _)
   | (with_reducible exact LeO.refl _)
   | (with_reducible exact LeO.none _)
   | (with_reducible refine LeO.ite ?_ ?_)
   | (with_reducible refine LeO.bind ?_ (fun _ => ?_))
   | exact ih0 _ _ _ _ _ _ _ _ _ _
   | exact ih1 _ _ _ _ _ _ _ _ _ _ _
   | exact ih2 _ _ _ _ _ _ _ _ _ _ _ _ _ _ _ _
   | exact ih3 _ _ _ _ _ _ _ _ _ _ _ _ _ _ _ _ _ _
   | exact ih4 _ _ _ _ _ _ _ _ _ _ _ _ _ _
   | exact almanaclaw02_awake.mono _
   | exact almanacref02_Crash.mono _ _ _ _ _ _
   | exact almanacref02_Fit.mono _ _ _ _ _
   | exact almanacref02_Flush.mono _ _ _ _ _
   | exact almanacref02_New.mono _ _
   | exact almanacref02_Read.mono _ _ _ _ _ _
   | exact almanacref02_Same.mono _ _ _ _ _ _ _ _ _
   | exact almanacref02_Write.mono _ _ _ _ _ _ _
   | exact dev_New.mono _ _
   | exact dev_Same.mono _ _ _ _ _ _ _ _ _
   | exact dev_Write.mono _ _ _ _ _ _ _
   | exact LeO.none _
   | refine LeO.ite ?_ ?_
   | refine LeO.bind ?_ (fun _ => ?_)
  ·intro y0 y1 y2 y3 y4 y5 y6 y7 y8 y9 y10
   unfold almanaclaw02_DevPlays.l0
   repeat' first
   | (with_reducible exact ih0 _ _ _ _ _ _ _ _ _ _)
   | (with_reducible exact ih1 _ _ _ _ _ _ _ _ _ _ _)
   | (with_reducible exact ih2 _ _ _ _ _ _ _ _ _ _ _ _ _ _ _ _)
   | (with_reducible exact ih3 _ _ _ _ _ _ _ _ _ _ _ _ _ _ _ _ _ _)
   | (with_reducible exact ih4 _ _ _ _ _ _ _ _ _ _ _ _ _ _)
   | (with_reducible exact almanaclaw02_awake.mono _)
   | (with_reducible exact almanacref02_Crash.mono _ _ _ _ _ _)
   | (with_reducible exact almanacref02_Fit.mono _ _ _ _ _)
   | (with_reducible exact almanacref02_Flush.mono _ _ _ _ _)
   | (with_reducible exact almanacref02_New.mono _ _)
   | (with_reducible exact almanacref02_Read.mono _ _ _ _ _ _)
   | (with_reducible exact almanacref02_Same.mono _ _ _ _ _ _ _ _ _)
   | (with_reducible exact almanacref02_Write.mono _ _ _ _ _ _ _)
   | (with_reducible exact dev_New.mono _ _)
   | (with_reducible exact dev_Same.mono _ _ _ _ _ _ _ _ _)
   | (with_reducible exact dev_Write.mono _ _ _ _ _ _ _)
   | (with_reducible exact LeO.refl _)
   | (with_reducible exact LeO.none _)
   | (with_reducible refine LeO.ite ?_ ?_)
   | (with_reducible refine LeO.bind ?_ (fun _ => ?_))
   | exact ih0 _ _ _ _ _ _ _ _ _ _
   | exact ih1 _ _ _ _ _ _ _ _ _ _ _
   | exact ih2 _ _ _ _ _ _ _ _ _ _ _ _ _ _ _ _
   | exact ih3 _ _ _ _ _ _ _ _ _ _ _ _ _ _ _ _ _ _
   | exact ih4 _ _ _ _ _ _ _ _ _ _ _ _ _ _
   | exact almanaclaw02_awake.mono _
   | exact almanacref02_Crash.mono _ _ _ _ _ _
   | exact almanacref02_Fit.mono _ _ _ _ _
   | exact almanacref02_Flush.mono _ _ _ _ _
   | exact almanacref02_New.mono _ _
   | exact almanacref02_Read.mono _ _ _ _ _ _
   | exact almanacref02_Same.mono _ _ _ _ _ _ _ _ _
   | exact almanacref02_Write.mono _ _ _ _ _ _ _
   | exact dev_New.mono _ _
   | exact dev_Same.mono _ _ _ _ _ _ _ _ _
   | exact dev_Write.mono _ _ _ _ _ _ _
   | exact LeO.none _
   | refine LeO.ite ?_ ?_
   | refine LeO.bind ?_ (fun _ => ?_)
  ·intro y0 y1 y2 y3 y4 y5 y6 y7 y8 y9 y10 y11 y12 y13 y14 y15
   unfold almanaclaw02_DevPlays.j2
   repeat' first
   | (with_reducible exact ih0 _ _ _ _ _ _ _ _ _ _)
   | (with_reducible exact ih1 _ _ _ _ _ _ _ _ _ _ _)
   | (with_reducible exact ih2 _ _ _ _ _ _ _ _ _ _ _ _ _ _ _ _)
   | (with_reducible exact ih3 _ _ _ _ _ _ _ _ _ _ _ _ _ _ _ _ _ _)
   | (with_reducible exact ih4 _ _ _ _ _ _ _ _ _ _ _ _ _ _)
   | (with_reducible exact almanaclaw02_awake.mono _)
   | (with_reducible exact almanacref02_Crash.mono _ _ _ _ _ _)
   | (with_reducible exact almanacref02_Fit.mono _ _ _ _ _)
   | (with_reducible exact almanacref02_Flush.mono _ _ _ _ _)
   | (with_reducible exact almanacref02_New.mono _ _)
   | (with_reducible exact almanacref02_Read.mono _ _ _ _ _ _)
   | (with_reducible exact almanacref02_Same.mono _ _ _ _ _ _ _ _ _)
   | (with_reducible exact almanacref02_Write.mono _ _ _ _ _ _ _)
   | (with_reducible exact dev_New.mono _ _)
   | (with_reducible exact dev_Same.mono _ _ _ _ _ _ _ _ _)
   | (with_reducible exact dev_Write.mono _ _ _ _ _ _ _)
   | (with_reducible exact LeO.refl _)
   | (with_reducible exact LeO.none _)
   | (with_reducible refine LeO.ite ?_ ?_)
   | (with_reducible refine LeO.bind ?_ (fun _ => ?_))
   | exact ih0 _ _ _ _ _ _ _ _ _ _
   | exact ih1 _ _ _ _ _ _ _ _ _ _ _
   | exact ih2 _ _ _ _ _ _ _ _ _ _ _ _ _ _ _ _
   | exact ih3 _ _ _ _ _ _ _ _ _ _ _ _ _ _ _ _ _ _
   | exact ih4 _ _ _ _ _ _ _ _ _ _ _ _ _ _
   | exact almanaclaw02_awake.mono _
   | exact almanacref02_Crash.mono _ _ _ _ _ _
   | exact almanacref02_Fit.mono _ _ _ _ _
   | exact almanacref02_Flush.mono _ _ _ _ _
   | exact almanacref02_New.mono _ _
   | exact almanacref02_Read.mono _ _ _ _ _ _
   | exact almanacref02_Same.mono _ _ _ _ _ _ _ _ _
   | exact almanacref02_Write.mono _ _ _ _ _ _ _
   | exact dev_New.mono _ _
   | exact dev_Same.mono _ _ _ _ _ _ _ _ _
   | exact dev_Write.mono _ _ _ _ _ _ _
   | exact LeO.none _
   | refine LeO.ite ?_ ?_
   | refine LeO.bind ?_ (fun _ => ?_)
  ·intro y0 y1 y2 y3 y4 y5 y6 y7 y8 y9 y10 y11 y12 y13 y14 y15 y16 y17
   unfold almanaclaw02_DevPlays.j3
   repeat' first
   | (with_reducible exact ih0 _ _ _ _ _ _ _ _ _ _)
   | (with_reducible exact ih1 _ _ _ _ _ _ _ _ _ _ _)
   | (with_reducible exact ih2 _ _ _ _ _ _ _ _ _ _ _ _ _ _ _ _)
   | (with_reducible exact ih3 _ _ _ _ _ _ _ _ _ _ _ _ _ _ _ _ _ _)
   | (with_reducible exact ih4 _ _ _ _ _ _ _ _ _ _ _ _ _ _)
   | (with_reducible exact almanaclaw02_awake.mono _)
   | (with_reducible exact almanacref02_Crash.mono _ _ _ _ _ _)
   | (with_reducible exact almanacref02_Fit.mono _ _ _ _ _)
   | (with_reducible exact almanacref02_Flush.mono _ _ _ _ _)
   | (with_reducible exact almanacref02_New.mono _ _)
   | (with_reducible exact almanacref02_Read.mono _ _ _ _ _ _)
   | (with_reducible exact almanacref02_Same.mono _ _ _ _ _ _ _ _ _)
   | (with_reducible exact almanacref02_Write.mono _ _ _ _ _ _ _)
   | (with_reducible exact dev_New.mono _ _)
   | (with_reducible exact dev_Same.mono _ _ _ _ _ _ _ _ _)
   | (with_reducible exact dev_Write.mono _ _ _ _ _ _ _)
   | (with_reducible exact LeO.refl _)
   | (with_reducible exact LeO.none _)
   | (with_reducible refine LeO.ite ?_ ?_)
   | (with_reducible refine LeO.bind ?_ (fun _ => ?_))
   | exact ih0 _ _ _ _ _ _ _ _ _ _
   | exact ih1 _ _ _ _ _ _ _ _ _ _ _
   | exact ih2 _ _ _ _ _ _ _ _ _ _ _ _ _ _ _ _
   | exact ih3 _ _ _ _ _ _ _ _ _ _ _ _ _ _ _ _ _ _
   | exact ih4 _ _ _ _ _ _ _ _ _ _ _ _ _ _
   | exact almanaclaw02_awake.mono _
   | exact almanacref02_Crash.mono _ _ _ _ _ _
   | exact almanacref02_Fit.mono _ _ _ _ _
   | exact almanacref02_Flush.mono _ _ _ _ _
   | exact almanacref02_New.mono _ _
   | exact almanacref02_Read.mono _ _ _ _ _ _
   | exact almanacref02_Same.mono _ _ _ _ _ _ _ _ _
   | exact almanacref02_Write.mono _ _ _ _ _ _ _
   | exact dev_New.mono _ _
   | exact dev_Same.mono _ _ _ _ _ _ _ _ _
   | exact dev_Write.mono _ _ _ _ _ _ _
   | exact LeO.none _
   | refine LeO.ite ?_ ?_
   | refine LeO.bind ?_ (fun _ => ?_)
  ·intro y0 y1 y2 y3 y4 y5 y6 y7 y8 y9 y10 y11 y12 y13
   unfold almanaclaw02_DevPlays.j4
   repeat' first
   | (with_reducible exact ih0 _ _ _ _ _ _ _ _ _ _)
   | (with_reducible exact ih1 _ _ _ _ _ _ _ _ _ _ _)
   | (with_reducible exact ih2 _ _ _ _ _ _ _ _ _ _ _ _ _ _ _ _)
   | (with_reducible exact ih3 _ _ _ _ _ _ _ _ _ _ _ _ _ _ _ _ _ _)
   | (with_reducible exact ih4 _ _ _ _ _ _ _ _ _ _ _ _ _ _)
   | (with_reducible exact almanaclaw02_awake.mono _)
   | (with_reducible exact almanacref02_Crash.mono _ _ _ _ _ _)
   | (with_reducible exact almanacref02_Fit.mono _ _ _ _ _)
   | (with_reducible exact almanacref02_Flush.mono _ _ _ _ _)
   | (with_reducible exact almanacref02_New.mono _ _)
   | (with_reducible exact almanacref02_Read.mono _ _ _ _ _ _)
   | (with_reducible exact almanacref02_Same.mono _ _ _ _ _ _ _ _ _)
   | (with_reducible exact almanacref02_Write.mono _ _ _ _ _ _ _)
   | (with_reducible exact dev_New.mono _ _)
   | (with_reducible exact dev_Same.mono _ _ _ _ _ _ _ _ _)
   | (with_reducible exact dev_Write.mono _ _ _ _ _ _ _)
   | (with_reducible exact LeO.refl _)
   | (with_reducible exact LeO.none _)
   | (with_reducible refine LeO.ite ?_ ?_)
   | (with_reducible refine LeO.bind ?_ (fun _ => ?_))
   | exact ih0 _ _ _ _ _ _ _ _ _ _
   | exact ih1 _ _ _ _ _ _ _ _ _ _ _
   | exact ih2 _ _ _ _ _ _ _ _ _ _ _ _ _ _ _ _
   | exact ih3 _ _ _ _ _ _ _ _ _ _ _ _ _ _ _ _ _ _
   | exact ih4 _ _ _ _ _ _ _ _ _ _ _ _ _ _
   | exact almanaclaw02_awake.mono _
   | exact almanacref02_Crash.mono _ _ _ _ _ _
   | exact almanacref02_Fit.mono _ _ _ _ _
   | exact almanacref02_Flush.mono _ _ _ _ _
   | exact almanacref02_New.mono _ _
   | exact almanacref02_Read.mono _ _ _ _ _ _
   | exact almanacref02_Same.mono _ _ _ _ _ _ _ _ _
   | exact almanacref02_Write.mono _ _ _ _ _ _ _
   | exact dev_New.mono _ _
   | exact dev_Same.mono _ _ _ _ _ _ _ _ _
   | exact dev_Write.mono _ _ _ _ _ _ _
   | exact LeO.none _
   | refine LeO.ite ?_ ?_
   | refine LeO.bind ?_ (fun _ => ?_)
theorem almanaclaw02_DevPlays.mono : ∀ a0 a1 k, LeO (almanaclaw02_DevPlays.f k a0 a1) (almanaclaw02_DevPlays.f (k + 1) a0 a1) := by
 intro a0 a1 k
 obtain ⟨ih0, ih1, ih2, ih3, ih4⟩ := almanaclaw02_DevPlays.mono_l k
 unfold almanaclaw02_DevPlays.f
 repeat' first
   | (with_reducible exact ih0 _ _ _ _ _ _ _ _ _ _)
   | (with_reducible exact ih1 _ _ _ _ _ _ _ _ _ _ _)
   | (with_reducible exact ih2 _ _ _ _ _ _ _ _ _ _ _ _ _ _ _ _)
   | (with_reducible exact ih3 _ _ _ _ _ _ _ _ _ _ _ _ _ _ _ _ _ _)
   | (with_reducible exact ih4 _ _ _ _ _ _ _ _ _ _ _ _ _ _)
   | (with_reducible exact almanaclaw02_awake.mono _)
   | (with_reducible exact almanacref02_Crash.mono _ _ _ _ _ _)
   | (with_reducible exact almanacref02_Fit.mono _ _ _ _ _)
   | (with_reducible exact almanacref02_Flush.mono _ _ _ _ _)
   | (with_reducible exact almanacref02_New.mono _ _)
   | (with_reducible exact almanacref02_Read.mono _ _ _ _ _ _)
   | (with_reducible exact almanacref02_Same.mono _ _ _ _ _ _ _ _ _)
   | (with_reducible exact almanacref02_Write.mono _ _ _ _ _ _ _)
   | (with_reducible exact dev_New.mono _ _)
   | (with_reducible exact dev_Same.mono _ _ _ _ _ _ _ _ _)
   | (with_reducible exact dev_Write.mono _ _ _ _ _ _ _)
   | (with_reducible exact LeO.refl _)
   | (with_reducible exact LeO.none _)
   | (with_reducible refine LeO.ite ?_ ?_)
   | (with_reducible refine LeO.bind ?_ (fun _ => ?_))
   | exact ih0 _ _ _ _ _ _ _ _ _ _
   | exact ih1 _ _ _ _ _ _ _ _ _ _ _
   | exact ih2 _ _ _ _ _ _ _ _ _ _ _ _ _ _ _ _
   | exact ih3 _ _ _ _ _ _ _ _ _ _ _ _ _ _ _ _ _ _
   | exact ih4 _ _ _ _ _ _ _ _ _ _ _ _ _ _
   | exact almanaclaw02_awake.mono _
   | exact almanacref02_Crash.mono _ _ _ _ _ _
   | exact almanacref02_Fit.mono _ _ _ _ _
   | exact almanacref02_Flush.mono _ _ _ _ _
   | exact almanacref02_New.mono _ _
   | exact almanacref02_Read.mono _ _ _ _ _ _
   | exact almanacref02_Same.mono _ _ _ _ _ _ _ _ _
   | exact almanacref02_Write.mono _ _ _ _ _ _ _
   | exact dev_New.mono _ _
   | exact dev_Same.mono _ _ _ _ _ _ _ _ _
   | exact dev_Write.mono _ _ _ _ _ _ _
   | exact LeO.none _
   | refine LeO.ite ?_ ?_
   | refine LeO.bind ?_ (fun _ => ?_)
def almanaclaw02_DevPlays.T27 : Bool × List (List Nat × List Nat) := (true, [([], []), ([], []), ([1], [1]), ([0, 2], [0, 2]), ([], []), ([], []), ([5], [5]), ([4, 6, 3], [4, 6]), ([3, 7, 0, 1, 2, 3], [3]), ([7, 8, 0, 1, 2, 3, 4, 5, 6, 7, 8], [7])])
def almanaclaw02_DevPlays.B27 : List Nat := [0, 0, 2, 7, 0, 0, 32, 127, 255, 511]
theorem almanaclaw02_DevPlays.tab27 : rtab .any (opsOf Try.f5 27) = almanaclaw02_DevPlays.T27 := by kernel_rfl
theorem almanaclaw02_DevPlays.bits27 : waitsOk almanaclaw02_DevPlays.T27.2 almanaclaw02_DevPlays.B27 = true := by kernel_rfl
def almanaclaw02_DevPlays.T29 : Bool × List (List Nat × List Nat) := (true, [([], []), ([], []), ([1], [1]), ([0, 2], [0, 2]), ([], []), ([], []), ([5], [5]), ([4, 6, 3], [4, 6]), ([3, 7, 0, 1, 2, 3], [3]), ([7, 8, 0, 1, 2, 3, 4, 5, 6, 7, 8], [7])])
def almanaclaw02_DevPlays.B29 : List Nat := [0, 0, 2, 7, 0, 0, 32, 127, 255, 511]
theorem almanaclaw02_DevPlays.tab29 : rtab .any (opsOf Try.f5 29) = almanaclaw02_DevPlays.T29 := by kernel_rfl
theorem almanaclaw02_DevPlays.bits29 : waitsOk almanaclaw02_DevPlays.T29.2 almanaclaw02_DevPlays.B29 = true := by kernel_rfl
set_option maxHeartbeats 8000000 in
set_option maxRecDepth 100000 in
theorem almanaclaw02_DevPlays.callsT (k : Nat) (a0 : Int) (A1 : Option Addr) (c1 : Nat) (l1 : List (S45)) (r : Bool) (w : World) (hr1 : Kd.C k45 w A1 l1.length l1) (hc1 : l1.length ≤ c1) (h : almanaclaw02_DevPlays.f k a0 l1 = some r) (hr : r = true) :
  Calls Try.prog 5 #[.int .i64 a0, .slice A1 l1.length c1] w fun e w' => e = .returned (.bool r) ∧ Below w.heap.size w w' := by
 have HRT := Aside0.mk hr
 clear hr
 have hu25 := Try.underlying25
 have hu45 := Try.underlying45
 have HR1 := Aside0.mk hr1
 have HC1 := Aside0.mk hc1
 clear hr1 hc1
 have HB := Aside0.mk (Below.refl w.heap.size w)
 have H : ((dev_New.f k a0).bind fun bt518 => ((almanacref02_New.f k a0).bind fun bt526 => ((dev_Same.f k bt518.1 bt518.2.1 bt518.2.2.1 bt518.2.2.2 bt526.1 bt526.2.1 bt526.2.2.1 bt526.2.2.2).bind fun t536 => (if t536 = true then ((almanacref02_Same.f k bt518.1 bt518.2.1 bt518.2.2.1 bt518.2.2.2 bt526.1 bt526.2.1 bt526.2.2.1 bt526.2.2.2).bind fun t537 => (almanaclaw02_DevPlays.j0 k l1 (!t537) bt518.1 bt518.2.1 bt518.2.2.1 bt518.2.2.2 bt526.1 bt526.2.1 bt526.2.2.1 bt526.2.2.2)) else (almanaclaw02_DevPlays.j0 k l1 true bt518.1 bt518.2.1 bt518.2.2.1 bt518.2.2.2 bt526.1 bt526.2.1 bt526.2.2.1 bt526.2.2.2))))) = some r := h
 clear h
 replace H := Option.bind_eq_some_iff.mp H
 obtain ⟨⟨t518, t521, t524, t525⟩, A30, H⟩ := H
 replace H : ((almanacref02_New.f k a0).bind fun bt526 => ((dev_Same.f k t518 t521 t524 t525 bt526.1 bt526.2.1 bt526.2.2.1 bt526.2.2.2).bind fun t536 => (if t536 = true then ((almanacref02_Same.f k t518 t521 t524 t525 bt526.1 bt526.2.1 bt526.2.2.1 bt526.2.2.2).bind fun t537 => (almanaclaw02_DevPlays.j0 k l1 (!t537) t518 t521 t524 t525 bt526.1 bt526.2.1 bt526.2.2.1 bt526.2.2.2)) else (almanaclaw02_DevPlays.j0 k l1 true t518 t521 t524 t525 bt526.1 bt526.2.1 bt526.2.2.1 bt526.2.2.2)))) = some r := H
 have A3 := Aside0.mk A30
 clear A30
 replace H := Option.bind_eq_some_iff.mp H
 obtain ⟨⟨t526, t529, t532, t533⟩, A40, H⟩ := H
 replace H : ((dev_Same.f k t518 t521 t524 t525 t526 t529 t532 t533).bind fun t536 => (if t536 = true then ((almanacref02_Same.f k t518 t521 t524 t525 t526 t529 t532 t533).bind fun t537 => (almanaclaw02_DevPlays.j0 k l1 (!t537) t518 t521 t524 t525 t526 t529 t532 t533)) else (almanaclaw02_DevPlays.j0 k l1 true t518 t521 t524 t525 t526 t529 t532 t533))) = some r := H
 have A4 := Aside0.mk A40
 clear A40
 have HC5 := Aside0.mk H
 clear H
 go_enter Try.func5, Try.ntmps5
 go_upto_region 2 with (first | ((with_reducible refine gate_callee (f := 17) rfl ?_); refine goesL_ (some 21) rfl rfl Try.func17 (by kernel_rfl) rfl #[.int .i64 a0] rfl (by (try simp only [List.map_toArray, List.map_cons, List.map_nil]); first | done | rfl | (simp only [List.length_drop, List.length_take]; rfl)) ?_; (with_reducible refine (dev_New.calls k a0 t518 t521 t524 t525 _ A3.out).mono ?_); rintro e w6 ⟨v519, v522, rfl, ho0, ho1, hb⟩; refine ⟨_, rfl, ?_⟩; have n0_ := Aside0.mk (Kd.R_lower ho0 (below_size (bU HB))); have n1_ := Aside0.mk (Kd.R_lower ho1 (below_size (bU HB))); have n2_ := Aside0.mk (below_step (bU HB) hb); clear HB; have HO520 := n0_; have HO523 := n1_; have HB := n2_; clear n0_ n1_ n2_; (try clear hb); (try clear hb2); (try clear hk); (try clear hi); (try clear ho0); (try clear ho1)) | ((with_reducible refine gate_callee (f := 18) rfl ?_); refine goesL_ (some 23) rfl rfl Try.func18 (by kernel_rfl) rfl #[.int .i64 a0] rfl (by (try simp only [List.map_toArray, List.map_cons, List.map_nil]); first | done | rfl | (simp only [List.length_drop, List.length_take]; rfl)) ?_; (with_reducible refine (almanacref02_New.calls k a0 t526 t529 t532 t533 _ A4.out).mono ?_); rintro e w7 ⟨v527, v530, rfl, ho0, ho1, hb⟩; refine ⟨_, rfl, ?_⟩; have n0_ := Aside0.mk (Kd.R_elder' (rU HO520) (Kd.R_base ho0) hb); have n1_ := Aside0.mk (Kd.R_elder' (rU HO523) (Kd.R_base ho1) hb); have n2_ := Aside0.mk (Kd.R_lower (Kd.R_new' ho0 (Kd.R_lt (rU HO520))) (below_size (bU HB))); have n3_ := Aside0.mk (Kd.R_lower (Kd.R_new' ho1 (Kd.R_lt (rU HO523))) (below_size (bU HB))); have n4_ := Aside0.mk (below_step (bU HB) hb); clear HO520; clear HO523; clear HB; have HO520 := n0_; have HO523 := n1_; have HO528 := n2_; have HO531 := n3_; have HB := n4_; clear n0_ n1_ n2_ n3_ n4_; (try clear hb); (try clear hb2); (try clear hk); (try clear hi); (try clear ho0); (try clear ho1)) | ((with_reducible refine gate_dst (N := 5) rfl ?_); refine box_event ?hg (N := 5) ?hd (cs := #[.slice none 0 0, .slice none 0 0, .int .i64 0, .bool false]) (t := 25) ?hr ?_; (case hd => rfl); (case hg => rfl); (case hr => first | (go_simp; done) | (go_simp; rfl)); intro gb534 hg w8 hbox hb; have n0_ := Aside0.mk (Kd.R_below (rU HO520) hb); have n1_ := Aside0.mk (Kd.R_below (rU HO523) hb); have n2_ := Aside0.mk (Kd.R_below (rU HO528) hb); have n3_ := Aside0.mk (Kd.R_below (rU HO531) hb); have n4_ := Aside0.mk (below_step (bU HB) hb); have n5_ := Aside0.mk (hbox); have n6_ := Aside0.mk ((by rw [hg]; exact (below_size (bU HB)) : w.heap.size ≤ gb534)); have n7_ := Aside0.mk ((by rw [hg]; exact (below_size (bU HB)) : w.heap.size ≤ gb534)); clear HO520; clear HO523; clear HO528; clear HO531; clear HB; have HO520 := n0_; have HO523 := n1_; have HO528 := n2_; have HO531 := n3_; have HB := n4_; have BK534 := n5_; have GW534 := n6_; have GE534 := n7_; clear n0_ n1_ n2_ n3_ n4_ n5_ n6_ n7_; clear hb hbox hg) | ((with_reducible refine gate_dst (N := 6) rfl ?_); refine box_event ?hg (N := 6) ?hd (cs := #[.slice none 0 0, .slice none 0 0, .int .i64 0, .bool false]) (t := 25) ?hr ?_; (case hd => rfl); (case hg => rfl); (case hr => first | (go_simp; done) | (go_simp; rfl)); intro gb535 hg w9 hbox hb; have n0_ := Aside0.mk (Kd.R_below (rU HO520) hb); have n1_ := Aside0.mk (Kd.R_below (rU HO523) hb); have n2_ := Aside0.mk (Kd.R_below (rU HO528) hb); have n3_ := Aside0.mk (Kd.R_below (rU HO531) hb); have n4_ := Aside0.mk (blk_below (g := gb534) (o := .cells #[.slice none 0 0, .slice none 0 0, .int .i64 0, .bool false] 25 (0, 0)) (by (with_reducible repeat (first | refine blk_drewN ?_ _ | refine blk_drew ?_ | refine blk_alloc ?_ _)); exact BK534.out) hb); have n5_ := Aside0.mk (below_step (bU HB) hb); have n6_ := Aside0.mk (hbox); have n7_ := Aside0.mk ((by rw [hg]; exact (below_size (bU HB)) : w.heap.size ≤ gb535)); have n8_ := Aside0.mk ((by rw [hg]; exact (below_size (bU HB)) : w.heap.size ≤ gb535)); have n9_ := Aside0.mk ((by rw [hg]; exact Nat.ne_of_lt (blk_lt (g := gb534) (o := .cells #[.slice none 0 0, .slice none 0 0, .int .i64 0, .bool false] 25 (0, 0)) (by (with_reducible repeat (first | refine blk_drewN ?_ _ | refine blk_drew ?_ | refine blk_alloc ?_ _)); exact BK534.out)) : gb534 ≠ gb535)); have n10_ := Aside0.mk ((by rw [hg]; exact Nat.ne_of_gt (blk_lt (g := gb534) (o := .cells #[.slice none 0 0, .slice none 0 0, .int .i64 0, .bool false] 25 (0, 0)) (by (with_reducible repeat (first | refine blk_drewN ?_ _ | refine blk_drew ?_ | refine blk_alloc ?_ _)); exact BK534.out)) : gb535 ≠ gb534)); clear HO520; clear HO523; clear HO528; clear HO531; clear BK534; clear HB; have HO520 := n0_; have HO523 := n1_; have HO528 := n2_; have HO531 := n3_; have BK534 := n4_; have HB := n5_; have BK535 := n6_; have GW535 := n7_; have GE535 := n8_; have NB534_535 := n9_; have NB535_534 := n10_; clear n0_ n1_ n2_ n3_ n4_ n5_ n6_ n7_ n8_ n9_ n10_; clear hb hbox hg; obtain ⟨Ao10, co10, eo10⟩ := Kd.R_slice HO520.out; subst eo10; have hnb11 := NB534_535.out; have hnc11 := NB535_534.out; have hcz12_0 : w9.cell? ⟨gb534, 0, none⟩ = some (.slice none 0 0) := (blk_cell BK534.out 0).trans rfl; have hcz12_1 : w9.cell? ⟨gb534, 1, none⟩ = some (.slice none 0 0) := (blk_cell BK534.out 1).trans rfl; have hcz12_2 : w9.cell? ⟨gb534, 2, none⟩ = some (.int .i64 0) := (blk_cell BK534.out 2).trans rfl; have hcz12_3 : w9.cell? ⟨gb534, 3, none⟩ = some (.bool false) := (blk_cell BK534.out 3).trans rfl; have hfz12_0 := blk_frozen BK534.out 0; have hfz12_1 := blk_frozen BK534.out 1; have hfz12_2 := blk_frozen BK534.out 2; have hfz12_3 := blk_frozen BK534.out 3; obtain ⟨Ao13, co13, eo13⟩ := Kd.R_slice HO523.out; subst eo13; obtain ⟨Ao14, co14, eo14⟩ := Kd.R_slice HO528.out; subst eo14; have hcz15_0 : w9.cell? ⟨gb535, 0, none⟩ = some (.slice none 0 0) := (blk_cell BK535.out 0).trans rfl; have hcz15_1 : w9.cell? ⟨gb535, 1, none⟩ = some (.slice none 0 0) := (blk_cell BK535.out 1).trans rfl; have hcz15_2 : w9.cell? ⟨gb535, 2, none⟩ = some (.int .i64 0) := (blk_cell BK535.out 2).trans rfl; have hcz15_3 : w9.cell? ⟨gb535, 3, none⟩ = some (.bool false) := (blk_cell BK535.out 3).trans rfl; have hfz15_0 := blk_frozen BK535.out 0; have hfz15_1 := blk_frozen BK535.out 1; have hfz15_2 := blk_frozen BK535.out 2; have hfz15_3 := blk_frozen BK535.out 3; obtain ⟨Ao16, co16, eo16⟩ := Kd.R_slice HO531.out; subst eo16))
 (try simp only [Act.put, List.setIfInBounds_toArray, List.set_cons_zero, List.set_cons_succ])
 go_cut [33] (fun v33 wc => ∃ (kq : Nat) (x33_4 : Bool), v33 = .bool x33_4 ∧ Aside0 (almanaclaw02_DevPlays.j0 kq l1 x33_4 t518 t521 t524 t525 t526 t529 t532 t533 = some r) ∧ Aside0 (kq ≤ k) ∧ Aside0 (Kd.R Kd.string 9 wc w.heap.size (fun k_ => some k_ ≠ ((.slice Ao14 t526.length co14) : Value).ownBlock) (.slice Ao10 t518.length co10) t518) ∧ Aside0 (Kd.R k40 40 wc w.heap.size (fun k_ => some k_ ≠ ((.slice Ao16 t529.length co16) : Value).ownBlock) (.slice Ao13 t521.length co13) t521) ∧ Aside0 (Kd.R Kd.string 9 wc w.heap.size (fun k_ => some k_ ≠ ((.slice Ao10 t518.length co10) : Value).ownBlock) (.slice Ao14 t526.length co14) t526) ∧ Aside0 (Kd.R k40 40 wc w.heap.size (fun k_ => some k_ ≠ ((.slice Ao13 t521.length co13) : Value).ownBlock) (.slice Ao16 t529.length co16) t529) ∧ Aside0 (wc.heap[gb534]? = some (.cells #[(.slice Ao10 t518.length co10), (.slice Ao13 t521.length co13), .int .i64 t524, .bool t525] 25 (0, 0))) ∧ Aside0 (wc.heap[gb535]? = some (.cells #[(.slice Ao14 t526.length co14), (.slice Ao16 t529.length co16), .int .i64 t532, .bool t533] 25 (0, 0))) ∧ Aside0 (Below w.heap.size w wc))
 case first =>
  have H := HC5.out
  clear HC5
  replace H := Option.bind_eq_some_iff.mp H
  obtain ⟨t536, A170, H⟩ := H
  replace H : (if t536 = true then ((almanacref02_Same.f k t518 t521 t524 t525 t526 t529 t532 t533).bind fun t537 => (almanaclaw02_DevPlays.j0 k l1 (!t537) t518 t521 t524 t525 t526 t529 t532 t533)) else (almanaclaw02_DevPlays.j0 k l1 true t518 t521 t524 t525 t526 t529 t532 t533)) = some r := H
  have A17 := Aside0.mk A170
  clear A170
  by_cases c18 : t536 = true
  ·subst c18
   have H1 : ((almanacref02_Same.f k t518 t521 t524 t525 t526 t529 t532 t533).bind fun t537 => (almanaclaw02_DevPlays.j0 k l1 (!t537) t518 t521 t524 t525 t526 t529 t532 t533)) = some r := by rw [if_pos rfl] at H; exact H
   clear H
   have H := H1
   clear H1
   replace H := Option.bind_eq_some_iff.mp H
   obtain ⟨t537, A190, H⟩ := H
   replace H : (almanaclaw02_DevPlays.j0 k l1 (!t537) t518 t521 t524 t525 t526 t529 t532 t533) = some r := H
   have A19 := Aside0.mk A190
   clear A190
   have H' := Aside0.mk H
   clear H
   have hnb20 := NB534_535.out
   have hnc20 := NB535_534.out
   obtain ⟨hcz21_0, hcz21_1, hcz21_2, hcz21_3, hfz21_0, hfz21_1, hfz21_2, hfz21_3⟩ := k4 BK534
   obtain ⟨hcz22_0, hcz22_1, hcz22_2, hcz22_3, hfz22_0, hfz22_1, hfz22_2, hfz22_3⟩ := k4 BK535
   go_wp2_with (first | ((with_reducible refine gate_callee (f := 19) rfl ?_); refine goesL_ (some 26) rfl rfl Try.func19 (by kernel_rfl) rfl #[.agg #[.slice Ao10 t518.length co10, .slice Ao13 t521.length co13, .int .i64 t524, .bool t525], .agg #[.slice Ao14 t526.length co14, .slice Ao16 t529.length co16, .int .i64 t532, .bool t533]] rfl (by (try simp only [List.map_toArray, List.map_cons, List.map_nil]); first | done | rfl | (simp only [List.length_drop, List.length_take]; rfl)) ?_; (with_reducible refine (dev_Same.calls k _ _ t518 _ _ t521 t524 t525 _ _ t526 _ _ t529 t532 t533 true _ ?side1 ?side2 ?side3 ?side4 ?side5 ?side6 ?side7 ?side8 A17.out).mono ?_); (case side1 => refine (Kd.R_reads' (e := 9) (base := w.heap.size) (ok := fun k_ => (True ∧ some k_ ≠ (.slice Ao14 t526.length co14 : Value).ownBlock)) (n := t518.length) (c := co10) ?_).2.2; exact (rF2 HO520 BK534 BK535)); (case side2 => exact (Kd.R_reads' HO520.out).2.1); (case side3 => refine (Kd.R_reads' (e := 40) (base := w.heap.size) (ok := fun k_ => (True ∧ some k_ ≠ (.slice Ao16 t529.length co16 : Value).ownBlock)) (n := t521.length) (c := co13) ?_).2.2; exact (rF2 HO523 BK534 BK535)); (case side4 => exact (Kd.R_reads' HO523.out).2.1); (case side5 => refine (Kd.R_reads' (e := 9) (base := w.heap.size) (ok := fun k_ => (True ∧ some k_ ≠ (.slice Ao10 t518.length co10 : Value).ownBlock)) (n := t526.length) (c := co14) ?_).2.2; exact (rF2 HO528 BK534 BK535)); (case side6 => exact (Kd.R_reads' HO528.out).2.1); (case side7 => refine (Kd.R_reads' (e := 40) (base := w.heap.size) (ok := fun k_ => (True ∧ some k_ ≠ (.slice Ao13 t521.length co13 : Value).ownBlock)) (n := t529.length) (c := co16) ?_).2.2; exact (rF2 HO531 BK534 BK535)); (case side8 => exact (Kd.R_reads' HO531.out).2.1); rintro e w23 ⟨rfl, hb⟩; refine ⟨_, rfl, ?_⟩; have n0_ := Aside0.mk (Kd.R_below (rF2 HO520 BK534 BK535) hb); have n1_ := Aside0.mk (Kd.R_below (rF2 HO523 BK534 BK535) hb); have n2_ := Aside0.mk (Kd.R_below (rF2 HO528 BK534 BK535) hb); have n3_ := Aside0.mk (Kd.R_below (rF2 HO531 BK534 BK535) hb); have n4_ := Aside0.mk (blk_below (g := gb534) (o := .cells #[.slice Ao10 t518.length co10, .slice Ao13 t521.length co13, .int .i64 t524, .bool t525] 25 (0, 0)) (by (with_reducible repeat (first | refine blk_drewN ?_ _ | refine blk_drew ?_ | refine blk_alloc ?_ _)); refine blk_far ?_ NB534_535.out _; (with_reducible repeat (first | refine blk_drewN ?_ _ | refine blk_drew ?_ | refine blk_alloc ?_ _)); refine blk_far ?_ NB534_535.out _; (with_reducible repeat (first | refine blk_drewN ?_ _ | refine blk_drew ?_ | refine blk_alloc ?_ _)); refine blk_far ?_ NB534_535.out _; (with_reducible repeat (first | refine blk_drewN ?_ _ | refine blk_drew ?_ | refine blk_alloc ?_ _)); refine blk_far ?_ NB534_535.out _; (with_reducible repeat (first | refine blk_drewN ?_ _ | refine blk_drew ?_ | refine blk_alloc ?_ _)); refine blk_put (cs := #[.slice Ao10 t518.length co10, .slice Ao13 t521.length co13, .int .i64 t524, .bool false]) ?_ 3 _ rfl; (with_reducible repeat (first | refine blk_drewN ?_ _ | refine blk_drew ?_ | refine blk_alloc ?_ _)); refine blk_put (cs := #[.slice Ao10 t518.length co10, .slice Ao13 t521.length co13, .int .i64 0, .bool false]) ?_ 2 _ rfl; (with_reducible repeat (first | refine blk_drewN ?_ _ | refine blk_drew ?_ | refine blk_alloc ?_ _)); refine blk_put (cs := #[.slice Ao10 t518.length co10, .slice none 0 0, .int .i64 0, .bool false]) ?_ 1 _ rfl; (with_reducible repeat (first | refine blk_drewN ?_ _ | refine blk_drew ?_ | refine blk_alloc ?_ _)); refine blk_put (cs := #[.slice none 0 0, .slice none 0 0, .int .i64 0, .bool false]) ?_ 0 _ rfl; (with_reducible repeat (first | refine blk_drewN ?_ _ | refine blk_drew ?_ | refine blk_alloc ?_ _)); exact BK534.out) hb); have n5_ := Aside0.mk (blk_below (g := gb535) (o := .cells #[.slice Ao14 t526.length co14, .slice Ao16 t529.length co16, .int .i64 t532, .bool t533] 25 (0, 0)) (by (with_reducible repeat (first | refine blk_drewN ?_ _ | refine blk_drew ?_ | refine blk_alloc ?_ _)); refine blk_put (cs := #[.slice Ao14 t526.length co14, .slice Ao16 t529.length co16, .int .i64 t532, .bool false]) ?_ 3 _ rfl; (with_reducible repeat (first | refine blk_drewN ?_ _ | refine blk_drew ?_ | refine blk_alloc ?_ _)); refine blk_put (cs := #[.slice Ao14 t526.length co14, .slice Ao16 t529.length co16, .int .i64 0, .bool false]) ?_ 2 _ rfl; (with_reducible repeat (first | refine blk_drewN ?_ _ | refine blk_drew ?_ | refine blk_alloc ?_ _)); refine blk_put (cs := #[.slice Ao14 t526.length co14, .slice none 0 0, .int .i64 0, .bool false]) ?_ 1 _ rfl; (with_reducible repeat (first | refine blk_drewN ?_ _ | refine blk_drew ?_ | refine blk_alloc ?_ _)); refine blk_put (cs := #[.slice none 0 0, .slice none 0 0, .int .i64 0, .bool false]) ?_ 0 _ rfl; (with_reducible repeat (first | refine blk_drewN ?_ _ | refine blk_drew ?_ | refine blk_alloc ?_ _)); refine blk_far ?_ NB535_534.out _; (with_reducible repeat (first | refine blk_drewN ?_ _ | refine blk_drew ?_ | refine blk_alloc ?_ _)); refine blk_far ?_ NB535_534.out _; (with_reducible repeat (first | refine blk_drewN ?_ _ | refine blk_drew ?_ | refine blk_alloc ?_ _)); refine blk_far ?_ NB535_534.out _; (with_reducible repeat (first | refine blk_drewN ?_ _ | refine blk_drew ?_ | refine blk_alloc ?_ _)); refine blk_far ?_ NB535_534.out _; (with_reducible repeat (first | refine blk_drewN ?_ _ | refine blk_drew ?_ | refine blk_alloc ?_ _)); exact BK535.out) hb); have n6_ := Aside0.mk (below_step (bU HB) hb); clear HO520; clear HO523; clear HO528; clear HO531; clear BK534; clear BK535; clear HB; have HO520 := n0_; have HO523 := n1_; have HO528 := n2_; have HO531 := n3_; have BK534 := n4_; have BK535 := n5_; have HB := n6_; clear n0_ n1_ n2_ n3_ n4_ n5_ n6_; (try clear hb); (try clear hb2); (try clear hk); (try clear hi); have hcz24_0 : w23.cell? ⟨gb534, 0, none⟩ = some (.slice Ao10 t518.length co10) := (blk_cell BK534.out 0).trans rfl; have hcz24_1 : w23.cell? ⟨gb534, 1, none⟩ = some (.slice Ao13 t521.length co13) := (blk_cell BK534.out 1).trans rfl; have hcz24_2 : w23.cell? ⟨gb534, 2, none⟩ = some (.int .i64 t524) := (blk_cell BK534.out 2).trans rfl; have hcz24_3 : w23.cell? ⟨gb534, 3, none⟩ = some (.bool t525) := (blk_cell BK534.out 3).trans rfl; have hfz24_0 := blk_frozen BK534.out 0; have hfz24_1 := blk_frozen BK534.out 1; have hfz24_2 := blk_frozen BK534.out 2; have hfz24_3 := blk_frozen BK534.out 3; have hcz25_0 : w23.cell? ⟨gb535, 0, none⟩ = some (.slice Ao14 t526.length co14) := (blk_cell BK535.out 0).trans rfl; have hcz25_1 : w23.cell? ⟨gb535, 1, none⟩ = some (.slice Ao16 t529.length co16) := (blk_cell BK535.out 1).trans rfl; have hcz25_2 : w23.cell? ⟨gb535, 2, none⟩ = some (.int .i64 t532) := (blk_cell BK535.out 2).trans rfl; have hcz25_3 : w23.cell? ⟨gb535, 3, none⟩ = some (.bool t533) := (blk_cell BK535.out 3).trans rfl; have hfz25_0 := blk_frozen BK535.out 0; have hfz25_1 := blk_frozen BK535.out 1; have hfz25_2 := blk_frozen BK535.out 2; have hfz25_3 := blk_frozen BK535.out 3) | (go_at_call 14; (with_reducible refine (almanacref02_Same.calls k _ _ t518 _ _ t521 t524 t525 _ _ t526 _ _ t529 t532 t533 t537 _ ?side1 ?side2 ?side3 ?side4 ?side5 ?side6 ?side7 ?side8 A19.out).mono ?_); (case side1 => exact cU (Kd.R_reads' HO520.out).2.2); (case side2 => exact (Kd.R_reads' HO520.out).2.1); (case side3 => exact cU (Kd.R_reads' HO523.out).2.2); (case side4 => exact (Kd.R_reads' HO523.out).2.1); (case side5 => exact cU (Kd.R_reads' HO528.out).2.2); (case side6 => exact (Kd.R_reads' HO528.out).2.1); (case side7 => exact cU (Kd.R_reads' HO531.out).2.2); (case side8 => exact (Kd.R_reads' HO531.out).2.1); rintro e w26 ⟨rfl, hb⟩; have n0_ := Aside0.mk (Kd.R_below (rU HO520) hb); have n1_ := Aside0.mk (Kd.R_below (rU HO523) hb); have n2_ := Aside0.mk (Kd.R_below (rU HO528) hb); have n3_ := Aside0.mk (Kd.R_below (rU HO531) hb); have n4_ := Aside0.mk (blk_below (g := gb534) (o := .cells #[.slice Ao10 t518.length co10, .slice Ao13 t521.length co13, .int .i64 t524, .bool t525] 25 (0, 0)) (by (with_reducible repeat (first | refine blk_drewN ?_ _ | refine blk_drew ?_ | refine blk_alloc ?_ _)); exact BK534.out) hb); have n5_ := Aside0.mk (blk_below (g := gb535) (o := .cells #[.slice Ao14 t526.length co14, .slice Ao16 t529.length co16, .int .i64 t532, .bool t533] 25 (0, 0)) (by (with_reducible repeat (first | refine blk_drewN ?_ _ | refine blk_drew ?_ | refine blk_alloc ?_ _)); exact BK535.out) hb); have n6_ := Aside0.mk (below_step (bU HB) hb); clear HO520; clear HO523; clear HO528; clear HO531; clear BK534; clear BK535; clear HB; have HO520 := n0_; have HO523 := n1_; have HO528 := n2_; have HO531 := n3_; have BK534 := n4_; have BK535 := n5_; have HB := n6_; clear n0_ n1_ n2_ n3_ n4_ n5_ n6_; (try clear hb); (try clear hb2); (try clear hk); (try clear hi)))
   go_meet
   case rel => exact ⟨_, (!t537), (by first | rfl | (simp; done) | (simp [*]; done)), H', ⟨by first | omega | exact Nat.le_refl _⟩, ⟨by (with_reducible repeat (first | apply Kd.R_alloc | apply Kd.R_drewN | apply Kd.R_drew)); exact Kd.R_mono HO520.out (fun _ hk => hk.2)⟩, ⟨by (with_reducible repeat (first | apply Kd.R_alloc | apply Kd.R_drewN | apply Kd.R_drew)); exact Kd.R_mono HO523.out (fun _ hk => hk.2)⟩, ⟨by (with_reducible repeat (first | apply Kd.R_alloc | apply Kd.R_drewN | apply Kd.R_drew)); exact Kd.R_mono HO528.out (fun _ hk => hk.2)⟩, ⟨by (with_reducible repeat (first | apply Kd.R_alloc | apply Kd.R_drewN | apply Kd.R_drew)); exact Kd.R_mono HO531.out (fun _ hk => hk.2)⟩, ⟨by (with_reducible repeat (first | refine blk_drewN ?_ _ | refine blk_drew ?_ | refine blk_alloc ?_ _)); exact BK534.out⟩, ⟨by (with_reducible repeat (first | refine blk_drewN ?_ _ | refine blk_drew ?_ | refine blk_alloc ?_ _)); exact BK535.out⟩, ⟨bU HB⟩⟩
  ·replace c18 := Bool.eq_false_iff.mpr c18
   subst c18
   have H1 : (almanaclaw02_DevPlays.j0 k l1 true t518 t521 t524 t525 t526 t529 t532 t533) = some r := by rw [if_neg (show ¬ (false = true) by decide)] at H; exact H
   clear H
   have H := H1
   clear H1
   have H' := Aside0.mk H
   clear H
   have hnb27 := NB534_535.out
   have hnc27 := NB535_534.out
   obtain ⟨hcz28_0, hcz28_1, hcz28_2, hcz28_3, hfz28_0, hfz28_1, hfz28_2, hfz28_3⟩ := k4 BK534
   obtain ⟨hcz29_0, hcz29_1, hcz29_2, hcz29_3, hfz29_0, hfz29_1, hfz29_2, hfz29_3⟩ := k4 BK535
   go_wp2_with (first | ((with_reducible refine gate_callee (f := 19) rfl ?_); refine goesL_ (some 26) rfl rfl Try.func19 (by kernel_rfl) rfl #[.agg #[.slice Ao10 t518.length co10, .slice Ao13 t521.length co13, .int .i64 t524, .bool t525], .agg #[.slice Ao14 t526.length co14, .slice Ao16 t529.length co16, .int .i64 t532, .bool t533]] rfl (by (try simp only [List.map_toArray, List.map_cons, List.map_nil]); first | done | rfl | (simp only [List.length_drop, List.length_take]; rfl)) ?_; (with_reducible refine (dev_Same.calls k _ _ t518 _ _ t521 t524 t525 _ _ t526 _ _ t529 t532 t533 false _ ?side1 ?side2 ?side3 ?side4 ?side5 ?side6 ?side7 ?side8 A17.out).mono ?_); (case side1 => refine (Kd.R_reads' (e := 9) (base := w.heap.size) (ok := fun k_ => (True ∧ some k_ ≠ (.slice Ao14 t526.length co14 : Value).ownBlock)) (n := t518.length) (c := co10) ?_).2.2; exact (rF2 HO520 BK534 BK535)); (case side2 => exact (Kd.R_reads' HO520.out).2.1); (case side3 => refine (Kd.R_reads' (e := 40) (base := w.heap.size) (ok := fun k_ => (True ∧ some k_ ≠ (.slice Ao16 t529.length co16 : Value).ownBlock)) (n := t521.length) (c := co13) ?_).2.2; exact (rF2 HO523 BK534 BK535)); (case side4 => exact (Kd.R_reads' HO523.out).2.1); (case side5 => refine (Kd.R_reads' (e := 9) (base := w.heap.size) (ok := fun k_ => (True ∧ some k_ ≠ (.slice Ao10 t518.length co10 : Value).ownBlock)) (n := t526.length) (c := co14) ?_).2.2; exact (rF2 HO528 BK534 BK535)); (case side6 => exact (Kd.R_reads' HO528.out).2.1); (case side7 => refine (Kd.R_reads' (e := 40) (base := w.heap.size) (ok := fun k_ => (True ∧ some k_ ≠ (.slice Ao13 t521.length co13 : Value).ownBlock)) (n := t529.length) (c := co16) ?_).2.2; exact (rF2 HO531 BK534 BK535)); (case side8 => exact (Kd.R_reads' HO531.out).2.1); rintro e w30 ⟨rfl, hb⟩; refine ⟨_, rfl, ?_⟩; have n0_ := Aside0.mk (Kd.R_below (rF2 HO520 BK534 BK535) hb); have n1_ := Aside0.mk (Kd.R_below (rF2 HO523 BK534 BK535) hb); have n2_ := Aside0.mk (Kd.R_below (rF2 HO528 BK534 BK535) hb); have n3_ := Aside0.mk (Kd.R_below (rF2 HO531 BK534 BK535) hb); have n4_ := Aside0.mk (blk_below (g := gb534) (o := .cells #[.slice Ao10 t518.length co10, .slice Ao13 t521.length co13, .int .i64 t524, .bool t525] 25 (0, 0)) (by (with_reducible repeat (first | refine blk_drewN ?_ _ | refine blk_drew ?_ | refine blk_alloc ?_ _)); refine blk_far ?_ NB534_535.out _; (with_reducible repeat (first | refine blk_drewN ?_ _ | refine blk_drew ?_ | refine blk_alloc ?_ _)); refine blk_far ?_ NB534_535.out _; (with_reducible repeat (first | refine blk_drewN ?_ _ | refine blk_drew ?_ | refine blk_alloc ?_ _)); refine blk_far ?_ NB534_535.out _; (with_reducible repeat (first | refine blk_drewN ?_ _ | refine blk_drew ?_ | refine blk_alloc ?_ _)); refine blk_far ?_ NB534_535.out _; (with_reducible repeat (first | refine blk_drewN ?_ _ | refine blk_drew ?_ | refine blk_alloc ?_ _)); refine blk_put (cs := #[.slice Ao10 t518.length co10, .slice Ao13 t521.length co13, .int .i64 t524, .bool false]) ?_ 3 _ rfl; (with_reducible repeat (first | refine blk_drewN ?_ _ | refine blk_drew ?_ | refine blk_alloc ?_ _)); refine blk_put (cs := #[.slice Ao10 t518.length co10, .slice Ao13 t521.length co13, .int .i64 0, .bool false]) ?_ 2 _ rfl; (with_reducible repeat (first | refine blk_drewN ?_ _ | refine blk_drew ?_ | refine blk_alloc ?_ _)); refine blk_put (cs := #[.slice Ao10 t518.length co10, .slice none 0 0, .int .i64 0, .bool false]) ?_ 1 _ rfl; (with_reducible repeat (first | refine blk_drewN ?_ _ | refine blk_drew ?_ | refine blk_alloc ?_ _)); refine blk_put (cs := #[.slice none 0 0, .slice none 0 0, .int .i64 0, .bool false]) ?_ 0 _ rfl; (with_reducible repeat (first | refine blk_drewN ?_ _ | refine blk_drew ?_ | refine blk_alloc ?_ _)); exact BK534.out) hb); have n5_ := Aside0.mk (blk_below (g := gb535) (o := .cells #[.slice Ao14 t526.length co14, .slice Ao16 t529.length co16, .int .i64 t532, .bool t533] 25 (0, 0)) (by (with_reducible repeat (first | refine blk_drewN ?_ _ | refine blk_drew ?_ | refine blk_alloc ?_ _)); refine blk_put (cs := #[.slice Ao14 t526.length co14, .slice Ao16 t529.length co16, .int .i64 t532, .bool false]) ?_ 3 _ rfl; (with_reducible repeat (first | refine blk_drewN ?_ _ | refine blk_drew ?_ | refine blk_alloc ?_ _)); refine blk_put (cs := #[.slice Ao14 t526.length co14, .slice Ao16 t529.length co16, .int .i64 0, .bool false]) ?_ 2 _ rfl; (with_reducible repeat (first | refine blk_drewN ?_ _ | refine blk_drew ?_ | refine blk_alloc ?_ _)); refine blk_put (cs := #[.slice Ao14 t526.length co14, .slice none 0 0, .int .i64 0, .bool false]) ?_ 1 _ rfl; (with_reducible repeat (first | refine blk_drewN ?_ _ | refine blk_drew ?_ | refine blk_alloc ?_ _)); refine blk_put (cs := #[.slice none 0 0, .slice none 0 0, .int .i64 0, .bool false]) ?_ 0 _ rfl; (with_reducible repeat (first | refine blk_drewN ?_ _ | refine blk_drew ?_ | refine blk_alloc ?_ _)); refine blk_far ?_ NB535_534.out _; (with_reducible repeat (first | refine blk_drewN ?_ _ | refine blk_drew ?_ | refine blk_alloc ?_ _)); refine blk_far ?_ NB535_534.out _; (with_reducible repeat (first | refine blk_drewN ?_ _ | refine blk_drew ?_ | refine blk_alloc ?_ _)); refine blk_far ?_ NB535_534.out _; (with_reducible repeat (first | refine blk_drewN ?_ _ | refine blk_drew ?_ | refine blk_alloc ?_ _)); refine blk_far ?_ NB535_534.out _; (with_reducible repeat (first | refine blk_drewN ?_ _ | refine blk_drew ?_ | refine blk_alloc ?_ _)); exact BK535.out) hb); have n6_ := Aside0.mk (below_step (bU HB) hb); clear HO520; clear HO523; clear HO528; clear HO531; clear BK534; clear BK535; clear HB; have HO520 := n0_; have HO523 := n1_; have HO528 := n2_; have HO531 := n3_; have BK534 := n4_; have BK535 := n5_; have HB := n6_; clear n0_ n1_ n2_ n3_ n4_ n5_ n6_; (try clear hb); (try clear hb2); (try clear hk); (try clear hi)))
   go_meet
   case rel => exact ⟨_, (true), (by first | rfl | (simp; done) | (simp [*]; done)), H', ⟨by first | omega | exact Nat.le_refl _⟩, ⟨by (with_reducible repeat (first | apply Kd.R_alloc | apply Kd.R_drewN | apply Kd.R_drew)); exact Kd.R_mono HO520.out (fun _ hk => hk.2)⟩, ⟨by (with_reducible repeat (first | apply Kd.R_alloc | apply Kd.R_drewN | apply Kd.R_drew)); exact Kd.R_mono HO523.out (fun _ hk => hk.2)⟩, ⟨by (with_reducible repeat (first | apply Kd.R_alloc | apply Kd.R_drewN | apply Kd.R_drew)); exact Kd.R_mono HO528.out (fun _ hk => hk.2)⟩, ⟨by (with_reducible repeat (first | apply Kd.R_alloc | apply Kd.R_drewN | apply Kd.R_drew)); exact Kd.R_mono HO531.out (fun _ hk => hk.2)⟩, ⟨by (with_reducible repeat (first | refine blk_drewN ?_ _ | refine blk_drew ?_ | refine blk_alloc ?_ _)); exact BK534.out⟩, ⟨by (with_reducible repeat (first | refine blk_drewN ?_ _ | refine blk_drew ?_ | refine blk_alloc ?_ _)); exact BK535.out⟩, ⟨bU HB⟩⟩
 case rest =>
  clear HC5
  try clear c1
  try clear c2
  try clear p2
  try clear c5
  try clear c11
  try clear c17
  try clear c18
  try clear c19
  try clear c20
  try clear c27
  try clear hcz12_0 hcz12_1 hcz12_2 hcz12_3 hfz12_0 hfz12_1 hfz12_2 hfz12_3
  try clear hcz15_0 hcz15_1 hcz15_2 hcz15_3 hfz15_0 hfz15_1 hfz15_2 hfz15_3
  try clear hcz21_0 hcz21_1 hcz21_2 hcz21_3 hfz21_0 hfz21_1 hfz21_2 hfz21_3
  try clear hcz22_0 hcz22_1 hcz22_2 hcz22_3 hfz22_0 hfz22_1 hfz22_2 hfz22_3
  try clear hcz24_0 hcz24_1 hcz24_2 hcz24_3 hfz24_0 hfz24_1 hfz24_2 hfz24_3
  try clear hcz25_0 hcz25_1 hcz25_2 hcz25_3 hfz25_0 hfz25_1 hfz25_2 hfz25_3
  try clear hcz28_0 hcz28_1 hcz28_2 hcz28_3 hfz28_0 hfz28_1 hfz28_2 hfz28_3
  try clear hcz29_0 hcz29_1 hcz29_2 hcz29_3 hfz29_0 hfz29_1 hfz29_2 hfz29_3
  obtain ⟨kq, x33_4, rfl, HA, HJ4, HO_535000, HO_535001, HO_536000, HO_536001, BK534, BK535, HB⟩ := hcut
  cases kq with
  | zero => exact absurd HA.out (by simp [almanaclaw02_DevPlays.j0])
  | succ kj4 =>
   have H := HA.out
   clear HA
   simp only [almanaclaw02_DevPlays.j0] at H
   by_cases c31 : x33_4 = true
   ·subst c31
    have H1 : (some false) = some r := by rw [if_pos rfl] at H; exact H
    clear H
    have H := H1
    clear H1
    exact absurd ((Option.some.inj H).trans HRT.out) (by decide)
   ·replace c31 := Bool.eq_false_iff.mpr c31
    subst c31
    have H1 : (almanaclaw02_DevPlays.l0 kj4 l1 (l1.length : Int) 0 t518 t521 t524 t525 t526 t529 t532 t533) = some r := by rw [if_neg (show ¬ (false = true) by decide)] at H; exact H
    clear H
    have H := H1
    clear H1
    have H' := Aside0.mk H
    clear H
    go_wp2
    go_loopg [36] kj4 (fun kq v36 w' => ∃ (x36_2 : Int) (x535000_2 : List ByteArray) (x535001_2 : List (S40)) (x535002_2 : Int) (x535003_2 : Bool) (x536000_2 : List ByteArray) (x536001_2 : List (S40)) (x536002_2 : Int) (x536003_2 : Bool) (u535000 : Value) (u535001 : Value) (u536000 : Value) (u536001 : Value), v36 = .int .i64 x36_2 ∧ Aside0 (almanaclaw02_DevPlays.l0 kq l1 (l1.length : Int) x36_2 x535000_2 x535001_2 x535002_2 x535003_2 x536000_2 x536001_2 x536002_2 x536003_2 = some r) ∧ Aside0 (kq ≤ kj4) ∧ Aside0 (Kd.R Kd.string 9 w' w.heap.size (fun k_ => some k_ ≠ (u536000 : Value).ownBlock) u535000 x535000_2) ∧ Aside0 (Kd.R k40 40 w' w.heap.size (fun k_ => some k_ ≠ (u536001 : Value).ownBlock) u535001 x535001_2) ∧ Aside0 (Kd.R Kd.string 9 w' w.heap.size (fun k_ => some k_ ≠ (u535000 : Value).ownBlock) u536000 x536000_2) ∧ Aside0 (Kd.R k40 40 w' w.heap.size (fun k_ => some k_ ≠ (u535001 : Value).ownBlock) u536001 x536001_2) ∧ Aside0 (w'.heap[gb534]? = some (.cells #[u535000, u535001, .int .i64 x535002_2, .bool x535003_2] 25 (0, 0))) ∧ Aside0 (w'.heap[gb535]? = some (.cells #[u536000, u536001, .int .i64 x536002_2, .bool x536003_2] 25 (0, 0))) ∧ Aside0 (Below w.heap.size w w'))
    case atStart => exact ⟨(0), (t518), (t521), (t524), (t525), (t526), (t529), (t532), (t533), (.slice Ao10 t518.length co10), (.slice Ao13 t521.length co13), (.slice Ao14 t526.length co14), (.slice Ao16 t529.length co16), (by first | rfl | (simp; done) | (simp [*]; done)), H', ⟨Nat.le_refl _⟩, ⟨rU HO_535000⟩, ⟨rU HO_535001⟩, ⟨rU HO_536000⟩, ⟨rU HO_536001⟩, ⟨by (with_reducible repeat (first | refine blk_drewN ?_ _ | refine blk_drew ?_ | refine blk_alloc ?_ _)); exact BK534.out⟩, ⟨by (with_reducible repeat (first | refine blk_drewN ?_ _ | refine blk_drew ?_ | refine blk_alloc ?_ _)); exact BK535.out⟩, ⟨bU HB⟩⟩
    case round =>
     clear H'
     try clear c1
     try clear c2
     try clear p2
     try clear c3
     try clear c5
     try clear c11
     try clear c17
     try clear c18
     try clear c19
     try clear c20
     try clear c27
     try clear c31
     try clear hcz12_0 hcz12_1 hcz12_2 hcz12_3 hfz12_0 hfz12_1 hfz12_2 hfz12_3
     try clear hcz15_0 hcz15_1 hcz15_2 hcz15_3 hfz15_0 hfz15_1 hfz15_2 hfz15_3
     try clear hcz21_0 hcz21_1 hcz21_2 hcz21_3 hfz21_0 hfz21_1 hfz21_2 hfz21_3
     try clear hcz22_0 hcz22_1 hcz22_2 hcz22_3 hfz22_0 hfz22_1 hfz22_2 hfz22_3
     try clear hcz24_0 hcz24_1 hcz24_2 hcz24_3 hfz24_0 hfz24_1 hfz24_2 hfz24_3
     try clear hcz25_0 hcz25_1 hcz25_2 hcz25_3 hfz25_0 hfz25_1 hfz25_2 hfz25_3
     try clear hcz28_0 hcz28_1 hcz28_2 hcz28_3 hfz28_0 hfz28_1 hfz28_2 hfz28_3
     try clear hcz29_0 hcz29_1 hcz29_2 hcz29_3 hfz29_0 hfz29_1 hfz29_2 hfz29_3
     try clear p2
     obtain ⟨x36_2, x535000_2, x535001_2, x535002_2, x535003_2, x536000_2, x536001_2, x536002_2, x536003_2, u535000, u535001, u536000, u536001, rfl, HA, HK2, HO_535000, HO_535001, HO_536000, HO_536001, BK534, BK535, HB⟩ := hrel
     cases gk with
     | zero => exact absurd HA.out (by simp [almanaclaw02_DevPlays.l0])
     | succ k2 =>
      have H := HA.out
      clear HA
      simp only [almanaclaw02_DevPlays.l0] at H
      by_cases c32 : x36_2 < (l1.length : Int)
      ·rw [if_pos c32] at H
       have c32b0 : decide (x36_2 < (l1.length : Int)) = true := decide_eq_true c32
       clear c32
       by_cases c33 : 0 ≤ x36_2
       ·rw [if_pos c33] at H
        have c33b0 : decide (0 ≤ x36_2) = true := decide_eq_true c33
        clear c33
        by_cases c34 : x36_2 < (l1.length : Int)
        ·rw [if_pos c34] at H
         have c34b0 : decide (x36_2 < (l1.length : Int)) = true := decide_eq_true c34
         clear c34
         have HC35 := Aside0.mk H
         clear H
         have p539 : 0 ≤ (x36_2 : Int) := of_decide_eq_true (by first | (with_reducible assumption) | assumption)
         have q539 : x36_2 < (l1.length : Int) := of_decide_eq_true (by first | (with_reducible assumption) | assumption)
         obtain ⟨ad539, A539_3, c539_3, e539, hx539_0, hx539_1, hx539_2, hx539_3, hl539_3, hi539_3⟩ := at_T45 HR1.out x36_2 p539 q539
         cases e539
         replace hx539_0 := (HB.out.cell (World.block_lt_of_cell? w _ hx539_0)).trans hx539_0
         replace hx539_1 := (HB.out.cell (World.block_lt_of_cell? w _ hx539_1)).trans hx539_1
         replace hx539_2 := (HB.out.cell (World.block_lt_of_cell? w _ hx539_2)).trans hx539_2
         replace hx539_3 := (HB.out.cell (World.block_lt_of_cell? w _ hx539_3)).trans hx539_3
         have HR539_3 := Aside0.mk hi539_3
         have HC539_3 := Aside0.mk hl539_3
         clear hi539_3 hl539_3
         replace p539 := eq_true p539
         replace q539 := eq_true q539
         go_upto_region 7 with (first | ((with_reducible refine gate_dst (N := 8) rfl ?_); refine box_event ?hg (N := 8) ?hd (cs := #[.int .i64 0, .int .i64 0, .string (⟨#[]⟩ : ByteArray), .slice none 0 0]) (t := 45) ?hr ?_; (case hd => rfl); (case hg => rfl); (case hr => first | (go_simp; done) | (go_simp; rfl)); intro gb540 hg w36 hbox hb; have n0_ := Aside0.mk (Kd.R_below (rU HO_535000) hb); have n1_ := Aside0.mk (Kd.R_below (rU HO_535001) hb); have n2_ := Aside0.mk (Kd.R_below (rU HO_536000) hb); have n3_ := Aside0.mk (Kd.R_below (rU HO_536001) hb); have n4_ := Aside0.mk (blk_below (g := gb534) (o := .cells #[u535000, u535001, .int .i64 x535002_2, .bool x535003_2] 25 (0, 0)) (by (with_reducible repeat (first | refine blk_drewN ?_ _ | refine blk_drew ?_ | refine blk_alloc ?_ _)); exact BK534.out) hb); have n5_ := Aside0.mk (blk_below (g := gb535) (o := .cells #[u536000, u536001, .int .i64 x536002_2, .bool x536003_2] 25 (0, 0)) (by (with_reducible repeat (first | refine blk_drewN ?_ _ | refine blk_drew ?_ | refine blk_alloc ?_ _)); exact BK535.out) hb); have n6_ := Aside0.mk (below_step (bU HB) hb); have n7_ := Aside0.mk (hbox); have n8_ := Aside0.mk ((by rw [hg]; exact (below_size (bU HB)) : w.heap.size ≤ gb540)); have n9_ := Aside0.mk ((by rw [hg]; exact (below_size (bU HB)) : w.heap.size ≤ gb540)); have n10_ := Aside0.mk ((by rw [hg]; exact Nat.ne_of_lt (blk_lt (g := gb534) (o := .cells #[u535000, u535001, .int .i64 x535002_2, .bool x535003_2] 25 (0, 0)) (by (with_reducible repeat (first | refine blk_drewN ?_ _ | refine blk_drew ?_ | refine blk_alloc ?_ _)); exact BK534.out)) : gb534 ≠ gb540)); have n11_ := Aside0.mk ((by rw [hg]; exact Nat.ne_of_gt (blk_lt (g := gb534) (o := .cells #[u535000, u535001, .int .i64 x535002_2, .bool x535003_2] 25 (0, 0)) (by (with_reducible repeat (first | refine blk_drewN ?_ _ | refine blk_drew ?_ | refine blk_alloc ?_ _)); exact BK534.out)) : gb540 ≠ gb534)); have n12_ := Aside0.mk ((by rw [hg]; exact Nat.ne_of_lt (blk_lt (g := gb535) (o := .cells #[u536000, u536001, .int .i64 x536002_2, .bool x536003_2] 25 (0, 0)) (by (with_reducible repeat (first | refine blk_drewN ?_ _ | refine blk_drew ?_ | refine blk_alloc ?_ _)); exact BK535.out)) : gb535 ≠ gb540)); have n13_ := Aside0.mk ((by rw [hg]; exact Nat.ne_of_gt (blk_lt (g := gb535) (o := .cells #[u536000, u536001, .int .i64 x536002_2, .bool x536003_2] 25 (0, 0)) (by (with_reducible repeat (first | refine blk_drewN ?_ _ | refine blk_drew ?_ | refine blk_alloc ?_ _)); exact BK535.out)) : gb540 ≠ gb535)); clear HO_535000; clear HO_535001; clear HO_536000; clear HO_536001; clear BK534; clear BK535; clear HB; have HO_535000 := n0_; have HO_535001 := n1_; have HO_536000 := n2_; have HO_536001 := n3_; have BK534 := n4_; have BK535 := n5_; have HB := n6_; have BK540 := n7_; have GW540 := n8_; have GE540 := n9_; have NB534_540 := n10_; have NB540_534 := n11_; have NB535_540 := n12_; have NB540_535 := n13_; clear n0_ n1_ n2_ n3_ n4_ n5_ n6_ n7_ n8_ n9_ n10_ n11_ n12_ n13_; clear hb hbox hg; have hnb37 := NB540_534.out; have hnc37 := NB534_540.out; have hnb38 := NB540_535.out; have hnc38 := NB535_540.out; have hcz39_0 : w36.cell? ⟨gb540, 0, none⟩ = some (.int .i64 0) := (blk_cell BK540.out 0).trans rfl; have hcz39_1 : w36.cell? ⟨gb540, 1, none⟩ = some (.int .i64 0) := (blk_cell BK540.out 1).trans rfl; have hcz39_2 : w36.cell? ⟨gb540, 2, none⟩ = some (.string (⟨#[]⟩ : ByteArray)) := (blk_cell BK540.out 2).trans rfl; have hcz39_3 : w36.cell? ⟨gb540, 3, none⟩ = some (.slice none 0 0) := (blk_cell BK540.out 3).trans rfl; have hfz39_0 := blk_frozen BK540.out 0; have hfz39_1 := blk_frozen BK540.out 1; have hfz39_2 := blk_frozen BK540.out 2; have hfz39_3 := blk_frozen BK540.out 3))
         (try simp only [Act.put, List.setIfInBounds_toArray, List.set_cons_zero, List.set_cons_succ])
         go_cut [48] (fun v48 wc => ∃ (kq : Nat) (x48_34 : Bool), v48 = .bool x48_34 ∧ Aside0 (almanaclaw02_DevPlays.j2 kq l1 (l1.length : Int) x36_2 x48_34 x535000_2 x535001_2 x535002_2 x535003_2 x536000_2 x536001_2 x536002_2 x536003_2 ((rd_T45 l1 x36_2).f0) ((rd_T45 l1 x36_2).f1) ((rd_T45 l1 x36_2).f2) ((rd_T45 l1 x36_2).f3) = some r) ∧ Aside0 (kq ≤ k2) ∧ Aside0 (Kd.R Kd.string 9 wc w.heap.size (fun k_ => some k_ ≠ (u536000 : Value).ownBlock) u535000 x535000_2) ∧ Aside0 (Kd.R k40 40 wc w.heap.size (fun k_ => some k_ ≠ (u536001 : Value).ownBlock) u535001 x535001_2) ∧ Aside0 (Kd.R Kd.string 9 wc w.heap.size (fun k_ => some k_ ≠ (u535000 : Value).ownBlock) u536000 x536000_2) ∧ Aside0 (Kd.R k40 40 wc w.heap.size (fun k_ => some k_ ≠ (u535001 : Value).ownBlock) u536001 x536001_2) ∧ Aside0 (wc.heap[gb534]? = some (.cells #[u535000, u535001, .int .i64 x535002_2, .bool x535003_2] 25 (0, 0))) ∧ Aside0 (wc.heap[gb535]? = some (.cells #[u536000, u536001, .int .i64 x536002_2, .bool x536003_2] 25 (0, 0))) ∧ Aside0 (wc.heap[gb540]? = some (.cells #[.int .i64 ((rd_T45 l1 x36_2).f0), .int .i64 ((rd_T45 l1 x36_2).f1), .string ((rd_T45 l1 x36_2).f2), (.slice A539_3 ((rd_T45 l1 x36_2).f3).length c539_3)] 45 (0, 0))) ∧ Aside0 (Below w.heap.size w wc))
         case first =>
          have H := HC35.out
          clear HC35
          replace H := Option.bind_eq_some_iff.mp H
          obtain ⟨t541, A400, H⟩ := H
          replace H : (if t541 = true then ((almanacref02_Same.f k2 x535000_2 x535001_2 x535002_2 x535003_2 x536000_2 x536001_2 x536002_2 x536003_2).bind fun t542 => (almanaclaw02_DevPlays.j2 k2 l1 (l1.length : Int) x36_2 (!t542) x535000_2 x535001_2 x535002_2 x535003_2 x536000_2 x536001_2 x536002_2 x536003_2 ((rd_T45 l1 x36_2).f0) ((rd_T45 l1 x36_2).f1) ((rd_T45 l1 x36_2).f2) ((rd_T45 l1 x36_2).f3))) else (almanaclaw02_DevPlays.j2 k2 l1 (l1.length : Int) x36_2 true x535000_2 x535001_2 x535002_2 x535003_2 x536000_2 x536001_2 x536002_2 x536003_2 ((rd_T45 l1 x36_2).f0) ((rd_T45 l1 x36_2).f1) ((rd_T45 l1 x36_2).f2) ((rd_T45 l1 x36_2).f3))) = some r := H
          have A40 := Aside0.mk A400
          clear A400
          by_cases c41 : t541 = true
          ·subst c41
           have H1 : ((almanacref02_Same.f k2 x535000_2 x535001_2 x535002_2 x535003_2 x536000_2 x536001_2 x536002_2 x536003_2).bind fun t542 => (almanaclaw02_DevPlays.j2 k2 l1 (l1.length : Int) x36_2 (!t542) x535000_2 x535001_2 x535002_2 x535003_2 x536000_2 x536001_2 x536002_2 x536003_2 ((rd_T45 l1 x36_2).f0) ((rd_T45 l1 x36_2).f1) ((rd_T45 l1 x36_2).f2) ((rd_T45 l1 x36_2).f3))) = some r := by rw [if_pos rfl] at H; exact H
           clear H
           have H := H1
           clear H1
           replace H := Option.bind_eq_some_iff.mp H
           obtain ⟨t542, A420, H⟩ := H
           replace H : (almanaclaw02_DevPlays.j2 k2 l1 (l1.length : Int) x36_2 (!t542) x535000_2 x535001_2 x535002_2 x535003_2 x536000_2 x536001_2 x536002_2 x536003_2 ((rd_T45 l1 x36_2).f0) ((rd_T45 l1 x36_2).f1) ((rd_T45 l1 x36_2).f2) ((rd_T45 l1 x36_2).f3)) = some r := H
           have A42 := Aside0.mk A420
           clear A420
           have H' := Aside0.mk H
           clear H
           have hnb43 := NB535_534.out
           have hnc43 := NB534_535.out
           have hnb44 := NB535_540.out
           have hnc44 := NB540_535.out
           obtain ⟨hcz45_0, hcz45_1, hcz45_2, hcz45_3, hfz45_0, hfz45_1, hfz45_2, hfz45_3⟩ := k4 BK535
           obtain ⟨Ao46, co46, eo46⟩ := Kd.R_slice HO_536000.out
           subst eo46
           obtain ⟨Ao47, co47, eo47⟩ := Kd.R_slice HO_536001.out
           subst eo47
           go_wp2_with (first | ((with_reducible refine gate_callee (f := 7) rfl ?_); refine goesL_ (some 41) rfl rfl Try.func7 (by kernel_rfl) rfl #[.agg #[.slice Ao46 x536000_2.length co46, .slice Ao47 x536001_2.length co47, .int .i64 x536002_2, .bool x536003_2]] rfl (by (try simp only [List.map_toArray, List.map_cons, List.map_nil]); first | done | rfl | (simp only [List.length_drop, List.length_take]; rfl)) ?_; (with_reducible refine (almanacref02_Fit.calls k2 _ _ x536000_2 _ _ x536001_2 x536002_2 x536003_2 true _ ?side1 ?side2 ?side3 ?side4 A40.out).mono ?_); (case side1 => refine (Kd.R_reads' (e := 9) (base := w.heap.size) (ok := fun k_ => some k_ ≠ (u535000 : Value).ownBlock) (n := x536000_2.length) (c := co46) ?_).2.2; exact (rF1 HO_536000 BK540)); (case side2 => exact (Kd.R_reads' HO_536000.out).2.1); (case side3 => refine (Kd.R_reads' (e := 40) (base := w.heap.size) (ok := fun k_ => some k_ ≠ (u535001 : Value).ownBlock) (n := x536001_2.length) (c := co47) ?_).2.2; exact (rF1 HO_536001 BK540)); (case side4 => exact (Kd.R_reads' HO_536001.out).2.1); rintro e w48 ⟨rfl, hb⟩; refine ⟨_, rfl, ?_⟩; have n0_ := Aside0.mk (Kd.R_below (rF1 HO_535000 BK540) hb); have n1_ := Aside0.mk (Kd.R_below (rF1 HO_535001 BK540) hb); have n2_ := Aside0.mk (Kd.R_below (rF1 HO_536000 BK540) hb); have n3_ := Aside0.mk (Kd.R_below (rF1 HO_536001 BK540) hb); have n4_ := Aside0.mk (blk_below (g := gb534) (o := .cells #[u535000, u535001, .int .i64 x535002_2, .bool x535003_2] 25 (0, 0)) (by (with_reducible repeat (first | refine blk_drewN ?_ _ | refine blk_drew ?_ | refine blk_alloc ?_ _)); refine blk_far ?_ NB534_540.out _; (with_reducible repeat (first | refine blk_drewN ?_ _ | refine blk_drew ?_ | refine blk_alloc ?_ _)); refine blk_far ?_ NB534_540.out _; (with_reducible repeat (first | refine blk_drewN ?_ _ | refine blk_drew ?_ | refine blk_alloc ?_ _)); refine blk_far ?_ NB534_540.out _; (with_reducible repeat (first | refine blk_drewN ?_ _ | refine blk_drew ?_ | refine blk_alloc ?_ _)); refine blk_far ?_ NB534_540.out _; (with_reducible repeat (first | refine blk_drewN ?_ _ | refine blk_drew ?_ | refine blk_alloc ?_ _)); exact BK534.out) hb); have n5_ := Aside0.mk (blk_below (g := gb535) (o := .cells #[.slice Ao46 x536000_2.length co46, .slice Ao47 x536001_2.length co47, .int .i64 x536002_2, .bool x536003_2] 25 (0, 0)) (by (with_reducible repeat (first | refine blk_drewN ?_ _ | refine blk_drew ?_ | refine blk_alloc ?_ _)); refine blk_far ?_ NB535_540.out _; (with_reducible repeat (first | refine blk_drewN ?_ _ | refine blk_drew ?_ | refine blk_alloc ?_ _)); refine blk_far ?_ NB535_540.out _; (with_reducible repeat (first | refine blk_drewN ?_ _ | refine blk_drew ?_ | refine blk_alloc ?_ _)); refine blk_far ?_ NB535_540.out _; (with_reducible repeat (first | refine blk_drewN ?_ _ | refine blk_drew ?_ | refine blk_alloc ?_ _)); refine blk_far ?_ NB535_540.out _; (with_reducible repeat (first | refine blk_drewN ?_ _ | refine blk_drew ?_ | refine blk_alloc ?_ _)); exact BK535.out) hb); have n6_ := Aside0.mk (blk_below (g := gb540) (o := .cells #[.int .i64 ((rd_T45 l1 x36_2).f0), .int .i64 ((rd_T45 l1 x36_2).f1), .string ((rd_T45 l1 x36_2).f2), .slice A539_3 ((rd_T45 l1 x36_2).f3).length c539_3] 45 (0, 0)) (by (with_reducible repeat (first | refine blk_drewN ?_ _ | refine blk_drew ?_ | refine blk_alloc ?_ _)); refine blk_put (cs := #[.int .i64 ((rd_T45 l1 x36_2).f0), .int .i64 ((rd_T45 l1 x36_2).f1), .string ((rd_T45 l1 x36_2).f2), .slice none 0 0]) ?_ 3 _ rfl; (with_reducible repeat (first | refine blk_drewN ?_ _ | refine blk_drew ?_ | refine blk_alloc ?_ _)); refine blk_put (cs := #[.int .i64 ((rd_T45 l1 x36_2).f0), .int .i64 ((rd_T45 l1 x36_2).f1), .string (⟨#[]⟩ : ByteArray), .slice none 0 0]) ?_ 2 _ rfl; (with_reducible repeat (first | refine blk_drewN ?_ _ | refine blk_drew ?_ | refine blk_alloc ?_ _)); refine blk_put (cs := #[.int .i64 ((rd_T45 l1 x36_2).f0), .int .i64 0, .string (⟨#[]⟩ : ByteArray), .slice none 0 0]) ?_ 1 _ rfl; (with_reducible repeat (first | refine blk_drewN ?_ _ | refine blk_drew ?_ | refine blk_alloc ?_ _)); refine blk_put (cs := #[.int .i64 0, .int .i64 0, .string (⟨#[]⟩ : ByteArray), .slice none 0 0]) ?_ 0 _ rfl; (with_reducible repeat (first | refine blk_drewN ?_ _ | refine blk_drew ?_ | refine blk_alloc ?_ _)); exact BK540.out) hb); have n7_ := Aside0.mk (below_step (bU HB) hb); clear HO_535000; clear HO_535001; clear HO_536000; clear HO_536001; clear BK534; clear BK535; clear BK540; clear HB; have HO_535000 := n0_; have HO_535001 := n1_; have HO_536000 := n2_; have HO_536001 := n3_; have BK534 := n4_; have BK535 := n5_; have BK540 := n6_; have HB := n7_; clear n0_ n1_ n2_ n3_ n4_ n5_ n6_ n7_; (try clear hb); (try clear hb2); (try clear hk); (try clear hi); have hnb49 := NB534_540.out; have hnc49 := NB540_534.out; have hcz50_0 : w48.cell? ⟨gb534, 0, none⟩ = some (u535000) := (blk_cell BK534.out 0).trans rfl; have hcz50_1 : w48.cell? ⟨gb534, 1, none⟩ = some (u535001) := (blk_cell BK534.out 1).trans rfl; have hcz50_2 : w48.cell? ⟨gb534, 2, none⟩ = some (.int .i64 x535002_2) := (blk_cell BK534.out 2).trans rfl; have hcz50_3 : w48.cell? ⟨gb534, 3, none⟩ = some (.bool x535003_2) := (blk_cell BK534.out 3).trans rfl; have hfz50_0 := blk_frozen BK534.out 0; have hfz50_1 := blk_frozen BK534.out 1; have hfz50_2 := blk_frozen BK534.out 2; have hfz50_3 := blk_frozen BK534.out 3; have hcz51_0 : w48.cell? ⟨gb535, 0, none⟩ = some (.slice Ao46 x536000_2.length co46) := (blk_cell BK535.out 0).trans rfl; have hcz51_1 : w48.cell? ⟨gb535, 1, none⟩ = some (.slice Ao47 x536001_2.length co47) := (blk_cell BK535.out 1).trans rfl; have hcz51_2 : w48.cell? ⟨gb535, 2, none⟩ = some (.int .i64 x536002_2) := (blk_cell BK535.out 2).trans rfl; have hcz51_3 : w48.cell? ⟨gb535, 3, none⟩ = some (.bool x536003_2) := (blk_cell BK535.out 3).trans rfl; have hfz51_0 := blk_frozen BK535.out 0; have hfz51_1 := blk_frozen BK535.out 1; have hfz51_2 := blk_frozen BK535.out 2; have hfz51_3 := blk_frozen BK535.out 3; obtain ⟨Ao52, co52, eo52⟩ := Kd.R_slice HO_535000.out; subst eo52; obtain ⟨Ao53, co53, eo53⟩ := Kd.R_slice HO_535001.out; subst eo53) | (go_at_call 14; (with_reducible refine (almanacref02_Same.calls k2 _ _ x535000_2 _ _ x535001_2 x535002_2 x535003_2 _ _ x536000_2 _ _ x536001_2 x536002_2 x536003_2 t542 _ ?side1 ?side2 ?side3 ?side4 ?side5 ?side6 ?side7 ?side8 A42.out).mono ?_); (case side1 => exact cU (Kd.R_reads' HO_535000.out).2.2); (case side2 => exact (Kd.R_reads' HO_535000.out).2.1); (case side3 => exact cU (Kd.R_reads' HO_535001.out).2.2); (case side4 => exact (Kd.R_reads' HO_535001.out).2.1); (case side5 => exact cU (Kd.R_reads' HO_536000.out).2.2); (case side6 => exact (Kd.R_reads' HO_536000.out).2.1); (case side7 => exact cU (Kd.R_reads' HO_536001.out).2.2); (case side8 => exact (Kd.R_reads' HO_536001.out).2.1); rintro e w54 ⟨rfl, hb⟩; have n0_ := Aside0.mk (Kd.R_below (rU HO_535000) hb); have n1_ := Aside0.mk (Kd.R_below (rU HO_535001) hb); have n2_ := Aside0.mk (Kd.R_below (rU HO_536000) hb); have n3_ := Aside0.mk (Kd.R_below (rU HO_536001) hb); have n4_ := Aside0.mk (blk_below (g := gb534) (o := .cells #[.slice Ao52 x535000_2.length co52, .slice Ao53 x535001_2.length co53, .int .i64 x535002_2, .bool x535003_2] 25 (0, 0)) (by (with_reducible repeat (first | refine blk_drewN ?_ _ | refine blk_drew ?_ | refine blk_alloc ?_ _)); exact BK534.out) hb); have n5_ := Aside0.mk (blk_below (g := gb535) (o := .cells #[.slice Ao46 x536000_2.length co46, .slice Ao47 x536001_2.length co47, .int .i64 x536002_2, .bool x536003_2] 25 (0, 0)) (by (with_reducible repeat (first | refine blk_drewN ?_ _ | refine blk_drew ?_ | refine blk_alloc ?_ _)); exact BK535.out) hb); have n6_ := Aside0.mk (blk_below (g := gb540) (o := .cells #[.int .i64 ((rd_T45 l1 x36_2).f0), .int .i64 ((rd_T45 l1 x36_2).f1), .string ((rd_T45 l1 x36_2).f2), .slice A539_3 ((rd_T45 l1 x36_2).f3).length c539_3] 45 (0, 0)) (by (with_reducible repeat (first | refine blk_drewN ?_ _ | refine blk_drew ?_ | refine blk_alloc ?_ _)); exact BK540.out) hb); have n7_ := Aside0.mk (below_step (bU HB) hb); clear HO_535000; clear HO_535001; clear HO_536000; clear HO_536001; clear BK534; clear BK535; clear BK540; clear HB; have HO_535000 := n0_; have HO_535001 := n1_; have HO_536000 := n2_; have HO_536001 := n3_; have BK534 := n4_; have BK535 := n5_; have BK540 := n6_; have HB := n7_; clear n0_ n1_ n2_ n3_ n4_ n5_ n6_ n7_; (try clear hb); (try clear hb2); (try clear hk); (try clear hi)))
           go_meet
           case rel => exact ⟨_, (!t542), (by first | rfl | (simp; done) | (simp [*]; done)), H', ⟨by have := HJ4.out; have := HK2.out; first | omega | exact Nat.le_refl _⟩, ⟨rU HO_535000⟩, ⟨rU HO_535001⟩, ⟨rU HO_536000⟩, ⟨rU HO_536001⟩, ⟨by (with_reducible repeat (first | refine blk_drewN ?_ _ | refine blk_drew ?_ | refine blk_alloc ?_ _)); exact BK534.out⟩, ⟨by (with_reducible repeat (first | refine blk_drewN ?_ _ | refine blk_drew ?_ | refine blk_alloc ?_ _)); exact BK535.out⟩, ⟨by (with_reducible repeat (first | refine blk_drewN ?_ _ | refine blk_drew ?_ | refine blk_alloc ?_ _)); exact BK540.out⟩, ⟨bU HB⟩⟩
          ·replace c41 := Bool.eq_false_iff.mpr c41
           subst c41
           have H1 : (almanaclaw02_DevPlays.j2 k2 l1 (l1.length : Int) x36_2 true x535000_2 x535001_2 x535002_2 x535003_2 x536000_2 x536001_2 x536002_2 x536003_2 ((rd_T45 l1 x36_2).f0) ((rd_T45 l1 x36_2).f1) ((rd_T45 l1 x36_2).f2) ((rd_T45 l1 x36_2).f3)) = some r := by rw [if_neg (show ¬ (false = true) by decide)] at H; exact H
           clear H
           have H := H1
           clear H1
           have H' := Aside0.mk H
           clear H
           have hnb55 := NB535_534.out
           have hnc55 := NB534_535.out
           have hnb56 := NB535_540.out
           have hnc56 := NB540_535.out
           obtain ⟨hcz57_0, hcz57_1, hcz57_2, hcz57_3, hfz57_0, hfz57_1, hfz57_2, hfz57_3⟩ := k4 BK535
           obtain ⟨Ao58, co58, eo58⟩ := Kd.R_slice HO_536000.out
           subst eo58
           obtain ⟨Ao59, co59, eo59⟩ := Kd.R_slice HO_536001.out
           subst eo59
           go_wp2_with (first | ((with_reducible refine gate_callee (f := 7) rfl ?_); refine goesL_ (some 41) rfl rfl Try.func7 (by kernel_rfl) rfl #[.agg #[.slice Ao58 x536000_2.length co58, .slice Ao59 x536001_2.length co59, .int .i64 x536002_2, .bool x536003_2]] rfl (by (try simp only [List.map_toArray, List.map_cons, List.map_nil]); first | done | rfl | (simp only [List.length_drop, List.length_take]; rfl)) ?_; (with_reducible refine (almanacref02_Fit.calls k2 _ _ x536000_2 _ _ x536001_2 x536002_2 x536003_2 false _ ?side1 ?side2 ?side3 ?side4 A40.out).mono ?_); (case side1 => refine (Kd.R_reads' (e := 9) (base := w.heap.size) (ok := fun k_ => some k_ ≠ (u535000 : Value).ownBlock) (n := x536000_2.length) (c := co58) ?_).2.2; exact (rF1 HO_536000 BK540)); (case side2 => exact (Kd.R_reads' HO_536000.out).2.1); (case side3 => refine (Kd.R_reads' (e := 40) (base := w.heap.size) (ok := fun k_ => some k_ ≠ (u535001 : Value).ownBlock) (n := x536001_2.length) (c := co59) ?_).2.2; exact (rF1 HO_536001 BK540)); (case side4 => exact (Kd.R_reads' HO_536001.out).2.1); rintro e w60 ⟨rfl, hb⟩; refine ⟨_, rfl, ?_⟩; have n0_ := Aside0.mk (Kd.R_below (rF1 HO_535000 BK540) hb); have n1_ := Aside0.mk (Kd.R_below (rF1 HO_535001 BK540) hb); have n2_ := Aside0.mk (Kd.R_below (rF1 HO_536000 BK540) hb); have n3_ := Aside0.mk (Kd.R_below (rF1 HO_536001 BK540) hb); have n4_ := Aside0.mk (blk_below (g := gb534) (o := .cells #[u535000, u535001, .int .i64 x535002_2, .bool x535003_2] 25 (0, 0)) (by (with_reducible repeat (first | refine blk_drewN ?_ _ | refine blk_drew ?_ | refine blk_alloc ?_ _)); refine blk_far ?_ NB534_540.out _; (with_reducible repeat (first | refine blk_drewN ?_ _ | refine blk_drew ?_ | refine blk_alloc ?_ _)); refine blk_far ?_ NB534_540.out _; (with_reducible repeat (first | refine blk_drewN ?_ _ | refine blk_drew ?_ | refine blk_alloc ?_ _)); refine blk_far ?_ NB534_540.out _; (with_reducible repeat (first | refine blk_drewN ?_ _ | refine blk_drew ?_ | refine blk_alloc ?_ _)); refine blk_far ?_ NB534_540.out _; (with_reducible repeat (first | refine blk_drewN ?_ _ | refine blk_drew ?_ | refine blk_alloc ?_ _)); exact BK534.out) hb); have n5_ := Aside0.mk (blk_below (g := gb535) (o := .cells #[.slice Ao58 x536000_2.length co58, .slice Ao59 x536001_2.length co59, .int .i64 x536002_2, .bool x536003_2] 25 (0, 0)) (by (with_reducible repeat (first | refine blk_drewN ?_ _ | refine blk_drew ?_ | refine blk_alloc ?_ _)); refine blk_far ?_ NB535_540.out _; (with_reducible repeat (first | refine blk_drewN ?_ _ | refine blk_drew ?_ | refine blk_alloc ?_ _)); refine blk_far ?_ NB535_540.out _; (with_reducible repeat (first | refine blk_drewN ?_ _ | refine blk_drew ?_ | refine blk_alloc ?_ _)); refine blk_far ?_ NB535_540.out _; (with_reducible repeat (first | refine blk_drewN ?_ _ | refine blk_drew ?_ | refine blk_alloc ?_ _)); refine blk_far ?_ NB535_540.out _; (with_reducible repeat (first | refine blk_drewN ?_ _ | refine blk_drew ?_ | refine blk_alloc ?_ _)); exact BK535.out) hb); have n6_ := Aside0.mk (blk_below (g := gb540) (o := .cells #[.int .i64 ((rd_T45 l1 x36_2).f0), .int .i64 ((rd_T45 l1 x36_2).f1), .string ((rd_T45 l1 x36_2).f2), .slice A539_3 ((rd_T45 l1 x36_2).f3).length c539_3] 45 (0, 0)) (by (with_reducible repeat (first | refine blk_drewN ?_ _ | refine blk_drew ?_ | refine blk_alloc ?_ _)); refine blk_put (cs := #[.int .i64 ((rd_T45 l1 x36_2).f0), .int .i64 ((rd_T45 l1 x36_2).f1), .string ((rd_T45 l1 x36_2).f2), .slice none 0 0]) ?_ 3 _ rfl; (with_reducible repeat (first | refine blk_drewN ?_ _ | refine blk_drew ?_ | refine blk_alloc ?_ _)); refine blk_put (cs := #[.int .i64 ((rd_T45 l1 x36_2).f0), .int .i64 ((rd_T45 l1 x36_2).f1), .string (⟨#[]⟩ : ByteArray), .slice none 0 0]) ?_ 2 _ rfl; (with_reducible repeat (first | refine blk_drewN ?_ _ | refine blk_drew ?_ | refine blk_alloc ?_ _)); refine blk_put (cs := #[.int .i64 ((rd_T45 l1 x36_2).f0), .int .i64 0, .string (⟨#[]⟩ : ByteArray), .slice none 0 0]) ?_ 1 _ rfl; (with_reducible repeat (first | refine blk_drewN ?_ _ | refine blk_drew ?_ | refine blk_alloc ?_ _)); refine blk_put (cs := #[.int .i64 0, .int .i64 0, .string (⟨#[]⟩ : ByteArray), .slice none 0 0]) ?_ 0 _ rfl; (with_reducible repeat (first | refine blk_drewN ?_ _ | refine blk_drew ?_ | refine blk_alloc ?_ _)); exact BK540.out) hb); have n7_ := Aside0.mk (below_step (bU HB) hb); clear HO_535000; clear HO_535001; clear HO_536000; clear HO_536001; clear BK534; clear BK535; clear BK540; clear HB; have HO_535000 := n0_; have HO_535001 := n1_; have HO_536000 := n2_; have HO_536001 := n3_; have BK534 := n4_; have BK535 := n5_; have BK540 := n6_; have HB := n7_; clear n0_ n1_ n2_ n3_ n4_ n5_ n6_ n7_; (try clear hb); (try clear hb2); (try clear hk); (try clear hi)))
           go_meet
           case rel => exact ⟨_, (true), (by first | rfl | (simp; done) | (simp [*]; done)), H', ⟨by have := HJ4.out; have := HK2.out; first | omega | exact Nat.le_refl _⟩, ⟨rU HO_535000⟩, ⟨rU HO_535001⟩, ⟨rU HO_536000⟩, ⟨rU HO_536001⟩, ⟨by (with_reducible repeat (first | refine blk_drewN ?_ _ | refine blk_drew ?_ | refine blk_alloc ?_ _)); exact BK534.out⟩, ⟨by (with_reducible repeat (first | refine blk_drewN ?_ _ | refine blk_drew ?_ | refine blk_alloc ?_ _)); exact BK535.out⟩, ⟨by (with_reducible repeat (first | refine blk_drewN ?_ _ | refine blk_drew ?_ | refine blk_alloc ?_ _)); exact BK540.out⟩, ⟨bU HB⟩⟩
         case rest =>
          clear HC35
          try clear c1
          try clear c2
          try clear p2
          try clear c3
          try clear c4
          try clear c5
          try clear p5
          try clear q5
          try clear hx5
          try clear c7
          try clear c11
          try clear c17
          try clear c18
          try clear c19
          try clear c20
          try clear c27
          try clear c31
          try clear c32
          try clear c32b0
          try clear c33
          try clear c33b0
          try clear c34
          try clear c34b0
          try clear c37
          try clear c38
          try clear c41
          try clear c43
          try clear c44
          try clear c49
          try clear c53
          try clear p53
          try clear q53
          try clear hx53
          try clear c55
          try clear c56
          try clear hcz12_0 hcz12_1 hcz12_2 hcz12_3 hfz12_0 hfz12_1 hfz12_2 hfz12_3
          try clear hcz15_0 hcz15_1 hcz15_2 hcz15_3 hfz15_0 hfz15_1 hfz15_2 hfz15_3
          try clear hcz21_0 hcz21_1 hcz21_2 hcz21_3 hfz21_0 hfz21_1 hfz21_2 hfz21_3
          try clear hcz22_0 hcz22_1 hcz22_2 hcz22_3 hfz22_0 hfz22_1 hfz22_2 hfz22_3
          try clear hcz24_0 hcz24_1 hcz24_2 hcz24_3 hfz24_0 hfz24_1 hfz24_2 hfz24_3
          try clear hcz25_0 hcz25_1 hcz25_2 hcz25_3 hfz25_0 hfz25_1 hfz25_2 hfz25_3
          try clear hcz28_0 hcz28_1 hcz28_2 hcz28_3 hfz28_0 hfz28_1 hfz28_2 hfz28_3
          try clear hcz29_0 hcz29_1 hcz29_2 hcz29_3 hfz29_0 hfz29_1 hfz29_2 hfz29_3
          try clear hcz39_0 hcz39_1 hcz39_2 hcz39_3 hfz39_0 hfz39_1 hfz39_2 hfz39_3
          try clear hcz45_0 hcz45_1 hcz45_2 hcz45_3 hfz45_0 hfz45_1 hfz45_2 hfz45_3
          try clear hcz50_0 hcz50_1 hcz50_2 hcz50_3 hfz50_0 hfz50_1 hfz50_2 hfz50_3
          try clear hcz51_0 hcz51_1 hcz51_2 hcz51_3 hfz51_0 hfz51_1 hfz51_2 hfz51_3
          try clear hcz57_0 hcz57_1 hcz57_2 hcz57_3 hfz57_0 hfz57_1 hfz57_2 hfz57_3
          try clear hx539_0
          try clear hx539_1
          try clear hx539_2
          try clear hx539_3
          try clear p2
          try clear p539
          try clear q539
          obtain ⟨kq, x48_34, rfl, HA, HJ34, HO_535000, HO_535001, HO_536000, HO_536001, BK534, BK535, BK540, HB⟩ := hcut
          cases kq with
          | zero => exact absurd HA.out (by simp [almanaclaw02_DevPlays.j2])
          | succ kj34 =>
           have H := HA.out
           clear HA
           simp only [almanaclaw02_DevPlays.j2] at H
           by_cases c61 : x48_34 = true
           ·subst c61
            have H1 : ((almanacref02_Fit.f kj34 x536000_2 x536001_2 x536002_2 x536003_2).bind fun t543 => (if t543 = true then (some false) else ((almanaclaw02_awake.f kj34).bind fun t544 => (some t544)))) = some r := by rw [if_pos rfl] at H; exact H
            clear H
            have H := H1
            clear H1
            replace H := Option.bind_eq_some_iff.mp H
            obtain ⟨t543, A620, H⟩ := H
            replace H : (if t543 = true then (some false) else ((almanaclaw02_awake.f kj34).bind fun t544 => (some t544))) = some r := H
            have A62 := Aside0.mk A620
            clear A620
            by_cases c63 : t543 = true
            ·subst c63
             have H1 : (some false) = some r := by rw [if_pos rfl] at H; exact H
             clear H
             have H := H1
             clear H1
             exact absurd ((Option.some.inj H).trans HRT.out) (by decide)
            ·replace c63 := Bool.eq_false_iff.mpr c63
             subst c63
             have H1 : ((almanaclaw02_awake.f kj34).bind fun t544 => (some t544)) = some r := by rw [if_neg (show ¬ (false = true) by decide)] at H; exact H
             clear H
             have H := H1
             clear H1
             replace H := Option.bind_eq_some_iff.mp H
             obtain ⟨t544, A640, H⟩ := H
             replace H : (some t544) = some r := H
             have A64 := Aside0.mk A640
             clear A640
             obtain rfl := Option.some.inj H
             have hnb65 := NB535_534.out
             have hnc65 := NB534_535.out
             have hnb66 := NB535_540.out
             have hnc66 := NB540_535.out
             obtain ⟨hcz67_0, hcz67_1, hcz67_2, hcz67_3, hfz67_0, hfz67_1, hfz67_2, hfz67_3⟩ := k4 BK535
             obtain ⟨Ao68, co68, eo68⟩ := Kd.R_slice HO_536000.out
             subst eo68
             obtain ⟨Ao69, co69, eo69⟩ := Kd.R_slice HO_536001.out
             subst eo69
             go_wp2_with (first | ((with_reducible refine gate_callee (f := 7) rfl ?_); refine goesL_ (some 50) rfl rfl Try.func7 (by kernel_rfl) rfl #[.agg #[.slice Ao68 x536000_2.length co68, .slice Ao69 x536001_2.length co69, .int .i64 x536002_2, .bool x536003_2]] rfl (by (try simp only [List.map_toArray, List.map_cons, List.map_nil]); first | done | rfl | (simp only [List.length_drop, List.length_take]; rfl)) ?_; (with_reducible refine (almanacref02_Fit.calls kj34 _ _ x536000_2 _ _ x536001_2 x536002_2 x536003_2 false _ ?side1 ?side2 ?side3 ?side4 A62.out).mono ?_); (case side1 => exact cU (Kd.R_reads' HO_536000.out).2.2); (case side2 => exact (Kd.R_reads' HO_536000.out).2.1); (case side3 => exact cU (Kd.R_reads' HO_536001.out).2.2); (case side4 => exact (Kd.R_reads' HO_536001.out).2.1); rintro e w70 ⟨rfl, hb⟩; refine ⟨_, rfl, ?_⟩; have n0_ := Aside0.mk (Kd.R_below (rU HO_535000) hb); have n1_ := Aside0.mk (Kd.R_below (rU HO_535001) hb); have n2_ := Aside0.mk (Kd.R_below (rU HO_536000) hb); have n3_ := Aside0.mk (Kd.R_below (rU HO_536001) hb); have n4_ := Aside0.mk (blk_below (g := gb534) (o := .cells #[u535000, u535001, .int .i64 x535002_2, .bool x535003_2] 25 (0, 0)) (by (with_reducible repeat (first | refine blk_drewN ?_ _ | refine blk_drew ?_ | refine blk_alloc ?_ _)); exact BK534.out) hb); have n5_ := Aside0.mk (blk_below (g := gb535) (o := .cells #[.slice Ao68 x536000_2.length co68, .slice Ao69 x536001_2.length co69, .int .i64 x536002_2, .bool x536003_2] 25 (0, 0)) (by (with_reducible repeat (first | refine blk_drewN ?_ _ | refine blk_drew ?_ | refine blk_alloc ?_ _)); exact BK535.out) hb); have n6_ := Aside0.mk (blk_below (g := gb540) (o := .cells #[.int .i64 ((rd_T45 l1 x36_2).f0), .int .i64 ((rd_T45 l1 x36_2).f1), .string ((rd_T45 l1 x36_2).f2), .slice A539_3 ((rd_T45 l1 x36_2).f3).length c539_3] 45 (0, 0)) (by (with_reducible repeat (first | refine blk_drewN ?_ _ | refine blk_drew ?_ | refine blk_alloc ?_ _)); exact BK540.out) hb); have n7_ := Aside0.mk (below_step (bU HB) hb); clear HO_535000; clear HO_535001; clear HO_536000; clear HO_536001; clear BK534; clear BK535; clear BK540; clear HB; have HO_535000 := n0_; have HO_535001 := n1_; have HO_536000 := n2_; have HO_536001 := n3_; have BK534 := n4_; have BK535 := n5_; have BK540 := n6_; have HB := n7_; clear n0_ n1_ n2_ n3_ n4_ n5_ n6_ n7_; (try clear hb); (try clear hb2); (try clear hk); (try clear hi)) | (go_at_call 8; (with_reducible refine (almanaclaw02_awake.calls kj34  t544 _ A64.out).mono ?_); rintro e w71 ⟨rfl, hb⟩; have n0_ := Aside0.mk (Kd.R_below (rU HO_535000) hb); have n1_ := Aside0.mk (Kd.R_below (rU HO_535001) hb); have n2_ := Aside0.mk (Kd.R_below (rU HO_536000) hb); have n3_ := Aside0.mk (Kd.R_below (rU HO_536001) hb); have n4_ := Aside0.mk (blk_below (g := gb534) (o := .cells #[u535000, u535001, .int .i64 x535002_2, .bool x535003_2] 25 (0, 0)) (by (with_reducible repeat (first | refine blk_drewN ?_ _ | refine blk_drew ?_ | refine blk_alloc ?_ _)); exact BK534.out) hb); have n5_ := Aside0.mk (blk_below (g := gb535) (o := .cells #[.slice Ao68 x536000_2.length co68, .slice Ao69 x536001_2.length co69, .int .i64 x536002_2, .bool x536003_2] 25 (0, 0)) (by (with_reducible repeat (first | refine blk_drewN ?_ _ | refine blk_drew ?_ | refine blk_alloc ?_ _)); exact BK535.out) hb); have n6_ := Aside0.mk (blk_below (g := gb540) (o := .cells #[.int .i64 ((rd_T45 l1 x36_2).f0), .int .i64 ((rd_T45 l1 x36_2).f1), .string ((rd_T45 l1 x36_2).f2), .slice A539_3 ((rd_T45 l1 x36_2).f3).length c539_3] 45 (0, 0)) (by (with_reducible repeat (first | refine blk_drewN ?_ _ | refine blk_drew ?_ | refine blk_alloc ?_ _)); exact BK540.out) hb); have n7_ := Aside0.mk (below_step (bU HB) hb); clear HO_535000; clear HO_535001; clear HO_536000; clear HO_536001; clear BK534; clear BK535; clear BK540; clear HB; have HO_535000 := n0_; have HO_535001 := n1_; have HO_536000 := n2_; have HO_536001 := n3_; have BK534 := n4_; have BK535 := n5_; have BK540 := n6_; have HB := n7_; clear n0_ n1_ n2_ n3_ n4_ n5_ n6_ n7_; (try clear hb); (try clear hb2); (try clear hk); (try clear hi)))
             go_ret
             exact ⟨eqU, bU HB⟩
           ·replace c61 := Bool.eq_false_iff.mpr c61
            subst c61
            have H1 : (if (((rd_T45 l1 x36_2).f2).size : Int) = 127 then (almanaclaw02_DevPlays.j3 kj34 0 0 ((rd_T45 l1 x36_2).f2) l1 (l1.length : Int) x36_2 x535000_2 x535001_2 x535002_2 x535003_2 x536000_2 x536001_2 x536002_2 x536003_2 ((rd_T45 l1 x36_2).f0) ((rd_T45 l1 x36_2).f1) ((rd_T45 l1 x36_2).f2) ((rd_T45 l1 x36_2).f3)) else ((almanaclaw02_filled.f ((rd_T45 l1 x36_2).f2)).bind fun t545 => (almanaclaw02_DevPlays.j3 kj34 0 0 t545 l1 (l1.length : Int) x36_2 x535000_2 x535001_2 x535002_2 x535003_2 x536000_2 x536001_2 x536002_2 x536003_2 ((rd_T45 l1 x36_2).f0) ((rd_T45 l1 x36_2).f1) ((rd_T45 l1 x36_2).f2) ((rd_T45 l1 x36_2).f3)))) = some r := by rw [if_neg (show ¬ (false = true) by decide)] at H; exact H
            clear H
            have H := H1
            clear H1
            have HC72 := Aside0.mk H
            clear H
            have hnb73 := NB540_534.out
            have hnc73 := NB534_540.out
            have hnb74 := NB540_535.out
            have hnc74 := NB535_540.out
            obtain ⟨hcz75_0, hcz75_1, hcz75_2, hcz75_3, hfz75_0, hfz75_1, hfz75_2, hfz75_3⟩ := k4 BK540
            go_upto_if 59 with (fail)
            go_cut [11] (fun v11 wc => ∃ (kq : Nat) (x11_71 : ByteArray), v11 = .string x11_71 ∧ Aside0 (almanaclaw02_DevPlays.j3 kq 0 0 x11_71 l1 (l1.length : Int) x36_2 x535000_2 x535001_2 x535002_2 x535003_2 x536000_2 x536001_2 x536002_2 x536003_2 ((rd_T45 l1 x36_2).f0) ((rd_T45 l1 x36_2).f1) ((rd_T45 l1 x36_2).f2) ((rd_T45 l1 x36_2).f3) = some r) ∧ Aside0 (kq ≤ kj34) ∧ Aside0 (Kd.R Kd.string 9 wc w.heap.size (fun k_ => some k_ ≠ (u536000 : Value).ownBlock) u535000 x535000_2) ∧ Aside0 (Kd.R k40 40 wc w.heap.size (fun k_ => some k_ ≠ (u536001 : Value).ownBlock) u535001 x535001_2) ∧ Aside0 (Kd.R Kd.string 9 wc w.heap.size (fun k_ => some k_ ≠ (u535000 : Value).ownBlock) u536000 x536000_2) ∧ Aside0 (Kd.R k40 40 wc w.heap.size (fun k_ => some k_ ≠ (u535001 : Value).ownBlock) u536001 x536001_2) ∧ Aside0 (wc.heap[gb534]? = some (.cells #[u535000, u535001, .int .i64 x535002_2, .bool x535003_2] 25 (0, 0))) ∧ Aside0 (wc.heap[gb535]? = some (.cells #[u536000, u536001, .int .i64 x536002_2, .bool x536003_2] 25 (0, 0))) ∧ Aside0 (wc.heap[gb540]? = some (.cells #[.int .i64 ((rd_T45 l1 x36_2).f0), .int .i64 ((rd_T45 l1 x36_2).f1), .string ((rd_T45 l1 x36_2).f2), (.slice A539_3 ((rd_T45 l1 x36_2).f3).length c539_3)] 45 (0, 0))) ∧ Aside0 (Below w.heap.size w wc))
            case first =>
             have H := HC72.out
             clear HC72
             by_cases c76 : (((rd_T45 l1 x36_2).f2).size : Int) = 127
             ·rw [if_pos c76] at H
              have c76b0 : ((((rd_T45 l1 x36_2).f2).size : Int) == 127) = true := beq_iff_eq.mpr c76
              have c76b1 : ((((rd_T45 l1 x36_2).f2).size : Int) != 127) = false := bne_eq_false_iff_eq.mpr c76
              clear c76
              (first | rw [c76b0] | (simp only [i64_w, i32_w]; rw [c76b0]) | skip)
              have H' := Aside0.mk H
              clear H
              go_wp2
              go_meet
              case rel => exact ⟨_, (((rd_T45 l1 x36_2).f2)), (by first | rfl | (simp; done) | (simp [*]; done)), H', ⟨by have := HJ4.out; have := HK2.out; have := HJ34.out; first | omega | exact Nat.le_refl _⟩, ⟨rU HO_535000⟩, ⟨rU HO_535001⟩, ⟨rU HO_536000⟩, ⟨rU HO_536001⟩, ⟨by (with_reducible repeat (first | refine blk_drewN ?_ _ | refine blk_drew ?_ | refine blk_alloc ?_ _)); exact BK534.out⟩, ⟨by (with_reducible repeat (first | refine blk_drewN ?_ _ | refine blk_drew ?_ | refine blk_alloc ?_ _)); exact BK535.out⟩, ⟨by (with_reducible repeat (first | refine blk_drewN ?_ _ | refine blk_drew ?_ | refine blk_alloc ?_ _)); exact BK540.out⟩, ⟨bU HB⟩⟩
             ·rw [if_neg c76] at H
              have c76b0 : ((((rd_T45 l1 x36_2).f2).size : Int) == 127) = false := beq_eq_false_iff_ne.mpr c76
              have c76b1 : ((((rd_T45 l1 x36_2).f2).size : Int) != 127) = true := bne_iff_ne.mpr c76
              (first | rw [c76b0] | (simp only [i64_w, i32_w]; rw [c76b0]) | skip)
              replace H := Option.bind_eq_some_iff.mp H
              obtain ⟨t545, A770, H⟩ := H
              replace H : (almanaclaw02_DevPlays.j3 kj34 0 0 t545 l1 (l1.length : Int) x36_2 x535000_2 x535001_2 x535002_2 x535003_2 x536000_2 x536001_2 x536002_2 x536003_2 ((rd_T45 l1 x36_2).f0) ((rd_T45 l1 x36_2).f1) ((rd_T45 l1 x36_2).f2) ((rd_T45 l1 x36_2).f3)) = some r := H
              have A77 := Aside0.mk A770
              clear A770
              have H' := Aside0.mk H
              clear H
              go_wp2_with (first | ((with_reducible refine gate_callee (f := 20) rfl ?_); refine goesL_ (some 61) rfl rfl Try.func20 (by kernel_rfl) rfl #[.string ((rd_T45 l1 x36_2).f2)] rfl (by (try simp only [List.map_toArray, List.map_cons, List.map_nil]); first | done | rfl | (simp only [List.length_drop, List.length_take]; rfl)) ?_; (with_reducible refine (almanaclaw02_filled.calls ((rd_T45 l1 x36_2).f2) t545 _ A77.out).mono ?_); rintro e w78 ⟨rfl, hb⟩; refine ⟨_, rfl, ?_⟩; have n0_ := Aside0.mk (Kd.R_below (rU HO_535000) hb); have n1_ := Aside0.mk (Kd.R_below (rU HO_535001) hb); have n2_ := Aside0.mk (Kd.R_below (rU HO_536000) hb); have n3_ := Aside0.mk (Kd.R_below (rU HO_536001) hb); have n4_ := Aside0.mk (blk_below (g := gb534) (o := .cells #[u535000, u535001, .int .i64 x535002_2, .bool x535003_2] 25 (0, 0)) (by (with_reducible repeat (first | refine blk_drewN ?_ _ | refine blk_drew ?_ | refine blk_alloc ?_ _)); exact BK534.out) hb); have n5_ := Aside0.mk (blk_below (g := gb535) (o := .cells #[u536000, u536001, .int .i64 x536002_2, .bool x536003_2] 25 (0, 0)) (by (with_reducible repeat (first | refine blk_drewN ?_ _ | refine blk_drew ?_ | refine blk_alloc ?_ _)); exact BK535.out) hb); have n6_ := Aside0.mk (blk_below (g := gb540) (o := .cells #[.int .i64 ((rd_T45 l1 x36_2).f0), .int .i64 ((rd_T45 l1 x36_2).f1), .string ((rd_T45 l1 x36_2).f2), .slice A539_3 ((rd_T45 l1 x36_2).f3).length c539_3] 45 (0, 0)) (by (with_reducible repeat (first | refine blk_drewN ?_ _ | refine blk_drew ?_ | refine blk_alloc ?_ _)); exact BK540.out) hb); have n7_ := Aside0.mk (below_step (bU HB) hb); clear HO_535000; clear HO_535001; clear HO_536000; clear HO_536001; clear BK534; clear BK535; clear BK540; clear HB; have HO_535000 := n0_; have HO_535001 := n1_; have HO_536000 := n2_; have HO_536001 := n3_; have BK534 := n4_; have BK535 := n5_; have BK540 := n6_; have HB := n7_; clear n0_ n1_ n2_ n3_ n4_ n5_ n6_ n7_; (try clear hb); (try clear hb2); (try clear hk); (try clear hi)))
              go_meet
              case rel => exact ⟨_, (t545), (by first | rfl | (simp; done) | (simp [*]; done)), H', ⟨by have := HJ4.out; have := HK2.out; have := HJ34.out; first | omega | exact Nat.le_refl _⟩, ⟨rU HO_535000⟩, ⟨rU HO_535001⟩, ⟨rU HO_536000⟩, ⟨rU HO_536001⟩, ⟨by (with_reducible repeat (first | refine blk_drewN ?_ _ | refine blk_drew ?_ | refine blk_alloc ?_ _)); exact BK534.out⟩, ⟨by (with_reducible repeat (first | refine blk_drewN ?_ _ | refine blk_drew ?_ | refine blk_alloc ?_ _)); exact BK535.out⟩, ⟨by (with_reducible repeat (first | refine blk_drewN ?_ _ | refine blk_drew ?_ | refine blk_alloc ?_ _)); exact BK540.out⟩, ⟨bU HB⟩⟩
            case rest =>
             clear HC72
             try clear c1
             try clear c2
             try clear p2
             try clear c3
             try clear c4
             try clear c5
             try clear p5
             try clear q5
             try clear hx5
             try clear c6
             try clear c7
             try clear c11
             try clear c17
             try clear c18
             try clear c19
             try clear c20
             try clear c27
             try clear c31
             try clear c32
             try clear c32b0
             try clear c33
             try clear c33b0
             try clear c34
             try clear c34b0
             try clear c37
             try clear c38
             try clear c41
             try clear c43
             try clear c44
             try clear c49
             try clear c53
             try clear p53
             try clear q53
             try clear hx53
             try clear c55
             try clear c56
             try clear c61
             try clear c63
             try clear c65
             try clear c66
             try clear c73
             try clear c74
             try clear c76
             try clear c76b0
             try clear c76b1
             try clear hcz12_0 hcz12_1 hcz12_2 hcz12_3 hfz12_0 hfz12_1 hfz12_2 hfz12_3
             try clear hcz15_0 hcz15_1 hcz15_2 hcz15_3 hfz15_0 hfz15_1 hfz15_2 hfz15_3
             try clear hcz21_0 hcz21_1 hcz21_2 hcz21_3 hfz21_0 hfz21_1 hfz21_2 hfz21_3
             try clear hcz22_0 hcz22_1 hcz22_2 hcz22_3 hfz22_0 hfz22_1 hfz22_2 hfz22_3
             try clear hcz24_0 hcz24_1 hcz24_2 hcz24_3 hfz24_0 hfz24_1 hfz24_2 hfz24_3
             try clear hcz25_0 hcz25_1 hcz25_2 hcz25_3 hfz25_0 hfz25_1 hfz25_2 hfz25_3
             try clear hcz28_0 hcz28_1 hcz28_2 hcz28_3 hfz28_0 hfz28_1 hfz28_2 hfz28_3
             try clear hcz29_0 hcz29_1 hcz29_2 hcz29_3 hfz29_0 hfz29_1 hfz29_2 hfz29_3
             try clear hcz39_0 hcz39_1 hcz39_2 hcz39_3 hfz39_0 hfz39_1 hfz39_2 hfz39_3
             try clear hcz45_0 hcz45_1 hcz45_2 hcz45_3 hfz45_0 hfz45_1 hfz45_2 hfz45_3
             try clear hcz50_0 hcz50_1 hcz50_2 hcz50_3 hfz50_0 hfz50_1 hfz50_2 hfz50_3
             try clear hcz51_0 hcz51_1 hcz51_2 hcz51_3 hfz51_0 hfz51_1 hfz51_2 hfz51_3
             try clear hcz57_0 hcz57_1 hcz57_2 hcz57_3 hfz57_0 hfz57_1 hfz57_2 hfz57_3
             try clear hcz67_0 hcz67_1 hcz67_2 hcz67_3 hfz67_0 hfz67_1 hfz67_2 hfz67_3
             try clear hcz75_0 hcz75_1 hcz75_2 hcz75_3 hfz75_0 hfz75_1 hfz75_2 hfz75_3
             try clear hx539_0
             try clear hx539_1
             try clear hx539_2
             try clear hx539_3
             try clear p2
             try clear p5
             try clear p53
             try clear p539
             try clear q5
             try clear q53
             try clear q539
             obtain ⟨kq, x11_71, rfl, HA, HJ71, HO_535000, HO_535001, HO_536000, HO_536001, BK534, BK535, BK540, HB⟩ := hcut
             cases kq with
             | zero => exact absurd HA.out (by simp [almanaclaw02_DevPlays.j3])
             | succ kj71 =>
              have H := HA.out
              clear HA
              simp only [almanaclaw02_DevPlays.j3] at H
              by_cases c79 : ((rd_T45 l1 x36_2).f0) = 0
              ·rw [if_pos c79] at H
               have c79b0 : (((rd_T45 l1 x36_2).f0) == 0) = true := beq_iff_eq.mpr c79
               have c79b1 : (((rd_T45 l1 x36_2).f0) != 0) = false := bne_eq_false_iff_eq.mpr c79
               clear c79
               replace H := Option.bind_eq_some_iff.mp H
               obtain ⟨⟨t546, t549, t552, t553, t554⟩, A800, H⟩ := H
               replace H : ((almanacref02_Write.f kj71 x536000_2 x536001_2 x536002_2 x536003_2 ((rd_T45 l1 x36_2).f1) x11_71).bind fun bt556 => (if t554 = bt556.2.2.2.2 then ((almanacref02_Same.f kj71 t546 t549 t552 t553 bt556.1 bt556.2.1 bt556.2.2.1 bt556.2.2.2.1).bind fun t565 => (if t565 = true then (almanaclaw02_DevPlays.l0 kj71 l1 (l1.length : Int) (wrap64 (x36_2 + 1)) t546 t549 t552 t553 bt556.1 bt556.2.1 bt556.2.2.1 bt556.2.2.2.1) else (some false))) else (some false))) = some r := H
               have A80 := Aside0.mk A800
               clear A800
               replace H := Option.bind_eq_some_iff.mp H
               obtain ⟨⟨t556, t559, t562, t563, t564⟩, A810, H⟩ := H
               replace H : (if t554 = t564 then ((almanacref02_Same.f kj71 t546 t549 t552 t553 t556 t559 t562 t563).bind fun t565 => (if t565 = true then (almanaclaw02_DevPlays.l0 kj71 l1 (l1.length : Int) (wrap64 (x36_2 + 1)) t546 t549 t552 t553 t556 t559 t562 t563) else (some false))) else (some false)) = some r := H
               have A81 := Aside0.mk A810
               clear A810
               by_cases c82 : t554 = t564
               ·rw [if_pos c82] at H
                have c82b0 : (t554 == t564) = true := beq_iff_eq.mpr c82
                have c82b1 : (t554 != t564) = false := bne_eq_false_iff_eq.mpr c82
                clear c82
                replace H := Option.bind_eq_some_iff.mp H
                obtain ⟨t565, A830, H⟩ := H
                replace H : (if t565 = true then (almanaclaw02_DevPlays.l0 kj71 l1 (l1.length : Int) (wrap64 (x36_2 + 1)) t546 t549 t552 t553 t556 t559 t562 t563) else (some false)) = some r := H
                have A83 := Aside0.mk A830
                clear A830
                by_cases c84 : t565 = true
                ·subst c84
                 have H1 : (almanaclaw02_DevPlays.l0 kj71 l1 (l1.length : Int) (wrap64 (x36_2 + 1)) t546 t549 t552 t553 t556 t559 t562 t563) = some r := by rw [if_pos rfl] at H; exact H
                 clear H
                 have H := H1
                 clear H1
                 have H' := Aside0.mk H
                 clear H
                 have hnb85 := NB540_534.out
                 have hnc85 := NB534_540.out
                 have hnb86 := NB540_535.out
                 have hnc86 := NB535_540.out
                 obtain ⟨hcz87_0, hcz87_1, hcz87_2, hcz87_3, hfz87_0, hfz87_1, hfz87_2, hfz87_3⟩ := k4 BK540
                 have hnb88 := NB534_535.out
                 have hnc88 := NB535_534.out
                 obtain ⟨hcz89_0, hcz89_1, hcz89_2, hcz89_3, hfz89_0, hfz89_1, hfz89_2, hfz89_3⟩ := k4 BK534
                 obtain ⟨Ao90, co90, eo90⟩ := Kd.R_slice HO_535000.out
                 subst eo90
                 obtain ⟨Ao91, co91, eo91⟩ := Kd.R_slice HO_535001.out
                 subst eo91
                 go_wp2_with (first | ((with_reducible refine gate_callee (f := 13) rfl ?_); refine goesL_ (some 93) rfl rfl Try.func13 (by kernel_rfl) rfl #[.agg #[.slice Ao90 x535000_2.length co90, .slice Ao91 x535001_2.length co91, .int .i64 x535002_2, .bool x535003_2], .int .i64 ((rd_T45 l1 x36_2).f1), .string x11_71] rfl (by (try simp only [List.map_toArray, List.map_cons, List.map_nil]); first | done | rfl | (simp only [List.length_drop, List.length_take]; rfl)) ?_; (with_reducible refine (dev_Write.calls kj71 _ _ x535000_2 _ _ x535001_2 x535002_2 x535003_2 ((rd_T45 l1 x36_2).f1) x11_71 t546 t549 t552 t553 t554 _ ?side1 ?side2 ?side3 ?side4 A80.out).mono ?_); (case side1 => exact cU (Kd.R_reads' HO_535000.out).2.2); (case side2 => exact (Kd.R_reads' HO_535000.out).2.1); (case side3 => exact cU (Kd.R_reads' HO_535001.out).2.2); (case side4 => exact (Kd.R_reads' HO_535001.out).2.1); rintro e w92 ⟨v547, v550, rfl, ho0, ho1, hb⟩; refine ⟨_, rfl, ?_⟩; have n0_ := Aside0.mk (Kd.R_elder' (rU HO_535000) (Kd.R_base ho0) hb); have n1_ := Aside0.mk (Kd.R_elder' (rU HO_535001) (Kd.R_base ho1) hb); have n2_ := Aside0.mk (Kd.R_elder' (rU HO_536000) (Kd.R_base ho0) hb); have n3_ := Aside0.mk (Kd.R_elder' (rU HO_536001) (Kd.R_base ho1) hb); have n4_ := Aside0.mk (Kd.R_lower (Kd.R_new' (Kd.R_new' ho0 (Kd.R_lt (rU HO_535000))) (Kd.R_lt (rU HO_536000))) (below_size (bU HB))); have n5_ := Aside0.mk (Kd.R_lower (Kd.R_new' (Kd.R_new' ho1 (Kd.R_lt (rU HO_535001))) (Kd.R_lt (rU HO_536001))) (below_size (bU HB))); have n6_ := Aside0.mk (blk_below (g := gb534) (o := .cells #[.slice Ao90 x535000_2.length co90, .slice Ao91 x535001_2.length co91, .int .i64 x535002_2, .bool x535003_2] 25 (0, 0)) (by (with_reducible repeat (first | refine blk_drewN ?_ _ | refine blk_drew ?_ | refine blk_alloc ?_ _)); exact BK534.out) hb); have n7_ := Aside0.mk (blk_below (g := gb535) (o := .cells #[u536000, u536001, .int .i64 x536002_2, .bool x536003_2] 25 (0, 0)) (by (with_reducible repeat (first | refine blk_drewN ?_ _ | refine blk_drew ?_ | refine blk_alloc ?_ _)); exact BK535.out) hb); have n8_ := Aside0.mk (blk_below (g := gb540) (o := .cells #[.int .i64 ((rd_T45 l1 x36_2).f0), .int .i64 ((rd_T45 l1 x36_2).f1), .string ((rd_T45 l1 x36_2).f2), .slice A539_3 ((rd_T45 l1 x36_2).f3).length c539_3] 45 (0, 0)) (by (with_reducible repeat (first | refine blk_drewN ?_ _ | refine blk_drew ?_ | refine blk_alloc ?_ _)); exact BK540.out) hb); have n9_ := Aside0.mk (below_step (bU HB) hb); clear HO_535000; clear HO_535001; clear HO_536000; clear HO_536001; clear BK534; clear BK535; clear BK540; clear HB; have HO_535000 := n0_; have HO_535001 := n1_; have HO_536000 := n2_; have HO_536001 := n3_; have HO548 := n4_; have HO551 := n5_; have BK534 := n6_; have BK535 := n7_; have BK540 := n8_; have HB := n9_; clear n0_ n1_ n2_ n3_ n4_ n5_ n6_ n7_ n8_ n9_; (try clear hb); (try clear hb2); (try clear hk); (try clear hi); (try clear ho0); (try clear ho1)) | ((with_reducible refine gate_dst (N := 12) rfl ?_); refine box_event ?hg (N := 12) ?hd (cs := #[.slice none 0 0, .slice none 0 0, .int .i64 0, .bool false]) (t := 25) ?hr ?_; (case hd => rfl); (case hg => rfl); (case hr => first | (go_simp; done) | (go_simp; rfl)); intro gb555 hg w93 hbox hb; have n0_ := Aside0.mk (Kd.R_below (rU HO_535000) hb); have n1_ := Aside0.mk (Kd.R_below (rU HO_535001) hb); have n2_ := Aside0.mk (Kd.R_below (rU HO_536000) hb); have n3_ := Aside0.mk (Kd.R_below (rU HO_536001) hb); have n4_ := Aside0.mk (Kd.R_below (rU HO548) hb); have n5_ := Aside0.mk (Kd.R_below (rU HO551) hb); have n6_ := Aside0.mk (blk_below (g := gb534) (o := .cells #[.slice Ao90 x535000_2.length co90, .slice Ao91 x535001_2.length co91, .int .i64 x535002_2, .bool x535003_2] 25 (0, 0)) (by (with_reducible repeat (first | refine blk_drewN ?_ _ | refine blk_drew ?_ | refine blk_alloc ?_ _)); exact BK534.out) hb); have n7_ := Aside0.mk (blk_below (g := gb535) (o := .cells #[u536000, u536001, .int .i64 x536002_2, .bool x536003_2] 25 (0, 0)) (by (with_reducible repeat (first | refine blk_drewN ?_ _ | refine blk_drew ?_ | refine blk_alloc ?_ _)); exact BK535.out) hb); have n8_ := Aside0.mk (blk_below (g := gb540) (o := .cells #[.int .i64 ((rd_T45 l1 x36_2).f0), .int .i64 ((rd_T45 l1 x36_2).f1), .string ((rd_T45 l1 x36_2).f2), .slice A539_3 ((rd_T45 l1 x36_2).f3).length c539_3] 45 (0, 0)) (by (with_reducible repeat (first | refine blk_drewN ?_ _ | refine blk_drew ?_ | refine blk_alloc ?_ _)); exact BK540.out) hb); have n9_ := Aside0.mk (below_step (bU HB) hb); have n10_ := Aside0.mk (hbox); have n11_ := Aside0.mk ((by rw [hg]; exact (below_size (bU HB)) : w.heap.size ≤ gb555)); have n12_ := Aside0.mk ((by rw [hg]; exact (below_size (bU HB)) : w.heap.size ≤ gb555)); have n13_ := Aside0.mk ((by rw [hg]; exact Nat.ne_of_lt (blk_lt (g := gb534) (o := .cells #[.slice Ao90 x535000_2.length co90, .slice Ao91 x535001_2.length co91, .int .i64 x535002_2, .bool x535003_2] 25 (0, 0)) (by (with_reducible repeat (first | refine blk_drewN ?_ _ | refine blk_drew ?_ | refine blk_alloc ?_ _)); exact BK534.out)) : gb534 ≠ gb555)); have n14_ := Aside0.mk ((by rw [hg]; exact Nat.ne_of_gt (blk_lt (g := gb534) (o := .cells #[.slice Ao90 x535000_2.length co90, .slice Ao91 x535001_2.length co91, .int .i64 x535002_2, .bool x535003_2] 25 (0, 0)) (by (with_reducible repeat (first | refine blk_drewN ?_ _ | refine blk_drew ?_ | refine blk_alloc ?_ _)); exact BK534.out)) : gb555 ≠ gb534)); have n15_ := Aside0.mk ((by rw [hg]; exact Nat.ne_of_lt (blk_lt (g := gb535) (o := .cells #[u536000, u536001, .int .i64 x536002_2, .bool x536003_2] 25 (0, 0)) (by (with_reducible repeat (first | refine blk_drewN ?_ _ | refine blk_drew ?_ | refine blk_alloc ?_ _)); exact BK535.out)) : gb535 ≠ gb555)); have n16_ := Aside0.mk ((by rw [hg]; exact Nat.ne_of_gt (blk_lt (g := gb535) (o := .cells #[u536000, u536001, .int .i64 x536002_2, .bool x536003_2] 25 (0, 0)) (by (with_reducible repeat (first | refine blk_drewN ?_ _ | refine blk_drew ?_ | refine blk_alloc ?_ _)); exact BK535.out)) : gb555 ≠ gb535)); have n17_ := Aside0.mk ((by rw [hg]; exact Nat.ne_of_lt (blk_lt (g := gb540) (o := .cells #[.int .i64 ((rd_T45 l1 x36_2).f0), .int .i64 ((rd_T45 l1 x36_2).f1), .string ((rd_T45 l1 x36_2).f2), .slice A539_3 ((rd_T45 l1 x36_2).f3).length c539_3] 45 (0, 0)) (by (with_reducible repeat (first | refine blk_drewN ?_ _ | refine blk_drew ?_ | refine blk_alloc ?_ _)); exact BK540.out)) : gb540 ≠ gb555)); have n18_ := Aside0.mk ((by rw [hg]; exact Nat.ne_of_gt (blk_lt (g := gb540) (o := .cells #[.int .i64 ((rd_T45 l1 x36_2).f0), .int .i64 ((rd_T45 l1 x36_2).f1), .string ((rd_T45 l1 x36_2).f2), .slice A539_3 ((rd_T45 l1 x36_2).f3).length c539_3] 45 (0, 0)) (by (with_reducible repeat (first | refine blk_drewN ?_ _ | refine blk_drew ?_ | refine blk_alloc ?_ _)); exact BK540.out)) : gb555 ≠ gb540)); clear HO_535000; clear HO_535001; clear HO_536000; clear HO_536001; clear HO548; clear HO551; clear BK534; clear BK535; clear BK540; clear HB; have HO_535000 := n0_; have HO_535001 := n1_; have HO_536000 := n2_; have HO_536001 := n3_; have HO548 := n4_; have HO551 := n5_; have BK534 := n6_; have BK535 := n7_; have BK540 := n8_; have HB := n9_; have BK555 := n10_; have GW555 := n11_; have GE555 := n12_; have NB534_555 := n13_; have NB555_534 := n14_; have NB535_555 := n15_; have NB555_535 := n16_; have NB540_555 := n17_; have NB555_540 := n18_; clear n0_ n1_ n2_ n3_ n4_ n5_ n6_ n7_ n8_ n9_ n10_ n11_ n12_ n13_ n14_ n15_ n16_ n17_ n18_; clear hb hbox hg; obtain ⟨Ao94, co94, eo94⟩ := Kd.R_slice HO548.out; subst eo94; have hnb95 := NB555_534.out; have hnc95 := NB534_555.out; have hnb96 := NB555_535.out; have hnc96 := NB535_555.out; have hnb97 := NB555_540.out; have hnc97 := NB540_555.out; have hcz98_0 : w93.cell? ⟨gb555, 0, none⟩ = some (.slice none 0 0) := (blk_cell BK555.out 0).trans rfl; have hcz98_1 : w93.cell? ⟨gb555, 1, none⟩ = some (.slice none 0 0) := (blk_cell BK555.out 1).trans rfl; have hcz98_2 : w93.cell? ⟨gb555, 2, none⟩ = some (.int .i64 0) := (blk_cell BK555.out 2).trans rfl; have hcz98_3 : w93.cell? ⟨gb555, 3, none⟩ = some (.bool false) := (blk_cell BK555.out 3).trans rfl; have hfz98_0 := blk_frozen BK555.out 0; have hfz98_1 := blk_frozen BK555.out 1; have hfz98_2 := blk_frozen BK555.out 2; have hfz98_3 := blk_frozen BK555.out 3; obtain ⟨Ao99, co99, eo99⟩ := Kd.R_slice HO551.out; subst eo99; have hcz100_0 : w93.cell? ⟨gb534, 0, none⟩ = some (.slice Ao90 x535000_2.length co90) := (blk_cell BK534.out 0).trans rfl; have hcz100_1 : w93.cell? ⟨gb534, 1, none⟩ = some (.slice Ao91 x535001_2.length co91) := (blk_cell BK534.out 1).trans rfl; have hcz100_2 : w93.cell? ⟨gb534, 2, none⟩ = some (.int .i64 x535002_2) := (blk_cell BK534.out 2).trans rfl; have hcz100_3 : w93.cell? ⟨gb534, 3, none⟩ = some (.bool x535003_2) := (blk_cell BK534.out 3).trans rfl; have hfz100_0 := blk_frozen BK534.out 0; have hfz100_1 := blk_frozen BK534.out 1; have hfz100_2 := blk_frozen BK534.out 2; have hfz100_3 := blk_frozen BK534.out 3; have hcz101_0 : w93.cell? ⟨gb535, 0, none⟩ = some (u536000) := (blk_cell BK535.out 0).trans rfl; have hcz101_1 : w93.cell? ⟨gb535, 1, none⟩ = some (u536001) := (blk_cell BK535.out 1).trans rfl; have hcz101_2 : w93.cell? ⟨gb535, 2, none⟩ = some (.int .i64 x536002_2) := (blk_cell BK535.out 2).trans rfl; have hcz101_3 : w93.cell? ⟨gb535, 3, none⟩ = some (.bool x536003_2) := (blk_cell BK535.out 3).trans rfl; have hfz101_0 := blk_frozen BK535.out 0; have hfz101_1 := blk_frozen BK535.out 1; have hfz101_2 := blk_frozen BK535.out 2; have hfz101_3 := blk_frozen BK535.out 3; have hcz102_0 : w93.cell? ⟨gb540, 0, none⟩ = some (.int .i64 ((rd_T45 l1 x36_2).f0)) := (blk_cell BK540.out 0).trans rfl; have hcz102_1 : w93.cell? ⟨gb540, 1, none⟩ = some (.int .i64 ((rd_T45 l1 x36_2).f1)) := (blk_cell BK540.out 1).trans rfl; have hcz102_2 : w93.cell? ⟨gb540, 2, none⟩ = some (.string ((rd_T45 l1 x36_2).f2)) := (blk_cell BK540.out 2).trans rfl; have hcz102_3 : w93.cell? ⟨gb540, 3, none⟩ = some (.slice A539_3 ((rd_T45 l1 x36_2).f3).length c539_3) := (blk_cell BK540.out 3).trans rfl; have hfz102_0 := blk_frozen BK540.out 0; have hfz102_1 := blk_frozen BK540.out 1; have hfz102_2 := blk_frozen BK540.out 2; have hfz102_3 := blk_frozen BK540.out 3; obtain ⟨Ao103, co103, eo103⟩ := Kd.R_slice HO_536000.out; subst eo103; obtain ⟨Ao104, co104, eo104⟩ := Kd.R_slice HO_536001.out; subst eo104) | ((with_reducible refine gate_callee (f := 21) rfl ?_); refine goesL_ (some 103) rfl rfl Try.func21 (by kernel_rfl) rfl #[.agg #[.slice Ao103 x536000_2.length co103, .slice Ao104 x536001_2.length co104, .int .i64 x536002_2, .bool x536003_2], .int .i64 ((rd_T45 l1 x36_2).f1), .string x11_71] rfl (by (try simp only [List.map_toArray, List.map_cons, List.map_nil]); first | done | rfl | (simp only [List.length_drop, List.length_take]; rfl)) ?_; (with_reducible refine (almanacref02_Write.calls kj71 _ _ x536000_2 _ _ x536001_2 x536002_2 x536003_2 ((rd_T45 l1 x36_2).f1) x11_71 t556 t559 t562 t563 t564 _ ?side1 ?side2 ?side3 ?side4 A81.out).mono ?_); (case side1 => refine (Kd.R_reads' (e := 9) (base := w.heap.size) (ok := fun k_ => (some k_ ≠ (.slice Ao90 x535000_2.length co90 : Value).ownBlock ∧ some k_ ≠ (.slice Ao94 t546.length co94 : Value).ownBlock)) (n := x536000_2.length) (c := co103) ?_).2.2; exact (rF2 HO_536000 BK555 BK534)); (case side2 => exact (Kd.R_reads' HO_536000.out).2.1); (case side3 => refine (Kd.R_reads' (e := 40) (base := w.heap.size) (ok := fun k_ => (some k_ ≠ (.slice Ao91 x535001_2.length co91 : Value).ownBlock ∧ some k_ ≠ (.slice Ao99 t549.length co99 : Value).ownBlock)) (n := x536001_2.length) (c := co104) ?_).2.2; exact (rF2 HO_536001 BK555 BK534)); (case side4 => exact (Kd.R_reads' HO_536001.out).2.1); rintro e w105 ⟨v557, v560, rfl, ho0, ho1, hb⟩; refine ⟨_, rfl, ?_⟩; have n0_ := Aside0.mk (Kd.R_elder' (rF2 HO_535000 BK555 BK534) (Kd.R_base ho0) hb); have n1_ := Aside0.mk (Kd.R_elder' (rF2 HO_535001 BK555 BK534) (Kd.R_base ho1) hb); have n2_ := Aside0.mk (Kd.R_elder' (rF2 HO_536000 BK555 BK534) (Kd.R_base ho0) hb); have n3_ := Aside0.mk (Kd.R_elder' (rF2 HO_536001 BK555 BK534) (Kd.R_base ho1) hb); have n4_ := Aside0.mk (Kd.R_elder' (rF2 HO548 BK555 BK534) (Kd.R_base ho0) hb); have n5_ := Aside0.mk (Kd.R_elder' (rF2 HO551 BK555 BK534) (Kd.R_base ho1) hb); have n6_ := Aside0.mk (Kd.R_lower (Kd.R_new' (Kd.R_new' (Kd.R_new' ho0 (Kd.R_lt (rF2 HO_535000 BK555 BK534))) (Kd.R_lt (rF2 HO_536000 BK555 BK534))) (Kd.R_lt (rF2 HO548 BK555 BK534))) (below_size (bU HB))); have n7_ := Aside0.mk (Kd.R_lower (Kd.R_new' (Kd.R_new' (Kd.R_new' ho1 (Kd.R_lt (rF2 HO_535001 BK555 BK534))) (Kd.R_lt (rF2 HO_536001 BK555 BK534))) (Kd.R_lt (rF2 HO551 BK555 BK534))) (below_size (bU HB))); have n8_ := Aside0.mk (blk_below (g := gb534) (o := .cells #[.slice Ao94 t546.length co94, .slice Ao99 t549.length co99, .int .i64 t552, .bool t553] 25 (0, 0)) (by (with_reducible repeat (first | refine blk_drewN ?_ _ | refine blk_drew ?_ | refine blk_alloc ?_ _)); refine blk_put (cs := #[.slice Ao94 t546.length co94, .slice Ao99 t549.length co99, .int .i64 t552, .bool x535003_2]) ?_ 3 _ rfl; (with_reducible repeat (first | refine blk_drewN ?_ _ | refine blk_drew ?_ | refine blk_alloc ?_ _)); refine blk_put (cs := #[.slice Ao94 t546.length co94, .slice Ao99 t549.length co99, .int .i64 x535002_2, .bool x535003_2]) ?_ 2 _ rfl; (with_reducible repeat (first | refine blk_drewN ?_ _ | refine blk_drew ?_ | refine blk_alloc ?_ _)); refine blk_put (cs := #[.slice Ao94 t546.length co94, .slice Ao91 x535001_2.length co91, .int .i64 x535002_2, .bool x535003_2]) ?_ 1 _ rfl; (with_reducible repeat (first | refine blk_drewN ?_ _ | refine blk_drew ?_ | refine blk_alloc ?_ _)); refine blk_put (cs := #[.slice Ao90 x535000_2.length co90, .slice Ao91 x535001_2.length co91, .int .i64 x535002_2, .bool x535003_2]) ?_ 0 _ rfl; (with_reducible repeat (first | refine blk_drewN ?_ _ | refine blk_drew ?_ | refine blk_alloc ?_ _)); refine blk_far ?_ NB534_555.out _; (with_reducible repeat (first | refine blk_drewN ?_ _ | refine blk_drew ?_ | refine blk_alloc ?_ _)); refine blk_far ?_ NB534_555.out _; (with_reducible repeat (first | refine blk_drewN ?_ _ | refine blk_drew ?_ | refine blk_alloc ?_ _)); refine blk_far ?_ NB534_555.out _; (with_reducible repeat (first | refine blk_drewN ?_ _ | refine blk_drew ?_ | refine blk_alloc ?_ _)); refine blk_far ?_ NB534_555.out _; (with_reducible repeat (first | refine blk_drewN ?_ _ | refine blk_drew ?_ | refine blk_alloc ?_ _)); exact BK534.out) hb); have n9_ := Aside0.mk (blk_below (g := gb535) (o := .cells #[.slice Ao103 x536000_2.length co103, .slice Ao104 x536001_2.length co104, .int .i64 x536002_2, .bool x536003_2] 25 (0, 0)) (by (with_reducible repeat (first | refine blk_drewN ?_ _ | refine blk_drew ?_ | refine blk_alloc ?_ _)); refine blk_far ?_ NB535_534.out _; (with_reducible repeat (first | refine blk_drewN ?_ _ | refine blk_drew ?_ | refine blk_alloc ?_ _)); refine blk_far ?_ NB535_534.out _; (with_reducible repeat (first | refine blk_drewN ?_ _ | refine blk_drew ?_ | refine blk_alloc ?_ _)); refine blk_far ?_ NB535_534.out _; (with_reducible repeat (first | refine blk_drewN ?_ _ | refine blk_drew ?_ | refine blk_alloc ?_ _)); refine blk_far ?_ NB535_534.out _; (with_reducible repeat (first | refine blk_drewN ?_ _ | refine blk_drew ?_ | refine blk_alloc ?_ _)); refine blk_far ?_ NB535_555.out _; (with_reducible repeat (first | refine blk_drewN ?_ _ | refine blk_drew ?_ | refine blk_alloc ?_ _)); refine blk_far ?_ NB535_555.out _; (with_reducible repeat (first | refine blk_drewN ?_ _ | refine blk_drew ?_ | refine blk_alloc ?_ _)); refine blk_far ?_ NB535_555.out _; (with_reducible repeat (first | refine blk_drewN ?_ _ | refine blk_drew ?_ | refine blk_alloc ?_ _)); refine blk_far ?_ NB535_555.out _; (with_reducible repeat (first | refine blk_drewN ?_ _ | refine blk_drew ?_ | refine blk_alloc ?_ _)); exact BK535.out) hb); have n10_ := Aside0.mk (blk_below (g := gb540) (o := .cells #[.int .i64 ((rd_T45 l1 x36_2).f0), .int .i64 ((rd_T45 l1 x36_2).f1), .string ((rd_T45 l1 x36_2).f2), .slice A539_3 ((rd_T45 l1 x36_2).f3).length c539_3] 45 (0, 0)) (by (with_reducible repeat (first | refine blk_drewN ?_ _ | refine blk_drew ?_ | refine blk_alloc ?_ _)); refine blk_far ?_ NB540_534.out _; (with_reducible repeat (first | refine blk_drewN ?_ _ | refine blk_drew ?_ | refine blk_alloc ?_ _)); refine blk_far ?_ NB540_534.out _; (with_reducible repeat (first | refine blk_drewN ?_ _ | refine blk_drew ?_ | refine blk_alloc ?_ _)); refine blk_far ?_ NB540_534.out _; (with_reducible repeat (first | refine blk_drewN ?_ _ | refine blk_drew ?_ | refine blk_alloc ?_ _)); refine blk_far ?_ NB540_534.out _; (with_reducible repeat (first | refine blk_drewN ?_ _ | refine blk_drew ?_ | refine blk_alloc ?_ _)); refine blk_far ?_ NB540_555.out _; (with_reducible repeat (first | refine blk_drewN ?_ _ | refine blk_drew ?_ | refine blk_alloc ?_ _)); refine blk_far ?_ NB540_555.out _; (with_reducible repeat (first | refine blk_drewN ?_ _ | refine blk_drew ?_ | refine blk_alloc ?_ _)); refine blk_far ?_ NB540_555.out _; (with_reducible repeat (first | refine blk_drewN ?_ _ | refine blk_drew ?_ | refine blk_alloc ?_ _)); refine blk_far ?_ NB540_555.out _; (with_reducible repeat (first | refine blk_drewN ?_ _ | refine blk_drew ?_ | refine blk_alloc ?_ _)); exact BK540.out) hb); have n11_ := Aside0.mk (blk_below (g := gb555) (o := .cells #[.slice Ao94 t546.length co94, .slice Ao99 t549.length co99, .int .i64 t552, .bool t553] 25 (0, 0)) (by (with_reducible repeat (first | refine blk_drewN ?_ _ | refine blk_drew ?_ | refine blk_alloc ?_ _)); refine blk_far ?_ NB555_534.out _; (with_reducible repeat (first | refine blk_drewN ?_ _ | refine blk_drew ?_ | refine blk_alloc ?_ _)); refine blk_far ?_ NB555_534.out _; (with_reducible repeat (first | refine blk_drewN ?_ _ | refine blk_drew ?_ | refine blk_alloc ?_ _)); refine blk_far ?_ NB555_534.out _; (with_reducible repeat (first | refine blk_drewN ?_ _ | refine blk_drew ?_ | refine blk_alloc ?_ _)); refine blk_far ?_ NB555_534.out _; (with_reducible repeat (first | refine blk_drewN ?_ _ | refine blk_drew ?_ | refine blk_alloc ?_ _)); refine blk_put (cs := #[.slice Ao94 t546.length co94, .slice Ao99 t549.length co99, .int .i64 t552, .bool false]) ?_ 3 _ rfl; (with_reducible repeat (first | refine blk_drewN ?_ _ | refine blk_drew ?_ | refine blk_alloc ?_ _)); refine blk_put (cs := #[.slice Ao94 t546.length co94, .slice Ao99 t549.length co99, .int .i64 0, .bool false]) ?_ 2 _ rfl; (with_reducible repeat (first | refine blk_drewN ?_ _ | refine blk_drew ?_ | refine blk_alloc ?_ _)); refine blk_put (cs := #[.slice Ao94 t546.length co94, .slice none 0 0, .int .i64 0, .bool false]) ?_ 1 _ rfl; (with_reducible repeat (first | refine blk_drewN ?_ _ | refine blk_drew ?_ | refine blk_alloc ?_ _)); refine blk_put (cs := #[.slice none 0 0, .slice none 0 0, .int .i64 0, .bool false]) ?_ 0 _ rfl; (with_reducible repeat (first | refine blk_drewN ?_ _ | refine blk_drew ?_ | refine blk_alloc ?_ _)); exact BK555.out) hb); have n12_ := Aside0.mk (below_step (bU HB) hb); clear HO_535000; clear HO_535001; clear HO_536000; clear HO_536001; clear HO548; clear HO551; clear BK534; clear BK535; clear BK540; clear BK555; clear HB; have HO_535000 := n0_; have HO_535001 := n1_; have HO_536000 := n2_; have HO_536001 := n3_; have HO548 := n4_; have HO551 := n5_; have HO558 := n6_; have HO561 := n7_; have BK534 := n8_; have BK535 := n9_; have BK540 := n10_; have BK555 := n11_; have HB := n12_; clear n0_ n1_ n2_ n3_ n4_ n5_ n6_ n7_ n8_ n9_ n10_ n11_ n12_; (try clear hb); (try clear hb2); (try clear hk); (try clear hi); (try clear ho0); (try clear ho1); obtain ⟨Ao106, co106, eo106⟩ := Kd.R_slice HO558.out; subst eo106; have hcz107_0 : w105.cell? ⟨gb535, 0, none⟩ = some (.slice Ao103 x536000_2.length co103) := (blk_cell BK535.out 0).trans rfl; have hcz107_1 : w105.cell? ⟨gb535, 1, none⟩ = some (.slice Ao104 x536001_2.length co104) := (blk_cell BK535.out 1).trans rfl; have hcz107_2 : w105.cell? ⟨gb535, 2, none⟩ = some (.int .i64 x536002_2) := (blk_cell BK535.out 2).trans rfl; have hcz107_3 : w105.cell? ⟨gb535, 3, none⟩ = some (.bool x536003_2) := (blk_cell BK535.out 3).trans rfl; have hfz107_0 := blk_frozen BK535.out 0; have hfz107_1 := blk_frozen BK535.out 1; have hfz107_2 := blk_frozen BK535.out 2; have hfz107_3 := blk_frozen BK535.out 3; obtain ⟨Ao108, co108, eo108⟩ := Kd.R_slice HO561.out; subst eo108; have hcz109_0 : w105.cell? ⟨gb534, 0, none⟩ = some (.slice Ao94 t546.length co94) := (blk_cell BK534.out 0).trans rfl; have hcz109_1 : w105.cell? ⟨gb534, 1, none⟩ = some (.slice Ao99 t549.length co99) := (blk_cell BK534.out 1).trans rfl; have hcz109_2 : w105.cell? ⟨gb534, 2, none⟩ = some (.int .i64 t552) := (blk_cell BK534.out 2).trans rfl; have hcz109_3 : w105.cell? ⟨gb534, 3, none⟩ = some (.bool t553) := (blk_cell BK534.out 3).trans rfl; have hfz109_0 := blk_frozen BK534.out 0; have hfz109_1 := blk_frozen BK534.out 1; have hfz109_2 := blk_frozen BK534.out 2; have hfz109_3 := blk_frozen BK534.out 3) | (go_at_call 14; (with_reducible refine (almanacref02_Same.calls kj71 _ _ t546 _ _ t549 t552 t553 _ _ t556 _ _ t559 t562 t563 true _ ?side1 ?side2 ?side3 ?side4 ?side5 ?side6 ?side7 ?side8 A83.out).mono ?_); (case side1 => refine (Kd.R_reads' (e := 9) (base := w.heap.size) (ok := fun k_ => (((True ∧ some k_ ≠ (.slice Ao90 x535000_2.length co90 : Value).ownBlock) ∧ some k_ ≠ (.slice Ao103 x536000_2.length co103 : Value).ownBlock) ∧ some k_ ≠ (.slice Ao106 t556.length co106 : Value).ownBlock)) (n := t546.length) (c := co94) ?_).2.2; exact (rF1 HO548 BK535)); (case side2 => exact (Kd.R_reads' HO548.out).2.1); (case side3 => refine (Kd.R_reads' (e := 40) (base := w.heap.size) (ok := fun k_ => (((True ∧ some k_ ≠ (.slice Ao91 x535001_2.length co91 : Value).ownBlock) ∧ some k_ ≠ (.slice Ao104 x536001_2.length co104 : Value).ownBlock) ∧ some k_ ≠ (.slice Ao108 t559.length co108 : Value).ownBlock)) (n := t549.length) (c := co99) ?_).2.2; exact (rF1 HO551 BK535)); (case side4 => exact (Kd.R_reads' HO551.out).2.1); (case side5 => refine (Kd.R_reads' (e := 9) (base := w.heap.size) (ok := fun k_ => (((True ∧ some k_ ≠ (.slice Ao90 x535000_2.length co90 : Value).ownBlock) ∧ some k_ ≠ (.slice Ao103 x536000_2.length co103 : Value).ownBlock) ∧ some k_ ≠ (.slice Ao94 t546.length co94 : Value).ownBlock)) (n := t556.length) (c := co106) ?_).2.2; exact (rF1 HO558 BK535)); (case side6 => exact (Kd.R_reads' HO558.out).2.1); (case side7 => refine (Kd.R_reads' (e := 40) (base := w.heap.size) (ok := fun k_ => (((True ∧ some k_ ≠ (.slice Ao91 x535001_2.length co91 : Value).ownBlock) ∧ some k_ ≠ (.slice Ao104 x536001_2.length co104 : Value).ownBlock) ∧ some k_ ≠ (.slice Ao99 t549.length co99 : Value).ownBlock)) (n := t559.length) (c := co108) ?_).2.2; exact (rF1 HO561 BK535)); (case side8 => exact (Kd.R_reads' HO561.out).2.1); rintro e w110 ⟨rfl, hb⟩; have n0_ := Aside0.mk (Kd.R_below (rF1 HO_535000 BK535) hb); have n1_ := Aside0.mk (Kd.R_below (rF1 HO_535001 BK535) hb); have n2_ := Aside0.mk (Kd.R_below (rF1 HO_536000 BK535) hb); have n3_ := Aside0.mk (Kd.R_below (rF1 HO_536001 BK535) hb); have n4_ := Aside0.mk (Kd.R_below (rF1 HO548 BK535) hb); have n5_ := Aside0.mk (Kd.R_below (rF1 HO551 BK535) hb); have n6_ := Aside0.mk (Kd.R_below (rF1 HO558 BK535) hb); have n7_ := Aside0.mk (Kd.R_below (rF1 HO561 BK535) hb); have n8_ := Aside0.mk (blk_below (g := gb534) (o := .cells #[.slice Ao94 t546.length co94, .slice Ao99 t549.length co99, .int .i64 t552, .bool t553] 25 (0, 0)) (by (with_reducible repeat (first | refine blk_drewN ?_ _ | refine blk_drew ?_ | refine blk_alloc ?_ _)); refine blk_far ?_ NB534_535.out _; (with_reducible repeat (first | refine blk_drewN ?_ _ | refine blk_drew ?_ | refine blk_alloc ?_ _)); refine blk_far ?_ NB534_535.out _; (with_reducible repeat (first | refine blk_drewN ?_ _ | refine blk_drew ?_ | refine blk_alloc ?_ _)); refine blk_far ?_ NB534_535.out _; (with_reducible repeat (first | refine blk_drewN ?_ _ | refine blk_drew ?_ | refine blk_alloc ?_ _)); refine blk_far ?_ NB534_535.out _; (with_reducible repeat (first | refine blk_drewN ?_ _ | refine blk_drew ?_ | refine blk_alloc ?_ _)); exact BK534.out) hb); have n9_ := Aside0.mk (blk_below (g := gb535) (o := .cells #[.slice Ao106 t556.length co106, .slice Ao108 t559.length co108, .int .i64 t562, .bool t563] 25 (0, 0)) (by (with_reducible repeat (first | refine blk_drewN ?_ _ | refine blk_drew ?_ | refine blk_alloc ?_ _)); refine blk_put (cs := #[.slice Ao106 t556.length co106, .slice Ao108 t559.length co108, .int .i64 t562, .bool x536003_2]) ?_ 3 _ rfl; (with_reducible repeat (first | refine blk_drewN ?_ _ | refine blk_drew ?_ | refine blk_alloc ?_ _)); refine blk_put (cs := #[.slice Ao106 t556.length co106, .slice Ao108 t559.length co108, .int .i64 x536002_2, .bool x536003_2]) ?_ 2 _ rfl; (with_reducible repeat (first | refine blk_drewN ?_ _ | refine blk_drew ?_ | refine blk_alloc ?_ _)); refine blk_put (cs := #[.slice Ao106 t556.length co106, .slice Ao104 x536001_2.length co104, .int .i64 x536002_2, .bool x536003_2]) ?_ 1 _ rfl; (with_reducible repeat (first | refine blk_drewN ?_ _ | refine blk_drew ?_ | refine blk_alloc ?_ _)); refine blk_put (cs := #[.slice Ao103 x536000_2.length co103, .slice Ao104 x536001_2.length co104, .int .i64 x536002_2, .bool x536003_2]) ?_ 0 _ rfl; (with_reducible repeat (first | refine blk_drewN ?_ _ | refine blk_drew ?_ | refine blk_alloc ?_ _)); exact BK535.out) hb); have n10_ := Aside0.mk (blk_below (g := gb540) (o := .cells #[.int .i64 ((rd_T45 l1 x36_2).f0), .int .i64 ((rd_T45 l1 x36_2).f1), .string ((rd_T45 l1 x36_2).f2), .slice A539_3 ((rd_T45 l1 x36_2).f3).length c539_3] 45 (0, 0)) (by (with_reducible repeat (first | refine blk_drewN ?_ _ | refine blk_drew ?_ | refine blk_alloc ?_ _)); refine blk_far ?_ NB540_535.out _; (with_reducible repeat (first | refine blk_drewN ?_ _ | refine blk_drew ?_ | refine blk_alloc ?_ _)); refine blk_far ?_ NB540_535.out _; (with_reducible repeat (first | refine blk_drewN ?_ _ | refine blk_drew ?_ | refine blk_alloc ?_ _)); refine blk_far ?_ NB540_535.out _; (with_reducible repeat (first | refine blk_drewN ?_ _ | refine blk_drew ?_ | refine blk_alloc ?_ _)); refine blk_far ?_ NB540_535.out _; (with_reducible repeat (first | refine blk_drewN ?_ _ | refine blk_drew ?_ | refine blk_alloc ?_ _)); exact BK540.out) hb); have n11_ := Aside0.mk (blk_below (g := gb555) (o := .cells #[.slice Ao94 t546.length co94, .slice Ao99 t549.length co99, .int .i64 t552, .bool t553] 25 (0, 0)) (by (with_reducible repeat (first | refine blk_drewN ?_ _ | refine blk_drew ?_ | refine blk_alloc ?_ _)); refine blk_far ?_ NB555_535.out _; (with_reducible repeat (first | refine blk_drewN ?_ _ | refine blk_drew ?_ | refine blk_alloc ?_ _)); refine blk_far ?_ NB555_535.out _; (with_reducible repeat (first | refine blk_drewN ?_ _ | refine blk_drew ?_ | refine blk_alloc ?_ _)); refine blk_far ?_ NB555_535.out _; (with_reducible repeat (first | refine blk_drewN ?_ _ | refine blk_drew ?_ | refine blk_alloc ?_ _)); refine blk_far ?_ NB555_535.out _; (with_reducible repeat (first | refine blk_drewN ?_ _ | refine blk_drew ?_ | refine blk_alloc ?_ _)); exact BK555.out) hb); have n12_ := Aside0.mk (below_step (bU HB) hb); clear HO_535000; clear HO_535001; clear HO_536000; clear HO_536001; clear HO548; clear HO551; clear HO558; clear HO561; clear BK534; clear BK535; clear BK540; clear BK555; clear HB; have HO_535000 := n0_; have HO_535001 := n1_; have HO_536000 := n2_; have HO_536001 := n3_; have HO548 := n4_; have HO551 := n5_; have HO558 := n6_; have HO561 := n7_; have BK534 := n8_; have BK535 := n9_; have BK540 := n10_; have BK555 := n11_; have HB := n12_; clear n0_ n1_ n2_ n3_ n4_ n5_ n6_ n7_ n8_ n9_ n10_ n11_ n12_; (try clear hb); (try clear hb2); (try clear hk); (try clear hi)))
                 go_roundg kj71
                 case measure => have := HJ4.out; have := HK2.out; have := HJ34.out; have := HJ71.out; omega
                 case rel => exact ⟨(wrap64 (x36_2 + 1)), (t546), (t549), (t552), (t553), (t556), (t559), (t562), (t563), (.slice Ao94 t546.length co94), (.slice Ao99 t549.length co99), (.slice Ao106 t556.length co106), (.slice Ao108 t559.length co108), (by first | rfl | (simp; done) | (simp [*]; done)), H', ⟨by have := HJ4.out; have := HK2.out; have := HJ34.out; have := HJ71.out; omega⟩, ⟨by (with_reducible repeat (first | apply Kd.R_alloc | apply Kd.R_drewN | apply Kd.R_drew)); exact Kd.R_mono HO548.out (fun _ hk => hk.2)⟩, ⟨by (with_reducible repeat (first | apply Kd.R_alloc | apply Kd.R_drewN | apply Kd.R_drew)); exact Kd.R_mono HO551.out (fun _ hk => hk.2)⟩, ⟨by (with_reducible repeat (first | apply Kd.R_alloc | apply Kd.R_drewN | apply Kd.R_drew)); exact Kd.R_mono HO558.out (fun _ hk => hk.2)⟩, ⟨by (with_reducible repeat (first | apply Kd.R_alloc | apply Kd.R_drewN | apply Kd.R_drew)); exact Kd.R_mono HO561.out (fun _ hk => hk.2)⟩, ⟨by (with_reducible repeat (first | refine blk_drewN ?_ _ | refine blk_drew ?_ | refine blk_alloc ?_ _)); exact BK534.out⟩, ⟨by (with_reducible repeat (first | refine blk_drewN ?_ _ | refine blk_drew ?_ | refine blk_alloc ?_ _)); exact BK535.out⟩, ⟨bU HB⟩⟩
                ·replace c84 := Bool.eq_false_iff.mpr c84
                 subst c84
                 have H1 : (some false) = some r := by rw [if_neg (show ¬ (false = true) by decide)] at H; exact H
                 clear H
                 have H := H1
                 clear H1
                 exact absurd ((Option.some.inj H).trans HRT.out) (by decide)
               ·rw [if_neg c82] at H
                have c82b0 : (t554 == t564) = false := beq_eq_false_iff_ne.mpr c82
                have c82b1 : (t554 != t564) = true := bne_iff_ne.mpr c82
                exact absurd ((Option.some.inj H).trans HRT.out) (by decide)
              ·rw [if_neg c79] at H
               have c79b0 : (((rd_T45 l1 x36_2).f0) == 0) = false := beq_eq_false_iff_ne.mpr c79
               have c79b1 : (((rd_T45 l1 x36_2).f0) != 0) = true := bne_iff_ne.mpr c79
               by_cases c111 : ((rd_T45 l1 x36_2).f0) = 1
               ·rw [if_pos c111] at H
                have c111b0 : (((rd_T45 l1 x36_2).f0) == 1) = true := beq_iff_eq.mpr c111
                have c111b1 : (((rd_T45 l1 x36_2).f0) != 1) = false := bne_eq_false_iff_eq.mpr c111
                clear c111
                replace H := Option.bind_eq_some_iff.mp H
                obtain ⟨⟨t566, t569, t572, t573, t574⟩, A1120, H⟩ := H
                replace H : ((almanacref02_Flush.f kj71 x536000_2 x536001_2 x536002_2 x536003_2).bind fun bt576 => (if t574 = bt576.2.2.2.2 then ((almanacref02_Same.f kj71 t566 t569 t572 t573 bt576.1 bt576.2.1 bt576.2.2.1 bt576.2.2.2.1).bind fun t585 => (if t585 = true then (almanaclaw02_DevPlays.l0 kj71 l1 (l1.length : Int) (wrap64 (x36_2 + 1)) t566 t569 t572 t573 bt576.1 bt576.2.1 bt576.2.2.1 bt576.2.2.2.1) else (some false))) else (some false))) = some r := H
                have A112 := Aside0.mk A1120
                clear A1120
                replace H := Option.bind_eq_some_iff.mp H
                obtain ⟨⟨t576, t579, t582, t583, t584⟩, A1130, H⟩ := H
                replace H : (if t574 = t584 then ((almanacref02_Same.f kj71 t566 t569 t572 t573 t576 t579 t582 t583).bind fun t585 => (if t585 = true then (almanaclaw02_DevPlays.l0 kj71 l1 (l1.length : Int) (wrap64 (x36_2 + 1)) t566 t569 t572 t573 t576 t579 t582 t583) else (some false))) else (some false)) = some r := H
                have A113 := Aside0.mk A1130
                clear A1130
                by_cases c114 : t574 = t584
                ·rw [if_pos c114] at H
                 have c114b0 : (t574 == t584) = true := beq_iff_eq.mpr c114
                 have c114b1 : (t574 != t584) = false := bne_eq_false_iff_eq.mpr c114
                 clear c114
                 replace H := Option.bind_eq_some_iff.mp H
                 obtain ⟨t585, A1150, H⟩ := H
                 replace H : (if t585 = true then (almanaclaw02_DevPlays.l0 kj71 l1 (l1.length : Int) (wrap64 (x36_2 + 1)) t566 t569 t572 t573 t576 t579 t582 t583) else (some false)) = some r := H
                 have A115 := Aside0.mk A1150
                 clear A1150
                 by_cases c116 : t585 = true
                 ·subst c116
                  have H1 : (almanaclaw02_DevPlays.l0 kj71 l1 (l1.length : Int) (wrap64 (x36_2 + 1)) t566 t569 t572 t573 t576 t579 t582 t583) = some r := by rw [if_pos rfl] at H; exact H
                  clear H
                  have H := H1
                  clear H1
                  have H' := Aside0.mk H
                  clear H
                  have hnb117 := NB540_534.out
                  have hnc117 := NB534_540.out
                  have hnb118 := NB540_535.out
                  have hnc118 := NB535_540.out
                  obtain ⟨hcz119_0, hcz119_1, hcz119_2, hcz119_3, hfz119_0, hfz119_1, hfz119_2, hfz119_3⟩ := k4 BK540
                  have hnb120 := NB534_535.out
                  have hnc120 := NB535_534.out
                  obtain ⟨hcz121_0, hcz121_1, hcz121_2, hcz121_3, hfz121_0, hfz121_1, hfz121_2, hfz121_3⟩ := k4 BK534
                  obtain ⟨Ao122, co122, eo122⟩ := Kd.R_slice HO_535000.out
                  subst eo122
                  obtain ⟨Ao123, co123, eo123⟩ := Kd.R_slice HO_535001.out
                  subst eo123
                  go_wp2_with (first | ((with_reducible refine gate_callee (f := 10) rfl ?_); refine goesL_ (some 110) rfl rfl Try.func10 (by kernel_rfl) rfl #[.agg #[.slice Ao122 x535000_2.length co122, .slice Ao123 x535001_2.length co123, .int .i64 x535002_2, .bool x535003_2]] rfl (by (try simp only [List.map_toArray, List.map_cons, List.map_nil]); first | done | rfl | (simp only [List.length_drop, List.length_take]; rfl)) ?_; (with_reducible refine (dev_Flush.calls _ _ x535000_2 _ _ x535001_2 x535002_2 x535003_2 t566 t569 t572 t573 t574 _ ?side1 ?side2 ?side3 ?side4 A112.out).mono ?_); (case side1 => exact cU (Kd.R_reads' HO_535000.out).2.2); (case side2 => exact (Kd.R_reads' HO_535000.out).2.1); (case side3 => exact cU (Kd.R_reads' HO_535001.out).2.2); (case side4 => exact (Kd.R_reads' HO_535001.out).2.1); rintro e w124 ⟨v567, v570, rfl, ho0, ho1, hb⟩; refine ⟨_, rfl, ?_⟩; have n0_ := Aside0.mk (Kd.R_elder' (rU HO_535000) (Kd.R_base ho0) hb); have n1_ := Aside0.mk (Kd.R_elder' (rU HO_535001) (Kd.R_base ho1) hb); have n2_ := Aside0.mk (Kd.R_elder' (rU HO_536000) (Kd.R_base ho0) hb); have n3_ := Aside0.mk (Kd.R_elder' (rU HO_536001) (Kd.R_base ho1) hb); have n4_ := Aside0.mk (Kd.R_lower (Kd.R_new' (Kd.R_new' ho0 (Kd.R_lt (rU HO_535000))) (Kd.R_lt (rU HO_536000))) (below_size (bU HB))); have n5_ := Aside0.mk (Kd.R_lower (Kd.R_new' (Kd.R_new' ho1 (Kd.R_lt (rU HO_535001))) (Kd.R_lt (rU HO_536001))) (below_size (bU HB))); have n6_ := Aside0.mk (blk_below (g := gb534) (o := .cells #[.slice Ao122 x535000_2.length co122, .slice Ao123 x535001_2.length co123, .int .i64 x535002_2, .bool x535003_2] 25 (0, 0)) (by (with_reducible repeat (first | refine blk_drewN ?_ _ | refine blk_drew ?_ | refine blk_alloc ?_ _)); exact BK534.out) hb); have n7_ := Aside0.mk (blk_below (g := gb535) (o := .cells #[u536000, u536001, .int .i64 x536002_2, .bool x536003_2] 25 (0, 0)) (by (with_reducible repeat (first | refine blk_drewN ?_ _ | refine blk_drew ?_ | refine blk_alloc ?_ _)); exact BK535.out) hb); have n8_ := Aside0.mk (blk_below (g := gb540) (o := .cells #[.int .i64 ((rd_T45 l1 x36_2).f0), .int .i64 ((rd_T45 l1 x36_2).f1), .string ((rd_T45 l1 x36_2).f2), .slice A539_3 ((rd_T45 l1 x36_2).f3).length c539_3] 45 (0, 0)) (by (with_reducible repeat (first | refine blk_drewN ?_ _ | refine blk_drew ?_ | refine blk_alloc ?_ _)); exact BK540.out) hb); have n9_ := Aside0.mk (below_step (bU HB) hb); clear HO_535000; clear HO_535001; clear HO_536000; clear HO_536001; clear BK534; clear BK535; clear BK540; clear HB; have HO_535000 := n0_; have HO_535001 := n1_; have HO_536000 := n2_; have HO_536001 := n3_; have HO568 := n4_; have HO571 := n5_; have BK534 := n6_; have BK535 := n7_; have BK540 := n8_; have HB := n9_; clear n0_ n1_ n2_ n3_ n4_ n5_ n6_ n7_ n8_ n9_; (try clear hb); (try clear hb2); (try clear hk); (try clear hi); (try clear ho0); (try clear ho1)) | ((with_reducible refine gate_dst (N := 14) rfl ?_); refine box_event ?hg (N := 14) ?hd (cs := #[.slice none 0 0, .slice none 0 0, .int .i64 0, .bool false]) (t := 25) ?hr ?_; (case hd => rfl); (case hg => rfl); (case hr => first | (go_simp; done) | (go_simp; rfl)); intro gb575 hg w125 hbox hb; have n0_ := Aside0.mk (Kd.R_below (rU HO_535000) hb); have n1_ := Aside0.mk (Kd.R_below (rU HO_535001) hb); have n2_ := Aside0.mk (Kd.R_below (rU HO_536000) hb); have n3_ := Aside0.mk (Kd.R_below (rU HO_536001) hb); have n4_ := Aside0.mk (Kd.R_below (rU HO568) hb); have n5_ := Aside0.mk (Kd.R_below (rU HO571) hb); have n6_ := Aside0.mk (blk_below (g := gb534) (o := .cells #[.slice Ao122 x535000_2.length co122, .slice Ao123 x535001_2.length co123, .int .i64 x535002_2, .bool x535003_2] 25 (0, 0)) (by (with_reducible repeat (first | refine blk_drewN ?_ _ | refine blk_drew ?_ | refine blk_alloc ?_ _)); exact BK534.out) hb); have n7_ := Aside0.mk (blk_below (g := gb535) (o := .cells #[u536000, u536001, .int .i64 x536002_2, .bool x536003_2] 25 (0, 0)) (by (with_reducible repeat (first | refine blk_drewN ?_ _ | refine blk_drew ?_ | refine blk_alloc ?_ _)); exact BK535.out) hb); have n8_ := Aside0.mk (blk_below (g := gb540) (o := .cells #[.int .i64 ((rd_T45 l1 x36_2).f0), .int .i64 ((rd_T45 l1 x36_2).f1), .string ((rd_T45 l1 x36_2).f2), .slice A539_3 ((rd_T45 l1 x36_2).f3).length c539_3] 45 (0, 0)) (by (with_reducible repeat (first | refine blk_drewN ?_ _ | refine blk_drew ?_ | refine blk_alloc ?_ _)); exact BK540.out) hb); have n9_ := Aside0.mk (below_step (bU HB) hb); have n10_ := Aside0.mk (hbox); have n11_ := Aside0.mk ((by rw [hg]; exact (below_size (bU HB)) : w.heap.size ≤ gb575)); have n12_ := Aside0.mk ((by rw [hg]; exact (below_size (bU HB)) : w.heap.size ≤ gb575)); have n13_ := Aside0.mk ((by rw [hg]; exact Nat.ne_of_lt (blk_lt (g := gb534) (o := .cells #[.slice Ao122 x535000_2.length co122, .slice Ao123 x535001_2.length co123, .int .i64 x535002_2, .bool x535003_2] 25 (0, 0)) (by (with_reducible repeat (first | refine blk_drewN ?_ _ | refine blk_drew ?_ | refine blk_alloc ?_ _)); exact BK534.out)) : gb534 ≠ gb575)); have n14_ := Aside0.mk ((by rw [hg]; exact Nat.ne_of_gt (blk_lt (g := gb534) (o := .cells #[.slice Ao122 x535000_2.length co122, .slice Ao123 x535001_2.length co123, .int .i64 x535002_2, .bool x535003_2] 25 (0, 0)) (by (with_reducible repeat (first | refine blk_drewN ?_ _ | refine blk_drew ?_ | refine blk_alloc ?_ _)); exact BK534.out)) : gb575 ≠ gb534)); have n15_ := Aside0.mk ((by rw [hg]; exact Nat.ne_of_lt (blk_lt (g := gb535) (o := .cells #[u536000, u536001, .int .i64 x536002_2, .bool x536003_2] 25 (0, 0)) (by (with_reducible repeat (first | refine blk_drewN ?_ _ | refine blk_drew ?_ | refine blk_alloc ?_ _)); exact BK535.out)) : gb535 ≠ gb575)); have n16_ := Aside0.mk ((by rw [hg]; exact Nat.ne_of_gt (blk_lt (g := gb535) (o := .cells #[u536000, u536001, .int .i64 x536002_2, .bool x536003_2] 25 (0, 0)) (by (with_reducible repeat (first | refine blk_drewN ?_ _ | refine blk_drew ?_ | refine blk_alloc ?_ _)); exact BK535.out)) : gb575 ≠ gb535)); have n17_ := Aside0.mk ((by rw [hg]; exact Nat.ne_of_lt (blk_lt (g := gb540) (o := .cells #[.int .i64 ((rd_T45 l1 x36_2).f0), .int .i64 ((rd_T45 l1 x36_2).f1), .string ((rd_T45 l1 x36_2).f2), .slice A539_3 ((rd_T45 l1 x36_2).f3).length c539_3] 45 (0, 0)) (by (with_reducible repeat (first | refine blk_drewN ?_ _ | refine blk_drew ?_ | refine blk_alloc ?_ _)); exact BK540.out)) : gb540 ≠ gb575)); have n18_ := Aside0.mk ((by rw [hg]; exact Nat.ne_of_gt (blk_lt (g := gb540) (o := .cells #[.int .i64 ((rd_T45 l1 x36_2).f0), .int .i64 ((rd_T45 l1 x36_2).f1), .string ((rd_T45 l1 x36_2).f2), .slice A539_3 ((rd_T45 l1 x36_2).f3).length c539_3] 45 (0, 0)) (by (with_reducible repeat (first | refine blk_drewN ?_ _ | refine blk_drew ?_ | refine blk_alloc ?_ _)); exact BK540.out)) : gb575 ≠ gb540)); clear HO_535000; clear HO_535001; clear HO_536000; clear HO_536001; clear HO568; clear HO571; clear BK534; clear BK535; clear BK540; clear HB; have HO_535000 := n0_; have HO_535001 := n1_; have HO_536000 := n2_; have HO_536001 := n3_; have HO568 := n4_; have HO571 := n5_; have BK534 := n6_; have BK535 := n7_; have BK540 := n8_; have HB := n9_; have BK575 := n10_; have GW575 := n11_; have GE575 := n12_; have NB534_575 := n13_; have NB575_534 := n14_; have NB535_575 := n15_; have NB575_535 := n16_; have NB540_575 := n17_; have NB575_540 := n18_; clear n0_ n1_ n2_ n3_ n4_ n5_ n6_ n7_ n8_ n9_ n10_ n11_ n12_ n13_ n14_ n15_ n16_ n17_ n18_; clear hb hbox hg; obtain ⟨Ao126, co126, eo126⟩ := Kd.R_slice HO568.out; subst eo126; have hnb127 := NB575_534.out; have hnc127 := NB534_575.out; have hnb128 := NB575_535.out; have hnc128 := NB535_575.out; have hnb129 := NB575_540.out; have hnc129 := NB540_575.out; have hcz130_0 : w125.cell? ⟨gb575, 0, none⟩ = some (.slice none 0 0) := (blk_cell BK575.out 0).trans rfl; have hcz130_1 : w125.cell? ⟨gb575, 1, none⟩ = some (.slice none 0 0) := (blk_cell BK575.out 1).trans rfl; have hcz130_2 : w125.cell? ⟨gb575, 2, none⟩ = some (.int .i64 0) := (blk_cell BK575.out 2).trans rfl; have hcz130_3 : w125.cell? ⟨gb575, 3, none⟩ = some (.bool false) := (blk_cell BK575.out 3).trans rfl; have hfz130_0 := blk_frozen BK575.out 0; have hfz130_1 := blk_frozen BK575.out 1; have hfz130_2 := blk_frozen BK575.out 2; have hfz130_3 := blk_frozen BK575.out 3; obtain ⟨Ao131, co131, eo131⟩ := Kd.R_slice HO571.out; subst eo131; have hcz132_0 : w125.cell? ⟨gb534, 0, none⟩ = some (.slice Ao122 x535000_2.length co122) := (blk_cell BK534.out 0).trans rfl; have hcz132_1 : w125.cell? ⟨gb534, 1, none⟩ = some (.slice Ao123 x535001_2.length co123) := (blk_cell BK534.out 1).trans rfl; have hcz132_2 : w125.cell? ⟨gb534, 2, none⟩ = some (.int .i64 x535002_2) := (blk_cell BK534.out 2).trans rfl; have hcz132_3 : w125.cell? ⟨gb534, 3, none⟩ = some (.bool x535003_2) := (blk_cell BK534.out 3).trans rfl; have hfz132_0 := blk_frozen BK534.out 0; have hfz132_1 := blk_frozen BK534.out 1; have hfz132_2 := blk_frozen BK534.out 2; have hfz132_3 := blk_frozen BK534.out 3; have hcz133_0 : w125.cell? ⟨gb535, 0, none⟩ = some (u536000) := (blk_cell BK535.out 0).trans rfl; have hcz133_1 : w125.cell? ⟨gb535, 1, none⟩ = some (u536001) := (blk_cell BK535.out 1).trans rfl; have hcz133_2 : w125.cell? ⟨gb535, 2, none⟩ = some (.int .i64 x536002_2) := (blk_cell BK535.out 2).trans rfl; have hcz133_3 : w125.cell? ⟨gb535, 3, none⟩ = some (.bool x536003_2) := (blk_cell BK535.out 3).trans rfl; have hfz133_0 := blk_frozen BK535.out 0; have hfz133_1 := blk_frozen BK535.out 1; have hfz133_2 := blk_frozen BK535.out 2; have hfz133_3 := blk_frozen BK535.out 3; obtain ⟨Ao134, co134, eo134⟩ := Kd.R_slice HO_536000.out; subst eo134; obtain ⟨Ao135, co135, eo135⟩ := Kd.R_slice HO_536001.out; subst eo135) | ((with_reducible refine gate_callee (f := 22) rfl ?_); refine goesL_ (some 117) rfl rfl Try.func22 (by kernel_rfl) rfl #[.agg #[.slice Ao134 x536000_2.length co134, .slice Ao135 x536001_2.length co135, .int .i64 x536002_2, .bool x536003_2]] rfl (by (try simp only [List.map_toArray, List.map_cons, List.map_nil]); first | done | rfl | (simp only [List.length_drop, List.length_take]; rfl)) ?_; (with_reducible refine (almanacref02_Flush.calls kj71 _ _ x536000_2 _ _ x536001_2 x536002_2 x536003_2 t576 t579 t582 t583 t584 _ ?side1 ?side2 ?side3 ?side4 A113.out).mono ?_); (case side1 => refine (Kd.R_reads' (e := 9) (base := w.heap.size) (ok := fun k_ => (some k_ ≠ (.slice Ao122 x535000_2.length co122 : Value).ownBlock ∧ some k_ ≠ (.slice Ao126 t566.length co126 : Value).ownBlock)) (n := x536000_2.length) (c := co134) ?_).2.2; exact (rF2 HO_536000 BK575 BK534)); (case side2 => exact (Kd.R_reads' HO_536000.out).2.1); (case side3 => refine (Kd.R_reads' (e := 40) (base := w.heap.size) (ok := fun k_ => (some k_ ≠ (.slice Ao123 x535001_2.length co123 : Value).ownBlock ∧ some k_ ≠ (.slice Ao131 t569.length co131 : Value).ownBlock)) (n := x536001_2.length) (c := co135) ?_).2.2; exact (rF2 HO_536001 BK575 BK534)); (case side4 => exact (Kd.R_reads' HO_536001.out).2.1); rintro e w136 ⟨v577, v580, rfl, ho0, ho1, hb⟩; refine ⟨_, rfl, ?_⟩; have n0_ := Aside0.mk (Kd.R_elder' (rF2 HO_535000 BK575 BK534) (Kd.R_base ho0) hb); have n1_ := Aside0.mk (Kd.R_elder' (rF2 HO_535001 BK575 BK534) (Kd.R_base ho1) hb); have n2_ := Aside0.mk (Kd.R_elder' (rF2 HO_536000 BK575 BK534) (Kd.R_base ho0) hb); have n3_ := Aside0.mk (Kd.R_elder' (rF2 HO_536001 BK575 BK534) (Kd.R_base ho1) hb); have n4_ := Aside0.mk (Kd.R_elder' (rF2 HO568 BK575 BK534) (Kd.R_base ho0) hb); have n5_ := Aside0.mk (Kd.R_elder' (rF2 HO571 BK575 BK534) (Kd.R_base ho1) hb); have n6_ := Aside0.mk (Kd.R_lower (Kd.R_new' (Kd.R_new' (Kd.R_new' ho0 (Kd.R_lt (rF2 HO_535000 BK575 BK534))) (Kd.R_lt (rF2 HO_536000 BK575 BK534))) (Kd.R_lt (rF2 HO568 BK575 BK534))) (below_size (bU HB))); have n7_ := Aside0.mk (Kd.R_lower (Kd.R_new' (Kd.R_new' (Kd.R_new' ho1 (Kd.R_lt (rF2 HO_535001 BK575 BK534))) (Kd.R_lt (rF2 HO_536001 BK575 BK534))) (Kd.R_lt (rF2 HO571 BK575 BK534))) (below_size (bU HB))); have n8_ := Aside0.mk (blk_below (g := gb534) (o := .cells #[.slice Ao126 t566.length co126, .slice Ao131 t569.length co131, .int .i64 t572, .bool t573] 25 (0, 0)) (by (with_reducible repeat (first | refine blk_drewN ?_ _ | refine blk_drew ?_ | refine blk_alloc ?_ _)); refine blk_put (cs := #[.slice Ao126 t566.length co126, .slice Ao131 t569.length co131, .int .i64 t572, .bool x535003_2]) ?_ 3 _ rfl; (with_reducible repeat (first | refine blk_drewN ?_ _ | refine blk_drew ?_ | refine blk_alloc ?_ _)); refine blk_put (cs := #[.slice Ao126 t566.length co126, .slice Ao131 t569.length co131, .int .i64 x535002_2, .bool x535003_2]) ?_ 2 _ rfl; (with_reducible repeat (first | refine blk_drewN ?_ _ | refine blk_drew ?_ | refine blk_alloc ?_ _)); refine blk_put (cs := #[.slice Ao126 t566.length co126, .slice Ao123 x535001_2.length co123, .int .i64 x535002_2, .bool x535003_2]) ?_ 1 _ rfl; (with_reducible repeat (first | refine blk_drewN ?_ _ | refine blk_drew ?_ | refine blk_alloc ?_ _)); refine blk_put (cs := #[.slice Ao122 x535000_2.length co122, .slice Ao123 x535001_2.length co123, .int .i64 x535002_2, .bool x535003_2]) ?_ 0 _ rfl; (with_reducible repeat (first | refine blk_drewN ?_ _ | refine blk_drew ?_ | refine blk_alloc ?_ _)); refine blk_far ?_ NB534_575.out _; (with_reducible repeat (first | refine blk_drewN ?_ _ | refine blk_drew ?_ | refine blk_alloc ?_ _)); refine blk_far ?_ NB534_575.out _; (with_reducible repeat (first | refine blk_drewN ?_ _ | refine blk_drew ?_ | refine blk_alloc ?_ _)); refine blk_far ?_ NB534_575.out _; (with_reducible repeat (first | refine blk_drewN ?_ _ | refine blk_drew ?_ | refine blk_alloc ?_ _)); refine blk_far ?_ NB534_575.out _; (with_reducible repeat (first | refine blk_drewN ?_ _ | refine blk_drew ?_ | refine blk_alloc ?_ _)); exact BK534.out) hb); have n9_ := Aside0.mk (blk_below (g := gb535) (o := .cells #[.slice Ao134 x536000_2.length co134, .slice Ao135 x536001_2.length co135, .int .i64 x536002_2, .bool x536003_2] 25 (0, 0)) (by (with_reducible repeat (first | refine blk_drewN ?_ _ | refine blk_drew ?_ | refine blk_alloc ?_ _)); refine blk_far ?_ NB535_534.out _; (with_reducible repeat (first | refine blk_drewN ?_ _ | refine blk_drew ?_ | refine blk_alloc ?_ _)); refine blk_far ?_ NB535_534.out _; (with_reducible repeat (first | refine blk_drewN ?_ _ | refine blk_drew ?_ | refine blk_alloc ?_ _)); refine blk_far ?_ NB535_534.out _; (with_reducible repeat (first | refine blk_drewN ?_ _ | refine blk_drew ?_ | refine blk_alloc ?_ _)); refine blk_far ?_ NB535_534.out _; (with_reducible repeat (first | refine blk_drewN ?_ _ | refine blk_drew ?_ | refine blk_alloc ?_ _)); refine blk_far ?_ NB535_575.out _; (with_reducible repeat (first | refine blk_drewN ?_ _ | refine blk_drew ?_ | refine blk_alloc ?_ _)); refine blk_far ?_ NB535_575.out _; (with_reducible repeat (first | refine blk_drewN ?_ _ | refine blk_drew ?_ | refine blk_alloc ?_ _)); refine blk_far ?_ NB535_575.out _; (with_reducible repeat (first | refine blk_drewN ?_ _ | refine blk_drew ?_ | refine blk_alloc ?_ _)); refine blk_far ?_ NB535_575.out _; (with_reducible repeat (first | refine blk_drewN ?_ _ | refine blk_drew ?_ | refine blk_alloc ?_ _)); exact BK535.out) hb); have n10_ := Aside0.mk (blk_below (g := gb540) (o := .cells #[.int .i64 ((rd_T45 l1 x36_2).f0), .int .i64 ((rd_T45 l1 x36_2).f1), .string ((rd_T45 l1 x36_2).f2), .slice A539_3 ((rd_T45 l1 x36_2).f3).length c539_3] 45 (0, 0)) (by (with_reducible repeat (first | refine blk_drewN ?_ _ | refine blk_drew ?_ | refine blk_alloc ?_ _)); refine blk_far ?_ NB540_534.out _; (with_reducible repeat (first | refine blk_drewN ?_ _ | refine blk_drew ?_ | refine blk_alloc ?_ _)); refine blk_far ?_ NB540_534.out _; (with_reducible repeat (first | refine blk_drewN ?_ _ | refine blk_drew ?_ | refine blk_alloc ?_ _)); refine blk_far ?_ NB540_534.out _; (with_reducible repeat (first | refine blk_drewN ?_ _ | refine blk_drew ?_ | refine blk_alloc ?_ _)); refine blk_far ?_ NB540_534.out _; (with_reducible repeat (first | refine blk_drewN ?_ _ | refine blk_drew ?_ | refine blk_alloc ?_ _)); refine blk_far ?_ NB540_575.out _; (with_reducible repeat (first | refine blk_drewN ?_ _ | refine blk_drew ?_ | refine blk_alloc ?_ _)); refine blk_far ?_ NB540_575.out _; (with_reducible repeat (first | refine blk_drewN ?_ _ | refine blk_drew ?_ | refine blk_alloc ?_ _)); refine blk_far ?_ NB540_575.out _; (with_reducible repeat (first | refine blk_drewN ?_ _ | refine blk_drew ?_ | refine blk_alloc ?_ _)); refine blk_far ?_ NB540_575.out _; (with_reducible repeat (first | refine blk_drewN ?_ _ | refine blk_drew ?_ | refine blk_alloc ?_ _)); exact BK540.out) hb); have n11_ := Aside0.mk (blk_below (g := gb575) (o := .cells #[.slice Ao126 t566.length co126, .slice Ao131 t569.length co131, .int .i64 t572, .bool t573] 25 (0, 0)) (by (with_reducible repeat (first | refine blk_drewN ?_ _ | refine blk_drew ?_ | refine blk_alloc ?_ _)); refine blk_far ?_ NB575_534.out _; (with_reducible repeat (first | refine blk_drewN ?_ _ | refine blk_drew ?_ | refine blk_alloc ?_ _)); refine blk_far ?_ NB575_534.out _; (with_reducible repeat (first | refine blk_drewN ?_ _ | refine blk_drew ?_ | refine blk_alloc ?_ _)); refine blk_far ?_ NB575_534.out _; (with_reducible repeat (first | refine blk_drewN ?_ _ | refine blk_drew ?_ | refine blk_alloc ?_ _)); refine blk_far ?_ NB575_534.out _; (with_reducible repeat (first | refine blk_drewN ?_ _ | refine blk_drew ?_ | refine blk_alloc ?_ _)); refine blk_put (cs := #[.slice Ao126 t566.length co126, .slice Ao131 t569.length co131, .int .i64 t572, .bool false]) ?_ 3 _ rfl; (with_reducible repeat (first | refine blk_drewN ?_ _ | refine blk_drew ?_ | refine blk_alloc ?_ _)); refine blk_put (cs := #[.slice Ao126 t566.length co126, .slice Ao131 t569.length co131, .int .i64 0, .bool false]) ?_ 2 _ rfl; (with_reducible repeat (first | refine blk_drewN ?_ _ | refine blk_drew ?_ | refine blk_alloc ?_ _)); refine blk_put (cs := #[.slice Ao126 t566.length co126, .slice none 0 0, .int .i64 0, .bool false]) ?_ 1 _ rfl; (with_reducible repeat (first | refine blk_drewN ?_ _ | refine blk_drew ?_ | refine blk_alloc ?_ _)); refine blk_put (cs := #[.slice none 0 0, .slice none 0 0, .int .i64 0, .bool false]) ?_ 0 _ rfl; (with_reducible repeat (first | refine blk_drewN ?_ _ | refine blk_drew ?_ | refine blk_alloc ?_ _)); exact BK575.out) hb); have n12_ := Aside0.mk (below_step (bU HB) hb); clear HO_535000; clear HO_535001; clear HO_536000; clear HO_536001; clear HO568; clear HO571; clear BK534; clear BK535; clear BK540; clear BK575; clear HB; have HO_535000 := n0_; have HO_535001 := n1_; have HO_536000 := n2_; have HO_536001 := n3_; have HO568 := n4_; have HO571 := n5_; have HO578 := n6_; have HO581 := n7_; have BK534 := n8_; have BK535 := n9_; have BK540 := n10_; have BK575 := n11_; have HB := n12_; clear n0_ n1_ n2_ n3_ n4_ n5_ n6_ n7_ n8_ n9_ n10_ n11_ n12_; (try clear hb); (try clear hb2); (try clear hk); (try clear hi); (try clear ho0); (try clear ho1); obtain ⟨Ao137, co137, eo137⟩ := Kd.R_slice HO578.out; subst eo137; have hcz138_0 : w136.cell? ⟨gb535, 0, none⟩ = some (.slice Ao134 x536000_2.length co134) := (blk_cell BK535.out 0).trans rfl; have hcz138_1 : w136.cell? ⟨gb535, 1, none⟩ = some (.slice Ao135 x536001_2.length co135) := (blk_cell BK535.out 1).trans rfl; have hcz138_2 : w136.cell? ⟨gb535, 2, none⟩ = some (.int .i64 x536002_2) := (blk_cell BK535.out 2).trans rfl; have hcz138_3 : w136.cell? ⟨gb535, 3, none⟩ = some (.bool x536003_2) := (blk_cell BK535.out 3).trans rfl; have hfz138_0 := blk_frozen BK535.out 0; have hfz138_1 := blk_frozen BK535.out 1; have hfz138_2 := blk_frozen BK535.out 2; have hfz138_3 := blk_frozen BK535.out 3; obtain ⟨Ao139, co139, eo139⟩ := Kd.R_slice HO581.out; subst eo139; have hcz140_0 : w136.cell? ⟨gb534, 0, none⟩ = some (.slice Ao126 t566.length co126) := (blk_cell BK534.out 0).trans rfl; have hcz140_1 : w136.cell? ⟨gb534, 1, none⟩ = some (.slice Ao131 t569.length co131) := (blk_cell BK534.out 1).trans rfl; have hcz140_2 : w136.cell? ⟨gb534, 2, none⟩ = some (.int .i64 t572) := (blk_cell BK534.out 2).trans rfl; have hcz140_3 : w136.cell? ⟨gb534, 3, none⟩ = some (.bool t573) := (blk_cell BK534.out 3).trans rfl; have hfz140_0 := blk_frozen BK534.out 0; have hfz140_1 := blk_frozen BK534.out 1; have hfz140_2 := blk_frozen BK534.out 2; have hfz140_3 := blk_frozen BK534.out 3) | (go_at_call 14; (with_reducible refine (almanacref02_Same.calls kj71 _ _ t566 _ _ t569 t572 t573 _ _ t576 _ _ t579 t582 t583 true _ ?side1 ?side2 ?side3 ?side4 ?side5 ?side6 ?side7 ?side8 A115.out).mono ?_); (case side1 => refine (Kd.R_reads' (e := 9) (base := w.heap.size) (ok := fun k_ => (((True ∧ some k_ ≠ (.slice Ao122 x535000_2.length co122 : Value).ownBlock) ∧ some k_ ≠ (.slice Ao134 x536000_2.length co134 : Value).ownBlock) ∧ some k_ ≠ (.slice Ao137 t576.length co137 : Value).ownBlock)) (n := t566.length) (c := co126) ?_).2.2; exact (rF1 HO568 BK535)); (case side2 => exact (Kd.R_reads' HO568.out).2.1); (case side3 => refine (Kd.R_reads' (e := 40) (base := w.heap.size) (ok := fun k_ => (((True ∧ some k_ ≠ (.slice Ao123 x535001_2.length co123 : Value).ownBlock) ∧ some k_ ≠ (.slice Ao135 x536001_2.length co135 : Value).ownBlock) ∧ some k_ ≠ (.slice Ao139 t579.length co139 : Value).ownBlock)) (n := t569.length) (c := co131) ?_).2.2; exact (rF1 HO571 BK535)); (case side4 => exact (Kd.R_reads' HO571.out).2.1); (case side5 => refine (Kd.R_reads' (e := 9) (base := w.heap.size) (ok := fun k_ => (((True ∧ some k_ ≠ (.slice Ao122 x535000_2.length co122 : Value).ownBlock) ∧ some k_ ≠ (.slice Ao134 x536000_2.length co134 : Value).ownBlock) ∧ some k_ ≠ (.slice Ao126 t566.length co126 : Value).ownBlock)) (n := t576.length) (c := co137) ?_).2.2; exact (rF1 HO578 BK535)); (case side6 => exact (Kd.R_reads' HO578.out).2.1); (case side7 => refine (Kd.R_reads' (e := 40) (base := w.heap.size) (ok := fun k_ => (((True ∧ some k_ ≠ (.slice Ao123 x535001_2.length co123 : Value).ownBlock) ∧ some k_ ≠ (.slice Ao135 x536001_2.length co135 : Value).ownBlock) ∧ some k_ ≠ (.slice Ao131 t569.length co131 : Value).ownBlock)) (n := t579.length) (c := co139) ?_).2.2; exact (rF1 HO581 BK535)); (case side8 => exact (Kd.R_reads' HO581.out).2.1); rintro e w141 ⟨rfl, hb⟩; have n0_ := Aside0.mk (Kd.R_below (rF1 HO_535000 BK535) hb); have n1_ := Aside0.mk (Kd.R_below (rF1 HO_535001 BK535) hb); have n2_ := Aside0.mk (Kd.R_below (rF1 HO_536000 BK535) hb); have n3_ := Aside0.mk (Kd.R_below (rF1 HO_536001 BK535) hb); have n4_ := Aside0.mk (Kd.R_below (rF1 HO568 BK535) hb); have n5_ := Aside0.mk (Kd.R_below (rF1 HO571 BK535) hb); have n6_ := Aside0.mk (Kd.R_below (rF1 HO578 BK535) hb); have n7_ := Aside0.mk (Kd.R_below (rF1 HO581 BK535) hb); have n8_ := Aside0.mk (blk_below (g := gb534) (o := .cells #[.slice Ao126 t566.length co126, .slice Ao131 t569.length co131, .int .i64 t572, .bool t573] 25 (0, 0)) (by (with_reducible repeat (first | refine blk_drewN ?_ _ | refine blk_drew ?_ | refine blk_alloc ?_ _)); refine blk_far ?_ NB534_535.out _; (with_reducible repeat (first | refine blk_drewN ?_ _ | refine blk_drew ?_ | refine blk_alloc ?_ _)); refine blk_far ?_ NB534_535.out _; (with_reducible repeat (first | refine blk_drewN ?_ _ | refine blk_drew ?_ | refine blk_alloc ?_ _)); refine blk_far ?_ NB534_535.out _; (with_reducible repeat (first | refine blk_drewN ?_ _ | refine blk_drew ?_ | refine blk_alloc ?_ _)); refine blk_far ?_ NB534_535.out _; (with_reducible repeat (first | refine blk_drewN ?_ _ | refine blk_drew ?_ | refine blk_alloc ?_ _)); exact BK534.out) hb); have n9_ := Aside0.mk (blk_below (g := gb535) (o := .cells #[.slice Ao137 t576.length co137, .slice Ao139 t579.length co139, .int .i64 t582, .bool t583] 25 (0, 0)) (by (with_reducible repeat (first | refine blk_drewN ?_ _ | refine blk_drew ?_ | refine blk_alloc ?_ _)); refine blk_put (cs := #[.slice Ao137 t576.length co137, .slice Ao139 t579.length co139, .int .i64 t582, .bool x536003_2]) ?_ 3 _ rfl; (with_reducible repeat (first | refine blk_drewN ?_ _ | refine blk_drew ?_ | refine blk_alloc ?_ _)); refine blk_put (cs := #[.slice Ao137 t576.length co137, .slice Ao139 t579.length co139, .int .i64 x536002_2, .bool x536003_2]) ?_ 2 _ rfl; (with_reducible repeat (first | refine blk_drewN ?_ _ | refine blk_drew ?_ | refine blk_alloc ?_ _)); refine blk_put (cs := #[.slice Ao137 t576.length co137, .slice Ao135 x536001_2.length co135, .int .i64 x536002_2, .bool x536003_2]) ?_ 1 _ rfl; (with_reducible repeat (first | refine blk_drewN ?_ _ | refine blk_drew ?_ | refine blk_alloc ?_ _)); refine blk_put (cs := #[.slice Ao134 x536000_2.length co134, .slice Ao135 x536001_2.length co135, .int .i64 x536002_2, .bool x536003_2]) ?_ 0 _ rfl; (with_reducible repeat (first | refine blk_drewN ?_ _ | refine blk_drew ?_ | refine blk_alloc ?_ _)); exact BK535.out) hb); have n10_ := Aside0.mk (blk_below (g := gb540) (o := .cells #[.int .i64 ((rd_T45 l1 x36_2).f0), .int .i64 ((rd_T45 l1 x36_2).f1), .string ((rd_T45 l1 x36_2).f2), .slice A539_3 ((rd_T45 l1 x36_2).f3).length c539_3] 45 (0, 0)) (by (with_reducible repeat (first | refine blk_drewN ?_ _ | refine blk_drew ?_ | refine blk_alloc ?_ _)); refine blk_far ?_ NB540_535.out _; (with_reducible repeat (first | refine blk_drewN ?_ _ | refine blk_drew ?_ | refine blk_alloc ?_ _)); refine blk_far ?_ NB540_535.out _; (with_reducible repeat (first | refine blk_drewN ?_ _ | refine blk_drew ?_ | refine blk_alloc ?_ _)); refine blk_far ?_ NB540_535.out _; (with_reducible repeat (first | refine blk_drewN ?_ _ | refine blk_drew ?_ | refine blk_alloc ?_ _)); refine blk_far ?_ NB540_535.out _; (with_reducible repeat (first | refine blk_drewN ?_ _ | refine blk_drew ?_ | refine blk_alloc ?_ _)); exact BK540.out) hb); have n11_ := Aside0.mk (blk_below (g := gb575) (o := .cells #[.slice Ao126 t566.length co126, .slice Ao131 t569.length co131, .int .i64 t572, .bool t573] 25 (0, 0)) (by (with_reducible repeat (first | refine blk_drewN ?_ _ | refine blk_drew ?_ | refine blk_alloc ?_ _)); refine blk_far ?_ NB575_535.out _; (with_reducible repeat (first | refine blk_drewN ?_ _ | refine blk_drew ?_ | refine blk_alloc ?_ _)); refine blk_far ?_ NB575_535.out _; (with_reducible repeat (first | refine blk_drewN ?_ _ | refine blk_drew ?_ | refine blk_alloc ?_ _)); refine blk_far ?_ NB575_535.out _; (with_reducible repeat (first | refine blk_drewN ?_ _ | refine blk_drew ?_ | refine blk_alloc ?_ _)); refine blk_far ?_ NB575_535.out _; (with_reducible repeat (first | refine blk_drewN ?_ _ | refine blk_drew ?_ | refine blk_alloc ?_ _)); exact BK575.out) hb); have n12_ := Aside0.mk (below_step (bU HB) hb); clear HO_535000; clear HO_535001; clear HO_536000; clear HO_536001; clear HO568; clear HO571; clear HO578; clear HO581; clear BK534; clear BK535; clear BK540; clear BK575; clear HB; have HO_535000 := n0_; have HO_535001 := n1_; have HO_536000 := n2_; have HO_536001 := n3_; have HO568 := n4_; have HO571 := n5_; have HO578 := n6_; have HO581 := n7_; have BK534 := n8_; have BK535 := n9_; have BK540 := n10_; have BK575 := n11_; have HB := n12_; clear n0_ n1_ n2_ n3_ n4_ n5_ n6_ n7_ n8_ n9_ n10_ n11_ n12_; (try clear hb); (try clear hb2); (try clear hk); (try clear hi)))
                  go_roundg kj71
                  case measure => have := HJ4.out; have := HK2.out; have := HJ34.out; have := HJ71.out; omega
                  case rel => exact ⟨(wrap64 (x36_2 + 1)), (t566), (t569), (t572), (t573), (t576), (t579), (t582), (t583), (.slice Ao126 t566.length co126), (.slice Ao131 t569.length co131), (.slice Ao137 t576.length co137), (.slice Ao139 t579.length co139), (by first | rfl | (simp; done) | (simp [*]; done)), H', ⟨by have := HJ4.out; have := HK2.out; have := HJ34.out; have := HJ71.out; omega⟩, ⟨by (with_reducible repeat (first | apply Kd.R_alloc | apply Kd.R_drewN | apply Kd.R_drew)); exact Kd.R_mono HO568.out (fun _ hk => hk.2)⟩, ⟨by (with_reducible repeat (first | apply Kd.R_alloc | apply Kd.R_drewN | apply Kd.R_drew)); exact Kd.R_mono HO571.out (fun _ hk => hk.2)⟩, ⟨by (with_reducible repeat (first | apply Kd.R_alloc | apply Kd.R_drewN | apply Kd.R_drew)); exact Kd.R_mono HO578.out (fun _ hk => hk.2)⟩, ⟨by (with_reducible repeat (first | apply Kd.R_alloc | apply Kd.R_drewN | apply Kd.R_drew)); exact Kd.R_mono HO581.out (fun _ hk => hk.2)⟩, ⟨by (with_reducible repeat (first | refine blk_drewN ?_ _ | refine blk_drew ?_ | refine blk_alloc ?_ _)); exact BK534.out⟩, ⟨by (with_reducible repeat (first | refine blk_drewN ?_ _ | refine blk_drew ?_ | refine blk_alloc ?_ _)); exact BK535.out⟩, ⟨bU HB⟩⟩
                 ·replace c116 := Bool.eq_false_iff.mpr c116
                  subst c116
                  have H1 : (some false) = some r := by rw [if_neg (show ¬ (false = true) by decide)] at H; exact H
                  clear H
                  have H := H1
                  clear H1
                  exact absurd ((Option.some.inj H).trans HRT.out) (by decide)
                ·rw [if_neg c114] at H
                 have c114b0 : (t574 == t584) = false := beq_eq_false_iff_ne.mpr c114
                 have c114b1 : (t574 != t584) = true := bne_iff_ne.mpr c114
                 exact absurd ((Option.some.inj H).trans HRT.out) (by decide)
               ·rw [if_neg c111] at H
                have c111b0 : (((rd_T45 l1 x36_2).f0) == 1) = false := beq_eq_false_iff_ne.mpr c111
                have c111b1 : (((rd_T45 l1 x36_2).f0) != 1) = true := bne_iff_ne.mpr c111
                by_cases c142 : ((rd_T45 l1 x36_2).f0) = 2
                ·rw [if_pos c142] at H
                 have c142b0 : (((rd_T45 l1 x36_2).f0) == 2) = true := beq_iff_eq.mpr c142
                 have c142b1 : (((rd_T45 l1 x36_2).f0) != 2) = false := bne_eq_false_iff_eq.mpr c142
                 clear c142
                 replace H := Option.bind_eq_some_iff.mp H
                 obtain ⟨⟨t586, t589, t592, t593⟩, A1430, H⟩ := H
                 replace H : ((almanacref02_Crash.f kj71 x536000_2 x536001_2 x536002_2 x536003_2 ((rd_T45 l1 x36_2).f3)).bind fun bt594 => (if 0 = 0 then ((almanacref02_Same.f kj71 t586 t589 t592 t593 bt594.1 bt594.2.1 bt594.2.2.1 bt594.2.2.2).bind fun t602 => (if t602 = true then (almanaclaw02_DevPlays.l0 kj71 l1 (l1.length : Int) (wrap64 (x36_2 + 1)) t586 t589 t592 t593 bt594.1 bt594.2.1 bt594.2.2.1 bt594.2.2.2) else (some false))) else (some false))) = some r := H
                 have A143 := Aside0.mk A1430
                 clear A1430
                 replace H := Option.bind_eq_some_iff.mp H
                 obtain ⟨⟨t594, t597, t600, t601⟩, A1440, H⟩ := H
                 replace H : (if 0 = 0 then ((almanacref02_Same.f kj71 t586 t589 t592 t593 t594 t597 t600 t601).bind fun t602 => (if t602 = true then (almanaclaw02_DevPlays.l0 kj71 l1 (l1.length : Int) (wrap64 (x36_2 + 1)) t586 t589 t592 t593 t594 t597 t600 t601) else (some false))) else (some false)) = some r := H
                 have A144 := Aside0.mk A1440
                 clear A1440
                 by_cases c145 : 0 = 0
                 ·rw [if_pos c145] at H
                  have c145b0 : (0 == 0) = true := beq_iff_eq.mpr c145
                  have c145b1 : (0 != 0) = false := bne_eq_false_iff_eq.mpr c145
                  clear c145
                  replace H := Option.bind_eq_some_iff.mp H
                  obtain ⟨t602, A1460, H⟩ := H
                  replace H : (if t602 = true then (almanaclaw02_DevPlays.l0 kj71 l1 (l1.length : Int) (wrap64 (x36_2 + 1)) t586 t589 t592 t593 t594 t597 t600 t601) else (some false)) = some r := H
                  have A146 := Aside0.mk A1460
                  clear A1460
                  by_cases c147 : t602 = true
                  ·subst c147
                   have H1 : (almanaclaw02_DevPlays.l0 kj71 l1 (l1.length : Int) (wrap64 (x36_2 + 1)) t586 t589 t592 t593 t594 t597 t600 t601) = some r := by rw [if_pos rfl] at H; exact H
                   clear H
                   have H := H1
                   clear H1
                   have H' := Aside0.mk H
                   clear H
                   have hnb148 := NB540_534.out
                   have hnc148 := NB534_540.out
                   have hnb149 := NB540_535.out
                   have hnc149 := NB535_540.out
                   obtain ⟨hcz150_0, hcz150_1, hcz150_2, hcz150_3, hfz150_0, hfz150_1, hfz150_2, hfz150_3⟩ := k4 BK540
                   try go_wp2
                   have n0_ := Aside0.mk (Kd.R_drew HO_535000.out)
                   have n1_ := Aside0.mk (Kd.R_drew HO_535001.out)
                   have n2_ := Aside0.mk (Kd.R_drew HO_536000.out)
                   have n3_ := Aside0.mk (Kd.R_drew HO_536001.out)
                   have n4_ := Aside0.mk (blk_drew BK534.out)
                   have n5_ := Aside0.mk (blk_drew BK535.out)
                   have n6_ := Aside0.mk (blk_drew BK540.out)
                   have n7_ := Aside0.mk (below_drew1 HB.out)
                   clear HO_535000
                   clear HO_535001
                   clear HO_536000
                   clear HO_536001
                   clear BK534
                   clear BK535
                   clear BK540
                   clear HB
                   have HO_535000 := n0_
                   have HO_535001 := n1_
                   have HO_536000 := n2_
                   have HO_536001 := n3_
                   have BK534 := n4_
                   have BK535 := n5_
                   have BK540 := n6_
                   have HB := n7_
                   clear n0_ n1_ n2_ n3_ n4_ n5_ n6_ n7_
                   obtain ⟨Ao152, co152, eo152⟩ := Kd.R_slice HO_535000.out
                   (first | subst eo152 | (injection eo152 with f1_ f2_ f3_; have f4_ := f1_.symm; have f5_ := f3_.symm; clear f1_ f2_ f3_; subst f4_; subst f5_))
                   obtain ⟨Ao153, co153, eo153⟩ := Kd.R_slice HO_535001.out
                   (first | subst eo153 | (injection eo153 with f1_ f2_ f3_; have f4_ := f1_.symm; have f5_ := f3_.symm; clear f1_ f2_ f3_; subst f4_; subst f5_))
                   refine start_ (n := 10) (S := fun w' => w'.cell? ⟨gb534, 0, none⟩ = some (.slice Ao152 x535000_2.length co152) ∧ w'.cell? ⟨gb534, 1, none⟩ = some (.slice Ao153 x535001_2.length co153) ∧ w'.cell? ⟨gb534, 2, none⟩ = some (.int .i64 x535002_2) ∧ w'.cell? ⟨gb534, 3, none⟩ = some (.bool x535003_2) ∧ w'.cell? ⟨gb540, 0, none⟩ = some (.int .i64 ((rd_T45 l1 x36_2).f0)) ∧ w'.cell? ⟨gb540, 1, none⟩ = some (.int .i64 ((rd_T45 l1 x36_2).f1)) ∧ w'.cell? ⟨gb540, 2, none⟩ = some (.string ((rd_T45 l1 x36_2).f2)) ∧ w'.cell? ⟨gb540, 3, none⟩ = some (.slice A539_3 ((rd_T45 l1 x36_2).f3).length c539_3) ∧ w'.cell? ⟨gb535, 0, none⟩ = some (u536000) ∧ w'.cell? ⟨gb535, 1, none⟩ = some (u536001) ∧ w'.cell? ⟨gb535, 2, none⟩ = some (.int .i64 x536002_2) ∧ w'.cell? ⟨gb535, 3, none⟩ = some (.bool x536003_2)) (ds := [8, 9]) #[false, false, false, false, false, false, false, false, false, false] (by kernel_rfl) rfl rfl ⟨(blk_cell BK534.out 0).trans rfl, (blk_cell BK534.out 1).trans rfl, (blk_cell BK534.out 2).trans rfl, (blk_cell BK534.out 3).trans rfl, (blk_cell BK540.out 0).trans rfl, (blk_cell BK540.out 1).trans rfl, (blk_cell BK540.out 2).trans rfl, (blk_cell BK540.out 3).trans rfl, (blk_cell BK535.out 0).trans rfl, (blk_cell BK535.out 1).trans rfl, (blk_cell BK535.out 2).trans rfl, (blk_cell BK535.out 3).trans rfl⟩ (fun hHeld => ?_); refine with_tabW almanaclaw02_DevPlays.tab27 almanaclaw02_DevPlays.bits27 (fun HT_ HW_ => ?_)
                   generalize wc.drew = w151 at HO_535000 HO_535001 HO_536000 HO_536001 BK534 BK535 BK540 HB hHeld ⊢
                   refine pure_ (i := 1) (N := some 123) (v := ?_) (a' := ?_) #[false, true, false, false, false, false, false, false, false, false] rfl rfl (any_of HT_.out (by kernel_rfl)) (fun _ _ _ h => h) (Or.inl ⟨by rfl, ?_⟩) ?_ ?_
                   rotate_left
                   ·intro w'
                    go_simp
                    with_reducible rfl
                   rotate_left
                   ·simp only [Act.put, List.setIfInBounds_toArray, List.set_cons_zero, List.set_cons_succ, i64_w, i32_w]
                    rfl
                   refine pure_ (i := 5) (N := some 127) (v := ?_) (a' := ?_) #[false, true, false, false, false, true, false, false, false, false] rfl rfl (any_of HT_.out (by kernel_rfl)) (fun _ _ _ h => h) (Or.inl ⟨by rfl, ?_⟩) ?_ ?_
                   rotate_left
                   ·intro w'
                    go_simp
                    with_reducible rfl
                   rotate_left
                   ·simp only [Act.put, List.setIfInBounds_toArray, List.set_cons_zero, List.set_cons_succ, i64_w, i32_w]
                    rfl
                   refine take_ (i := 0) (N := some 122) (v := ?_) (a' := ?_) #[true, true, false, false, false, true, false, false, false, false] rfl rfl (take_ofW HT_.out HW_.out (by kernel_rfl)) (fun _ _ _ h => h) (Or.inl ⟨by rfl, ?_⟩) hHeld ?_ ?_
                   rotate_left
                   ·rintro w' ⟨s0, s1, s2, s3, s4, s5, s6, s7, s8, s9, s10, s11⟩
                    go_simp
                    with_reducible rfl
                   rotate_left
                   ·simp only [Act.put, List.setIfInBounds_toArray, List.set_cons_zero, List.set_cons_succ, i64_w, i32_w]
                    rfl
                   refine take_ (i := 2) (N := some 124) (v := ?_) (a' := ?_) #[true, true, true, false, false, true, false, false, false, false] rfl rfl (take_ofW HT_.out HW_.out (by kernel_rfl)) (fun _ _ _ h => h) (Or.inl ⟨by rfl, ?_⟩) hHeld ?_ ?_
                   rotate_left
                   ·rintro w' ⟨s0, s1, s2, s3, s4, s5, s6, s7, s8, s9, s10, s11⟩
                    go_simp
                    with_reducible rfl
                   rotate_left
                   ·simp only [Act.put, List.setIfInBounds_toArray, List.set_cons_zero, List.set_cons_succ, i64_w, i32_w]
                    rfl
                   refine take_ (i := 4) (N := some 126) (v := ?_) (a' := ?_) #[true, true, true, false, true, true, false, false, false, false] rfl rfl (take_ofW HT_.out HW_.out (by kernel_rfl)) (fun _ _ _ h => h) (Or.inl ⟨by rfl, ?_⟩) hHeld ?_ ?_
                   rotate_left
                   ·rintro w' ⟨s0, s1, s2, s3, s4, s5, s6, s7, s8, s9, s10, s11⟩
                    go_simp
                    with_reducible rfl
                   rotate_left
                   ·simp only [Act.put, List.setIfInBounds_toArray, List.set_cons_zero, List.set_cons_succ, i64_w, i32_w]
                    rfl
                   refine take_ (i := 6) (N := some 128) (v := ?_) (a' := ?_) #[true, true, true, false, true, true, true, false, false, false] rfl rfl (take_ofW HT_.out HW_.out (by kernel_rfl)) (fun _ _ _ h => h) (Or.inl ⟨by rfl, ?_⟩) hHeld ?_ ?_
                   rotate_left
                   ·rintro w' ⟨s0, s1, s2, s3, s4, s5, s6, s7, s8, s9, s10, s11⟩
                    go_simp
                    with_reducible rfl
                   rotate_left
                   ·simp only [Act.put, List.setIfInBounds_toArray, List.set_cons_zero, List.set_cons_succ, i64_w, i32_w]
                    rfl
                   refine one_ (i := 3) (N := some 125) #[true, true, true, true, true, true, true, false, false, false] rfl rfl (one_of HT_.out (by kernel_rfl)) (by decide) (fun K hK => ?_)
                   refine goes_ Try.func11 (by kernel_rfl) rfl #[.agg #[.slice Ao152 x535000_2.length co152, .slice Ao153 x535001_2.length co153, .int .i64 x535002_2, .bool x535003_2], .slice A539_3 ((rd_T45 l1 x36_2).f3).length c539_3] (by rfl) rfl rfl (by (try simp only [List.map_toArray, List.map_cons, List.map_nil]); first | done | rfl | (simp only [List.length_drop, List.length_take]; rfl)) ?_
                   with_reducible refine (dev_Crash.calls _ _ x535000_2 _ _ x535001_2 x535002_2 x535003_2 _ _ ((rd_T45 l1 x36_2).f3) t586 t589 t592 t593 _ ?side1 ?side2 ?side3 ?side4 ?side5 ?side6 A143.out).mono ?_
                   (case side1 => exact cU (Kd.R_reads' HO_535000.out).2.2)
                   (case side2 => exact (Kd.R_reads' HO_535000.out).2.1)
                   (case side3 => exact cU (Kd.R_reads' HO_535001.out).2.2)
                   (case side4 => exact (Kd.R_reads' HO_535001.out).2.1)
                   (case side5 => exact cU (Kd.C_below HR539_3.out HB.out))
                   (case side6 => exact HC539_3.out)
                   rintro e w154 ⟨v587, v590, rfl, ho0, ho1, hb⟩
                   refine ⟨_, rfl, ?_⟩
                   have n0_ := Aside0.mk (Kd.R_elder' (rU HO_535000) (Kd.R_base ho0) hb)
                   have n1_ := Aside0.mk (Kd.R_elder' (rU HO_535001) (Kd.R_base ho1) hb)
                   have n2_ := Aside0.mk (Kd.R_elder' (rU HO_536000) (Kd.R_base ho0) hb)
                   have n3_ := Aside0.mk (Kd.R_elder' (rU HO_536001) (Kd.R_base ho1) hb)
                   have n4_ := Aside0.mk (Kd.R_lower (Kd.R_new' (Kd.R_new' ho0 (Kd.R_lt (rU HO_535000))) (Kd.R_lt (rU HO_536000))) (below_size (bU HB)))
                   have n5_ := Aside0.mk (Kd.R_lower (Kd.R_new' (Kd.R_new' ho1 (Kd.R_lt (rU HO_535001))) (Kd.R_lt (rU HO_536001))) (below_size (bU HB)))
                   have n6_ := Aside0.mk (blk_below (g := gb534) (o := .cells #[.slice Ao152 x535000_2.length co152, .slice Ao153 x535001_2.length co153, .int .i64 x535002_2, .bool x535003_2] 25 (0, 0)) (by (with_reducible repeat (first | refine blk_drewN ?_ _ | refine blk_drew ?_ | refine blk_alloc ?_ _)); exact BK534.out) hb)
                   have n7_ := Aside0.mk (blk_below (g := gb535) (o := .cells #[u536000, u536001, .int .i64 x536002_2, .bool x536003_2] 25 (0, 0)) (by (with_reducible repeat (first | refine blk_drewN ?_ _ | refine blk_drew ?_ | refine blk_alloc ?_ _)); exact BK535.out) hb)
                   have n8_ := Aside0.mk (blk_below (g := gb540) (o := .cells #[.int .i64 ((rd_T45 l1 x36_2).f0), .int .i64 ((rd_T45 l1 x36_2).f1), .string ((rd_T45 l1 x36_2).f2), .slice A539_3 ((rd_T45 l1 x36_2).f3).length c539_3] 45 (0, 0)) (by (with_reducible repeat (first | refine blk_drewN ?_ _ | refine blk_drew ?_ | refine blk_alloc ?_ _)); exact BK540.out) hb)
                   have n9_ := Aside0.mk (below_step (bU HB) hb)
                   clear HO_535000
                   clear HO_535001
                   clear HO_536000
                   clear HO_536001
                   clear BK534
                   clear BK535
                   clear BK540
                   clear HB
                   have HO_535000 := n0_
                   have HO_535001 := n1_
                   have HO_536000 := n2_
                   have HO_536001 := n3_
                   have HO588 := n4_
                   have HO591 := n5_
                   have BK534 := n6_
                   have BK535 := n7_
                   have BK540 := n8_
                   have HB := n9_
                   clear n0_ n1_ n2_ n3_ n4_ n5_ n6_ n7_ n8_ n9_
                   (try clear hb)
                   (try clear hb2)
                   (try clear hk)
                   (try clear hi)
                   (try clear ho0)
                   (try clear ho1)
                   obtain ⟨Ao155, co155, eo155⟩ := Kd.R_slice HO_536000.out
                   (first | subst eo155 | (injection eo155 with f1_ f2_ f3_; have f4_ := f1_.symm; have f5_ := f3_.symm; clear f1_ f2_ f3_; subst f4_; subst f5_))
                   obtain ⟨Ao156, co156, eo156⟩ := Kd.R_slice HO_536001.out
                   (first | subst eo156 | (injection eo156 with f1_ f2_ f3_; have f4_ := f1_.symm; have f5_ := f3_.symm; clear f1_ f2_ f3_; subst f4_; subst f5_))
                   refine hK.out _ _ ⟨(blk_cell BK534.out 0).trans rfl, (blk_cell BK534.out 1).trans rfl, (blk_cell BK534.out 2).trans rfl, (blk_cell BK534.out 3).trans rfl, (blk_cell BK540.out 0).trans rfl, (blk_cell BK540.out 1).trans rfl, (blk_cell BK540.out 2).trans rfl, (blk_cell BK540.out 3).trans rfl, (blk_cell BK535.out 0).trans rfl, (blk_cell BK535.out 1).trans rfl, (blk_cell BK535.out 2).trans rfl, (blk_cell BK535.out 3).trans rfl⟩ (fun hHeld => ?_)
                   clear hK K
                   refine norm_ (a' := ?_) ?_ ?_
                   rotate_left
                   ·show Act.put _ (some 125) _ = _
                    simp only [Act.put, List.setIfInBounds_toArray, List.set_cons_zero, List.set_cons_succ, i64_w, i32_w]
                    rfl
                   refine one_ (i := 7) (N := some 129) #[true, true, true, true, true, true, true, true, false, false] rfl rfl (one_of HT_.out (by kernel_rfl)) (by decide) (fun K hK => ?_)
                   refine goes_ Try.func23 (by kernel_rfl) rfl #[.agg #[.slice Ao155 x536000_2.length co155, .slice Ao156 x536001_2.length co156, .int .i64 x536002_2, .bool x536003_2], .slice A539_3 ((rd_T45 l1 x36_2).f3).length c539_3] (by rfl) rfl rfl (by (try simp only [List.map_toArray, List.map_cons, List.map_nil]); first | done | rfl | (simp only [List.length_drop, List.length_take]; rfl)) ?_
                   with_reducible refine (almanacref02_Crash.calls kj71 _ _ x536000_2 _ _ x536001_2 x536002_2 x536003_2 _ _ ((rd_T45 l1 x36_2).f3) t594 t597 t600 t601 _ ?side1 ?side2 ?side3 ?side4 ?side5 ?side6 A144.out).mono ?_
                   (case side1 => exact cU (Kd.R_reads' HO_536000.out).2.2)
                   (case side2 => exact (Kd.R_reads' HO_536000.out).2.1)
                   (case side3 => exact cU (Kd.R_reads' HO_536001.out).2.2)
                   (case side4 => exact (Kd.R_reads' HO_536001.out).2.1)
                   (case side5 => exact cU (Kd.C_below HR539_3.out HB.out))
                   (case side6 => exact HC539_3.out)
                   rintro e w157 ⟨v595, v598, rfl, ho0, ho1, hb⟩
                   refine ⟨_, rfl, ?_⟩
                   have n0_ := Aside0.mk (Kd.R_elder' (rU HO_535000) (Kd.R_base ho0) hb)
                   have n1_ := Aside0.mk (Kd.R_elder' (rU HO_535001) (Kd.R_base ho1) hb)
                   have n2_ := Aside0.mk (Kd.R_elder' (rU HO_536000) (Kd.R_base ho0) hb)
                   have n3_ := Aside0.mk (Kd.R_elder' (rU HO_536001) (Kd.R_base ho1) hb)
                   have n4_ := Aside0.mk (Kd.R_elder' (rU HO588) (Kd.R_base ho0) hb)
                   have n5_ := Aside0.mk (Kd.R_elder' (rU HO591) (Kd.R_base ho1) hb)
                   have n6_ := Aside0.mk (Kd.R_lower (Kd.R_new' (Kd.R_new' (Kd.R_new' ho0 (Kd.R_lt (rU HO_535000))) (Kd.R_lt (rU HO_536000))) (Kd.R_lt (rU HO588))) (below_size (bU HB)))
                   have n7_ := Aside0.mk (Kd.R_lower (Kd.R_new' (Kd.R_new' (Kd.R_new' ho1 (Kd.R_lt (rU HO_535001))) (Kd.R_lt (rU HO_536001))) (Kd.R_lt (rU HO591))) (below_size (bU HB)))
                   have n8_ := Aside0.mk (blk_below (g := gb534) (o := .cells #[.slice Ao152 x535000_2.length co152, .slice Ao153 x535001_2.length co153, .int .i64 x535002_2, .bool x535003_2] 25 (0, 0)) (by (with_reducible repeat (first | refine blk_drewN ?_ _ | refine blk_drew ?_ | refine blk_alloc ?_ _)); exact BK534.out) hb)
                   have n9_ := Aside0.mk (blk_below (g := gb535) (o := .cells #[.slice Ao155 x536000_2.length co155, .slice Ao156 x536001_2.length co156, .int .i64 x536002_2, .bool x536003_2] 25 (0, 0)) (by (with_reducible repeat (first | refine blk_drewN ?_ _ | refine blk_drew ?_ | refine blk_alloc ?_ _)); exact BK535.out) hb)
                   have n10_ := Aside0.mk (blk_below (g := gb540) (o := .cells #[.int .i64 ((rd_T45 l1 x36_2).f0), .int .i64 ((rd_T45 l1 x36_2).f1), .string ((rd_T45 l1 x36_2).f2), .slice A539_3 ((rd_T45 l1 x36_2).f3).length c539_3] 45 (0, 0)) (by (with_reducible repeat (first | refine blk_drewN ?_ _ | refine blk_drew ?_ | refine blk_alloc ?_ _)); exact BK540.out) hb)
                   have n11_ := Aside0.mk (below_step (bU HB) hb)
                   clear HO_535000
                   clear HO_535001
                   clear HO_536000
                   clear HO_536001
                   clear HO588
                   clear HO591
                   clear BK534
                   clear BK535
                   clear BK540
                   clear HB
                   have HO_535000 := n0_
                   have HO_535001 := n1_
                   have HO_536000 := n2_
                   have HO_536001 := n3_
                   have HO588 := n4_
                   have HO591 := n5_
                   have HO596 := n6_
                   have HO599 := n7_
                   have BK534 := n8_
                   have BK535 := n9_
                   have BK540 := n10_
                   have HB := n11_
                   clear n0_ n1_ n2_ n3_ n4_ n5_ n6_ n7_ n8_ n9_ n10_ n11_
                   (try clear hb)
                   (try clear hb2)
                   (try clear hk)
                   (try clear hi)
                   (try clear ho0)
                   (try clear ho1)
                   obtain ⟨Ao158, co158, eo158⟩ := Kd.R_slice HO588.out
                   (first | subst eo158 | (injection eo158 with f1_ f2_ f3_; have f4_ := f1_.symm; have f5_ := f3_.symm; clear f1_ f2_ f3_; subst f4_; subst f5_))
                   obtain ⟨Ao160, co160, eo160⟩ := Kd.R_slice HO591.out
                   (first | subst eo160 | (injection eo160 with f1_ f2_ f3_; have f4_ := f1_.symm; have f5_ := f3_.symm; clear f1_ f2_ f3_; subst f4_; subst f5_))
                   obtain ⟨Ao164, co164, eo164⟩ := Kd.R_slice HO596.out
                   (first | subst eo164 | (injection eo164 with f1_ f2_ f3_; have f4_ := f1_.symm; have f5_ := f3_.symm; clear f1_ f2_ f3_; subst f4_; subst f5_))
                   obtain ⟨Ao166, co166, eo166⟩ := Kd.R_slice HO599.out
                   (first | subst eo166 | (injection eo166 with f1_ f2_ f3_; have f4_ := f1_.symm; have f5_ := f3_.symm; clear f1_ f2_ f3_; subst f4_; subst f5_))
                   refine hK.out _ _ ⟨(blk_cell BK534.out 0).trans rfl, (blk_cell BK534.out 1).trans rfl, (blk_cell BK534.out 2).trans rfl, (blk_cell BK534.out 3).trans rfl, (blk_cell BK540.out 0).trans rfl, (blk_cell BK540.out 1).trans rfl, (blk_cell BK540.out 2).trans rfl, (blk_cell BK540.out 3).trans rfl, (blk_cell BK535.out 0).trans rfl, (blk_cell BK535.out 1).trans rfl, (blk_cell BK535.out 2).trans rfl, (blk_cell BK535.out 3).trans rfl⟩ (fun hHeld => ?_)
                   clear hK K
                   refine norm_ (a' := ?_) ?_ ?_
                   rotate_left
                   ·show Act.put _ (some 129) _ = _
                    simp only [Act.put, List.setIfInBounds_toArray, List.set_cons_zero, List.set_cons_succ, i64_w, i32_w]
                    rfl
                   refine last_ (i := 8) (N := none) #[true, true, true, true, true, true, true, true, true, false] rfl rfl (one_of HT_.out (by kernel_rfl)) (by decide) (fun K hK => ?_)
                   have hs159 : w157.cell? ⟨gb534, 0, none⟩ = some (.slice Ao152 x535000_2.length co152) := (blk_cell BK534.out 0).trans rfl
                   have hfs159 := blk_frozen BK534.out 0
                   have hns159_1 := NB535_534.out
                   have hns159_2 := NB540_534.out
                   have hms159_1 := NB534_535.out
                   have hms159_2 := NB534_540.out
                   have hs161 : w157.cell? ⟨gb534, 1, none⟩ = some (.slice Ao153 x535001_2.length co153) := (blk_cell BK534.out 1).trans rfl
                   have hfs161 := blk_frozen BK534.out 1
                   have hns161_1 := NB535_534.out
                   have hns161_2 := NB540_534.out
                   have hms161_1 := NB534_535.out
                   have hms161_2 := NB534_540.out
                   have hs162 : w157.cell? ⟨gb534, 2, none⟩ = some (.int .i64 x535002_2) := (blk_cell BK534.out 2).trans rfl
                   have hfs162 := blk_frozen BK534.out 2
                   have hns162_1 := NB535_534.out
                   have hns162_2 := NB540_534.out
                   have hms162_1 := NB534_535.out
                   have hms162_2 := NB534_540.out
                   have hs163 : w157.cell? ⟨gb534, 3, none⟩ = some (.bool x535003_2) := (blk_cell BK534.out 3).trans rfl
                   have hfs163 := blk_frozen BK534.out 3
                   have hns163_1 := NB535_534.out
                   have hns163_2 := NB540_534.out
                   have hms163_1 := NB534_535.out
                   have hms163_2 := NB534_540.out
                   refine skip_ (w1 := ?_) (by rfl) rfl ?_ ?_
                   rotate_left
                   ·go_simp
                    rfl
                   refine hK.out _ _ ?_
                   clear hK K
                   refine last_ (i := 9) (N := none) #[true, true, true, true, true, true, true, true, true, true] rfl rfl (one_of HT_.out (by kernel_rfl)) (by decide) (fun K hK => ?_)
                   have hs165 : w157.cell? ⟨gb535, 0, none⟩ = some (.slice Ao155 x536000_2.length co155) := (blk_cell BK535.out 0).trans rfl
                   have hfs165 := blk_frozen BK535.out 0
                   have hns165_0 := NB534_535.out
                   have hns165_2 := NB540_535.out
                   have hms165_0 := NB535_534.out
                   have hms165_2 := NB535_540.out
                   have hs167 : w157.cell? ⟨gb535, 1, none⟩ = some (.slice Ao156 x536001_2.length co156) := (blk_cell BK535.out 1).trans rfl
                   have hfs167 := blk_frozen BK535.out 1
                   have hns167_0 := NB534_535.out
                   have hns167_2 := NB540_535.out
                   have hms167_0 := NB535_534.out
                   have hms167_2 := NB535_540.out
                   have hs168 : w157.cell? ⟨gb535, 2, none⟩ = some (.int .i64 x536002_2) := (blk_cell BK535.out 2).trans rfl
                   have hfs168 := blk_frozen BK535.out 2
                   have hns168_0 := NB534_535.out
                   have hns168_2 := NB540_535.out
                   have hms168_0 := NB535_534.out
                   have hms168_2 := NB535_540.out
                   have hs169 : w157.cell? ⟨gb535, 3, none⟩ = some (.bool x536003_2) := (blk_cell BK535.out 3).trans rfl
                   have hfs169 := blk_frozen BK535.out 3
                   have hns169_0 := NB534_535.out
                   have hns169_2 := NB540_535.out
                   have hms169_0 := NB535_534.out
                   have hms169_2 := NB535_540.out
                   refine skip_ (w1 := ?_) (by rfl) rfl ?_ ?_
                   rotate_left
                   ·go_simp
                    rfl
                   refine hK.out _ _ ?_
                   clear hK K
                   refine done_ (done_of HT_.out (by kernel_rfl)) ?_
                   have hnb170 := NB534_535.out
                   have hnc170 := NB535_534.out
                   obtain ⟨hcz171_0, hcz171_1, hcz171_2, hcz171_3, hfz171_0, hfz171_1, hfz171_2, hfz171_3⟩ := k4 BK534
                   obtain ⟨hcz172_0, hcz172_1, hcz172_2, hcz172_3, hfz172_0, hfz172_1, hfz172_2, hfz172_3⟩ := k4 BK535
                   try go_wp2_with (first | (go_at_call 14; (with_reducible refine (almanacref02_Same.calls kj71 _ _ t586 _ _ t589 t592 t593 _ _ t594 _ _ t597 t600 t601 true _ ?side1 ?side2 ?side3 ?side4 ?side5 ?side6 ?side7 ?side8 A146.out).mono ?_); (case side1 => refine (Kd.R_reads' (e := 9) (base := w.heap.size) (ok := fun k_ => (((True ∧ some k_ ≠ (.slice Ao152 x535000_2.length co152 : Value).ownBlock) ∧ some k_ ≠ (.slice Ao155 x536000_2.length co155 : Value).ownBlock) ∧ some k_ ≠ (.slice Ao164 t594.length co164 : Value).ownBlock)) (n := t586.length) (c := co158) ?_).2.2; exact (rF2 HO588 BK534 BK535)); (case side2 => exact (Kd.R_reads' HO588.out).2.1); (case side3 => refine (Kd.R_reads' (e := 40) (base := w.heap.size) (ok := fun k_ => (((True ∧ some k_ ≠ (.slice Ao153 x535001_2.length co153 : Value).ownBlock) ∧ some k_ ≠ (.slice Ao156 x536001_2.length co156 : Value).ownBlock) ∧ some k_ ≠ (.slice Ao166 t597.length co166 : Value).ownBlock)) (n := t589.length) (c := co160) ?_).2.2; exact (rF2 HO591 BK534 BK535)); (case side4 => exact (Kd.R_reads' HO591.out).2.1); (case side5 => refine (Kd.R_reads' (e := 9) (base := w.heap.size) (ok := fun k_ => (((True ∧ some k_ ≠ (.slice Ao152 x535000_2.length co152 : Value).ownBlock) ∧ some k_ ≠ (.slice Ao155 x536000_2.length co155 : Value).ownBlock) ∧ some k_ ≠ (.slice Ao158 t586.length co158 : Value).ownBlock)) (n := t594.length) (c := co164) ?_).2.2; exact (rF2 HO596 BK534 BK535)); (case side6 => exact (Kd.R_reads' HO596.out).2.1); (case side7 => refine (Kd.R_reads' (e := 40) (base := w.heap.size) (ok := fun k_ => (((True ∧ some k_ ≠ (.slice Ao153 x535001_2.length co153 : Value).ownBlock) ∧ some k_ ≠ (.slice Ao156 x536001_2.length co156 : Value).ownBlock) ∧ some k_ ≠ (.slice Ao160 t589.length co160 : Value).ownBlock)) (n := t597.length) (c := co166) ?_).2.2; exact (rF2 HO599 BK534 BK535)); (case side8 => exact (Kd.R_reads' HO599.out).2.1); rintro e w173 ⟨rfl, hb⟩; have n0_ := Aside0.mk (Kd.R_below (rF2 HO_535000 BK534 BK535) hb); have n1_ := Aside0.mk (Kd.R_below (rF2 HO_535001 BK534 BK535) hb); have n2_ := Aside0.mk (Kd.R_below (rF2 HO_536000 BK534 BK535) hb); have n3_ := Aside0.mk (Kd.R_below (rF2 HO_536001 BK534 BK535) hb); have n4_ := Aside0.mk (Kd.R_below (rF2 HO588 BK534 BK535) hb); have n5_ := Aside0.mk (Kd.R_below (rF2 HO591 BK534 BK535) hb); have n6_ := Aside0.mk (Kd.R_below (rF2 HO596 BK534 BK535) hb); have n7_ := Aside0.mk (Kd.R_below (rF2 HO599 BK534 BK535) hb); have n8_ := Aside0.mk (blk_below (g := gb534) (o := .cells #[.slice Ao158 t586.length co158, .slice Ao160 t589.length co160, .int .i64 t592, .bool t593] 25 (0, 0)) (by (with_reducible repeat (first | refine blk_drewN ?_ _ | refine blk_drew ?_ | refine blk_alloc ?_ _)); refine blk_far ?_ NB534_535.out _; (with_reducible repeat (first | refine blk_drewN ?_ _ | refine blk_drew ?_ | refine blk_alloc ?_ _)); refine blk_far ?_ NB534_535.out _; (with_reducible repeat (first | refine blk_drewN ?_ _ | refine blk_drew ?_ | refine blk_alloc ?_ _)); refine blk_far ?_ NB534_535.out _; (with_reducible repeat (first | refine blk_drewN ?_ _ | refine blk_drew ?_ | refine blk_alloc ?_ _)); refine blk_far ?_ NB534_535.out _; (with_reducible repeat (first | refine blk_drewN ?_ _ | refine blk_drew ?_ | refine blk_alloc ?_ _)); refine blk_put (cs := #[.slice Ao158 t586.length co158, .slice Ao160 t589.length co160, .int .i64 t592, .bool x535003_2]) ?_ 3 _ rfl; (with_reducible repeat (first | refine blk_drewN ?_ _ | refine blk_drew ?_ | refine blk_alloc ?_ _)); refine blk_put (cs := #[.slice Ao158 t586.length co158, .slice Ao160 t589.length co160, .int .i64 x535002_2, .bool x535003_2]) ?_ 2 _ rfl; (with_reducible repeat (first | refine blk_drewN ?_ _ | refine blk_drew ?_ | refine blk_alloc ?_ _)); refine blk_put (cs := #[.slice Ao158 t586.length co158, .slice Ao153 x535001_2.length co153, .int .i64 x535002_2, .bool x535003_2]) ?_ 1 _ rfl; (with_reducible repeat (first | refine blk_drewN ?_ _ | refine blk_drew ?_ | refine blk_alloc ?_ _)); refine blk_put (cs := #[.slice Ao152 x535000_2.length co152, .slice Ao153 x535001_2.length co153, .int .i64 x535002_2, .bool x535003_2]) ?_ 0 _ rfl; (with_reducible repeat (first | refine blk_drewN ?_ _ | refine blk_drew ?_ | refine blk_alloc ?_ _)); exact BK534.out) hb); have n9_ := Aside0.mk (blk_below (g := gb535) (o := .cells #[.slice Ao164 t594.length co164, .slice Ao166 t597.length co166, .int .i64 t600, .bool t601] 25 (0, 0)) (by (with_reducible repeat (first | refine blk_drewN ?_ _ | refine blk_drew ?_ | refine blk_alloc ?_ _)); refine blk_put (cs := #[.slice Ao164 t594.length co164, .slice Ao166 t597.length co166, .int .i64 t600, .bool x536003_2]) ?_ 3 _ rfl; (with_reducible repeat (first | refine blk_drewN ?_ _ | refine blk_drew ?_ | refine blk_alloc ?_ _)); refine blk_put (cs := #[.slice Ao164 t594.length co164, .slice Ao166 t597.length co166, .int .i64 x536002_2, .bool x536003_2]) ?_ 2 _ rfl; (with_reducible repeat (first | refine blk_drewN ?_ _ | refine blk_drew ?_ | refine blk_alloc ?_ _)); refine blk_put (cs := #[.slice Ao164 t594.length co164, .slice Ao156 x536001_2.length co156, .int .i64 x536002_2, .bool x536003_2]) ?_ 1 _ rfl; (with_reducible repeat (first | refine blk_drewN ?_ _ | refine blk_drew ?_ | refine blk_alloc ?_ _)); refine blk_put (cs := #[.slice Ao155 x536000_2.length co155, .slice Ao156 x536001_2.length co156, .int .i64 x536002_2, .bool x536003_2]) ?_ 0 _ rfl; (with_reducible repeat (first | refine blk_drewN ?_ _ | refine blk_drew ?_ | refine blk_alloc ?_ _)); refine blk_far ?_ NB535_534.out _; (with_reducible repeat (first | refine blk_drewN ?_ _ | refine blk_drew ?_ | refine blk_alloc ?_ _)); refine blk_far ?_ NB535_534.out _; (with_reducible repeat (first | refine blk_drewN ?_ _ | refine blk_drew ?_ | refine blk_alloc ?_ _)); refine blk_far ?_ NB535_534.out _; (with_reducible repeat (first | refine blk_drewN ?_ _ | refine blk_drew ?_ | refine blk_alloc ?_ _)); refine blk_far ?_ NB535_534.out _; (with_reducible repeat (first | refine blk_drewN ?_ _ | refine blk_drew ?_ | refine blk_alloc ?_ _)); exact BK535.out) hb); have n10_ := Aside0.mk (blk_below (g := gb540) (o := .cells #[.int .i64 ((rd_T45 l1 x36_2).f0), .int .i64 ((rd_T45 l1 x36_2).f1), .string ((rd_T45 l1 x36_2).f2), .slice A539_3 ((rd_T45 l1 x36_2).f3).length c539_3] 45 (0, 0)) (by (with_reducible repeat (first | refine blk_drewN ?_ _ | refine blk_drew ?_ | refine blk_alloc ?_ _)); refine blk_far ?_ NB540_535.out _; (with_reducible repeat (first | refine blk_drewN ?_ _ | refine blk_drew ?_ | refine blk_alloc ?_ _)); refine blk_far ?_ NB540_535.out _; (with_reducible repeat (first | refine blk_drewN ?_ _ | refine blk_drew ?_ | refine blk_alloc ?_ _)); refine blk_far ?_ NB540_535.out _; (with_reducible repeat (first | refine blk_drewN ?_ _ | refine blk_drew ?_ | refine blk_alloc ?_ _)); refine blk_far ?_ NB540_535.out _; (with_reducible repeat (first | refine blk_drewN ?_ _ | refine blk_drew ?_ | refine blk_alloc ?_ _)); refine blk_far ?_ NB540_534.out _; (with_reducible repeat (first | refine blk_drewN ?_ _ | refine blk_drew ?_ | refine blk_alloc ?_ _)); refine blk_far ?_ NB540_534.out _; (with_reducible repeat (first | refine blk_drewN ?_ _ | refine blk_drew ?_ | refine blk_alloc ?_ _)); refine blk_far ?_ NB540_534.out _; (with_reducible repeat (first | refine blk_drewN ?_ _ | refine blk_drew ?_ | refine blk_alloc ?_ _)); refine blk_far ?_ NB540_534.out _; (with_reducible repeat (first | refine blk_drewN ?_ _ | refine blk_drew ?_ | refine blk_alloc ?_ _)); exact BK540.out) hb); have n11_ := Aside0.mk (below_step (bU HB) hb); clear HO_535000; clear HO_535001; clear HO_536000; clear HO_536001; clear HO588; clear HO591; clear HO596; clear HO599; clear BK534; clear BK535; clear BK540; clear HB; have HO_535000 := n0_; have HO_535001 := n1_; have HO_536000 := n2_; have HO_536001 := n3_; have HO588 := n4_; have HO591 := n5_; have HO596 := n6_; have HO599 := n7_; have BK534 := n8_; have BK535 := n9_; have BK540 := n10_; have HB := n11_; clear n0_ n1_ n2_ n3_ n4_ n5_ n6_ n7_ n8_ n9_ n10_ n11_; (try clear hb); (try clear hb2); (try clear hk); (try clear hi)))
                   go_roundg kj71
                   case measure => have := HJ4.out; have := HK2.out; have := HJ34.out; have := HJ71.out; omega
                   case rel => exact ⟨(wrap64 (x36_2 + 1)), (t586), (t589), (t592), (t593), (t594), (t597), (t600), (t601), (.slice Ao158 t586.length co158), (.slice Ao160 t589.length co160), (.slice Ao164 t594.length co164), (.slice Ao166 t597.length co166), (by first | rfl | (simp; done) | (simp [*]; done)), H', ⟨by have := HJ4.out; have := HK2.out; have := HJ34.out; have := HJ71.out; omega⟩, ⟨by (with_reducible repeat (first | apply Kd.R_alloc | apply Kd.R_drewN | apply Kd.R_drew)); exact Kd.R_mono HO588.out (fun _ hk => hk.2)⟩, ⟨by (with_reducible repeat (first | apply Kd.R_alloc | apply Kd.R_drewN | apply Kd.R_drew)); exact Kd.R_mono HO591.out (fun _ hk => hk.2)⟩, ⟨by (with_reducible repeat (first | apply Kd.R_alloc | apply Kd.R_drewN | apply Kd.R_drew)); exact Kd.R_mono HO596.out (fun _ hk => hk.2)⟩, ⟨by (with_reducible repeat (first | apply Kd.R_alloc | apply Kd.R_drewN | apply Kd.R_drew)); exact Kd.R_mono HO599.out (fun _ hk => hk.2)⟩, ⟨by (with_reducible repeat (first | refine blk_drewN ?_ _ | refine blk_drew ?_ | refine blk_alloc ?_ _)); exact BK534.out⟩, ⟨by (with_reducible repeat (first | refine blk_drewN ?_ _ | refine blk_drew ?_ | refine blk_alloc ?_ _)); exact BK535.out⟩, ⟨bU HB⟩⟩
                  ·replace c147 := Bool.eq_false_iff.mpr c147
                   subst c147
                   have H1 : (some false) = some r := by rw [if_neg (show ¬ (false = true) by decide)] at H; exact H
                   clear H
                   have H := H1
                   clear H1
                   exact absurd ((Option.some.inj H).trans HRT.out) (by decide)
                 ·rw [if_neg c145] at H
                  have c145b0 : (0 == 0) = false := beq_eq_false_iff_ne.mpr c145
                  have c145b1 : (0 != 0) = true := bne_iff_ne.mpr c145
                  exact absurd ((Option.some.inj H).trans HRT.out) (by decide)
                ·rw [if_neg c142] at H
                 have c142b0 : (((rd_T45 l1 x36_2).f0) == 2) = false := beq_eq_false_iff_ne.mpr c142
                 have c142b1 : (((rd_T45 l1 x36_2).f0) != 2) = true := bne_iff_ne.mpr c142
                 by_cases c174 : ((rd_T45 l1 x36_2).f0) = 3
                 ·rw [if_pos c174] at H
                  have c174b0 : (((rd_T45 l1 x36_2).f0) == 3) = true := beq_iff_eq.mpr c174
                  have c174b1 : (((rd_T45 l1 x36_2).f0) != 3) = false := bne_eq_false_iff_eq.mpr c174
                  clear c174
                  replace H := Option.bind_eq_some_iff.mp H
                  obtain ⟨⟨t603, t606, t609, t610⟩, A1750, H⟩ := H
                  replace H : ((almanacref02_Arm.f x536000_2 x536001_2 x536002_2 x536003_2 ((rd_T45 l1 x36_2).f1)).bind fun bt611 => (if 0 = 0 then ((almanacref02_Same.f kj71 t603 t606 t609 t610 bt611.1 bt611.2.1 bt611.2.2.1 bt611.2.2.2).bind fun t619 => (if t619 = true then (almanaclaw02_DevPlays.l0 kj71 l1 (l1.length : Int) (wrap64 (x36_2 + 1)) t603 t606 t609 t610 bt611.1 bt611.2.1 bt611.2.2.1 bt611.2.2.2) else (some false))) else (some false))) = some r := H
                  have A175 := Aside0.mk A1750
                  clear A1750
                  replace H := Option.bind_eq_some_iff.mp H
                  obtain ⟨⟨t611, t614, t617, t618⟩, A1760, H⟩ := H
                  replace H : (if 0 = 0 then ((almanacref02_Same.f kj71 t603 t606 t609 t610 t611 t614 t617 t618).bind fun t619 => (if t619 = true then (almanaclaw02_DevPlays.l0 kj71 l1 (l1.length : Int) (wrap64 (x36_2 + 1)) t603 t606 t609 t610 t611 t614 t617 t618) else (some false))) else (some false)) = some r := H
                  have A176 := Aside0.mk A1760
                  clear A1760
                  by_cases c177 : 0 = 0
                  ·rw [if_pos c177] at H
                   have c177b0 : (0 == 0) = true := beq_iff_eq.mpr c177
                   have c177b1 : (0 != 0) = false := bne_eq_false_iff_eq.mpr c177
                   clear c177
                   replace H := Option.bind_eq_some_iff.mp H
                   obtain ⟨t619, A1780, H⟩ := H
                   replace H : (if t619 = true then (almanaclaw02_DevPlays.l0 kj71 l1 (l1.length : Int) (wrap64 (x36_2 + 1)) t603 t606 t609 t610 t611 t614 t617 t618) else (some false)) = some r := H
                   have A178 := Aside0.mk A1780
                   clear A1780
                   by_cases c179 : t619 = true
                   ·subst c179
                    have H1 : (almanaclaw02_DevPlays.l0 kj71 l1 (l1.length : Int) (wrap64 (x36_2 + 1)) t603 t606 t609 t610 t611 t614 t617 t618) = some r := by rw [if_pos rfl] at H; exact H
                    clear H
                    have H := H1
                    clear H1
                    have H' := Aside0.mk H
                    clear H
                    have hnb180 := NB540_534.out
                    have hnc180 := NB534_540.out
                    have hnb181 := NB540_535.out
                    have hnc181 := NB535_540.out
                    obtain ⟨hcz182_0, hcz182_1, hcz182_2, hcz182_3, hfz182_0, hfz182_1, hfz182_2, hfz182_3⟩ := k4 BK540
                    try go_wp2
                    have n0_ := Aside0.mk (Kd.R_drew HO_535000.out)
                    have n1_ := Aside0.mk (Kd.R_drew HO_535001.out)
                    have n2_ := Aside0.mk (Kd.R_drew HO_536000.out)
                    have n3_ := Aside0.mk (Kd.R_drew HO_536001.out)
                    have n4_ := Aside0.mk (blk_drew BK534.out)
                    have n5_ := Aside0.mk (blk_drew BK535.out)
                    have n6_ := Aside0.mk (blk_drew BK540.out)
                    have n7_ := Aside0.mk (below_drew1 HB.out)
                    clear HO_535000
                    clear HO_535001
                    clear HO_536000
                    clear HO_536001
                    clear BK534
                    clear BK535
                    clear BK540
                    clear HB
                    have HO_535000 := n0_
                    have HO_535001 := n1_
                    have HO_536000 := n2_
                    have HO_536001 := n3_
                    have BK534 := n4_
                    have BK535 := n5_
                    have BK540 := n6_
                    have HB := n7_
                    clear n0_ n1_ n2_ n3_ n4_ n5_ n6_ n7_
                    obtain ⟨Ao184, co184, eo184⟩ := Kd.R_slice HO_535000.out
                    (first | subst eo184 | (injection eo184 with f1_ f2_ f3_; have f4_ := f1_.symm; have f5_ := f3_.symm; clear f1_ f2_ f3_; subst f4_; subst f5_))
                    obtain ⟨Ao185, co185, eo185⟩ := Kd.R_slice HO_535001.out
                    (first | subst eo185 | (injection eo185 with f1_ f2_ f3_; have f4_ := f1_.symm; have f5_ := f3_.symm; clear f1_ f2_ f3_; subst f4_; subst f5_))
                    refine start_ (n := 10) (S := fun w' => w'.cell? ⟨gb534, 0, none⟩ = some (.slice Ao184 x535000_2.length co184) ∧ w'.cell? ⟨gb534, 1, none⟩ = some (.slice Ao185 x535001_2.length co185) ∧ w'.cell? ⟨gb534, 2, none⟩ = some (.int .i64 x535002_2) ∧ w'.cell? ⟨gb534, 3, none⟩ = some (.bool x535003_2) ∧ w'.cell? ⟨gb540, 0, none⟩ = some (.int .i64 ((rd_T45 l1 x36_2).f0)) ∧ w'.cell? ⟨gb540, 1, none⟩ = some (.int .i64 ((rd_T45 l1 x36_2).f1)) ∧ w'.cell? ⟨gb540, 2, none⟩ = some (.string ((rd_T45 l1 x36_2).f2)) ∧ w'.cell? ⟨gb540, 3, none⟩ = some (.slice A539_3 ((rd_T45 l1 x36_2).f3).length c539_3) ∧ w'.cell? ⟨gb535, 0, none⟩ = some (u536000) ∧ w'.cell? ⟨gb535, 1, none⟩ = some (u536001) ∧ w'.cell? ⟨gb535, 2, none⟩ = some (.int .i64 x536002_2) ∧ w'.cell? ⟨gb535, 3, none⟩ = some (.bool x536003_2)) (ds := [8, 9]) #[false, false, false, false, false, false, false, false, false, false] (by kernel_rfl) rfl rfl ⟨(blk_cell BK534.out 0).trans rfl, (blk_cell BK534.out 1).trans rfl, (blk_cell BK534.out 2).trans rfl, (blk_cell BK534.out 3).trans rfl, (blk_cell BK540.out 0).trans rfl, (blk_cell BK540.out 1).trans rfl, (blk_cell BK540.out 2).trans rfl, (blk_cell BK540.out 3).trans rfl, (blk_cell BK535.out 0).trans rfl, (blk_cell BK535.out 1).trans rfl, (blk_cell BK535.out 2).trans rfl, (blk_cell BK535.out 3).trans rfl⟩ (fun hHeld => ?_); refine with_tabW almanaclaw02_DevPlays.tab29 almanaclaw02_DevPlays.bits29 (fun HT_ HW_ => ?_)
                    generalize wc.drew = w183 at HO_535000 HO_535001 HO_536000 HO_536001 BK534 BK535 BK540 HB hHeld ⊢
                    refine pure_ (i := 1) (N := some 133) (v := ?_) (a' := ?_) #[false, true, false, false, false, false, false, false, false, false] rfl rfl (any_of HT_.out (by kernel_rfl)) (fun _ _ _ h => h) (Or.inl ⟨by rfl, ?_⟩) ?_ ?_
                    rotate_left
                    ·intro w'
                     go_simp
                     with_reducible rfl
                    rotate_left
                    ·simp only [Act.put, List.setIfInBounds_toArray, List.set_cons_zero, List.set_cons_succ, i64_w, i32_w]
                     rfl
                    refine pure_ (i := 5) (N := some 137) (v := ?_) (a' := ?_) #[false, true, false, false, false, true, false, false, false, false] rfl rfl (any_of HT_.out (by kernel_rfl)) (fun _ _ _ h => h) (Or.inl ⟨by rfl, ?_⟩) ?_ ?_
                    rotate_left
                    ·intro w'
                     go_simp
                     with_reducible rfl
                    rotate_left
                    ·simp only [Act.put, List.setIfInBounds_toArray, List.set_cons_zero, List.set_cons_succ, i64_w, i32_w]
                     rfl
                    refine take_ (i := 0) (N := some 132) (v := ?_) (a' := ?_) #[true, true, false, false, false, true, false, false, false, false] rfl rfl (take_ofW HT_.out HW_.out (by kernel_rfl)) (fun _ _ _ h => h) (Or.inl ⟨by rfl, ?_⟩) hHeld ?_ ?_
                    rotate_left
                    ·rintro w' ⟨s0, s1, s2, s3, s4, s5, s6, s7, s8, s9, s10, s11⟩
                     go_simp
                     with_reducible rfl
                    rotate_left
                    ·simp only [Act.put, List.setIfInBounds_toArray, List.set_cons_zero, List.set_cons_succ, i64_w, i32_w]
                     rfl
                    refine take_ (i := 2) (N := some 134) (v := ?_) (a' := ?_) #[true, true, true, false, false, true, false, false, false, false] rfl rfl (take_ofW HT_.out HW_.out (by kernel_rfl)) (fun _ _ _ h => h) (Or.inl ⟨by rfl, ?_⟩) hHeld ?_ ?_
                    rotate_left
                    ·rintro w' ⟨s0, s1, s2, s3, s4, s5, s6, s7, s8, s9, s10, s11⟩
                     go_simp
                     with_reducible rfl
                    rotate_left
                    ·simp only [Act.put, List.setIfInBounds_toArray, List.set_cons_zero, List.set_cons_succ, i64_w, i32_w]
                     rfl
                    refine take_ (i := 4) (N := some 136) (v := ?_) (a' := ?_) #[true, true, true, false, true, true, false, false, false, false] rfl rfl (take_ofW HT_.out HW_.out (by kernel_rfl)) (fun _ _ _ h => h) (Or.inl ⟨by rfl, ?_⟩) hHeld ?_ ?_
                    rotate_left
                    ·rintro w' ⟨s0, s1, s2, s3, s4, s5, s6, s7, s8, s9, s10, s11⟩
                     go_simp
                     with_reducible rfl
                    rotate_left
                    ·simp only [Act.put, List.setIfInBounds_toArray, List.set_cons_zero, List.set_cons_succ, i64_w, i32_w]
                     rfl
                    refine take_ (i := 6) (N := some 138) (v := ?_) (a' := ?_) #[true, true, true, false, true, true, true, false, false, false] rfl rfl (take_ofW HT_.out HW_.out (by kernel_rfl)) (fun _ _ _ h => h) (Or.inl ⟨by rfl, ?_⟩) hHeld ?_ ?_
                    rotate_left
                    ·rintro w' ⟨s0, s1, s2, s3, s4, s5, s6, s7, s8, s9, s10, s11⟩
                     go_simp
                     with_reducible rfl
                    rotate_left
                    ·simp only [Act.put, List.setIfInBounds_toArray, List.set_cons_zero, List.set_cons_succ, i64_w, i32_w]
                     rfl
                    refine one_ (i := 3) (N := some 135) #[true, true, true, true, true, true, true, false, false, false] rfl rfl (one_of HT_.out (by kernel_rfl)) (by decide) (fun K hK => ?_)
                    refine goes_ Try.func12 (by kernel_rfl) rfl #[.agg #[.slice Ao184 x535000_2.length co184, .slice Ao185 x535001_2.length co185, .int .i64 x535002_2, .bool x535003_2], .int .i64 ((rd_T45 l1 x36_2).f1)] (by rfl) rfl rfl (by (try simp only [List.map_toArray, List.map_cons, List.map_nil]); first | done | rfl | (simp only [List.length_drop, List.length_take]; rfl)) ?_
                    with_reducible refine (dev_Arm.calls _ _ x535000_2 _ _ x535001_2 x535002_2 x535003_2 ((rd_T45 l1 x36_2).f1) t603 t606 t609 t610 _ ?side1 ?side2 ?side3 ?side4 A175.out).mono ?_
                    (case side1 => exact cU (Kd.R_reads' HO_535000.out).2.2)
                    (case side2 => exact (Kd.R_reads' HO_535000.out).2.1)
                    (case side3 => exact cU (Kd.R_reads' HO_535001.out).2.2)
                    (case side4 => exact (Kd.R_reads' HO_535001.out).2.1)
                    rintro e w186 ⟨v604, v607, rfl, ho0, ho1, hb⟩
                    refine ⟨_, rfl, ?_⟩
                    have n0_ := Aside0.mk (Kd.R_elder' (rU HO_535000) (Kd.R_base ho0) hb)
                    have n1_ := Aside0.mk (Kd.R_elder' (rU HO_535001) (Kd.R_base ho1) hb)
                    have n2_ := Aside0.mk (Kd.R_elder' (rU HO_536000) (Kd.R_base ho0) hb)
                    have n3_ := Aside0.mk (Kd.R_elder' (rU HO_536001) (Kd.R_base ho1) hb)
                    have n4_ := Aside0.mk (Kd.R_lower (Kd.R_new' (Kd.R_new' ho0 (Kd.R_lt (rU HO_535000))) (Kd.R_lt (rU HO_536000))) (below_size (bU HB)))
                    have n5_ := Aside0.mk (Kd.R_lower (Kd.R_new' (Kd.R_new' ho1 (Kd.R_lt (rU HO_535001))) (Kd.R_lt (rU HO_536001))) (below_size (bU HB)))
                    have n6_ := Aside0.mk (blk_below (g := gb534) (o := .cells #[.slice Ao184 x535000_2.length co184, .slice Ao185 x535001_2.length co185, .int .i64 x535002_2, .bool x535003_2] 25 (0, 0)) (by (with_reducible repeat (first | refine blk_drewN ?_ _ | refine blk_drew ?_ | refine blk_alloc ?_ _)); exact BK534.out) hb)
                    have n7_ := Aside0.mk (blk_below (g := gb535) (o := .cells #[u536000, u536001, .int .i64 x536002_2, .bool x536003_2] 25 (0, 0)) (by (with_reducible repeat (first | refine blk_drewN ?_ _ | refine blk_drew ?_ | refine blk_alloc ?_ _)); exact BK535.out) hb)
                    have n8_ := Aside0.mk (blk_below (g := gb540) (o := .cells #[.int .i64 ((rd_T45 l1 x36_2).f0), .int .i64 ((rd_T45 l1 x36_2).f1), .string ((rd_T45 l1 x36_2).f2), .slice A539_3 ((rd_T45 l1 x36_2).f3).length c539_3] 45 (0, 0)) (by (with_reducible repeat (first | refine blk_drewN ?_ _ | refine blk_drew ?_ | refine blk_alloc ?_ _)); exact BK540.out) hb)
                    have n9_ := Aside0.mk (below_step (bU HB) hb)
                    clear HO_535000
                    clear HO_535001
                    clear HO_536000
                    clear HO_536001
                    clear BK534
                    clear BK535
                    clear BK540
                    clear HB
                    have HO_535000 := n0_
                    have HO_535001 := n1_
                    have HO_536000 := n2_
                    have HO_536001 := n3_
                    have HO605 := n4_
                    have HO608 := n5_
                    have BK534 := n6_
                    have BK535 := n7_
                    have BK540 := n8_
                    have HB := n9_
                    clear n0_ n1_ n2_ n3_ n4_ n5_ n6_ n7_ n8_ n9_
                    (try clear hb)
                    (try clear hb2)
                    (try clear hk)
                    (try clear hi)
                    (try clear ho0)
                    (try clear ho1)
                    obtain ⟨Ao187, co187, eo187⟩ := Kd.R_slice HO_536000.out
                    (first | subst eo187 | (injection eo187 with f1_ f2_ f3_; have f4_ := f1_.symm; have f5_ := f3_.symm; clear f1_ f2_ f3_; subst f4_; subst f5_))
                    obtain ⟨Ao188, co188, eo188⟩ := Kd.R_slice HO_536001.out
                    (first | subst eo188 | (injection eo188 with f1_ f2_ f3_; have f4_ := f1_.symm; have f5_ := f3_.symm; clear f1_ f2_ f3_; subst f4_; subst f5_))
                    refine hK.out _ _ ⟨(blk_cell BK534.out 0).trans rfl, (blk_cell BK534.out 1).trans rfl, (blk_cell BK534.out 2).trans rfl, (blk_cell BK534.out 3).trans rfl, (blk_cell BK540.out 0).trans rfl, (blk_cell BK540.out 1).trans rfl, (blk_cell BK540.out 2).trans rfl, (blk_cell BK540.out 3).trans rfl, (blk_cell BK535.out 0).trans rfl, (blk_cell BK535.out 1).trans rfl, (blk_cell BK535.out 2).trans rfl, (blk_cell BK535.out 3).trans rfl⟩ (fun hHeld => ?_)
                    clear hK K
                    refine norm_ (a' := ?_) ?_ ?_
                    rotate_left
                    ·show Act.put _ (some 135) _ = _
                     simp only [Act.put, List.setIfInBounds_toArray, List.set_cons_zero, List.set_cons_succ, i64_w, i32_w]
                     rfl
                    refine one_ (i := 7) (N := some 139) #[true, true, true, true, true, true, true, true, false, false] rfl rfl (one_of HT_.out (by kernel_rfl)) (by decide) (fun K hK => ?_)
                    refine goes_ Try.func24 (by kernel_rfl) rfl #[.agg #[.slice Ao187 x536000_2.length co187, .slice Ao188 x536001_2.length co188, .int .i64 x536002_2, .bool x536003_2], .int .i64 ((rd_T45 l1 x36_2).f1)] (by rfl) rfl rfl (by (try simp only [List.map_toArray, List.map_cons, List.map_nil]); first | done | rfl | (simp only [List.length_drop, List.length_take]; rfl)) ?_
                    with_reducible refine (almanacref02_Arm.calls _ _ x536000_2 _ _ x536001_2 x536002_2 x536003_2 ((rd_T45 l1 x36_2).f1) t611 t614 t617 t618 _ ?side1 ?side2 ?side3 ?side4 A176.out).mono ?_
                    (case side1 => exact cU (Kd.R_reads' HO_536000.out).2.2)
                    (case side2 => exact (Kd.R_reads' HO_536000.out).2.1)
                    (case side3 => exact cU (Kd.R_reads' HO_536001.out).2.2)
                    (case side4 => exact (Kd.R_reads' HO_536001.out).2.1)
                    rintro e w189 ⟨v612, v615, rfl, ho0, ho1, hb⟩
                    refine ⟨_, rfl, ?_⟩
                    have n0_ := Aside0.mk (Kd.R_elder' (rU HO_535000) (Kd.R_base ho0) hb)
                    have n1_ := Aside0.mk (Kd.R_elder' (rU HO_535001) (Kd.R_base ho1) hb)
                    have n2_ := Aside0.mk (Kd.R_elder' (rU HO_536000) (Kd.R_base ho0) hb)
                    have n3_ := Aside0.mk (Kd.R_elder' (rU HO_536001) (Kd.R_base ho1) hb)
                    have n4_ := Aside0.mk (Kd.R_elder' (rU HO605) (Kd.R_base ho0) hb)
                    have n5_ := Aside0.mk (Kd.R_elder' (rU HO608) (Kd.R_base ho1) hb)
                    have n6_ := Aside0.mk (Kd.R_lower (Kd.R_new' (Kd.R_new' (Kd.R_new' ho0 (Kd.R_lt (rU HO_535000))) (Kd.R_lt (rU HO_536000))) (Kd.R_lt (rU HO605))) (below_size (bU HB)))
                    have n7_ := Aside0.mk (Kd.R_lower (Kd.R_new' (Kd.R_new' (Kd.R_new' ho1 (Kd.R_lt (rU HO_535001))) (Kd.R_lt (rU HO_536001))) (Kd.R_lt (rU HO608))) (below_size (bU HB)))
                    have n8_ := Aside0.mk (blk_below (g := gb534) (o := .cells #[.slice Ao184 x535000_2.length co184, .slice Ao185 x535001_2.length co185, .int .i64 x535002_2, .bool x535003_2] 25 (0, 0)) (by (with_reducible repeat (first | refine blk_drewN ?_ _ | refine blk_drew ?_ | refine blk_alloc ?_ _)); exact BK534.out) hb)
                    have n9_ := Aside0.mk (blk_below (g := gb535) (o := .cells #[.slice Ao187 x536000_2.length co187, .slice Ao188 x536001_2.length co188, .int .i64 x536002_2, .bool x536003_2] 25 (0, 0)) (by (with_reducible repeat (first | refine blk_drewN ?_ _ | refine blk_drew ?_ | refine blk_alloc ?_ _)); exact BK535.out) hb)
                    have n10_ := Aside0.mk (blk_below (g := gb540) (o := .cells #[.int .i64 ((rd_T45 l1 x36_2).f0), .int .i64 ((rd_T45 l1 x36_2).f1), .string ((rd_T45 l1 x36_2).f2), .slice A539_3 ((rd_T45 l1 x36_2).f3).length c539_3] 45 (0, 0)) (by (with_reducible repeat (first | refine blk_drewN ?_ _ | refine blk_drew ?_ | refine blk_alloc ?_ _)); exact BK540.out) hb)
                    have n11_ := Aside0.mk (below_step (bU HB) hb)
                    clear HO_535000
                    clear HO_535001
                    clear HO_536000
                    clear HO_536001
                    clear HO605
                    clear HO608
                    clear BK534
                    clear BK535
                    clear BK540
                    clear HB
                    have HO_535000 := n0_
                    have HO_535001 := n1_
                    have HO_536000 := n2_
                    have HO_536001 := n3_
                    have HO605 := n4_
                    have HO608 := n5_
                    have HO613 := n6_
                    have HO616 := n7_
                    have BK534 := n8_
                    have BK535 := n9_
                    have BK540 := n10_
                    have HB := n11_
                    clear n0_ n1_ n2_ n3_ n4_ n5_ n6_ n7_ n8_ n9_ n10_ n11_
                    (try clear hb)
                    (try clear hb2)
                    (try clear hk)
                    (try clear hi)
                    (try clear ho0)
                    (try clear ho1)
                    obtain ⟨Ao190, co190, eo190⟩ := Kd.R_slice HO605.out
                    (first | subst eo190 | (injection eo190 with f1_ f2_ f3_; have f4_ := f1_.symm; have f5_ := f3_.symm; clear f1_ f2_ f3_; subst f4_; subst f5_))
                    obtain ⟨Ao192, co192, eo192⟩ := Kd.R_slice HO608.out
                    (first | subst eo192 | (injection eo192 with f1_ f2_ f3_; have f4_ := f1_.symm; have f5_ := f3_.symm; clear f1_ f2_ f3_; subst f4_; subst f5_))
                    obtain ⟨Ao196, co196, eo196⟩ := Kd.R_slice HO613.out
                    (first | subst eo196 | (injection eo196 with f1_ f2_ f3_; have f4_ := f1_.symm; have f5_ := f3_.symm; clear f1_ f2_ f3_; subst f4_; subst f5_))
                    obtain ⟨Ao198, co198, eo198⟩ := Kd.R_slice HO616.out
                    (first | subst eo198 | (injection eo198 with f1_ f2_ f3_; have f4_ := f1_.symm; have f5_ := f3_.symm; clear f1_ f2_ f3_; subst f4_; subst f5_))
                    refine hK.out _ _ ⟨(blk_cell BK534.out 0).trans rfl, (blk_cell BK534.out 1).trans rfl, (blk_cell BK534.out 2).trans rfl, (blk_cell BK534.out 3).trans rfl, (blk_cell BK540.out 0).trans rfl, (blk_cell BK540.out 1).trans rfl, (blk_cell BK540.out 2).trans rfl, (blk_cell BK540.out 3).trans rfl, (blk_cell BK535.out 0).trans rfl, (blk_cell BK535.out 1).trans rfl, (blk_cell BK535.out 2).trans rfl, (blk_cell BK535.out 3).trans rfl⟩ (fun hHeld => ?_)
                    clear hK K
                    refine norm_ (a' := ?_) ?_ ?_
                    rotate_left
                    ·show Act.put _ (some 139) _ = _
                     simp only [Act.put, List.setIfInBounds_toArray, List.set_cons_zero, List.set_cons_succ, i64_w, i32_w]
                     rfl
                    refine last_ (i := 8) (N := none) #[true, true, true, true, true, true, true, true, true, false] rfl rfl (one_of HT_.out (by kernel_rfl)) (by decide) (fun K hK => ?_)
                    have hs191 : w189.cell? ⟨gb534, 0, none⟩ = some (.slice Ao184 x535000_2.length co184) := (blk_cell BK534.out 0).trans rfl
                    have hfs191 := blk_frozen BK534.out 0
                    have hns191_1 := NB535_534.out
                    have hns191_2 := NB540_534.out
                    have hms191_1 := NB534_535.out
                    have hms191_2 := NB534_540.out
                    have hs193 : w189.cell? ⟨gb534, 1, none⟩ = some (.slice Ao185 x535001_2.length co185) := (blk_cell BK534.out 1).trans rfl
                    have hfs193 := blk_frozen BK534.out 1
                    have hns193_1 := NB535_534.out
                    have hns193_2 := NB540_534.out
                    have hms193_1 := NB534_535.out
                    have hms193_2 := NB534_540.out
                    have hs194 : w189.cell? ⟨gb534, 2, none⟩ = some (.int .i64 x535002_2) := (blk_cell BK534.out 2).trans rfl
                    have hfs194 := blk_frozen BK534.out 2
                    have hns194_1 := NB535_534.out
                    have hns194_2 := NB540_534.out
                    have hms194_1 := NB534_535.out
                    have hms194_2 := NB534_540.out
                    have hs195 : w189.cell? ⟨gb534, 3, none⟩ = some (.bool x535003_2) := (blk_cell BK534.out 3).trans rfl
                    have hfs195 := blk_frozen BK534.out 3
                    have hns195_1 := NB535_534.out
                    have hns195_2 := NB540_534.out
                    have hms195_1 := NB534_535.out
                    have hms195_2 := NB534_540.out
                    refine skip_ (w1 := ?_) (by rfl) rfl ?_ ?_
                    rotate_left
                    ·go_simp
                     rfl
                    refine hK.out _ _ ?_
                    clear hK K
                    refine last_ (i := 9) (N := none) #[true, true, true, true, true, true, true, true, true, true] rfl rfl (one_of HT_.out (by kernel_rfl)) (by decide) (fun K hK => ?_)
                    have hs197 : w189.cell? ⟨gb535, 0, none⟩ = some (.slice Ao187 x536000_2.length co187) := (blk_cell BK535.out 0).trans rfl
                    have hfs197 := blk_frozen BK535.out 0
                    have hns197_0 := NB534_535.out
                    have hns197_2 := NB540_535.out
                    have hms197_0 := NB535_534.out
                    have hms197_2 := NB535_540.out
                    have hs199 : w189.cell? ⟨gb535, 1, none⟩ = some (.slice Ao188 x536001_2.length co188) := (blk_cell BK535.out 1).trans rfl
                    have hfs199 := blk_frozen BK535.out 1
                    have hns199_0 := NB534_535.out
                    have hns199_2 := NB540_535.out
                    have hms199_0 := NB535_534.out
                    have hms199_2 := NB535_540.out
                    have hs200 : w189.cell? ⟨gb535, 2, none⟩ = some (.int .i64 x536002_2) := (blk_cell BK535.out 2).trans rfl
                    have hfs200 := blk_frozen BK535.out 2
                    have hns200_0 := NB534_535.out
                    have hns200_2 := NB540_535.out
                    have hms200_0 := NB535_534.out
                    have hms200_2 := NB535_540.out
                    have hs201 : w189.cell? ⟨gb535, 3, none⟩ = some (.bool x536003_2) := (blk_cell BK535.out 3).trans rfl
                    have hfs201 := blk_frozen BK535.out 3
                    have hns201_0 := NB534_535.out
                    have hns201_2 := NB540_535.out
                    have hms201_0 := NB535_534.out
                    have hms201_2 := NB535_540.out
                    refine skip_ (w1 := ?_) (by rfl) rfl ?_ ?_
                    rotate_left
                    ·go_simp
                     rfl
                    refine hK.out _ _ ?_
                    clear hK K
                    refine done_ (done_of HT_.out (by kernel_rfl)) ?_
                    have hnb202 := NB534_535.out
                    have hnc202 := NB535_534.out
                    obtain ⟨hcz203_0, hcz203_1, hcz203_2, hcz203_3, hfz203_0, hfz203_1, hfz203_2, hfz203_3⟩ := k4 BK534
                    obtain ⟨hcz204_0, hcz204_1, hcz204_2, hcz204_3, hfz204_0, hfz204_1, hfz204_2, hfz204_3⟩ := k4 BK535
                    try go_wp2_with (first | (go_at_call 14; (with_reducible refine (almanacref02_Same.calls kj71 _ _ t603 _ _ t606 t609 t610 _ _ t611 _ _ t614 t617 t618 true _ ?side1 ?side2 ?side3 ?side4 ?side5 ?side6 ?side7 ?side8 A178.out).mono ?_); (case side1 => refine (Kd.R_reads' (e := 9) (base := w.heap.size) (ok := fun k_ => (((True ∧ some k_ ≠ (.slice Ao184 x535000_2.length co184 : Value).ownBlock) ∧ some k_ ≠ (.slice Ao187 x536000_2.length co187 : Value).ownBlock) ∧ some k_ ≠ (.slice Ao196 t611.length co196 : Value).ownBlock)) (n := t603.length) (c := co190) ?_).2.2; exact (rF2 HO605 BK534 BK535)); (case side2 => exact (Kd.R_reads' HO605.out).2.1); (case side3 => refine (Kd.R_reads' (e := 40) (base := w.heap.size) (ok := fun k_ => (((True ∧ some k_ ≠ (.slice Ao185 x535001_2.length co185 : Value).ownBlock) ∧ some k_ ≠ (.slice Ao188 x536001_2.length co188 : Value).ownBlock) ∧ some k_ ≠ (.slice Ao198 t614.length co198 : Value).ownBlock)) (n := t606.length) (c := co192) ?_).2.2; exact (rF2 HO608 BK534 BK535)); (case side4 => exact (Kd.R_reads' HO608.out).2.1); (case side5 => refine (Kd.R_reads' (e := 9) (base := w.heap.size) (ok := fun k_ => (((True ∧ some k_ ≠ (.slice Ao184 x535000_2.length co184 : Value).ownBlock) ∧ some k_ ≠ (.slice Ao187 x536000_2.length co187 : Value).ownBlock) ∧ some k_ ≠ (.slice Ao190 t603.length co190 : Value).ownBlock)) (n := t611.length) (c := co196) ?_).2.2; exact (rF2 HO613 BK534 BK535)); (case side6 => exact (Kd.R_reads' HO613.out).2.1); (case side7 => refine (Kd.R_reads' (e := 40) (base := w.heap.size) (ok := fun k_ => (((True ∧ some k_ ≠ (.slice Ao185 x535001_2.length co185 : Value).ownBlock) ∧ some k_ ≠ (.slice Ao188 x536001_2.length co188 : Value).ownBlock) ∧ some k_ ≠ (.slice Ao192 t606.length co192 : Value).ownBlock)) (n := t614.length) (c := co198) ?_).2.2; exact (rF2 HO616 BK534 BK535)); (case side8 => exact (Kd.R_reads' HO616.out).2.1); rintro e w205 ⟨rfl, hb⟩; have n0_ := Aside0.mk (Kd.R_below (rF2 HO_535000 BK534 BK535) hb); have n1_ := Aside0.mk (Kd.R_below (rF2 HO_535001 BK534 BK535) hb); have n2_ := Aside0.mk (Kd.R_below (rF2 HO_536000 BK534 BK535) hb); have n3_ := Aside0.mk (Kd.R_below (rF2 HO_536001 BK534 BK535) hb); have n4_ := Aside0.mk (Kd.R_below (rF2 HO605 BK534 BK535) hb); have n5_ := Aside0.mk (Kd.R_below (rF2 HO608 BK534 BK535) hb); have n6_ := Aside0.mk (Kd.R_below (rF2 HO613 BK534 BK535) hb); have n7_ := Aside0.mk (Kd.R_below (rF2 HO616 BK534 BK535) hb); have n8_ := Aside0.mk (blk_below (g := gb534) (o := .cells #[.slice Ao190 t603.length co190, .slice Ao192 t606.length co192, .int .i64 t609, .bool t610] 25 (0, 0)) (by (with_reducible repeat (first | refine blk_drewN ?_ _ | refine blk_drew ?_ | refine blk_alloc ?_ _)); refine blk_far ?_ NB534_535.out _; (with_reducible repeat (first | refine blk_drewN ?_ _ | refine blk_drew ?_ | refine blk_alloc ?_ _)); refine blk_far ?_ NB534_535.out _; (with_reducible repeat (first | refine blk_drewN ?_ _ | refine blk_drew ?_ | refine blk_alloc ?_ _)); refine blk_far ?_ NB534_535.out _; (with_reducible repeat (first | refine blk_drewN ?_ _ | refine blk_drew ?_ | refine blk_alloc ?_ _)); refine blk_far ?_ NB534_535.out _; (with_reducible repeat (first | refine blk_drewN ?_ _ | refine blk_drew ?_ | refine blk_alloc ?_ _)); refine blk_put (cs := #[.slice Ao190 t603.length co190, .slice Ao192 t606.length co192, .int .i64 t609, .bool x535003_2]) ?_ 3 _ rfl; (with_reducible repeat (first | refine blk_drewN ?_ _ | refine blk_drew ?_ | refine blk_alloc ?_ _)); refine blk_put (cs := #[.slice Ao190 t603.length co190, .slice Ao192 t606.length co192, .int .i64 x535002_2, .bool x535003_2]) ?_ 2 _ rfl; (with_reducible repeat (first | refine blk_drewN ?_ _ | refine blk_drew ?_ | refine blk_alloc ?_ _)); refine blk_put (cs := #[.slice Ao190 t603.length co190, .slice Ao185 x535001_2.length co185, .int .i64 x535002_2, .bool x535003_2]) ?_ 1 _ rfl; (with_reducible repeat (first | refine blk_drewN ?_ _ | refine blk_drew ?_ | refine blk_alloc ?_ _)); refine blk_put (cs := #[.slice Ao184 x535000_2.length co184, .slice Ao185 x535001_2.length co185, .int .i64 x535002_2, .bool x535003_2]) ?_ 0 _ rfl; (with_reducible repeat (first | refine blk_drewN ?_ _ | refine blk_drew ?_ | refine blk_alloc ?_ _)); exact BK534.out) hb); have n9_ := Aside0.mk (blk_below (g := gb535) (o := .cells #[.slice Ao196 t611.length co196, .slice Ao198 t614.length co198, .int .i64 t617, .bool t618] 25 (0, 0)) (by (with_reducible repeat (first | refine blk_drewN ?_ _ | refine blk_drew ?_ | refine blk_alloc ?_ _)); refine blk_put (cs := #[.slice Ao196 t611.length co196, .slice Ao198 t614.length co198, .int .i64 t617, .bool x536003_2]) ?_ 3 _ rfl; (with_reducible repeat (first | refine blk_drewN ?_ _ | refine blk_drew ?_ | refine blk_alloc ?_ _)); refine blk_put (cs := #[.slice Ao196 t611.length co196, .slice Ao198 t614.length co198, .int .i64 x536002_2, .bool x536003_2]) ?_ 2 _ rfl; (with_reducible repeat (first | refine blk_drewN ?_ _ | refine blk_drew ?_ | refine blk_alloc ?_ _)); refine blk_put (cs := #[.slice Ao196 t611.length co196, .slice Ao188 x536001_2.length co188, .int .i64 x536002_2, .bool x536003_2]) ?_ 1 _ rfl; (with_reducible repeat (first | refine blk_drewN ?_ _ | refine blk_drew ?_ | refine blk_alloc ?_ _)); refine blk_put (cs := #[.slice Ao187 x536000_2.length co187, .slice Ao188 x536001_2.length co188, .int .i64 x536002_2, .bool x536003_2]) ?_ 0 _ rfl; (with_reducible repeat (first | refine blk_drewN ?_ _ | refine blk_drew ?_ | refine blk_alloc ?_ _)); refine blk_far ?_ NB535_534.out _; (with_reducible repeat (first | refine blk_drewN ?_ _ | refine blk_drew ?_ | refine blk_alloc ?_ _)); refine blk_far ?_ NB535_534.out _; (with_reducible repeat (first | refine blk_drewN ?_ _ | refine blk_drew ?_ | refine blk_alloc ?_ _)); refine blk_far ?_ NB535_534.out _; (with_reducible repeat (first | refine blk_drewN ?_ _ | refine blk_drew ?_ | refine blk_alloc ?_ _)); refine blk_far ?_ NB535_534.out _; (with_reducible repeat (first | refine blk_drewN ?_ _ | refine blk_drew ?_ | refine blk_alloc ?_ _)); exact BK535.out) hb); have n10_ := Aside0.mk (blk_below (g := gb540) (o := .cells #[.int .i64 ((rd_T45 l1 x36_2).f0), .int .i64 ((rd_T45 l1 x36_2).f1), .string ((rd_T45 l1 x36_2).f2), .slice A539_3 ((rd_T45 l1 x36_2).f3).length c539_3] 45 (0, 0)) (by (with_reducible repeat (first | refine blk_drewN ?_ _ | refine blk_drew ?_ | refine blk_alloc ?_ _)); refine blk_far ?_ NB540_535.out _; (with_reducible repeat (first | refine blk_drewN ?_ _ | refine blk_drew ?_ | refine blk_alloc ?_ _)); refine blk_far ?_ NB540_535.out _; (with_reducible repeat (first | refine blk_drewN ?_ _ | refine blk_drew ?_ | refine blk_alloc ?_ _)); refine blk_far ?_ NB540_535.out _; (with_reducible repeat (first | refine blk_drewN ?_ _ | refine blk_drew ?_ | refine blk_alloc ?_ _)); refine blk_far ?_ NB540_535.out _; (with_reducible repeat (first | refine blk_drewN ?_ _ | refine blk_drew ?_ | refine blk_alloc ?_ _)); refine blk_far ?_ NB540_534.out _; (with_reducible repeat (first | refine blk_drewN ?_ _ | refine blk_drew ?_ | refine blk_alloc ?_ _)); refine blk_far ?_ NB540_534.out _; (with_reducible repeat (first | refine blk_drewN ?_ _ | refine blk_drew ?_ | refine blk_alloc ?_ _)); refine blk_far ?_ NB540_534.out _; (with_reducible repeat (first | refine blk_drewN ?_ _ | refine blk_drew ?_ | refine blk_alloc ?_ _)); refine blk_far ?_ NB540_534.out _; (with_reducible repeat (first | refine blk_drewN ?_ _ | refine blk_drew ?_ | refine blk_alloc ?_ _)); exact BK540.out) hb); have n11_ := Aside0.mk (below_step (bU HB) hb); clear HO_535000; clear HO_535001; clear HO_536000; clear HO_536001; clear HO605; clear HO608; clear HO613; clear HO616; clear BK534; clear BK535; clear BK540; clear HB; have HO_535000 := n0_; have HO_535001 := n1_; have HO_536000 := n2_; have HO_536001 := n3_; have HO605 := n4_; have HO608 := n5_; have HO613 := n6_; have HO616 := n7_; have BK534 := n8_; have BK535 := n9_; have BK540 := n10_; have HB := n11_; clear n0_ n1_ n2_ n3_ n4_ n5_ n6_ n7_ n8_ n9_ n10_ n11_; (try clear hb); (try clear hb2); (try clear hk); (try clear hi)))
                    go_roundg kj71
                    case measure => have := HJ4.out; have := HK2.out; have := HJ34.out; have := HJ71.out; omega
                    case rel => exact ⟨(wrap64 (x36_2 + 1)), (t603), (t606), (t609), (t610), (t611), (t614), (t617), (t618), (.slice Ao190 t603.length co190), (.slice Ao192 t606.length co192), (.slice Ao196 t611.length co196), (.slice Ao198 t614.length co198), (by first | rfl | (simp; done) | (simp [*]; done)), H', ⟨by have := HJ4.out; have := HK2.out; have := HJ34.out; have := HJ71.out; omega⟩, ⟨by (with_reducible repeat (first | apply Kd.R_alloc | apply Kd.R_drewN | apply Kd.R_drew)); exact Kd.R_mono HO605.out (fun _ hk => hk.2)⟩, ⟨by (with_reducible repeat (first | apply Kd.R_alloc | apply Kd.R_drewN | apply Kd.R_drew)); exact Kd.R_mono HO608.out (fun _ hk => hk.2)⟩, ⟨by (with_reducible repeat (first | apply Kd.R_alloc | apply Kd.R_drewN | apply Kd.R_drew)); exact Kd.R_mono HO613.out (fun _ hk => hk.2)⟩, ⟨by (with_reducible repeat (first | apply Kd.R_alloc | apply Kd.R_drewN | apply Kd.R_drew)); exact Kd.R_mono HO616.out (fun _ hk => hk.2)⟩, ⟨by (with_reducible repeat (first | refine blk_drewN ?_ _ | refine blk_drew ?_ | refine blk_alloc ?_ _)); exact BK534.out⟩, ⟨by (with_reducible repeat (first | refine blk_drewN ?_ _ | refine blk_drew ?_ | refine blk_alloc ?_ _)); exact BK535.out⟩, ⟨bU HB⟩⟩
                   ·replace c179 := Bool.eq_false_iff.mpr c179
                    subst c179
                    have H1 : (some false) = some r := by rw [if_neg (show ¬ (false = true) by decide)] at H; exact H
                    clear H
                    have H := H1
                    clear H1
                    exact absurd ((Option.some.inj H).trans HRT.out) (by decide)
                  ·rw [if_neg c177] at H
                   have c177b0 : (0 == 0) = false := beq_eq_false_iff_ne.mpr c177
                   have c177b1 : (0 != 0) = true := bne_iff_ne.mpr c177
                   exact absurd ((Option.some.inj H).trans HRT.out) (by decide)
                 ·rw [if_neg c174] at H
                  have c174b0 : (((rd_T45 l1 x36_2).f0) == 3) = false := beq_eq_false_iff_ne.mpr c174
                  have c174b1 : (((rd_T45 l1 x36_2).f0) != 3) = true := bne_iff_ne.mpr c174
                  replace H := Option.bind_eq_some_iff.mp H
                  obtain ⟨⟨t620, t621⟩, A2060, H⟩ := H
                  replace H : ((almanacref02_Read.f kj71 x536000_2 x536001_2 x536002_2 x536003_2 ((rd_T45 l1 x36_2).f1)).bind fun bt622 => (if t620.toList = bt622.1.toList then (almanaclaw02_DevPlays.j4 kj71 0 0 l1 (l1.length : Int) x36_2 (t621 != bt622.2) x535000_2 x535001_2 x535002_2 x535003_2 x536000_2 x536001_2 x536002_2 x536003_2) else (almanaclaw02_DevPlays.j4 kj71 0 0 l1 (l1.length : Int) x36_2 true x535000_2 x535001_2 x535002_2 x535003_2 x536000_2 x536001_2 x536002_2 x536003_2))) = some r := H
                  have A206 := Aside0.mk A2060
                  clear A2060
                  replace H := Option.bind_eq_some_iff.mp H
                  obtain ⟨⟨t622, t623⟩, A2070, H⟩ := H
                  replace H : (if t620.toList = t622.toList then (almanaclaw02_DevPlays.j4 kj71 0 0 l1 (l1.length : Int) x36_2 (t621 != t623) x535000_2 x535001_2 x535002_2 x535003_2 x536000_2 x536001_2 x536002_2 x536003_2) else (almanaclaw02_DevPlays.j4 kj71 0 0 l1 (l1.length : Int) x36_2 true x535000_2 x535001_2 x535002_2 x535003_2 x536000_2 x536001_2 x536002_2 x536003_2)) = some r := H
                  have A207 := Aside0.mk A2070
                  clear A2070
                  have HC208 := Aside0.mk H
                  clear H
                  have hnb209 := NB540_534.out
                  have hnc209 := NB534_540.out
                  have hnb210 := NB540_535.out
                  have hnc210 := NB535_540.out
                  obtain ⟨hcz211_0, hcz211_1, hcz211_2, hcz211_3, hfz211_0, hfz211_1, hfz211_2, hfz211_3⟩ := k4 BK540
                  have hnb212 := NB534_535.out
                  have hnc212 := NB535_534.out
                  obtain ⟨hcz213_0, hcz213_1, hcz213_2, hcz213_3, hfz213_0, hfz213_1, hfz213_2, hfz213_3⟩ := k4 BK534
                  obtain ⟨Ao214, co214, eo214⟩ := Kd.R_slice HO_535000.out
                  subst eo214
                  obtain ⟨Ao215, co215, eo215⟩ := Kd.R_slice HO_535001.out
                  subst eo215
                  go_upto_region 16 with (first | ((with_reducible refine gate_callee (f := 15) rfl ?_); refine goesL_ (some 68) rfl rfl Try.func15 (by kernel_rfl) rfl #[.agg #[.slice Ao214 x535000_2.length co214, .slice Ao215 x535001_2.length co215, .int .i64 x535002_2, .bool x535003_2], .int .i64 ((rd_T45 l1 x36_2).f1)] rfl (by (try simp only [List.map_toArray, List.map_cons, List.map_nil]); first | done | rfl | (simp only [List.length_drop, List.length_take]; rfl)) ?_; (with_reducible refine (dev_Read.calls _ _ x535000_2 _ _ x535001_2 x535002_2 x535003_2 ((rd_T45 l1 x36_2).f1) t620 t621 _ ?side1 ?side2 ?side3 ?side4 A206.out).mono ?_); (case side1 => exact cU (Kd.R_reads' HO_535000.out).2.2); (case side2 => exact (Kd.R_reads' HO_535000.out).2.1); (case side3 => exact cU (Kd.R_reads' HO_535001.out).2.2); (case side4 => exact (Kd.R_reads' HO_535001.out).2.1); rintro e w216 ⟨rfl, hb⟩; refine ⟨_, rfl, ?_⟩; have n0_ := Aside0.mk (Kd.R_below (rU HO_535000) hb); have n1_ := Aside0.mk (Kd.R_below (rU HO_535001) hb); have n2_ := Aside0.mk (Kd.R_below (rU HO_536000) hb); have n3_ := Aside0.mk (Kd.R_below (rU HO_536001) hb); have n4_ := Aside0.mk (blk_below (g := gb534) (o := .cells #[.slice Ao214 x535000_2.length co214, .slice Ao215 x535001_2.length co215, .int .i64 x535002_2, .bool x535003_2] 25 (0, 0)) (by (with_reducible repeat (first | refine blk_drewN ?_ _ | refine blk_drew ?_ | refine blk_alloc ?_ _)); exact BK534.out) hb); have n5_ := Aside0.mk (blk_below (g := gb535) (o := .cells #[u536000, u536001, .int .i64 x536002_2, .bool x536003_2] 25 (0, 0)) (by (with_reducible repeat (first | refine blk_drewN ?_ _ | refine blk_drew ?_ | refine blk_alloc ?_ _)); exact BK535.out) hb); have n6_ := Aside0.mk (blk_below (g := gb540) (o := .cells #[.int .i64 ((rd_T45 l1 x36_2).f0), .int .i64 ((rd_T45 l1 x36_2).f1), .string ((rd_T45 l1 x36_2).f2), .slice A539_3 ((rd_T45 l1 x36_2).f3).length c539_3] 45 (0, 0)) (by (with_reducible repeat (first | refine blk_drewN ?_ _ | refine blk_drew ?_ | refine blk_alloc ?_ _)); exact BK540.out) hb); have n7_ := Aside0.mk (below_step (bU HB) hb); clear HO_535000; clear HO_535001; clear HO_536000; clear HO_536001; clear BK534; clear BK535; clear BK540; clear HB; have HO_535000 := n0_; have HO_535001 := n1_; have HO_536000 := n2_; have HO_536001 := n3_; have BK534 := n4_; have BK535 := n5_; have BK540 := n6_; have HB := n7_; clear n0_ n1_ n2_ n3_ n4_ n5_ n6_ n7_; (try clear hb); (try clear hb2); (try clear hk); (try clear hi); have hcz217_0 : w216.cell? ⟨gb535, 0, none⟩ = some (u536000) := (blk_cell BK535.out 0).trans rfl; have hcz217_1 : w216.cell? ⟨gb535, 1, none⟩ = some (u536001) := (blk_cell BK535.out 1).trans rfl; have hcz217_2 : w216.cell? ⟨gb535, 2, none⟩ = some (.int .i64 x536002_2) := (blk_cell BK535.out 2).trans rfl; have hcz217_3 : w216.cell? ⟨gb535, 3, none⟩ = some (.bool x536003_2) := (blk_cell BK535.out 3).trans rfl; have hfz217_0 := blk_frozen BK535.out 0; have hfz217_1 := blk_frozen BK535.out 1; have hfz217_2 := blk_frozen BK535.out 2; have hfz217_3 := blk_frozen BK535.out 3; have hcz218_0 : w216.cell? ⟨gb540, 0, none⟩ = some (.int .i64 ((rd_T45 l1 x36_2).f0)) := (blk_cell BK540.out 0).trans rfl; have hcz218_1 : w216.cell? ⟨gb540, 1, none⟩ = some (.int .i64 ((rd_T45 l1 x36_2).f1)) := (blk_cell BK540.out 1).trans rfl; have hcz218_2 : w216.cell? ⟨gb540, 2, none⟩ = some (.string ((rd_T45 l1 x36_2).f2)) := (blk_cell BK540.out 2).trans rfl; have hcz218_3 : w216.cell? ⟨gb540, 3, none⟩ = some (.slice A539_3 ((rd_T45 l1 x36_2).f3).length c539_3) := (blk_cell BK540.out 3).trans rfl; have hfz218_0 := blk_frozen BK540.out 0; have hfz218_1 := blk_frozen BK540.out 1; have hfz218_2 := blk_frozen BK540.out 2; have hfz218_3 := blk_frozen BK540.out 3; obtain ⟨Ao219, co219, eo219⟩ := Kd.R_slice HO_536000.out; subst eo219; obtain ⟨Ao220, co220, eo220⟩ := Kd.R_slice HO_536001.out; subst eo220) | ((with_reducible refine gate_callee (f := 25) rfl ?_); refine goesL_ (some 75) rfl rfl Try.func25 (by kernel_rfl) rfl #[.agg #[.slice Ao219 x536000_2.length co219, .slice Ao220 x536001_2.length co220, .int .i64 x536002_2, .bool x536003_2], .int .i64 ((rd_T45 l1 x36_2).f1)] rfl (by (try simp only [List.map_toArray, List.map_cons, List.map_nil]); first | done | rfl | (simp only [List.length_drop, List.length_take]; rfl)) ?_; (with_reducible refine (almanacref02_Read.calls kj71 _ _ x536000_2 _ _ x536001_2 x536002_2 x536003_2 ((rd_T45 l1 x36_2).f1) t622 t623 _ ?side1 ?side2 ?side3 ?side4 A207.out).mono ?_); (case side1 => exact cU (Kd.R_reads' HO_536000.out).2.2); (case side2 => exact (Kd.R_reads' HO_536000.out).2.1); (case side3 => exact cU (Kd.R_reads' HO_536001.out).2.2); (case side4 => exact (Kd.R_reads' HO_536001.out).2.1); rintro e w221 ⟨rfl, hb⟩; refine ⟨_, rfl, ?_⟩; have n0_ := Aside0.mk (Kd.R_below (rU HO_535000) hb); have n1_ := Aside0.mk (Kd.R_below (rU HO_535001) hb); have n2_ := Aside0.mk (Kd.R_below (rU HO_536000) hb); have n3_ := Aside0.mk (Kd.R_below (rU HO_536001) hb); have n4_ := Aside0.mk (blk_below (g := gb534) (o := .cells #[.slice Ao214 x535000_2.length co214, .slice Ao215 x535001_2.length co215, .int .i64 x535002_2, .bool x535003_2] 25 (0, 0)) (by (with_reducible repeat (first | refine blk_drewN ?_ _ | refine blk_drew ?_ | refine blk_alloc ?_ _)); exact BK534.out) hb); have n5_ := Aside0.mk (blk_below (g := gb535) (o := .cells #[.slice Ao219 x536000_2.length co219, .slice Ao220 x536001_2.length co220, .int .i64 x536002_2, .bool x536003_2] 25 (0, 0)) (by (with_reducible repeat (first | refine blk_drewN ?_ _ | refine blk_drew ?_ | refine blk_alloc ?_ _)); exact BK535.out) hb); have n6_ := Aside0.mk (blk_below (g := gb540) (o := .cells #[.int .i64 ((rd_T45 l1 x36_2).f0), .int .i64 ((rd_T45 l1 x36_2).f1), .string ((rd_T45 l1 x36_2).f2), .slice A539_3 ((rd_T45 l1 x36_2).f3).length c539_3] 45 (0, 0)) (by (with_reducible repeat (first | refine blk_drewN ?_ _ | refine blk_drew ?_ | refine blk_alloc ?_ _)); exact BK540.out) hb); have n7_ := Aside0.mk (below_step (bU HB) hb); clear HO_535000; clear HO_535001; clear HO_536000; clear HO_536001; clear BK534; clear BK535; clear BK540; clear HB; have HO_535000 := n0_; have HO_535001 := n1_; have HO_536000 := n2_; have HO_536001 := n3_; have BK534 := n4_; have BK535 := n5_; have BK540 := n6_; have HB := n7_; clear n0_ n1_ n2_ n3_ n4_ n5_ n6_ n7_; (try clear hb); (try clear hb2); (try clear hk); (try clear hi)))
                  (try simp only [Act.put, List.setIfInBounds_toArray, List.set_cons_zero, List.set_cons_succ])
                  go_cut [85] (fun v85 wc => ∃ (kq : Nat) (x85_207 : Bool), v85 = .bool x85_207 ∧ Aside0 (almanaclaw02_DevPlays.j4 kq 0 0 l1 (l1.length : Int) x36_2 x85_207 x535000_2 x535001_2 x535002_2 x535003_2 x536000_2 x536001_2 x536002_2 x536003_2 = some r) ∧ Aside0 (kq ≤ kj71) ∧ Aside0 (Kd.R Kd.string 9 wc w.heap.size (fun k_ => some k_ ≠ ((.slice Ao219 x536000_2.length co219) : Value).ownBlock) (.slice Ao214 x535000_2.length co214) x535000_2) ∧ Aside0 (Kd.R k40 40 wc w.heap.size (fun k_ => some k_ ≠ ((.slice Ao220 x536001_2.length co220) : Value).ownBlock) (.slice Ao215 x535001_2.length co215) x535001_2) ∧ Aside0 (Kd.R Kd.string 9 wc w.heap.size (fun k_ => some k_ ≠ ((.slice Ao214 x535000_2.length co214) : Value).ownBlock) (.slice Ao219 x536000_2.length co219) x536000_2) ∧ Aside0 (Kd.R k40 40 wc w.heap.size (fun k_ => some k_ ≠ ((.slice Ao215 x535001_2.length co215) : Value).ownBlock) (.slice Ao220 x536001_2.length co220) x536001_2) ∧ Aside0 (wc.heap[gb534]? = some (.cells #[(.slice Ao214 x535000_2.length co214), (.slice Ao215 x535001_2.length co215), .int .i64 x535002_2, .bool x535003_2] 25 (0, 0))) ∧ Aside0 (wc.heap[gb535]? = some (.cells #[(.slice Ao219 x536000_2.length co219), (.slice Ao220 x536001_2.length co220), .int .i64 x536002_2, .bool x536003_2] 25 (0, 0))) ∧ Aside0 (wc.heap[gb540]? = some (.cells #[.int .i64 ((rd_T45 l1 x36_2).f0), .int .i64 ((rd_T45 l1 x36_2).f1), .string ((rd_T45 l1 x36_2).f2), (.slice A539_3 ((rd_T45 l1 x36_2).f3).length c539_3)] 45 (0, 0))) ∧ Aside0 (Below w.heap.size w wc))
                  case first =>
                   have H := HC208.out
                   clear HC208
                   by_cases c222 : t620.toList = t622.toList
                   ·rw [if_pos c222] at H
                    have c222b0 : (t620.toList == t622.toList) = true := beq_iff_eq.mpr c222
                    have c222b1 : (t620.toList != t622.toList) = false := bne_eq_false_iff_eq.mpr c222
                    clear c222
                    (first | rw [c222b0] | (simp only [i64_w, i32_w]; rw [c222b0]) | skip)
                    have H' := Aside0.mk H
                    clear H
                    go_wp2
                    go_meet
                    case rel => exact ⟨_, ((t621 != t623)), (by first | rfl | (simp; done) | (simp [*]; done)), H', ⟨by have := HJ4.out; have := HK2.out; have := HJ34.out; have := HJ71.out; first | omega | exact Nat.le_refl _⟩, ⟨rU HO_535000⟩, ⟨rU HO_535001⟩, ⟨rU HO_536000⟩, ⟨rU HO_536001⟩, ⟨by (with_reducible repeat (first | refine blk_drewN ?_ _ | refine blk_drew ?_ | refine blk_alloc ?_ _)); exact BK534.out⟩, ⟨by (with_reducible repeat (first | refine blk_drewN ?_ _ | refine blk_drew ?_ | refine blk_alloc ?_ _)); exact BK535.out⟩, ⟨by (with_reducible repeat (first | refine blk_drewN ?_ _ | refine blk_drew ?_ | refine blk_alloc ?_ _)); exact BK540.out⟩, ⟨bU HB⟩⟩
                   ·rw [if_neg c222] at H
                    have c222b0 : (t620.toList == t622.toList) = false := beq_eq_false_iff_ne.mpr c222
                    have c222b1 : (t620.toList != t622.toList) = true := bne_iff_ne.mpr c222
                    (first | rw [c222b0] | (simp only [i64_w, i32_w]; rw [c222b0]) | skip)
                    have H' := Aside0.mk H
                    clear H
                    go_wp2
                    go_meet
                    case rel => exact ⟨_, (true), (by first | rfl | (simp; done) | (simp [*]; done)), H', ⟨by have := HJ4.out; have := HK2.out; have := HJ34.out; have := HJ71.out; first | omega | exact Nat.le_refl _⟩, ⟨rU HO_535000⟩, ⟨rU HO_535001⟩, ⟨rU HO_536000⟩, ⟨rU HO_536001⟩, ⟨by (with_reducible repeat (first | refine blk_drewN ?_ _ | refine blk_drew ?_ | refine blk_alloc ?_ _)); exact BK534.out⟩, ⟨by (with_reducible repeat (first | refine blk_drewN ?_ _ | refine blk_drew ?_ | refine blk_alloc ?_ _)); exact BK535.out⟩, ⟨by (with_reducible repeat (first | refine blk_drewN ?_ _ | refine blk_drew ?_ | refine blk_alloc ?_ _)); exact BK540.out⟩, ⟨bU HB⟩⟩
                  case rest =>
                   clear HC208
                   try clear c1
                   try clear c2
                   try clear p2
                   try clear c5
                   try clear p6
                   try clear c12
                   try clear c14
                   try clear c15
                   try clear c17
                   try clear c18
                   try clear c20
                   try clear c21
                   try clear c22
                   try clear c23
                   try clear c24
                   try clear c25
                   try clear c53
                   try clear p64
                   try clear c142
                   try clear c142b0
                   try clear c142b1
                   try clear c145
                   try clear c145b0
                   try clear c145b1
                   try clear c147
                   try clear c170
                   try clear c174
                   try clear c174b0
                   try clear c174b1
                   try clear c177
                   try clear c177b0
                   try clear c177b1
                   try clear c179
                   try clear c180
                   try clear c181
                   try clear c202
                   try clear c209
                   try clear c210
                   try clear c212
                   try clear c222
                   try clear c222b0
                   try clear c222b1
                   try clear hcz171_0 hcz171_1 hcz171_2 hcz171_3 hfz171_0 hfz171_1 hfz171_2 hfz171_3
                   try clear hcz172_0 hcz172_1 hcz172_2 hcz172_3 hfz172_0 hfz172_1 hfz172_2 hfz172_3
                   try clear hcz182_0 hcz182_1 hcz182_2 hcz182_3 hfz182_0 hfz182_1 hfz182_2 hfz182_3
                   try clear hcz203_0 hcz203_1 hcz203_2 hcz203_3 hfz203_0 hfz203_1 hfz203_2 hfz203_3
                   try clear hcz204_0 hcz204_1 hcz204_2 hcz204_3 hfz204_0 hfz204_1 hfz204_2 hfz204_3
                   try clear hcz211_0 hcz211_1 hcz211_2 hcz211_3 hfz211_0 hfz211_1 hfz211_2 hfz211_3
                   try clear hcz213_0 hcz213_1 hcz213_2 hcz213_3 hfz213_0 hfz213_1 hfz213_2 hfz213_3
                   try clear hcz217_0 hcz217_1 hcz217_2 hcz217_3 hfz217_0 hfz217_1 hfz217_2 hfz217_3
                   try clear hcz218_0 hcz218_1 hcz218_2 hcz218_3 hfz218_0 hfz218_1 hfz218_2 hfz218_3
                   obtain ⟨kq, x85_207, rfl, HA, HJ207, HO_535000, HO_535001, HO_536000, HO_536001, BK534, BK535, BK540, HB⟩ := hcut
                   cases kq with
                   | zero => exact absurd HA.out (by simp [almanaclaw02_DevPlays.j4])
                   | succ kj207 =>
                    have H := HA.out
                    clear HA
                    simp only [almanaclaw02_DevPlays.j4] at H
                    by_cases c223 : x85_207 = true
                    ·subst c223
                     have H1 : (some false) = some r := by rw [if_pos rfl] at H; exact H
                     clear H
                     have H := H1
                     clear H1
                     exact absurd ((Option.some.inj H).trans HRT.out) (by decide)
                    ·replace c223 := Bool.eq_false_iff.mpr c223
                     subst c223
                     have H1 : (if 0 = 0 then ((almanacref02_Same.f kj207 x535000_2 x535001_2 x535002_2 x535003_2 x536000_2 x536001_2 x536002_2 x536003_2).bind fun t624 => (if t624 = true then (almanaclaw02_DevPlays.l0 kj207 l1 (l1.length : Int) (wrap64 (x36_2 + 1)) x535000_2 x535001_2 x535002_2 x535003_2 x536000_2 x536001_2 x536002_2 x536003_2) else (some false))) else (some false)) = some r := by rw [if_neg (show ¬ (false = true) by decide)] at H; exact H
                     clear H
                     have H := H1
                     clear H1
                     by_cases c224 : 0 = 0
                     ·rw [if_pos c224] at H
                      have c224b0 : (0 == 0) = true := beq_iff_eq.mpr c224
                      have c224b1 : (0 != 0) = false := bne_eq_false_iff_eq.mpr c224
                      clear c224
                      replace H := Option.bind_eq_some_iff.mp H
                      obtain ⟨t624, A2250, H⟩ := H
                      replace H : (if t624 = true then (almanaclaw02_DevPlays.l0 kj207 l1 (l1.length : Int) (wrap64 (x36_2 + 1)) x535000_2 x535001_2 x535002_2 x535003_2 x536000_2 x536001_2 x536002_2 x536003_2) else (some false)) = some r := H
                      have A225 := Aside0.mk A2250
                      clear A2250
                      by_cases c226 : t624 = true
                      ·subst c226
                       have H1 : (almanaclaw02_DevPlays.l0 kj207 l1 (l1.length : Int) (wrap64 (x36_2 + 1)) x535000_2 x535001_2 x535002_2 x535003_2 x536000_2 x536001_2 x536002_2 x536003_2) = some r := by rw [if_pos rfl] at H; exact H
                       clear H
                       have H := H1
                       clear H1
                       have H' := Aside0.mk H
                       clear H
                       have hnb227 := NB534_535.out
                       have hnc227 := NB535_534.out
                       have hnb228 := NB534_540.out
                       have hnc228 := NB540_534.out
                       obtain ⟨hcz229_0, hcz229_1, hcz229_2, hcz229_3, hfz229_0, hfz229_1, hfz229_2, hfz229_3⟩ := k4 BK534
                       have hnb230 := NB535_540.out
                       have hnc230 := NB540_535.out
                       obtain ⟨hcz231_0, hcz231_1, hcz231_2, hcz231_3, hfz231_0, hfz231_1, hfz231_2, hfz231_3⟩ := k4 BK535
                       go_wp2_with (first | (go_at_call 14; (with_reducible refine (almanacref02_Same.calls kj207 _ _ x535000_2 _ _ x535001_2 x535002_2 x535003_2 _ _ x536000_2 _ _ x536001_2 x536002_2 x536003_2 true _ ?side1 ?side2 ?side3 ?side4 ?side5 ?side6 ?side7 ?side8 A225.out).mono ?_); (case side1 => exact cU (Kd.R_reads' HO_535000.out).2.2); (case side2 => exact (Kd.R_reads' HO_535000.out).2.1); (case side3 => exact cU (Kd.R_reads' HO_535001.out).2.2); (case side4 => exact (Kd.R_reads' HO_535001.out).2.1); (case side5 => exact cU (Kd.R_reads' HO_536000.out).2.2); (case side6 => exact (Kd.R_reads' HO_536000.out).2.1); (case side7 => exact cU (Kd.R_reads' HO_536001.out).2.2); (case side8 => exact (Kd.R_reads' HO_536001.out).2.1); rintro e w232 ⟨rfl, hb⟩; have n0_ := Aside0.mk (Kd.R_below (rU HO_535000) hb); have n1_ := Aside0.mk (Kd.R_below (rU HO_535001) hb); have n2_ := Aside0.mk (Kd.R_below (rU HO_536000) hb); have n3_ := Aside0.mk (Kd.R_below (rU HO_536001) hb); have n4_ := Aside0.mk (blk_below (g := gb534) (o := .cells #[.slice Ao214 x535000_2.length co214, .slice Ao215 x535001_2.length co215, .int .i64 x535002_2, .bool x535003_2] 25 (0, 0)) (by (with_reducible repeat (first | refine blk_drewN ?_ _ | refine blk_drew ?_ | refine blk_alloc ?_ _)); exact BK534.out) hb); have n5_ := Aside0.mk (blk_below (g := gb535) (o := .cells #[.slice Ao219 x536000_2.length co219, .slice Ao220 x536001_2.length co220, .int .i64 x536002_2, .bool x536003_2] 25 (0, 0)) (by (with_reducible repeat (first | refine blk_drewN ?_ _ | refine blk_drew ?_ | refine blk_alloc ?_ _)); exact BK535.out) hb); have n6_ := Aside0.mk (blk_below (g := gb540) (o := .cells #[.int .i64 ((rd_T45 l1 x36_2).f0), .int .i64 ((rd_T45 l1 x36_2).f1), .string ((rd_T45 l1 x36_2).f2), .slice A539_3 ((rd_T45 l1 x36_2).f3).length c539_3] 45 (0, 0)) (by (with_reducible repeat (first | refine blk_drewN ?_ _ | refine blk_drew ?_ | refine blk_alloc ?_ _)); exact BK540.out) hb); have n7_ := Aside0.mk (below_step (bU HB) hb); clear HO_535000; clear HO_535001; clear HO_536000; clear HO_536001; clear BK534; clear BK535; clear BK540; clear HB; have HO_535000 := n0_; have HO_535001 := n1_; have HO_536000 := n2_; have HO_536001 := n3_; have BK534 := n4_; have BK535 := n5_; have BK540 := n6_; have HB := n7_; clear n0_ n1_ n2_ n3_ n4_ n5_ n6_ n7_; (try clear hb); (try clear hb2); (try clear hk); (try clear hi)))
                       go_roundg kj207
                       case measure => have := HJ4.out; have := HK2.out; have := HJ34.out; have := HJ71.out; have := HJ207.out; omega
                       case rel => exact ⟨(wrap64 (x36_2 + 1)), (x535000_2), (x535001_2), (x535002_2), (x535003_2), (x536000_2), (x536001_2), (x536002_2), (x536003_2), (.slice Ao214 x535000_2.length co214), (.slice Ao215 x535001_2.length co215), (.slice Ao219 x536000_2.length co219), (.slice Ao220 x536001_2.length co220), (by first | rfl | (simp; done) | (simp [*]; done)), H', ⟨by have := HJ4.out; have := HK2.out; have := HJ34.out; have := HJ71.out; have := HJ207.out; omega⟩, ⟨rU HO_535000⟩, ⟨rU HO_535001⟩, ⟨rU HO_536000⟩, ⟨rU HO_536001⟩, ⟨by (with_reducible repeat (first | refine blk_drewN ?_ _ | refine blk_drew ?_ | refine blk_alloc ?_ _)); exact BK534.out⟩, ⟨by (with_reducible repeat (first | refine blk_drewN ?_ _ | refine blk_drew ?_ | refine blk_alloc ?_ _)); exact BK535.out⟩, ⟨bU HB⟩⟩
                      ·replace c226 := Bool.eq_false_iff.mpr c226
                       subst c226
                       have H1 : (some false) = some r := by rw [if_neg (show ¬ (false = true) by decide)] at H; exact H
                       clear H
                       have H := H1
                       clear H1
                       exact absurd ((Option.some.inj H).trans HRT.out) (by decide)
                     ·rw [if_neg c224] at H
                      have c224b0 : (0 == 0) = false := beq_eq_false_iff_ne.mpr c224
                      have c224b1 : (0 != 0) = true := bne_iff_ne.mpr c224
                      exact absurd ((Option.some.inj H).trans HRT.out) (by decide)
        ·rw [if_neg c34] at H
         exact absurd H (by simp)
       ·rw [if_neg c33] at H
        exact absurd H (by simp)
      ·rw [if_neg c32] at H
       have c32b0 : decide (x36_2 < (l1.length : Int)) = false := decide_eq_false c32
       clear c32
       replace H := Option.bind_eq_some_iff.mp H
       obtain ⟨t538, A2330, H⟩ := H
       replace H : (some t538) = some r := H
       have A233 := Aside0.mk A2330
       clear A2330
       obtain rfl := Option.some.inj H
       go_wp2_with (first | ((with_reducible refine gate_callee (f := 8) rfl ?_); refine goesL_ (some 150) rfl rfl Try.func8 (by kernel_rfl) rfl #[] rfl (by (try simp only [List.map_toArray, List.map_cons, List.map_nil]); first | done | rfl | (simp only [List.length_drop, List.length_take]; rfl)) ?_; (with_reducible refine (almanaclaw02_awake.calls k2  t538 _ A233.out).mono ?_); rintro e w234 ⟨rfl, hb⟩; refine ⟨_, rfl, ?_⟩; have n0_ := Aside0.mk (Kd.R_below (rU HO_535000) hb); have n1_ := Aside0.mk (Kd.R_below (rU HO_535001) hb); have n2_ := Aside0.mk (Kd.R_below (rU HO_536000) hb); have n3_ := Aside0.mk (Kd.R_below (rU HO_536001) hb); have n4_ := Aside0.mk (blk_below (g := gb534) (o := .cells #[u535000, u535001, .int .i64 x535002_2, .bool x535003_2] 25 (0, 0)) (by (with_reducible repeat (first | refine blk_drewN ?_ _ | refine blk_drew ?_ | refine blk_alloc ?_ _)); exact BK534.out) hb); have n5_ := Aside0.mk (blk_below (g := gb535) (o := .cells #[u536000, u536001, .int .i64 x536002_2, .bool x536003_2] 25 (0, 0)) (by (with_reducible repeat (first | refine blk_drewN ?_ _ | refine blk_drew ?_ | refine blk_alloc ?_ _)); exact BK535.out) hb); have n6_ := Aside0.mk (below_step (bU HB) hb); clear HO_535000; clear HO_535001; clear HO_536000; clear HO_536001; clear BK534; clear BK535; clear HB; have HO_535000 := n0_; have HO_535001 := n1_; have HO_536000 := n2_; have HO_536001 := n3_; have BK534 := n4_; have BK535 := n5_; have HB := n6_; clear n0_ n1_ n2_ n3_ n4_ n5_ n6_; (try clear hb); (try clear hb2); (try clear hk); (try clear hi)))
       go_ret
       exact ⟨eqU, bU HB⟩

end Go.Proofs.Ytaocplhijfkicaa.PD
/- Plain lemmas on loops that go through a list. -/
namespace Go.Proofs.Ytaocplhijfkicaa.PD
open Go.RowKit Go.Proofs.YtaocplhijfkicaaW.PrintWords Go.Proofs.YtaocplhijfkicaaW.PrintLast Go.Proofs.YtaocplhijfkicaaW.PrintMore
def allFrom (p : Nat → Bool) : Nat → Nat → Bool
  | _, 0 => true
  | i, d + 1 => p i && allFrom p (i + 1) d
theorem allFrom_congr {p q : Nat → Bool} : ∀ (d i : Nat), (∀ j, i ≤ j → j < i + d → p j = q j) → allFrom p i d = allFrom q i d
  | 0, _, _ => rfl
  | d + 1, i, h => by
    simp only [allFrom]
    rw [h i (Nat.le_refl _) (by omega), allFrom_congr d (i + 1) (fun j h1 h2 => h j (by omega) (by omega))]
theorem allFrom_true (i d : Nat) : allFrom (fun _ => true) i d = true := by
  induction d generalizing i with
  | zero => rfl
  | succ d ih => simp only [allFrom, ih, Bool.and_self]
theorem allFrom_and (p q : Nat → Bool) : ∀ (d i : Nat), allFrom (fun j => p j && q j) i d = (allFrom p i d && allFrom q i d)
  | 0, _ => rfl
  | d + 1, i => by
    simp only [allFrom, allFrom_and p q d (i + 1)]
    cases p i <;> cases q i <;> simp
theorem allFrom_iff (p : Nat → Bool) : ∀ (d i : Nat), allFrom p i d = true ↔ ∀ j, i ≤ j → j < i + d → p j = true
  | 0, i => by simp [allFrom]; intro j h1 h2; omega
  | d + 1, i => by
    simp only [allFrom, Bool.and_eq_true, allFrom_iff p d (i + 1)]
    constructor
    · rintro ⟨h, h'⟩ j h1 h2
      rcases Nat.eq_or_lt_of_le h1 with rfl | h3
      · exact h
      · exact h' j h3 (by omega)
    · intro h
      exact ⟨h i (Nat.le_refl _) (by omega), fun j h1 h2 => h j (by omega) (by omega)⟩
theorem allFrom_list {α : Type} (q : α → Bool) (z : α) (l : List α) : allFrom (fun j => q (l.getD j z)) 0 l.length = l.all q := by
  rw [Bool.eq_iff_iff, allFrom_iff, List.all_eq_true]
  constructor
  · intro h x hx
    obtain ⟨j, hj, rfl⟩ := List.getElem_of_mem hx
    have := h j (Nat.zero_le _) (by omega)
    rwa [List.getD_eq_getElem?_getD, List.getElem?_eq_getElem hj] at this
  · intro h j _ hj
    have hj' : j < l.length := by omega
    simp only [List.getD_eq_getElem?_getD, List.getElem?_eq_getElem hj', Option.getD_some]
    exact h _ (List.getElem_mem hj')
/-- A loop that ends at the first place at which p fails. -/
theorem all_loop {β : Type} (L : Nat → Int → Option β) (n : Nat) (p : Nat → Bool) (bad : β) (Fin : Nat → Option β)
    (h1 : ∀ k i, i < n → p i = true → L (k + 1) (i : Nat) = L k ((i + 1 : Nat) : Int)) (h2 : ∀ k i, i < n → p i = false → L (k + 1) (i : Nat) = some bad) (h3 : ∀ k, L (k + 1) (n : Nat) = Fin k) :
    ∀ (d k i : Nat), i + d = n → d < k → L k (i : Nat) = if allFrom p i d = true then Fin (k - 1 - d) else some bad
  | 0, k, i, hi, hk => by
    obtain ⟨k, rfl⟩ : ∃ m, k = m + 1 := ⟨k - 1, by omega⟩
    obtain rfl : i = n := by omega
    rw [h3]; simp [allFrom]
  | d + 1, k, i, hi, hk => by
    obtain ⟨k, rfl⟩ : ∃ m, k = m + 1 := ⟨k - 1, by omega⟩
    cases hp : p i with
    | true =>
      rw [h1 k i (by omega) hp, all_loop L n p bad Fin h1 h2 h3 d k (i + 1) (by omega) (by omega)]
      simp only [allFrom, hp, Bool.true_and]
      rw [show k + 1 - 1 - (d + 1) = k - 1 - d by omega]
    | false =>
      rw [h2 k i (by omega) hp]
      simp [allFrom, hp]
/-- A loop that looks for the first place at which p holds. -/
theorem find_loop (L : Nat → Int → Option Int) (n : Nat) (p : Nat → Bool)
    (h1 : ∀ k i, i < n → p i = false → L (k + 1) (i : Nat) = L k ((i + 1 : Nat) : Int)) (h2 : ∀ k i, i < n → p i = true → L (k + 1) (i : Nat) = some (i : Int)) (h3 : ∀ k, L (k + 1) (n : Nat) = some (-1)) :
    ∀ (d k i : Nat), i + d = n → d < k → ∃ r : Int, L k (i : Nat) = some r ∧ decide (r ≥ 0) = !allFrom (fun j => !p j) i d
  | 0, k, i, hi, hk => by
    obtain ⟨k, rfl⟩ : ∃ m, k = m + 1 := ⟨k - 1, by omega⟩
    obtain rfl : i = n := by omega
    exact ⟨-1, h3 k, by simp [allFrom]⟩
  | d + 1, k, i, hi, hk => by
    obtain ⟨k, rfl⟩ : ∃ m, k = m + 1 := ⟨k - 1, by omega⟩
    cases hp : p i with
    | false =>
      obtain ⟨r, hr, h⟩ := find_loop L n p h1 h2 h3 d k (i + 1) (by omega) (by omega)
      exact ⟨r, by rw [h1 k i (by omega) hp, hr], by rw [h]; simp [allFrom, hp]⟩
    | true => exact ⟨i, h2 k i (by omega) hp, by simp [allFrom, hp]⟩
theorem wrapN {i n : Nat} (h : i < n) (hn : n ≤ 9223372036854775807) : wrap64 ((i : Int) + 1) = ((i + 1 : Nat) : Int) := by unfold wrap64; omega
theorem rdS (l : List ByteArray) (i : Nat) : rdOf ByteArray.empty l (i : Int) = l.getD i ByteArray.empty := by unfold rdOf; rw [Int.toNat_natCast]
theorem rdW (l : List S40) (i : Nat) : rd_T40 l (i : Int) = l.getD i z40 := by unfold rd_T40; rw [Int.toNat_natCast]
end Go.Proofs.Ytaocplhijfkicaa.PD
/- What it means that a device is fit, by the reference. -/
namespace Go.Proofs.Ytaocplhijfkicaa.PD
open Go.RowKit Go.Proofs.YtaocplhijfkicaaW.PrintWords Go.Proofs.YtaocplhijfkicaaW.PrintLast Go.Proofs.YtaocplhijfkicaaW.PrintMore
def fitB (bl : List ByteArray) (ca : List S40) (left : Int) (dead : Bool) : Bool := decide (0 < bl.length) && decide (bl.length ≤ 1024) && decide (ca.length ≤ 4096) && decide (-1 ≤ left) && (!dead || left == 0) && allFrom (fun j => (bl.getD j ByteArray.empty).size == 128) 0 bl.length && allFrom (fun j => decide (0 ≤ (ca.getD j z40).f0) && decide ((ca.getD j z40).f0 < bl.length) && (ca.getD j z40).f1.size == 128) 0 ca.length
theorem rfit_l1 (bl : List ByteArray) (ca : List S40) (hc : ca.length ≤ 9223372036854775807) (left : Int) (dead : Bool) (k : Nat) (hk : ca.length < k) :
    almanacref02_Fit.l1 k 0 bl ca left dead = some (allFrom (fun j => decide (0 ≤ (ca.getD j z40).f0) && decide ((ca.getD j z40).f0 < bl.length) && (ca.getD j z40).f1.size == 128) 0 ca.length) := by
  have h := all_loop (fun k i => almanacref02_Fit.l1 k i bl ca left dead) ca.length (fun j => decide (0 ≤ (ca.getD j z40).f0) && decide ((ca.getD j z40).f0 < bl.length) && (ca.getD j z40).f1.size == 128) false (fun _ => some true)
    (fun k i hi hp => by
      simp only [Bool.and_eq_true, decide_eq_true_eq, beq_iff_eq] at hp
      simp only [almanacref02_Fit.l1, rdW]
      rw [if_pos (by omega), if_pos (by omega), if_neg (by omega), if_neg (by omega), if_pos (by omega), wrapN hi hc])
    (fun k i hi hp => by
      simp only [Bool.and_eq_false_iff, decide_eq_false_iff_not, beq_eq_false_iff_ne, ne_eq] at hp
      simp only [almanacref02_Fit.l1, rdW]
      rw [if_pos (by omega), if_pos (by omega)]
      split
      · rfl
      · split
        · rfl
        · split
          · exfalso; omega
          · rfl)
    (fun k => by simp only [almanacref02_Fit.l1]; rw [if_neg (by omega)])
    ca.length k 0 (by omega) hk
  rw [show ((0 : Nat) : Int) = 0 from rfl] at h
  rw [h]
  split
  · rename_i h'; rw [h']
  · rename_i h'; rw [Bool.not_eq_true] at h'; rw [h']
theorem rfit_l0 (bl : List ByteArray) (ca : List S40) (hb : bl.length ≤ 9223372036854775807) (hc : ca.length ≤ 9223372036854775807) (left : Int) (dead : Bool) (k : Nat) (hk : bl.length + ca.length + 1 < k) :
    almanacref02_Fit.l0 k 0 bl ca left dead = some (allFrom (fun j => (bl.getD j ByteArray.empty).size == 128) 0 bl.length && allFrom (fun j => decide (0 ≤ (ca.getD j z40).f0) && decide ((ca.getD j z40).f0 < bl.length) && (ca.getD j z40).f1.size == 128) 0 ca.length) := by
  have h := all_loop (fun k i => almanacref02_Fit.l0 k i bl ca left dead) bl.length (fun j => (bl.getD j ByteArray.empty).size == 128) false (fun k => almanacref02_Fit.l1 k 0 bl ca left dead)
    (fun k i hi hp => by
      simp only [beq_iff_eq] at hp
      simp only [almanacref02_Fit.l0, rdS]
      rw [if_pos (by omega), if_pos (by omega), if_pos (by omega), wrapN hi hb])
    (fun k i hi hp => by
      simp only [beq_eq_false_iff_ne, ne_eq] at hp
      simp only [almanacref02_Fit.l0, rdS]
      rw [if_pos (by omega), if_pos (by omega), if_neg (by omega)])
    (fun k => by simp only [almanacref02_Fit.l0]; rw [if_neg (by omega)])
    bl.length k 0 (by omega) (by omega)
  rw [show ((0 : Nat) : Int) = 0 from rfl] at h
  rw [h]
  split
  · rename_i h'; rw [h', rfit_l1 bl ca hc left dead _ (by omega)]; rfl
  · rename_i h'; rw [Bool.not_eq_true] at h'; rw [h']; rfl
theorem rfit_f (bl : List ByteArray) (ca : List S40) (hb : bl.length ≤ 9223372036854775807) (hc : ca.length ≤ 9223372036854775807) (left : Int) (dead : Bool) (k : Nat) (hk : bl.length + ca.length + 2 < k) :
    almanacref02_Fit.f k bl ca left dead = some (fitB bl ca left dead) := by
  obtain ⟨k, rfl⟩ : ∃ m, k = m + 1 := ⟨k - 1, by omega⟩
  unfold almanacref02_Fit.f
  simp only [almanacref02_Fit.j0, if_true]
  rw [rfit_l0 bl ca hb hc left dead k (by omega)]
  unfold fitB
  generalize allFrom (fun j => (bl.getD j ByteArray.empty).size == 128) 0 bl.length = A
  generalize allFrom (fun j => decide (0 ≤ (ca.getD j z40).f0) && decide ((ca.getD j z40).f0 < bl.length) && (ca.getD j z40).f1.size == 128) 0 ca.length = B
  by_cases h1 : 0 < bl.length
  · rw [if_neg (by omega)]
    by_cases h2 : bl.length ≤ 1024
    · rw [if_neg (by omega)]
      by_cases h3 : ca.length ≤ 4096
      · rw [if_neg (by omega)]
        by_cases h4 : -1 ≤ left
        · rw [if_neg (by omega)]
          cases dead with
          | true =>
            by_cases h5 : left = 0
            · subst h5; simp [h1, h2, h3]
            · simp [h1, h2, h3, h4, h5]
          | false => simp [h1, h2, h3, h4]
        · rw [if_pos (by omega)]; simp [h4]
      · rw [if_pos (by omega)]; simp [h3]
    · rw [if_pos (by omega)]; simp [h2]
  · rw [if_pos (by omega)]; simp [h1]
end Go.Proofs.Ytaocplhijfkicaa.PD
/- A copy of a device reads as the device; the program is awake. -/
namespace Go.Proofs.Ytaocplhijfkicaa.PD
open Go.RowKit Go.Proofs.YtaocplhijfkicaaW.PrintWords Go.Proofs.YtaocplhijfkicaaW.PrintLast Go.Proofs.YtaocplhijfkicaaW.PrintMore
theorem copy_f (a : List ByteArray) (ca : List S40) (l : Int) (d : Bool) (h0 : a.length < 8796093022208) (h1 : ca.length < 5864062014805) : almanacref02_Copy.f a ca l d = some (a, ca, l, d) := by
  unfold almanacref02_Copy.f
  rw [if_pos (by simpa using h0), if_pos (by simpa using h1)]
  simp
theorem awake_any (k : Nat) (hk : 10 ≤ k) : almanaclaw02_awake.f k = some true := at_rounds (fun k => almanaclaw02_awake.mono k) hk awake_val
end Go.Proofs.Ytaocplhijfkicaa.PD
/- What a flush leaves, in plain words: each block is what a read at it told before; and the rounds of a write. -/
namespace Go.Proofs.Ytaocplhijfkicaa.PD
open Go.RowKit Go.Proofs.YtaocplhijfkicaaW.PrintWords Go.Proofs.YtaocplhijfkicaaW.PrintLast Go.Proofs.YtaocplhijfkicaaW.PrintMore
theorem doneL_len (p : Nat → Bool) : ∀ (ca : List S40) (n : Nat) (bl : List ByteArray), (doneL p n bl ca).length = bl.length
  | [], _, _ => rfl
  | w :: r, n, bl => by
    simp only [doneL]
    rw [doneL_len p r]
    split <;> simp
/-- Each block behind the writes is what it was, or what a write at it holds. -/
theorem doneL_get (p : Nat → Bool) : ∀ (ca : List S40) (n : Nat) (bl : List ByteArray) (j : Nat), j < bl.length →
    (doneL p n bl ca).getD j ByteArray.empty = bl.getD j ByteArray.empty ∨ ∃ w ∈ ca, w.f0.toNat = j ∧ (doneL p n bl ca).getD j ByteArray.empty = w.f1
  | [], _, _, _, _ => .inl rfl
  | w :: r, n, bl, j, hj => by
    simp only [doneL]
    rcases doneL_get p r (n + 1) (if p n then bl.set w.f0.toNat w.f1 else bl) j (by split <;> simpa using hj) with h | ⟨x, hx, h1, h2⟩
    · rw [h]
      by_cases hp : p n = true
      · rw [if_pos hp]
        by_cases hw : w.f0.toNat = j
        · subst hw
          exact .inr ⟨w, List.mem_cons_self, rfl, by rw [List.getD_eq_getElem?_getD, List.getElem?_set_self hj]; rfl⟩
        · refine .inl ?_
          rw [List.getD_eq_getElem?_getD, List.getD_eq_getElem?_getD, List.getElem?_set_ne hw]
      · rw [if_neg hp]; exact .inl rfl
    · exact .inr ⟨x, List.mem_cons_of_mem _ hx, h1, h2⟩
/-- Where every write counts, each block behind them is what a read tells. -/
theorem doneL_latest (p : Nat → Bool) (j : Nat) : ∀ (ca : List S40) (n : Nat) (bl : List ByteArray), j < bl.length → (∀ i, n ≤ i → i < n + ca.length → p i = true) → (∀ w ∈ ca, 0 ≤ w.f0) →
    (doneL p n bl ca).getD j ByteArray.empty = ((ca.reverse.find? fun w => w.f0 == (j : Int)).map (·.f1)).getD (bl.getD j ⟨#[]⟩)
  | [], _, _, _, _, _ => rfl
  | w :: r, n, bl, hj, hp, h0 => by
    simp only [doneL]
    rw [if_pos (hp n (Nat.le_refl _) (by simp)), doneL_latest p j r (n + 1) _ (by simpa using hj) (fun i h1 h2 => hp i (by omega) (by simp; omega)) (fun x hx => h0 x (List.mem_cons_of_mem _ hx)), List.reverse_cons, List.find?_append]
    have hw := h0 w List.mem_cons_self
    cases hf : r.reverse.find? (fun w => w.f0 == (j : Int)) with
    | some x => rfl
    | none =>
      by_cases he : w.f0 = (j : Int)
      · have : w.f0.toNat = j := by omega
        have hb : (w.f0 == (j : Int)) = true := by simpa only [beq_iff_eq] using he
        simp only [List.find?, hb, Option.none_or, Option.map_some, Option.map_none, Option.getD_some, Option.getD_none]
        rw [this, List.getD_eq_getElem?_getD, List.getElem?_set_self hj]
        rfl
      · have : w.f0.toNat ≠ j := by omega
        have hb : (w.f0 == (j : Int)) = false := by simpa only [beq_eq_false_iff_ne, ne_eq] using he
        simp only [List.find?, hb, Option.none_or, Option.map_none, Option.getD_none]
        rw [List.getD_eq_getElem?_getD, List.getD_eq_getElem?_getD, List.getElem?_set_ne this]
theorem latest_nat (bl : List ByteArray) (ca : List S40) (j : Nat) : latestOf bl ca (j : Int) = ((ca.reverse.find? fun w => w.f0 == (j : Int)).map (·.f1)).getD (bl.getD j ⟨#[]⟩) := by unfold latestOf; rw [Int.toNat_natCast]
theorem fitW_of (p : Nat → Bool) (m : Nat) : ∀ (ca : List S40) (n : Nat), (∀ w ∈ ca, 0 ≤ w.f0 ∧ w.f0 < m) → fitW p m n ca = true
  | [], _, _ => rfl
  | w :: r, n, h => by
    simp only [fitW, fitW_of p m r (n + 1) (fun x hx => h x (List.mem_cons_of_mem _ hx)), Bool.and_true, Bool.or_eq_true, Bool.and_eq_true, decide_eq_true_eq]
    exact .inr (h w List.mem_cons_self)
/-- What a fit device is. -/
theorem fitB_iff {bl : List ByteArray} {ca : List S40} {left : Int} {dead : Bool} (h : fitB bl ca left dead = true) :
    0 < bl.length ∧ bl.length ≤ 1024 ∧ ca.length ≤ 4096 ∧ -1 ≤ left ∧ (∀ j, j < bl.length → (bl.getD j ByteArray.empty).size = 128) ∧ ∀ w ∈ ca, (0 ≤ w.f0 ∧ w.f0 < bl.length) ∧ w.f1.size = 128 := by
  unfold fitB at h
  simp only [Bool.and_eq_true, decide_eq_true_eq, allFrom_iff, beq_iff_eq] at h
  obtain ⟨⟨⟨⟨⟨⟨h1, h2⟩, h3⟩, h4⟩, _⟩, h5⟩, h6⟩ := h
  refine ⟨h1, h2, h3, h4, fun j hj => h5 j (Nat.zero_le _) (by omega), fun w hw => ?_⟩
  obtain ⟨i, hi, rfl⟩ := List.getElem_of_mem hw
  have := h6 i (Nat.zero_le _) (by omega)
  rw [List.getD_eq_getElem?_getD, List.getElem?_eq_getElem hi] at this
  simpa using this
theorem fitB_dead {bl : List ByteArray} {ca : List S40} {left : Int} {dead : Bool} (h : fitB bl ca left dead = true) (hd : dead = true) : left = 0 := by
  unfold fitB at h
  simp only [Bool.and_eq_true] at h
  obtain ⟨⟨⟨_, h5⟩, _⟩, _⟩ := h
  subst hd
  simpa using h5
theorem fitB_of {bl : List ByteArray} {ca : List S40} {left : Int} {dead : Bool} (h1 : 0 < bl.length) (h2 : bl.length ≤ 1024) (h3 : ca.length ≤ 4096) (h4 : -1 ≤ left) (h5 : dead = true → left = 0) (h6 : ∀ j, j < bl.length → (bl.getD j ByteArray.empty).size = 128)
    (h7 : ∀ w ∈ ca, (0 ≤ w.f0 ∧ w.f0 < bl.length) ∧ w.f1.size = 128) : fitB bl ca left dead = true := by
  unfold fitB
  simp only [Bool.and_eq_true, decide_eq_true_eq, allFrom_iff, beq_iff_eq]
  refine ⟨⟨⟨⟨⟨⟨h1, h2⟩, h3⟩, h4⟩, ?_⟩, fun j _ hj => h6 j (by omega)⟩, fun j _ hj => ?_⟩
  · cases dead
    · rfl
    · simp [h5 rfl]
  · rw [List.getD_eq_getElem?_getD, List.getElem?_eq_getElem (show j < ca.length by omega)]
    exact h7 _ (List.getElem_mem _)
end Go.Proofs.Ytaocplhijfkicaa.PD
