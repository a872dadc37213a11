/- The law ItipMakes holds of every calendar and every two texts: whatever the input, the call returns true, and its arguments read as they did. -/
import Derived.Test.YtebmbfobmakheaaItipMakes5
import Derived.Test.YtebmbfobmakheaaItipMakes2
import Derived.Test.YtebmbfobmakheaaItipMakes1
import Derived.Test.YtebmbfobmakheaaItipMakes3
import Derived.Test.YtebmbfobmakheaaItipMakes4
namespace Go.Proofs.Ytebmbfobmakheaa.PD
open Go.RowKit Go.Proofs.YtebmbfobmakheaaW.PrintWords Go.Proofs.YtebmbfobmakheaaW.PrintLast Go.Proofs.YtebmbfobmakheaaW.PrintMore
attribute [local go_sem] isSome_setCell max2_int min2_int max_two min_two max_three min_three max_four min_four
set_option linter.unusedVariables false
set_option linter.unusedSimpArgs false
def almanaclaw26_ItipMakes.f (k : Nat) (a0_0 : ByteArray) (l0_1 : List (S45)) (l0_2 : List (S25)) (a1 : ByteArray) (a2 : ByteArray) : Option (Bool) := (almanacref12_Light.f k a0_0 l0_1 l0_2).bind fun t522 => (if t522 = true then ((itip_Message.f k a0_0 l0_1 l0_2 a2).bind fun bt524 => ((almanacref26_Message.f k a0_0 l0_1 l0_2 a2).bind fun bt531 => ((almanacref12_Same.f k bt524.1 bt524.2.1 bt524.2.2 bt531.1 bt531.2.1 bt531.2.2).bind fun t538 => (if t538 = true then ((itip_Only.f k a0_0 l0_1 l0_2 a1).bind fun bt539 => ((almanacref26_Only.f k a0_0 l0_1 l0_2 a1).bind fun bt546 => ((almanacref12_Same.f k bt539.1 bt539.2.1 bt539.2.2 bt546.1 bt546.2.1 bt546.2.2).bind fun t553 => (if t553 = true then ((itip_Status.f k a0_0 l0_1 l0_2 a1).bind fun t554 => ((almanacref26_Status.f k a0_0 l0_1 l0_2 a1).bind fun t555 => (if t554.toList = t555.toList then ((itip_SetStatus.f k a0_0 l0_1 l0_2 a1 a2).bind fun bt556 => ((almanacref26_SetStatus.f k a0_0 l0_1 l0_2 a1 a2).bind fun bt563 => ((almanacref12_Same.f k bt556.1 bt556.2.1 bt556.2.2 bt563.1 bt563.2.1 bt563.2.2).bind fun t570 => (if t570 = true then ((itip_Delivered.f k a0_0 l0_1 l0_2 a1 a2).bind fun bt571 => ((almanacref26_Delivered.f k a0_0 l0_1 l0_2 a1 a2).bind fun bt578 => ((almanacref12_Same.f k bt571.1 bt571.2.1 bt571.2.2 bt578.1 bt578.2.1 bt578.2.2).bind fun t585 => (if t585 = true then ((itip_Cancelled.f k a0_0 l0_1 l0_2).bind fun bt586 => ((almanacref26_Cancelled.f k a0_0 l0_1 l0_2).bind fun bt593 => ((almanacref12_Same.f k bt586.1 bt586.2.1 bt586.2.2 bt593.1 bt593.2.1 bt593.2.2).bind fun t600 => (if t600 = true then ((almanaclaw26_awake.f).bind fun t601 => (some t601)) else (some false))))) else (some false))))) else (some false))))) else (some false)))) else (some false))))) else (some false))))) else ((almanaclaw26_awake.f).bind fun t523 => (some t523)))
def almanaclaw26_ItipMakes.T3 : Bool × List (List Nat × List Nat) := (true, [([], []), ([], []), ([0, 1], [0, 1]), ([], []), ([], []), ([3, 4, 2], [3, 4]), ([2, 5, 5], [2, 5]), ([6, 6], [6]), ([7], [7]), ([7], [7]), ([8, 9, 7, 7], [7, 8, 9]), ([7], [7]), ([7], [7]), ([11, 12, 10, 7], [7, 11, 12]), ([10, 13, 13, 7], [7, 10, 13]), ([7, 14], [7, 14]), ([15, 14], [15]), ([16], [16]), ([16], [16]), ([17, 18, 16, 16], [16, 17, 18]), ([16], [16]), ([16], [16]), ([20, 21, 19, 16], [16, 20, 21]), ([19, 22, 16], [16, 19, 22]), ([16, 23], [16, 23]), ([24, 22], [24]), ([25], [25]), ([25], [25]), ([25], [25]), ([26, 27, 28, 25, 25], [25, 26, 27, 28]), ([25], [25]), ([25], [25]), ([25], [25]), ([30, 31, 32, 29, 25], [25, 30, 31, 32]), ([29, 33, 33, 25], [25, 29, 33]), ([25, 34], [25, 34]), ([35, 34], [35]), ([36], [36]), ([36], [36]), ([36], [36]), ([37, 38, 39, 36, 36], [36, 37, 38, 39]), ([36], [36]), ([36], [36]), ([36], [36]), ([41, 42, 43, 40, 36], [36, 41, 42, 43]), ([40, 44, 44, 36], [36, 40, 44]), ([36, 45], [36, 45]), ([46, 45], [46]), ([47], [47]), ([48, 47, 47], [47, 48]), ([47], [47]), ([50, 49, 47], [47, 50]), ([49, 51, 51, 47], [47, 49, 51]), ([47, 52], [47, 52]), ([53, 52], [53]), ([54, 54], [54]), ([54, 55], [54, 55]), ([56, 55, 0, 1, 2, 3, 4, 5, 6, 7, 8, 9, 10, 11, 12, 13, 14, 15, 16, 17, 18, 19, 20, 21, 22, 23, 24, 25, 26, 27, 28, 29, 30, 31, 32, 33, 34, 35, 36, 37, 38, 39, 40, 41, 42, 43, 44, 45, 46, 47, 48, 49, 50, 51, 52, 53, 54, 55, 56], [56])])
def almanaclaw26_ItipMakes.B3 : List Nat := [0, 0, 3, 0, 0, 31, 63, 127, 255, 255, 1023, 255, 255, 8191, 16383, 32767, 65535, 131071, 131071, 524287, 131071, 131071, 4194303, 8388607, 16777215, 33554431, 67108863, 67108863, 67108863, 536870911, 67108863, 67108863, 67108863, 8589934591, 17179869183, 34359738367, 68719476735, 137438953471, 137438953471, 137438953471, 1099511627775, 137438953471, 137438953471, 137438953471, 17592186044415, 35184372088831, 70368744177663, 140737488355327, 281474976710655, 562949953421311, 281474976710655, 2251799813685247, 4503599627370495, 9007199254740991, 18014398509481983, 36028797018963967, 72057594037927935, 144115188075855871]
theorem almanaclaw26_ItipMakes.tab3 : rtab .any (opsOf Try.f5 3) = almanaclaw26_ItipMakes.T3 := by kernel_rfl
theorem almanaclaw26_ItipMakes.bits3 : waitsOk almanaclaw26_ItipMakes.T3.2 almanaclaw26_ItipMakes.B3 = true := by kernel_rfl
set_option maxHeartbeats 8000000 in
set_option maxRecDepth 100000 in
theorem almanaclaw26_ItipMakes.callsT (k : Nat) (a0_0 : ByteArray) (A0_1 : Option Addr) (c0_1 : Nat) (l0_1 : List (S45)) (A0_2 : Option Addr) (c0_2 : Nat) (l0_2 : List (S25)) (a1 : ByteArray) (a2 : ByteArray) (r : Bool) (w : World) (hr0_1 : Kd.C k45 w A0_1 l0_1.length l0_1) (hc0_1 : l0_1.length ≤ c0_1) (hr0_2 : Kd.C k25 w A0_2 l0_2.length l0_2) (hc0_2 : l0_2.length ≤ c0_2) (h : almanaclaw26_ItipMakes.f k a0_0 l0_1 l0_2 a1 a2 = some r) (hr : r = true) :
  Calls Try.prog 5 #[.agg #[.string a0_0, .slice A0_1 l0_1.length c0_1, .slice A0_2 l0_2.length c0_2], .string a1, .string a2] w fun e w' => e = .returned (.bool r) ∧ Below w.heap.size w w' := by
 have HRT := Aside0.mk hr
 clear hr
 have hu25 := Try.underlying25
 have HR0_1 := Aside0.mk hr0_1
 have HC0_1 := Aside0.mk hc0_1
 clear hr0_1 hc0_1
 have HR0_2 := Aside0.mk hr0_2
 have HC0_2 := Aside0.mk hc0_2
 clear hr0_2 hc0_2
 have HB := Aside0.mk (Below.refl w.heap.size w)
 have H : ((almanacref12_Light.f k a0_0 l0_1 l0_2).bind fun t522 => (if t522 = true then ((itip_Message.f k a0_0 l0_1 l0_2 a2).bind fun bt524 => ((almanacref26_Message.f k a0_0 l0_1 l0_2 a2).bind fun bt531 => ((almanacref12_Same.f k bt524.1 bt524.2.1 bt524.2.2 bt531.1 bt531.2.1 bt531.2.2).bind fun t538 => (if t538 = true then ((itip_Only.f k a0_0 l0_1 l0_2 a1).bind fun bt539 => ((almanacref26_Only.f k a0_0 l0_1 l0_2 a1).bind fun bt546 => ((almanacref12_Same.f k bt539.1 bt539.2.1 bt539.2.2 bt546.1 bt546.2.1 bt546.2.2).bind fun t553 => (if t553 = true then ((itip_Status.f k a0_0 l0_1 l0_2 a1).bind fun t554 => ((almanacref26_Status.f k a0_0 l0_1 l0_2 a1).bind fun t555 => (if t554.toList = t555.toList then ((itip_SetStatus.f k a0_0 l0_1 l0_2 a1 a2).bind fun bt556 => ((almanacref26_SetStatus.f k a0_0 l0_1 l0_2 a1 a2).bind fun bt563 => ((almanacref12_Same.f k bt556.1 bt556.2.1 bt556.2.2 bt563.1 bt563.2.1 bt563.2.2).bind fun t570 => (if t570 = true then ((itip_Delivered.f k a0_0 l0_1 l0_2 a1 a2).bind fun bt571 => ((almanacref26_Delivered.f k a0_0 l0_1 l0_2 a1 a2).bind fun bt578 => ((almanacref12_Same.f k bt571.1 bt571.2.1 bt571.2.2 bt578.1 bt578.2.1 bt578.2.2).bind fun t585 => (if t585 = true then ((itip_Cancelled.f k a0_0 l0_1 l0_2).bind fun bt586 => ((almanacref26_Cancelled.f k a0_0 l0_1 l0_2).bind fun bt593 => ((almanacref12_Same.f k bt586.1 bt586.2.1 bt586.2.2 bt593.1 bt593.2.1 bt593.2.2).bind fun t600 => (if t600 = true then ((almanaclaw26_awake.f).bind fun t601 => (some t601)) else (some false))))) else (some false))))) else (some false))))) else (some false)))) else (some false))))) else (some false))))) else ((almanaclaw26_awake.f).bind fun t523 => (some t523)))) = some r := h
 clear h
 replace H := Option.bind_eq_some_iff.mp H
 obtain ⟨t522, A40, H⟩ := H
 replace H : (if t522 = true then ((itip_Message.f k a0_0 l0_1 l0_2 a2).bind fun bt524 => ((almanacref26_Message.f k a0_0 l0_1 l0_2 a2).bind fun bt531 => ((almanacref12_Same.f k bt524.1 bt524.2.1 bt524.2.2 bt531.1 bt531.2.1 bt531.2.2).bind fun t538 => (if t538 = true then ((itip_Only.f k a0_0 l0_1 l0_2 a1).bind fun bt539 => ((almanacref26_Only.f k a0_0 l0_1 l0_2 a1).bind fun bt546 => ((almanacref12_Same.f k bt539.1 bt539.2.1 bt539.2.2 bt546.1 bt546.2.1 bt546.2.2).bind fun t553 => (if t553 = true then ((itip_Status.f k a0_0 l0_1 l0_2 a1).bind fun t554 => ((almanacref26_Status.f k a0_0 l0_1 l0_2 a1).bind fun t555 => (if t554.toList = t555.toList then ((itip_SetStatus.f k a0_0 l0_1 l0_2 a1 a2).bind fun bt556 => ((almanacref26_SetStatus.f k a0_0 l0_1 l0_2 a1 a2).bind fun bt563 => ((almanacref12_Same.f k bt556.1 bt556.2.1 bt556.2.2 bt563.1 bt563.2.1 bt563.2.2).bind fun t570 => (if t570 = true then ((itip_Delivered.f k a0_0 l0_1 l0_2 a1 a2).bind fun bt571 => ((almanacref26_Delivered.f k a0_0 l0_1 l0_2 a1 a2).bind fun bt578 => ((almanacref12_Same.f k bt571.1 bt571.2.1 bt571.2.2 bt578.1 bt578.2.1 bt578.2.2).bind fun t585 => (if t585 = true then ((itip_Cancelled.f k a0_0 l0_1 l0_2).bind fun bt586 => ((almanacref26_Cancelled.f k a0_0 l0_1 l0_2).bind fun bt593 => ((almanacref12_Same.f k bt586.1 bt586.2.1 bt586.2.2 bt593.1 bt593.2.1 bt593.2.2).bind fun t600 => (if t600 = true then ((almanaclaw26_awake.f).bind fun t601 => (some t601)) else (some false))))) else (some false))))) else (some false))))) else (some false)))) else (some false))))) else (some false))))) else ((almanaclaw26_awake.f).bind fun t523 => (some t523))) = some r := H
 have A4 := Aside0.mk A40
 clear A40
 by_cases c5 : t522 = true
 ·subst c5
  have H1 : ((itip_Message.f k a0_0 l0_1 l0_2 a2).bind fun bt524 => ((almanacref26_Message.f k a0_0 l0_1 l0_2 a2).bind fun bt531 => ((almanacref12_Same.f k bt524.1 bt524.2.1 bt524.2.2 bt531.1 bt531.2.1 bt531.2.2).bind fun t538 => (if t538 = true then ((itip_Only.f k a0_0 l0_1 l0_2 a1).bind fun bt539 => ((almanacref26_Only.f k a0_0 l0_1 l0_2 a1).bind fun bt546 => ((almanacref12_Same.f k bt539.1 bt539.2.1 bt539.2.2 bt546.1 bt546.2.1 bt546.2.2).bind fun t553 => (if t553 = true then ((itip_Status.f k a0_0 l0_1 l0_2 a1).bind fun t554 => ((almanacref26_Status.f k a0_0 l0_1 l0_2 a1).bind fun t555 => (if t554.toList = t555.toList then ((itip_SetStatus.f k a0_0 l0_1 l0_2 a1 a2).bind fun bt556 => ((almanacref26_SetStatus.f k a0_0 l0_1 l0_2 a1 a2).bind fun bt563 => ((almanacref12_Same.f k bt556.1 bt556.2.1 bt556.2.2 bt563.1 bt563.2.1 bt563.2.2).bind fun t570 => (if t570 = true then ((itip_Delivered.f k a0_0 l0_1 l0_2 a1 a2).bind fun bt571 => ((almanacref26_Delivered.f k a0_0 l0_1 l0_2 a1 a2).bind fun bt578 => ((almanacref12_Same.f k bt571.1 bt571.2.1 bt571.2.2 bt578.1 bt578.2.1 bt578.2.2).bind fun t585 => (if t585 = true then ((itip_Cancelled.f k a0_0 l0_1 l0_2).bind fun bt586 => ((almanacref26_Cancelled.f k a0_0 l0_1 l0_2).bind fun bt593 => ((almanacref12_Same.f k bt586.1 bt586.2.1 bt586.2.2 bt593.1 bt593.2.1 bt593.2.2).bind fun t600 => (if t600 = true then ((almanaclaw26_awake.f).bind fun t601 => (some t601)) else (some false))))) else (some false))))) else (some false))))) else (some false)))) else (some false))))) else (some false))))) = some r := by rw [if_pos rfl] at H; exact H
  clear H
  have H := H1
  clear H1
  replace H := Option.bind_eq_some_iff.mp H
  obtain ⟨⟨t524, t525, t528⟩, A60, H⟩ := H
  replace H : ((almanacref26_Message.f k a0_0 l0_1 l0_2 a2).bind fun bt531 => ((almanacref12_Same.f k t524 t525 t528 bt531.1 bt531.2.1 bt531.2.2).bind fun t538 => (if t538 = true then ((itip_Only.f k a0_0 l0_1 l0_2 a1).bind fun bt539 => ((almanacref26_Only.f k a0_0 l0_1 l0_2 a1).bind fun bt546 => ((almanacref12_Same.f k bt539.1 bt539.2.1 bt539.2.2 bt546.1 bt546.2.1 bt546.2.2).bind fun t553 => (if t553 = true then ((itip_Status.f k a0_0 l0_1 l0_2 a1).bind fun t554 => ((almanacref26_Status.f k a0_0 l0_1 l0_2 a1).bind fun t555 => (if t554.toList = t555.toList then ((itip_SetStatus.f k a0_0 l0_1 l0_2 a1 a2).bind fun bt556 => ((almanacref26_SetStatus.f k a0_0 l0_1 l0_2 a1 a2).bind fun bt563 => ((almanacref12_Same.f k bt556.1 bt556.2.1 bt556.2.2 bt563.1 bt563.2.1 bt563.2.2).bind fun t570 => (if t570 = true then ((itip_Delivered.f k a0_0 l0_1 l0_2 a1 a2).bind fun bt571 => ((almanacref26_Delivered.f k a0_0 l0_1 l0_2 a1 a2).bind fun bt578 => ((almanacref12_Same.f k bt571.1 bt571.2.1 bt571.2.2 bt578.1 bt578.2.1 bt578.2.2).bind fun t585 => (if t585 = true then ((itip_Cancelled.f k a0_0 l0_1 l0_2).bind fun bt586 => ((almanacref26_Cancelled.f k a0_0 l0_1 l0_2).bind fun bt593 => ((almanacref12_Same.f k bt586.1 bt586.2.1 bt586.2.2 bt593.1 bt593.2.1 bt593.2.2).bind fun t600 => (if t600 = true then ((almanaclaw26_awake.f).bind fun t601 => (some t601)) else (some false))))) else (some false))))) else (some false))))) else (some false)))) else (some false))))) else (some false)))) = some r := H
  have A6 := Aside0.mk A60
  clear A60
  replace H := Option.bind_eq_some_iff.mp H
  obtain ⟨⟨t531, t532, t535⟩, A70, H⟩ := H
  replace H : ((almanacref12_Same.f k t524 t525 t528 t531 t532 t535).bind fun t538 => (if t538 = true then ((itip_Only.f k a0_0 l0_1 l0_2 a1).bind fun bt539 => ((almanacref26_Only.f k a0_0 l0_1 l0_2 a1).bind fun bt546 => ((almanacref12_Same.f k bt539.1 bt539.2.1 bt539.2.2 bt546.1 bt546.2.1 bt546.2.2).bind fun t553 => (if t553 = true then ((itip_Status.f k a0_0 l0_1 l0_2 a1).bind fun t554 => ((almanacref26_Status.f k a0_0 l0_1 l0_2 a1).bind fun t555 => (if t554.toList = t555.toList then ((itip_SetStatus.f k a0_0 l0_1 l0_2 a1 a2).bind fun bt556 => ((almanacref26_SetStatus.f k a0_0 l0_1 l0_2 a1 a2).bind fun bt563 => ((almanacref12_Same.f k bt556.1 bt556.2.1 bt556.2.2 bt563.1 bt563.2.1 bt563.2.2).bind fun t570 => (if t570 = true then ((itip_Delivered.f k a0_0 l0_1 l0_2 a1 a2).bind fun bt571 => ((almanacref26_Delivered.f k a0_0 l0_1 l0_2 a1 a2).bind fun bt578 => ((almanacref12_Same.f k bt571.1 bt571.2.1 bt571.2.2 bt578.1 bt578.2.1 bt578.2.2).bind fun t585 => (if t585 = true then ((itip_Cancelled.f k a0_0 l0_1 l0_2).bind fun bt586 => ((almanacref26_Cancelled.f k a0_0 l0_1 l0_2).bind fun bt593 => ((almanacref12_Same.f k bt586.1 bt586.2.1 bt586.2.2 bt593.1 bt593.2.1 bt593.2.2).bind fun t600 => (if t600 = true then ((almanaclaw26_awake.f).bind fun t601 => (some t601)) else (some false))))) else (some false))))) else (some false))))) else (some false)))) else (some false))))) else (some false))) = some r := H
  have A7 := Aside0.mk A70
  clear A70
  replace H := Option.bind_eq_some_iff.mp H
  obtain ⟨t538, A80, H⟩ := H
  replace H : (if t538 = true then ((itip_Only.f k a0_0 l0_1 l0_2 a1).bind fun bt539 => ((almanacref26_Only.f k a0_0 l0_1 l0_2 a1).bind fun bt546 => ((almanacref12_Same.f k bt539.1 bt539.2.1 bt539.2.2 bt546.1 bt546.2.1 bt546.2.2).bind fun t553 => (if t553 = true then ((itip_Status.f k a0_0 l0_1 l0_2 a1).bind fun t554 => ((almanacref26_Status.f k a0_0 l0_1 l0_2 a1).bind fun t555 => (if t554.toList = t555.toList then ((itip_SetStatus.f k a0_0 l0_1 l0_2 a1 a2).bind fun bt556 => ((almanacref26_SetStatus.f k a0_0 l0_1 l0_2 a1 a2).bind fun bt563 => ((almanacref12_Same.f k bt556.1 bt556.2.1 bt556.2.2 bt563.1 bt563.2.1 bt563.2.2).bind fun t570 => (if t570 = true then ((itip_Delivered.f k a0_0 l0_1 l0_2 a1 a2).bind fun bt571 => ((almanacref26_Delivered.f k a0_0 l0_1 l0_2 a1 a2).bind fun bt578 => ((almanacref12_Same.f k bt571.1 bt571.2.1 bt571.2.2 bt578.1 bt578.2.1 bt578.2.2).bind fun t585 => (if t585 = true then ((itip_Cancelled.f k a0_0 l0_1 l0_2).bind fun bt586 => ((almanacref26_Cancelled.f k a0_0 l0_1 l0_2).bind fun bt593 => ((almanacref12_Same.f k bt586.1 bt586.2.1 bt586.2.2 bt593.1 bt593.2.1 bt593.2.2).bind fun t600 => (if t600 = true then ((almanaclaw26_awake.f).bind fun t601 => (some t601)) else (some false))))) else (some false))))) else (some false))))) else (some false)))) else (some false))))) else (some false)) = some r := H
  have A8 := Aside0.mk A80
  clear A80
  by_cases c9 : t538 = true
  ·subst c9
   have H1 : ((itip_Only.f k a0_0 l0_1 l0_2 a1).bind fun bt539 => ((almanacref26_Only.f k a0_0 l0_1 l0_2 a1).bind fun bt546 => ((almanacref12_Same.f k bt539.1 bt539.2.1 bt539.2.2 bt546.1 bt546.2.1 bt546.2.2).bind fun t553 => (if t553 = true then ((itip_Status.f k a0_0 l0_1 l0_2 a1).bind fun t554 => ((almanacref26_Status.f k a0_0 l0_1 l0_2 a1).bind fun t555 => (if t554.toList = t555.toList then ((itip_SetStatus.f k a0_0 l0_1 l0_2 a1 a2).bind fun bt556 => ((almanacref26_SetStatus.f k a0_0 l0_1 l0_2 a1 a2).bind fun bt563 => ((almanacref12_Same.f k bt556.1 bt556.2.1 bt556.2.2 bt563.1 bt563.2.1 bt563.2.2).bind fun t570 => (if t570 = true then ((itip_Delivered.f k a0_0 l0_1 l0_2 a1 a2).bind fun bt571 => ((almanacref26_Delivered.f k a0_0 l0_1 l0_2 a1 a2).bind fun bt578 => ((almanacref12_Same.f k bt571.1 bt571.2.1 bt571.2.2 bt578.1 bt578.2.1 bt578.2.2).bind fun t585 => (if t585 = true then ((itip_Cancelled.f k a0_0 l0_1 l0_2).bind fun bt586 => ((almanacref26_Cancelled.f k a0_0 l0_1 l0_2).bind fun bt593 => ((almanacref12_Same.f k bt586.1 bt586.2.1 bt586.2.2 bt593.1 bt593.2.1 bt593.2.2).bind fun t600 => (if t600 = true then ((almanaclaw26_awake.f).bind fun t601 => (some t601)) else (some false))))) else (some false))))) else (some false))))) else (some false)))) else (some false))))) = some r := by rw [if_pos rfl] at H; exact H
   clear H
   have H := H1
   clear H1
   replace H := Option.bind_eq_some_iff.mp H
   obtain ⟨⟨t539, t540, t543⟩, A100, H⟩ := H
   replace H : ((almanacref26_Only.f k a0_0 l0_1 l0_2 a1).bind fun bt546 => ((almanacref12_Same.f k t539 t540 t543 bt546.1 bt546.2.1 bt546.2.2).bind fun t553 => (if t553 = true then ((itip_Status.f k a0_0 l0_1 l0_2 a1).bind fun t554 => ((almanacref26_Status.f k a0_0 l0_1 l0_2 a1).bind fun t555 => (if t554.toList = t555.toList then ((itip_SetStatus.f k a0_0 l0_1 l0_2 a1 a2).bind fun bt556 => ((almanacref26_SetStatus.f k a0_0 l0_1 l0_2 a1 a2).bind fun bt563 => ((almanacref12_Same.f k bt556.1 bt556.2.1 bt556.2.2 bt563.1 bt563.2.1 bt563.2.2).bind fun t570 => (if t570 = true then ((itip_Delivered.f k a0_0 l0_1 l0_2 a1 a2).bind fun bt571 => ((almanacref26_Delivered.f k a0_0 l0_1 l0_2 a1 a2).bind fun bt578 => ((almanacref12_Same.f k bt571.1 bt571.2.1 bt571.2.2 bt578.1 bt578.2.1 bt578.2.2).bind fun t585 => (if t585 = true then ((itip_Cancelled.f k a0_0 l0_1 l0_2).bind fun bt586 => ((almanacref26_Cancelled.f k a0_0 l0_1 l0_2).bind fun bt593 => ((almanacref12_Same.f k bt586.1 bt586.2.1 bt586.2.2 bt593.1 bt593.2.1 bt593.2.2).bind fun t600 => (if t600 = true then ((almanaclaw26_awake.f).bind fun t601 => (some t601)) else (some false))))) else (some false))))) else (some false))))) else (some false)))) else (some false)))) = some r := H
   have A10 := Aside0.mk A100
   clear A100
   replace H := Option.bind_eq_some_iff.mp H
   obtain ⟨⟨t546, t547, t550⟩, A110, H⟩ := H
   replace H : ((almanacref12_Same.f k t539 t540 t543 t546 t547 t550).bind fun t553 => (if t553 = true then ((itip_Status.f k a0_0 l0_1 l0_2 a1).bind fun t554 => ((almanacref26_Status.f k a0_0 l0_1 l0_2 a1).bind fun t555 => (if t554.toList = t555.toList then ((itip_SetStatus.f k a0_0 l0_1 l0_2 a1 a2).bind fun bt556 => ((almanacref26_SetStatus.f k a0_0 l0_1 l0_2 a1 a2).bind fun bt563 => ((almanacref12_Same.f k bt556.1 bt556.2.1 bt556.2.2 bt563.1 bt563.2.1 bt563.2.2).bind fun t570 => (if t570 = true then ((itip_Delivered.f k a0_0 l0_1 l0_2 a1 a2).bind fun bt571 => ((almanacref26_Delivered.f k a0_0 l0_1 l0_2 a1 a2).bind fun bt578 => ((almanacref12_Same.f k bt571.1 bt571.2.1 bt571.2.2 bt578.1 bt578.2.1 bt578.2.2).bind fun t585 => (if t585 = true then ((itip_Cancelled.f k a0_0 l0_1 l0_2).bind fun bt586 => ((almanacref26_Cancelled.f k a0_0 l0_1 l0_2).bind fun bt593 => ((almanacref12_Same.f k bt586.1 bt586.2.1 bt586.2.2 bt593.1 bt593.2.1 bt593.2.2).bind fun t600 => (if t600 = true then ((almanaclaw26_awake.f).bind fun t601 => (some t601)) else (some false))))) else (some false))))) else (some false))))) else (some false)))) else (some false))) = some r := H
   have A11 := Aside0.mk A110
   clear A110
   replace H := Option.bind_eq_some_iff.mp H
   obtain ⟨t553, A120, H⟩ := H
   replace H : (if t553 = true then ((itip_Status.f k a0_0 l0_1 l0_2 a1).bind fun t554 => ((almanacref26_Status.f k a0_0 l0_1 l0_2 a1).bind fun t555 => (if t554.toList = t555.toList then ((itip_SetStatus.f k a0_0 l0_1 l0_2 a1 a2).bind fun bt556 => ((almanacref26_SetStatus.f k a0_0 l0_1 l0_2 a1 a2).bind fun bt563 => ((almanacref12_Same.f k bt556.1 bt556.2.1 bt556.2.2 bt563.1 bt563.2.1 bt563.2.2).bind fun t570 => (if t570 = true then ((itip_Delivered.f k a0_0 l0_1 l0_2 a1 a2).bind fun bt571 => ((almanacref26_Delivered.f k a0_0 l0_1 l0_2 a1 a2).bind fun bt578 => ((almanacref12_Same.f k bt571.1 bt571.2.1 bt571.2.2 bt578.1 bt578.2.1 bt578.2.2).bind fun t585 => (if t585 = true then ((itip_Cancelled.f k a0_0 l0_1 l0_2).bind fun bt586 => ((almanacref26_Cancelled.f k a0_0 l0_1 l0_2).bind fun bt593 => ((almanacref12_Same.f k bt586.1 bt586.2.1 bt586.2.2 bt593.1 bt593.2.1 bt593.2.2).bind fun t600 => (if t600 = true then ((almanaclaw26_awake.f).bind fun t601 => (some t601)) else (some false))))) else (some false))))) else (some false))))) else (some false)))) else (some false)) = some r := H
   have A12 := Aside0.mk A120
   clear A120
   by_cases c13 : t553 = true
   ·subst c13
    have H1 : ((itip_Status.f k a0_0 l0_1 l0_2 a1).bind fun t554 => ((almanacref26_Status.f k a0_0 l0_1 l0_2 a1).bind fun t555 => (if t554.toList = t555.toList then ((itip_SetStatus.f k a0_0 l0_1 l0_2 a1 a2).bind fun bt556 => ((almanacref26_SetStatus.f k a0_0 l0_1 l0_2 a1 a2).bind fun bt563 => ((almanacref12_Same.f k bt556.1 bt556.2.1 bt556.2.2 bt563.1 bt563.2.1 bt563.2.2).bind fun t570 => (if t570 = true then ((itip_Delivered.f k a0_0 l0_1 l0_2 a1 a2).bind fun bt571 => ((almanacref26_Delivered.f k a0_0 l0_1 l0_2 a1 a2).bind fun bt578 => ((almanacref12_Same.f k bt571.1 bt571.2.1 bt571.2.2 bt578.1 bt578.2.1 bt578.2.2).bind fun t585 => (if t585 = true then ((itip_Cancelled.f k a0_0 l0_1 l0_2).bind fun bt586 => ((almanacref26_Cancelled.f k a0_0 l0_1 l0_2).bind fun bt593 => ((almanacref12_Same.f k bt586.1 bt586.2.1 bt586.2.2 bt593.1 bt593.2.1 bt593.2.2).bind fun t600 => (if t600 = true then ((almanaclaw26_awake.f).bind fun t601 => (some t601)) else (some false))))) else (some false))))) else (some false))))) else (some false)))) = some r := by rw [if_pos rfl] at H; exact H
    clear H
    have H := H1
    clear H1
    replace H := Option.bind_eq_some_iff.mp H
    obtain ⟨t554, A140, H⟩ := H
    replace H : ((almanacref26_Status.f k a0_0 l0_1 l0_2 a1).bind fun t555 => (if t554.toList = t555.toList then ((itip_SetStatus.f k a0_0 l0_1 l0_2 a1 a2).bind fun bt556 => ((almanacref26_SetStatus.f k a0_0 l0_1 l0_2 a1 a2).bind fun bt563 => ((almanacref12_Same.f k bt556.1 bt556.2.1 bt556.2.2 bt563.1 bt563.2.1 bt563.2.2).bind fun t570 => (if t570 = true then ((itip_Delivered.f k a0_0 l0_1 l0_2 a1 a2).bind fun bt571 => ((almanacref26_Delivered.f k a0_0 l0_1 l0_2 a1 a2).bind fun bt578 => ((almanacref12_Same.f k bt571.1 bt571.2.1 bt571.2.2 bt578.1 bt578.2.1 bt578.2.2).bind fun t585 => (if t585 = true then ((itip_Cancelled.f k a0_0 l0_1 l0_2).bind fun bt586 => ((almanacref26_Cancelled.f k a0_0 l0_1 l0_2).bind fun bt593 => ((almanacref12_Same.f k bt586.1 bt586.2.1 bt586.2.2 bt593.1 bt593.2.1 bt593.2.2).bind fun t600 => (if t600 = true then ((almanaclaw26_awake.f).bind fun t601 => (some t601)) else (some false))))) else (some false))))) else (some false))))) else (some false))) = some r := H
    have A14 := Aside0.mk A140
    clear A140
    replace H := Option.bind_eq_some_iff.mp H
    obtain ⟨t555, A150, H⟩ := H
    replace H : (if t554.toList = t555.toList then ((itip_SetStatus.f k a0_0 l0_1 l0_2 a1 a2).bind fun bt556 => ((almanacref26_SetStatus.f k a0_0 l0_1 l0_2 a1 a2).bind fun bt563 => ((almanacref12_Same.f k bt556.1 bt556.2.1 bt556.2.2 bt563.1 bt563.2.1 bt563.2.2).bind fun t570 => (if t570 = true then ((itip_Delivered.f k a0_0 l0_1 l0_2 a1 a2).bind fun bt571 => ((almanacref26_Delivered.f k a0_0 l0_1 l0_2 a1 a2).bind fun bt578 => ((almanacref12_Same.f k bt571.1 bt571.2.1 bt571.2.2 bt578.1 bt578.2.1 bt578.2.2).bind fun t585 => (if t585 = true then ((itip_Cancelled.f k a0_0 l0_1 l0_2).bind fun bt586 => ((almanacref26_Cancelled.f k a0_0 l0_1 l0_2).bind fun bt593 => ((almanacref12_Same.f k bt586.1 bt586.2.1 bt586.2.2 bt593.1 bt593.2.1 bt593.2.2).bind fun t600 => (if t600 = true then ((almanaclaw26_awake.f).bind fun t601 => (some t601)) else (some false))))) else (some false))))) else (some false))))) else (some false)) = some r := H
    have A15 := Aside0.mk A150
    clear A150
    by_cases c16 : t554.toList = t555.toList
    ·rw [if_pos c16] at H
     have c16b0 : (t554.toList == t555.toList) = true := beq_iff_eq.mpr c16
     have c16b1 : (t554.toList != t555.toList) = false := bne_eq_false_iff_eq.mpr c16
     clear c16
     replace H := Option.bind_eq_some_iff.mp H
     obtain ⟨⟨t556, t557, t560⟩, A170, H⟩ := H
     replace H : ((almanacref26_SetStatus.f k a0_0 l0_1 l0_2 a1 a2).bind fun bt563 => ((almanacref12_Same.f k t556 t557 t560 bt563.1 bt563.2.1 bt563.2.2).bind fun t570 => (if t570 = true then ((itip_Delivered.f k a0_0 l0_1 l0_2 a1 a2).bind fun bt571 => ((almanacref26_Delivered.f k a0_0 l0_1 l0_2 a1 a2).bind fun bt578 => ((almanacref12_Same.f k bt571.1 bt571.2.1 bt571.2.2 bt578.1 bt578.2.1 bt578.2.2).bind fun t585 => (if t585 = true then ((itip_Cancelled.f k a0_0 l0_1 l0_2).bind fun bt586 => ((almanacref26_Cancelled.f k a0_0 l0_1 l0_2).bind fun bt593 => ((almanacref12_Same.f k bt586.1 bt586.2.1 bt586.2.2 bt593.1 bt593.2.1 bt593.2.2).bind fun t600 => (if t600 = true then ((almanaclaw26_awake.f).bind fun t601 => (some t601)) else (some false))))) else (some false))))) else (some false)))) = some r := H
     have A17 := Aside0.mk A170
     clear A170
     replace H := Option.bind_eq_some_iff.mp H
     obtain ⟨⟨t563, t564, t567⟩, A180, H⟩ := H
     replace H : ((almanacref12_Same.f k t556 t557 t560 t563 t564 t567).bind fun t570 => (if t570 = true then ((itip_Delivered.f k a0_0 l0_1 l0_2 a1 a2).bind fun bt571 => ((almanacref26_Delivered.f k a0_0 l0_1 l0_2 a1 a2).bind fun bt578 => ((almanacref12_Same.f k bt571.1 bt571.2.1 bt571.2.2 bt578.1 bt578.2.1 bt578.2.2).bind fun t585 => (if t585 = true then ((itip_Cancelled.f k a0_0 l0_1 l0_2).bind fun bt586 => ((almanacref26_Cancelled.f k a0_0 l0_1 l0_2).bind fun bt593 => ((almanacref12_Same.f k bt586.1 bt586.2.1 bt586.2.2 bt593.1 bt593.2.1 bt593.2.2).bind fun t600 => (if t600 = true then ((almanaclaw26_awake.f).bind fun t601 => (some t601)) else (some false))))) else (some false))))) else (some false))) = some r := H
     have A18 := Aside0.mk A180
     clear A180
     replace H := Option.bind_eq_some_iff.mp H
     obtain ⟨t570, A190, H⟩ := H
     replace H : (if t570 = true then ((itip_Delivered.f k a0_0 l0_1 l0_2 a1 a2).bind fun bt571 => ((almanacref26_Delivered.f k a0_0 l0_1 l0_2 a1 a2).bind fun bt578 => ((almanacref12_Same.f k bt571.1 bt571.2.1 bt571.2.2 bt578.1 bt578.2.1 bt578.2.2).bind fun t585 => (if t585 = true then ((itip_Cancelled.f k a0_0 l0_1 l0_2).bind fun bt586 => ((almanacref26_Cancelled.f k a0_0 l0_1 l0_2).bind fun bt593 => ((almanacref12_Same.f k bt586.1 bt586.2.1 bt586.2.2 bt593.1 bt593.2.1 bt593.2.2).bind fun t600 => (if t600 = true then ((almanaclaw26_awake.f).bind fun t601 => (some t601)) else (some false))))) else (some false))))) else (some false)) = some r := H
     have A19 := Aside0.mk A190
     clear A190
     by_cases c20 : t570 = true
     ·subst c20
      have H1 : ((itip_Delivered.f k a0_0 l0_1 l0_2 a1 a2).bind fun bt571 => ((almanacref26_Delivered.f k a0_0 l0_1 l0_2 a1 a2).bind fun bt578 => ((almanacref12_Same.f k bt571.1 bt571.2.1 bt571.2.2 bt578.1 bt578.2.1 bt578.2.2).bind fun t585 => (if t585 = true then ((itip_Cancelled.f k a0_0 l0_1 l0_2).bind fun bt586 => ((almanacref26_Cancelled.f k a0_0 l0_1 l0_2).bind fun bt593 => ((almanacref12_Same.f k bt586.1 bt586.2.1 bt586.2.2 bt593.1 bt593.2.1 bt593.2.2).bind fun t600 => (if t600 = true then ((almanaclaw26_awake.f).bind fun t601 => (some t601)) else (some false))))) else (some false))))) = some r := by rw [if_pos rfl] at H; exact H
      clear H
      have H := H1
      clear H1
      replace H := Option.bind_eq_some_iff.mp H
      obtain ⟨⟨t571, t572, t575⟩, A210, H⟩ := H
      replace H : ((almanacref26_Delivered.f k a0_0 l0_1 l0_2 a1 a2).bind fun bt578 => ((almanacref12_Same.f k t571 t572 t575 bt578.1 bt578.2.1 bt578.2.2).bind fun t585 => (if t585 = true then ((itip_Cancelled.f k a0_0 l0_1 l0_2).bind fun bt586 => ((almanacref26_Cancelled.f k a0_0 l0_1 l0_2).bind fun bt593 => ((almanacref12_Same.f k bt586.1 bt586.2.1 bt586.2.2 bt593.1 bt593.2.1 bt593.2.2).bind fun t600 => (if t600 = true then ((almanaclaw26_awake.f).bind fun t601 => (some t601)) else (some false))))) else (some false)))) = some r := H
      have A21 := Aside0.mk A210
      clear A210
      replace H := Option.bind_eq_some_iff.mp H
      obtain ⟨⟨t578, t579, t582⟩, A220, H⟩ := H
      replace H : ((almanacref12_Same.f k t571 t572 t575 t578 t579 t582).bind fun t585 => (if t585 = true then ((itip_Cancelled.f k a0_0 l0_1 l0_2).bind fun bt586 => ((almanacref26_Cancelled.f k a0_0 l0_1 l0_2).bind fun bt593 => ((almanacref12_Same.f k bt586.1 bt586.2.1 bt586.2.2 bt593.1 bt593.2.1 bt593.2.2).bind fun t600 => (if t600 = true then ((almanaclaw26_awake.f).bind fun t601 => (some t601)) else (some false))))) else (some false))) = some r := H
      have A22 := Aside0.mk A220
      clear A220
      replace H := Option.bind_eq_some_iff.mp H
      obtain ⟨t585, A230, H⟩ := H
      replace H : (if t585 = true then ((itip_Cancelled.f k a0_0 l0_1 l0_2).bind fun bt586 => ((almanacref26_Cancelled.f k a0_0 l0_1 l0_2).bind fun bt593 => ((almanacref12_Same.f k bt586.1 bt586.2.1 bt586.2.2 bt593.1 bt593.2.1 bt593.2.2).bind fun t600 => (if t600 = true then ((almanaclaw26_awake.f).bind fun t601 => (some t601)) else (some false))))) else (some false)) = some r := H
      have A23 := Aside0.mk A230
      clear A230
      by_cases c24 : t585 = true
      ·subst c24
       have H1 : ((itip_Cancelled.f k a0_0 l0_1 l0_2).bind fun bt586 => ((almanacref26_Cancelled.f k a0_0 l0_1 l0_2).bind fun bt593 => ((almanacref12_Same.f k bt586.1 bt586.2.1 bt586.2.2 bt593.1 bt593.2.1 bt593.2.2).bind fun t600 => (if t600 = true then ((almanaclaw26_awake.f).bind fun t601 => (some t601)) else (some false))))) = some r := by rw [if_pos rfl] at H; exact H
       clear H
       have H := H1
       clear H1
       replace H := Option.bind_eq_some_iff.mp H
       obtain ⟨⟨t586, t587, t590⟩, A250, H⟩ := H
       replace H : ((almanacref26_Cancelled.f k a0_0 l0_1 l0_2).bind fun bt593 => ((almanacref12_Same.f k t586 t587 t590 bt593.1 bt593.2.1 bt593.2.2).bind fun t600 => (if t600 = true then ((almanaclaw26_awake.f).bind fun t601 => (some t601)) else (some false)))) = some r := H
       have A25 := Aside0.mk A250
       clear A250
       replace H := Option.bind_eq_some_iff.mp H
       obtain ⟨⟨t593, t594, t597⟩, A260, H⟩ := H
       replace H : ((almanacref12_Same.f k t586 t587 t590 t593 t594 t597).bind fun t600 => (if t600 = true then ((almanaclaw26_awake.f).bind fun t601 => (some t601)) else (some false))) = some r := H
       have A26 := Aside0.mk A260
       clear A260
       replace H := Option.bind_eq_some_iff.mp H
       obtain ⟨t600, A270, H⟩ := H
       replace H : (if t600 = true then ((almanaclaw26_awake.f).bind fun t601 => (some t601)) else (some false)) = some r := H
       have A27 := Aside0.mk A270
       clear A270
       by_cases c28 : t600 = true
       ·subst c28
        have H1 : ((almanaclaw26_awake.f).bind fun t601 => (some t601)) = some r := by rw [if_pos rfl] at H; exact H
        clear H
        have H := H1
        clear H1
        replace H := Option.bind_eq_some_iff.mp H
        obtain ⟨t601, A290, H⟩ := H
        replace H : (some t601) = some r := H
        have A29 := Aside0.mk A290
        clear A290
        obtain rfl := Option.some.inj H
        go_enter Try.func5, Try.ntmps5
        try go_wp2_with (first | ((with_reducible refine gate_dst (N := 3) rfl ?_); refine box_event ?hg (N := 3) ?hd (cs := #[.string a0_0, .slice A0_1 l0_1.length c0_1, .slice A0_2 l0_2.length c0_2]) (t := 25) ?hr ?_; (case hd => rfl); (case hg => rfl); (case hr => first | (go_simp; done) | (go_simp; rfl)); intro gb521 hg w30 hbox hb; have n0_ := Aside0.mk (below_step (bU HB) hb); have n1_ := Aside0.mk (hbox); have n2_ := Aside0.mk ((by rw [hg]; exact (below_size (bU HB)) : w.heap.size ≤ gb521)); have n3_ := Aside0.mk ((by rw [hg]; exact (below_size (bU HB)) : w.heap.size ≤ gb521)); clear HB; have HB := n0_; have BK521 := n1_; have GW521 := n2_; have GE521 := n3_; clear n0_ n1_ n2_ n3_; clear hb hbox hg; have hcz31_0 : w30.cell? ⟨gb521, 0, none⟩ = some (.string a0_0) := (blk_cell BK521.out 0).trans rfl; have hcz31_1 : w30.cell? ⟨gb521, 1, none⟩ = some (.slice A0_1 l0_1.length c0_1) := (blk_cell BK521.out 1).trans rfl; have hcz31_2 : w30.cell? ⟨gb521, 2, none⟩ = some (.slice A0_2 l0_2.length c0_2) := (blk_cell BK521.out 2).trans rfl; have hfz31_0 := blk_frozen BK521.out 0; have hfz31_1 := blk_frozen BK521.out 1; have hfz31_2 := blk_frozen BK521.out 2) | ((with_reducible refine gate_callee (f := 6) rfl ?_); refine goesL_ (some 8) rfl rfl Try.func6 (by kernel_rfl) rfl #[.agg #[.string a0_0, .slice A0_1 l0_1.length c0_1, .slice A0_2 l0_2.length c0_2]] rfl (by (try simp only [List.map_toArray, List.map_cons, List.map_nil]); first | done | rfl | (simp only [List.length_drop, List.length_take]; rfl)) ?_; (with_reducible refine (almanacref12_Light.calls k a0_0 _ _ l0_1 _ _ l0_2 true _ ?side1 ?side2 ?side3 ?side4 A4.out).mono ?_); (case side1 => exact cU (Kd.C_below HR0_1.out HB.out)); (case side2 => exact HC0_1.out); (case side3 => exact cU (Kd.C_below HR0_2.out HB.out)); (case side4 => exact HC0_2.out); rintro e w32 ⟨rfl, hb⟩; refine ⟨_, rfl, ?_⟩; have n0_ := Aside0.mk (blk_below (kU BK521) hb); have n1_ := Aside0.mk (below_step (bU HB) hb); clear BK521; clear HB; have BK521 := n0_; have HB := n1_; clear n0_ n1_; (try clear hb); (try clear hb2); (try clear hk); (try clear hi)))
        have n0_ := Aside0.mk (blk_drew BK521.out)
        have n1_ := Aside0.mk (below_drew1 HB.out)
        clear BK521
        clear HB
        have BK521 := n0_
        have HB := n1_
        clear n0_ n1_
        refine start_ (n := 58) (S := fun w' => w'.cell? ⟨gb521, 0, none⟩ = some (.string a0_0) ∧ w'.cell? ⟨gb521, 1, none⟩ = some (.slice A0_1 l0_1.length c0_1) ∧ w'.cell? ⟨gb521, 2, none⟩ = some (.slice A0_2 l0_2.length c0_2)) (ds := []) #[false, false, false, false, false, false, false, false, false, false, false, false, false, false, false, false, false, false, false, false, false, false, false, false, false, false, false, false, false, false, false, false, false, false, false, false, false, false, false, false, false, false, false, false, false, false, false, false, false, false, false, false, false, false, false, false, false, false] (by kernel_rfl) rfl rfl ⟨(blk_cell BK521.out 0).trans rfl, (blk_cell BK521.out 1).trans rfl, (blk_cell BK521.out 2).trans rfl⟩ (fun hHeld => ?_); refine with_tabW almanaclaw26_ItipMakes.tab3 almanaclaw26_ItipMakes.bits3 (fun HT_ HW_ => ?_)
        generalize w32.drew = w33 at BK521 HB hHeld ⊢
        refine pure_ (i := 1) (N := some 12) (v := ?_) (a' := ?_) #[false, true, false, false, false, false, false, false, false, false, false, false, false, false, false, false, false, false, false, false, false, false, false, false, false, false, false, false, false, false, false, false, false, false, false, false, false, false, false, false, false, false, false, false, false, false, false, false, false, false, false, false, false, false, false, false, false, false] rfl rfl (any_of HT_.out (by kernel_rfl)) (fun _ _ _ h => h) (Or.inl ⟨by rfl, ?_⟩) ?_ ?_
        rotate_left
        ·intro w'
         go_simp
         with_reducible rfl
        rotate_left
        ·simp only [Act.put, List.setIfInBounds_toArray, List.set_cons_zero, List.set_cons_succ, i64_w, i32_w]
         rfl
        refine pure_ (i := 4) (N := some 15) (v := ?_) (a' := ?_) #[false, true, false, false, true, false, false, false, false, false, false, false, false, false, false, false, false, false, false, false, false, false, false, false, false, false, false, false, false, false, false, false, false, false, false, false, false, false, false, false, false, false, false, false, false, false, false, false, false, false, false, false, false, false, false, false, false, false] rfl rfl (any_of HT_.out (by kernel_rfl)) (fun _ _ _ h => h) (Or.inl ⟨by rfl, ?_⟩) ?_ ?_
        rotate_left
        ·intro w'
         go_simp
         with_reducible rfl
        rotate_left
        ·simp only [Act.put, List.setIfInBounds_toArray, List.set_cons_zero, List.set_cons_succ, i64_w, i32_w]
         rfl
        refine take_ (i := 0) (N := some 11) (v := ?_) (a' := ?_) #[true, true, false, false, true, false, false, false, false, false, false, false, false, false, false, false, false, false, false, false, false, false, false, false, false, false, false, false, false, false, false, false, false, false, false, false, false, false, false, false, false, false, false, false, false, false, false, false, false, false, false, false, false, false, false, false, false, false] rfl rfl (take_ofW HT_.out HW_.out (by kernel_rfl)) (fun _ _ _ h => h) (Or.inl ⟨by rfl, ?_⟩) hHeld ?_ ?_
        rotate_left
        ·rintro w' ⟨s0, s1, s2⟩
         go_simp
         with_reducible rfl
        rotate_left
        ·simp only [Act.put, List.setIfInBounds_toArray, List.set_cons_zero, List.set_cons_succ, i64_w, i32_w]
         rfl
        refine take_ (i := 3) (N := some 14) (v := ?_) (a' := ?_) #[true, true, false, true, true, false, false, false, false, false, false, false, false, false, false, false, false, false, false, false, false, false, false, false, false, false, false, false, false, false, false, false, false, false, false, false, false, false, false, false, false, false, false, false, false, false, false, false, false, false, false, false, false, false, false, false, false, false] rfl rfl (take_ofW HT_.out HW_.out (by kernel_rfl)) (fun _ _ _ h => h) (Or.inl ⟨by rfl, ?_⟩) hHeld ?_ ?_
        rotate_left
        ·rintro w' ⟨s0, s1, s2⟩
         go_simp
         with_reducible rfl
        rotate_left
        ·simp only [Act.put, List.setIfInBounds_toArray, List.set_cons_zero, List.set_cons_succ, i64_w, i32_w]
         rfl
        refine one_ (i := 2) (N := some 13) #[true, true, true, true, true, false, false, false, false, false, false, false, false, false, false, false, false, false, false, false, false, false, false, false, false, false, false, false, false, false, false, false, false, false, false, false, false, false, false, false, false, false, false, false, false, false, false, false, false, false, false, false, false, false, false, false, false, false] rfl rfl (one_of HT_.out (by kernel_rfl)) (by decide) (fun K hK => ?_)
        refine goes_ Try.func23 (by kernel_rfl) rfl #[.agg #[.string a0_0, .slice A0_1 l0_1.length c0_1, .slice A0_2 l0_2.length c0_2], .string a2] (by rfl) rfl rfl (by (try simp only [List.map_toArray, List.map_cons, List.map_nil]); first | done | rfl | (simp only [List.length_drop, List.length_take]; rfl)) ?_
        with_reducible refine (itip_Message.calls k a0_0 (fun k_ => k_ < w.heap.size) _ _ l0_1 (fun k_ => k_ < w.heap.size) _ _ l0_2 a2 t524 t525 t528 _ ?side1 ?side2 A6.out).mono ?_
        (case side1 => exact Kd.V_mk HC0_1.out (Kd.F_below (Kd.C_F k45_heap HR0_1.out) (bU HB)))
        (case side2 => exact Kd.V_mk HC0_2.out (Kd.F_below (Kd.C_F k25_heap HR0_2.out) (bU HB)))
        rintro e w34 ⟨v526, v529, rfl, ho0, ho1, hb⟩
        refine ⟨_, rfl, ?_⟩
        have n0_ := Aside0.mk (Kd.N_lower (Kd.N_mono (ok' := fun k_ => k_ ≠ gb521) ho0 (fun k_ hk_ => Or.elim hk_ (fun hs_ => Or.elim hs_ (fun hs_ => fun e_ => Nat.not_le.2 hs_ (by rw [e_]; exact GW521.out)) (fun hs_ => fun e_ => Nat.not_le.2 hs_ (by rw [e_]; exact GW521.out))) (fun hn_ => (Kd.freshB (g := gb521) (o := .cells #[.string a0_0, .slice A0_1 l0_1.length c0_1, .slice A0_2 l0_2.length c0_2] 25 (0, 0)) (kU BK521) k_ hn_)))) (below_size (bU HB)))
        have n1_ := Aside0.mk (Kd.V_lower (Kd.V_mono (ok' := fun k_ => some k_ ≠ (v526 : Value).ownBlock ∧ k_ ≠ gb521) ho1 (fun k_ hk_ => ⟨hk_.2, Or.elim hk_.1 (fun hs_ => Or.elim hs_ (fun hs_ => fun e_ => Nat.not_le.2 hs_ (by rw [e_]; exact GW521.out)) (fun hs_ => fun e_ => Nat.not_le.2 hs_ (by rw [e_]; exact GW521.out))) (fun hn_ => (Kd.freshB (g := gb521) (o := .cells #[.string a0_0, .slice A0_1 l0_1.length c0_1, .slice A0_2 l0_2.length c0_2] 25 (0, 0)) (kU BK521) k_ hn_))⟩)) (below_size (bU HB)))
        have n2_ := Aside0.mk (blk_below (kU BK521) hb)
        have n3_ := Aside0.mk (below_step (bU HB) hb)
        clear BK521
        clear HB
        have HO527 := n0_
        have HO530 := n1_
        have BK521 := n2_
        have HB := n3_
        clear n0_ n1_ n2_ n3_
        (try clear hb)
        (try clear hb2)
        (try clear hk)
        (try clear hi)
        (try clear ho0)
        (try clear ho1)
        refine hK.out _ _ ⟨(blk_cell BK521.out 0).trans rfl, (blk_cell BK521.out 1).trans rfl, (blk_cell BK521.out 2).trans rfl⟩ (fun hHeld => ?_)
        clear hK K
        refine norm_ (a' := ?_) ?_ ?_
        rotate_left
        ·show Act.put _ (some 13) _ = _
         simp only [Act.put, List.setIfInBounds_toArray, List.set_cons_zero, List.set_cons_succ, i64_w, i32_w]
         rfl
        refine one_ (i := 5) (N := some 16) #[true, true, true, true, true, true, false, false, false, false, false, false, false, false, false, false, false, false, false, false, false, false, false, false, false, false, false, false, false, false, false, false, false, false, false, false, false, false, false, false, false, false, false, false, false, false, false, false, false, false, false, false, false, false, false, false, false, false] rfl rfl (one_of HT_.out (by kernel_rfl)) (by decide) (fun K hK => ?_)
        refine goes_ Try.func26 (by kernel_rfl) rfl #[.agg #[.string a0_0, .slice A0_1 l0_1.length c0_1, .slice A0_2 l0_2.length c0_2], .string a2] (by rfl) rfl rfl (by (try simp only [List.map_toArray, List.map_cons, List.map_nil]); first | done | rfl | (simp only [List.length_drop, List.length_take]; rfl)) ?_
        with_reducible refine (almanacref26_Message.calls k a0_0 (fun k_ => k_ < w.heap.size) _ _ l0_1 (fun k_ => k_ < w.heap.size) _ _ l0_2 a2 t531 t532 t535 _ ?side1 ?side2 A7.out).mono ?_
        (case side1 => exact Kd.V_mk HC0_1.out (Kd.F_below (Kd.C_F k45_heap HR0_1.out) (bU HB)))
        (case side2 => exact Kd.V_mk HC0_2.out (Kd.F_below (Kd.C_F k25_heap HR0_2.out) (bU HB)))
        rintro e w35 ⟨v533, v536, rfl, ho0, ho1, hb⟩
        refine ⟨_, rfl, ?_⟩
        have n0_ := Aside0.mk (Kd.N_elder' (by (with_reducible repeat (first | apply Kd.N_alloc | apply Kd.N_drewN | apply Kd.N_drew)); exact HO527.out) (Kd.N_base ho0) hb)
        have n1_ := Aside0.mk (Kd.V_elder' (by (with_reducible repeat (first | apply Kd.V_alloc | apply Kd.V_drewN | apply Kd.V_drew)); exact HO530.out) (Kd.N_base ho0) hb)
        have n2_ := Aside0.mk (Kd.N_lower (Kd.N_mono (ok' := fun k_ => some k_ ≠ (v526 : Value).ownBlock ∧ k_ ≠ gb521) ho0 (fun k_ hk_ => ⟨Or.elim hk_ (fun hs_ => Or.elim hs_ (fun hs_ => fun e_ => Nat.not_le.2 hs_ (Kd.N_base HO527.out k_ e_.symm)) (fun hs_ => fun e_ => Nat.not_le.2 hs_ (Kd.N_base HO527.out k_ e_.symm))) (fun hn_ => (Kd.fresh' (Kd.N_lt (by (with_reducible repeat (first | apply Kd.N_alloc | apply Kd.N_drewN | apply Kd.N_drew)); exact HO527.out)) k_ hn_)), Or.elim hk_ (fun hs_ => Or.elim hs_ (fun hs_ => fun e_ => Nat.not_le.2 hs_ (by rw [e_]; exact GW521.out)) (fun hs_ => fun e_ => Nat.not_le.2 hs_ (by rw [e_]; exact GW521.out))) (fun hn_ => (Kd.freshB (g := gb521) (o := .cells #[.string a0_0, .slice A0_1 l0_1.length c0_1, .slice A0_2 l0_2.length c0_2] 25 (0, 0)) (kU BK521) k_ hn_))⟩)) (below_size (bU HB)))
        have n3_ := Aside0.mk (Kd.V_lower (Kd.V_mono (ok' := fun k_ => some k_ ≠ (v533 : Value).ownBlock ∧ some k_ ≠ (v526 : Value).ownBlock ∧ k_ ≠ gb521) ho1 (fun k_ hk_ => ⟨hk_.2, Or.elim hk_.1 (fun hs_ => Or.elim hs_ (fun hs_ => fun e_ => Nat.not_le.2 hs_ (Kd.N_base HO527.out k_ e_.symm)) (fun hs_ => fun e_ => Nat.not_le.2 hs_ (Kd.N_base HO527.out k_ e_.symm))) (fun hn_ => (Kd.fresh' (Kd.N_lt (by (with_reducible repeat (first | apply Kd.N_alloc | apply Kd.N_drewN | apply Kd.N_drew)); exact HO527.out)) k_ hn_)), Or.elim hk_.1 (fun hs_ => Or.elim hs_ (fun hs_ => fun e_ => Nat.not_le.2 hs_ (by rw [e_]; exact GW521.out)) (fun hs_ => fun e_ => Nat.not_le.2 hs_ (by rw [e_]; exact GW521.out))) (fun hn_ => (Kd.freshB (g := gb521) (o := .cells #[.string a0_0, .slice A0_1 l0_1.length c0_1, .slice A0_2 l0_2.length c0_2] 25 (0, 0)) (kU BK521) k_ hn_))⟩)) (below_size (bU HB)))
        have n4_ := Aside0.mk (blk_below (kU BK521) hb)
        have n5_ := Aside0.mk (below_step (bU HB) hb)
        clear HO527
        clear HO530
        clear BK521
        clear HB
        have HO527 := n0_
        have HO530 := n1_
        have HO534 := n2_
        have HO537 := n3_
        have BK521 := n4_
        have HB := n5_
        clear n0_ n1_ n2_ n3_ n4_ n5_
        (try clear hb)
        (try clear hb2)
        (try clear hk)
        (try clear hi)
        (try clear ho0)
        (try clear ho1)
        obtain ⟨Ao36, co36, eo36⟩ := Kd.N_slice HO527.out
        (first | subst eo36 | (injection eo36 with f1_ f2_ f3_; have f4_ := f1_.symm; have f5_ := f3_.symm; clear f1_ f2_ f3_; subst f4_; subst f5_))
        obtain ⟨Ao37, co37, eo37⟩ := Kd.V_slice HO530.out
        (first | subst eo37 | (injection eo37 with f1_ f2_ f3_; have f4_ := f1_.symm; have f5_ := f3_.symm; clear f1_ f2_ f3_; subst f4_; subst f5_))
        obtain ⟨Ao38, co38, eo38⟩ := Kd.N_slice HO534.out
        (first | subst eo38 | (injection eo38 with f1_ f2_ f3_; have f4_ := f1_.symm; have f5_ := f3_.symm; clear f1_ f2_ f3_; subst f4_; subst f5_))
        obtain ⟨Ao39, co39, eo39⟩ := Kd.V_slice HO537.out
        (first | subst eo39 | (injection eo39 with f1_ f2_ f3_; have f4_ := f1_.symm; have f5_ := f3_.symm; clear f1_ f2_ f3_; subst f4_; subst f5_))
        refine hK.out _ _ ⟨(blk_cell BK521.out 0).trans rfl, (blk_cell BK521.out 1).trans rfl, (blk_cell BK521.out 2).trans rfl⟩ (fun hHeld => ?_)
        clear hK K
        refine norm_ (a' := ?_) ?_ ?_
        rotate_left
        ·show Act.put _ (some 16) _ = _
         simp only [Act.put, List.setIfInBounds_toArray, List.set_cons_zero, List.set_cons_succ, i64_w, i32_w]
         rfl
        refine one_ (i := 6) (N := some 17) #[true, true, true, true, true, true, true, false, false, false, false, false, false, false, false, false, false, false, false, false, false, false, false, false, false, false, false, false, false, false, false, false, false, false, false, false, false, false, false, false, false, false, false, false, false, false, false, false, false, false, false, false, false, false, false, false, false, false] rfl rfl (one_of HT_.out (by kernel_rfl)) (by decide) (fun K hK => ?_)
        refine goes_ Try.func25 (by kernel_rfl) rfl #[.agg #[.string t524, .slice Ao36 t525.length co36, .slice Ao37 t528.length co37], .agg #[.string t531, .slice Ao38 t532.length co38, .slice Ao39 t535.length co39]] (by rfl) rfl rfl (by (try simp only [List.map_toArray, List.map_cons, List.map_nil]); first | done | rfl | (simp only [List.length_drop, List.length_take]; rfl)) ?_
        with_reducible refine (almanacref12_Same.calls k t524 _ _ t525 _ _ t528 t531 _ _ t532 _ _ t535 true _ ?side1 ?side2 ?side3 ?side4 ?side5 ?side6 ?side7 ?side8 A8.out).mono ?_
        (case side1 => exact cU (Kd.N_reads' HO527.out).2.2)
        (case side2 => exact (Kd.N_reads' HO527.out).2.1)
        (case side3 => exact cU (Kd.V_reads' HO530.out).2.2)
        (case side4 => exact (Kd.V_reads' HO530.out).2.1)
        (case side5 => exact cU (Kd.N_reads' HO534.out).2.2)
        (case side6 => exact (Kd.N_reads' HO534.out).2.1)
        (case side7 => exact cU (Kd.V_reads' HO537.out).2.2)
        (case side8 => exact (Kd.V_reads' HO537.out).2.1)
        rintro e w40 ⟨rfl, hb⟩
        refine ⟨_, rfl, ?_⟩
        have n0_ := Aside0.mk (Kd.N_below (by (with_reducible repeat (first | apply Kd.N_alloc | apply Kd.N_drewN | apply Kd.N_drew)); exact HO527.out) hb)
        have n1_ := Aside0.mk (Kd.V_below (by (with_reducible repeat (first | apply Kd.V_alloc | apply Kd.V_drewN | apply Kd.V_drew)); exact HO530.out) hb)
        have n2_ := Aside0.mk (Kd.N_below (by (with_reducible repeat (first | apply Kd.N_alloc | apply Kd.N_drewN | apply Kd.N_drew)); exact HO534.out) hb)
        have n3_ := Aside0.mk (Kd.V_below (by (with_reducible repeat (first | apply Kd.V_alloc | apply Kd.V_drewN | apply Kd.V_drew)); exact HO537.out) hb)
        have n4_ := Aside0.mk (blk_below (kU BK521) hb)
        have n5_ := Aside0.mk (below_step (bU HB) hb)
        clear HO527
        clear HO530
        clear HO534
        clear HO537
        clear BK521
        clear HB
        have HO527 := n0_
        have HO530 := n1_
        have HO534 := n2_
        have HO537 := n3_
        have BK521 := n4_
        have HB := n5_
        clear n0_ n1_ n2_ n3_ n4_ n5_
        (try clear hb)
        (try clear hb2)
        (try clear hk)
        (try clear hi)
        refine hK.out _ _ ⟨(blk_cell BK521.out 0).trans rfl, (blk_cell BK521.out 1).trans rfl, (blk_cell BK521.out 2).trans rfl⟩ (fun hHeld => ?_)
        clear hK K
        refine norm_ (a' := ?_) ?_ ?_
        rotate_left
        ·show Act.put _ (some 17) _ = _
         simp only [Act.put, List.setIfInBounds_toArray, List.set_cons_zero, List.set_cons_succ, i64_w, i32_w]
         rfl
        refine pure_ (i := 7) (N := some 18) (v := ?_) (a' := ?_) #[true, true, true, true, true, true, true, true, false, false, false, false, false, false, false, false, false, false, false, false, false, false, false, false, false, false, false, false, false, false, false, false, false, false, false, false, false, false, false, false, false, false, false, false, false, false, false, false, false, false, false, false, false, false, false, false, false, false] rfl rfl (any_of HT_.out (by kernel_rfl)) (fun _ _ _ h => h) (Or.inl ⟨by rfl, ?_⟩) ?_ ?_
        rotate_left
        ·intro w'
         go_simp
         with_reducible rfl
        rotate_left
        ·simp only [Act.put, List.setIfInBounds_toArray, List.set_cons_zero, List.set_cons_succ, i64_w, i32_w]
         rfl
        refine pure_ (i := 9) (N := some 20) (v := ?_) (a' := ?_) #[true, true, true, true, true, true, true, true, false, true, false, false, false, false, false, false, false, false, false, false, false, false, false, false, false, false, false, false, false, false, false, false, false, false, false, false, false, false, false, false, false, false, false, false, false, false, false, false, false, false, false, false, false, false, false, false, false, false] rfl rfl (any_of HT_.out (by kernel_rfl)) (fun _ _ _ h => h) (Or.inl ⟨by rfl, ?_⟩) ?_ ?_
        rotate_left
        ·intro w'
         go_simp
         with_reducible rfl
        rotate_left
        ·simp only [Act.put, List.setIfInBounds_toArray, List.set_cons_zero, List.set_cons_succ, i64_w, i32_w]
         rfl
        refine pure_ (i := 12) (N := some 23) (v := ?_) (a' := ?_) #[true, true, true, true, true, true, true, true, false, true, false, false, true, false, false, false, false, false, false, false, false, false, false, false, false, false, false, false, false, false, false, false, false, false, false, false, false, false, false, false, false, false, false, false, false, false, false, false, false, false, false, false, false, false, false, false, false, false] rfl rfl (any_of HT_.out (by kernel_rfl)) (fun _ _ _ h => h) (Or.inl ⟨by rfl, ?_⟩) ?_ ?_
        rotate_left
        ·intro w'
         go_simp
         with_reducible rfl
        rotate_left
        ·simp only [Act.put, List.setIfInBounds_toArray, List.set_cons_zero, List.set_cons_succ, i64_w, i32_w]
         rfl
        refine take_ (i := 8) (N := some 19) (v := ?_) (a' := ?_) #[true, true, true, true, true, true, true, true, true, true, false, false, true, false, false, false, false, false, false, false, false, false, false, false, false, false, false, false, false, false, false, false, false, false, false, false, false, false, false, false, false, false, false, false, false, false, false, false, false, false, false, false, false, false, false, false, false, false] rfl rfl (take_ofW HT_.out HW_.out (by kernel_rfl)) (fun _ _ _ h => h) (Or.inl ⟨by rfl, ?_⟩) hHeld ?_ ?_
        rotate_left
        ·rintro w' ⟨s0, s1, s2⟩
         go_simp
         with_reducible rfl
        rotate_left
        ·simp only [Act.put, List.setIfInBounds_toArray, List.set_cons_zero, List.set_cons_succ, i64_w, i32_w]
         rfl
        refine take_ (i := 11) (N := some 22) (v := ?_) (a' := ?_) #[true, true, true, true, true, true, true, true, true, true, false, true, true, false, false, false, false, false, false, false, false, false, false, false, false, false, false, false, false, false, false, false, false, false, false, false, false, false, false, false, false, false, false, false, false, false, false, false, false, false, false, false, false, false, false, false, false, false] rfl rfl (take_ofW HT_.out HW_.out (by kernel_rfl)) (fun _ _ _ h => h) (Or.inl ⟨by rfl, ?_⟩) hHeld ?_ ?_
        rotate_left
        ·rintro w' ⟨s0, s1, s2⟩
         go_simp
         with_reducible rfl
        rotate_left
        ·simp only [Act.put, List.setIfInBounds_toArray, List.set_cons_zero, List.set_cons_succ, i64_w, i32_w]
         rfl
        refine one_ (i := 10) (N := some 21) #[true, true, true, true, true, true, true, true, true, true, true, true, true, false, false, false, false, false, false, false, false, false, false, false, false, false, false, false, false, false, false, false, false, false, false, false, false, false, false, false, false, false, false, false, false, false, false, false, false, false, false, false, false, false, false, false, false, false] rfl rfl (one_of HT_.out (by kernel_rfl)) (by decide) (fun K hK => ?_)
        refine goes_ Try.func22 (by kernel_rfl) rfl #[.agg #[.string a0_0, .slice A0_1 l0_1.length c0_1, .slice A0_2 l0_2.length c0_2], .string a1] (by rfl) rfl rfl (by (try simp only [List.map_toArray, List.map_cons, List.map_nil]); first | done | rfl | (simp only [List.length_drop, List.length_take]; rfl)) ?_
        with_reducible refine (itip_Only.calls k a0_0 (fun k_ => k_ < w.heap.size) _ _ l0_1 (fun k_ => k_ < w.heap.size) _ _ l0_2 a1 t539 t540 t543 _ ?side1 ?side2 A10.out).mono ?_
        (case side1 => exact Kd.V_mk HC0_1.out (Kd.F_below (Kd.C_F k45_heap HR0_1.out) (bU HB)))
        (case side2 => exact Kd.V_mk HC0_2.out (Kd.F_below (Kd.C_F k25_heap HR0_2.out) (bU HB)))
        rintro e w41 ⟨v541, v544, rfl, ho0, ho1, hb⟩
        refine ⟨_, rfl, ?_⟩
        have n0_ := Aside0.mk (Kd.N_elder' (by (with_reducible repeat (first | apply Kd.N_alloc | apply Kd.N_drewN | apply Kd.N_drew)); exact HO527.out) (Kd.N_base ho1) hb)
        have n1_ := Aside0.mk (Kd.V_elder' (by (with_reducible repeat (first | apply Kd.V_alloc | apply Kd.V_drewN | apply Kd.V_drew)); exact HO530.out) (Kd.N_base ho1) hb)
        have n2_ := Aside0.mk (Kd.N_elder' (by (with_reducible repeat (first | apply Kd.N_alloc | apply Kd.N_drewN | apply Kd.N_drew)); exact HO534.out) (Kd.N_base ho1) hb)
        have n3_ := Aside0.mk (Kd.V_elder' (by (with_reducible repeat (first | apply Kd.V_alloc | apply Kd.V_drewN | apply Kd.V_drew)); exact HO537.out) (Kd.N_base ho1) hb)
        have n4_ := Aside0.mk (Kd.V_lower (Kd.V_mono (ok' := fun k_ => some k_ ≠ (v544 : Value).ownBlock ∧ some k_ ≠ (.slice Ao36 t525.length co36 : Value).ownBlock ∧ some k_ ≠ (.slice Ao38 t532.length co38 : Value).ownBlock ∧ k_ ≠ gb521) ho0 (fun k_ hk_ => ⟨hk_.2, Or.elim hk_.1 (fun hs_ => Or.elim hs_ (fun hs_ => fun e_ => Nat.not_le.2 hs_ (Kd.N_base HO527.out k_ e_.symm)) (fun hs_ => fun e_ => Nat.not_le.2 hs_ (Kd.N_base HO527.out k_ e_.symm))) (fun hn_ => (Kd.fresh' (Kd.N_lt (by (with_reducible repeat (first | apply Kd.N_alloc | apply Kd.N_drewN | apply Kd.N_drew)); exact HO527.out)) k_ hn_)), Or.elim hk_.1 (fun hs_ => Or.elim hs_ (fun hs_ => fun e_ => Nat.not_le.2 hs_ (Kd.N_base HO534.out k_ e_.symm)) (fun hs_ => fun e_ => Nat.not_le.2 hs_ (Kd.N_base HO534.out k_ e_.symm))) (fun hn_ => (Kd.fresh' (Kd.N_lt (by (with_reducible repeat (first | apply Kd.N_alloc | apply Kd.N_drewN | apply Kd.N_drew)); exact HO534.out)) k_ hn_)), Or.elim hk_.1 (fun hs_ => Or.elim hs_ (fun hs_ => fun e_ => Nat.not_le.2 hs_ (by rw [e_]; exact GW521.out)) (fun hs_ => fun e_ => Nat.not_le.2 hs_ (by rw [e_]; exact GW521.out))) (fun hn_ => (Kd.freshB (g := gb521) (o := .cells #[.string a0_0, .slice A0_1 l0_1.length c0_1, .slice A0_2 l0_2.length c0_2] 25 (0, 0)) (kU BK521) k_ hn_))⟩)) (below_size (bU HB)))
        have n5_ := Aside0.mk (Kd.N_lower (Kd.N_mono (ok' := fun k_ => some k_ ≠ (.slice Ao36 t525.length co36 : Value).ownBlock ∧ some k_ ≠ (.slice Ao38 t532.length co38 : Value).ownBlock ∧ k_ ≠ gb521) ho1 (fun k_ hk_ => ⟨Or.elim hk_ (fun hs_ => Or.elim hs_ (fun hs_ => fun e_ => Nat.not_le.2 hs_ (Kd.N_base HO527.out k_ e_.symm)) (fun hs_ => fun e_ => Nat.not_le.2 hs_ (Kd.N_base HO527.out k_ e_.symm))) (fun hn_ => (Kd.fresh' (Kd.N_lt (by (with_reducible repeat (first | apply Kd.N_alloc | apply Kd.N_drewN | apply Kd.N_drew)); exact HO527.out)) k_ hn_)), Or.elim hk_ (fun hs_ => Or.elim hs_ (fun hs_ => fun e_ => Nat.not_le.2 hs_ (Kd.N_base HO534.out k_ e_.symm)) (fun hs_ => fun e_ => Nat.not_le.2 hs_ (Kd.N_base HO534.out k_ e_.symm))) (fun hn_ => (Kd.fresh' (Kd.N_lt (by (with_reducible repeat (first | apply Kd.N_alloc | apply Kd.N_drewN | apply Kd.N_drew)); exact HO534.out)) k_ hn_)), Or.elim hk_ (fun hs_ => Or.elim hs_ (fun hs_ => fun e_ => Nat.not_le.2 hs_ (by rw [e_]; exact GW521.out)) (fun hs_ => fun e_ => Nat.not_le.2 hs_ (by rw [e_]; exact GW521.out))) (fun hn_ => (Kd.freshB (g := gb521) (o := .cells #[.string a0_0, .slice A0_1 l0_1.length c0_1, .slice A0_2 l0_2.length c0_2] 25 (0, 0)) (kU BK521) k_ hn_))⟩)) (below_size (bU HB)))
        have n6_ := Aside0.mk (blk_below (kU BK521) hb)
        have n7_ := Aside0.mk (below_step (bU HB) hb)
        clear HO527
        clear HO530
        clear HO534
        clear HO537
        clear BK521
        clear HB
        have HO527 := n0_
        have HO530 := n1_
        have HO534 := n2_
        have HO537 := n3_
        have HO542 := n4_
        have HO545 := n5_
        have BK521 := n6_
        have HB := n7_
        clear n0_ n1_ n2_ n3_ n4_ n5_ n6_ n7_
        (try clear hb)
        (try clear hb2)
        (try clear hk)
        (try clear hi)
        (try clear ho0)
        (try clear ho1)
        refine hK.out _ _ ⟨(blk_cell BK521.out 0).trans rfl, (blk_cell BK521.out 1).trans rfl, (blk_cell BK521.out 2).trans rfl⟩ (fun hHeld => ?_)
        clear hK K
        refine norm_ (a' := ?_) ?_ ?_
        rotate_left
        ·show Act.put _ (some 21) _ = _
         simp only [Act.put, List.setIfInBounds_toArray, List.set_cons_zero, List.set_cons_succ, i64_w, i32_w]
         rfl
        refine one_ (i := 13) (N := some 24) #[true, true, true, true, true, true, true, true, true, true, true, true, true, true, false, false, false, false, false, false, false, false, false, false, false, false, false, false, false, false, false, false, false, false, false, false, false, false, false, false, false, false, false, false, false, false, false, false, false, false, false, false, false, false, false, false, false, false] rfl rfl (one_of HT_.out (by kernel_rfl)) (by decide) (fun K hK => ?_)
        refine goes_ Try.func27 (by kernel_rfl) rfl #[.agg #[.string a0_0, .slice A0_1 l0_1.length c0_1, .slice A0_2 l0_2.length c0_2], .string a1] (by rfl) rfl rfl (by (try simp only [List.map_toArray, List.map_cons, List.map_nil]); first | done | rfl | (simp only [List.length_drop, List.length_take]; rfl)) ?_
        with_reducible refine (almanacref26_Only.calls k a0_0 (fun k_ => k_ < w.heap.size) _ _ l0_1 (fun k_ => k_ < w.heap.size) _ _ l0_2 a1 t546 t547 t550 _ ?side1 ?side2 A11.out).mono ?_
        (case side1 => exact Kd.V_mk HC0_1.out (Kd.F_below (Kd.C_F k45_heap HR0_1.out) (bU HB)))
        (case side2 => exact Kd.V_mk HC0_2.out (Kd.F_below (Kd.C_F k25_heap HR0_2.out) (bU HB)))
        rintro e w42 ⟨v548, v551, rfl, ho0, ho1, hb⟩
        refine ⟨_, rfl, ?_⟩
        have n0_ := Aside0.mk (Kd.N_elder' (by (with_reducible repeat (first | apply Kd.N_alloc | apply Kd.N_drewN | apply Kd.N_drew)); exact HO527.out) (Kd.N_base ho1) hb)
        have n1_ := Aside0.mk (Kd.V_elder' (by (with_reducible repeat (first | apply Kd.V_alloc | apply Kd.V_drewN | apply Kd.V_drew)); exact HO530.out) (Kd.N_base ho1) hb)
        have n2_ := Aside0.mk (Kd.N_elder' (by (with_reducible repeat (first | apply Kd.N_alloc | apply Kd.N_drewN | apply Kd.N_drew)); exact HO534.out) (Kd.N_base ho1) hb)
        have n3_ := Aside0.mk (Kd.V_elder' (by (with_reducible repeat (first | apply Kd.V_alloc | apply Kd.V_drewN | apply Kd.V_drew)); exact HO537.out) (Kd.N_base ho1) hb)
        have n4_ := Aside0.mk (Kd.V_elder' (by (with_reducible repeat (first | apply Kd.V_alloc | apply Kd.V_drewN | apply Kd.V_drew)); exact HO542.out) (Kd.N_base ho1) hb)
        have n5_ := Aside0.mk (Kd.N_elder' (by (with_reducible repeat (first | apply Kd.N_alloc | apply Kd.N_drewN | apply Kd.N_drew)); exact HO545.out) (Kd.N_base ho1) hb)
        have n6_ := Aside0.mk (Kd.V_lower (Kd.V_mono (ok' := fun k_ => some k_ ≠ (v551 : Value).ownBlock ∧ some k_ ≠ (.slice Ao36 t525.length co36 : Value).ownBlock ∧ some k_ ≠ (.slice Ao38 t532.length co38 : Value).ownBlock ∧ some k_ ≠ (v544 : Value).ownBlock ∧ k_ ≠ gb521) ho0 (fun k_ hk_ => ⟨hk_.2, Or.elim hk_.1 (fun hs_ => Or.elim hs_ (fun hs_ => fun e_ => Nat.not_le.2 hs_ (Kd.N_base HO527.out k_ e_.symm)) (fun hs_ => fun e_ => Nat.not_le.2 hs_ (Kd.N_base HO527.out k_ e_.symm))) (fun hn_ => (Kd.fresh' (Kd.N_lt (by (with_reducible repeat (first | apply Kd.N_alloc | apply Kd.N_drewN | apply Kd.N_drew)); exact HO527.out)) k_ hn_)), Or.elim hk_.1 (fun hs_ => Or.elim hs_ (fun hs_ => fun e_ => Nat.not_le.2 hs_ (Kd.N_base HO534.out k_ e_.symm)) (fun hs_ => fun e_ => Nat.not_le.2 hs_ (Kd.N_base HO534.out k_ e_.symm))) (fun hn_ => (Kd.fresh' (Kd.N_lt (by (with_reducible repeat (first | apply Kd.N_alloc | apply Kd.N_drewN | apply Kd.N_drew)); exact HO534.out)) k_ hn_)), Or.elim hk_.1 (fun hs_ => Or.elim hs_ (fun hs_ => fun e_ => Nat.not_le.2 hs_ (Kd.N_base HO545.out k_ e_.symm)) (fun hs_ => fun e_ => Nat.not_le.2 hs_ (Kd.N_base HO545.out k_ e_.symm))) (fun hn_ => (Kd.fresh' (Kd.N_lt (by (with_reducible repeat (first | apply Kd.N_alloc | apply Kd.N_drewN | apply Kd.N_drew)); exact HO545.out)) k_ hn_)), Or.elim hk_.1 (fun hs_ => Or.elim hs_ (fun hs_ => fun e_ => Nat.not_le.2 hs_ (by rw [e_]; exact GW521.out)) (fun hs_ => fun e_ => Nat.not_le.2 hs_ (by rw [e_]; exact GW521.out))) (fun hn_ => (Kd.freshB (g := gb521) (o := .cells #[.string a0_0, .slice A0_1 l0_1.length c0_1, .slice A0_2 l0_2.length c0_2] 25 (0, 0)) (kU BK521) k_ hn_))⟩)) (below_size (bU HB)))
        have n7_ := Aside0.mk (Kd.N_lower (Kd.N_mono (ok' := fun k_ => some k_ ≠ (.slice Ao36 t525.length co36 : Value).ownBlock ∧ some k_ ≠ (.slice Ao38 t532.length co38 : Value).ownBlock ∧ some k_ ≠ (v544 : Value).ownBlock ∧ k_ ≠ gb521) ho1 (fun k_ hk_ => ⟨Or.elim hk_ (fun hs_ => Or.elim hs_ (fun hs_ => fun e_ => Nat.not_le.2 hs_ (Kd.N_base HO527.out k_ e_.symm)) (fun hs_ => fun e_ => Nat.not_le.2 hs_ (Kd.N_base HO527.out k_ e_.symm))) (fun hn_ => (Kd.fresh' (Kd.N_lt (by (with_reducible repeat (first | apply Kd.N_alloc | apply Kd.N_drewN | apply Kd.N_drew)); exact HO527.out)) k_ hn_)), Or.elim hk_ (fun hs_ => Or.elim hs_ (fun hs_ => fun e_ => Nat.not_le.2 hs_ (Kd.N_base HO534.out k_ e_.symm)) (fun hs_ => fun e_ => Nat.not_le.2 hs_ (Kd.N_base HO534.out k_ e_.symm))) (fun hn_ => (Kd.fresh' (Kd.N_lt (by (with_reducible repeat (first | apply Kd.N_alloc | apply Kd.N_drewN | apply Kd.N_drew)); exact HO534.out)) k_ hn_)), Or.elim hk_ (fun hs_ => Or.elim hs_ (fun hs_ => fun e_ => Nat.not_le.2 hs_ (Kd.N_base HO545.out k_ e_.symm)) (fun hs_ => fun e_ => Nat.not_le.2 hs_ (Kd.N_base HO545.out k_ e_.symm))) (fun hn_ => (Kd.fresh' (Kd.N_lt (by (with_reducible repeat (first | apply Kd.N_alloc | apply Kd.N_drewN | apply Kd.N_drew)); exact HO545.out)) k_ hn_)), Or.elim hk_ (fun hs_ => Or.elim hs_ (fun hs_ => fun e_ => Nat.not_le.2 hs_ (by rw [e_]; exact GW521.out)) (fun hs_ => fun e_ => Nat.not_le.2 hs_ (by rw [e_]; exact GW521.out))) (fun hn_ => (Kd.freshB (g := gb521) (o := .cells #[.string a0_0, .slice A0_1 l0_1.length c0_1, .slice A0_2 l0_2.length c0_2] 25 (0, 0)) (kU BK521) k_ hn_))⟩)) (below_size (bU HB)))
        have n8_ := Aside0.mk (blk_below (kU BK521) hb)
        have n9_ := Aside0.mk (below_step (bU HB) hb)
        clear HO527
        clear HO530
        clear HO534
        clear HO537
        clear HO542
        clear HO545
        clear BK521
        clear HB
        have HO527 := n0_
        have HO530 := n1_
        have HO534 := n2_
        have HO537 := n3_
        have HO542 := n4_
        have HO545 := n5_
        have HO549 := n6_
        have HO552 := n7_
        have BK521 := n8_
        have HB := n9_
        clear n0_ n1_ n2_ n3_ n4_ n5_ n6_ n7_ n8_ n9_
        (try clear hb)
        (try clear hb2)
        (try clear hk)
        (try clear hi)
        (try clear ho0)
        (try clear ho1)
        obtain ⟨Ao43, co43, eo43⟩ := Kd.V_slice HO542.out
        (first | subst eo43 | (injection eo43 with f1_ f2_ f3_; have f4_ := f1_.symm; have f5_ := f3_.symm; clear f1_ f2_ f3_; subst f4_; subst f5_))
        obtain ⟨Ao44, co44, eo44⟩ := Kd.N_slice HO545.out
        (first | subst eo44 | (injection eo44 with f1_ f2_ f3_; have f4_ := f1_.symm; have f5_ := f3_.symm; clear f1_ f2_ f3_; subst f4_; subst f5_))
        obtain ⟨Ao45, co45, eo45⟩ := Kd.V_slice HO549.out
        (first | subst eo45 | (injection eo45 with f1_ f2_ f3_; have f4_ := f1_.symm; have f5_ := f3_.symm; clear f1_ f2_ f3_; subst f4_; subst f5_))
        obtain ⟨Ao46, co46, eo46⟩ := Kd.N_slice HO552.out
        (first | subst eo46 | (injection eo46 with f1_ f2_ f3_; have f4_ := f1_.symm; have f5_ := f3_.symm; clear f1_ f2_ f3_; subst f4_; subst f5_))
        refine hK.out _ _ ⟨(blk_cell BK521.out 0).trans rfl, (blk_cell BK521.out 1).trans rfl, (blk_cell BK521.out 2).trans rfl⟩ (fun hHeld => ?_)
        clear hK K
        refine norm_ (a' := ?_) ?_ ?_
        rotate_left
        ·show Act.put _ (some 24) _ = _
         simp only [Act.put, List.setIfInBounds_toArray, List.set_cons_zero, List.set_cons_succ, i64_w, i32_w]
         rfl
        refine one_ (i := 14) (N := some 25) #[true, true, true, true, true, true, true, true, true, true, true, true, true, true, true, false, false, false, false, false, false, false, false, false, false, false, false, false, false, false, false, false, false, false, false, false, false, false, false, false, false, false, false, false, false, false, false, false, false, false, false, false, false, false, false, false, false, false] rfl rfl (one_of HT_.out (by kernel_rfl)) (by decide) (fun K hK => ?_)
        refine goes_ Try.func25 (by kernel_rfl) rfl #[.agg #[.string t539, .slice Ao43 t540.length co43, .slice Ao44 t543.length co44], .agg #[.string t546, .slice Ao45 t547.length co45, .slice Ao46 t550.length co46]] (by rfl) rfl rfl (by (try simp only [List.map_toArray, List.map_cons, List.map_nil]); first | done | rfl | (simp only [List.length_drop, List.length_take]; rfl)) ?_
        with_reducible refine (almanacref12_Same.calls k t539 _ _ t540 _ _ t543 t546 _ _ t547 _ _ t550 true _ ?side1 ?side2 ?side3 ?side4 ?side5 ?side6 ?side7 ?side8 A12.out).mono ?_
        (case side1 => exact cU (Kd.V_reads' HO542.out).2.2)
        (case side2 => exact (Kd.V_reads' HO542.out).2.1)
        (case side3 => exact cU (Kd.N_reads' HO545.out).2.2)
        (case side4 => exact (Kd.N_reads' HO545.out).2.1)
        (case side5 => exact cU (Kd.V_reads' HO549.out).2.2)
        (case side6 => exact (Kd.V_reads' HO549.out).2.1)
        (case side7 => exact cU (Kd.N_reads' HO552.out).2.2)
        (case side8 => exact (Kd.N_reads' HO552.out).2.1)
        rintro e w47 ⟨rfl, hb⟩
        refine ⟨_, rfl, ?_⟩
        have n0_ := Aside0.mk (Kd.N_below (by (with_reducible repeat (first | apply Kd.N_alloc | apply Kd.N_drewN | apply Kd.N_drew)); exact HO527.out) hb)
        have n1_ := Aside0.mk (Kd.V_below (by (with_reducible repeat (first | apply Kd.V_alloc | apply Kd.V_drewN | apply Kd.V_drew)); exact HO530.out) hb)
        have n2_ := Aside0.mk (Kd.N_below (by (with_reducible repeat (first | apply Kd.N_alloc | apply Kd.N_drewN | apply Kd.N_drew)); exact HO534.out) hb)
        have n3_ := Aside0.mk (Kd.V_below (by (with_reducible repeat (first | apply Kd.V_alloc | apply Kd.V_drewN | apply Kd.V_drew)); exact HO537.out) hb)
        have n4_ := Aside0.mk (Kd.V_below (by (with_reducible repeat (first | apply Kd.V_alloc | apply Kd.V_drewN | apply Kd.V_drew)); exact HO542.out) hb)
        have n5_ := Aside0.mk (Kd.N_below (by (with_reducible repeat (first | apply Kd.N_alloc | apply Kd.N_drewN | apply Kd.N_drew)); exact HO545.out) hb)
        have n6_ := Aside0.mk (Kd.V_below (by (with_reducible repeat (first | apply Kd.V_alloc | apply Kd.V_drewN | apply Kd.V_drew)); exact HO549.out) hb)
        have n7_ := Aside0.mk (Kd.N_below (by (with_reducible repeat (first | apply Kd.N_alloc | apply Kd.N_drewN | apply Kd.N_drew)); exact HO552.out) hb)
        have n8_ := Aside0.mk (blk_below (kU BK521) hb)
        have n9_ := Aside0.mk (below_step (bU HB) hb)
        clear HO527
        clear HO530
        clear HO534
        clear HO537
        clear HO542
        clear HO545
        clear HO549
        clear HO552
        clear BK521
        clear HB
        have HO527 := n0_
        have HO530 := n1_
        have HO534 := n2_
        have HO537 := n3_
        have HO542 := n4_
        have HO545 := n5_
        have HO549 := n6_
        have HO552 := n7_
        have BK521 := n8_
        have HB := n9_
        clear n0_ n1_ n2_ n3_ n4_ n5_ n6_ n7_ n8_ n9_
        (try clear hb)
        (try clear hb2)
        (try clear hk)
        (try clear hi)
        refine hK.out _ _ ⟨(blk_cell BK521.out 0).trans rfl, (blk_cell BK521.out 1).trans rfl, (blk_cell BK521.out 2).trans rfl⟩ (fun hHeld => ?_)
        clear hK K
        refine norm_ (a' := ?_) ?_ ?_
        rotate_left
        ·show Act.put _ (some 25) _ = _
         simp only [Act.put, List.setIfInBounds_toArray, List.set_cons_zero, List.set_cons_succ, i64_w, i32_w]
         rfl
        refine pure_ (i := 15) (N := some 26) (v := ?_) (a' := ?_) #[true, true, true, true, true, true, true, true, true, true, true, true, true, true, true, true, false, false, false, false, false, false, false, false, false, false, false, false, false, false, false, false, false, false, false, false, false, false, false, false, false, false, false, false, false, false, false, false, false, false, false, false, false, false, false, false, false, false] rfl rfl (any_of HT_.out (by kernel_rfl)) (fun _ _ _ h => h) (Or.inl ⟨by rfl, ?_⟩) ?_ ?_
        rotate_left
        ·intro w'
         go_simp
         with_reducible rfl
        rotate_left
        ·simp only [Act.put, List.setIfInBounds_toArray, List.set_cons_zero, List.set_cons_succ, i64_w, i32_w]
         rfl
        refine pure_ (i := 16) (N := some 27) (v := ?_) (a' := ?_) #[true, true, true, true, true, true, true, true, true, true, true, true, true, true, true, true, true, false, false, false, false, false, false, false, false, false, false, false, false, false, false, false, false, false, false, false, false, false, false, false, false, false, false, false, false, false, false, false, false, false, false, false, false, false, false, false, false, false] rfl rfl (any_of HT_.out (by kernel_rfl)) (fun _ _ _ h => h) (Or.inl ⟨by rfl, ?_⟩) ?_ ?_
        rotate_left
        ·intro w'
         go_simp
         with_reducible rfl
        rotate_left
        ·simp only [Act.put, List.setIfInBounds_toArray, List.set_cons_zero, List.set_cons_succ, i64_w, i32_w]
         rfl
        refine pure_ (i := 18) (N := some 29) (v := ?_) (a' := ?_) #[true, true, true, true, true, true, true, true, true, true, true, true, true, true, true, true, true, false, true, false, false, false, false, false, false, false, false, false, false, false, false, false, false, false, false, false, false, false, false, false, false, false, false, false, false, false, false, false, false, false, false, false, false, false, false, false, false, false] rfl rfl (any_of HT_.out (by kernel_rfl)) (fun _ _ _ h => h) (Or.inl ⟨by rfl, ?_⟩) ?_ ?_
        rotate_left
        ·intro w'
         go_simp
         with_reducible rfl
        rotate_left
        ·simp only [Act.put, List.setIfInBounds_toArray, List.set_cons_zero, List.set_cons_succ, i64_w, i32_w]
         rfl
        refine pure_ (i := 21) (N := some 32) (v := ?_) (a' := ?_) #[true, true, true, true, true, true, true, true, true, true, true, true, true, true, true, true, true, false, true, false, false, true, false, false, false, false, false, false, false, false, false, false, false, false, false, false, false, false, false, false, false, false, false, false, false, false, false, false, false, false, false, false, false, false, false, false, false, false] rfl rfl (any_of HT_.out (by kernel_rfl)) (fun _ _ _ h => h) (Or.inl ⟨by rfl, ?_⟩) ?_ ?_
        rotate_left
        ·intro w'
         go_simp
         with_reducible rfl
        rotate_left
        ·simp only [Act.put, List.setIfInBounds_toArray, List.set_cons_zero, List.set_cons_succ, i64_w, i32_w]
         rfl
        refine take_ (i := 17) (N := some 28) (v := ?_) (a' := ?_) #[true, true, true, true, true, true, true, true, true, true, true, true, true, true, true, true, true, true, true, false, false, true, false, false, false, false, false, false, false, false, false, false, false, false, false, false, false, false, false, false, false, false, false, false, false, false, false, false, false, false, false, false, false, false, false, false, false, false] rfl rfl (take_ofW HT_.out HW_.out (by kernel_rfl)) (fun _ _ _ h => h) (Or.inl ⟨by rfl, ?_⟩) hHeld ?_ ?_
        rotate_left
        ·rintro w' ⟨s0, s1, s2⟩
         go_simp
         with_reducible rfl
        rotate_left
        ·simp only [Act.put, List.setIfInBounds_toArray, List.set_cons_zero, List.set_cons_succ, i64_w, i32_w]
         rfl
        refine take_ (i := 20) (N := some 31) (v := ?_) (a' := ?_) #[true, true, true, true, true, true, true, true, true, true, true, true, true, true, true, true, true, true, true, false, true, true, false, false, false, false, false, false, false, false, false, false, false, false, false, false, false, false, false, false, false, false, false, false, false, false, false, false, false, false, false, false, false, false, false, false, false, false] rfl rfl (take_ofW HT_.out HW_.out (by kernel_rfl)) (fun _ _ _ h => h) (Or.inl ⟨by rfl, ?_⟩) hHeld ?_ ?_
        rotate_left
        ·rintro w' ⟨s0, s1, s2⟩
         go_simp
         with_reducible rfl
        rotate_left
        ·simp only [Act.put, List.setIfInBounds_toArray, List.set_cons_zero, List.set_cons_succ, i64_w, i32_w]
         rfl
        refine one_ (i := 19) (N := some 30) #[true, true, true, true, true, true, true, true, true, true, true, true, true, true, true, true, true, true, true, true, true, true, false, false, false, false, false, false, false, false, false, false, false, false, false, false, false, false, false, false, false, false, false, false, false, false, false, false, false, false, false, false, false, false, false, false, false, false] rfl rfl (one_of HT_.out (by kernel_rfl)) (by decide) (fun K hK => ?_)
        refine goes_ Try.func20 (by kernel_rfl) rfl #[.agg #[.string a0_0, .slice A0_1 l0_1.length c0_1, .slice A0_2 l0_2.length c0_2], .string a1] (by rfl) rfl rfl (by (try simp only [List.map_toArray, List.map_cons, List.map_nil]); first | done | rfl | (simp only [List.length_drop, List.length_take]; rfl)) ?_
        with_reducible refine (itip_Status.calls k a0_0 _ _ l0_1 _ _ l0_2 a1 t554 _ ?side1 ?side2 ?side3 ?side4 A14.out).mono ?_
        (case side1 => exact cU (Kd.C_below HR0_1.out HB.out))
        (case side2 => exact HC0_1.out)
        (case side3 => exact cU (Kd.C_below HR0_2.out HB.out))
        (case side4 => exact HC0_2.out)
        rintro e w48 ⟨rfl, hb⟩
        refine ⟨_, rfl, ?_⟩
        have n0_ := Aside0.mk (Kd.N_below (by (with_reducible repeat (first | apply Kd.N_alloc | apply Kd.N_drewN | apply Kd.N_drew)); exact HO527.out) hb)
        have n1_ := Aside0.mk (Kd.V_below (by (with_reducible repeat (first | apply Kd.V_alloc | apply Kd.V_drewN | apply Kd.V_drew)); exact HO530.out) hb)
        have n2_ := Aside0.mk (Kd.N_below (by (with_reducible repeat (first | apply Kd.N_alloc | apply Kd.N_drewN | apply Kd.N_drew)); exact HO534.out) hb)
        have n3_ := Aside0.mk (Kd.V_below (by (with_reducible repeat (first | apply Kd.V_alloc | apply Kd.V_drewN | apply Kd.V_drew)); exact HO537.out) hb)
        have n4_ := Aside0.mk (Kd.V_below (by (with_reducible repeat (first | apply Kd.V_alloc | apply Kd.V_drewN | apply Kd.V_drew)); exact HO542.out) hb)
        have n5_ := Aside0.mk (Kd.N_below (by (with_reducible repeat (first | apply Kd.N_alloc | apply Kd.N_drewN | apply Kd.N_drew)); exact HO545.out) hb)
        have n6_ := Aside0.mk (Kd.V_below (by (with_reducible repeat (first | apply Kd.V_alloc | apply Kd.V_drewN | apply Kd.V_drew)); exact HO549.out) hb)
        have n7_ := Aside0.mk (Kd.N_below (by (with_reducible repeat (first | apply Kd.N_alloc | apply Kd.N_drewN | apply Kd.N_drew)); exact HO552.out) hb)
        have n8_ := Aside0.mk (blk_below (kU BK521) hb)
        have n9_ := Aside0.mk (below_step (bU HB) hb)
        clear HO527
        clear HO530
        clear HO534
        clear HO537
        clear HO542
        clear HO545
        clear HO549
        clear HO552
        clear BK521
        clear HB
        have HO527 := n0_
        have HO530 := n1_
        have HO534 := n2_
        have HO537 := n3_
        have HO542 := n4_
        have HO545 := n5_
        have HO549 := n6_
        have HO552 := n7_
        have BK521 := n8_
        have HB := n9_
        clear n0_ n1_ n2_ n3_ n4_ n5_ n6_ n7_ n8_ n9_
        (try clear hb)
        (try clear hb2)
        (try clear hk)
        (try clear hi)
        refine hK.out _ _ ⟨(blk_cell BK521.out 0).trans rfl, (blk_cell BK521.out 1).trans rfl, (blk_cell BK521.out 2).trans rfl⟩ (fun hHeld => ?_)
        clear hK K
        refine norm_ (a' := ?_) ?_ ?_
        rotate_left
        ·show Act.put _ (some 30) _ = _
         simp only [Act.put, List.setIfInBounds_toArray, List.set_cons_zero, List.set_cons_succ, i64_w, i32_w]
         rfl
        refine one_ (i := 22) (N := some 33) #[true, true, true, true, true, true, true, true, true, true, true, true, true, true, true, true, true, true, true, true, true, true, true, false, false, false, false, false, false, false, false, false, false, false, false, false, false, false, false, false, false, false, false, false, false, false, false, false, false, false, false, false, false, false, false, false, false, false] rfl rfl (one_of HT_.out (by kernel_rfl)) (by decide) (fun K hK => ?_)
        refine goes_ Try.func28 (by kernel_rfl) rfl #[.agg #[.string a0_0, .slice A0_1 l0_1.length c0_1, .slice A0_2 l0_2.length c0_2], .string a1] (by rfl) rfl rfl (by (try simp only [List.map_toArray, List.map_cons, List.map_nil]); first | done | rfl | (simp only [List.length_drop, List.length_take]; rfl)) ?_
        with_reducible refine (almanacref26_Status.calls k a0_0 _ _ l0_1 _ _ l0_2 a1 t555 _ ?side1 ?side2 ?side3 ?side4 A15.out).mono ?_
        (case side1 => exact cU (Kd.C_below HR0_1.out HB.out))
        (case side2 => exact HC0_1.out)
        (case side3 => exact cU (Kd.C_below HR0_2.out HB.out))
        (case side4 => exact HC0_2.out)
        rintro e w49 ⟨rfl, hb⟩
        refine ⟨_, rfl, ?_⟩
        have n0_ := Aside0.mk (Kd.N_below (by (with_reducible repeat (first | apply Kd.N_alloc | apply Kd.N_drewN | apply Kd.N_drew)); exact HO527.out) hb)
        have n1_ := Aside0.mk (Kd.V_below (by (with_reducible repeat (first | apply Kd.V_alloc | apply Kd.V_drewN | apply Kd.V_drew)); exact HO530.out) hb)
        have n2_ := Aside0.mk (Kd.N_below (by (with_reducible repeat (first | apply Kd.N_alloc | apply Kd.N_drewN | apply Kd.N_drew)); exact HO534.out) hb)
        have n3_ := Aside0.mk (Kd.V_below (by (with_reducible repeat (first | apply Kd.V_alloc | apply Kd.V_drewN | apply Kd.V_drew)); exact HO537.out) hb)
        have n4_ := Aside0.mk (Kd.V_below (by (with_reducible repeat (first | apply Kd.V_alloc | apply Kd.V_drewN | apply Kd.V_drew)); exact HO542.out) hb)
        have n5_ := Aside0.mk (Kd.N_below (by (with_reducible repeat (first | apply Kd.N_alloc | apply Kd.N_drewN | apply Kd.N_drew)); exact HO545.out) hb)
        have n6_ := Aside0.mk (Kd.V_below (by (with_reducible repeat (first | apply Kd.V_alloc | apply Kd.V_drewN | apply Kd.V_drew)); exact HO549.out) hb)
        have n7_ := Aside0.mk (Kd.N_below (by (with_reducible repeat (first | apply Kd.N_alloc | apply Kd.N_drewN | apply Kd.N_drew)); exact HO552.out) hb)
        have n8_ := Aside0.mk (blk_below (kU BK521) hb)
        have n9_ := Aside0.mk (below_step (bU HB) hb)
        clear HO527
        clear HO530
        clear HO534
        clear HO537
        clear HO542
        clear HO545
        clear HO549
        clear HO552
        clear BK521
        clear HB
        have HO527 := n0_
        have HO530 := n1_
        have HO534 := n2_
        have HO537 := n3_
        have HO542 := n4_
        have HO545 := n5_
        have HO549 := n6_
        have HO552 := n7_
        have BK521 := n8_
        have HB := n9_
        clear n0_ n1_ n2_ n3_ n4_ n5_ n6_ n7_ n8_ n9_
        (try clear hb)
        (try clear hb2)
        (try clear hk)
        (try clear hi)
        refine hK.out _ _ ⟨(blk_cell BK521.out 0).trans rfl, (blk_cell BK521.out 1).trans rfl, (blk_cell BK521.out 2).trans rfl⟩ (fun hHeld => ?_)
        clear hK K
        refine norm_ (a' := ?_) ?_ ?_
        rotate_left
        ·show Act.put _ (some 33) _ = _
         simp only [Act.put, List.setIfInBounds_toArray, List.set_cons_zero, List.set_cons_succ, i64_w, i32_w]
         rfl
        refine pure_ (i := 23) (N := some 34) (v := ?_) (a' := ?_) #[true, true, true, true, true, true, true, true, true, true, true, true, true, true, true, true, true, true, true, true, true, true, true, true, false, false, false, false, false, false, false, false, false, false, false, false, false, false, false, false, false, false, false, false, false, false, false, false, false, false, false, false, false, false, false, false, false, false] rfl rfl (any_of HT_.out (by kernel_rfl)) (fun _ _ _ h => h) (Or.inl ⟨by rfl, ?_⟩) ?_ ?_
        rotate_left
        ·intro w'
         go_simp
         with_reducible rfl
        rotate_left
        ·simp only [Act.put, List.setIfInBounds_toArray, List.set_cons_zero, List.set_cons_succ, i64_w, i32_w]
         rfl
        refine pure_ (i := 24) (N := some 35) (v := ?_) (a' := ?_) #[true, true, true, true, true, true, true, true, true, true, true, true, true, true, true, true, true, true, true, true, true, true, true, true, true, false, false, false, false, false, false, false, false, false, false, false, false, false, false, false, false, false, false, false, false, false, false, false, false, false, false, false, false, false, false, false, false, false] rfl rfl (any_of HT_.out (by kernel_rfl)) (fun _ _ _ h => h) (Or.inl ⟨by rfl, ?_⟩) ?_ ?_
        rotate_left
        ·intro w'
         go_simp
         with_reducible rfl
        rotate_left
        ·simp only [Act.put, List.setIfInBounds_toArray, List.set_cons_zero, List.set_cons_succ, i64_w, i32_w]
         rfl
        refine pure_ (i := 25) (N := some 36) (v := ?_) (a' := ?_) #[true, true, true, true, true, true, true, true, true, true, true, true, true, true, true, true, true, true, true, true, true, true, true, true, true, true, false, false, false, false, false, false, false, false, false, false, false, false, false, false, false, false, false, false, false, false, false, false, false, false, false, false, false, false, false, false, false, false] rfl rfl (any_of HT_.out (by kernel_rfl)) (fun _ _ _ h => h) (Or.inl ⟨by rfl, ?_⟩) ?_ ?_
        rotate_left
        ·intro w'
         go_simp
         with_reducible rfl
        rotate_left
        ·simp only [Act.put, List.setIfInBounds_toArray, List.set_cons_zero, List.set_cons_succ, i64_w, i32_w]
         rfl
        refine pure_ (i := 27) (N := some 38) (v := ?_) (a' := ?_) #[true, true, true, true, true, true, true, true, true, true, true, true, true, true, true, true, true, true, true, true, true, true, true, true, true, true, false, true, false, false, false, false, false, false, false, false, false, false, false, false, false, false, false, false, false, false, false, false, false, false, false, false, false, false, false, false, false, false] rfl rfl (any_of HT_.out (by kernel_rfl)) (fun _ _ _ h => h) (Or.inl ⟨by rfl, ?_⟩) ?_ ?_
        rotate_left
        ·intro w'
         go_simp
         with_reducible rfl
        rotate_left
        ·simp only [Act.put, List.setIfInBounds_toArray, List.set_cons_zero, List.set_cons_succ, i64_w, i32_w]
         rfl
        refine pure_ (i := 28) (N := some 39) (v := ?_) (a' := ?_) #[true, true, true, true, true, true, true, true, true, true, true, true, true, true, true, true, true, true, true, true, true, true, true, true, true, true, false, true, true, false, false, false, false, false, false, false, false, false, false, false, false, false, false, false, false, false, false, false, false, false, false, false, false, false, false, false, false, false] rfl rfl (any_of HT_.out (by kernel_rfl)) (fun _ _ _ h => h) (Or.inl ⟨by rfl, ?_⟩) ?_ ?_
        rotate_left
        ·intro w'
         go_simp
         with_reducible rfl
        rotate_left
        ·simp only [Act.put, List.setIfInBounds_toArray, List.set_cons_zero, List.set_cons_succ, i64_w, i32_w]
         rfl
        refine pure_ (i := 31) (N := some 42) (v := ?_) (a' := ?_) #[true, true, true, true, true, true, true, true, true, true, true, true, true, true, true, true, true, true, true, true, true, true, true, true, true, true, false, true, true, false, false, true, false, false, false, false, false, false, false, false, false, false, false, false, false, false, false, false, false, false, false, false, false, false, false, false, false, false] rfl rfl (any_of HT_.out (by kernel_rfl)) (fun _ _ _ h => h) (Or.inl ⟨by rfl, ?_⟩) ?_ ?_
        rotate_left
        ·intro w'
         go_simp
         with_reducible rfl
        rotate_left
        ·simp only [Act.put, List.setIfInBounds_toArray, List.set_cons_zero, List.set_cons_succ, i64_w, i32_w]
         rfl
        refine pure_ (i := 32) (N := some 43) (v := ?_) (a' := ?_) #[true, true, true, true, true, true, true, true, true, true, true, true, true, true, true, true, true, true, true, true, true, true, true, true, true, true, false, true, true, false, false, true, true, false, false, false, false, false, false, false, false, false, false, false, false, false, false, false, false, false, false, false, false, false, false, false, false, false] rfl rfl (any_of HT_.out (by kernel_rfl)) (fun _ _ _ h => h) (Or.inl ⟨by rfl, ?_⟩) ?_ ?_
        rotate_left
        ·intro w'
         go_simp
         with_reducible rfl
        rotate_left
        ·simp only [Act.put, List.setIfInBounds_toArray, List.set_cons_zero, List.set_cons_succ, i64_w, i32_w]
         rfl
        refine take_ (i := 26) (N := some 37) (v := ?_) (a' := ?_) #[true, true, true, true, true, true, true, true, true, true, true, true, true, true, true, true, true, true, true, true, true, true, true, true, true, true, true, true, true, false, false, true, true, false, false, false, false, false, false, false, false, false, false, false, false, false, false, false, false, false, false, false, false, false, false, false, false, false] rfl rfl (take_ofW HT_.out HW_.out (by kernel_rfl)) (fun _ _ _ h => h) (Or.inl ⟨by rfl, ?_⟩) hHeld ?_ ?_
        rotate_left
        ·rintro w' ⟨s0, s1, s2⟩
         go_simp
         with_reducible rfl
        rotate_left
        ·simp only [Act.put, List.setIfInBounds_toArray, List.set_cons_zero, List.set_cons_succ, i64_w, i32_w]
         rfl
        refine take_ (i := 30) (N := some 41) (v := ?_) (a' := ?_) #[true, true, true, true, true, true, true, true, true, true, true, true, true, true, true, true, true, true, true, true, true, true, true, true, true, true, true, true, true, false, true, true, true, false, false, false, false, false, false, false, false, false, false, false, false, false, false, false, false, false, false, false, false, false, false, false, false, false] rfl rfl (take_ofW HT_.out HW_.out (by kernel_rfl)) (fun _ _ _ h => h) (Or.inl ⟨by rfl, ?_⟩) hHeld ?_ ?_
        rotate_left
        ·rintro w' ⟨s0, s1, s2⟩
         go_simp
         with_reducible rfl
        rotate_left
        ·simp only [Act.put, List.setIfInBounds_toArray, List.set_cons_zero, List.set_cons_succ, i64_w, i32_w]
         rfl
        refine one_ (i := 29) (N := some 40) #[true, true, true, true, true, true, true, true, true, true, true, true, true, true, true, true, true, true, true, true, true, true, true, true, true, true, true, true, true, true, true, true, true, false, false, false, false, false, false, false, false, false, false, false, false, false, false, false, false, false, false, false, false, false, false, false, false, false] rfl rfl (one_of HT_.out (by kernel_rfl)) (by decide) (fun K hK => ?_)
        refine goes_ Try.func19 (by kernel_rfl) rfl #[.agg #[.string a0_0, .slice A0_1 l0_1.length c0_1, .slice A0_2 l0_2.length c0_2], .string a1, .string a2] (by rfl) rfl rfl (by (try simp only [List.map_toArray, List.map_cons, List.map_nil]); first | done | rfl | (simp only [List.length_drop, List.length_take]; rfl)) ?_
        with_reducible refine (itip_SetStatus.calls k a0_0 (fun k_ => k_ < w.heap.size) _ _ l0_1 (fun k_ => k_ < w.heap.size) _ _ l0_2 a1 a2 t556 t557 t560 _ ?side1 ?side2 A17.out).mono ?_
        (case side1 => exact Kd.V_mk HC0_1.out (Kd.F_below (Kd.C_F k45_heap HR0_1.out) (bU HB)))
        (case side2 => exact Kd.V_mk HC0_2.out (Kd.F_below (Kd.C_F k25_heap HR0_2.out) (bU HB)))
        rintro e w50 ⟨v558, v561, rfl, ho0, ho1, hb⟩
        refine ⟨_, rfl, ?_⟩
        have n0_ := Aside0.mk (Kd.N_elder' (by (with_reducible repeat (first | apply Kd.N_alloc | apply Kd.N_drewN | apply Kd.N_drew)); exact HO527.out) (Kd.N_base ho1) hb)
        have n1_ := Aside0.mk (Kd.V_elder' (by (with_reducible repeat (first | apply Kd.V_alloc | apply Kd.V_drewN | apply Kd.V_drew)); exact HO530.out) (Kd.N_base ho1) hb)
        have n2_ := Aside0.mk (Kd.N_elder' (by (with_reducible repeat (first | apply Kd.N_alloc | apply Kd.N_drewN | apply Kd.N_drew)); exact HO534.out) (Kd.N_base ho1) hb)
        have n3_ := Aside0.mk (Kd.V_elder' (by (with_reducible repeat (first | apply Kd.V_alloc | apply Kd.V_drewN | apply Kd.V_drew)); exact HO537.out) (Kd.N_base ho1) hb)
        have n4_ := Aside0.mk (Kd.V_elder' (by (with_reducible repeat (first | apply Kd.V_alloc | apply Kd.V_drewN | apply Kd.V_drew)); exact HO542.out) (Kd.N_base ho1) hb)
        have n5_ := Aside0.mk (Kd.N_elder' (by (with_reducible repeat (first | apply Kd.N_alloc | apply Kd.N_drewN | apply Kd.N_drew)); exact HO545.out) (Kd.N_base ho1) hb)
        have n6_ := Aside0.mk (Kd.V_elder' (by (with_reducible repeat (first | apply Kd.V_alloc | apply Kd.V_drewN | apply Kd.V_drew)); exact HO549.out) (Kd.N_base ho1) hb)
        have n7_ := Aside0.mk (Kd.N_elder' (by (with_reducible repeat (first | apply Kd.N_alloc | apply Kd.N_drewN | apply Kd.N_drew)); exact HO552.out) (Kd.N_base ho1) hb)
        have n8_ := Aside0.mk (Kd.V_lower (Kd.V_mono (ok' := fun k_ => some k_ ≠ (v561 : Value).ownBlock ∧ some k_ ≠ (.slice Ao36 t525.length co36 : Value).ownBlock ∧ some k_ ≠ (.slice Ao38 t532.length co38 : Value).ownBlock ∧ some k_ ≠ (.slice Ao44 t543.length co44 : Value).ownBlock ∧ some k_ ≠ (.slice Ao46 t550.length co46 : Value).ownBlock ∧ k_ ≠ gb521) ho0 (fun k_ hk_ => ⟨hk_.2, Or.elim hk_.1 (fun hs_ => Or.elim hs_ (fun hs_ => fun e_ => Nat.not_le.2 hs_ (Kd.N_base HO527.out k_ e_.symm)) (fun hs_ => fun e_ => Nat.not_le.2 hs_ (Kd.N_base HO527.out k_ e_.symm))) (fun hn_ => (Kd.fresh' (Kd.N_lt (by (with_reducible repeat (first | apply Kd.N_alloc | apply Kd.N_drewN | apply Kd.N_drew)); exact HO527.out)) k_ hn_)), Or.elim hk_.1 (fun hs_ => Or.elim hs_ (fun hs_ => fun e_ => Nat.not_le.2 hs_ (Kd.N_base HO534.out k_ e_.symm)) (fun hs_ => fun e_ => Nat.not_le.2 hs_ (Kd.N_base HO534.out k_ e_.symm))) (fun hn_ => (Kd.fresh' (Kd.N_lt (by (with_reducible repeat (first | apply Kd.N_alloc | apply Kd.N_drewN | apply Kd.N_drew)); exact HO534.out)) k_ hn_)), Or.elim hk_.1 (fun hs_ => Or.elim hs_ (fun hs_ => fun e_ => Nat.not_le.2 hs_ (Kd.N_base HO545.out k_ e_.symm)) (fun hs_ => fun e_ => Nat.not_le.2 hs_ (Kd.N_base HO545.out k_ e_.symm))) (fun hn_ => (Kd.fresh' (Kd.N_lt (by (with_reducible repeat (first | apply Kd.N_alloc | apply Kd.N_drewN | apply Kd.N_drew)); exact HO545.out)) k_ hn_)), Or.elim hk_.1 (fun hs_ => Or.elim hs_ (fun hs_ => fun e_ => Nat.not_le.2 hs_ (Kd.N_base HO552.out k_ e_.symm)) (fun hs_ => fun e_ => Nat.not_le.2 hs_ (Kd.N_base HO552.out k_ e_.symm))) (fun hn_ => (Kd.fresh' (Kd.N_lt (by (with_reducible repeat (first | apply Kd.N_alloc | apply Kd.N_drewN | apply Kd.N_drew)); exact HO552.out)) k_ hn_)), Or.elim hk_.1 (fun hs_ => Or.elim hs_ (fun hs_ => fun e_ => Nat.not_le.2 hs_ (by rw [e_]; exact GW521.out)) (fun hs_ => fun e_ => Nat.not_le.2 hs_ (by rw [e_]; exact GW521.out))) (fun hn_ => (Kd.freshB (g := gb521) (o := .cells #[.string a0_0, .slice A0_1 l0_1.length c0_1, .slice A0_2 l0_2.length c0_2] 25 (0, 0)) (kU BK521) k_ hn_))⟩)) (below_size (bU HB)))
        have n9_ := Aside0.mk (Kd.N_lower (Kd.N_mono (ok' := fun k_ => some k_ ≠ (.slice Ao36 t525.length co36 : Value).ownBlock ∧ some k_ ≠ (.slice Ao38 t532.length co38 : Value).ownBlock ∧ some k_ ≠ (.slice Ao44 t543.length co44 : Value).ownBlock ∧ some k_ ≠ (.slice Ao46 t550.length co46 : Value).ownBlock ∧ k_ ≠ gb521) ho1 (fun k_ hk_ => ⟨Or.elim hk_ (fun hs_ => Or.elim hs_ (fun hs_ => fun e_ => Nat.not_le.2 hs_ (Kd.N_base HO527.out k_ e_.symm)) (fun hs_ => fun e_ => Nat.not_le.2 hs_ (Kd.N_base HO527.out k_ e_.symm))) (fun hn_ => (Kd.fresh' (Kd.N_lt (by (with_reducible repeat (first | apply Kd.N_alloc | apply Kd.N_drewN | apply Kd.N_drew)); exact HO527.out)) k_ hn_)), Or.elim hk_ (fun hs_ => Or.elim hs_ (fun hs_ => fun e_ => Nat.not_le.2 hs_ (Kd.N_base HO534.out k_ e_.symm)) (fun hs_ => fun e_ => Nat.not_le.2 hs_ (Kd.N_base HO534.out k_ e_.symm))) (fun hn_ => (Kd.fresh' (Kd.N_lt (by (with_reducible repeat (first | apply Kd.N_alloc | apply Kd.N_drewN | apply Kd.N_drew)); exact HO534.out)) k_ hn_)), Or.elim hk_ (fun hs_ => Or.elim hs_ (fun hs_ => fun e_ => Nat.not_le.2 hs_ (Kd.N_base HO545.out k_ e_.symm)) (fun hs_ => fun e_ => Nat.not_le.2 hs_ (Kd.N_base HO545.out k_ e_.symm))) (fun hn_ => (Kd.fresh' (Kd.N_lt (by (with_reducible repeat (first | apply Kd.N_alloc | apply Kd.N_drewN | apply Kd.N_drew)); exact HO545.out)) k_ hn_)), Or.elim hk_ (fun hs_ => Or.elim hs_ (fun hs_ => fun e_ => Nat.not_le.2 hs_ (Kd.N_base HO552.out k_ e_.symm)) (fun hs_ => fun e_ => Nat.not_le.2 hs_ (Kd.N_base HO552.out k_ e_.symm))) (fun hn_ => (Kd.fresh' (Kd.N_lt (by (with_reducible repeat (first | apply Kd.N_alloc | apply Kd.N_drewN | apply Kd.N_drew)); exact HO552.out)) k_ hn_)), Or.elim hk_ (fun hs_ => Or.elim hs_ (fun hs_ => fun e_ => Nat.not_le.2 hs_ (by rw [e_]; exact GW521.out)) (fun hs_ => fun e_ => Nat.not_le.2 hs_ (by rw [e_]; exact GW521.out))) (fun hn_ => (Kd.freshB (g := gb521) (o := .cells #[.string a0_0, .slice A0_1 l0_1.length c0_1, .slice A0_2 l0_2.length c0_2] 25 (0, 0)) (kU BK521) k_ hn_))⟩)) (below_size (bU HB)))
        have n10_ := Aside0.mk (blk_below (kU BK521) hb)
        have n11_ := Aside0.mk (below_step (bU HB) hb)
        clear HO527
        clear HO530
        clear HO534
        clear HO537
        clear HO542
        clear HO545
        clear HO549
        clear HO552
        clear BK521
        clear HB
        have HO527 := n0_
        have HO530 := n1_
        have HO534 := n2_
        have HO537 := n3_
        have HO542 := n4_
        have HO545 := n5_
        have HO549 := n6_
        have HO552 := n7_
        have HO559 := n8_
        have HO562 := n9_
        have BK521 := n10_
        have HB := n11_
        clear n0_ n1_ n2_ n3_ n4_ n5_ n6_ n7_ n8_ n9_ n10_ n11_
        (try clear hb)
        (try clear hb2)
        (try clear hk)
        (try clear hi)
        (try clear ho0)
        (try clear ho1)
        refine hK.out _ _ ⟨(blk_cell BK521.out 0).trans rfl, (blk_cell BK521.out 1).trans rfl, (blk_cell BK521.out 2).trans rfl⟩ (fun hHeld => ?_)
        clear hK K
        refine norm_ (a' := ?_) ?_ ?_
        rotate_left
        ·show Act.put _ (some 40) _ = _
         simp only [Act.put, List.setIfInBounds_toArray, List.set_cons_zero, List.set_cons_succ, i64_w, i32_w]
         rfl
        refine one_ (i := 33) (N := some 44) #[true, true, true, true, true, true, true, true, true, true, true, true, true, true, true, true, true, true, true, true, true, true, true, true, true, true, true, true, true, true, true, true, true, true, false, false, false, false, false, false, false, false, false, false, false, false, false, false, false, false, false, false, false, false, false, false, false, false] rfl rfl (one_of HT_.out (by kernel_rfl)) (by decide) (fun K hK => ?_)
        refine goes_ Try.func29 (by kernel_rfl) rfl #[.agg #[.string a0_0, .slice A0_1 l0_1.length c0_1, .slice A0_2 l0_2.length c0_2], .string a1, .string a2] (by rfl) rfl rfl (by (try simp only [List.map_toArray, List.map_cons, List.map_nil]); first | done | rfl | (simp only [List.length_drop, List.length_take]; rfl)) ?_
        with_reducible refine (almanacref26_SetStatus.calls k a0_0 (fun k_ => k_ < w.heap.size) _ _ l0_1 (fun k_ => k_ < w.heap.size) _ _ l0_2 a1 a2 t563 t564 t567 _ ?side1 ?side2 A18.out).mono ?_
        (case side1 => exact Kd.V_mk HC0_1.out (Kd.F_below (Kd.C_F k45_heap HR0_1.out) (bU HB)))
        (case side2 => exact Kd.V_mk HC0_2.out (Kd.F_below (Kd.C_F k25_heap HR0_2.out) (bU HB)))
        rintro e w51 ⟨v565, v568, rfl, ho0, ho1, hb⟩
        refine ⟨_, rfl, ?_⟩
        have n0_ := Aside0.mk (Kd.N_elder' (by (with_reducible repeat (first | apply Kd.N_alloc | apply Kd.N_drewN | apply Kd.N_drew)); exact HO527.out) (Kd.N_base ho1) hb)
        have n1_ := Aside0.mk (Kd.V_elder' (by (with_reducible repeat (first | apply Kd.V_alloc | apply Kd.V_drewN | apply Kd.V_drew)); exact HO530.out) (Kd.N_base ho1) hb)
        have n2_ := Aside0.mk (Kd.N_elder' (by (with_reducible repeat (first | apply Kd.N_alloc | apply Kd.N_drewN | apply Kd.N_drew)); exact HO534.out) (Kd.N_base ho1) hb)
        have n3_ := Aside0.mk (Kd.V_elder' (by (with_reducible repeat (first | apply Kd.V_alloc | apply Kd.V_drewN | apply Kd.V_drew)); exact HO537.out) (Kd.N_base ho1) hb)
        have n4_ := Aside0.mk (Kd.V_elder' (by (with_reducible repeat (first | apply Kd.V_alloc | apply Kd.V_drewN | apply Kd.V_drew)); exact HO542.out) (Kd.N_base ho1) hb)
        have n5_ := Aside0.mk (Kd.N_elder' (by (with_reducible repeat (first | apply Kd.N_alloc | apply Kd.N_drewN | apply Kd.N_drew)); exact HO545.out) (Kd.N_base ho1) hb)
        have n6_ := Aside0.mk (Kd.V_elder' (by (with_reducible repeat (first | apply Kd.V_alloc | apply Kd.V_drewN | apply Kd.V_drew)); exact HO549.out) (Kd.N_base ho1) hb)
        have n7_ := Aside0.mk (Kd.N_elder' (by (with_reducible repeat (first | apply Kd.N_alloc | apply Kd.N_drewN | apply Kd.N_drew)); exact HO552.out) (Kd.N_base ho1) hb)
        have n8_ := Aside0.mk (Kd.V_elder' (by (with_reducible repeat (first | apply Kd.V_alloc | apply Kd.V_drewN | apply Kd.V_drew)); exact HO559.out) (Kd.N_base ho1) hb)
        have n9_ := Aside0.mk (Kd.N_elder' (by (with_reducible repeat (first | apply Kd.N_alloc | apply Kd.N_drewN | apply Kd.N_drew)); exact HO562.out) (Kd.N_base ho1) hb)
        have n10_ := Aside0.mk (Kd.V_lower (Kd.V_mono (ok' := fun k_ => some k_ ≠ (v568 : Value).ownBlock ∧ some k_ ≠ (.slice Ao36 t525.length co36 : Value).ownBlock ∧ some k_ ≠ (.slice Ao38 t532.length co38 : Value).ownBlock ∧ some k_ ≠ (.slice Ao44 t543.length co44 : Value).ownBlock ∧ some k_ ≠ (.slice Ao46 t550.length co46 : Value).ownBlock ∧ some k_ ≠ (v561 : Value).ownBlock ∧ k_ ≠ gb521) ho0 (fun k_ hk_ => ⟨hk_.2, Or.elim hk_.1 (fun hs_ => Or.elim hs_ (fun hs_ => fun e_ => Nat.not_le.2 hs_ (Kd.N_base HO527.out k_ e_.symm)) (fun hs_ => fun e_ => Nat.not_le.2 hs_ (Kd.N_base HO527.out k_ e_.symm))) (fun hn_ => (Kd.fresh' (Kd.N_lt (by (with_reducible repeat (first | apply Kd.N_alloc | apply Kd.N_drewN | apply Kd.N_drew)); exact HO527.out)) k_ hn_)), Or.elim hk_.1 (fun hs_ => Or.elim hs_ (fun hs_ => fun e_ => Nat.not_le.2 hs_ (Kd.N_base HO534.out k_ e_.symm)) (fun hs_ => fun e_ => Nat.not_le.2 hs_ (Kd.N_base HO534.out k_ e_.symm))) (fun hn_ => (Kd.fresh' (Kd.N_lt (by (with_reducible repeat (first | apply Kd.N_alloc | apply Kd.N_drewN | apply Kd.N_drew)); exact HO534.out)) k_ hn_)), Or.elim hk_.1 (fun hs_ => Or.elim hs_ (fun hs_ => fun e_ => Nat.not_le.2 hs_ (Kd.N_base HO545.out k_ e_.symm)) (fun hs_ => fun e_ => Nat.not_le.2 hs_ (Kd.N_base HO545.out k_ e_.symm))) (fun hn_ => (Kd.fresh' (Kd.N_lt (by (with_reducible repeat (first | apply Kd.N_alloc | apply Kd.N_drewN | apply Kd.N_drew)); exact HO545.out)) k_ hn_)), Or.elim hk_.1 (fun hs_ => Or.elim hs_ (fun hs_ => fun e_ => Nat.not_le.2 hs_ (Kd.N_base HO552.out k_ e_.symm)) (fun hs_ => fun e_ => Nat.not_le.2 hs_ (Kd.N_base HO552.out k_ e_.symm))) (fun hn_ => (Kd.fresh' (Kd.N_lt (by (with_reducible repeat (first | apply Kd.N_alloc | apply Kd.N_drewN | apply Kd.N_drew)); exact HO552.out)) k_ hn_)), Or.elim hk_.1 (fun hs_ => Or.elim hs_ (fun hs_ => fun e_ => Nat.not_le.2 hs_ (Kd.N_base HO562.out k_ e_.symm)) (fun hs_ => fun e_ => Nat.not_le.2 hs_ (Kd.N_base HO562.out k_ e_.symm))) (fun hn_ => (Kd.fresh' (Kd.N_lt (by (with_reducible repeat (first | apply Kd.N_alloc | apply Kd.N_drewN | apply Kd.N_drew)); exact HO562.out)) k_ hn_)), Or.elim hk_.1 (fun hs_ => Or.elim hs_ (fun hs_ => fun e_ => Nat.not_le.2 hs_ (by rw [e_]; exact GW521.out)) (fun hs_ => fun e_ => Nat.not_le.2 hs_ (by rw [e_]; exact GW521.out))) (fun hn_ => (Kd.freshB (g := gb521) (o := .cells #[.string a0_0, .slice A0_1 l0_1.length c0_1, .slice A0_2 l0_2.length c0_2] 25 (0, 0)) (kU BK521) k_ hn_))⟩)) (below_size (bU HB)))
        have n11_ := Aside0.mk (Kd.N_lower (Kd.N_mono (ok' := fun k_ => some k_ ≠ (.slice Ao36 t525.length co36 : Value).ownBlock ∧ some k_ ≠ (.slice Ao38 t532.length co38 : Value).ownBlock ∧ some k_ ≠ (.slice Ao44 t543.length co44 : Value).ownBlock ∧ some k_ ≠ (.slice Ao46 t550.length co46 : Value).ownBlock ∧ some k_ ≠ (v561 : Value).ownBlock ∧ k_ ≠ gb521) ho1 (fun k_ hk_ => ⟨Or.elim hk_ (fun hs_ => Or.elim hs_ (fun hs_ => fun e_ => Nat.not_le.2 hs_ (Kd.N_base HO527.out k_ e_.symm)) (fun hs_ => fun e_ => Nat.not_le.2 hs_ (Kd.N_base HO527.out k_ e_.symm))) (fun hn_ => (Kd.fresh' (Kd.N_lt (by (with_reducible repeat (first | apply Kd.N_alloc | apply Kd.N_drewN | apply Kd.N_drew)); exact HO527.out)) k_ hn_)), Or.elim hk_ (fun hs_ => Or.elim hs_ (fun hs_ => fun e_ => Nat.not_le.2 hs_ (Kd.N_base HO534.out k_ e_.symm)) (fun hs_ => fun e_ => Nat.not_le.2 hs_ (Kd.N_base HO534.out k_ e_.symm))) (fun hn_ => (Kd.fresh' (Kd.N_lt (by (with_reducible repeat (first | apply Kd.N_alloc | apply Kd.N_drewN | apply Kd.N_drew)); exact HO534.out)) k_ hn_)), Or.elim hk_ (fun hs_ => Or.elim hs_ (fun hs_ => fun e_ => Nat.not_le.2 hs_ (Kd.N_base HO545.out k_ e_.symm)) (fun hs_ => fun e_ => Nat.not_le.2 hs_ (Kd.N_base HO545.out k_ e_.symm))) (fun hn_ => (Kd.fresh' (Kd.N_lt (by (with_reducible repeat (first | apply Kd.N_alloc | apply Kd.N_drewN | apply Kd.N_drew)); exact HO545.out)) k_ hn_)), Or.elim hk_ (fun hs_ => Or.elim hs_ (fun hs_ => fun e_ => Nat.not_le.2 hs_ (Kd.N_base HO552.out k_ e_.symm)) (fun hs_ => fun e_ => Nat.not_le.2 hs_ (Kd.N_base HO552.out k_ e_.symm))) (fun hn_ => (Kd.fresh' (Kd.N_lt (by (with_reducible repeat (first | apply Kd.N_alloc | apply Kd.N_drewN | apply Kd.N_drew)); exact HO552.out)) k_ hn_)), Or.elim hk_ (fun hs_ => Or.elim hs_ (fun hs_ => fun e_ => Nat.not_le.2 hs_ (Kd.N_base HO562.out k_ e_.symm)) (fun hs_ => fun e_ => Nat.not_le.2 hs_ (Kd.N_base HO562.out k_ e_.symm))) (fun hn_ => (Kd.fresh' (Kd.N_lt (by (with_reducible repeat (first | apply Kd.N_alloc | apply Kd.N_drewN | apply Kd.N_drew)); exact HO562.out)) k_ hn_)), Or.elim hk_ (fun hs_ => Or.elim hs_ (fun hs_ => fun e_ => Nat.not_le.2 hs_ (by rw [e_]; exact GW521.out)) (fun hs_ => fun e_ => Nat.not_le.2 hs_ (by rw [e_]; exact GW521.out))) (fun hn_ => (Kd.freshB (g := gb521) (o := .cells #[.string a0_0, .slice A0_1 l0_1.length c0_1, .slice A0_2 l0_2.length c0_2] 25 (0, 0)) (kU BK521) k_ hn_))⟩)) (below_size (bU HB)))
        have n12_ := Aside0.mk (blk_below (kU BK521) hb)
        have n13_ := Aside0.mk (below_step (bU HB) hb)
        clear HO527
        clear HO530
        clear HO534
        clear HO537
        clear HO542
        clear HO545
        clear HO549
        clear HO552
        clear HO559
        clear HO562
        clear BK521
        clear HB
        have HO527 := n0_
        have HO530 := n1_
        have HO534 := n2_
        have HO537 := n3_
        have HO542 := n4_
        have HO545 := n5_
        have HO549 := n6_
        have HO552 := n7_
        have HO559 := n8_
        have HO562 := n9_
        have HO566 := n10_
        have HO569 := n11_
        have BK521 := n12_
        have HB := n13_
        clear n0_ n1_ n2_ n3_ n4_ n5_ n6_ n7_ n8_ n9_ n10_ n11_ n12_ n13_
        (try clear hb)
        (try clear hb2)
        (try clear hk)
        (try clear hi)
        (try clear ho0)
        (try clear ho1)
        obtain ⟨Ao52, co52, eo52⟩ := Kd.V_slice HO559.out
        (first | subst eo52 | (injection eo52 with f1_ f2_ f3_; have f4_ := f1_.symm; have f5_ := f3_.symm; clear f1_ f2_ f3_; subst f4_; subst f5_))
        obtain ⟨Ao53, co53, eo53⟩ := Kd.N_slice HO562.out
        (first | subst eo53 | (injection eo53 with f1_ f2_ f3_; have f4_ := f1_.symm; have f5_ := f3_.symm; clear f1_ f2_ f3_; subst f4_; subst f5_))
        obtain ⟨Ao54, co54, eo54⟩ := Kd.V_slice HO566.out
        (first | subst eo54 | (injection eo54 with f1_ f2_ f3_; have f4_ := f1_.symm; have f5_ := f3_.symm; clear f1_ f2_ f3_; subst f4_; subst f5_))
        obtain ⟨Ao55, co55, eo55⟩ := Kd.N_slice HO569.out
        (first | subst eo55 | (injection eo55 with f1_ f2_ f3_; have f4_ := f1_.symm; have f5_ := f3_.symm; clear f1_ f2_ f3_; subst f4_; subst f5_))
        refine hK.out _ _ ⟨(blk_cell BK521.out 0).trans rfl, (blk_cell BK521.out 1).trans rfl, (blk_cell BK521.out 2).trans rfl⟩ (fun hHeld => ?_)
        clear hK K
        refine norm_ (a' := ?_) ?_ ?_
        rotate_left
        ·show Act.put _ (some 44) _ = _
         simp only [Act.put, List.setIfInBounds_toArray, List.set_cons_zero, List.set_cons_succ, i64_w, i32_w]
         rfl
        refine one_ (i := 34) (N := some 45) #[true, true, true, true, true, true, true, true, true, true, true, true, true, true, true, true, true, true, true, true, true, true, true, true, true, true, true, true, true, true, true, true, true, true, true, false, false, false, false, false, false, false, false, false, false, false, false, false, false, false, false, false, false, false, false, false, false, false] rfl rfl (one_of HT_.out (by kernel_rfl)) (by decide) (fun K hK => ?_)
        refine goes_ Try.func25 (by kernel_rfl) rfl #[.agg #[.string t556, .slice Ao52 t557.length co52, .slice Ao53 t560.length co53], .agg #[.string t563, .slice Ao54 t564.length co54, .slice Ao55 t567.length co55]] (by rfl) rfl rfl (by (try simp only [List.map_toArray, List.map_cons, List.map_nil]); first | done | rfl | (simp only [List.length_drop, List.length_take]; rfl)) ?_
        with_reducible refine (almanacref12_Same.calls k t556 _ _ t557 _ _ t560 t563 _ _ t564 _ _ t567 true _ ?side1 ?side2 ?side3 ?side4 ?side5 ?side6 ?side7 ?side8 A19.out).mono ?_
        (case side1 => exact cU (Kd.V_reads' HO559.out).2.2)
        (case side2 => exact (Kd.V_reads' HO559.out).2.1)
        (case side3 => exact cU (Kd.N_reads' HO562.out).2.2)
        (case side4 => exact (Kd.N_reads' HO562.out).2.1)
        (case side5 => exact cU (Kd.V_reads' HO566.out).2.2)
        (case side6 => exact (Kd.V_reads' HO566.out).2.1)
        (case side7 => exact cU (Kd.N_reads' HO569.out).2.2)
        (case side8 => exact (Kd.N_reads' HO569.out).2.1)
        rintro e w56 ⟨rfl, hb⟩
        refine ⟨_, rfl, ?_⟩
        have n0_ := Aside0.mk (Kd.N_below (by (with_reducible repeat (first | apply Kd.N_alloc | apply Kd.N_drewN | apply Kd.N_drew)); exact HO527.out) hb)
        have n1_ := Aside0.mk (Kd.V_below (by (with_reducible repeat (first | apply Kd.V_alloc | apply Kd.V_drewN | apply Kd.V_drew)); exact HO530.out) hb)
        have n2_ := Aside0.mk (Kd.N_below (by (with_reducible repeat (first | apply Kd.N_alloc | apply Kd.N_drewN | apply Kd.N_drew)); exact HO534.out) hb)
        have n3_ := Aside0.mk (Kd.V_below (by (with_reducible repeat (first | apply Kd.V_alloc | apply Kd.V_drewN | apply Kd.V_drew)); exact HO537.out) hb)
        have n4_ := Aside0.mk (Kd.V_below (by (with_reducible repeat (first | apply Kd.V_alloc | apply Kd.V_drewN | apply Kd.V_drew)); exact HO542.out) hb)
        have n5_ := Aside0.mk (Kd.N_below (by (with_reducible repeat (first | apply Kd.N_alloc | apply Kd.N_drewN | apply Kd.N_drew)); exact HO545.out) hb)
        have n6_ := Aside0.mk (Kd.V_below (by (with_reducible repeat (first | apply Kd.V_alloc | apply Kd.V_drewN | apply Kd.V_drew)); exact HO549.out) hb)
        have n7_ := Aside0.mk (Kd.N_below (by (with_reducible repeat (first | apply Kd.N_alloc | apply Kd.N_drewN | apply Kd.N_drew)); exact HO552.out) hb)
        have n8_ := Aside0.mk (Kd.V_below (by (with_reducible repeat (first | apply Kd.V_alloc | apply Kd.V_drewN | apply Kd.V_drew)); exact HO559.out) hb)
        have n9_ := Aside0.mk (Kd.N_below (by (with_reducible repeat (first | apply Kd.N_alloc | apply Kd.N_drewN | apply Kd.N_drew)); exact HO562.out) hb)
        have n10_ := Aside0.mk (Kd.V_below (by (with_reducible repeat (first | apply Kd.V_alloc | apply Kd.V_drewN | apply Kd.V_drew)); exact HO566.out) hb)
        have n11_ := Aside0.mk (Kd.N_below (by (with_reducible repeat (first | apply Kd.N_alloc | apply Kd.N_drewN | apply Kd.N_drew)); exact HO569.out) hb)
        have n12_ := Aside0.mk (blk_below (kU BK521) hb)
        have n13_ := Aside0.mk (below_step (bU HB) hb)
        clear HO527
        clear HO530
        clear HO534
        clear HO537
        clear HO542
        clear HO545
        clear HO549
        clear HO552
        clear HO559
        clear HO562
        clear HO566
        clear HO569
        clear BK521
        clear HB
        have HO527 := n0_
        have HO530 := n1_
        have HO534 := n2_
        have HO537 := n3_
        have HO542 := n4_
        have HO545 := n5_
        have HO549 := n6_
        have HO552 := n7_
        have HO559 := n8_
        have HO562 := n9_
        have HO566 := n10_
        have HO569 := n11_
        have BK521 := n12_
        have HB := n13_
        clear n0_ n1_ n2_ n3_ n4_ n5_ n6_ n7_ n8_ n9_ n10_ n11_ n12_ n13_
        (try clear hb)
        (try clear hb2)
        (try clear hk)
        (try clear hi)
        refine hK.out _ _ ⟨(blk_cell BK521.out 0).trans rfl, (blk_cell BK521.out 1).trans rfl, (blk_cell BK521.out 2).trans rfl⟩ (fun hHeld => ?_)
        clear hK K
        refine norm_ (a' := ?_) ?_ ?_
        rotate_left
        ·show Act.put _ (some 45) _ = _
         simp only [Act.put, List.setIfInBounds_toArray, List.set_cons_zero, List.set_cons_succ, i64_w, i32_w]
         rfl
        refine pure_ (i := 35) (N := some 46) (v := ?_) (a' := ?_) #[true, true, true, true, true, true, true, true, true, true, true, true, true, true, true, true, true, true, true, true, true, true, true, true, true, true, true, true, true, true, true, true, true, true, true, true, false, false, false, false, false, false, false, false, false, false, false, false, false, false, false, false, false, false, false, false, false, false] rfl rfl (any_of HT_.out (by kernel_rfl)) (fun _ _ _ h => h) (Or.inl ⟨by rfl, ?_⟩) ?_ ?_
        rotate_left
        ·intro w'
         go_simp
         with_reducible rfl
        rotate_left
        ·simp only [Act.put, List.setIfInBounds_toArray, List.set_cons_zero, List.set_cons_succ, i64_w, i32_w]
         rfl
        refine pure_ (i := 36) (N := some 47) (v := ?_) (a' := ?_) #[true, true, true, true, true, true, true, true, true, true, true, true, true, true, true, true, true, true, true, true, true, true, true, true, true, true, true, true, true, true, true, true, true, true, true, true, true, false, false, false, false, false, false, false, false, false, false, false, false, false, false, false, false, false, false, false, false, false] rfl rfl (any_of HT_.out (by kernel_rfl)) (fun _ _ _ h => h) (Or.inl ⟨by rfl, ?_⟩) ?_ ?_
        rotate_left
        ·intro w'
         go_simp
         with_reducible rfl
        rotate_left
        ·simp only [Act.put, List.setIfInBounds_toArray, List.set_cons_zero, List.set_cons_succ, i64_w, i32_w]
         rfl
        refine pure_ (i := 38) (N := some 49) (v := ?_) (a' := ?_) #[true, true, true, true, true, true, true, true, true, true, true, true, true, true, true, true, true, true, true, true, true, true, true, true, true, true, true, true, true, true, true, true, true, true, true, true, true, false, true, false, false, false, false, false, false, false, false, false, false, false, false, false, false, false, false, false, false, false] rfl rfl (any_of HT_.out (by kernel_rfl)) (fun _ _ _ h => h) (Or.inl ⟨by rfl, ?_⟩) ?_ ?_
        rotate_left
        ·intro w'
         go_simp
         with_reducible rfl
        rotate_left
        ·simp only [Act.put, List.setIfInBounds_toArray, List.set_cons_zero, List.set_cons_succ, i64_w, i32_w]
         rfl
        refine pure_ (i := 39) (N := some 50) (v := ?_) (a' := ?_) #[true, true, true, true, true, true, true, true, true, true, true, true, true, true, true, true, true, true, true, true, true, true, true, true, true, true, true, true, true, true, true, true, true, true, true, true, true, false, true, true, false, false, false, false, false, false, false, false, false, false, false, false, false, false, false, false, false, false] rfl rfl (any_of HT_.out (by kernel_rfl)) (fun _ _ _ h => h) (Or.inl ⟨by rfl, ?_⟩) ?_ ?_
        rotate_left
        ·intro w'
         go_simp
         with_reducible rfl
        rotate_left
        ·simp only [Act.put, List.setIfInBounds_toArray, List.set_cons_zero, List.set_cons_succ, i64_w, i32_w]
         rfl
        refine pure_ (i := 42) (N := some 53) (v := ?_) (a' := ?_) #[true, true, true, true, true, true, true, true, true, true, true, true, true, true, true, true, true, true, true, true, true, true, true, true, true, true, true, true, true, true, true, true, true, true, true, true, true, false, true, true, false, false, true, false, false, false, false, false, false, false, false, false, false, false, false, false, false, false] rfl rfl (any_of HT_.out (by kernel_rfl)) (fun _ _ _ h => h) (Or.inl ⟨by rfl, ?_⟩) ?_ ?_
        rotate_left
        ·intro w'
         go_simp
         with_reducible rfl
        rotate_left
        ·simp only [Act.put, List.setIfInBounds_toArray, List.set_cons_zero, List.set_cons_succ, i64_w, i32_w]
         rfl
        refine pure_ (i := 43) (N := some 54) (v := ?_) (a' := ?_) #[true, true, true, true, true, true, true, true, true, true, true, true, true, true, true, true, true, true, true, true, true, true, true, true, true, true, true, true, true, true, true, true, true, true, true, true, true, false, true, true, false, false, true, true, false, false, false, false, false, false, false, false, false, false, false, false, false, false] rfl rfl (any_of HT_.out (by kernel_rfl)) (fun _ _ _ h => h) (Or.inl ⟨by rfl, ?_⟩) ?_ ?_
        rotate_left
        ·intro w'
         go_simp
         with_reducible rfl
        rotate_left
        ·simp only [Act.put, List.setIfInBounds_toArray, List.set_cons_zero, List.set_cons_succ, i64_w, i32_w]
         rfl
        refine take_ (i := 37) (N := some 48) (v := ?_) (a' := ?_) #[true, true, true, true, true, true, true, true, true, true, true, true, true, true, true, true, true, true, true, true, true, true, true, true, true, true, true, true, true, true, true, true, true, true, true, true, true, true, true, true, false, false, true, true, false, false, false, false, false, false, false, false, false, false, false, false, false, false] rfl rfl (take_ofW HT_.out HW_.out (by kernel_rfl)) (fun _ _ _ h => h) (Or.inl ⟨by rfl, ?_⟩) hHeld ?_ ?_
        rotate_left
        ·rintro w' ⟨s0, s1, s2⟩
         go_simp
         with_reducible rfl
        rotate_left
        ·simp only [Act.put, List.setIfInBounds_toArray, List.set_cons_zero, List.set_cons_succ, i64_w, i32_w]
         rfl
        refine take_ (i := 41) (N := some 52) (v := ?_) (a' := ?_) #[true, true, true, true, true, true, true, true, true, true, true, true, true, true, true, true, true, true, true, true, true, true, true, true, true, true, true, true, true, true, true, true, true, true, true, true, true, true, true, true, false, true, true, true, false, false, false, false, false, false, false, false, false, false, false, false, false, false] rfl rfl (take_ofW HT_.out HW_.out (by kernel_rfl)) (fun _ _ _ h => h) (Or.inl ⟨by rfl, ?_⟩) hHeld ?_ ?_
        rotate_left
        ·rintro w' ⟨s0, s1, s2⟩
         go_simp
         with_reducible rfl
        rotate_left
        ·simp only [Act.put, List.setIfInBounds_toArray, List.set_cons_zero, List.set_cons_succ, i64_w, i32_w]
         rfl
        refine one_ (i := 40) (N := some 51) #[true, true, true, true, true, true, true, true, true, true, true, true, true, true, true, true, true, true, true, true, true, true, true, true, true, true, true, true, true, true, true, true, true, true, true, true, true, true, true, true, true, true, true, true, false, false, false, false, false, false, false, false, false, false, false, false, false, false] rfl rfl (one_of HT_.out (by kernel_rfl)) (by decide) (fun K hK => ?_)
        refine goes_ Try.func24 (by kernel_rfl) rfl #[.agg #[.string a0_0, .slice A0_1 l0_1.length c0_1, .slice A0_2 l0_2.length c0_2], .string a1, .string a2] (by rfl) rfl rfl (by (try simp only [List.map_toArray, List.map_cons, List.map_nil]); first | done | rfl | (simp only [List.length_drop, List.length_take]; rfl)) ?_
        with_reducible refine (itip_Delivered.calls k a0_0 (fun k_ => k_ < w.heap.size) _ _ l0_1 (fun k_ => k_ < w.heap.size) _ _ l0_2 a1 a2 t571 t572 t575 _ ?side1 ?side2 A21.out).mono ?_
        (case side1 => exact Kd.V_mk HC0_1.out (Kd.F_below (Kd.C_F k45_heap HR0_1.out) (bU HB)))
        (case side2 => exact Kd.V_mk HC0_2.out (Kd.F_below (Kd.C_F k25_heap HR0_2.out) (bU HB)))
        rintro e w57 ⟨v573, v576, rfl, ho0, ho1, hb⟩
        refine ⟨_, rfl, ?_⟩
        have n0_ := Aside0.mk (Kd.N_elder' (by (with_reducible repeat (first | apply Kd.N_alloc | apply Kd.N_drewN | apply Kd.N_drew)); exact HO527.out) (Kd.N_base ho1) hb)
        have n1_ := Aside0.mk (Kd.V_elder' (by (with_reducible repeat (first | apply Kd.V_alloc | apply Kd.V_drewN | apply Kd.V_drew)); exact HO530.out) (Kd.N_base ho1) hb)
        have n2_ := Aside0.mk (Kd.N_elder' (by (with_reducible repeat (first | apply Kd.N_alloc | apply Kd.N_drewN | apply Kd.N_drew)); exact HO534.out) (Kd.N_base ho1) hb)
        have n3_ := Aside0.mk (Kd.V_elder' (by (with_reducible repeat (first | apply Kd.V_alloc | apply Kd.V_drewN | apply Kd.V_drew)); exact HO537.out) (Kd.N_base ho1) hb)
        have n4_ := Aside0.mk (Kd.V_elder' (by (with_reducible repeat (first | apply Kd.V_alloc | apply Kd.V_drewN | apply Kd.V_drew)); exact HO542.out) (Kd.N_base ho1) hb)
        have n5_ := Aside0.mk (Kd.N_elder' (by (with_reducible repeat (first | apply Kd.N_alloc | apply Kd.N_drewN | apply Kd.N_drew)); exact HO545.out) (Kd.N_base ho1) hb)
        have n6_ := Aside0.mk (Kd.V_elder' (by (with_reducible repeat (first | apply Kd.V_alloc | apply Kd.V_drewN | apply Kd.V_drew)); exact HO549.out) (Kd.N_base ho1) hb)
        have n7_ := Aside0.mk (Kd.N_elder' (by (with_reducible repeat (first | apply Kd.N_alloc | apply Kd.N_drewN | apply Kd.N_drew)); exact HO552.out) (Kd.N_base ho1) hb)
        have n8_ := Aside0.mk (Kd.V_elder' (by (with_reducible repeat (first | apply Kd.V_alloc | apply Kd.V_drewN | apply Kd.V_drew)); exact HO559.out) (Kd.N_base ho1) hb)
        have n9_ := Aside0.mk (Kd.N_elder' (by (with_reducible repeat (first | apply Kd.N_alloc | apply Kd.N_drewN | apply Kd.N_drew)); exact HO562.out) (Kd.N_base ho1) hb)
        have n10_ := Aside0.mk (Kd.V_elder' (by (with_reducible repeat (first | apply Kd.V_alloc | apply Kd.V_drewN | apply Kd.V_drew)); exact HO566.out) (Kd.N_base ho1) hb)
        have n11_ := Aside0.mk (Kd.N_elder' (by (with_reducible repeat (first | apply Kd.N_alloc | apply Kd.N_drewN | apply Kd.N_drew)); exact HO569.out) (Kd.N_base ho1) hb)
        have n12_ := Aside0.mk (Kd.V_lower (Kd.V_mono (ok' := fun k_ => some k_ ≠ (v576 : Value).ownBlock ∧ some k_ ≠ (.slice Ao36 t525.length co36 : Value).ownBlock ∧ some k_ ≠ (.slice Ao38 t532.length co38 : Value).ownBlock ∧ some k_ ≠ (.slice Ao44 t543.length co44 : Value).ownBlock ∧ some k_ ≠ (.slice Ao46 t550.length co46 : Value).ownBlock ∧ some k_ ≠ (.slice Ao53 t560.length co53 : Value).ownBlock ∧ some k_ ≠ (.slice Ao55 t567.length co55 : Value).ownBlock ∧ k_ ≠ gb521) ho0 (fun k_ hk_ => ⟨hk_.2, Or.elim hk_.1 (fun hs_ => Or.elim hs_ (fun hs_ => fun e_ => Nat.not_le.2 hs_ (Kd.N_base HO527.out k_ e_.symm)) (fun hs_ => fun e_ => Nat.not_le.2 hs_ (Kd.N_base HO527.out k_ e_.symm))) (fun hn_ => (Kd.fresh' (Kd.N_lt (by (with_reducible repeat (first | apply Kd.N_alloc | apply Kd.N_drewN | apply Kd.N_drew)); exact HO527.out)) k_ hn_)), Or.elim hk_.1 (fun hs_ => Or.elim hs_ (fun hs_ => fun e_ => Nat.not_le.2 hs_ (Kd.N_base HO534.out k_ e_.symm)) (fun hs_ => fun e_ => Nat.not_le.2 hs_ (Kd.N_base HO534.out k_ e_.symm))) (fun hn_ => (Kd.fresh' (Kd.N_lt (by (with_reducible repeat (first | apply Kd.N_alloc | apply Kd.N_drewN | apply Kd.N_drew)); exact HO534.out)) k_ hn_)), Or.elim hk_.1 (fun hs_ => Or.elim hs_ (fun hs_ => fun e_ => Nat.not_le.2 hs_ (Kd.N_base HO545.out k_ e_.symm)) (fun hs_ => fun e_ => Nat.not_le.2 hs_ (Kd.N_base HO545.out k_ e_.symm))) (fun hn_ => (Kd.fresh' (Kd.N_lt (by (with_reducible repeat (first | apply Kd.N_alloc | apply Kd.N_drewN | apply Kd.N_drew)); exact HO545.out)) k_ hn_)), Or.elim hk_.1 (fun hs_ => Or.elim hs_ (fun hs_ => fun e_ => Nat.not_le.2 hs_ (Kd.N_base HO552.out k_ e_.symm)) (fun hs_ => fun e_ => Nat.not_le.2 hs_ (Kd.N_base HO552.out k_ e_.symm))) (fun hn_ => (Kd.fresh' (Kd.N_lt (by (with_reducible repeat (first | apply Kd.N_alloc | apply Kd.N_drewN | apply Kd.N_drew)); exact HO552.out)) k_ hn_)), Or.elim hk_.1 (fun hs_ => Or.elim hs_ (fun hs_ => fun e_ => Nat.not_le.2 hs_ (Kd.N_base HO562.out k_ e_.symm)) (fun hs_ => fun e_ => Nat.not_le.2 hs_ (Kd.N_base HO562.out k_ e_.symm))) (fun hn_ => (Kd.fresh' (Kd.N_lt (by (with_reducible repeat (first | apply Kd.N_alloc | apply Kd.N_drewN | apply Kd.N_drew)); exact HO562.out)) k_ hn_)), Or.elim hk_.1 (fun hs_ => Or.elim hs_ (fun hs_ => fun e_ => Nat.not_le.2 hs_ (Kd.N_base HO569.out k_ e_.symm)) (fun hs_ => fun e_ => Nat.not_le.2 hs_ (Kd.N_base HO569.out k_ e_.symm))) (fun hn_ => (Kd.fresh' (Kd.N_lt (by (with_reducible repeat (first | apply Kd.N_alloc | apply Kd.N_drewN | apply Kd.N_drew)); exact HO569.out)) k_ hn_)), Or.elim hk_.1 (fun hs_ => Or.elim hs_ (fun hs_ => fun e_ => Nat.not_le.2 hs_ (by rw [e_]; exact GW521.out)) (fun hs_ => fun e_ => Nat.not_le.2 hs_ (by rw [e_]; exact GW521.out))) (fun hn_ => (Kd.freshB (g := gb521) (o := .cells #[.string a0_0, .slice A0_1 l0_1.length c0_1, .slice A0_2 l0_2.length c0_2] 25 (0, 0)) (kU BK521) k_ hn_))⟩)) (below_size (bU HB)))
        have n13_ := Aside0.mk (Kd.N_lower (Kd.N_mono (ok' := fun k_ => some k_ ≠ (.slice Ao36 t525.length co36 : Value).ownBlock ∧ some k_ ≠ (.slice Ao38 t532.length co38 : Value).ownBlock ∧ some k_ ≠ (.slice Ao44 t543.length co44 : Value).ownBlock ∧ some k_ ≠ (.slice Ao46 t550.length co46 : Value).ownBlock ∧ some k_ ≠ (.slice Ao53 t560.length co53 : Value).ownBlock ∧ some k_ ≠ (.slice Ao55 t567.length co55 : Value).ownBlock ∧ k_ ≠ gb521) ho1 (fun k_ hk_ => ⟨Or.elim hk_ (fun hs_ => Or.elim hs_ (fun hs_ => fun e_ => Nat.not_le.2 hs_ (Kd.N_base HO527.out k_ e_.symm)) (fun hs_ => fun e_ => Nat.not_le.2 hs_ (Kd.N_base HO527.out k_ e_.symm))) (fun hn_ => (Kd.fresh' (Kd.N_lt (by (with_reducible repeat (first | apply Kd.N_alloc | apply Kd.N_drewN | apply Kd.N_drew)); exact HO527.out)) k_ hn_)), Or.elim hk_ (fun hs_ => Or.elim hs_ (fun hs_ => fun e_ => Nat.not_le.2 hs_ (Kd.N_base HO534.out k_ e_.symm)) (fun hs_ => fun e_ => Nat.not_le.2 hs_ (Kd.N_base HO534.out k_ e_.symm))) (fun hn_ => (Kd.fresh' (Kd.N_lt (by (with_reducible repeat (first | apply Kd.N_alloc | apply Kd.N_drewN | apply Kd.N_drew)); exact HO534.out)) k_ hn_)), Or.elim hk_ (fun hs_ => Or.elim hs_ (fun hs_ => fun e_ => Nat.not_le.2 hs_ (Kd.N_base HO545.out k_ e_.symm)) (fun hs_ => fun e_ => Nat.not_le.2 hs_ (Kd.N_base HO545.out k_ e_.symm))) (fun hn_ => (Kd.fresh' (Kd.N_lt (by (with_reducible repeat (first | apply Kd.N_alloc | apply Kd.N_drewN | apply Kd.N_drew)); exact HO545.out)) k_ hn_)), Or.elim hk_ (fun hs_ => Or.elim hs_ (fun hs_ => fun e_ => Nat.not_le.2 hs_ (Kd.N_base HO552.out k_ e_.symm)) (fun hs_ => fun e_ => Nat.not_le.2 hs_ (Kd.N_base HO552.out k_ e_.symm))) (fun hn_ => (Kd.fresh' (Kd.N_lt (by (with_reducible repeat (first | apply Kd.N_alloc | apply Kd.N_drewN | apply Kd.N_drew)); exact HO552.out)) k_ hn_)), Or.elim hk_ (fun hs_ => Or.elim hs_ (fun hs_ => fun e_ => Nat.not_le.2 hs_ (Kd.N_base HO562.out k_ e_.symm)) (fun hs_ => fun e_ => Nat.not_le.2 hs_ (Kd.N_base HO562.out k_ e_.symm))) (fun hn_ => (Kd.fresh' (Kd.N_lt (by (with_reducible repeat (first | apply Kd.N_alloc | apply Kd.N_drewN | apply Kd.N_drew)); exact HO562.out)) k_ hn_)), Or.elim hk_ (fun hs_ => Or.elim hs_ (fun hs_ => fun e_ => Nat.not_le.2 hs_ (Kd.N_base HO569.out k_ e_.symm)) (fun hs_ => fun e_ => Nat.not_le.2 hs_ (Kd.N_base HO569.out k_ e_.symm))) (fun hn_ => (Kd.fresh' (Kd.N_lt (by (with_reducible repeat (first | apply Kd.N_alloc | apply Kd.N_drewN | apply Kd.N_drew)); exact HO569.out)) k_ hn_)), Or.elim hk_ (fun hs_ => Or.elim hs_ (fun hs_ => fun e_ => Nat.not_le.2 hs_ (by rw [e_]; exact GW521.out)) (fun hs_ => fun e_ => Nat.not_le.2 hs_ (by rw [e_]; exact GW521.out))) (fun hn_ => (Kd.freshB (g := gb521) (o := .cells #[.string a0_0, .slice A0_1 l0_1.length c0_1, .slice A0_2 l0_2.length c0_2] 25 (0, 0)) (kU BK521) k_ hn_))⟩)) (below_size (bU HB)))
        have n14_ := Aside0.mk (blk_below (kU BK521) hb)
        have n15_ := Aside0.mk (below_step (bU HB) hb)
        clear HO527
        clear HO530
        clear HO534
        clear HO537
        clear HO542
        clear HO545
        clear HO549
        clear HO552
        clear HO559
        clear HO562
        clear HO566
        clear HO569
        clear BK521
        clear HB
        have HO527 := n0_
        have HO530 := n1_
        have HO534 := n2_
        have HO537 := n3_
        have HO542 := n4_
        have HO545 := n5_
        have HO549 := n6_
        have HO552 := n7_
        have HO559 := n8_
        have HO562 := n9_
        have HO566 := n10_
        have HO569 := n11_
        have HO574 := n12_
        have HO577 := n13_
        have BK521 := n14_
        have HB := n15_
        clear n0_ n1_ n2_ n3_ n4_ n5_ n6_ n7_ n8_ n9_ n10_ n11_ n12_ n13_ n14_ n15_
        (try clear hb)
        (try clear hb2)
        (try clear hk)
        (try clear hi)
        (try clear ho0)
        (try clear ho1)
        refine hK.out _ _ ⟨(blk_cell BK521.out 0).trans rfl, (blk_cell BK521.out 1).trans rfl, (blk_cell BK521.out 2).trans rfl⟩ (fun hHeld => ?_)
        clear hK K
        refine norm_ (a' := ?_) ?_ ?_
        rotate_left
        ·show Act.put _ (some 51) _ = _
         simp only [Act.put, List.setIfInBounds_toArray, List.set_cons_zero, List.set_cons_succ, i64_w, i32_w]
         rfl
        refine one_ (i := 44) (N := some 55) #[true, true, true, true, true, true, true, true, true, true, true, true, true, true, true, true, true, true, true, true, true, true, true, true, true, true, true, true, true, true, true, true, true, true, true, true, true, true, true, true, true, true, true, true, true, false, false, false, false, false, false, false, false, false, false, false, false, false] rfl rfl (one_of HT_.out (by kernel_rfl)) (by decide) (fun K hK => ?_)
        refine goes_ Try.func30 (by kernel_rfl) rfl #[.agg #[.string a0_0, .slice A0_1 l0_1.length c0_1, .slice A0_2 l0_2.length c0_2], .string a1, .string a2] (by rfl) rfl rfl (by (try simp only [List.map_toArray, List.map_cons, List.map_nil]); first | done | rfl | (simp only [List.length_drop, List.length_take]; rfl)) ?_
        with_reducible refine (almanacref26_Delivered.calls k a0_0 (fun k_ => k_ < w.heap.size) _ _ l0_1 (fun k_ => k_ < w.heap.size) _ _ l0_2 a1 a2 t578 t579 t582 _ ?side1 ?side2 A22.out).mono ?_
        (case side1 => exact Kd.V_mk HC0_1.out (Kd.F_below (Kd.C_F k45_heap HR0_1.out) (bU HB)))
        (case side2 => exact Kd.V_mk HC0_2.out (Kd.F_below (Kd.C_F k25_heap HR0_2.out) (bU HB)))
        rintro e w58 ⟨v580, v583, rfl, ho0, ho1, hb⟩
        refine ⟨_, rfl, ?_⟩
        have n0_ := Aside0.mk (Kd.N_elder' (by (with_reducible repeat (first | apply Kd.N_alloc | apply Kd.N_drewN | apply Kd.N_drew)); exact HO527.out) (Kd.N_base ho1) hb)
        have n1_ := Aside0.mk (Kd.V_elder' (by (with_reducible repeat (first | apply Kd.V_alloc | apply Kd.V_drewN | apply Kd.V_drew)); exact HO530.out) (Kd.N_base ho1) hb)
        have n2_ := Aside0.mk (Kd.N_elder' (by (with_reducible repeat (first | apply Kd.N_alloc | apply Kd.N_drewN | apply Kd.N_drew)); exact HO534.out) (Kd.N_base ho1) hb)
        have n3_ := Aside0.mk (Kd.V_elder' (by (with_reducible repeat (first | apply Kd.V_alloc | apply Kd.V_drewN | apply Kd.V_drew)); exact HO537.out) (Kd.N_base ho1) hb)
        have n4_ := Aside0.mk (Kd.V_elder' (by (with_reducible repeat (first | apply Kd.V_alloc | apply Kd.V_drewN | apply Kd.V_drew)); exact HO542.out) (Kd.N_base ho1) hb)
        have n5_ := Aside0.mk (Kd.N_elder' (by (with_reducible repeat (first | apply Kd.N_alloc | apply Kd.N_drewN | apply Kd.N_drew)); exact HO545.out) (Kd.N_base ho1) hb)
        have n6_ := Aside0.mk (Kd.V_elder' (by (with_reducible repeat (first | apply Kd.V_alloc | apply Kd.V_drewN | apply Kd.V_drew)); exact HO549.out) (Kd.N_base ho1) hb)
        have n7_ := Aside0.mk (Kd.N_elder' (by (with_reducible repeat (first | apply Kd.N_alloc | apply Kd.N_drewN | apply Kd.N_drew)); exact HO552.out) (Kd.N_base ho1) hb)
        have n8_ := Aside0.mk (Kd.V_elder' (by (with_reducible repeat (first | apply Kd.V_alloc | apply Kd.V_drewN | apply Kd.V_drew)); exact HO559.out) (Kd.N_base ho1) hb)
        have n9_ := Aside0.mk (Kd.N_elder' (by (with_reducible repeat (first | apply Kd.N_alloc | apply Kd.N_drewN | apply Kd.N_drew)); exact HO562.out) (Kd.N_base ho1) hb)
        have n10_ := Aside0.mk (Kd.V_elder' (by (with_reducible repeat (first | apply Kd.V_alloc | apply Kd.V_drewN | apply Kd.V_drew)); exact HO566.out) (Kd.N_base ho1) hb)
        have n11_ := Aside0.mk (Kd.N_elder' (by (with_reducible repeat (first | apply Kd.N_alloc | apply Kd.N_drewN | apply Kd.N_drew)); exact HO569.out) (Kd.N_base ho1) hb)
        have n12_ := Aside0.mk (Kd.V_elder' (by (with_reducible repeat (first | apply Kd.V_alloc | apply Kd.V_drewN | apply Kd.V_drew)); exact HO574.out) (Kd.N_base ho1) hb)
        have n13_ := Aside0.mk (Kd.N_elder' (by (with_reducible repeat (first | apply Kd.N_alloc | apply Kd.N_drewN | apply Kd.N_drew)); exact HO577.out) (Kd.N_base ho1) hb)
        have n14_ := Aside0.mk (Kd.V_lower (Kd.V_mono (ok' := fun k_ => some k_ ≠ (v583 : Value).ownBlock ∧ some k_ ≠ (.slice Ao36 t525.length co36 : Value).ownBlock ∧ some k_ ≠ (.slice Ao38 t532.length co38 : Value).ownBlock ∧ some k_ ≠ (.slice Ao44 t543.length co44 : Value).ownBlock ∧ some k_ ≠ (.slice Ao46 t550.length co46 : Value).ownBlock ∧ some k_ ≠ (.slice Ao53 t560.length co53 : Value).ownBlock ∧ some k_ ≠ (.slice Ao55 t567.length co55 : Value).ownBlock ∧ some k_ ≠ (v576 : Value).ownBlock ∧ k_ ≠ gb521) ho0 (fun k_ hk_ => ⟨hk_.2, Or.elim hk_.1 (fun hs_ => Or.elim hs_ (fun hs_ => fun e_ => Nat.not_le.2 hs_ (Kd.N_base HO527.out k_ e_.symm)) (fun hs_ => fun e_ => Nat.not_le.2 hs_ (Kd.N_base HO527.out k_ e_.symm))) (fun hn_ => (Kd.fresh' (Kd.N_lt (by (with_reducible repeat (first | apply Kd.N_alloc | apply Kd.N_drewN | apply Kd.N_drew)); exact HO527.out)) k_ hn_)), Or.elim hk_.1 (fun hs_ => Or.elim hs_ (fun hs_ => fun e_ => Nat.not_le.2 hs_ (Kd.N_base HO534.out k_ e_.symm)) (fun hs_ => fun e_ => Nat.not_le.2 hs_ (Kd.N_base HO534.out k_ e_.symm))) (fun hn_ => (Kd.fresh' (Kd.N_lt (by (with_reducible repeat (first | apply Kd.N_alloc | apply Kd.N_drewN | apply Kd.N_drew)); exact HO534.out)) k_ hn_)), Or.elim hk_.1 (fun hs_ => Or.elim hs_ (fun hs_ => fun e_ => Nat.not_le.2 hs_ (Kd.N_base HO545.out k_ e_.symm)) (fun hs_ => fun e_ => Nat.not_le.2 hs_ (Kd.N_base HO545.out k_ e_.symm))) (fun hn_ => (Kd.fresh' (Kd.N_lt (by (with_reducible repeat (first | apply Kd.N_alloc | apply Kd.N_drewN | apply Kd.N_drew)); exact HO545.out)) k_ hn_)), Or.elim hk_.1 (fun hs_ => Or.elim hs_ (fun hs_ => fun e_ => Nat.not_le.2 hs_ (Kd.N_base HO552.out k_ e_.symm)) (fun hs_ => fun e_ => Nat.not_le.2 hs_ (Kd.N_base HO552.out k_ e_.symm))) (fun hn_ => (Kd.fresh' (Kd.N_lt (by (with_reducible repeat (first | apply Kd.N_alloc | apply Kd.N_drewN | apply Kd.N_drew)); exact HO552.out)) k_ hn_)), Or.elim hk_.1 (fun hs_ => Or.elim hs_ (fun hs_ => fun e_ => Nat.not_le.2 hs_ (Kd.N_base HO562.out k_ e_.symm)) (fun hs_ => fun e_ => Nat.not_le.2 hs_ (Kd.N_base HO562.out k_ e_.symm))) (fun hn_ => (Kd.fresh' (Kd.N_lt (by (with_reducible repeat (first | apply Kd.N_alloc | apply Kd.N_drewN | apply Kd.N_drew)); exact HO562.out)) k_ hn_)), Or.elim hk_.1 (fun hs_ => Or.elim hs_ (fun hs_ => fun e_ => Nat.not_le.2 hs_ (Kd.N_base HO569.out k_ e_.symm)) (fun hs_ => fun e_ => Nat.not_le.2 hs_ (Kd.N_base HO569.out k_ e_.symm))) (fun hn_ => (Kd.fresh' (Kd.N_lt (by (with_reducible repeat (first | apply Kd.N_alloc | apply Kd.N_drewN | apply Kd.N_drew)); exact HO569.out)) k_ hn_)), Or.elim hk_.1 (fun hs_ => Or.elim hs_ (fun hs_ => fun e_ => Nat.not_le.2 hs_ (Kd.N_base HO577.out k_ e_.symm)) (fun hs_ => fun e_ => Nat.not_le.2 hs_ (Kd.N_base HO577.out k_ e_.symm))) (fun hn_ => (Kd.fresh' (Kd.N_lt (by (with_reducible repeat (first | apply Kd.N_alloc | apply Kd.N_drewN | apply Kd.N_drew)); exact HO577.out)) k_ hn_)), Or.elim hk_.1 (fun hs_ => Or.elim hs_ (fun hs_ => fun e_ => Nat.not_le.2 hs_ (by rw [e_]; exact GW521.out)) (fun hs_ => fun e_ => Nat.not_le.2 hs_ (by rw [e_]; exact GW521.out))) (fun hn_ => (Kd.freshB (g := gb521) (o := .cells #[.string a0_0, .slice A0_1 l0_1.length c0_1, .slice A0_2 l0_2.length c0_2] 25 (0, 0)) (kU BK521) k_ hn_))⟩)) (below_size (bU HB)))
        have n15_ := Aside0.mk (Kd.N_lower (Kd.N_mono (ok' := fun k_ => some k_ ≠ (.slice Ao36 t525.length co36 : Value).ownBlock ∧ some k_ ≠ (.slice Ao38 t532.length co38 : Value).ownBlock ∧ some k_ ≠ (.slice Ao44 t543.length co44 : Value).ownBlock ∧ some k_ ≠ (.slice Ao46 t550.length co46 : Value).ownBlock ∧ some k_ ≠ (.slice Ao53 t560.length co53 : Value).ownBlock ∧ some k_ ≠ (.slice Ao55 t567.length co55 : Value).ownBlock ∧ some k_ ≠ (v576 : Value).ownBlock ∧ k_ ≠ gb521) ho1 (fun k_ hk_ => ⟨Or.elim hk_ (fun hs_ => Or.elim hs_ (fun hs_ => fun e_ => Nat.not_le.2 hs_ (Kd.N_base HO527.out k_ e_.symm)) (fun hs_ => fun e_ => Nat.not_le.2 hs_ (Kd.N_base HO527.out k_ e_.symm))) (fun hn_ => (Kd.fresh' (Kd.N_lt (by (with_reducible repeat (first | apply Kd.N_alloc | apply Kd.N_drewN | apply Kd.N_drew)); exact HO527.out)) k_ hn_)), Or.elim hk_ (fun hs_ => Or.elim hs_ (fun hs_ => fun e_ => Nat.not_le.2 hs_ (Kd.N_base HO534.out k_ e_.symm)) (fun hs_ => fun e_ => Nat.not_le.2 hs_ (Kd.N_base HO534.out k_ e_.symm))) (fun hn_ => (Kd.fresh' (Kd.N_lt (by (with_reducible repeat (first | apply Kd.N_alloc | apply Kd.N_drewN | apply Kd.N_drew)); exact HO534.out)) k_ hn_)), Or.elim hk_ (fun hs_ => Or.elim hs_ (fun hs_ => fun e_ => Nat.not_le.2 hs_ (Kd.N_base HO545.out k_ e_.symm)) (fun hs_ => fun e_ => Nat.not_le.2 hs_ (Kd.N_base HO545.out k_ e_.symm))) (fun hn_ => (Kd.fresh' (Kd.N_lt (by (with_reducible repeat (first | apply Kd.N_alloc | apply Kd.N_drewN | apply Kd.N_drew)); exact HO545.out)) k_ hn_)), Or.elim hk_ (fun hs_ => Or.elim hs_ (fun hs_ => fun e_ => Nat.not_le.2 hs_ (Kd.N_base HO552.out k_ e_.symm)) (fun hs_ => fun e_ => Nat.not_le.2 hs_ (Kd.N_base HO552.out k_ e_.symm))) (fun hn_ => (Kd.fresh' (Kd.N_lt (by (with_reducible repeat (first | apply Kd.N_alloc | apply Kd.N_drewN | apply Kd.N_drew)); exact HO552.out)) k_ hn_)), Or.elim hk_ (fun hs_ => Or.elim hs_ (fun hs_ => fun e_ => Nat.not_le.2 hs_ (Kd.N_base HO562.out k_ e_.symm)) (fun hs_ => fun e_ => Nat.not_le.2 hs_ (Kd.N_base HO562.out k_ e_.symm))) (fun hn_ => (Kd.fresh' (Kd.N_lt (by (with_reducible repeat (first | apply Kd.N_alloc | apply Kd.N_drewN | apply Kd.N_drew)); exact HO562.out)) k_ hn_)), Or.elim hk_ (fun hs_ => Or.elim hs_ (fun hs_ => fun e_ => Nat.not_le.2 hs_ (Kd.N_base HO569.out k_ e_.symm)) (fun hs_ => fun e_ => Nat.not_le.2 hs_ (Kd.N_base HO569.out k_ e_.symm))) (fun hn_ => (Kd.fresh' (Kd.N_lt (by (with_reducible repeat (first | apply Kd.N_alloc | apply Kd.N_drewN | apply Kd.N_drew)); exact HO569.out)) k_ hn_)), Or.elim hk_ (fun hs_ => Or.elim hs_ (fun hs_ => fun e_ => Nat.not_le.2 hs_ (Kd.N_base HO577.out k_ e_.symm)) (fun hs_ => fun e_ => Nat.not_le.2 hs_ (Kd.N_base HO577.out k_ e_.symm))) (fun hn_ => (Kd.fresh' (Kd.N_lt (by (with_reducible repeat (first | apply Kd.N_alloc | apply Kd.N_drewN | apply Kd.N_drew)); exact HO577.out)) k_ hn_)), Or.elim hk_ (fun hs_ => Or.elim hs_ (fun hs_ => fun e_ => Nat.not_le.2 hs_ (by rw [e_]; exact GW521.out)) (fun hs_ => fun e_ => Nat.not_le.2 hs_ (by rw [e_]; exact GW521.out))) (fun hn_ => (Kd.freshB (g := gb521) (o := .cells #[.string a0_0, .slice A0_1 l0_1.length c0_1, .slice A0_2 l0_2.length c0_2] 25 (0, 0)) (kU BK521) k_ hn_))⟩)) (below_size (bU HB)))
        have n16_ := Aside0.mk (blk_below (kU BK521) hb)
        have n17_ := Aside0.mk (below_step (bU HB) hb)
        clear HO527
        clear HO530
        clear HO534
        clear HO537
        clear HO542
        clear HO545
        clear HO549
        clear HO552
        clear HO559
        clear HO562
        clear HO566
        clear HO569
        clear HO574
        clear HO577
        clear BK521
        clear HB
        have HO527 := n0_
        have HO530 := n1_
        have HO534 := n2_
        have HO537 := n3_
        have HO542 := n4_
        have HO545 := n5_
        have HO549 := n6_
        have HO552 := n7_
        have HO559 := n8_
        have HO562 := n9_
        have HO566 := n10_
        have HO569 := n11_
        have HO574 := n12_
        have HO577 := n13_
        have HO581 := n14_
        have HO584 := n15_
        have BK521 := n16_
        have HB := n17_
        clear n0_ n1_ n2_ n3_ n4_ n5_ n6_ n7_ n8_ n9_ n10_ n11_ n12_ n13_ n14_ n15_ n16_ n17_
        (try clear hb)
        (try clear hb2)
        (try clear hk)
        (try clear hi)
        (try clear ho0)
        (try clear ho1)
        obtain ⟨Ao59, co59, eo59⟩ := Kd.V_slice HO574.out
        (first | subst eo59 | (injection eo59 with f1_ f2_ f3_; have f4_ := f1_.symm; have f5_ := f3_.symm; clear f1_ f2_ f3_; subst f4_; subst f5_))
        obtain ⟨Ao60, co60, eo60⟩ := Kd.N_slice HO577.out
        (first | subst eo60 | (injection eo60 with f1_ f2_ f3_; have f4_ := f1_.symm; have f5_ := f3_.symm; clear f1_ f2_ f3_; subst f4_; subst f5_))
        obtain ⟨Ao61, co61, eo61⟩ := Kd.V_slice HO581.out
        (first | subst eo61 | (injection eo61 with f1_ f2_ f3_; have f4_ := f1_.symm; have f5_ := f3_.symm; clear f1_ f2_ f3_; subst f4_; subst f5_))
        obtain ⟨Ao62, co62, eo62⟩ := Kd.N_slice HO584.out
        (first | subst eo62 | (injection eo62 with f1_ f2_ f3_; have f4_ := f1_.symm; have f5_ := f3_.symm; clear f1_ f2_ f3_; subst f4_; subst f5_))
        refine hK.out _ _ ⟨(blk_cell BK521.out 0).trans rfl, (blk_cell BK521.out 1).trans rfl, (blk_cell BK521.out 2).trans rfl⟩ (fun hHeld => ?_)
        clear hK K
        refine norm_ (a' := ?_) ?_ ?_
        rotate_left
        ·show Act.put _ (some 55) _ = _
         simp only [Act.put, List.setIfInBounds_toArray, List.set_cons_zero, List.set_cons_succ, i64_w, i32_w]
         rfl
        refine one_ (i := 45) (N := some 56) #[true, true, true, true, true, true, true, true, true, true, true, true, true, true, true, true, true, true, true, true, true, true, true, true, true, true, true, true, true, true, true, true, true, true, true, true, true, true, true, true, true, true, true, true, true, true, false, false, false, false, false, false, false, false, false, false, false, false] rfl rfl (one_of HT_.out (by kernel_rfl)) (by decide) (fun K hK => ?_)
        refine goes_ Try.func25 (by kernel_rfl) rfl #[.agg #[.string t571, .slice Ao59 t572.length co59, .slice Ao60 t575.length co60], .agg #[.string t578, .slice Ao61 t579.length co61, .slice Ao62 t582.length co62]] (by rfl) rfl rfl (by (try simp only [List.map_toArray, List.map_cons, List.map_nil]); first | done | rfl | (simp only [List.length_drop, List.length_take]; rfl)) ?_
        with_reducible refine (almanacref12_Same.calls k t571 _ _ t572 _ _ t575 t578 _ _ t579 _ _ t582 true _ ?side1 ?side2 ?side3 ?side4 ?side5 ?side6 ?side7 ?side8 A23.out).mono ?_
        (case side1 => exact cU (Kd.V_reads' HO574.out).2.2)
        (case side2 => exact (Kd.V_reads' HO574.out).2.1)
        (case side3 => exact cU (Kd.N_reads' HO577.out).2.2)
        (case side4 => exact (Kd.N_reads' HO577.out).2.1)
        (case side5 => exact cU (Kd.V_reads' HO581.out).2.2)
        (case side6 => exact (Kd.V_reads' HO581.out).2.1)
        (case side7 => exact cU (Kd.N_reads' HO584.out).2.2)
        (case side8 => exact (Kd.N_reads' HO584.out).2.1)
        rintro e w63 ⟨rfl, hb⟩
        refine ⟨_, rfl, ?_⟩
        have n0_ := Aside0.mk (Kd.N_below (by (with_reducible repeat (first | apply Kd.N_alloc | apply Kd.N_drewN | apply Kd.N_drew)); exact HO527.out) hb)
        have n1_ := Aside0.mk (Kd.V_below (by (with_reducible repeat (first | apply Kd.V_alloc | apply Kd.V_drewN | apply Kd.V_drew)); exact HO530.out) hb)
        have n2_ := Aside0.mk (Kd.N_below (by (with_reducible repeat (first | apply Kd.N_alloc | apply Kd.N_drewN | apply Kd.N_drew)); exact HO534.out) hb)
        have n3_ := Aside0.mk (Kd.V_below (by (with_reducible repeat (first | apply Kd.V_alloc | apply Kd.V_drewN | apply Kd.V_drew)); exact HO537.out) hb)
        have n4_ := Aside0.mk (Kd.V_below (by (with_reducible repeat (first | apply Kd.V_alloc | apply Kd.V_drewN | apply Kd.V_drew)); exact HO542.out) hb)
        have n5_ := Aside0.mk (Kd.N_below (by (with_reducible repeat (first | apply Kd.N_alloc | apply Kd.N_drewN | apply Kd.N_drew)); exact HO545.out) hb)
        have n6_ := Aside0.mk (Kd.V_below (by (with_reducible repeat (first | apply Kd.V_alloc | apply Kd.V_drewN | apply Kd.V_drew)); exact HO549.out) hb)
        have n7_ := Aside0.mk (Kd.N_below (by (with_reducible repeat (first | apply Kd.N_alloc | apply Kd.N_drewN | apply Kd.N_drew)); exact HO552.out) hb)
        have n8_ := Aside0.mk (Kd.V_below (by (with_reducible repeat (first | apply Kd.V_alloc | apply Kd.V_drewN | apply Kd.V_drew)); exact HO559.out) hb)
        have n9_ := Aside0.mk (Kd.N_below (by (with_reducible repeat (first | apply Kd.N_alloc | apply Kd.N_drewN | apply Kd.N_drew)); exact HO562.out) hb)
        have n10_ := Aside0.mk (Kd.V_below (by (with_reducible repeat (first | apply Kd.V_alloc | apply Kd.V_drewN | apply Kd.V_drew)); exact HO566.out) hb)
        have n11_ := Aside0.mk (Kd.N_below (by (with_reducible repeat (first | apply Kd.N_alloc | apply Kd.N_drewN | apply Kd.N_drew)); exact HO569.out) hb)
        have n12_ := Aside0.mk (Kd.V_below (by (with_reducible repeat (first | apply Kd.V_alloc | apply Kd.V_drewN | apply Kd.V_drew)); exact HO574.out) hb)
        have n13_ := Aside0.mk (Kd.N_below (by (with_reducible repeat (first | apply Kd.N_alloc | apply Kd.N_drewN | apply Kd.N_drew)); exact HO577.out) hb)
        have n14_ := Aside0.mk (Kd.V_below (by (with_reducible repeat (first | apply Kd.V_alloc | apply Kd.V_drewN | apply Kd.V_drew)); exact HO581.out) hb)
        have n15_ := Aside0.mk (Kd.N_below (by (with_reducible repeat (first | apply Kd.N_alloc | apply Kd.N_drewN | apply Kd.N_drew)); exact HO584.out) hb)
        have n16_ := Aside0.mk (blk_below (kU BK521) hb)
        have n17_ := Aside0.mk (below_step (bU HB) hb)
        clear HO527
        clear HO530
        clear HO534
        clear HO537
        clear HO542
        clear HO545
        clear HO549
        clear HO552
        clear HO559
        clear HO562
        clear HO566
        clear HO569
        clear HO574
        clear HO577
        clear HO581
        clear HO584
        clear BK521
        clear HB
        have HO527 := n0_
        have HO530 := n1_
        have HO534 := n2_
        have HO537 := n3_
        have HO542 := n4_
        have HO545 := n5_
        have HO549 := n6_
        have HO552 := n7_
        have HO559 := n8_
        have HO562 := n9_
        have HO566 := n10_
        have HO569 := n11_
        have HO574 := n12_
        have HO577 := n13_
        have HO581 := n14_
        have HO584 := n15_
        have BK521 := n16_
        have HB := n17_
        clear n0_ n1_ n2_ n3_ n4_ n5_ n6_ n7_ n8_ n9_ n10_ n11_ n12_ n13_ n14_ n15_ n16_ n17_
        (try clear hb)
        (try clear hb2)
        (try clear hk)
        (try clear hi)
        refine hK.out _ _ ⟨(blk_cell BK521.out 0).trans rfl, (blk_cell BK521.out 1).trans rfl, (blk_cell BK521.out 2).trans rfl⟩ (fun hHeld => ?_)
        clear hK K
        refine norm_ (a' := ?_) ?_ ?_
        rotate_left
        ·show Act.put _ (some 56) _ = _
         simp only [Act.put, List.setIfInBounds_toArray, List.set_cons_zero, List.set_cons_succ, i64_w, i32_w]
         rfl
        refine pure_ (i := 46) (N := some 57) (v := ?_) (a' := ?_) #[true, true, true, true, true, true, true, true, true, true, true, true, true, true, true, true, true, true, true, true, true, true, true, true, true, true, true, true, true, true, true, true, true, true, true, true, true, true, true, true, true, true, true, true, true, true, true, false, false, false, false, false, false, false, false, false, false, false] rfl rfl (any_of HT_.out (by kernel_rfl)) (fun _ _ _ h => h) (Or.inl ⟨by rfl, ?_⟩) ?_ ?_
        rotate_left
        ·intro w'
         go_simp
         with_reducible rfl
        rotate_left
        ·simp only [Act.put, List.setIfInBounds_toArray, List.set_cons_zero, List.set_cons_succ, i64_w, i32_w]
         rfl
        refine pure_ (i := 47) (N := some 58) (v := ?_) (a' := ?_) #[true, true, true, true, true, true, true, true, true, true, true, true, true, true, true, true, true, true, true, true, true, true, true, true, true, true, true, true, true, true, true, true, true, true, true, true, true, true, true, true, true, true, true, true, true, true, true, true, false, false, false, false, false, false, false, false, false, false] rfl rfl (any_of HT_.out (by kernel_rfl)) (fun _ _ _ h => h) (Or.inl ⟨by rfl, ?_⟩) ?_ ?_
        rotate_left
        ·intro w'
         go_simp
         with_reducible rfl
        rotate_left
        ·simp only [Act.put, List.setIfInBounds_toArray, List.set_cons_zero, List.set_cons_succ, i64_w, i32_w]
         rfl
        refine take_ (i := 48) (N := some 59) (v := ?_) (a' := ?_) #[true, true, true, true, true, true, true, true, true, true, true, true, true, true, true, true, true, true, true, true, true, true, true, true, true, true, true, true, true, true, true, true, true, true, true, true, true, true, true, true, true, true, true, true, true, true, true, true, true, false, false, false, false, false, false, false, false, false] rfl rfl (take_ofW HT_.out HW_.out (by kernel_rfl)) (fun _ _ _ h => h) (Or.inl ⟨by rfl, ?_⟩) hHeld ?_ ?_
        rotate_left
        ·rintro w' ⟨s0, s1, s2⟩
         go_simp
         with_reducible rfl
        rotate_left
        ·simp only [Act.put, List.setIfInBounds_toArray, List.set_cons_zero, List.set_cons_succ, i64_w, i32_w]
         rfl
        refine take_ (i := 50) (N := some 61) (v := ?_) (a' := ?_) #[true, true, true, true, true, true, true, true, true, true, true, true, true, true, true, true, true, true, true, true, true, true, true, true, true, true, true, true, true, true, true, true, true, true, true, true, true, true, true, true, true, true, true, true, true, true, true, true, true, false, true, false, false, false, false, false, false, false] rfl rfl (take_ofW HT_.out HW_.out (by kernel_rfl)) (fun _ _ _ h => h) (Or.inl ⟨by rfl, ?_⟩) hHeld ?_ ?_
        rotate_left
        ·rintro w' ⟨s0, s1, s2⟩
         go_simp
         with_reducible rfl
        rotate_left
        ·simp only [Act.put, List.setIfInBounds_toArray, List.set_cons_zero, List.set_cons_succ, i64_w, i32_w]
         rfl
        refine one_ (i := 49) (N := some 60) #[true, true, true, true, true, true, true, true, true, true, true, true, true, true, true, true, true, true, true, true, true, true, true, true, true, true, true, true, true, true, true, true, true, true, true, true, true, true, true, true, true, true, true, true, true, true, true, true, true, true, true, false, false, false, false, false, false, false] rfl rfl (one_of HT_.out (by kernel_rfl)) (by decide) (fun K hK => ?_)
        refine goes_ Try.func31 (by kernel_rfl) rfl #[.agg #[.string a0_0, .slice A0_1 l0_1.length c0_1, .slice A0_2 l0_2.length c0_2]] (by rfl) rfl rfl (by (try simp only [List.map_toArray, List.map_cons, List.map_nil]); first | done | rfl | (simp only [List.length_drop, List.length_take]; rfl)) ?_
        with_reducible refine (itip_Cancelled.calls k a0_0 (fun k_ => k_ < w.heap.size) _ _ l0_1 (fun k_ => k_ < w.heap.size) _ _ l0_2 t586 t587 t590 _ ?side1 ?side2 A25.out).mono ?_
        (case side1 => exact Kd.V_mk HC0_1.out (Kd.F_below (Kd.C_F k45_heap HR0_1.out) (bU HB)))
        (case side2 => exact Kd.V_mk HC0_2.out (Kd.F_below (Kd.C_F k25_heap HR0_2.out) (bU HB)))
        rintro e w64 ⟨v588, v591, rfl, ho0, ho1, hb⟩
        refine ⟨_, rfl, ?_⟩
        have n0_ := Aside0.mk (Kd.N_elder' (by (with_reducible repeat (first | apply Kd.N_alloc | apply Kd.N_drewN | apply Kd.N_drew)); exact HO527.out) (Kd.N_base ho1) hb)
        have n1_ := Aside0.mk (Kd.V_elder' (by (with_reducible repeat (first | apply Kd.V_alloc | apply Kd.V_drewN | apply Kd.V_drew)); exact HO530.out) (Kd.N_base ho1) hb)
        have n2_ := Aside0.mk (Kd.N_elder' (by (with_reducible repeat (first | apply Kd.N_alloc | apply Kd.N_drewN | apply Kd.N_drew)); exact HO534.out) (Kd.N_base ho1) hb)
        have n3_ := Aside0.mk (Kd.V_elder' (by (with_reducible repeat (first | apply Kd.V_alloc | apply Kd.V_drewN | apply Kd.V_drew)); exact HO537.out) (Kd.N_base ho1) hb)
        have n4_ := Aside0.mk (Kd.V_elder' (by (with_reducible repeat (first | apply Kd.V_alloc | apply Kd.V_drewN | apply Kd.V_drew)); exact HO542.out) (Kd.N_base ho1) hb)
        have n5_ := Aside0.mk (Kd.N_elder' (by (with_reducible repeat (first | apply Kd.N_alloc | apply Kd.N_drewN | apply Kd.N_drew)); exact HO545.out) (Kd.N_base ho1) hb)
        have n6_ := Aside0.mk (Kd.V_elder' (by (with_reducible repeat (first | apply Kd.V_alloc | apply Kd.V_drewN | apply Kd.V_drew)); exact HO549.out) (Kd.N_base ho1) hb)
        have n7_ := Aside0.mk (Kd.N_elder' (by (with_reducible repeat (first | apply Kd.N_alloc | apply Kd.N_drewN | apply Kd.N_drew)); exact HO552.out) (Kd.N_base ho1) hb)
        have n8_ := Aside0.mk (Kd.V_elder' (by (with_reducible repeat (first | apply Kd.V_alloc | apply Kd.V_drewN | apply Kd.V_drew)); exact HO559.out) (Kd.N_base ho1) hb)
        have n9_ := Aside0.mk (Kd.N_elder' (by (with_reducible repeat (first | apply Kd.N_alloc | apply Kd.N_drewN | apply Kd.N_drew)); exact HO562.out) (Kd.N_base ho1) hb)
        have n10_ := Aside0.mk (Kd.V_elder' (by (with_reducible repeat (first | apply Kd.V_alloc | apply Kd.V_drewN | apply Kd.V_drew)); exact HO566.out) (Kd.N_base ho1) hb)
        have n11_ := Aside0.mk (Kd.N_elder' (by (with_reducible repeat (first | apply Kd.N_alloc | apply Kd.N_drewN | apply Kd.N_drew)); exact HO569.out) (Kd.N_base ho1) hb)
        have n12_ := Aside0.mk (Kd.V_elder' (by (with_reducible repeat (first | apply Kd.V_alloc | apply Kd.V_drewN | apply Kd.V_drew)); exact HO574.out) (Kd.N_base ho1) hb)
        have n13_ := Aside0.mk (Kd.N_elder' (by (with_reducible repeat (first | apply Kd.N_alloc | apply Kd.N_drewN | apply Kd.N_drew)); exact HO577.out) (Kd.N_base ho1) hb)
        have n14_ := Aside0.mk (Kd.V_elder' (by (with_reducible repeat (first | apply Kd.V_alloc | apply Kd.V_drewN | apply Kd.V_drew)); exact HO581.out) (Kd.N_base ho1) hb)
        have n15_ := Aside0.mk (Kd.N_elder' (by (with_reducible repeat (first | apply Kd.N_alloc | apply Kd.N_drewN | apply Kd.N_drew)); exact HO584.out) (Kd.N_base ho1) hb)
        have n16_ := Aside0.mk (Kd.V_lower (Kd.V_mono (ok' := fun k_ => some k_ ≠ (v591 : Value).ownBlock ∧ some k_ ≠ (.slice Ao36 t525.length co36 : Value).ownBlock ∧ some k_ ≠ (.slice Ao38 t532.length co38 : Value).ownBlock ∧ some k_ ≠ (.slice Ao44 t543.length co44 : Value).ownBlock ∧ some k_ ≠ (.slice Ao46 t550.length co46 : Value).ownBlock ∧ some k_ ≠ (.slice Ao53 t560.length co53 : Value).ownBlock ∧ some k_ ≠ (.slice Ao55 t567.length co55 : Value).ownBlock ∧ some k_ ≠ (.slice Ao60 t575.length co60 : Value).ownBlock ∧ some k_ ≠ (.slice Ao62 t582.length co62 : Value).ownBlock ∧ k_ ≠ gb521) ho0 (fun k_ hk_ => ⟨hk_.2, Or.elim hk_.1 (fun hs_ => Or.elim hs_ (fun hs_ => fun e_ => Nat.not_le.2 hs_ (Kd.N_base HO527.out k_ e_.symm)) (fun hs_ => fun e_ => Nat.not_le.2 hs_ (Kd.N_base HO527.out k_ e_.symm))) (fun hn_ => (Kd.fresh' (Kd.N_lt (by (with_reducible repeat (first | apply Kd.N_alloc | apply Kd.N_drewN | apply Kd.N_drew)); exact HO527.out)) k_ hn_)), Or.elim hk_.1 (fun hs_ => Or.elim hs_ (fun hs_ => fun e_ => Nat.not_le.2 hs_ (Kd.N_base HO534.out k_ e_.symm)) (fun hs_ => fun e_ => Nat.not_le.2 hs_ (Kd.N_base HO534.out k_ e_.symm))) (fun hn_ => (Kd.fresh' (Kd.N_lt (by (with_reducible repeat (first | apply Kd.N_alloc | apply Kd.N_drewN | apply Kd.N_drew)); exact HO534.out)) k_ hn_)), Or.elim hk_.1 (fun hs_ => Or.elim hs_ (fun hs_ => fun e_ => Nat.not_le.2 hs_ (Kd.N_base HO545.out k_ e_.symm)) (fun hs_ => fun e_ => Nat.not_le.2 hs_ (Kd.N_base HO545.out k_ e_.symm))) (fun hn_ => (Kd.fresh' (Kd.N_lt (by (with_reducible repeat (first | apply Kd.N_alloc | apply Kd.N_drewN | apply Kd.N_drew)); exact HO545.out)) k_ hn_)), Or.elim hk_.1 (fun hs_ => Or.elim hs_ (fun hs_ => fun e_ => Nat.not_le.2 hs_ (Kd.N_base HO552.out k_ e_.symm)) (fun hs_ => fun e_ => Nat.not_le.2 hs_ (Kd.N_base HO552.out k_ e_.symm))) (fun hn_ => (Kd.fresh' (Kd.N_lt (by (with_reducible repeat (first | apply Kd.N_alloc | apply Kd.N_drewN | apply Kd.N_drew)); exact HO552.out)) k_ hn_)), Or.elim hk_.1 (fun hs_ => Or.elim hs_ (fun hs_ => fun e_ => Nat.not_le.2 hs_ (Kd.N_base HO562.out k_ e_.symm)) (fun hs_ => fun e_ => Nat.not_le.2 hs_ (Kd.N_base HO562.out k_ e_.symm))) (fun hn_ => (Kd.fresh' (Kd.N_lt (by (with_reducible repeat (first | apply Kd.N_alloc | apply Kd.N_drewN | apply Kd.N_drew)); exact HO562.out)) k_ hn_)), Or.elim hk_.1 (fun hs_ => Or.elim hs_ (fun hs_ => fun e_ => Nat.not_le.2 hs_ (Kd.N_base HO569.out k_ e_.symm)) (fun hs_ => fun e_ => Nat.not_le.2 hs_ (Kd.N_base HO569.out k_ e_.symm))) (fun hn_ => (Kd.fresh' (Kd.N_lt (by (with_reducible repeat (first | apply Kd.N_alloc | apply Kd.N_drewN | apply Kd.N_drew)); exact HO569.out)) k_ hn_)), Or.elim hk_.1 (fun hs_ => Or.elim hs_ (fun hs_ => fun e_ => Nat.not_le.2 hs_ (Kd.N_base HO577.out k_ e_.symm)) (fun hs_ => fun e_ => Nat.not_le.2 hs_ (Kd.N_base HO577.out k_ e_.symm))) (fun hn_ => (Kd.fresh' (Kd.N_lt (by (with_reducible repeat (first | apply Kd.N_alloc | apply Kd.N_drewN | apply Kd.N_drew)); exact HO577.out)) k_ hn_)), Or.elim hk_.1 (fun hs_ => Or.elim hs_ (fun hs_ => fun e_ => Nat.not_le.2 hs_ (Kd.N_base HO584.out k_ e_.symm)) (fun hs_ => fun e_ => Nat.not_le.2 hs_ (Kd.N_base HO584.out k_ e_.symm))) (fun hn_ => (Kd.fresh' (Kd.N_lt (by (with_reducible repeat (first | apply Kd.N_alloc | apply Kd.N_drewN | apply Kd.N_drew)); exact HO584.out)) k_ hn_)), Or.elim hk_.1 (fun hs_ => Or.elim hs_ (fun hs_ => fun e_ => Nat.not_le.2 hs_ (by rw [e_]; exact GW521.out)) (fun hs_ => fun e_ => Nat.not_le.2 hs_ (by rw [e_]; exact GW521.out))) (fun hn_ => (Kd.freshB (g := gb521) (o := .cells #[.string a0_0, .slice A0_1 l0_1.length c0_1, .slice A0_2 l0_2.length c0_2] 25 (0, 0)) (kU BK521) k_ hn_))⟩)) (below_size (bU HB)))
        have n17_ := Aside0.mk (Kd.N_lower (Kd.N_mono (ok' := fun k_ => some k_ ≠ (.slice Ao36 t525.length co36 : Value).ownBlock ∧ some k_ ≠ (.slice Ao38 t532.length co38 : Value).ownBlock ∧ some k_ ≠ (.slice Ao44 t543.length co44 : Value).ownBlock ∧ some k_ ≠ (.slice Ao46 t550.length co46 : Value).ownBlock ∧ some k_ ≠ (.slice Ao53 t560.length co53 : Value).ownBlock ∧ some k_ ≠ (.slice Ao55 t567.length co55 : Value).ownBlock ∧ some k_ ≠ (.slice Ao60 t575.length co60 : Value).ownBlock ∧ some k_ ≠ (.slice Ao62 t582.length co62 : Value).ownBlock ∧ k_ ≠ gb521) ho1 (fun k_ hk_ => ⟨Or.elim hk_ (fun hs_ => Or.elim hs_ (fun hs_ => fun e_ => Nat.not_le.2 hs_ (Kd.N_base HO527.out k_ e_.symm)) (fun hs_ => fun e_ => Nat.not_le.2 hs_ (Kd.N_base HO527.out k_ e_.symm))) (fun hn_ => (Kd.fresh' (Kd.N_lt (by (with_reducible repeat (first | apply Kd.N_alloc | apply Kd.N_drewN | apply Kd.N_drew)); exact HO527.out)) k_ hn_)), Or.elim hk_ (fun hs_ => Or.elim hs_ (fun hs_ => fun e_ => Nat.not_le.2 hs_ (Kd.N_base HO534.out k_ e_.symm)) (fun hs_ => fun e_ => Nat.not_le.2 hs_ (Kd.N_base HO534.out k_ e_.symm))) (fun hn_ => (Kd.fresh' (Kd.N_lt (by (with_reducible repeat (first | apply Kd.N_alloc | apply Kd.N_drewN | apply Kd.N_drew)); exact HO534.out)) k_ hn_)), Or.elim hk_ (fun hs_ => Or.elim hs_ (fun hs_ => fun e_ => Nat.not_le.2 hs_ (Kd.N_base HO545.out k_ e_.symm)) (fun hs_ => fun e_ => Nat.not_le.2 hs_ (Kd.N_base HO545.out k_ e_.symm))) (fun hn_ => (Kd.fresh' (Kd.N_lt (by (with_reducible repeat (first | apply Kd.N_alloc | apply Kd.N_drewN | apply Kd.N_drew)); exact HO545.out)) k_ hn_)), Or.elim hk_ (fun hs_ => Or.elim hs_ (fun hs_ => fun e_ => Nat.not_le.2 hs_ (Kd.N_base HO552.out k_ e_.symm)) (fun hs_ => fun e_ => Nat.not_le.2 hs_ (Kd.N_base HO552.out k_ e_.symm))) (fun hn_ => (Kd.fresh' (Kd.N_lt (by (with_reducible repeat (first | apply Kd.N_alloc | apply Kd.N_drewN | apply Kd.N_drew)); exact HO552.out)) k_ hn_)), Or.elim hk_ (fun hs_ => Or.elim hs_ (fun hs_ => fun e_ => Nat.not_le.2 hs_ (Kd.N_base HO562.out k_ e_.symm)) (fun hs_ => fun e_ => Nat.not_le.2 hs_ (Kd.N_base HO562.out k_ e_.symm))) (fun hn_ => (Kd.fresh' (Kd.N_lt (by (with_reducible repeat (first | apply Kd.N_alloc | apply Kd.N_drewN | apply Kd.N_drew)); exact HO562.out)) k_ hn_)), Or.elim hk_ (fun hs_ => Or.elim hs_ (fun hs_ => fun e_ => Nat.not_le.2 hs_ (Kd.N_base HO569.out k_ e_.symm)) (fun hs_ => fun e_ => Nat.not_le.2 hs_ (Kd.N_base HO569.out k_ e_.symm))) (fun hn_ => (Kd.fresh' (Kd.N_lt (by (with_reducible repeat (first | apply Kd.N_alloc | apply Kd.N_drewN | apply Kd.N_drew)); exact HO569.out)) k_ hn_)), Or.elim hk_ (fun hs_ => Or.elim hs_ (fun hs_ => fun e_ => Nat.not_le.2 hs_ (Kd.N_base HO577.out k_ e_.symm)) (fun hs_ => fun e_ => Nat.not_le.2 hs_ (Kd.N_base HO577.out k_ e_.symm))) (fun hn_ => (Kd.fresh' (Kd.N_lt (by (with_reducible repeat (first | apply Kd.N_alloc | apply Kd.N_drewN | apply Kd.N_drew)); exact HO577.out)) k_ hn_)), Or.elim hk_ (fun hs_ => Or.elim hs_ (fun hs_ => fun e_ => Nat.not_le.2 hs_ (Kd.N_base HO584.out k_ e_.symm)) (fun hs_ => fun e_ => Nat.not_le.2 hs_ (Kd.N_base HO584.out k_ e_.symm))) (fun hn_ => (Kd.fresh' (Kd.N_lt (by (with_reducible repeat (first | apply Kd.N_alloc | apply Kd.N_drewN | apply Kd.N_drew)); exact HO584.out)) k_ hn_)), Or.elim hk_ (fun hs_ => Or.elim hs_ (fun hs_ => fun e_ => Nat.not_le.2 hs_ (by rw [e_]; exact GW521.out)) (fun hs_ => fun e_ => Nat.not_le.2 hs_ (by rw [e_]; exact GW521.out))) (fun hn_ => (Kd.freshB (g := gb521) (o := .cells #[.string a0_0, .slice A0_1 l0_1.length c0_1, .slice A0_2 l0_2.length c0_2] 25 (0, 0)) (kU BK521) k_ hn_))⟩)) (below_size (bU HB)))
        have n18_ := Aside0.mk (blk_below (kU BK521) hb)
        have n19_ := Aside0.mk (below_step (bU HB) hb)
        clear HO527
        clear HO530
        clear HO534
        clear HO537
        clear HO542
        clear HO545
        clear HO549
        clear HO552
        clear HO559
        clear HO562
        clear HO566
        clear HO569
        clear HO574
        clear HO577
        clear HO581
        clear HO584
        clear BK521
        clear HB
        have HO527 := n0_
        have HO530 := n1_
        have HO534 := n2_
        have HO537 := n3_
        have HO542 := n4_
        have HO545 := n5_
        have HO549 := n6_
        have HO552 := n7_
        have HO559 := n8_
        have HO562 := n9_
        have HO566 := n10_
        have HO569 := n11_
        have HO574 := n12_
        have HO577 := n13_
        have HO581 := n14_
        have HO584 := n15_
        have HO589 := n16_
        have HO592 := n17_
        have BK521 := n18_
        have HB := n19_
        clear n0_ n1_ n2_ n3_ n4_ n5_ n6_ n7_ n8_ n9_ n10_ n11_ n12_ n13_ n14_ n15_ n16_ n17_ n18_ n19_
        (try clear hb)
        (try clear hb2)
        (try clear hk)
        (try clear hi)
        (try clear ho0)
        (try clear ho1)
        refine hK.out _ _ ⟨(blk_cell BK521.out 0).trans rfl, (blk_cell BK521.out 1).trans rfl, (blk_cell BK521.out 2).trans rfl⟩ (fun hHeld => ?_)
        clear hK K
        refine norm_ (a' := ?_) ?_ ?_
        rotate_left
        ·show Act.put _ (some 60) _ = _
         simp only [Act.put, List.setIfInBounds_toArray, List.set_cons_zero, List.set_cons_succ, i64_w, i32_w]
         rfl
        refine one_ (i := 51) (N := some 62) #[true, true, true, true, true, true, true, true, true, true, true, true, true, true, true, true, true, true, true, true, true, true, true, true, true, true, true, true, true, true, true, true, true, true, true, true, true, true, true, true, true, true, true, true, true, true, true, true, true, true, true, true, false, false, false, false, false, false] rfl rfl (one_of HT_.out (by kernel_rfl)) (by decide) (fun K hK => ?_)
        refine goes_ Try.func32 (by kernel_rfl) rfl #[.agg #[.string a0_0, .slice A0_1 l0_1.length c0_1, .slice A0_2 l0_2.length c0_2]] (by rfl) rfl rfl (by (try simp only [List.map_toArray, List.map_cons, List.map_nil]); first | done | rfl | (simp only [List.length_drop, List.length_take]; rfl)) ?_
        with_reducible refine (almanacref26_Cancelled.calls k a0_0 (fun k_ => k_ < w.heap.size) _ _ l0_1 (fun k_ => k_ < w.heap.size) _ _ l0_2 t593 t594 t597 _ ?side1 ?side2 A26.out).mono ?_
        (case side1 => exact Kd.V_mk HC0_1.out (Kd.F_below (Kd.C_F k45_heap HR0_1.out) (bU HB)))
        (case side2 => exact Kd.V_mk HC0_2.out (Kd.F_below (Kd.C_F k25_heap HR0_2.out) (bU HB)))
        rintro e w65 ⟨v595, v598, rfl, ho0, ho1, hb⟩
        refine ⟨_, rfl, ?_⟩
        have n0_ := Aside0.mk (Kd.N_elder' (by (with_reducible repeat (first | apply Kd.N_alloc | apply Kd.N_drewN | apply Kd.N_drew)); exact HO527.out) (Kd.N_base ho1) hb)
        have n1_ := Aside0.mk (Kd.V_elder' (by (with_reducible repeat (first | apply Kd.V_alloc | apply Kd.V_drewN | apply Kd.V_drew)); exact HO530.out) (Kd.N_base ho1) hb)
        have n2_ := Aside0.mk (Kd.N_elder' (by (with_reducible repeat (first | apply Kd.N_alloc | apply Kd.N_drewN | apply Kd.N_drew)); exact HO534.out) (Kd.N_base ho1) hb)
        have n3_ := Aside0.mk (Kd.V_elder' (by (with_reducible repeat (first | apply Kd.V_alloc | apply Kd.V_drewN | apply Kd.V_drew)); exact HO537.out) (Kd.N_base ho1) hb)
        have n4_ := Aside0.mk (Kd.V_elder' (by (with_reducible repeat (first | apply Kd.V_alloc | apply Kd.V_drewN | apply Kd.V_drew)); exact HO542.out) (Kd.N_base ho1) hb)
        have n5_ := Aside0.mk (Kd.N_elder' (by (with_reducible repeat (first | apply Kd.N_alloc | apply Kd.N_drewN | apply Kd.N_drew)); exact HO545.out) (Kd.N_base ho1) hb)
        have n6_ := Aside0.mk (Kd.V_elder' (by (with_reducible repeat (first | apply Kd.V_alloc | apply Kd.V_drewN | apply Kd.V_drew)); exact HO549.out) (Kd.N_base ho1) hb)
        have n7_ := Aside0.mk (Kd.N_elder' (by (with_reducible repeat (first | apply Kd.N_alloc | apply Kd.N_drewN | apply Kd.N_drew)); exact HO552.out) (Kd.N_base ho1) hb)
        have n8_ := Aside0.mk (Kd.V_elder' (by (with_reducible repeat (first | apply Kd.V_alloc | apply Kd.V_drewN | apply Kd.V_drew)); exact HO559.out) (Kd.N_base ho1) hb)
        have n9_ := Aside0.mk (Kd.N_elder' (by (with_reducible repeat (first | apply Kd.N_alloc | apply Kd.N_drewN | apply Kd.N_drew)); exact HO562.out) (Kd.N_base ho1) hb)
        have n10_ := Aside0.mk (Kd.V_elder' (by (with_reducible repeat (first | apply Kd.V_alloc | apply Kd.V_drewN | apply Kd.V_drew)); exact HO566.out) (Kd.N_base ho1) hb)
        have n11_ := Aside0.mk (Kd.N_elder' (by (with_reducible repeat (first | apply Kd.N_alloc | apply Kd.N_drewN | apply Kd.N_drew)); exact HO569.out) (Kd.N_base ho1) hb)
        have n12_ := Aside0.mk (Kd.V_elder' (by (with_reducible repeat (first | apply Kd.V_alloc | apply Kd.V_drewN | apply Kd.V_drew)); exact HO574.out) (Kd.N_base ho1) hb)
        have n13_ := Aside0.mk (Kd.N_elder' (by (with_reducible repeat (first | apply Kd.N_alloc | apply Kd.N_drewN | apply Kd.N_drew)); exact HO577.out) (Kd.N_base ho1) hb)
        have n14_ := Aside0.mk (Kd.V_elder' (by (with_reducible repeat (first | apply Kd.V_alloc | apply Kd.V_drewN | apply Kd.V_drew)); exact HO581.out) (Kd.N_base ho1) hb)
        have n15_ := Aside0.mk (Kd.N_elder' (by (with_reducible repeat (first | apply Kd.N_alloc | apply Kd.N_drewN | apply Kd.N_drew)); exact HO584.out) (Kd.N_base ho1) hb)
        have n16_ := Aside0.mk (Kd.V_elder' (by (with_reducible repeat (first | apply Kd.V_alloc | apply Kd.V_drewN | apply Kd.V_drew)); exact HO589.out) (Kd.N_base ho1) hb)
        have n17_ := Aside0.mk (Kd.N_elder' (by (with_reducible repeat (first | apply Kd.N_alloc | apply Kd.N_drewN | apply Kd.N_drew)); exact HO592.out) (Kd.N_base ho1) hb)
        have n18_ := Aside0.mk (Kd.V_lower (Kd.V_mono (ok' := fun k_ => some k_ ≠ (v598 : Value).ownBlock ∧ some k_ ≠ (.slice Ao36 t525.length co36 : Value).ownBlock ∧ some k_ ≠ (.slice Ao38 t532.length co38 : Value).ownBlock ∧ some k_ ≠ (.slice Ao44 t543.length co44 : Value).ownBlock ∧ some k_ ≠ (.slice Ao46 t550.length co46 : Value).ownBlock ∧ some k_ ≠ (.slice Ao53 t560.length co53 : Value).ownBlock ∧ some k_ ≠ (.slice Ao55 t567.length co55 : Value).ownBlock ∧ some k_ ≠ (.slice Ao60 t575.length co60 : Value).ownBlock ∧ some k_ ≠ (.slice Ao62 t582.length co62 : Value).ownBlock ∧ some k_ ≠ (v591 : Value).ownBlock ∧ k_ ≠ gb521) ho0 (fun k_ hk_ => ⟨hk_.2, Or.elim hk_.1 (fun hs_ => Or.elim hs_ (fun hs_ => fun e_ => Nat.not_le.2 hs_ (Kd.N_base HO527.out k_ e_.symm)) (fun hs_ => fun e_ => Nat.not_le.2 hs_ (Kd.N_base HO527.out k_ e_.symm))) (fun hn_ => (Kd.fresh' (Kd.N_lt (by (with_reducible repeat (first | apply Kd.N_alloc | apply Kd.N_drewN | apply Kd.N_drew)); exact HO527.out)) k_ hn_)), Or.elim hk_.1 (fun hs_ => Or.elim hs_ (fun hs_ => fun e_ => Nat.not_le.2 hs_ (Kd.N_base HO534.out k_ e_.symm)) (fun hs_ => fun e_ => Nat.not_le.2 hs_ (Kd.N_base HO534.out k_ e_.symm))) (fun hn_ => (Kd.fresh' (Kd.N_lt (by (with_reducible repeat (first | apply Kd.N_alloc | apply Kd.N_drewN | apply Kd.N_drew)); exact HO534.out)) k_ hn_)), Or.elim hk_.1 (fun hs_ => Or.elim hs_ (fun hs_ => fun e_ => Nat.not_le.2 hs_ (Kd.N_base HO545.out k_ e_.symm)) (fun hs_ => fun e_ => Nat.not_le.2 hs_ (Kd.N_base HO545.out k_ e_.symm))) (fun hn_ => (Kd.fresh' (Kd.N_lt (by (with_reducible repeat (first | apply Kd.N_alloc | apply Kd.N_drewN | apply Kd.N_drew)); exact HO545.out)) k_ hn_)), Or.elim hk_.1 (fun hs_ => Or.elim hs_ (fun hs_ => fun e_ => Nat.not_le.2 hs_ (Kd.N_base HO552.out k_ e_.symm)) (fun hs_ => fun e_ => Nat.not_le.2 hs_ (Kd.N_base HO552.out k_ e_.symm))) (fun hn_ => (Kd.fresh' (Kd.N_lt (by (with_reducible repeat (first | apply Kd.N_alloc | apply Kd.N_drewN | apply Kd.N_drew)); exact HO552.out)) k_ hn_)), Or.elim hk_.1 (fun hs_ => Or.elim hs_ (fun hs_ => fun e_ => Nat.not_le.2 hs_ (Kd.N_base HO562.out k_ e_.symm)) (fun hs_ => fun e_ => Nat.not_le.2 hs_ (Kd.N_base HO562.out k_ e_.symm))) (fun hn_ => (Kd.fresh' (Kd.N_lt (by (with_reducible repeat (first | apply Kd.N_alloc | apply Kd.N_drewN | apply Kd.N_drew)); exact HO562.out)) k_ hn_)), Or.elim hk_.1 (fun hs_ => Or.elim hs_ (fun hs_ => fun e_ => Nat.not_le.2 hs_ (Kd.N_base HO569.out k_ e_.symm)) (fun hs_ => fun e_ => Nat.not_le.2 hs_ (Kd.N_base HO569.out k_ e_.symm))) (fun hn_ => (Kd.fresh' (Kd.N_lt (by (with_reducible repeat (first | apply Kd.N_alloc | apply Kd.N_drewN | apply Kd.N_drew)); exact HO569.out)) k_ hn_)), Or.elim hk_.1 (fun hs_ => Or.elim hs_ (fun hs_ => fun e_ => Nat.not_le.2 hs_ (Kd.N_base HO577.out k_ e_.symm)) (fun hs_ => fun e_ => Nat.not_le.2 hs_ (Kd.N_base HO577.out k_ e_.symm))) (fun hn_ => (Kd.fresh' (Kd.N_lt (by (with_reducible repeat (first | apply Kd.N_alloc | apply Kd.N_drewN | apply Kd.N_drew)); exact HO577.out)) k_ hn_)), Or.elim hk_.1 (fun hs_ => Or.elim hs_ (fun hs_ => fun e_ => Nat.not_le.2 hs_ (Kd.N_base HO584.out k_ e_.symm)) (fun hs_ => fun e_ => Nat.not_le.2 hs_ (Kd.N_base HO584.out k_ e_.symm))) (fun hn_ => (Kd.fresh' (Kd.N_lt (by (with_reducible repeat (first | apply Kd.N_alloc | apply Kd.N_drewN | apply Kd.N_drew)); exact HO584.out)) k_ hn_)), Or.elim hk_.1 (fun hs_ => Or.elim hs_ (fun hs_ => fun e_ => Nat.not_le.2 hs_ (Kd.N_base HO592.out k_ e_.symm)) (fun hs_ => fun e_ => Nat.not_le.2 hs_ (Kd.N_base HO592.out k_ e_.symm))) (fun hn_ => (Kd.fresh' (Kd.N_lt (by (with_reducible repeat (first | apply Kd.N_alloc | apply Kd.N_drewN | apply Kd.N_drew)); exact HO592.out)) k_ hn_)), Or.elim hk_.1 (fun hs_ => Or.elim hs_ (fun hs_ => fun e_ => Nat.not_le.2 hs_ (by rw [e_]; exact GW521.out)) (fun hs_ => fun e_ => Nat.not_le.2 hs_ (by rw [e_]; exact GW521.out))) (fun hn_ => (Kd.freshB (g := gb521) (o := .cells #[.string a0_0, .slice A0_1 l0_1.length c0_1, .slice A0_2 l0_2.length c0_2] 25 (0, 0)) (kU BK521) k_ hn_))⟩)) (below_size (bU HB)))
        have n19_ := Aside0.mk (Kd.N_lower (Kd.N_mono (ok' := fun k_ => some k_ ≠ (.slice Ao36 t525.length co36 : Value).ownBlock ∧ some k_ ≠ (.slice Ao38 t532.length co38 : Value).ownBlock ∧ some k_ ≠ (.slice Ao44 t543.length co44 : Value).ownBlock ∧ some k_ ≠ (.slice Ao46 t550.length co46 : Value).ownBlock ∧ some k_ ≠ (.slice Ao53 t560.length co53 : Value).ownBlock ∧ some k_ ≠ (.slice Ao55 t567.length co55 : Value).ownBlock ∧ some k_ ≠ (.slice Ao60 t575.length co60 : Value).ownBlock ∧ some k_ ≠ (.slice Ao62 t582.length co62 : Value).ownBlock ∧ some k_ ≠ (v591 : Value).ownBlock ∧ k_ ≠ gb521) ho1 (fun k_ hk_ => ⟨Or.elim hk_ (fun hs_ => Or.elim hs_ (fun hs_ => fun e_ => Nat.not_le.2 hs_ (Kd.N_base HO527.out k_ e_.symm)) (fun hs_ => fun e_ => Nat.not_le.2 hs_ (Kd.N_base HO527.out k_ e_.symm))) (fun hn_ => (Kd.fresh' (Kd.N_lt (by (with_reducible repeat (first | apply Kd.N_alloc | apply Kd.N_drewN | apply Kd.N_drew)); exact HO527.out)) k_ hn_)), Or.elim hk_ (fun hs_ => Or.elim hs_ (fun hs_ => fun e_ => Nat.not_le.2 hs_ (Kd.N_base HO534.out k_ e_.symm)) (fun hs_ => fun e_ => Nat.not_le.2 hs_ (Kd.N_base HO534.out k_ e_.symm))) (fun hn_ => (Kd.fresh' (Kd.N_lt (by (with_reducible repeat (first | apply Kd.N_alloc | apply Kd.N_drewN | apply Kd.N_drew)); exact HO534.out)) k_ hn_)), Or.elim hk_ (fun hs_ => Or.elim hs_ (fun hs_ => fun e_ => Nat.not_le.2 hs_ (Kd.N_base HO545.out k_ e_.symm)) (fun hs_ => fun e_ => Nat.not_le.2 hs_ (Kd.N_base HO545.out k_ e_.symm))) (fun hn_ => (Kd.fresh' (Kd.N_lt (by (with_reducible repeat (first | apply Kd.N_alloc | apply Kd.N_drewN | apply Kd.N_drew)); exact HO545.out)) k_ hn_)), Or.elim hk_ (fun hs_ => Or.elim hs_ (fun hs_ => fun e_ => Nat.not_le.2 hs_ (Kd.N_base HO552.out k_ e_.symm)) (fun hs_ => fun e_ => Nat.not_le.2 hs_ (Kd.N_base HO552.out k_ e_.symm))) (fun hn_ => (Kd.fresh' (Kd.N_lt (by (with_reducible repeat (first | apply Kd.N_alloc | apply Kd.N_drewN | apply Kd.N_drew)); exact HO552.out)) k_ hn_)), Or.elim hk_ (fun hs_ => Or.elim hs_ (fun hs_ => fun e_ => Nat.not_le.2 hs_ (Kd.N_base HO562.out k_ e_.symm)) (fun hs_ => fun e_ => Nat.not_le.2 hs_ (Kd.N_base HO562.out k_ e_.symm))) (fun hn_ => (Kd.fresh' (Kd.N_lt (by (with_reducible repeat (first | apply Kd.N_alloc | apply Kd.N_drewN | apply Kd.N_drew)); exact HO562.out)) k_ hn_)), Or.elim hk_ (fun hs_ => Or.elim hs_ (fun hs_ => fun e_ => Nat.not_le.2 hs_ (Kd.N_base HO569.out k_ e_.symm)) (fun hs_ => fun e_ => Nat.not_le.2 hs_ (Kd.N_base HO569.out k_ e_.symm))) (fun hn_ => (Kd.fresh' (Kd.N_lt (by (with_reducible repeat (first | apply Kd.N_alloc | apply Kd.N_drewN | apply Kd.N_drew)); exact HO569.out)) k_ hn_)), Or.elim hk_ (fun hs_ => Or.elim hs_ (fun hs_ => fun e_ => Nat.not_le.2 hs_ (Kd.N_base HO577.out k_ e_.symm)) (fun hs_ => fun e_ => Nat.not_le.2 hs_ (Kd.N_base HO577.out k_ e_.symm))) (fun hn_ => (Kd.fresh' (Kd.N_lt (by (with_reducible repeat (first | apply Kd.N_alloc | apply Kd.N_drewN | apply Kd.N_drew)); exact HO577.out)) k_ hn_)), Or.elim hk_ (fun hs_ => Or.elim hs_ (fun hs_ => fun e_ => Nat.not_le.2 hs_ (Kd.N_base HO584.out k_ e_.symm)) (fun hs_ => fun e_ => Nat.not_le.2 hs_ (Kd.N_base HO584.out k_ e_.symm))) (fun hn_ => (Kd.fresh' (Kd.N_lt (by (with_reducible repeat (first | apply Kd.N_alloc | apply Kd.N_drewN | apply Kd.N_drew)); exact HO584.out)) k_ hn_)), Or.elim hk_ (fun hs_ => Or.elim hs_ (fun hs_ => fun e_ => Nat.not_le.2 hs_ (Kd.N_base HO592.out k_ e_.symm)) (fun hs_ => fun e_ => Nat.not_le.2 hs_ (Kd.N_base HO592.out k_ e_.symm))) (fun hn_ => (Kd.fresh' (Kd.N_lt (by (with_reducible repeat (first | apply Kd.N_alloc | apply Kd.N_drewN | apply Kd.N_drew)); exact HO592.out)) k_ hn_)), Or.elim hk_ (fun hs_ => Or.elim hs_ (fun hs_ => fun e_ => Nat.not_le.2 hs_ (by rw [e_]; exact GW521.out)) (fun hs_ => fun e_ => Nat.not_le.2 hs_ (by rw [e_]; exact GW521.out))) (fun hn_ => (Kd.freshB (g := gb521) (o := .cells #[.string a0_0, .slice A0_1 l0_1.length c0_1, .slice A0_2 l0_2.length c0_2] 25 (0, 0)) (kU BK521) k_ hn_))⟩)) (below_size (bU HB)))
        have n20_ := Aside0.mk (blk_below (kU BK521) hb)
        have n21_ := Aside0.mk (below_step (bU HB) hb)
        clear HO527
        clear HO530
        clear HO534
        clear HO537
        clear HO542
        clear HO545
        clear HO549
        clear HO552
        clear HO559
        clear HO562
        clear HO566
        clear HO569
        clear HO574
        clear HO577
        clear HO581
        clear HO584
        clear HO589
        clear HO592
        clear BK521
        clear HB
        have HO527 := n0_
        have HO530 := n1_
        have HO534 := n2_
        have HO537 := n3_
        have HO542 := n4_
        have HO545 := n5_
        have HO549 := n6_
        have HO552 := n7_
        have HO559 := n8_
        have HO562 := n9_
        have HO566 := n10_
        have HO569 := n11_
        have HO574 := n12_
        have HO577 := n13_
        have HO581 := n14_
        have HO584 := n15_
        have HO589 := n16_
        have HO592 := n17_
        have HO596 := n18_
        have HO599 := n19_
        have BK521 := n20_
        have HB := n21_
        clear n0_ n1_ n2_ n3_ n4_ n5_ n6_ n7_ n8_ n9_ n10_ n11_ n12_ n13_ n14_ n15_ n16_ n17_ n18_ n19_ n20_ n21_
        (try clear hb)
        (try clear hb2)
        (try clear hk)
        (try clear hi)
        (try clear ho0)
        (try clear ho1)
        obtain ⟨Ao66, co66, eo66⟩ := Kd.V_slice HO589.out
        (first | subst eo66 | (injection eo66 with f1_ f2_ f3_; have f4_ := f1_.symm; have f5_ := f3_.symm; clear f1_ f2_ f3_; subst f4_; subst f5_))
        obtain ⟨Ao67, co67, eo67⟩ := Kd.N_slice HO592.out
        (first | subst eo67 | (injection eo67 with f1_ f2_ f3_; have f4_ := f1_.symm; have f5_ := f3_.symm; clear f1_ f2_ f3_; subst f4_; subst f5_))
        obtain ⟨Ao68, co68, eo68⟩ := Kd.V_slice HO596.out
        (first | subst eo68 | (injection eo68 with f1_ f2_ f3_; have f4_ := f1_.symm; have f5_ := f3_.symm; clear f1_ f2_ f3_; subst f4_; subst f5_))
        obtain ⟨Ao69, co69, eo69⟩ := Kd.N_slice HO599.out
        (first | subst eo69 | (injection eo69 with f1_ f2_ f3_; have f4_ := f1_.symm; have f5_ := f3_.symm; clear f1_ f2_ f3_; subst f4_; subst f5_))
        refine hK.out _ _ ⟨(blk_cell BK521.out 0).trans rfl, (blk_cell BK521.out 1).trans rfl, (blk_cell BK521.out 2).trans rfl⟩ (fun hHeld => ?_)
        clear hK K
        refine norm_ (a' := ?_) ?_ ?_
        rotate_left
        ·show Act.put _ (some 62) _ = _
         simp only [Act.put, List.setIfInBounds_toArray, List.set_cons_zero, List.set_cons_succ, i64_w, i32_w]
         rfl
        refine one_ (i := 52) (N := some 63) #[true, true, true, true, true, true, true, true, true, true, true, true, true, true, true, true, true, true, true, true, true, true, true, true, true, true, true, true, true, true, true, true, true, true, true, true, true, true, true, true, true, true, true, true, true, true, true, true, true, true, true, true, true, false, false, false, false, false] rfl rfl (one_of HT_.out (by kernel_rfl)) (by decide) (fun K hK => ?_)
        refine goes_ Try.func25 (by kernel_rfl) rfl #[.agg #[.string t586, .slice Ao66 t587.length co66, .slice Ao67 t590.length co67], .agg #[.string t593, .slice Ao68 t594.length co68, .slice Ao69 t597.length co69]] (by rfl) rfl rfl (by (try simp only [List.map_toArray, List.map_cons, List.map_nil]); first | done | rfl | (simp only [List.length_drop, List.length_take]; rfl)) ?_
        with_reducible refine (almanacref12_Same.calls k t586 _ _ t587 _ _ t590 t593 _ _ t594 _ _ t597 true _ ?side1 ?side2 ?side3 ?side4 ?side5 ?side6 ?side7 ?side8 A27.out).mono ?_
        (case side1 => exact cU (Kd.V_reads' HO589.out).2.2)
        (case side2 => exact (Kd.V_reads' HO589.out).2.1)
        (case side3 => exact cU (Kd.N_reads' HO592.out).2.2)
        (case side4 => exact (Kd.N_reads' HO592.out).2.1)
        (case side5 => exact cU (Kd.V_reads' HO596.out).2.2)
        (case side6 => exact (Kd.V_reads' HO596.out).2.1)
        (case side7 => exact cU (Kd.N_reads' HO599.out).2.2)
        (case side8 => exact (Kd.N_reads' HO599.out).2.1)
        rintro e w70 ⟨rfl, hb⟩
        refine ⟨_, rfl, ?_⟩
        have n0_ := Aside0.mk (Kd.N_below (by (with_reducible repeat (first | apply Kd.N_alloc | apply Kd.N_drewN | apply Kd.N_drew)); exact HO527.out) hb)
        have n1_ := Aside0.mk (Kd.V_below (by (with_reducible repeat (first | apply Kd.V_alloc | apply Kd.V_drewN | apply Kd.V_drew)); exact HO530.out) hb)
        have n2_ := Aside0.mk (Kd.N_below (by (with_reducible repeat (first | apply Kd.N_alloc | apply Kd.N_drewN | apply Kd.N_drew)); exact HO534.out) hb)
        have n3_ := Aside0.mk (Kd.V_below (by (with_reducible repeat (first | apply Kd.V_alloc | apply Kd.V_drewN | apply Kd.V_drew)); exact HO537.out) hb)
        have n4_ := Aside0.mk (Kd.V_below (by (with_reducible repeat (first | apply Kd.V_alloc | apply Kd.V_drewN | apply Kd.V_drew)); exact HO542.out) hb)
        have n5_ := Aside0.mk (Kd.N_below (by (with_reducible repeat (first | apply Kd.N_alloc | apply Kd.N_drewN | apply Kd.N_drew)); exact HO545.out) hb)
        have n6_ := Aside0.mk (Kd.V_below (by (with_reducible repeat (first | apply Kd.V_alloc | apply Kd.V_drewN | apply Kd.V_drew)); exact HO549.out) hb)
        have n7_ := Aside0.mk (Kd.N_below (by (with_reducible repeat (first | apply Kd.N_alloc | apply Kd.N_drewN | apply Kd.N_drew)); exact HO552.out) hb)
        have n8_ := Aside0.mk (Kd.V_below (by (with_reducible repeat (first | apply Kd.V_alloc | apply Kd.V_drewN | apply Kd.V_drew)); exact HO559.out) hb)
        have n9_ := Aside0.mk (Kd.N_below (by (with_reducible repeat (first | apply Kd.N_alloc | apply Kd.N_drewN | apply Kd.N_drew)); exact HO562.out) hb)
        have n10_ := Aside0.mk (Kd.V_below (by (with_reducible repeat (first | apply Kd.V_alloc | apply Kd.V_drewN | apply Kd.V_drew)); exact HO566.out) hb)
        have n11_ := Aside0.mk (Kd.N_below (by (with_reducible repeat (first | apply Kd.N_alloc | apply Kd.N_drewN | apply Kd.N_drew)); exact HO569.out) hb)
        have n12_ := Aside0.mk (Kd.V_below (by (with_reducible repeat (first | apply Kd.V_alloc | apply Kd.V_drewN | apply Kd.V_drew)); exact HO574.out) hb)
        have n13_ := Aside0.mk (Kd.N_below (by (with_reducible repeat (first | apply Kd.N_alloc | apply Kd.N_drewN | apply Kd.N_drew)); exact HO577.out) hb)
        have n14_ := Aside0.mk (Kd.V_below (by (with_reducible repeat (first | apply Kd.V_alloc | apply Kd.V_drewN | apply Kd.V_drew)); exact HO581.out) hb)
        have n15_ := Aside0.mk (Kd.N_below (by (with_reducible repeat (first | apply Kd.N_alloc | apply Kd.N_drewN | apply Kd.N_drew)); exact HO584.out) hb)
        have n16_ := Aside0.mk (Kd.V_below (by (with_reducible repeat (first | apply Kd.V_alloc | apply Kd.V_drewN | apply Kd.V_drew)); exact HO589.out) hb)
        have n17_ := Aside0.mk (Kd.N_below (by (with_reducible repeat (first | apply Kd.N_alloc | apply Kd.N_drewN | apply Kd.N_drew)); exact HO592.out) hb)
        have n18_ := Aside0.mk (Kd.V_below (by (with_reducible repeat (first | apply Kd.V_alloc | apply Kd.V_drewN | apply Kd.V_drew)); exact HO596.out) hb)
        have n19_ := Aside0.mk (Kd.N_below (by (with_reducible repeat (first | apply Kd.N_alloc | apply Kd.N_drewN | apply Kd.N_drew)); exact HO599.out) hb)
        have n20_ := Aside0.mk (blk_below (kU BK521) hb)
        have n21_ := Aside0.mk (below_step (bU HB) hb)
        clear HO527
        clear HO530
        clear HO534
        clear HO537
        clear HO542
        clear HO545
        clear HO549
        clear HO552
        clear HO559
        clear HO562
        clear HO566
        clear HO569
        clear HO574
        clear HO577
        clear HO581
        clear HO584
        clear HO589
        clear HO592
        clear HO596
        clear HO599
        clear BK521
        clear HB
        have HO527 := n0_
        have HO530 := n1_
        have HO534 := n2_
        have HO537 := n3_
        have HO542 := n4_
        have HO545 := n5_
        have HO549 := n6_
        have HO552 := n7_
        have HO559 := n8_
        have HO562 := n9_
        have HO566 := n10_
        have HO569 := n11_
        have HO574 := n12_
        have HO577 := n13_
        have HO581 := n14_
        have HO584 := n15_
        have HO589 := n16_
        have HO592 := n17_
        have HO596 := n18_
        have HO599 := n19_
        have BK521 := n20_
        have HB := n21_
        clear n0_ n1_ n2_ n3_ n4_ n5_ n6_ n7_ n8_ n9_ n10_ n11_ n12_ n13_ n14_ n15_ n16_ n17_ n18_ n19_ n20_ n21_
        (try clear hb)
        (try clear hb2)
        (try clear hk)
        (try clear hi)
        refine hK.out _ _ ⟨(blk_cell BK521.out 0).trans rfl, (blk_cell BK521.out 1).trans rfl, (blk_cell BK521.out 2).trans rfl⟩ (fun hHeld => ?_)
        clear hK K
        refine norm_ (a' := ?_) ?_ ?_
        rotate_left
        ·show Act.put _ (some 63) _ = _
         simp only [Act.put, List.setIfInBounds_toArray, List.set_cons_zero, List.set_cons_succ, i64_w, i32_w]
         rfl
        refine pure_ (i := 53) (N := some 64) (v := ?_) (a' := ?_) #[true, true, true, true, true, true, true, true, true, true, true, true, true, true, true, true, true, true, true, true, true, true, true, true, true, true, true, true, true, true, true, true, true, true, true, true, true, true, true, true, true, true, true, true, true, true, true, true, true, true, true, true, true, true, false, false, false, false] rfl rfl (any_of HT_.out (by kernel_rfl)) (fun _ _ _ h => h) (Or.inl ⟨by rfl, ?_⟩) ?_ ?_
        rotate_left
        ·intro w'
         go_simp
         with_reducible rfl
        rotate_left
        ·simp only [Act.put, List.setIfInBounds_toArray, List.set_cons_zero, List.set_cons_succ, i64_w, i32_w]
         rfl
        refine pure_ (i := 54) (N := some 65) (v := ?_) (a' := ?_) #[true, true, true, true, true, true, true, true, true, true, true, true, true, true, true, true, true, true, true, true, true, true, true, true, true, true, true, true, true, true, true, true, true, true, true, true, true, true, true, true, true, true, true, true, true, true, true, true, true, true, true, true, true, true, true, false, false, false] rfl rfl (any_of HT_.out (by kernel_rfl)) (fun _ _ _ h => h) (Or.inl ⟨by rfl, ?_⟩) ?_ ?_
        rotate_left
        ·intro w'
         go_simp
         with_reducible rfl
        rotate_left
        ·simp only [Act.put, List.setIfInBounds_toArray, List.set_cons_zero, List.set_cons_succ, i64_w, i32_w]
         rfl
        refine one_ (i := 55) (N := some 66) #[true, true, true, true, true, true, true, true, true, true, true, true, true, true, true, true, true, true, true, true, true, true, true, true, true, true, true, true, true, true, true, true, true, true, true, true, true, true, true, true, true, true, true, true, true, true, true, true, true, true, true, true, true, true, true, true, false, false] rfl rfl (one_of HT_.out (by kernel_rfl)) (by decide) (fun K hK => ?_)
        refine goes_ Try.func7 (by kernel_rfl) rfl #[] (by rfl) rfl rfl (by (try simp only [List.map_toArray, List.map_cons, List.map_nil]); first | done | rfl | (simp only [List.length_drop, List.length_take]; rfl)) ?_
        with_reducible refine (almanaclaw26_awake.calls  t601 _ A29.out).mono ?_
        rintro e w71 ⟨rfl, hb⟩
        refine ⟨_, rfl, ?_⟩
        have n0_ := Aside0.mk (Kd.N_below (by (with_reducible repeat (first | apply Kd.N_alloc | apply Kd.N_drewN | apply Kd.N_drew)); exact HO527.out) hb)
        have n1_ := Aside0.mk (Kd.V_below (by (with_reducible repeat (first | apply Kd.V_alloc | apply Kd.V_drewN | apply Kd.V_drew)); exact HO530.out) hb)
        have n2_ := Aside0.mk (Kd.N_below (by (with_reducible repeat (first | apply Kd.N_alloc | apply Kd.N_drewN | apply Kd.N_drew)); exact HO534.out) hb)
        have n3_ := Aside0.mk (Kd.V_below (by (with_reducible repeat (first | apply Kd.V_alloc | apply Kd.V_drewN | apply Kd.V_drew)); exact HO537.out) hb)
        have n4_ := Aside0.mk (Kd.V_below (by (with_reducible repeat (first | apply Kd.V_alloc | apply Kd.V_drewN | apply Kd.V_drew)); exact HO542.out) hb)
        have n5_ := Aside0.mk (Kd.N_below (by (with_reducible repeat (first | apply Kd.N_alloc | apply Kd.N_drewN | apply Kd.N_drew)); exact HO545.out) hb)
        have n6_ := Aside0.mk (Kd.V_below (by (with_reducible repeat (first | apply Kd.V_alloc | apply Kd.V_drewN | apply Kd.V_drew)); exact HO549.out) hb)
        have n7_ := Aside0.mk (Kd.N_below (by (with_reducible repeat (first | apply Kd.N_alloc | apply Kd.N_drewN | apply Kd.N_drew)); exact HO552.out) hb)
        have n8_ := Aside0.mk (Kd.V_below (by (with_reducible repeat (first | apply Kd.V_alloc | apply Kd.V_drewN | apply Kd.V_drew)); exact HO559.out) hb)
        have n9_ := Aside0.mk (Kd.N_below (by (with_reducible repeat (first | apply Kd.N_alloc | apply Kd.N_drewN | apply Kd.N_drew)); exact HO562.out) hb)
        have n10_ := Aside0.mk (Kd.V_below (by (with_reducible repeat (first | apply Kd.V_alloc | apply Kd.V_drewN | apply Kd.V_drew)); exact HO566.out) hb)
        have n11_ := Aside0.mk (Kd.N_below (by (with_reducible repeat (first | apply Kd.N_alloc | apply Kd.N_drewN | apply Kd.N_drew)); exact HO569.out) hb)
        have n12_ := Aside0.mk (Kd.V_below (by (with_reducible repeat (first | apply Kd.V_alloc | apply Kd.V_drewN | apply Kd.V_drew)); exact HO574.out) hb)
        have n13_ := Aside0.mk (Kd.N_below (by (with_reducible repeat (first | apply Kd.N_alloc | apply Kd.N_drewN | apply Kd.N_drew)); exact HO577.out) hb)
        have n14_ := Aside0.mk (Kd.V_below (by (with_reducible repeat (first | apply Kd.V_alloc | apply Kd.V_drewN | apply Kd.V_drew)); exact HO581.out) hb)
        have n15_ := Aside0.mk (Kd.N_below (by (with_reducible repeat (first | apply Kd.N_alloc | apply Kd.N_drewN | apply Kd.N_drew)); exact HO584.out) hb)
        have n16_ := Aside0.mk (Kd.V_below (by (with_reducible repeat (first | apply Kd.V_alloc | apply Kd.V_drewN | apply Kd.V_drew)); exact HO589.out) hb)
        have n17_ := Aside0.mk (Kd.N_below (by (with_reducible repeat (first | apply Kd.N_alloc | apply Kd.N_drewN | apply Kd.N_drew)); exact HO592.out) hb)
        have n18_ := Aside0.mk (Kd.V_below (by (with_reducible repeat (first | apply Kd.V_alloc | apply Kd.V_drewN | apply Kd.V_drew)); exact HO596.out) hb)
        have n19_ := Aside0.mk (Kd.N_below (by (with_reducible repeat (first | apply Kd.N_alloc | apply Kd.N_drewN | apply Kd.N_drew)); exact HO599.out) hb)
        have n20_ := Aside0.mk (blk_below (kU BK521) hb)
        have n21_ := Aside0.mk (below_step (bU HB) hb)
        clear HO527
        clear HO530
        clear HO534
        clear HO537
        clear HO542
        clear HO545
        clear HO549
        clear HO552
        clear HO559
        clear HO562
        clear HO566
        clear HO569
        clear HO574
        clear HO577
        clear HO581
        clear HO584
        clear HO589
        clear HO592
        clear HO596
        clear HO599
        clear BK521
        clear HB
        have HO527 := n0_
        have HO530 := n1_
        have HO534 := n2_
        have HO537 := n3_
        have HO542 := n4_
        have HO545 := n5_
        have HO549 := n6_
        have HO552 := n7_
        have HO559 := n8_
        have HO562 := n9_
        have HO566 := n10_
        have HO569 := n11_
        have HO574 := n12_
        have HO577 := n13_
        have HO581 := n14_
        have HO584 := n15_
        have HO589 := n16_
        have HO592 := n17_
        have HO596 := n18_
        have HO599 := n19_
        have BK521 := n20_
        have HB := n21_
        clear n0_ n1_ n2_ n3_ n4_ n5_ n6_ n7_ n8_ n9_ n10_ n11_ n12_ n13_ n14_ n15_ n16_ n17_ n18_ n19_ n20_ n21_
        (try clear hb)
        (try clear hb2)
        (try clear hk)
        (try clear hi)
        refine hK.out _ _ ⟨(blk_cell BK521.out 0).trans rfl, (blk_cell BK521.out 1).trans rfl, (blk_cell BK521.out 2).trans rfl⟩ (fun hHeld => ?_)
        clear hK K
        refine norm_ (a' := ?_) ?_ ?_
        rotate_left
        ·show Act.put _ (some 66) _ = _
         simp only [Act.put, List.setIfInBounds_toArray, List.set_cons_zero, List.set_cons_succ, i64_w, i32_w]
         rfl
        refine pure_ (i := 56) (N := some 67) (v := ?_) (a' := ?_) #[true, true, true, true, true, true, true, true, true, true, true, true, true, true, true, true, true, true, true, true, true, true, true, true, true, true, true, true, true, true, true, true, true, true, true, true, true, true, true, true, true, true, true, true, true, true, true, true, true, true, true, true, true, true, true, true, true, false] rfl rfl (any_of HT_.out (by kernel_rfl)) (fun _ _ _ h => h) (Or.inl ⟨by rfl, ?_⟩) ?_ ?_
        rotate_left
        ·intro w'
         go_simp
         with_reducible rfl
        rotate_left
        ·simp only [Act.put, List.setIfInBounds_toArray, List.set_cons_zero, List.set_cons_succ, i64_w, i32_w]
         rfl
        refine pure_ (i := 57) (N := some 6) (v := ?_) (a' := ?_) #[true, true, true, true, true, true, true, true, true, true, true, true, true, true, true, true, true, true, true, true, true, true, true, true, true, true, true, true, true, true, true, true, true, true, true, true, true, true, true, true, true, true, true, true, true, true, true, true, true, true, true, true, true, true, true, true, true, true] rfl rfl (any_of HT_.out (by kernel_rfl)) (fun _ _ _ h => h) (Or.inl ⟨by rfl, ?_⟩) ?_ ?_
        rotate_left
        ·intro w'
         go_simp
         with_reducible rfl
        rotate_left
        ·simp only [Act.put, List.setIfInBounds_toArray, List.set_cons_zero, List.set_cons_succ, i64_w, i32_w]
         rfl
        refine done_ (done_of HT_.out (by kernel_rfl)) ?_
        try go_wp2
        go_ret
        exact ⟨eqU, bU HB⟩
       ·replace c28 := Bool.eq_false_iff.mpr c28
        subst c28
        have H1 : (some false) = some r := by rw [if_neg (show ¬ (false = true) by decide)] at H; exact H
        clear H
        have H := H1
        clear H1
        exact absurd ((Option.some.inj H).trans HRT.out) (by decide)
      ·replace c24 := Bool.eq_false_iff.mpr c24
       subst c24
       have H1 : (some false) = some r := by rw [if_neg (show ¬ (false = true) by decide)] at H; exact H
       clear H
       have H := H1
       clear H1
       exact absurd ((Option.some.inj H).trans HRT.out) (by decide)
     ·replace c20 := Bool.eq_false_iff.mpr c20
      subst c20
      have H1 : (some false) = some r := by rw [if_neg (show ¬ (false = true) by decide)] at H; exact H
      clear H
      have H := H1
      clear H1
      exact absurd ((Option.some.inj H).trans HRT.out) (by decide)
    ·rw [if_neg c16] at H
     have c16b0 : (t554.toList == t555.toList) = false := beq_eq_false_iff_ne.mpr c16
     have c16b1 : (t554.toList != t555.toList) = true := bne_iff_ne.mpr c16
     exact absurd ((Option.some.inj H).trans HRT.out) (by decide)
   ·replace c13 := Bool.eq_false_iff.mpr c13
    subst c13
    have H1 : (some false) = some r := by rw [if_neg (show ¬ (false = true) by decide)] at H; exact H
    clear H
    have H := H1
    clear H1
    exact absurd ((Option.some.inj H).trans HRT.out) (by decide)
  ·replace c9 := Bool.eq_false_iff.mpr c9
   subst c9
   have H1 : (some false) = some r := by rw [if_neg (show ¬ (false = true) by decide)] at H; exact H
   clear H
   have H := H1
   clear H1
   exact absurd ((Option.some.inj H).trans HRT.out) (by decide)
 ·replace c5 := Bool.eq_false_iff.mpr c5
  subst c5
  have H1 : ((almanaclaw26_awake.f).bind fun t523 => (some t523)) = some r := by rw [if_neg (show ¬ (false = true) by decide)] at H; exact H
  clear H
  have H := H1
  clear H1
  replace H := Option.bind_eq_some_iff.mp H
  obtain ⟨t523, A720, H⟩ := H
  replace H : (some t523) = some r := H
  have A72 := Aside0.mk A720
  clear A720
  obtain rfl := Option.some.inj H
  go_enter Try.func5, Try.ntmps5
  go_wp2_with (first | ((with_reducible refine gate_dst (N := 3) rfl ?_); refine box_event ?hg (N := 3) ?hd (cs := #[.string a0_0, .slice A0_1 l0_1.length c0_1, .slice A0_2 l0_2.length c0_2]) (t := 25) ?hr ?_; (case hd => rfl); (case hg => rfl); (case hr => first | (go_simp; done) | (go_simp; rfl)); intro gb521 hg w73 hbox hb; have n0_ := Aside0.mk (below_step (bU HB) hb); have n1_ := Aside0.mk (hbox); have n2_ := Aside0.mk ((by rw [hg]; exact (below_size (bU HB)) : w.heap.size ≤ gb521)); have n3_ := Aside0.mk ((by rw [hg]; exact (below_size (bU HB)) : w.heap.size ≤ gb521)); clear HB; have HB := n0_; have BK521 := n1_; have GW521 := n2_; have GE521 := n3_; clear n0_ n1_ n2_ n3_; clear hb hbox hg; have hcz74_0 : w73.cell? ⟨gb521, 0, none⟩ = some (.string a0_0) := (blk_cell BK521.out 0).trans rfl; have hcz74_1 : w73.cell? ⟨gb521, 1, none⟩ = some (.slice A0_1 l0_1.length c0_1) := (blk_cell BK521.out 1).trans rfl; have hcz74_2 : w73.cell? ⟨gb521, 2, none⟩ = some (.slice A0_2 l0_2.length c0_2) := (blk_cell BK521.out 2).trans rfl; have hfz74_0 := blk_frozen BK521.out 0; have hfz74_1 := blk_frozen BK521.out 1; have hfz74_2 := blk_frozen BK521.out 2) | ((with_reducible refine gate_callee (f := 6) rfl ?_); refine goesL_ (some 8) rfl rfl Try.func6 (by kernel_rfl) rfl #[.agg #[.string a0_0, .slice A0_1 l0_1.length c0_1, .slice A0_2 l0_2.length c0_2]] rfl (by (try simp only [List.map_toArray, List.map_cons, List.map_nil]); first | done | rfl | (simp only [List.length_drop, List.length_take]; rfl)) ?_; (with_reducible refine (almanacref12_Light.calls k a0_0 _ _ l0_1 _ _ l0_2 false _ ?side1 ?side2 ?side3 ?side4 A4.out).mono ?_); (case side1 => exact cU (Kd.C_below HR0_1.out HB.out)); (case side2 => exact HC0_1.out); (case side3 => exact cU (Kd.C_below HR0_2.out HB.out)); (case side4 => exact HC0_2.out); rintro e w75 ⟨rfl, hb⟩; refine ⟨_, rfl, ?_⟩; have n0_ := Aside0.mk (blk_below (kU BK521) hb); have n1_ := Aside0.mk (below_step (bU HB) hb); clear BK521; clear HB; have BK521 := n0_; have HB := n1_; clear n0_ n1_; (try clear hb); (try clear hb2); (try clear hk); (try clear hi)) | ((with_reducible refine gate_callee (f := 7) rfl ?_); refine goesL_ (some 10) rfl rfl Try.func7 (by kernel_rfl) rfl #[] rfl (by (try simp only [List.map_toArray, List.map_cons, List.map_nil]); first | done | rfl | (simp only [List.length_drop, List.length_take]; rfl)) ?_; (with_reducible refine (almanaclaw26_awake.calls  t523 _ A72.out).mono ?_); rintro e w76 ⟨rfl, hb⟩; refine ⟨_, rfl, ?_⟩; have n0_ := Aside0.mk (blk_below (kU BK521) hb); have n1_ := Aside0.mk (below_step (bU HB) hb); clear BK521; clear HB; have BK521 := n0_; have HB := n1_; clear n0_ n1_; (try clear hb); (try clear hb2); (try clear hk); (try clear hi)))
  go_ret
  exact ⟨eqU, bU HB⟩
end Go.Proofs.Ytebmbfobmakheaa.PD
namespace Go.Proofs.Ytebmbfobmakheaa.PD
open Go.RowKit Go.Proofs.YtebmbfobmakheaaW.PrintWords Go.Proofs.YtebmbfobmakheaaW.PrintLast Go.Proofs.YtebmbfobmakheaaW.PrintMore
set_option linter.unusedVariables false
set_option linter.unusedSimpArgs false
theorem Few.limO {l1 : List S45} {l2 : List S25} (h : Few l1 l2) : limO l2 = true := by
  unfold PD.limO
  simp only [Bool.and_eq_true, decide_eq_true_eq, List.all_eq_true, Bool.or_eq_true, Bool.not_eq_true']
  refine ⟨h.limL.1, fun x hx => ⟨by have := (h.c.2.1 x hx).1; omega, fun p hp => .inr ⟨short_of (h.szP hx hp).1, ?_⟩⟩⟩
  have := ((h.c.2.1 x hx).2 p hp).1
  omega
theorem Few.okB {l1 : List S45} {l2 : List S25} (h : Few l1 l2) : okB l2 = true := by
  unfold PD.okB
  rw [List.all_eq_true]
  intro p hp
  obtain ⟨x, hx, hpx⟩ := attP_mem hp
  obtain ⟨s1, s2, s3⟩ := h.szP hx hpx
  rw [short_of s1, Bool.true_and]
  unfold paramP
  split
  · rename_i q hq
    have hqm := List.mem_of_find?_eq_some hq
    cases hv : q.f1 with
    | nil => exact short_of (by show (0 : Nat) ≤ _; omega)
    | cons v r => exact short_of ((s3 q hqm).2 v (by rw [hv]; exact List.mem_cons_self))
  · exact short_of (by show (0 : Nat) ≤ _; omega)
theorem Few.roundsA {l1 : List S45} {l2 : List S25} (h : Few l1 l2) {a : ByteArray} (ha : a.size ≤ 140737488351232) (k : Nat) (hk : 140737488351300 ≤ k) : roundsA k l2 a = true := by
  unfold PD.roundsA
  simp only [Bool.and_eq_true, decide_eq_true_eq, List.all_eq_true, Bool.or_eq_true, Bool.not_eq_true']
  exact ⟨by omega, fun x hx p hp => .inr (by have := (h.szP hx hp).1; omega)⟩
theorem Few.roundsB {l1 : List S45} {l2 : List S25} (h : Few l1 l2) (k : Nat) (hk : 140737488351300 ≤ k) : roundsB k l2 = true :=
  List.all_eq_true.2 fun x hx => decide_eq_true (by have := (h.c.2.1 x hx).1; omega)
theorem chg_ln {l : List S25} (hl : ∀ y ∈ l, Ln y) (G : List S45 → List S45) (h1 : ∀ x ∈ l, (G x.f1).length ≤ 4611686018427387904) (h2 : ∀ x ∈ l, ∀ p ∈ G x.f1, LimP p) : ∀ y ∈ chgP G l, Ln y := by
  intro y hy
  unfold chgP at hy
  obtain ⟨x, hx, rfl⟩ := List.mem_map.1 hy
  split
  · exact hl x hx
  · cases hl x hx with
    | mk _ g1 g2 g3 g4 => exact Ln.mk _ (h1 x hx) (h2 x hx) g3 g4
theorem chgP_len (G : List S45 → List S45) (l : List S25) : (chgP G l).length = l.length := by unfold chgP; rw [List.length_map]
theorem paramF_lim {name value : ByteArray} {l : List S77} (hl : l.length ≤ 1000000000000000000) (h : ∀ q ∈ l, q.f1.length ≤ 9223372036854775807) : (paramF name value l).length ≤ 1000000000000000001 ∧ ∀ q ∈ paramF name value l, q.f1.length ≤ 9223372036854775807 := by
  unfold paramF
  split
  · refine ⟨by rw [List.length_set]; omega, fun q hq => ?_⟩
    rcases List.mem_or_eq_of_mem_set hq with hq | rfl
    · exact h q hq
    · simp
  · refine ⟨by rw [List.length_append, List.length_singleton]; omega, fun q hq => ?_⟩
    rcases List.mem_append.1 hq with hq | hq
    · exact h q hq
    · rw [List.mem_singleton.1 hq]; simp
theorem setF_lim {addr name value : ByteArray} {l : List S45} (h : ∀ p ∈ l, SzP p) : ∀ p ∈ setF addr name value l, LimP p := by
  intro p hp
  unfold setF at hp
  obtain ⟨x, hx, rfl⟩ := List.mem_map.1 hp
  obtain ⟨s1, s2, s3⟩ := h x hx
  split
  · obtain ⟨g1, g2⟩ := paramF_lim (name := name) (value := value) (l := x.f1) (by omega) (fun q hq => by have := (s3 q hq).1; omega)
    exact ⟨by show (paramF name value x.f1).length ≤ _; omega, g2⟩
  · exact (h x hx).lim
theorem cancF_lim {l : List S45} (h : ∀ p ∈ l, SzP p) : ∀ p ∈ cancF l, LimP p := by
  intro p hp
  unfold cancF at hp
  rcases List.mem_append.1 hp with hp | hp
  · exact (h p (List.mem_filter.1 hp).1).lim
  · rw [List.mem_singleton.1 hp]
    exact ⟨by simp, fun q hq => by cases hq⟩
theorem cancF_len (l : List S45) : (cancF l).length ≤ l.length + 1 := by
  unfold cancF
  rw [List.length_append, List.length_singleton]
  exact Nat.add_le_add_right (List.length_filter_le _ _) 1
theorem Few.lnC {l1 : List S45} {l2 : List S25} (h : Few l1 l2) : ∀ y ∈ l2, Ln y := fun y hy => (h.s2 y hy).ln
theorem Few.same {l1 : List S45} {l2 : List S25} (h : Few l1 l2) (a : ByteArray) (l : List S45) (m : List S25) (h1 : l.length ≤ 4611686018427387904) (h2 : ∀ p ∈ l, LimP p) (h3 : m.length ≤ 4611686018427387904) (h4 : ∀ y ∈ m, Ln y) : Ev (fun k => almanacref12_Same.f k a l m a l m) true :=
  same_of a l m h1 h2 h3 (fun y hy => (h4 y hy).same)
theorem makes_light (a : ByteArray) (l1 : List S45) (l2 : List S25) (addr s : ByteArray) (ha : addr.size ≤ 140737488351232) (hl : Few l1 l2) :
    Ev (fun k => (itip_Message.f k a l1 l2 s).bind fun bt524 => ((almanacref26_Message.f k a l1 l2 s).bind fun bt531 => ((almanacref12_Same.f k bt524.1 bt524.2.1 bt524.2.2 bt531.1 bt531.2.1 bt531.2.2).bind fun t538 => (if t538 = true then ((itip_Only.f k a l1 l2 addr).bind fun bt539 => ((almanacref26_Only.f k a l1 l2 addr).bind fun bt546 => ((almanacref12_Same.f k bt539.1 bt539.2.1 bt539.2.2 bt546.1 bt546.2.1 bt546.2.2).bind fun t553 => (if t553 = true then ((itip_Status.f k a l1 l2 addr).bind fun t554 => ((almanacref26_Status.f k a l1 l2 addr).bind fun t555 => (if t554.toList = t555.toList then ((itip_SetStatus.f k a l1 l2 addr s).bind fun bt556 => ((almanacref26_SetStatus.f k a l1 l2 addr s).bind fun bt563 => ((almanacref12_Same.f k bt556.1 bt556.2.1 bt556.2.2 bt563.1 bt563.2.1 bt563.2.2).bind fun t570 => (if t570 = true then ((itip_Delivered.f k a l1 l2 addr s).bind fun bt571 => ((almanacref26_Delivered.f k a l1 l2 addr s).bind fun bt578 => ((almanacref12_Same.f k bt571.1 bt571.2.1 bt571.2.2 bt578.1 bt578.2.1 bt578.2.2).bind fun t585 => (if t585 = true then ((itip_Cancelled.f k a l1 l2).bind fun bt586 => ((almanacref26_Cancelled.f k a l1 l2).bind fun bt593 => ((almanacref12_Same.f k bt586.1 bt586.2.1 bt586.2.2 bt593.1 bt593.2.1 bt593.2.2).bind fun t600 => (if t600 = true then ((almanaclaw26_awake.f).bind fun t601 => (some t601)) else (some false))))) else (some false))))) else (some false))))) else (some false)))) else (some false))))) else (some false))))) true := by
  have hs := short_of ha
  have hp1 := hl.p.1
  have hc1 := hl.c.1
  have hlO := hl.limO
  obtain ⟨m1, hm1⟩ : ∃ m1, (if s.toList = ([] : List UInt8) then l1.filter (fun x => !(x.f0.toList == (⟨#[77, 69, 84, 72, 79, 68]⟩ : ByteArray).toList)) else l1.filter (fun x => !(x.f0.toList == (⟨#[77, 69, 84, 72, 79, 68]⟩ : ByteArray).toList)) ++ [(⟨⟨#[77, 69, 84, 72, 79, 68]⟩, [], s⟩ : S45)]) = m1 := ⟨_, rfl⟩
  have hfl := List.length_filter_le (fun x : S45 => !(x.f0.toList == (⟨#[77, 69, 84, 72, 79, 68]⟩ : ByteArray).toList)) l1
  have hM : ∀ k, itip_Message.f k a l1 l2 s = some (a, m1, l2) := fun k => by
    unfold itip_Message.f itip_without.f
    rw [if_pos (by omega), Option.bind_some, ← hm1]
    by_cases h0 : s.toList = ([] : List UInt8)
    · rw [if_pos h0, if_pos h0]
    · rw [if_neg h0, if_neg h0, if_pos (by omega)]
  have hR : Ev (fun k => almanacref26_Message.f k a l1 l2 s) (a, m1, l2) := ⟨l1.length + 1, fun k hk => by
    show almanacref26_Message.f k a l1 l2 s = _
    unfold almanacref26_Message.f
    rw [rwithout_val k l1 _ (by omega) (by omega), Option.bind_some, ← hm1]
    by_cases h0 : s.toList = ([] : List UInt8)
    · rw [if_pos h0, if_pos h0]
    · rw [if_neg h0, if_neg h0, if_pos (by omega)]⟩
  have hl1 : ∀ p ∈ l1, LimP p := fun p hp => (hl.s1 p hp).lim
  have hmL : m1.length ≤ l1.length + 1 ∧ ∀ p ∈ m1, LimP p := by
    rw [← hm1]
    split
    · exact ⟨by omega, fun p hp => hl1 p (List.mem_filter.1 hp).1⟩
    · refine ⟨by rw [List.length_append, List.length_singleton]; omega, fun p hp => ?_⟩
      rcases List.mem_append.1 hp with hp | hp
      · exact hl1 p (List.mem_filter.1 hp).1
      · rw [List.mem_singleton.1 hp]; exact ⟨by simp, fun q hq => by cases hq⟩
  refine Ev.bind (g := fun k => itip_Message.f k a l1 l2 s) ⟨0, fun k _ => hM k⟩ (Ev.bind hR (Ev.bind (hl.same a m1 l2 (by omega) hmL.2 (by omega) hl.lnC) ?_))
  refine Ev.congr (fun k => if_pos rfl) ?_
  have chg : ∀ G : List S45 → List S45, (∀ x ∈ l2, (G x.f1).length ≤ x.f1.length + 1) → (∀ x ∈ l2, ∀ p ∈ G x.f1, LimP p) → Ev (fun k => almanacref12_Same.f k a l1 (chgP G l2) a l1 (chgP G l2)) true := fun G g1 g2 =>
    hl.same a l1 (chgP G l2) (by omega) hl1 (by rw [chgP_len]; omega) (chg_ln hl.lnC G (fun x hx => by have := g1 x hx; have := (hl.c.2.1 x hx).1; omega) g2)
  refine Ev.bind (g := fun k => itip_Only.f k a l1 l2 addr) (a := (a, l1, chgP (onlyF addr) l2)) ⟨0, fun k _ => by show itip_Only.f k a l1 l2 addr = _; unfold itip_Only.f; rw [if_pos (by rw [hlO, hs]; rfl)]⟩ ?_
  refine Ev.bind (g := fun k => almanacref26_Only.f k a l1 l2 addr) (a := (a, l1, chgP (onlyF addr) l2)) ⟨140737488351300, fun k hk => by show almanacref26_Only.f k a l1 l2 addr = _; unfold almanacref26_Only.f; rw [if_pos (by rw [hlO, hs, hl.roundsA ha k hk]; rfl)]⟩ ?_
  refine Ev.bind (chg (onlyF addr) (fun x hx => Nat.le_trans (onlyF_len addr x.f1) (Nat.le_succ _)) (fun x hx p hp => (hl.szP hx (List.mem_filter.1 hp).1).lim)) ?_
  refine Ev.congr (fun k => if_pos rfl) ?_
  refine Ev.bind (g := fun k => itip_Status.f k a l1 l2 addr) (a := statusP l2 addr) ⟨0, fun k _ => by show itip_Status.f k a l1 l2 addr = _; unfold itip_Status.f; rw [if_pos (by rw [hl.limB, hl.okB, hs]; rfl)]⟩ ?_
  refine Ev.bind (rstatus a l1 l2 addr hs hl.limL (fun x hx p hp => hl.szP hx hp)) ?_
  refine Ev.congr (fun k => if_pos rfl) ?_
  have set : ∀ name : ByteArray, Ev (fun k => almanacref12_Same.f k a l1 (chgP (setF addr name s) l2) a l1 (chgP (setF addr name s) l2)) true := fun name =>
    chg (setF addr name s) (fun x hx => by rw [setF_len]; omega) (fun x hx => setF_lim (fun p hp => hl.szP hx hp))
  have rset : ∀ name : ByteArray, Ev (fun k => almanacref26_set.f k a l1 l2 addr name s) (a, l1, chgP (setF addr name s) l2) := fun name => ⟨140737488351300, fun k hk => by show almanacref26_set.f k a l1 l2 addr name s = _; unfold almanacref26_set.f; rw [if_pos (by rw [hlO, hs, hl.roundsA ha k hk]; rfl)]⟩
  refine Ev.bind (g := fun k => itip_SetStatus.f k a l1 l2 addr s) (a := (a, l1, chgP (setF addr (⟨#[80, 65, 82, 84, 83, 84, 65, 84]⟩ : ByteArray) s) l2)) ⟨0, fun k _ => by show itip_SetStatus.f k a l1 l2 addr s = _; unfold itip_SetStatus.f; rw [if_pos (by rw [hlO, hs]; rfl)]⟩ ?_
  refine Ev.bind (a := (a, l1, chgP (setF addr (⟨#[80, 65, 82, 84, 83, 84, 65, 84]⟩ : ByteArray) s) l2)) (by unfold almanacref26_SetStatus.f; exact Ev.bind (rset _) (Ev.now _)) ?_
  refine Ev.bind (set _) (Ev.congr (fun k => if_pos rfl) ?_)
  refine Ev.bind (g := fun k => itip_Delivered.f k a l1 l2 addr s) (a := (a, l1, chgP (setF addr (⟨#[83, 67, 72, 69, 68, 85, 76, 69, 45, 83, 84, 65, 84, 85, 83]⟩ : ByteArray) s) l2)) ⟨0, fun k _ => by show itip_Delivered.f k a l1 l2 addr s = _; unfold itip_Delivered.f; rw [if_pos (by rw [hlO, hs]; rfl)]⟩ ?_
  refine Ev.bind (a := (a, l1, chgP (setF addr (⟨#[83, 67, 72, 69, 68, 85, 76, 69, 45, 83, 84, 65, 84, 85, 83]⟩ : ByteArray) s) l2)) (by unfold almanacref26_Delivered.f; exact Ev.bind (rset _) (Ev.now _)) ?_
  refine Ev.bind (set _) (Ev.congr (fun k => if_pos rfl) ?_)
  refine Ev.bind (g := fun k => itip_Cancelled.f k a l1 l2) (a := (a, l1, chgP cancF l2)) ⟨0, fun k _ => by show itip_Cancelled.f k a l1 l2 = _; unfold itip_Cancelled.f; rw [if_pos hlO]⟩ ?_
  refine Ev.bind (g := fun k => almanacref26_Cancelled.f k a l1 l2) (a := (a, l1, chgP cancF l2)) ⟨140737488351300, fun k hk => by show almanacref26_Cancelled.f k a l1 l2 = _; unfold almanacref26_Cancelled.f; rw [if_pos (by rw [hlO, hl.roundsB k hk]; rfl)]⟩ ?_
  refine Ev.bind (chg cancF (fun x hx => cancF_len x.f1) (fun x hx => cancF_lim (fun p hp => hl.szP hx hp))) ?_
  exact ⟨0, fun k _ => rfl⟩
theorem itipMakes_pure (a : ByteArray) (l1 : List S45) (l2 : List S25) (addr s : ByteArray) (ha : addr.size ≤ 140737488351232) (hl1 : l1.length ≤ 140737488355328) (hp1 : ∀ p ∈ l1, SzP p) (hl2 : l2.length ≤ 140737488355328) (hp2 : ∀ y ∈ l2, Sz y) :
    ∃ k, almanaclaw26_ItipMakes.f k a l1 l2 addr s = some true := by
  refine Ev.rounds (g := fun k => almanaclaw26_ItipMakes.f k a l1 l2 addr s) ?_
  unfold almanaclaw26_ItipMakes.f
  obtain ⟨b1, e1, h1⟩ := rlight a l1 l2 hl1 hp1 hl2 hp2
  refine Ev.bind e1 ?_
  cases b1 with
  | false => exact ⟨0, fun k _ => rfl⟩
  | true =>
    refine Ev.congr (fun k => if_pos rfl) ?_
    obtain ⟨p1, c1⟩ := h1 rfl
    exact makes_light a l1 l2 addr s ha ⟨p1, c1, hp1, hp2⟩
end Go.Proofs.Ytebmbfobmakheaa.PD
namespace Go.Proofs.Ytebmbfobmakheaa.PD
open Go.ChangeShapes Go.WideShapes Go.ChangeAt Go.RowKit Go.Proofs.YtebmbfobmakheaaW.PrintWords
set_option linter.unusedVariables false
namespace ItipMakesRow
open _root_.Go.Proofs.Ytebmbfobmakheaa.Rows
set_option maxRecDepth 100000 in
theorem lifted (os : _root_.Go.Os) (started : os.Started) (H : Type) (enc : TypeId × Value → H) :
    ReturnsInHanded {} Try.checked os 5 .any (itipMakesSpec.pre6 enc Try.prog Try.f5 itipMakesRow.domain false) (itipMakesSpec.post enc Try.prog Try.f5 false true false false) := by
  refine returnsInHanded_of_change_sized (C := Try.checked) own started (by kernel_rfl) Try.func5
    (ChangeSpec.witness6 (enc := enc) (C := Try.checked) false ⟨#[], #[.agg #[.string ⟨#[]⟩, .slice none 0 0, .slice none 0 0], .string ⟨#[]⟩, .string ⟨#[]⟩], []⟩ 8 (by kernel_rfl) (by kernel_rfl) (by kernel_rfl) (by kernel_rfl)) ?_
  intro W base args ds gs before hval0 hW hcnd hsz0 _
  have hsz : (DataW.weightsEach Try.prog (Try.f5.params.toList ++ itipMakesSpec.plain.varTypes Try.prog) (ds ++ gs)).all (· ≤ reachBytes) = true := hsz0
  have hval : ∀ (j : Nat) t v, Try.f5.params[j]? = some t → args[j]? = some v → Value.okWide Try.prog W .any base t v := hval0
  have hW' := hW
  obtain ⟨p, q, hA0, hV, rfl, hfz, hnd⟩ := hW
  have hA : DataW.TrodAll enc Try.prog W 0 (fun _ => true) true Try.f5.params.toList args.toList ds p := hA0
  rw [Try.params5] at hA hval hsz
  obtain ⟨v0, vs0, d0, ds0, p0, q0, hargs, rfl, rfl, h0, r0⟩ := trodAll_cons hA
  obtain ⟨v1, vs1, d1, ds1, p1, q1, rfl, rfl, rfl, h1, r1⟩ := trodAll_cons r0
  obtain ⟨v2, vs2, d2, ds2, p2, q2, rfl, rfl, rfl, h2, r2⟩ := trodAll_cons r1
  obtain ⟨rfl, rfl, rfl⟩ := trodAll_nil r2
  obtain rfl : args = #[v0, v1, v2] := by cases args; simp_all
  obtain ⟨rfl, rfl⟩ := trodVars_none hV
  obtain ⟨s0, A1, c1, l1, A2, c2, l2, rfl, x1, y1, x2, y2, z1, z2, z3, z4⟩ := open_comp (hval 0 25 v0 rfl rfl) h0 (weighs hsz (j := 0) rfl rfl)
  obtain ⟨addr, rfl, rfl, rfl, wa⟩ := Go.ChangeMaps.open_string Try.underlying9 (hval 1 9 v1 rfl rfl) h1
  obtain ⟨st, rfl, rfl, rfl, wb⟩ := Go.ChangeMaps.open_string Try.underlying9 (hval 2 9 v2 rfl rfl) h2
  have haddr : addr.size ≤ 140737488351232 := by
    have := weighs hsz (j := 1) rfl rfl addr.data.toList.length (by simp [DataW.weights])
    unfold reachBytes at this
    rwa [data_length] at this
  have hst : st.size ≤ 140737488351232 := by
    have := weighs hsz (j := 2) rfl rfl st.data.toList.length (by simp [DataW.weights])
    unfold reachBytes at this
    rwa [data_length] at this
  have g0 := h0
  have lt0 : ∀ x ∈ p0, x.block < W.heap.size := by obtain ⟨m, hm⟩ := g0; exact DataW.trod_lt m _ _ _ hm
  clear hA0 hval0 hsz0 hsz
  obtain ⟨k, hk⟩ := itipMakes_pure s0 l1 l2 addr st haddr z1 z2 z3 z4
  refine (almanaclaw26_ItipMakes.callsT k s0 A1 c1 l1 A2 c2 l2 addr st true W x1 y1 x2 y2 hk rfl).mono fun e W' ⟨he, bel⟩ => ?_
  subst he
  exact ⟨_, rfl, _, _, _, [], _, [], hW', trodAll_mk1 (shut_bool Try.underlying4 _), (trodAll_cons_mk (Below.trod laidOut (by kernel_rfl) (of_decide_eq_true (by kernel_rfl)) g0 bel lt0) (trodAll_cons_mk (Go.ChangeMaps.shut_string Try.underlying9 wa) (trodAll_cons_mk (Go.ChangeMaps.shut_string Try.underlying9 wb) trodAll_mk0))), rfl, bel.frame _, fun h => by cases h⟩
theorem over : itipMakesRow.holds Try.pinned (OpenSpec.ofChange itipMakesSpec) :=
  OpenClaim.holds_of_wide 5 Try.f5 rfl rfl rfl rfl rfl rfl rfl ⟨rfl, rfl, rfl, rfl, rfl⟩ rfl rfl rfl rfl rfl (by kernel_rfl) Try.func5 (by kernel_rfl)
    (of_decide_eq_true (by kernel_rfl)) (by unfold Func.isWrapper; first | (rw [if_pos (by decide +kernel)]; kernel_rfl) | (rw [if_neg (by decide +kernel)]; exact ⟨rfl, rfl⟩))
    (fun os started H enc _ => lifted os started H enc)
end ItipMakesRow
theorem itipMakes_holds : Rows.ItipMakesSaid := ItipMakesRow.over
end Go.Proofs.Ytebmbfobmakheaa.PD
