/- The law DevFlushes holds of every device: whatever the input, the call returns true, and its arguments read as they did. -/
import Derived.Test.YtaocplhijfkicaaDevFlushes2
import Derived.Test.YtaocplhijfkicaaBase1
import Derived.Test.YtaocplhijfkicaaDevFlushes1
-- written by a program of this work (mk.sh, over the kit's print; stubs are proved by hand)
namespace Go.Proofs.Ytaocplhijfkicaa.PD
open Go.RowKit Go.Proofs.YtaocplhijfkicaaW.PrintWords Go.Proofs.YtaocplhijfkicaaW.PrintLast Go.Proofs.YtaocplhijfkicaaW.PrintMore
attribute [local go_sem] isSome_setCell max2_int min2_int max_two min_two   -- for this text's walks alone
set_option linter.unusedVariables false
set_option linter.unusedSimpArgs false

/-! ### slices_Equal_string_string: function 41 -/
def slices_Equal_string_string.l0 : Nat → List ByteArray → List ByteArray → Int → Int → Option (Bool)
  | 0, _, _, _, _ => none
  | k + 1, x0, x1, x12, x13 => if x13 < x12 then (if 0 ≤ x13 then (if x13 < (x0.length : Int) then (if x13 < (x1.length : Int) then (if (rdOf ByteArray.empty x0 x13).toList = (rdOf ByteArray.empty x1 x13).toList then (slices_Equal_string_string.l0 k x0 x1 x12 (wrap64 (x13 + 1))) else (some false)) else (none)) else (none)) else (none)) else (some true)
def slices_Equal_string_string.f (k : Nat) (l0 : List ByteArray) (l1 : List ByteArray) : Option (Bool) := if (l0.length : Int) = (l1.length : Int) then (slices_Equal_string_string.l0 k l0 l1 (l0.length : Int) 0) else (some false)
theorem slices_Equal_string_string.mono_l : ∀ k, (∀ y0 y1 y2 y3, LeO (slices_Equal_string_string.l0 k y0 y1 y2 y3) (slices_Equal_string_string.l0 (k + 1) y0 y1 y2 y3))
  | 0 => fun _ _ _ _ r h => by simp [slices_Equal_string_string.l0] at h
  | k + 1 => by
    have ih0 := slices_Equal_string_string.mono_l k
    · intro y0 y1 y2 y3
      unfold slices_Equal_string_string.l0
      repeat' first
      | (with_reducible exact ih0 _ _ _ _)
      | (with_reducible exact LeO.refl _)
      | (with_reducible exact LeO.none _)
      | (with_reducible refine LeO.ite ?_ ?_)
      | (with_reducible refine LeO.bind ?_ (fun _ => ?_))
      | exact ih0 _ _ _ _
      | exact LeO.none _
      | refine LeO.ite ?_ ?_
      | refine LeO.bind ?_ (fun _ => ?_)
theorem slices_Equal_string_string.mono : ∀ a0 a1 k, LeO (slices_Equal_string_string.f k a0 a1) (slices_Equal_string_string.f (k + 1) a0 a1) := by
  intro a0 a1 k
  have ih0 := slices_Equal_string_string.mono_l k
  unfold slices_Equal_string_string.f
  repeat' first
      | (with_reducible exact ih0 _ _ _ _)
      | (with_reducible exact LeO.refl _)
      | (with_reducible exact LeO.none _)
      | (with_reducible refine LeO.ite ?_ ?_)
      | (with_reducible refine LeO.bind ?_ (fun _ => ?_))
      | exact ih0 _ _ _ _
      | exact LeO.none _
      | refine LeO.ite ?_ ?_
      | refine LeO.bind ?_ (fun _ => ?_)
set_option maxHeartbeats 8000000 in
set_option maxRecDepth 100000 in
theorem slices_Equal_string_string.calls (k : Nat) (A0 : Option Addr) (c0 : Nat) (l0 : List ByteArray) (A1 : Option Addr) (c1 : Nat) (l1 : List ByteArray) (r : Bool) (w : World) (hr0 : Kd.C Kd.string w A0 l0.length l0) (hc0 : l0.length ≤ c0) (hr1 : Kd.C Kd.string w A1 l1.length l1) (hc1 : l1.length ≤ c1) (h : slices_Equal_string_string.f k l0 l1 = some r) :
    Calls Try.prog 41 #[.slice A0 l0.length c0, .slice A1 l1.length c1] w fun e w' => e = .returned (.bool r) ∧ Drawn0 w w' := by
  have HR0 := Aside0.mk hr0
  have HC0 := Aside0.mk hc0
  clear hr0 hc0
  have HR1 := Aside0.mk hr1
  have HC1 := Aside0.mk hc1
  clear hr1 hc1
  have H : (if (l0.length : Int) = (l1.length : Int) then (slices_Equal_string_string.l0 k l0 l1 (l0.length : Int) 0) else (some false)) = some r := h
  clear h
  by_cases c3 : (l0.length : Int) = (l1.length : Int)
  · rw [if_pos c3] at H
    have c3b0 : ((l0.length : Int) == (l1.length : Int)) = true := beq_iff_eq.mpr c3
    have c3b1 : ((l0.length : Int) != (l1.length : Int)) = false := bne_eq_false_iff_eq.mpr c3
    have c3b2 : (l0.length == l1.length) = true := by first | simpa using c3 | (simp at c3 ⊢; omega)
    clear c3
    have H' := Aside0.mk H
    clear H
    go_enter Try.func41, Try.ntmps41
    go_wp2
    repeat (go_quiet (fail); try go_wp2)
    go_loopg [13] k (fun kq v13 w' => ∃ (x13_1 : Int), v13 = .int .i64 x13_1 ∧ Aside0 (slices_Equal_string_string.l0 kq l0 l1 (l0.length : Int) x13_1 = some r) ∧ Aside0 (kq ≤ k) ∧ Drawn0 w w')
    case atStart => exact ⟨(0), (by first | rfl | (simp; done) | (simp [*]; done)), H', ⟨Nat.le_refl _⟩, by repeat (first | exact Drawn0.refl _ | apply Drawn0.step)⟩
    case round =>
      clear H'
      try clear c1
      try clear p2
      try clear c3
      try clear c3b0
      try clear c3b1
      try clear c3b2
      obtain ⟨x13_1, rfl, HA, HK1, ⟨m1, rfl⟩⟩ := hrel
      cases gk with
      | zero => exact absurd HA.out (by simp [slices_Equal_string_string.l0])
      | succ k1 =>
        have H := HA.out
        clear HA
        simp only [slices_Equal_string_string.l0] at H
        by_cases c4 : x13_1 < (l0.length : Int)
        · rw [if_pos c4] at H
          have c4b0 : decide (x13_1 < (l0.length : Int)) = true := decide_eq_true c4
          clear c4
          by_cases c5 : 0 ≤ x13_1
          · rw [if_pos c5] at H
            have c5b0 : decide (0 ≤ x13_1) = true := decide_eq_true c5
            clear c5
            by_cases c6 : x13_1 < (l0.length : Int)
            · rw [if_pos c6] at H
              have c6b0 : decide (x13_1 < (l0.length : Int)) = true := decide_eq_true c6
              clear c6
              by_cases c7 : x13_1 < (l1.length : Int)
              · rw [if_pos c7] at H
                have c7b0 : decide (x13_1 < (l1.length : Int)) = true := decide_eq_true c7
                clear c7
                by_cases c8 : (rdOf ByteArray.empty l0 x13_1).toList = (rdOf ByteArray.empty l1 x13_1).toList
                · rw [if_pos c8] at H
                  have c8b0 : ((rdOf ByteArray.empty l0 x13_1).toList == (rdOf ByteArray.empty l1 x13_1).toList) = true := beq_iff_eq.mpr c8
                  have c8b1 : ((rdOf ByteArray.empty l0 x13_1).toList != (rdOf ByteArray.empty l1 x13_1).toList) = false := bne_eq_false_iff_eq.mpr c8
                  clear c8
                  have H' := Aside0.mk H
                  clear H
                  have p294 : 0 ≤ (x13_1 : Int) := of_decide_eq_true (by first | (with_reducible assumption) | assumption)
                  have q294 : x13_1 < (l0.length : Int) := of_decide_eq_true (by first | (with_reducible assumption) | assumption)
                  obtain ⟨ad294, e294, hx294_0⟩ := Kd.at_string HR0.out x13_1 p294 q294
                  cases e294
                  replace p294 := eq_true p294
                  replace q294 := eq_true q294
                  have p295 : 0 ≤ (x13_1 : Int) := of_decide_eq_true (by first | (with_reducible assumption) | assumption)
                  have q295 : x13_1 < (l1.length : Int) := of_decide_eq_true (by first | (with_reducible assumption) | assumption)
                  obtain ⟨ad295, e295, hx295_0⟩ := Kd.at_string HR1.out x13_1 p295 q295
                  cases e295
                  replace p295 := eq_true p295
                  replace q295 := eq_true q295
                  go_wp2
                  repeat (go_quiet (fail); try go_wp2)
                  go_roundg k1
                  case measure => have := HK1.out; omega
                  case rel => exact ⟨(wrap64 (x13_1 + 1)), (by first | rfl | (simp; done) | (simp [*]; done)), H', ⟨by have := HK1.out; omega⟩, by repeat (first | exact Drawn0.refl _ | apply Drawn0.step)⟩
                · rw [if_neg c8] at H
                  have c8b0 : ((rdOf ByteArray.empty l0 x13_1).toList == (rdOf ByteArray.empty l1 x13_1).toList) = false := beq_eq_false_iff_ne.mpr c8
                  have c8b1 : ((rdOf ByteArray.empty l0 x13_1).toList != (rdOf ByteArray.empty l1 x13_1).toList) = true := bne_iff_ne.mpr c8
                  obtain rfl := Option.some.inj H
                  have p294 : 0 ≤ (x13_1 : Int) := of_decide_eq_true (by first | (with_reducible assumption) | assumption)
                  have q294 : x13_1 < (l0.length : Int) := of_decide_eq_true (by first | (with_reducible assumption) | assumption)
                  obtain ⟨ad294, e294, hx294_0⟩ := Kd.at_string HR0.out x13_1 p294 q294
                  cases e294
                  replace p294 := eq_true p294
                  replace q294 := eq_true q294
                  have p295 : 0 ≤ (x13_1 : Int) := of_decide_eq_true (by first | (with_reducible assumption) | assumption)
                  have q295 : x13_1 < (l1.length : Int) := of_decide_eq_true (by first | (with_reducible assumption) | assumption)
                  obtain ⟨ad295, e295, hx295_0⟩ := Kd.at_string HR1.out x13_1 p295 q295
                  cases e295
                  replace p295 := eq_true p295
                  replace q295 := eq_true q295
                  go_wp2
                  repeat (go_quiet (fail); try go_wp2)
                  go_ret
                  exact ⟨by first | rfl | (simp; done) | (simp [*]; done), by repeat (first | exact Drawn0.refl _ | apply Drawn0.step)⟩
              · rw [if_neg c7] at H
                exact absurd H (by simp)
            · rw [if_neg c6] at H
              exact absurd H (by simp)
          · rw [if_neg c5] at H
            exact absurd H (by simp)
        · rw [if_neg c4] at H
          have c4b0 : decide (x13_1 < (l0.length : Int)) = false := decide_eq_false c4
          clear c4
          obtain rfl := Option.some.inj H
          go_wp2
          repeat (go_quiet (fail); try go_wp2)
          go_ret
          exact ⟨by first | rfl | (simp; done) | (simp [*]; done), by repeat (first | exact Drawn0.refl _ | apply Drawn0.step)⟩
  · rw [if_neg c3] at H
    have c3b0 : ((l0.length : Int) == (l1.length : Int)) = false := beq_eq_false_iff_ne.mpr c3
    have c3b1 : ((l0.length : Int) != (l1.length : Int)) = true := bne_iff_ne.mpr c3
    have c3b2 : (l0.length == l1.length) = false := by first | simpa using c3 | (simp at c3 ⊢; omega)
    obtain rfl := Option.some.inj H
    go_enter Try.func41, Try.ntmps41
    go_wp2
    repeat (go_quiet (fail); try go_wp2)
    go_ret
    exact ⟨by first | rfl | (simp; done) | (simp [*]; done), by repeat (first | exact Drawn0.refl _ | apply Drawn0.step)⟩

end Go.Proofs.Ytaocplhijfkicaa.PD
-- written by a program of this work (mk.sh, over the kit's print; stubs are proved by hand)
namespace Go.Proofs.Ytaocplhijfkicaa.PD
open Go.RowKit Go.Proofs.YtaocplhijfkicaaW.PrintWords Go.Proofs.YtaocplhijfkicaaW.PrintLast Go.Proofs.YtaocplhijfkicaaW.PrintMore
attribute [local go_sem] isSome_setCell max2_int min2_int max_two min_two   -- for this text's walks alone
set_option linter.unusedVariables false
set_option linter.unusedSimpArgs false

attribute [local go_sem high] eqA40
/-! ### api_Wr_42: function 42 -/
def api_Wr_42.l0 : Nat → List (S40) → List (S40) → Int → Int → Option (Bool)
  | 0, _, _, _, _ => none
  | k + 1, x0, x1, x12, x13 => if x13 < x12 then (if 0 ≤ x13 then (if x13 < (x0.length : Int) then (if x13 < (x1.length : Int) then (if (!(((rd_T40 x0 x13).f0) == ((rd_T40 x1 x13).f0)) || (!((((rd_T40 x0 x13).f1).toList) == (((rd_T40 x1 x13).f1).toList)))) = true then (some false) else (api_Wr_42.l0 k x0 x1 x12 (wrap64 (x13 + 1)))) else (none)) else (none)) else (none)) else (some true)
def api_Wr_42.f (k : Nat) (l0 : List (S40)) (l1 : List (S40)) : Option (Bool) := if (l0.length : Int) = (l1.length : Int) then (api_Wr_42.l0 k l0 l1 (l0.length : Int) 0) else (some false)
theorem api_Wr_42.mono_l : ∀ k, (∀ y0 y1 y2 y3, LeO (api_Wr_42.l0 k y0 y1 y2 y3) (api_Wr_42.l0 (k + 1) y0 y1 y2 y3))
  | 0 => fun _ _ _ _ r h => by simp [api_Wr_42.l0] at h
  | k + 1 => by
    have ih0 := api_Wr_42.mono_l k
    · intro y0 y1 y2 y3
      unfold api_Wr_42.l0
      repeat' first
      | (with_reducible exact ih0 _ _ _ _)
      | (with_reducible exact LeO.refl _)
      | (with_reducible exact LeO.none _)
      | (with_reducible refine LeO.ite ?_ ?_)
      | (with_reducible refine LeO.bind ?_ (fun _ => ?_))
      | exact ih0 _ _ _ _
      | exact LeO.none _
      | refine LeO.ite ?_ ?_
      | refine LeO.bind ?_ (fun _ => ?_)
theorem api_Wr_42.mono : ∀ a0 a1 k, LeO (api_Wr_42.f k a0 a1) (api_Wr_42.f (k + 1) a0 a1) := by
  intro a0 a1 k
  have ih0 := api_Wr_42.mono_l k
  unfold api_Wr_42.f
  repeat' first
      | (with_reducible exact ih0 _ _ _ _)
      | (with_reducible exact LeO.refl _)
      | (with_reducible exact LeO.none _)
      | (with_reducible refine LeO.ite ?_ ?_)
      | (with_reducible refine LeO.bind ?_ (fun _ => ?_))
      | exact ih0 _ _ _ _
      | exact LeO.none _
      | refine LeO.ite ?_ ?_
      | refine LeO.bind ?_ (fun _ => ?_)
set_option maxHeartbeats 8000000 in
set_option maxRecDepth 100000 in
theorem api_Wr_42.calls (k : Nat) (A0 : Option Addr) (c0 : Nat) (l0 : List (S40)) (A1 : Option Addr) (c1 : Nat) (l1 : List (S40)) (r : Bool) (w : World) (hr0 : Kd.C k40 w A0 l0.length l0) (hc0 : l0.length ≤ c0) (hr1 : Kd.C k40 w A1 l1.length l1) (hc1 : l1.length ≤ c1) (h : api_Wr_42.f k l0 l1 = some r) :
    Calls Try.prog 42 #[.slice A0 l0.length c0, .slice A1 l1.length c1] w fun e w' => e = .returned (.bool r) ∧ Drawn0 w w' := by
  have hu40 := Try.underlying40
  have HR0 := Aside0.mk hr0
  have HC0 := Aside0.mk hc0
  clear hr0 hc0
  have HR1 := Aside0.mk hr1
  have HC1 := Aside0.mk hc1
  clear hr1 hc1
  have H : (if (l0.length : Int) = (l1.length : Int) then (api_Wr_42.l0 k l0 l1 (l0.length : Int) 0) else (some false)) = some r := h
  clear h
  by_cases c3 : (l0.length : Int) = (l1.length : Int)
  · rw [if_pos c3] at H
    have c3b0 : ((l0.length : Int) == (l1.length : Int)) = true := beq_iff_eq.mpr c3
    have c3b1 : ((l0.length : Int) != (l1.length : Int)) = false := bne_eq_false_iff_eq.mpr c3
    have c3b2 : (l0.length == l1.length) = true := by first | simpa using c3 | (simp at c3 ⊢; omega)
    clear c3
    have H' := Aside0.mk H
    clear H
    go_enter Try.func42, Try.ntmps42
    go_wp2
    repeat (go_quiet (fail); try go_wp2)
    go_loopg [13] k (fun kq v13 w' => ∃ (x13_1 : Int), v13 = .int .i64 x13_1 ∧ Aside0 (api_Wr_42.l0 kq l0 l1 (l0.length : Int) x13_1 = some r) ∧ Aside0 (kq ≤ k) ∧ Drawn0 w w')
    case atStart => exact ⟨(0), (by first | rfl | (simp; done) | (simp [*]; done)), H', ⟨Nat.le_refl _⟩, by repeat (first | exact Drawn0.refl _ | apply Drawn0.step)⟩
    case round =>
      clear H'
      try clear c1
      try clear p2
      try clear c3
      try clear c3b0
      try clear c3b1
      try clear c3b2
      obtain ⟨x13_1, rfl, HA, HK1, ⟨m1, rfl⟩⟩ := hrel
      cases gk with
      | zero => exact absurd HA.out (by simp [api_Wr_42.l0])
      | succ k1 =>
        have H := HA.out
        clear HA
        simp only [api_Wr_42.l0] at H
        by_cases c4 : x13_1 < (l0.length : Int)
        · rw [if_pos c4] at H
          have c4b0 : decide (x13_1 < (l0.length : Int)) = true := decide_eq_true c4
          clear c4
          by_cases c5 : 0 ≤ x13_1
          · rw [if_pos c5] at H
            have c5b0 : decide (0 ≤ x13_1) = true := decide_eq_true c5
            clear c5
            by_cases c6 : x13_1 < (l0.length : Int)
            · rw [if_pos c6] at H
              have c6b0 : decide (x13_1 < (l0.length : Int)) = true := decide_eq_true c6
              clear c6
              by_cases c7 : x13_1 < (l1.length : Int)
              · rw [if_pos c7] at H
                have c7b0 : decide (x13_1 < (l1.length : Int)) = true := decide_eq_true c7
                clear c7
                by_cases c8 : (!(((rd_T40 l0 x13_1).f0) == ((rd_T40 l1 x13_1).f0)) || (!((((rd_T40 l0 x13_1).f1).toList) == (((rd_T40 l1 x13_1).f1).toList)))) = true
                · rw [if_pos c8] at H
                  have c8b0 : (!(((rd_T40 l0 x13_1).f0) == ((rd_T40 l1 x13_1).f0)) || (!((((rd_T40 l0 x13_1).f1).toList) == (((rd_T40 l1 x13_1).f1).toList)))) = true := c8
                  clear c8
                  obtain rfl := Option.some.inj H
                  have p296 : 0 ≤ (x13_1 : Int) := of_decide_eq_true (by first | (with_reducible assumption) | assumption)
                  have q296 : x13_1 < (l0.length : Int) := of_decide_eq_true (by first | (with_reducible assumption) | assumption)
                  obtain ⟨ad296, e296, hx296_0, hx296_1⟩ := at_T40 HR0.out x13_1 p296 q296
                  cases e296
                  replace p296 := eq_true p296
                  replace q296 := eq_true q296
                  have p297 : 0 ≤ (x13_1 : Int) := of_decide_eq_true (by first | (with_reducible assumption) | assumption)
                  have q297 : x13_1 < (l1.length : Int) := of_decide_eq_true (by first | (with_reducible assumption) | assumption)
                  obtain ⟨ad297, e297, hx297_0, hx297_1⟩ := at_T40 HR1.out x13_1 p297 q297
                  cases e297
                  replace p297 := eq_true p297
                  replace q297 := eq_true q297
                  go_wp2
                  repeat (go_quiet (fail); try go_wp2)
                  go_ret
                  exact ⟨by first | rfl | (simp; done) | (simp [*]; done), by repeat (first | exact Drawn0.refl _ | apply Drawn0.step)⟩
                · rw [if_neg c8] at H
                  have c8b0 : (!(((rd_T40 l0 x13_1).f0) == ((rd_T40 l1 x13_1).f0)) || (!((((rd_T40 l0 x13_1).f1).toList) == (((rd_T40 l1 x13_1).f1).toList)))) = false := by simpa using c8
                  clear c8
                  have H' := Aside0.mk H
                  clear H
                  have p296 : 0 ≤ (x13_1 : Int) := of_decide_eq_true (by first | (with_reducible assumption) | assumption)
                  have q296 : x13_1 < (l0.length : Int) := of_decide_eq_true (by first | (with_reducible assumption) | assumption)
                  obtain ⟨ad296, e296, hx296_0, hx296_1⟩ := at_T40 HR0.out x13_1 p296 q296
                  cases e296
                  replace p296 := eq_true p296
                  replace q296 := eq_true q296
                  have p297 : 0 ≤ (x13_1 : Int) := of_decide_eq_true (by first | (with_reducible assumption) | assumption)
                  have q297 : x13_1 < (l1.length : Int) := of_decide_eq_true (by first | (with_reducible assumption) | assumption)
                  obtain ⟨ad297, e297, hx297_0, hx297_1⟩ := at_T40 HR1.out x13_1 p297 q297
                  cases e297
                  replace p297 := eq_true p297
                  replace q297 := eq_true q297
                  go_wp2
                  repeat (go_quiet (fail); try go_wp2)
                  go_roundg k1
                  case measure => have := HK1.out; omega
                  case rel => exact ⟨(wrap64 (x13_1 + 1)), (by first | rfl | (simp; done) | (simp [*]; done)), H', ⟨by have := HK1.out; omega⟩, by repeat (first | exact Drawn0.refl _ | apply Drawn0.step)⟩
              · rw [if_neg c7] at H
                exact absurd H (by simp)
            · rw [if_neg c6] at H
              exact absurd H (by simp)
          · rw [if_neg c5] at H
            exact absurd H (by simp)
        · rw [if_neg c4] at H
          have c4b0 : decide (x13_1 < (l0.length : Int)) = false := decide_eq_false c4
          clear c4
          obtain rfl := Option.some.inj H
          go_wp2
          repeat (go_quiet (fail); try go_wp2)
          go_ret
          exact ⟨by first | rfl | (simp; done) | (simp [*]; done), by repeat (first | exact Drawn0.refl _ | apply Drawn0.step)⟩
  · rw [if_neg c3] at H
    have c3b0 : ((l0.length : Int) == (l1.length : Int)) = false := beq_eq_false_iff_ne.mpr c3
    have c3b1 : ((l0.length : Int) != (l1.length : Int)) = true := bne_iff_ne.mpr c3
    have c3b2 : (l0.length == l1.length) = false := by first | simpa using c3 | (simp at c3 ⊢; omega)
    obtain rfl := Option.some.inj H
    go_enter Try.func42, Try.ntmps42
    go_wp2
    repeat (go_quiet (fail); try go_wp2)
    go_ret
    exact ⟨by first | rfl | (simp; done) | (simp [*]; done), by repeat (first | exact Drawn0.refl _ | apply Drawn0.step)⟩

end Go.Proofs.Ytaocplhijfkicaa.PD
-- written by a program of this work (mk.sh, over the kit's print; stubs are proved by hand)
namespace Go.Proofs.Ytaocplhijfkicaa.PD
open Go.RowKit Go.Proofs.YtaocplhijfkicaaW.PrintWords Go.Proofs.YtaocplhijfkicaaW.PrintLast Go.Proofs.YtaocplhijfkicaaW.PrintMore
attribute [local go_sem] isSome_setCell max2_int min2_int max_two min_two   -- for this text's walks alone
set_option linter.unusedVariables false
set_option linter.unusedSimpArgs false

/-! ### dev_Same: function 19 -/
def dev_Same.f (k : Nat) (l0_0 : List ByteArray) (l0_1 : List (S40)) (a0_2 : Int) (a0_3 : Bool) (l1_0 : List ByteArray) (l1_1 : List (S40)) (a1_2 : Int) (a1_3 : Bool) : Option (Bool) := (slices_Equal_string_string.f k l0_0 l1_0).bind fun t300 => (if t300 = true then ((api_Wr_42.f k l0_1 l1_1).bind fun t301 => (if t301 = true then (if a0_2 = a1_2 then (some (a0_3 == a1_3)) else (some false)) else (some false))) else (some false))
theorem dev_Same.mono : ∀ a0 a1 a2 a3 a4 a5 a6 a7 k, LeO (dev_Same.f k a0 a1 a2 a3 a4 a5 a6 a7) (dev_Same.f (k + 1) a0 a1 a2 a3 a4 a5 a6 a7) := by
  intro a0 a1 a2 a3 a4 a5 a6 a7 k
  unfold dev_Same.f
  repeat' first
      | (with_reducible exact api_Wr_42.mono _ _ _)
      | (with_reducible exact slices_Equal_string_string.mono _ _ _)
      | (with_reducible exact LeO.refl _)
      | (with_reducible exact LeO.none _)
      | (with_reducible refine LeO.ite ?_ ?_)
      | (with_reducible refine LeO.bind ?_ (fun _ => ?_))
      | exact api_Wr_42.mono _ _ _
      | exact slices_Equal_string_string.mono _ _ _
      | exact LeO.none _
      | refine LeO.ite ?_ ?_
      | refine LeO.bind ?_ (fun _ => ?_)
set_option maxHeartbeats 8000000 in
set_option maxRecDepth 100000 in
theorem dev_Same.calls (k : Nat) (A0_0 : Option Addr) (c0_0 : Nat) (l0_0 : List ByteArray) (A0_1 : Option Addr) (c0_1 : Nat) (l0_1 : List (S40)) (a0_2 : Int) (a0_3 : Bool) (A1_0 : Option Addr) (c1_0 : Nat) (l1_0 : List ByteArray) (A1_1 : Option Addr) (c1_1 : Nat) (l1_1 : List (S40)) (a1_2 : Int) (a1_3 : Bool) (r : Bool) (w : World) (hr0_0 : Kd.C Kd.string w A0_0 l0_0.length l0_0) (hc0_0 : l0_0.length ≤ c0_0) (hr0_1 : Kd.C k40 w A0_1 l0_1.length l0_1) (hc0_1 : l0_1.length ≤ c0_1) (hr1_0 : Kd.C Kd.string w A1_0 l1_0.length l1_0) (hc1_0 : l1_0.length ≤ c1_0) (hr1_1 : Kd.C k40 w A1_1 l1_1.length l1_1) (hc1_1 : l1_1.length ≤ c1_1) (h : dev_Same.f k l0_0 l0_1 a0_2 a0_3 l1_0 l1_1 a1_2 a1_3 = some r) :
    Calls Try.prog 19 #[.agg #[.slice A0_0 l0_0.length c0_0, .slice A0_1 l0_1.length c0_1, .int .i64 a0_2, .bool a0_3], .agg #[.slice A1_0 l1_0.length c1_0, .slice A1_1 l1_1.length c1_1, .int .i64 a1_2, .bool a1_3]] w fun e w' => e = .returned (.bool r) ∧ Below w.heap.size w w' := by
  have hu25 := Try.underlying25
  have HR0_0 := Aside0.mk hr0_0
  have HC0_0 := Aside0.mk hc0_0
  clear hr0_0 hc0_0
  have HR0_1 := Aside0.mk hr0_1
  have HC0_1 := Aside0.mk hc0_1
  clear hr0_1 hc0_1
  have HR1_0 := Aside0.mk hr1_0
  have HC1_0 := Aside0.mk hc1_0
  clear hr1_0 hc1_0
  have HR1_1 := Aside0.mk hr1_1
  have HC1_1 := Aside0.mk hc1_1
  clear hr1_1 hc1_1
  have HB := Aside0.mk (Below.refl w.heap.size w)
  have H : ((slices_Equal_string_string.f k l0_0 l1_0).bind fun t300 => (if t300 = true then ((api_Wr_42.f k l0_1 l1_1).bind fun t301 => (if t301 = true then (if a0_2 = a1_2 then (some (a0_3 == a1_3)) else (some false)) else (some false))) else (some false))) = some r := h
  clear h
  replace H := Option.bind_eq_some_iff.mp H
  obtain ⟨t300, A30, H⟩ := H
  replace H : (if t300 = true then ((api_Wr_42.f k l0_1 l1_1).bind fun t301 => (if t301 = true then (if a0_2 = a1_2 then (some (a0_3 == a1_3)) else (some false)) else (some false))) else (some false)) = some r := H
  have A3 := Aside0.mk A30
  clear A30
  by_cases c4 : t300 = true
  · subst c4
    have H1 : ((api_Wr_42.f k l0_1 l1_1).bind fun t301 => (if t301 = true then (if a0_2 = a1_2 then (some (a0_3 == a1_3)) else (some false)) else (some false))) = some r := by rw [if_pos rfl] at H; exact H
    clear H
    have H := H1
    clear H1
    replace H := Option.bind_eq_some_iff.mp H
    obtain ⟨t301, A50, H⟩ := H
    replace H : (if t301 = true then (if a0_2 = a1_2 then (some (a0_3 == a1_3)) else (some false)) else (some false)) = some r := H
    have A5 := Aside0.mk A50
    clear A50
    by_cases c6 : t301 = true
    · subst c6
      have H1 : (if a0_2 = a1_2 then (some (a0_3 == a1_3)) else (some false)) = some r := by rw [if_pos rfl] at H; exact H
      clear H
      have H := H1
      clear H1
      by_cases c7 : a0_2 = a1_2
      · rw [if_pos c7] at H
        have c7b0 : (a0_2 == a1_2) = true := beq_iff_eq.mpr c7
        have c7b1 : (a0_2 != a1_2) = false := bne_eq_false_iff_eq.mpr c7
        clear c7
        obtain rfl := Option.some.inj H
        go_enter Try.func19, Try.ntmps19
        go_wp2_with (first | ((with_reducible refine gate_dst (N := 2) rfl ?_); refine box_event ?hg (N := 2) ?hd (cs := #[.slice A0_0 l0_0.length c0_0, .slice A0_1 l0_1.length c0_1, .int .i64 a0_2, .bool a0_3]) (t := 25) ?hr ?_; (case hd => rfl); (case hg => rfl); (case hr => first | (go_simp; done) | (go_simp; rfl)); intro gb298 hg w8 hbox hb; have n0_ := Aside0.mk (below_step (by repeat (first | (with_reducible first | exact HB.out | apply below_alloc | apply pw_below_drewN | apply below_drew1) | exact HB.out)) hb); have n1_ := Aside0.mk (hbox); have n2_ := Aside0.mk ((by rw [hg]; exact (below_size (by repeat (first | (with_reducible first | exact HB.out | apply below_alloc | apply pw_below_drewN | apply below_drew1) | exact HB.out))) : w.heap.size ≤ gb298)); have n3_ := Aside0.mk ((by rw [hg]; exact (below_size (by repeat (first | (with_reducible first | exact HB.out | apply below_alloc | apply pw_below_drewN | apply below_drew1) | exact HB.out))) : w.heap.size ≤ gb298)); clear HB; have HB := n0_; have BK298 := n1_; have GW298 := n2_; have GE298 := n3_; clear n0_ n1_ n2_ n3_; clear hb hbox hg) | ((with_reducible refine gate_dst (N := 3) rfl ?_); refine box_event ?hg (N := 3) ?hd (cs := #[.slice A1_0 l1_0.length c1_0, .slice A1_1 l1_1.length c1_1, .int .i64 a1_2, .bool a1_3]) (t := 25) ?hr ?_; (case hd => rfl); (case hg => rfl); (case hr => first | (go_simp; done) | (go_simp; rfl)); intro gb299 hg w9 hbox hb; have n0_ := Aside0.mk (blk_below (g := gb298) (o := .cells #[.slice A0_0 l0_0.length c0_0, .slice A0_1 l0_1.length c0_1, .int .i64 a0_2, .bool a0_3] 25 (0, 0)) (by (with_reducible repeat (first | refine blk_drewN ?_ _ | refine blk_drew ?_ | refine blk_alloc ?_ _)); exact BK298.out) hb); have n1_ := Aside0.mk (below_step (by repeat (first | (with_reducible first | exact HB.out | apply below_alloc | apply pw_below_drewN | apply below_drew1 | refine below_set ?_ GE298.out) | exact HB.out)) hb); have n2_ := Aside0.mk (hbox); have n3_ := Aside0.mk ((by rw [hg]; exact (below_size (by repeat (first | (with_reducible first | exact HB.out | apply below_alloc | apply pw_below_drewN | apply below_drew1 | refine below_set ?_ GE298.out) | exact HB.out))) : w.heap.size ≤ gb299)); have n4_ := Aside0.mk ((by rw [hg]; exact (below_size (by repeat (first | (with_reducible first | exact HB.out | apply below_alloc | apply pw_below_drewN | apply below_drew1 | refine below_set ?_ GE298.out) | exact HB.out))) : w.heap.size ≤ gb299)); have n5_ := Aside0.mk ((by rw [hg]; exact Nat.ne_of_lt (blk_lt (g := gb298) (o := .cells #[.slice A0_0 l0_0.length c0_0, .slice A0_1 l0_1.length c0_1, .int .i64 a0_2, .bool a0_3] 25 (0, 0)) (by (with_reducible repeat (first | refine blk_drewN ?_ _ | refine blk_drew ?_ | refine blk_alloc ?_ _)); exact BK298.out)) : gb298 ≠ gb299)); have n6_ := Aside0.mk ((by rw [hg]; exact Nat.ne_of_gt (blk_lt (g := gb298) (o := .cells #[.slice A0_0 l0_0.length c0_0, .slice A0_1 l0_1.length c0_1, .int .i64 a0_2, .bool a0_3] 25 (0, 0)) (by (with_reducible repeat (first | refine blk_drewN ?_ _ | refine blk_drew ?_ | refine blk_alloc ?_ _)); exact BK298.out)) : gb299 ≠ gb298)); clear BK298; clear HB; have BK298 := n0_; have HB := n1_; have BK299 := n2_; have GW299 := n3_; have GE299 := n4_; have NB298_299 := n5_; have NB299_298 := n6_; clear n0_ n1_ n2_ n3_ n4_ n5_ n6_; clear hb hbox hg; have hnb10 := NB298_299.out; have hnc10 := NB299_298.out; have hcz11_0 : w9.cell? ⟨gb298, 0, none⟩ = some (.slice A0_0 l0_0.length c0_0) := (blk_cell BK298.out 0).trans rfl; have hcz11_1 : w9.cell? ⟨gb298, 1, none⟩ = some (.slice A0_1 l0_1.length c0_1) := (blk_cell BK298.out 1).trans rfl; have hcz11_2 : w9.cell? ⟨gb298, 2, none⟩ = some (.int .i64 a0_2) := (blk_cell BK298.out 2).trans rfl; have hcz11_3 : w9.cell? ⟨gb298, 3, none⟩ = some (.bool a0_3) := (blk_cell BK298.out 3).trans rfl; have hfz11_0 := blk_frozen BK298.out 0; have hfz11_1 := blk_frozen BK298.out 1; have hfz11_2 := blk_frozen BK298.out 2; have hfz11_3 := blk_frozen BK298.out 3; have hcz12_0 : w9.cell? ⟨gb299, 0, none⟩ = some (.slice A1_0 l1_0.length c1_0) := (blk_cell BK299.out 0).trans rfl; have hcz12_1 : w9.cell? ⟨gb299, 1, none⟩ = some (.slice A1_1 l1_1.length c1_1) := (blk_cell BK299.out 1).trans rfl; have hcz12_2 : w9.cell? ⟨gb299, 2, none⟩ = some (.int .i64 a1_2) := (blk_cell BK299.out 2).trans rfl; have hcz12_3 : w9.cell? ⟨gb299, 3, none⟩ = some (.bool a1_3) := (blk_cell BK299.out 3).trans rfl; have hfz12_0 := blk_frozen BK299.out 0; have hfz12_1 := blk_frozen BK299.out 1; have hfz12_2 := blk_frozen BK299.out 2; have hfz12_3 := blk_frozen BK299.out 3) | ((with_reducible refine gate_callee (f := 41) rfl ?_); refine goesL_ (some 9) rfl rfl Try.func41 (by kernel_rfl) rfl #[.slice A0_0 l0_0.length c0_0, .slice A1_0 l1_0.length c1_0] rfl (by (try simp only [List.map_toArray, List.map_cons, List.map_nil]); first | done | rfl | (simp only [List.length_drop, List.length_take]; rfl)) ?_; (with_reducible refine (slices_Equal_string_string.calls k _ _ l0_0 _ _ l1_0 true _ ?side1 ?side2 ?side3 ?side4 A3.out).mono ?_); (case side1 => repeat (first | exact (Kd.C_below HR0_0.out HB.out) | (with_reducible refine Kd.C_alloc ?_ _) | (with_reducible refine Kd.C_drewN ?_ _) | (with_reducible refine Kd.C_drew ?_))); (case side2 => exact HC0_0.out); (case side3 => repeat (first | exact (Kd.C_below HR1_0.out HB.out) | (with_reducible refine Kd.C_alloc ?_ _) | (with_reducible refine Kd.C_drewN ?_ _) | (with_reducible refine Kd.C_drew ?_))); (case side4 => exact HC1_0.out); rintro e w' ⟨rfl, ⟨nd, rfl⟩⟩; refine ⟨_, rfl, ?_⟩) | (go_at_call 42; (with_reducible refine (api_Wr_42.calls k _ _ l0_1 _ _ l1_1 true _ ?side1 ?side2 ?side3 ?side4 A5.out).mono ?_); (case side1 => repeat (first | exact (Kd.C_below HR0_1.out (by repeat (first | (with_reducible first | exact HB.out | apply below_alloc | apply pw_below_drewN | apply below_drew1 | refine below_set ?_ GE298.out | refine below_set ?_ GE299.out) | exact HB.out))) | (with_reducible refine Kd.C_alloc ?_ _) | (with_reducible refine Kd.C_drewN ?_ _) | (with_reducible refine Kd.C_drew ?_))); (case side2 => exact HC0_1.out); (case side3 => repeat (first | exact (Kd.C_below HR1_1.out (by repeat (first | (with_reducible first | exact HB.out | apply below_alloc | apply pw_below_drewN | apply below_drew1 | refine below_set ?_ GE298.out | refine below_set ?_ GE299.out) | exact HB.out))) | (with_reducible refine Kd.C_alloc ?_ _) | (with_reducible refine Kd.C_drewN ?_ _) | (with_reducible refine Kd.C_drew ?_))); (case side4 => exact HC1_1.out); rintro e w' ⟨rfl, ⟨nd, rfl⟩⟩))
        go_ret
        exact ⟨by first | rfl | (simp [errW_none, errW_some] <;> rfl) | (simp [*, errW_none, errW_some] <;> rfl), by repeat (first | (with_reducible first | exact HB.out | apply below_alloc | apply pw_below_drewN | apply below_drew1 | refine below_set ?_ GE298.out | refine below_set ?_ GE299.out) | exact HB.out)⟩
      · rw [if_neg c7] at H
        have c7b0 : (a0_2 == a1_2) = false := beq_eq_false_iff_ne.mpr c7
        have c7b1 : (a0_2 != a1_2) = true := bne_iff_ne.mpr c7
        obtain rfl := Option.some.inj H
        go_enter Try.func19, Try.ntmps19
        go_wp2_with (first | ((with_reducible refine gate_dst (N := 2) rfl ?_); refine box_event ?hg (N := 2) ?hd (cs := #[.slice A0_0 l0_0.length c0_0, .slice A0_1 l0_1.length c0_1, .int .i64 a0_2, .bool a0_3]) (t := 25) ?hr ?_; (case hd => rfl); (case hg => rfl); (case hr => first | (go_simp; done) | (go_simp; rfl)); intro gb298 hg w13 hbox hb; have n0_ := Aside0.mk (below_step (by repeat (first | (with_reducible first | exact HB.out | apply below_alloc | apply pw_below_drewN | apply below_drew1) | exact HB.out)) hb); have n1_ := Aside0.mk (hbox); have n2_ := Aside0.mk ((by rw [hg]; exact (below_size (by repeat (first | (with_reducible first | exact HB.out | apply below_alloc | apply pw_below_drewN | apply below_drew1) | exact HB.out))) : w.heap.size ≤ gb298)); have n3_ := Aside0.mk ((by rw [hg]; exact (below_size (by repeat (first | (with_reducible first | exact HB.out | apply below_alloc | apply pw_below_drewN | apply below_drew1) | exact HB.out))) : w.heap.size ≤ gb298)); clear HB; have HB := n0_; have BK298 := n1_; have GW298 := n2_; have GE298 := n3_; clear n0_ n1_ n2_ n3_; clear hb hbox hg) | ((with_reducible refine gate_dst (N := 3) rfl ?_); refine box_event ?hg (N := 3) ?hd (cs := #[.slice A1_0 l1_0.length c1_0, .slice A1_1 l1_1.length c1_1, .int .i64 a1_2, .bool a1_3]) (t := 25) ?hr ?_; (case hd => rfl); (case hg => rfl); (case hr => first | (go_simp; done) | (go_simp; rfl)); intro gb299 hg w14 hbox hb; have n0_ := Aside0.mk (blk_below (g := gb298) (o := .cells #[.slice A0_0 l0_0.length c0_0, .slice A0_1 l0_1.length c0_1, .int .i64 a0_2, .bool a0_3] 25 (0, 0)) (by (with_reducible repeat (first | refine blk_drewN ?_ _ | refine blk_drew ?_ | refine blk_alloc ?_ _)); exact BK298.out) hb); have n1_ := Aside0.mk (below_step (by repeat (first | (with_reducible first | exact HB.out | apply below_alloc | apply pw_below_drewN | apply below_drew1 | refine below_set ?_ GE298.out) | exact HB.out)) hb); have n2_ := Aside0.mk (hbox); have n3_ := Aside0.mk ((by rw [hg]; exact (below_size (by repeat (first | (with_reducible first | exact HB.out | apply below_alloc | apply pw_below_drewN | apply below_drew1 | refine below_set ?_ GE298.out) | exact HB.out))) : w.heap.size ≤ gb299)); have n4_ := Aside0.mk ((by rw [hg]; exact (below_size (by repeat (first | (with_reducible first | exact HB.out | apply below_alloc | apply pw_below_drewN | apply below_drew1 | refine below_set ?_ GE298.out) | exact HB.out))) : w.heap.size ≤ gb299)); have n5_ := Aside0.mk ((by rw [hg]; exact Nat.ne_of_lt (blk_lt (g := gb298) (o := .cells #[.slice A0_0 l0_0.length c0_0, .slice A0_1 l0_1.length c0_1, .int .i64 a0_2, .bool a0_3] 25 (0, 0)) (by (with_reducible repeat (first | refine blk_drewN ?_ _ | refine blk_drew ?_ | refine blk_alloc ?_ _)); exact BK298.out)) : gb298 ≠ gb299)); have n6_ := Aside0.mk ((by rw [hg]; exact Nat.ne_of_gt (blk_lt (g := gb298) (o := .cells #[.slice A0_0 l0_0.length c0_0, .slice A0_1 l0_1.length c0_1, .int .i64 a0_2, .bool a0_3] 25 (0, 0)) (by (with_reducible repeat (first | refine blk_drewN ?_ _ | refine blk_drew ?_ | refine blk_alloc ?_ _)); exact BK298.out)) : gb299 ≠ gb298)); clear BK298; clear HB; have BK298 := n0_; have HB := n1_; have BK299 := n2_; have GW299 := n3_; have GE299 := n4_; have NB298_299 := n5_; have NB299_298 := n6_; clear n0_ n1_ n2_ n3_ n4_ n5_ n6_; clear hb hbox hg; have hnb15 := NB298_299.out; have hnc15 := NB299_298.out; have hcz16_0 : w14.cell? ⟨gb298, 0, none⟩ = some (.slice A0_0 l0_0.length c0_0) := (blk_cell BK298.out 0).trans rfl; have hcz16_1 : w14.cell? ⟨gb298, 1, none⟩ = some (.slice A0_1 l0_1.length c0_1) := (blk_cell BK298.out 1).trans rfl; have hcz16_2 : w14.cell? ⟨gb298, 2, none⟩ = some (.int .i64 a0_2) := (blk_cell BK298.out 2).trans rfl; have hcz16_3 : w14.cell? ⟨gb298, 3, none⟩ = some (.bool a0_3) := (blk_cell BK298.out 3).trans rfl; have hfz16_0 := blk_frozen BK298.out 0; have hfz16_1 := blk_frozen BK298.out 1; have hfz16_2 := blk_frozen BK298.out 2; have hfz16_3 := blk_frozen BK298.out 3; have hcz17_0 : w14.cell? ⟨gb299, 0, none⟩ = some (.slice A1_0 l1_0.length c1_0) := (blk_cell BK299.out 0).trans rfl; have hcz17_1 : w14.cell? ⟨gb299, 1, none⟩ = some (.slice A1_1 l1_1.length c1_1) := (blk_cell BK299.out 1).trans rfl; have hcz17_2 : w14.cell? ⟨gb299, 2, none⟩ = some (.int .i64 a1_2) := (blk_cell BK299.out 2).trans rfl; have hcz17_3 : w14.cell? ⟨gb299, 3, none⟩ = some (.bool a1_3) := (blk_cell BK299.out 3).trans rfl; have hfz17_0 := blk_frozen BK299.out 0; have hfz17_1 := blk_frozen BK299.out 1; have hfz17_2 := blk_frozen BK299.out 2; have hfz17_3 := blk_frozen BK299.out 3) | ((with_reducible refine gate_callee (f := 41) rfl ?_); refine goesL_ (some 9) rfl rfl Try.func41 (by kernel_rfl) rfl #[.slice A0_0 l0_0.length c0_0, .slice A1_0 l1_0.length c1_0] rfl (by (try simp only [List.map_toArray, List.map_cons, List.map_nil]); first | done | rfl | (simp only [List.length_drop, List.length_take]; rfl)) ?_; (with_reducible refine (slices_Equal_string_string.calls k _ _ l0_0 _ _ l1_0 true _ ?side1 ?side2 ?side3 ?side4 A3.out).mono ?_); (case side1 => repeat (first | exact (Kd.C_below HR0_0.out HB.out) | (with_reducible refine Kd.C_alloc ?_ _) | (with_reducible refine Kd.C_drewN ?_ _) | (with_reducible refine Kd.C_drew ?_))); (case side2 => exact HC0_0.out); (case side3 => repeat (first | exact (Kd.C_below HR1_0.out HB.out) | (with_reducible refine Kd.C_alloc ?_ _) | (with_reducible refine Kd.C_drewN ?_ _) | (with_reducible refine Kd.C_drew ?_))); (case side4 => exact HC1_0.out); rintro e w' ⟨rfl, ⟨nd, rfl⟩⟩; refine ⟨_, rfl, ?_⟩) | (go_at_call 42; (with_reducible refine (api_Wr_42.calls k _ _ l0_1 _ _ l1_1 true _ ?side1 ?side2 ?side3 ?side4 A5.out).mono ?_); (case side1 => repeat (first | exact (Kd.C_below HR0_1.out (by repeat (first | (with_reducible first | exact HB.out | apply below_alloc | apply pw_below_drewN | apply below_drew1 | refine below_set ?_ GE298.out | refine below_set ?_ GE299.out) | exact HB.out))) | (with_reducible refine Kd.C_alloc ?_ _) | (with_reducible refine Kd.C_drewN ?_ _) | (with_reducible refine Kd.C_drew ?_))); (case side2 => exact HC0_1.out); (case side3 => repeat (first | exact (Kd.C_below HR1_1.out (by repeat (first | (with_reducible first | exact HB.out | apply below_alloc | apply pw_below_drewN | apply below_drew1 | refine below_set ?_ GE298.out | refine below_set ?_ GE299.out) | exact HB.out))) | (with_reducible refine Kd.C_alloc ?_ _) | (with_reducible refine Kd.C_drewN ?_ _) | (with_reducible refine Kd.C_drew ?_))); (case side4 => exact HC1_1.out); rintro e w' ⟨rfl, ⟨nd, rfl⟩⟩))
        go_ret
        exact ⟨by first | rfl | (simp [errW_none, errW_some] <;> rfl) | (simp [*, errW_none, errW_some] <;> rfl), by repeat (first | (with_reducible first | exact HB.out | apply below_alloc | apply pw_below_drewN | apply below_drew1 | refine below_set ?_ GE298.out | refine below_set ?_ GE299.out) | exact HB.out)⟩
    · replace c6 := Bool.eq_false_iff.mpr c6
      subst c6
      have H1 : (some false) = some r := by rw [if_neg (show ¬ (false = true) by decide)] at H; exact H
      clear H
      have H := H1
      clear H1
      obtain rfl := Option.some.inj H
      go_enter Try.func19, Try.ntmps19
      go_wp2_with (first | ((with_reducible refine gate_dst (N := 2) rfl ?_); refine box_event ?hg (N := 2) ?hd (cs := #[.slice A0_0 l0_0.length c0_0, .slice A0_1 l0_1.length c0_1, .int .i64 a0_2, .bool a0_3]) (t := 25) ?hr ?_; (case hd => rfl); (case hg => rfl); (case hr => first | (go_simp; done) | (go_simp; rfl)); intro gb298 hg w18 hbox hb; have n0_ := Aside0.mk (below_step (by repeat (first | (with_reducible first | exact HB.out | apply below_alloc | apply pw_below_drewN | apply below_drew1) | exact HB.out)) hb); have n1_ := Aside0.mk (hbox); have n2_ := Aside0.mk ((by rw [hg]; exact (below_size (by repeat (first | (with_reducible first | exact HB.out | apply below_alloc | apply pw_below_drewN | apply below_drew1) | exact HB.out))) : w.heap.size ≤ gb298)); have n3_ := Aside0.mk ((by rw [hg]; exact (below_size (by repeat (first | (with_reducible first | exact HB.out | apply below_alloc | apply pw_below_drewN | apply below_drew1) | exact HB.out))) : w.heap.size ≤ gb298)); clear HB; have HB := n0_; have BK298 := n1_; have GW298 := n2_; have GE298 := n3_; clear n0_ n1_ n2_ n3_; clear hb hbox hg) | ((with_reducible refine gate_dst (N := 3) rfl ?_); refine box_event ?hg (N := 3) ?hd (cs := #[.slice A1_0 l1_0.length c1_0, .slice A1_1 l1_1.length c1_1, .int .i64 a1_2, .bool a1_3]) (t := 25) ?hr ?_; (case hd => rfl); (case hg => rfl); (case hr => first | (go_simp; done) | (go_simp; rfl)); intro gb299 hg w19 hbox hb; have n0_ := Aside0.mk (blk_below (g := gb298) (o := .cells #[.slice A0_0 l0_0.length c0_0, .slice A0_1 l0_1.length c0_1, .int .i64 a0_2, .bool a0_3] 25 (0, 0)) (by (with_reducible repeat (first | refine blk_drewN ?_ _ | refine blk_drew ?_ | refine blk_alloc ?_ _)); exact BK298.out) hb); have n1_ := Aside0.mk (below_step (by repeat (first | (with_reducible first | exact HB.out | apply below_alloc | apply pw_below_drewN | apply below_drew1 | refine below_set ?_ GE298.out) | exact HB.out)) hb); have n2_ := Aside0.mk (hbox); have n3_ := Aside0.mk ((by rw [hg]; exact (below_size (by repeat (first | (with_reducible first | exact HB.out | apply below_alloc | apply pw_below_drewN | apply below_drew1 | refine below_set ?_ GE298.out) | exact HB.out))) : w.heap.size ≤ gb299)); have n4_ := Aside0.mk ((by rw [hg]; exact (below_size (by repeat (first | (with_reducible first | exact HB.out | apply below_alloc | apply pw_below_drewN | apply below_drew1 | refine below_set ?_ GE298.out) | exact HB.out))) : w.heap.size ≤ gb299)); have n5_ := Aside0.mk ((by rw [hg]; exact Nat.ne_of_lt (blk_lt (g := gb298) (o := .cells #[.slice A0_0 l0_0.length c0_0, .slice A0_1 l0_1.length c0_1, .int .i64 a0_2, .bool a0_3] 25 (0, 0)) (by (with_reducible repeat (first | refine blk_drewN ?_ _ | refine blk_drew ?_ | refine blk_alloc ?_ _)); exact BK298.out)) : gb298 ≠ gb299)); have n6_ := Aside0.mk ((by rw [hg]; exact Nat.ne_of_gt (blk_lt (g := gb298) (o := .cells #[.slice A0_0 l0_0.length c0_0, .slice A0_1 l0_1.length c0_1, .int .i64 a0_2, .bool a0_3] 25 (0, 0)) (by (with_reducible repeat (first | refine blk_drewN ?_ _ | refine blk_drew ?_ | refine blk_alloc ?_ _)); exact BK298.out)) : gb299 ≠ gb298)); clear BK298; clear HB; have BK298 := n0_; have HB := n1_; have BK299 := n2_; have GW299 := n3_; have GE299 := n4_; have NB298_299 := n5_; have NB299_298 := n6_; clear n0_ n1_ n2_ n3_ n4_ n5_ n6_; clear hb hbox hg; have hnb20 := NB298_299.out; have hnc20 := NB299_298.out; have hcz21_0 : w19.cell? ⟨gb298, 0, none⟩ = some (.slice A0_0 l0_0.length c0_0) := (blk_cell BK298.out 0).trans rfl; have hcz21_1 : w19.cell? ⟨gb298, 1, none⟩ = some (.slice A0_1 l0_1.length c0_1) := (blk_cell BK298.out 1).trans rfl; have hcz21_2 : w19.cell? ⟨gb298, 2, none⟩ = some (.int .i64 a0_2) := (blk_cell BK298.out 2).trans rfl; have hcz21_3 : w19.cell? ⟨gb298, 3, none⟩ = some (.bool a0_3) := (blk_cell BK298.out 3).trans rfl; have hfz21_0 := blk_frozen BK298.out 0; have hfz21_1 := blk_frozen BK298.out 1; have hfz21_2 := blk_frozen BK298.out 2; have hfz21_3 := blk_frozen BK298.out 3; have hcz22_0 : w19.cell? ⟨gb299, 0, none⟩ = some (.slice A1_0 l1_0.length c1_0) := (blk_cell BK299.out 0).trans rfl; have hcz22_1 : w19.cell? ⟨gb299, 1, none⟩ = some (.slice A1_1 l1_1.length c1_1) := (blk_cell BK299.out 1).trans rfl; have hcz22_2 : w19.cell? ⟨gb299, 2, none⟩ = some (.int .i64 a1_2) := (blk_cell BK299.out 2).trans rfl; have hcz22_3 : w19.cell? ⟨gb299, 3, none⟩ = some (.bool a1_3) := (blk_cell BK299.out 3).trans rfl; have hfz22_0 := blk_frozen BK299.out 0; have hfz22_1 := blk_frozen BK299.out 1; have hfz22_2 := blk_frozen BK299.out 2; have hfz22_3 := blk_frozen BK299.out 3) | ((with_reducible refine gate_callee (f := 41) rfl ?_); refine goesL_ (some 9) rfl rfl Try.func41 (by kernel_rfl) rfl #[.slice A0_0 l0_0.length c0_0, .slice A1_0 l1_0.length c1_0] rfl (by (try simp only [List.map_toArray, List.map_cons, List.map_nil]); first | done | rfl | (simp only [List.length_drop, List.length_take]; rfl)) ?_; (with_reducible refine (slices_Equal_string_string.calls k _ _ l0_0 _ _ l1_0 true _ ?side1 ?side2 ?side3 ?side4 A3.out).mono ?_); (case side1 => repeat (first | exact (Kd.C_below HR0_0.out HB.out) | (with_reducible refine Kd.C_alloc ?_ _) | (with_reducible refine Kd.C_drewN ?_ _) | (with_reducible refine Kd.C_drew ?_))); (case side2 => exact HC0_0.out); (case side3 => repeat (first | exact (Kd.C_below HR1_0.out HB.out) | (with_reducible refine Kd.C_alloc ?_ _) | (with_reducible refine Kd.C_drewN ?_ _) | (with_reducible refine Kd.C_drew ?_))); (case side4 => exact HC1_0.out); rintro e w' ⟨rfl, ⟨nd, rfl⟩⟩; refine ⟨_, rfl, ?_⟩) | (go_at_call 42; (with_reducible refine (api_Wr_42.calls k _ _ l0_1 _ _ l1_1 false _ ?side1 ?side2 ?side3 ?side4 A5.out).mono ?_); (case side1 => repeat (first | exact (Kd.C_below HR0_1.out (by repeat (first | (with_reducible first | exact HB.out | apply below_alloc | apply pw_below_drewN | apply below_drew1 | refine below_set ?_ GE298.out | refine below_set ?_ GE299.out) | exact HB.out))) | (with_reducible refine Kd.C_alloc ?_ _) | (with_reducible refine Kd.C_drewN ?_ _) | (with_reducible refine Kd.C_drew ?_))); (case side2 => exact HC0_1.out); (case side3 => repeat (first | exact (Kd.C_below HR1_1.out (by repeat (first | (with_reducible first | exact HB.out | apply below_alloc | apply pw_below_drewN | apply below_drew1 | refine below_set ?_ GE298.out | refine below_set ?_ GE299.out) | exact HB.out))) | (with_reducible refine Kd.C_alloc ?_ _) | (with_reducible refine Kd.C_drewN ?_ _) | (with_reducible refine Kd.C_drew ?_))); (case side4 => exact HC1_1.out); rintro e w' ⟨rfl, ⟨nd, rfl⟩⟩))
      go_ret
      exact ⟨by first | rfl | (simp [errW_none, errW_some] <;> rfl) | (simp [*, errW_none, errW_some] <;> rfl), by repeat (first | (with_reducible first | exact HB.out | apply below_alloc | apply pw_below_drewN | apply below_drew1 | refine below_set ?_ GE298.out | refine below_set ?_ GE299.out) | exact HB.out)⟩
  · replace c4 := Bool.eq_false_iff.mpr c4
    subst c4
    have H1 : (some false) = some r := by rw [if_neg (show ¬ (false = true) by decide)] at H; exact H
    clear H
    have H := H1
    clear H1
    obtain rfl := Option.some.inj H
    go_enter Try.func19, Try.ntmps19
    go_wp2_with (first | ((with_reducible refine gate_dst (N := 2) rfl ?_); refine box_event ?hg (N := 2) ?hd (cs := #[.slice A0_0 l0_0.length c0_0, .slice A0_1 l0_1.length c0_1, .int .i64 a0_2, .bool a0_3]) (t := 25) ?hr ?_; (case hd => rfl); (case hg => rfl); (case hr => first | (go_simp; done) | (go_simp; rfl)); intro gb298 hg w23 hbox hb; have n0_ := Aside0.mk (below_step (by repeat (first | (with_reducible first | exact HB.out | apply below_alloc | apply pw_below_drewN | apply below_drew1) | exact HB.out)) hb); have n1_ := Aside0.mk (hbox); have n2_ := Aside0.mk ((by rw [hg]; exact (below_size (by repeat (first | (with_reducible first | exact HB.out | apply below_alloc | apply pw_below_drewN | apply below_drew1) | exact HB.out))) : w.heap.size ≤ gb298)); have n3_ := Aside0.mk ((by rw [hg]; exact (below_size (by repeat (first | (with_reducible first | exact HB.out | apply below_alloc | apply pw_below_drewN | apply below_drew1) | exact HB.out))) : w.heap.size ≤ gb298)); clear HB; have HB := n0_; have BK298 := n1_; have GW298 := n2_; have GE298 := n3_; clear n0_ n1_ n2_ n3_; clear hb hbox hg) | ((with_reducible refine gate_dst (N := 3) rfl ?_); refine box_event ?hg (N := 3) ?hd (cs := #[.slice A1_0 l1_0.length c1_0, .slice A1_1 l1_1.length c1_1, .int .i64 a1_2, .bool a1_3]) (t := 25) ?hr ?_; (case hd => rfl); (case hg => rfl); (case hr => first | (go_simp; done) | (go_simp; rfl)); intro gb299 hg w24 hbox hb; have n0_ := Aside0.mk (blk_below (g := gb298) (o := .cells #[.slice A0_0 l0_0.length c0_0, .slice A0_1 l0_1.length c0_1, .int .i64 a0_2, .bool a0_3] 25 (0, 0)) (by (with_reducible repeat (first | refine blk_drewN ?_ _ | refine blk_drew ?_ | refine blk_alloc ?_ _)); exact BK298.out) hb); have n1_ := Aside0.mk (below_step (by repeat (first | (with_reducible first | exact HB.out | apply below_alloc | apply pw_below_drewN | apply below_drew1 | refine below_set ?_ GE298.out) | exact HB.out)) hb); have n2_ := Aside0.mk (hbox); have n3_ := Aside0.mk ((by rw [hg]; exact (below_size (by repeat (first | (with_reducible first | exact HB.out | apply below_alloc | apply pw_below_drewN | apply below_drew1 | refine below_set ?_ GE298.out) | exact HB.out))) : w.heap.size ≤ gb299)); have n4_ := Aside0.mk ((by rw [hg]; exact (below_size (by repeat (first | (with_reducible first | exact HB.out | apply below_alloc | apply pw_below_drewN | apply below_drew1 | refine below_set ?_ GE298.out) | exact HB.out))) : w.heap.size ≤ gb299)); have n5_ := Aside0.mk ((by rw [hg]; exact Nat.ne_of_lt (blk_lt (g := gb298) (o := .cells #[.slice A0_0 l0_0.length c0_0, .slice A0_1 l0_1.length c0_1, .int .i64 a0_2, .bool a0_3] 25 (0, 0)) (by (with_reducible repeat (first | refine blk_drewN ?_ _ | refine blk_drew ?_ | refine blk_alloc ?_ _)); exact BK298.out)) : gb298 ≠ gb299)); have n6_ := Aside0.mk ((by rw [hg]; exact Nat.ne_of_gt (blk_lt (g := gb298) (o := .cells #[.slice A0_0 l0_0.length c0_0, .slice A0_1 l0_1.length c0_1, .int .i64 a0_2, .bool a0_3] 25 (0, 0)) (by (with_reducible repeat (first | refine blk_drewN ?_ _ | refine blk_drew ?_ | refine blk_alloc ?_ _)); exact BK298.out)) : gb299 ≠ gb298)); clear BK298; clear HB; have BK298 := n0_; have HB := n1_; have BK299 := n2_; have GW299 := n3_; have GE299 := n4_; have NB298_299 := n5_; have NB299_298 := n6_; clear n0_ n1_ n2_ n3_ n4_ n5_ n6_; clear hb hbox hg; have hnb25 := NB298_299.out; have hnc25 := NB299_298.out; have hcz26_0 : w24.cell? ⟨gb298, 0, none⟩ = some (.slice A0_0 l0_0.length c0_0) := (blk_cell BK298.out 0).trans rfl; have hcz26_1 : w24.cell? ⟨gb298, 1, none⟩ = some (.slice A0_1 l0_1.length c0_1) := (blk_cell BK298.out 1).trans rfl; have hcz26_2 : w24.cell? ⟨gb298, 2, none⟩ = some (.int .i64 a0_2) := (blk_cell BK298.out 2).trans rfl; have hcz26_3 : w24.cell? ⟨gb298, 3, none⟩ = some (.bool a0_3) := (blk_cell BK298.out 3).trans rfl; have hfz26_0 := blk_frozen BK298.out 0; have hfz26_1 := blk_frozen BK298.out 1; have hfz26_2 := blk_frozen BK298.out 2; have hfz26_3 := blk_frozen BK298.out 3; have hcz27_0 : w24.cell? ⟨gb299, 0, none⟩ = some (.slice A1_0 l1_0.length c1_0) := (blk_cell BK299.out 0).trans rfl; have hcz27_1 : w24.cell? ⟨gb299, 1, none⟩ = some (.slice A1_1 l1_1.length c1_1) := (blk_cell BK299.out 1).trans rfl; have hcz27_2 : w24.cell? ⟨gb299, 2, none⟩ = some (.int .i64 a1_2) := (blk_cell BK299.out 2).trans rfl; have hcz27_3 : w24.cell? ⟨gb299, 3, none⟩ = some (.bool a1_3) := (blk_cell BK299.out 3).trans rfl; have hfz27_0 := blk_frozen BK299.out 0; have hfz27_1 := blk_frozen BK299.out 1; have hfz27_2 := blk_frozen BK299.out 2; have hfz27_3 := blk_frozen BK299.out 3) | ((with_reducible refine gate_callee (f := 41) rfl ?_); refine goesL_ (some 9) rfl rfl Try.func41 (by kernel_rfl) rfl #[.slice A0_0 l0_0.length c0_0, .slice A1_0 l1_0.length c1_0] rfl (by (try simp only [List.map_toArray, List.map_cons, List.map_nil]); first | done | rfl | (simp only [List.length_drop, List.length_take]; rfl)) ?_; (with_reducible refine (slices_Equal_string_string.calls k _ _ l0_0 _ _ l1_0 false _ ?side1 ?side2 ?side3 ?side4 A3.out).mono ?_); (case side1 => repeat (first | exact (Kd.C_below HR0_0.out HB.out) | (with_reducible refine Kd.C_alloc ?_ _) | (with_reducible refine Kd.C_drewN ?_ _) | (with_reducible refine Kd.C_drew ?_))); (case side2 => exact HC0_0.out); (case side3 => repeat (first | exact (Kd.C_below HR1_0.out HB.out) | (with_reducible refine Kd.C_alloc ?_ _) | (with_reducible refine Kd.C_drewN ?_ _) | (with_reducible refine Kd.C_drew ?_))); (case side4 => exact HC1_0.out); rintro e w' ⟨rfl, ⟨nd, rfl⟩⟩; refine ⟨_, rfl, ?_⟩))
    go_ret
    exact ⟨by first | rfl | (simp [errW_none, errW_some] <;> rfl) | (simp [*, errW_none, errW_some] <;> rfl), by repeat (first | (with_reducible first | exact HB.out | apply below_alloc | apply pw_below_drewN | apply below_drew1 | refine below_set ?_ GE298.out | refine below_set ?_ GE299.out) | exact HB.out)⟩

end Go.Proofs.Ytaocplhijfkicaa.PD
/- What it means that two devices are the same. -/
namespace Go.Proofs.Ytaocplhijfkicaa.PD
open Go.RowKit Go.Proofs.YtaocplhijfkicaaW.PrintWords Go.Proofs.YtaocplhijfkicaaW.PrintLast Go.Proofs.YtaocplhijfkicaaW.PrintMore
def eqS (a b : List ByteArray) : Bool := allFrom (fun j => (a.getD j ByteArray.empty).toList == (b.getD j ByteArray.empty).toList) 0 a.length
def eqW (a b : List S40) : Bool := allFrom (fun j => (a.getD j z40).f0 == (b.getD j z40).f0 && (a.getD j z40).f1.toList == (b.getD j z40).f1.toList) 0 a.length
def sameB (a : List ByteArray) (ca : List S40) (l : Int) (d : Bool) (b : List ByteArray) (cb : List S40) (m : Int) (e : Bool) : Bool := decide (a.length = b.length) && decide (ca.length = cb.length) && l == m && d == e && eqS a b && eqW ca cb
theorem wneq (x y : S40) : (!((x.f0) == (y.f0)) || !((x.f1).toList == (y.f1).toList)) = !((x.f0 == y.f0) && x.f1.toList == y.f1.toList) := by rw [Bool.not_and]
theorem rsame_l1 (a : List ByteArray) (ca : List S40) (l : Int) (d : Bool) (b : List ByteArray) (cb : List S40) (m : Int) (e : Bool) (hl : ca.length = cb.length) (hc : ca.length ≤ 9223372036854775807) (k : Nat) (hk : ca.length < k) :
    almanacref02_Same.l1 k 0 a ca l d b cb m e = some (eqW ca cb) := by
  have h := all_loop (fun k i => almanacref02_Same.l1 k i a ca l d b cb m e) ca.length (fun j => (ca.getD j z40).f0 == (cb.getD j z40).f0 && (ca.getD j z40).f1.toList == (cb.getD j z40).f1.toList) false (fun _ => some true)
    (fun k i hi hp => by
      simp only [almanacref02_Same.l1, rdW]
      rw [if_pos (by omega), if_pos (by omega), if_pos (by omega), wneq, hp, if_neg (by decide), wrapN hi hc])
    (fun k i hi hp => by
      simp only [almanacref02_Same.l1, rdW]
      rw [if_pos (by omega), if_pos (by omega), if_pos (by omega), wneq, hp, if_pos (by decide)])
    (fun k => by simp only [almanacref02_Same.l1]; rw [if_neg (by omega)])
    ca.length k 0 (by omega) hk
  rw [show ((0 : Nat) : Int) = 0 from rfl] at h
  rw [h]
  unfold eqW
  split
  · rename_i h'; rw [h']
  · rename_i h'; rw [Bool.not_eq_true] at h'; rw [h']
theorem rsame_l0 (a : List ByteArray) (ca : List S40) (l : Int) (d : Bool) (b : List ByteArray) (cb : List S40) (m : Int) (e : Bool) (ha : a.length = b.length) (hl : ca.length = cb.length) (hb : a.length ≤ 9223372036854775807) (hc : ca.length ≤ 9223372036854775807) (k : Nat) (hk : a.length + ca.length + 1 < k) :
    almanacref02_Same.l0 k 0 a ca l d b cb m e = some (eqS a b && eqW ca cb) := by
  have h := all_loop (fun k i => almanacref02_Same.l0 k i a ca l d b cb m e) a.length (fun j => (a.getD j ByteArray.empty).toList == (b.getD j ByteArray.empty).toList) false (fun k => almanacref02_Same.l1 k 0 a ca l d b cb m e)
    (fun k i hi hp => by
      simp only [almanacref02_Same.l0, rdS]
      rw [if_pos (by omega), if_pos (by omega), if_pos (by omega), if_pos (eq_of_beq hp), wrapN hi hb])
    (fun k i hi hp => by
      simp only [almanacref02_Same.l0, rdS]
      rw [if_pos (by omega), if_pos (by omega), if_pos (by omega), if_neg (by simpa using hp)])
    (fun k => by simp only [almanacref02_Same.l0]; rw [if_neg (by omega)])
    a.length k 0 (by omega) (by omega)
  rw [show ((0 : Nat) : Int) = 0 from rfl] at h
  rw [h]
  unfold eqS
  split
  · rename_i h'; rw [h', rsame_l1 a ca l d b cb m e hl hc _ (by omega)]; rfl
  · rename_i h'; rw [Bool.not_eq_true] at h'; rw [h']; rfl
theorem rsame_f (a : List ByteArray) (ca : List S40) (l : Int) (d : Bool) (b : List ByteArray) (cb : List S40) (m : Int) (e : Bool) (hb : a.length ≤ 9223372036854775807) (hc : ca.length ≤ 9223372036854775807) (k : Nat) (hk : a.length + ca.length + 2 < k) :
    almanacref02_Same.f k a ca l d b cb m e = some (sameB a ca l d b cb m e) := by
  obtain ⟨k, rfl⟩ : ∃ m, k = m + 1 := ⟨k - 1, by omega⟩
  unfold almanacref02_Same.f sameB
  simp only [almanacref02_Same.j0, if_true]
  by_cases h1 : a.length = b.length
  · rw [if_pos (by omega)]
    by_cases h2 : ca.length = cb.length
    · rw [if_pos (by omega), rsame_l0 a ca l d b cb m e h1 h2 hb hc k (by omega)]
      by_cases h3 : l = m
      · rw [if_pos h3]
        subst h3
        cases d <;> cases e <;> simp [h1, h2]
      · rw [if_neg h3]; simp [h3]
    · rw [if_neg (by omega)]; simp [h2]
  · rw [if_neg (by omega)]; simp [h1]
theorem deqS (a b : List ByteArray) (hb : a.length ≤ 9223372036854775807) (k : Nat) (hk : a.length < k) : slices_Equal_string_string.f k a b = some (decide (a.length = b.length) && eqS a b) := by
  unfold slices_Equal_string_string.f
  by_cases h1 : a.length = b.length
  · rw [if_pos (by omega)]
    have h := all_loop (fun k i => slices_Equal_string_string.l0 k a b a.length i) a.length (fun j => (a.getD j ByteArray.empty).toList == (b.getD j ByteArray.empty).toList) false (fun k => some true)
      (fun k i hi hp => by
        simp only [slices_Equal_string_string.l0, rdS]
        rw [if_pos (by omega), if_pos (by omega), if_pos (by omega), if_pos (by omega), if_pos (eq_of_beq hp), wrapN hi hb])
      (fun k i hi hp => by
        simp only [slices_Equal_string_string.l0, rdS]
        rw [if_pos (by omega), if_pos (by omega), if_pos (by omega), if_pos (by omega), if_neg (by simpa using hp)])
      (fun k => by simp only [slices_Equal_string_string.l0]; rw [if_neg (by omega)])
      a.length k 0 (by omega) (by omega)
    rw [show ((0 : Nat) : Int) = 0 from rfl] at h
    rw [h]
    unfold eqS
    split
    · rename_i h'; rw [h']; simp [h1]
    · rename_i h'; rw [Bool.not_eq_true] at h'; rw [h']; simp
  · rw [if_neg (by omega)]; simp [h1]
theorem deqW (a b : List S40) (hb : a.length ≤ 9223372036854775807) (k : Nat) (hk : a.length < k) : api_Wr_42.f k a b = some (decide (a.length = b.length) && eqW a b) := by
  unfold api_Wr_42.f
  by_cases h1 : a.length = b.length
  · rw [if_pos (by omega)]
    have h := all_loop (fun k i => api_Wr_42.l0 k a b a.length i) a.length (fun j => (a.getD j z40).f0 == (b.getD j z40).f0 && (a.getD j z40).f1.toList == (b.getD j z40).f1.toList) false (fun k => some true)
      (fun k i hi hp => by
        simp only [api_Wr_42.l0, rdW]
        rw [if_pos (by omega), if_pos (by omega), if_pos (by omega), if_pos (by omega), wneq, hp, if_neg (by decide), wrapN hi hb])
      (fun k i hi hp => by
        simp only [api_Wr_42.l0, rdW]
        rw [if_pos (by omega), if_pos (by omega), if_pos (by omega), if_pos (by omega), wneq, hp, if_pos (by decide)])
      (fun k => by simp only [api_Wr_42.l0]; rw [if_neg (by omega)])
      a.length k 0 (by omega) (by omega)
    rw [show ((0 : Nat) : Int) = 0 from rfl] at h
    rw [h]
    unfold eqW
    split
    · rename_i h'; rw [h']; simp [h1]
    · rename_i h'; rw [Bool.not_eq_true] at h'; rw [h']; simp
  · rw [if_neg (by omega)]; simp [h1]
theorem dsame_f (a : List ByteArray) (ca : List S40) (l : Int) (d : Bool) (b : List ByteArray) (cb : List S40) (m : Int) (e : Bool) (hb : a.length ≤ 9223372036854775807) (hc : ca.length ≤ 9223372036854775807) (k : Nat) (hk : a.length + ca.length + 2 < k) :
    dev_Same.f k a ca l d b cb m e = some (sameB a ca l d b cb m e) := by
  unfold dev_Same.f sameB
  rw [deqS a b hb k (by omega), deqW ca cb hc k (by omega)]
  generalize eqS a b = A
  generalize eqW ca cb = B
  simp only [Option.bind_some]
  by_cases h1 : a.length = b.length <;> by_cases h2 : ca.length = cb.length <;> by_cases h3 : l = m <;> cases A <;> cases B <;> cases d <;> cases e <;> simp [h1, h2, h3]
theorem same_self (a : List ByteArray) (ca : List S40) (l : Int) (d : Bool) : sameB a ca l d a ca l d = true := by
  unfold sameB eqS eqW
  rw [allFrom_congr (q := fun _ => true) _ _ (fun j _ _ => by simp), allFrom_congr (q := fun _ => true) ca.length _ (fun j _ _ => by simp), allFrom_true, allFrom_true]
  simp
end Go.Proofs.Ytaocplhijfkicaa.PD
/- The law DevFlushes, in plain words: a flush, and a crash that keeps all, leave what a read told before. -/
namespace Go.Proofs.Ytaocplhijfkicaa.PD
open Go.RowKit Go.Proofs.YtaocplhijfkicaaW.PrintWords Go.Proofs.YtaocplhijfkicaaW.PrintLast Go.Proofs.YtaocplhijfkicaaW.PrintMore
theorem arm_some (a : List ByteArray) (ca : List S40) (l : Int) (d : Bool) (x : Int) (h0 : a.length < 8796093022208) (h1 : ca.length < 5864062014805) : ∃ r, dev_Arm.f a ca l d x = some r := by
  unfold dev_Arm.f
  rw [owned_f a ca l d h0 h1]
  simp only [Option.bind_some]
  split <;> exact ⟨_, rfl⟩
theorem write_some (k : Nat) (a : List ByteArray) (ca : List S40) (l : Int) (d : Bool) (x : Int) (b : ByteArray) (h0 : a.length < 8796093022208) (h1 : ca.length < 5864062014805) (hlo : -1 ≤ l) (hhi : l ≤ 9223372036854775807) : ∃ r, dev_Write.f (k + 1) a ca l d x b = some r := by
  have hj : ∀ t, ∃ r, dev_Write.j0 (k + 1) x b t a ca l d = some r := fun t => by
    simp only [dev_Write.j0]
    rw [owned_f a ca l d h0 h1, spend_f a ca l d h0 h1 hlo hhi]
    simp only [Option.bind_some]
    split
    · exact ⟨_, rfl⟩
    · split
      · exact ⟨_, rfl⟩
      · by_cases hz : l = 0
        · rw [if_pos hz]
          simp
        · rw [if_neg hz]
          simp only [Option.bind_some, if_true]
          rw [if_pos h1]
          exact ⟨_, rfl⟩
  unfold dev_Write.f
  rw [owned_f a ca l d h0 h1]
  split
  · exact ⟨_, rfl⟩
  · unfold dev_place.f dev_whole.f
    simp only [Option.bind_some]
    split
    · simp only [Option.bind_some]
      split
      · exact hj _
      · exact hj _
    · simp only [Option.bind_some, Bool.false_eq_true, if_false]
      exact hj _
theorem flush_l1 (a : List ByteArray) (ca : List S40) (l : Int) (F C : List ByteArray) (fl : Int) (fd : Bool) (cc : List S40) (cl : Int) (cd : Bool) (hF : F.length = a.length) (hC : C.length = a.length) (hb : a.length ≤ 9223372036854775807)
    (hf : ∀ j, j < a.length → F.getD j ByteArray.empty = latestOf a ca (j : Int)) (hc : ∀ j, j < a.length → C.getD j ByteArray.empty = latestOf a ca (j : Int)) : ∀ (d k i : Nat), i + d = a.length → d + 11 ≤ k →
    almanaclaw02_DevFlushes.l1 k (a.length : Int) (i : Nat) a ca l false F [] fl fd C cc cl cd = some true
  | 0, k, i, hi, hk => by
    obtain ⟨k, rfl⟩ : ∃ m, k = m + 1 := ⟨k - 1, by omega⟩
    simp only [almanaclaw02_DevFlushes.l1]
    rw [if_neg (by omega), if_pos (by simp), awake_any k (by omega)]
    rfl
  | d + 1, k, i, hi, hk => by
    obtain ⟨k, rfl⟩ : ∃ m, k = m + 1 := ⟨k - 1, by omega⟩
    simp only [almanaclaw02_DevFlushes.l1, rdS]
    have hr : dev_Read.f a ca l false (i : Int) = some (latestOf a ca (i : Int), 0) := by
      unfold dev_Read.f
      rw [if_neg (by decide), if_pos (by omega)]
    rw [if_pos (by omega), hr]
    simp only [Option.bind_some, if_true]
    rw [if_pos (by omega), if_pos (by omega), if_pos (by omega), hf i (by omega), if_pos rfl, if_pos (by omega), if_pos (by omega), hc i (by omega), if_pos rfl, wrapN (show i < a.length by omega) hb]
    exact flush_l1 a ca l F C fl fd cc cl cd hF hC hb hf hc d k (i + 1) (by omega) (by omega)
theorem flush_l0 (x5 : Int) (n : Nat) (hn : n ≤ 9223372036854775807) (a : List ByteArray) (ca : List S40) (l : Int) (e : Bool) (a' : List ByteArray) (ca' : List S40) (l' : Int) (e' : Bool) (F : List ByteArray) (cf : List S40) (fl : Int) (fd : Bool) : ∀ (d k i : Nat) (keep : List Bool), i + d = n → keep.length = n → (∀ j, j < i → kept keep j = true) → d < k →
    ∃ keep', keep'.length = n ∧ (∀ j, j < n → kept keep' j = true) ∧ almanaclaw02_DevFlushes.l0 k x5 keep (n : Int) (i : Nat) a ca l e a' ca' l' e' F cf fl fd = almanaclaw02_DevFlushes.l0 (k - d) x5 keep' (n : Int) (n : Int) a ca l e a' ca' l' e' F cf fl fd
  | 0, k, i, keep, hi, hl, hk, hlt => by
    obtain rfl : i = n := by omega
    exact ⟨keep, hl, hk, rfl⟩
  | d + 1, k, i, keep, hi, hl, hk, hlt => by
    obtain ⟨k, rfl⟩ : ∃ m, k = m + 1 := ⟨k - 1, by omega⟩
    obtain ⟨keep', h1, h2, h3⟩ := flush_l0 x5 n hn a ca l e a' ca' l' e' F cf fl fd d k (i + 1) (keep.set i true) (by omega) (by simpa using hl) (fun j hj => by
      unfold kept
      rw [List.getD_eq_getElem?_getD]
      by_cases hji : i = j
      · subst hji; rw [List.getElem?_set_self (by omega)]; rfl
      · rw [List.getElem?_set_ne hji, ← List.getD_eq_getElem?_getD]; exact hk j (by omega)) (by omega)
    refine ⟨keep', h1, h2, ?_⟩
    rw [show k + 1 - (d + 1) = k - d by omega, ← h3]
    conv => lhs; simp only [almanaclaw02_DevFlushes.l0]
    rw [if_pos (by omega), if_pos (by omega), if_pos (by omega), wrapN (show i < n by omega) hn, Int.toNat_natCast]
theorem devFlushes_pure (a : List ByteArray) (ca : List S40) (l : Int) (d : Bool) (ha : a.length < 8796093022208) (hca : ca.length < 5864062014805) (hl : l ≤ 9223372036854775807) :
    ∃ k, almanaclaw02_DevFlushes.f k a ca l d = some true := by
  refine ⟨2 * a.length + 2 * ca.length + 20, ?_⟩
  unfold almanaclaw02_DevFlushes.f
  rw [rfit_f a ca (by omega) (by omega) l d _ (by omega)]
  simp only [Option.bind_some]
  cases hf : fitB a ca l d with
  | false => rw [if_neg (by decide), awake_any _ (by omega)]; rfl
  | true =>
    rw [if_pos rfl, copy_f a ca l d ha hca]
    simp only [Option.bind_some]
    obtain ⟨h1, h2, h3, h4, h5, h6⟩ := fitB_iff hf
    have hdead := fitB_dead hf
    have hw : ∀ p : Nat → Bool, fitW p a.length 0 ca = true := fun p => fitW_of p _ _ _ (fun w hw => (h6 w hw).1)
    obtain ⟨r1, hr1⟩ := arm_some a ca l d 0 ha hca
    have hsame := rsame_f a ca l d a ca l d (by omega) (by omega)
    have fin : ∀ (x5 : Int) (F : List ByteArray) (cf : List S40) (fl : Int) (fd : Bool), (x5 ≠ 0 → (d = true ∨ l = 0)) → (x5 = 0 → d = false ∧ cf = [] ∧ F = doneL (fun _ => true) 0 a ca) →
        almanaclaw02_DevFlushes.l0 (2 * a.length + 2 * ca.length + 20) x5 (List.replicate ca.length false) ((List.replicate ca.length false).length : Int) 0 a ca l d a ca l d F cf fl fd = some true := by
      intro x5 F cf fl fd hne heq
      rw [List.length_replicate]
      obtain ⟨keep', hk1, hk2, hk3⟩ := flush_l0 x5 ca.length (by omega) a ca l d a ca l d F cf fl fd ca.length (2 * a.length + 2 * ca.length + 20) 0 (List.replicate ca.length false) (by omega) (by simp) (fun j hj => by omega) (by omega)
      rw [show ((0 : Nat) : Int) = 0 from rfl] at hk3
      rw [hk3]
      obtain ⟨k, hk⟩ : ∃ k, 2 * a.length + 2 * ca.length + 20 - ca.length = k + 1 := ⟨2 * a.length + ca.length + 19, by omega⟩
      obtain ⟨r2, hr2⟩ := write_some (k - 1) a ca l d 0 (rdOf ByteArray.empty a 0) ha hca h4 hl
      rw [show k - 1 + 1 = k by omega] at hr2
      rw [hk]
      simp only [almanaclaw02_DevFlushes.l0]
      rw [if_neg (by omega), hr1, hr2]
      unfold dev_Crash.f
      rw [if_pos ⟨ha, hca, hw _⟩]
      simp only [Option.bind_some]
      rw [if_pos (by omega), hsame k (by omega), same_self]
      simp only [Option.bind_some, if_true]
      by_cases hx : x5 = 0
      · rw [if_pos hx]
        obtain ⟨hd, rfl, hF⟩ := heq hx
        subst hd
        have h0 : ∀ w ∈ ca, 0 ≤ w.f0 := fun w hw => (h6 w hw).1.1
        have := flush_l1 a ca l F (doneL (kept keep') 0 a ca) fl fd [] (-1) false (by rw [hF]; exact doneL_len _ _ _ _) (doneL_len _ _ _ _) (by omega)
          (fun j hj => by rw [hF, doneL_latest _ j ca 0 a hj (fun _ _ _ => rfl) h0, latest_nat])
          (fun j hj => by rw [doneL_latest _ j ca 0 a hj (fun i _ hi => hk2 i (by omega)) h0, latest_nat]) a.length k 0 (by omega) (by omega)
        rw [show ((0 : Nat) : Int) = 0 from rfl] at this
        exact this
      · rw [if_neg hx]
        rcases hne hx with hd | hz
        · rw [if_pos hd, awake_any k (by omega)]; rfl
        · by_cases hd : d = true
          · rw [if_pos hd, awake_any k (by omega)]; rfl
          · rw [if_neg hd, if_pos hz, awake_any k (by omega)]; rfl
    unfold dev_Flush.f
    rw [if_pos ⟨ha, hca, hw _, h4, hl⟩]
    have g1 : 0 ≤ (ca.length : Int) := by omega
    have g2 : (ca.length : Int).toNat ≤ 281474976710656 := by rw [Int.toNat_natCast]; omega
    by_cases hd : d = true
    · rw [if_pos hd]
      simp only [Option.bind_some]
      rw [if_pos g1, if_pos g2, Int.toNat_natCast]
      exact fin 17 a ca l d (fun _ => .inl hd) (fun h => by cases h)
    · rw [if_neg hd]
      by_cases hz : l = 0
      · rw [if_pos hz]
        simp only [Option.bind_some]
        rw [if_pos g1, if_pos g2, Int.toNat_natCast]
        exact fin 16 a ca l true (fun _ => .inr hz) (fun h => by cases h)
      · rw [if_neg hz]
        simp only [Option.bind_some]
        rw [if_pos g1, if_pos g2, Int.toNat_natCast]
        exact fin 0 _ [] _ d (fun h => absurd rfl h) (fun _ => ⟨by simpa using hd, rfl, rfl⟩)
end Go.Proofs.Ytaocplhijfkicaa.PD
namespace Go.Proofs.Ytaocplhijfkicaa.PD
open Go.ChangeShapes Go.WideShapes Go.ChangeAt Go.RowKit Go.Proofs.YtaocplhijfkicaaW.PrintWords
set_option linter.unusedVariables false
namespace DevFlushesRow
open _root_.Go.Proofs.Ytaocplhijfkicaa.Rows
set_option maxRecDepth 100000 in
theorem lifted (os : Os) (started : os.Started) (H : Type) (enc : TypeId × Value → H) :
    ReturnsInHanded {} Try.checked os 3 .any (devFlushesSpec.pre6 enc Try.prog Try.f3 devFlushesRow.domain false) (devFlushesSpec.post enc Try.prog Try.f3 false true false false) := by
  refine returnsInHanded_of_change_sized (C := Try.checked) own started (by kernel_rfl) Try.func3
    (ChangeSpec.witness6 (enc := enc) (C := Try.checked) false ⟨#[], #[.agg #[.slice none 0 0, .slice none 0 0, .int .i64 0, .bool false]], []⟩ 8 (by kernel_rfl) (by kernel_rfl) (by kernel_rfl) (by kernel_rfl)) ?_
  intro W base args ds gs before hval0 hW hcnd hsz0 _
  have hsz : (DataW.weightsEach Try.prog (Try.f3.params.toList ++ devFlushesSpec.plain.varTypes Try.prog) (ds ++ gs)).all (· ≤ reachBytes) = true := hsz0
  have hval : ∀ (j : Nat) t v, Try.f3.params[j]? = some t → args[j]? = some v → Value.okWide Try.prog W .any base t v := hval0
  have hW' := hW
  obtain ⟨p, q, hA0, hV, rfl, hfz, hnd⟩ := hW
  have hA : DataW.TrodAll enc Try.prog W 0 (fun _ => true) true Try.f3.params.toList args.toList ds p := hA0
  rw [Try.params3] at hA hval hsz
  obtain ⟨v0, vs0, d0, ds0, p0, q0, hargs, rfl, rfl, h0, r0⟩ := trodAll_cons hA
  obtain ⟨rfl, rfl, rfl⟩ := trodAll_nil r0
  obtain rfl : args = #[v0] := by cases args; simp_all
  obtain ⟨rfl, rfl⟩ := trodVars_none hV
  obtain ⟨A0, c0, b0, A0', c0', ca0, l0, e0, rfl, x0, y0, x0', y0', m0, m0', hl0, _⟩ := open_dev (hval 0 25 v0 rfl rfl) h0 (weighs hsz (j := 0) rfl rfl)
  have k0 := h0
  have lt0 : ∀ x ∈ p0, x.block < W.heap.size := by obtain ⟨m, hm⟩ := k0; exact DataW.trod_lt m _ _ _ hm
  clear hA0 hval0 hsz0 hsz
  have hle : l0 ≤ 9223372036854775807 := by have := hl0; simp [Lit.wf, IntKind.min, IntKind.max, IntKind.signed, IntKind.bits] at this; omega
  obtain ⟨k, hk⟩ := devFlushes_pure b0 ca0 l0 e0 m0 m0' hle
  refine (almanaclaw02_DevFlushes.callsT k A0 c0 b0 A0' c0' ca0 l0 e0 true W x0 y0 x0' y0' hk rfl).mono fun e W' ⟨he, bel⟩ => ?_
  subst he
  exact ⟨_, rfl, _, _, _, [], _, [], hW', trodAll_mk1 (shut_bool Try.underlying4 _), (trodAll_cons_mk (Below.trod laidOut (by kernel_rfl) (of_decide_eq_true (by kernel_rfl)) k0 bel lt0) trodAll_mk0), rfl, bel.frame _, fun h => by cases h⟩
theorem over : devFlushesRow.holds Try.pinned (OpenSpec.ofChange devFlushesSpec) :=
  OpenClaim.holds_of_wide 3 Try.f3 rfl rfl rfl rfl rfl rfl rfl ⟨rfl, rfl, rfl, rfl, rfl⟩ rfl rfl rfl rfl rfl (by kernel_rfl) Try.func3 (by kernel_rfl)
    (of_decide_eq_true (by kernel_rfl)) (by unfold Func.isWrapper; first | (rw [if_pos (by decide +kernel)]; kernel_rfl) | (rw [if_neg (by decide +kernel)]; exact ⟨rfl, rfl⟩))
    (fun os started H enc _ => lifted os started H enc)
end DevFlushesRow
theorem devFlushes_holds : Rows.DevFlushesSaid := DevFlushesRow.over
end Go.Proofs.Ytaocplhijfkicaa.PD
