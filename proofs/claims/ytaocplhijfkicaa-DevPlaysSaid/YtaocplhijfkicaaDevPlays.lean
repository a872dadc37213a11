/- The law DevPlays holds of every number of blocks and every row of calls: whatever the input, the call returns true, and its arguments read as they did. -/
import Derived.Test.YtaocplhijfkicaaDevPlays3
import Derived.Test.YtaocplhijfkicaaSase
import Derived.Test.YtaocplhijfkicaaDevPlays1
import Derived.Test.YtaocplhijfkicaaDevPlays2
/- The document's device and the program's, call by call, in plain words: at a fit device both answer the same. -/
namespace Go.Proofs.Ytaocplhijfkicaa.PD
open Go.RowKit Go.Proofs.YtaocplhijfkicaaW.PrintWords Go.Proofs.YtaocplhijfkicaaW.PrintLast Go.Proofs.YtaocplhijfkicaaW.PrintMore
theorem rspend_f (a : List ByteArray) (ca : List S40) (l : Int) (d : Bool) (h0 : a.length < 8796093022208) (h1 : ca.length < 5864062014805) (hlo : -1 ≤ l) (hhi : l ≤ 9223372036854775807) :
    almanacref02_spend.f a ca l d = if l = 0 then some (a, ca, l, true, false) else some (a, ca, (if l > 0 then l - 1 else l), d, true) := by
  unfold almanacref02_spend.f
  rw [copy_f a ca l d h0 h1]
  simp only [Option.bind_some]
  by_cases h : l = 0
  · rw [if_pos h, if_pos h]
  · rw [if_neg h, if_neg h]
    by_cases hp : l > 0
    · rw [if_pos hp, if_pos hp, show wrap64 (l - 1) = l - 1 from by unfold wrap64; omega]
    · rw [if_neg hp, if_neg hp]
/-- What a write does. -/
def wrote (a : List ByteArray) (ca : List S40) (l : Int) (d : Bool) (x : Int) (b : ByteArray) : List ByteArray × List S40 × Int × Bool × Int :=
  if d = true then (a, ca, l, d, 17) else if ¬ (0 ≤ x ∧ x < a.length ∧ b.size = 128) then (a, ca, l, d, 15) else if ca.length ≥ 4096 then (a, ca, l, d, 18) else if l = 0 then (a, ca, l, true, 16) else (a, ca ++ [⟨x, b⟩], (if l > 0 then l - 1 else l), d, 0)
theorem dwrite_j (k : Nat) (a : List ByteArray) (ca : List S40) (l : Int) (x : Int) (b : ByteArray) (t : Bool) (h0 : a.length < 8796093022208) (h1 : ca.length < 5864062014805) (hlo : -1 ≤ l) (hhi : l ≤ 9223372036854775807) :
    dev_Write.j0 (k + 1) x b t a ca l false = some (if t = true then (a, ca, l, false, 15) else if ca.length ≥ 4096 then (a, ca, l, false, 18) else if l = 0 then (a, ca, l, true, 16) else (a, ca ++ [⟨x, b⟩], (if l > 0 then l - 1 else l), false, 0)) := by
  simp only [dev_Write.j0]
  rw [owned_f a ca l false h0 h1, spend_f a ca l false h0 h1 hlo hhi]
  simp only [Option.bind_some]
  cases t with
  | true => simp
  | false =>
    simp only [Bool.false_eq_true, if_false]
    by_cases hc : ca.length ≥ 4096
    · rw [if_pos (by omega), if_pos hc]
    · rw [if_neg (by omega), if_neg hc]
      by_cases hz : l = 0
      · rw [if_pos hz, if_pos hz]
        simp
      · rw [if_neg hz, if_neg hz]
        simp only [Option.bind_some, if_true]
        rw [if_pos h1]
theorem rwrite_j (k : Nat) (a : List ByteArray) (ca : List S40) (l : Int) (x : Int) (b : ByteArray) (t : Bool) (h0 : a.length < 8796093022208) (h1 : ca.length < 5864062014805) (hlo : -1 ≤ l) (hhi : l ≤ 9223372036854775807) :
    almanacref02_Write.j0 (k + 1) x b t a ca l false = some (if t = true then (a, ca, l, false, 15) else if ca.length ≥ 4096 then (a, ca, l, false, 18) else if l = 0 then (a, ca, l, true, 16) else (a, ca ++ [⟨x, b⟩], (if l > 0 then l - 1 else l), false, 0)) := by
  simp only [almanacref02_Write.j0]
  rw [copy_f a ca l false h0 h1, rspend_f a ca l false h0 h1 hlo hhi]
  simp only [Option.bind_some]
  cases t with
  | true => simp
  | false =>
    simp only [Bool.false_eq_true, if_false]
    by_cases hc : ca.length ≥ 4096
    · rw [if_pos (by omega), if_pos hc]
    · rw [if_neg (by omega), if_neg hc]
      by_cases hz : l = 0
      · rw [if_pos hz, if_pos hz]
        simp
      · rw [if_neg hz, if_neg hz]
        simp only [Option.bind_some, if_true]
        rw [if_pos h1]
theorem dwrite_f (k : Nat) (a : List ByteArray) (ca : List S40) (l : Int) (d : Bool) (x : Int) (b : ByteArray) (h0 : a.length < 8796093022208) (h1 : ca.length < 5864062014805) (hlo : -1 ≤ l) (hhi : l ≤ 9223372036854775807) :
    dev_Write.f (k + 1) a ca l d x b = some (wrote a ca l d x b) := by
  unfold dev_Write.f wrote
  cases d with
  | true => rw [if_pos rfl, if_pos rfl, owned_f a ca l true h0 h1]; rfl
  | false =>
    rw [if_neg (by decide), if_neg (by decide)]
    unfold dev_place.f dev_whole.f
    simp only [Option.bind_some, dwrite_j k a ca l x b _ h0 h1 hlo hhi]
    by_cases hx : 0 ≤ x
    · rw [if_pos hx]
      simp only [Option.bind_some]
      by_cases hx2 : x < a.length
      · rw [if_pos (decide_eq_true hx2)]
        by_cases hb : b.size = 128
        · have e : ((b.size : Int) == 128) = true := by rw [hb]; rfl
          rw [e]
          simp [hx, hx2, hb]
        · have e : ((b.size : Int) == 128) = false := by rw [beq_eq_false_iff_ne]; omega
          rw [e]
          simp [hb]
      · rw [if_neg (by simpa using hx2)]
        simp [hx2]
    · rw [if_neg hx]
      simp [hx]
theorem rwrite_f (k : Nat) (a : List ByteArray) (ca : List S40) (l : Int) (d : Bool) (x : Int) (b : ByteArray) (h0 : a.length < 8796093022208) (h1 : ca.length < 5864062014805) (hlo : -1 ≤ l) (hhi : l ≤ 9223372036854775807) :
    almanacref02_Write.f (k + 1) a ca l d x b = some (wrote a ca l d x b) := by
  unfold almanacref02_Write.f wrote
  cases d with
  | true => rw [if_pos rfl, if_pos rfl, copy_f a ca l true h0 h1]; rfl
  | false =>
    simp only [Bool.false_eq_true, if_false, rwrite_j k a ca l x b _ h0 h1 hlo hhi]
    by_cases hx : 0 ≤ x
    · rw [if_neg (by omega)]
      by_cases hx2 : x < a.length
      · rw [if_neg (by omega)]
        by_cases hb : b.size = 128
        · have e : ((b.size : Int) != 128) = false := by rw [hb]; rfl
          rw [e]
          simp [hx, hx2, hb]
        · have e : ((b.size : Int) != 128) = true := by rw [bne_iff_ne]; omega
          rw [e]
          simp [hb]
      · rw [if_pos (by omega)]
        simp [hx2]
    · rw [if_pos (by omega)]
      simp [hx]
theorem rflush_l0 (ca : List S40) (hl : ca.length < 5864062014805) (l : Int) (e : Bool) : ∀ (d k i : Nat) (bl : List ByteArray), i ≤ ca.length → ca.length - i = d → d < k → fitW (fun _ => true) bl.length i (ca.drop i) = true →
    almanacref02_Flush.l0 k (i : Int) bl ca l e = some (doneL (fun _ => true) i bl (ca.drop i), [], l, e, 0) := by
  intro d
  induction d with
  | zero =>
    intro k i bl hi hd hk hf
    obtain ⟨k, rfl⟩ : ∃ m, k = m + 1 := ⟨k - 1, by omega⟩
    have hil : i = ca.length := by omega
    simp only [almanacref02_Flush.l0]
    rw [if_neg (by omega), hil, List.drop_length]
    rfl
  | succ d ih =>
    intro k i bl hi hd hk hf
    obtain ⟨k, rfl⟩ : ∃ m, k = m + 1 := ⟨k - 1, by omega⟩
    have hlt : i < ca.length := by omega
    rw [drop_cons ca i z40 hlt] at hf ⊢
    simp only [fitW, Bool.not_true, Bool.false_or, Bool.and_eq_true, decide_eq_true_eq] at hf
    obtain ⟨⟨h0, h1⟩, hf⟩ := hf
    simp only [almanacref02_Flush.l0, rd_nat]
    rw [if_pos (by omega), if_pos (by omega), if_pos h0, if_pos h1, wrap_up (by omega)]
    rw [ih k (i + 1) _ (by omega) (by omega) (by omega) (by rw [List.length_set]; exact hf)]
    simp only [doneL, if_true]
theorem rflush_f (k : Nat) (a : List ByteArray) (ca : List S40) (l : Int) (d : Bool) (h0 : a.length < 8796093022208) (h1 : ca.length < 5864062014805) (hf : fitW (fun _ => true) a.length 0 ca = true) (hlo : -1 ≤ l) (hhi : l ≤ 9223372036854775807) (hk : ca.length < k) :
    almanacref02_Flush.f k a ca l d = dev_Flush.f a ca l d := by
  unfold almanacref02_Flush.f dev_Flush.f
  rw [if_pos (⟨h0, h1, hf, hlo, hhi⟩ : a.length < 8796093022208 ∧ ca.length < 5864062014805 ∧ fitW (fun _ => true) a.length 0 ca = true ∧ -1 ≤ l ∧ l ≤ 9223372036854775807)]
  cases d with
  | true => rw [if_pos rfl, if_pos rfl, copy_f a ca l true h0 h1]; rfl
  | false =>
    rw [if_neg (by decide), if_neg (by decide), rspend_f a ca l false h0 h1 hlo hhi]
    by_cases hz : l = 0
    · rw [if_pos hz, if_pos hz]
      simp
    · rw [if_neg hz, if_neg hz]
      simp only [Option.bind_some, if_true]
      have := rflush_l0 ca h1 (if l > 0 then l - 1 else l) false ca.length k 0 a (Nat.zero_le _) (by omega) hk (by rw [List.drop_zero]; exact hf)
      rw [show ((0 : Nat) : Int) = 0 from rfl, List.drop_zero] at this
      exact this
theorem doneL_none (p : Nat → Bool) : ∀ (ca : List S40) (n : Nat) (bl : List ByteArray), (∀ i, n ≤ i → p i = false) → doneL p n bl ca = bl
  | [], _, _, _ => rfl
  | w :: r, n, bl, h => by
    simp only [doneL]
    rw [h n (Nat.le_refl _), doneL_none p r (n + 1) _ (fun i hi => h i (by omega))]
    rfl
theorem rcrash_l0 (keep : List Bool) (a : List ByteArray) (ca : List S40) (hl : ca.length < 5864062014805) (l : Int) (e : Bool) (xs : List S40) (l' : Int) (e' : Bool) : ∀ (d k i : Nat) (bl : List ByteArray), i ≤ ca.length → ca.length - i = d → 2 * d + 1 < k → fitW (kept keep) bl.length i (ca.drop i) = true →
    almanacref02_Crash.l0 k keep (i : Int) a ca l e bl xs l' e' = some (doneL (kept keep) i bl (ca.drop i), [], -1, false) := by
  intro d
  induction d with
  | zero =>
    intro k i bl hi hd hk hf
    obtain ⟨k, rfl⟩ : ∃ m, k = m + 2 := ⟨k - 2, by omega⟩
    have hil : i = ca.length := by omega
    simp only [almanacref02_Crash.l0, almanacref02_Crash.j1]
    rw [if_neg (by omega), hil, List.drop_length]
    rfl
  | succ d ih =>
    intro k i bl hi hd hk hf
    obtain ⟨k, rfl⟩ : ∃ m, k = m + 2 := ⟨k - 2, by omega⟩
    have hlt : i < ca.length := by omega
    simp only [almanacref02_Crash.l0, almanacref02_Crash.j1]
    rw [if_pos (by omega)]
    by_cases hki : i < keep.length
    · rw [drop_cons ca i z40 hlt] at hf ⊢
      simp only [fitW, Bool.and_eq_true, Bool.or_eq_true, Bool.not_eq_true', decide_eq_true_eq] at hf
      obtain ⟨hp, hf⟩ := hf
      rw [if_pos (decide_eq_true (by omega)), if_pos (by omega), if_pos (by omega)]
      have hrd : rdOf false keep (i : Int) = kept keep i := by unfold rdOf kept; rw [Int.toNat_natCast]
      simp only [hrd, rd_nat]
      rw [wrap_up (by omega)]
      cases hk' : kept keep i with
      | false =>
        rw [if_neg (by decide)]
        rw [ih k (i + 1) _ (by omega) (by omega) (by omega) hf]
        simp only [doneL, hk', Bool.false_eq_true, if_false]
      | true =>
        rcases hp with hp | ⟨h0, h1⟩
        · rw [hk'] at hp; cases hp
        · rw [if_pos rfl, if_pos (by omega), if_pos h0, if_pos h1]
          rw [ih k (i + 1) _ (by omega) (by omega) (by omega) (by rw [List.length_set]; exact hf)]
          simp only [doneL, hk', if_true]
    · rw [if_neg (by simpa using hki), doneL_none _ _ _ _ (fun j hj => by unfold kept; rw [List.getD_eq_getElem?_getD, List.getElem?_eq_none (by omega)]; rfl)]
theorem rcrash_f (k : Nat) (a : List ByteArray) (ca : List S40) (l : Int) (d : Bool) (keep : List Bool) (h0 : a.length < 8796093022208) (h1 : ca.length < 5864062014805) (hf : fitW (kept keep) a.length 0 ca = true) (hk : 2 * ca.length + 1 < k) :
    almanacref02_Crash.f k a ca l d keep = dev_Crash.f a ca l d keep := by
  unfold almanacref02_Crash.f dev_Crash.f
  rw [if_pos (⟨h0, h1, hf⟩ : a.length < 8796093022208 ∧ ca.length < 5864062014805 ∧ fitW (kept keep) a.length 0 ca = true), copy_f a ca l d h0 h1]
  simp only [Option.bind_some]
  have := rcrash_l0 keep a ca h1 l d ca l d ca.length k 0 a (Nat.zero_le _) (by omega) hk (by rw [List.drop_zero]; exact hf)
  rw [show ((0 : Nat) : Int) = 0 from rfl, List.drop_zero] at this
  exact this
theorem arms_f (a : List ByteArray) (ca : List S40) (l : Int) (d : Bool) (x : Int) (h0 : a.length < 8796093022208) (h1 : ca.length < 5864062014805) : dev_Arm.f a ca l d x = some (if d = true then (a, ca, l, d) else (a, ca, mx x (-1), d)) ∧ almanacref02_Arm.f a ca l d x = some (if d = true then (a, ca, l, d) else (a, ca, mx x (-1), d)) := by
  unfold dev_Arm.f almanacref02_Arm.f
  rw [owned_f a ca l d h0 h1, copy_f a ca l d h0 h1]
  simp only [Option.bind_some]
  cases d <;> exact ⟨rfl, rfl⟩
theorem rread_l0 (x : Int) (a : List ByteArray) (ca : List S40) (hl : ca.length < 5864062014805) (l : Int) (e : Bool) : ∀ (d k i : Nat) (v : ByteArray), i ≤ ca.length → ca.length - i = d → d < k →
    almanacref02_Read.l0 k x v (i : Int) a ca l e = some ((((ca.drop i).reverse.find? fun w => w.f0 == x).map (·.f1)).getD v, 0) := by
  intro d
  induction d with
  | zero =>
    intro k i v hi hd hk
    obtain ⟨k, rfl⟩ : ∃ m, k = m + 1 := ⟨k - 1, by omega⟩
    have hil : i = ca.length := by omega
    simp only [almanacref02_Read.l0]
    rw [if_neg (by omega), hil, List.drop_length]
    rfl
  | succ d ih =>
    intro k i v hi hd hk
    obtain ⟨k, rfl⟩ : ∃ m, k = m + 1 := ⟨k - 1, by omega⟩
    have hlt : i < ca.length := by omega
    rw [drop_cons ca i z40 hlt, List.reverse_cons, List.find?_append]
    simp only [almanacref02_Read.l0, rd_nat]
    rw [if_pos (by omega), if_pos (by omega), wrap_up (by omega)]
    by_cases hx : (ca.getD i z40).f0 = x
    · have hb : ((ca.getD i z40).f0 == x) = true := by simpa only [beq_iff_eq] using hx
      rw [if_pos hx, ih k (i + 1) _ (by omega) (by omega) (by omega)]
      cases (ca.drop (i + 1)).reverse.find? (fun w => w.f0 == x) with
      | some y => rfl
      | none => simp only [List.find?, hb]; rfl
    · have hb : ((ca.getD i z40).f0 == x) = false := by simpa only [beq_eq_false_iff_ne, ne_eq] using hx
      rw [if_neg hx, ih k (i + 1) _ (by omega) (by omega) (by omega)]
      cases (ca.drop (i + 1)).reverse.find? (fun w => w.f0 == x) with
      | some y => rfl
      | none => simp only [List.find?, hb]; rfl
theorem rread_f (k : Nat) (a : List ByteArray) (ca : List S40) (l : Int) (d : Bool) (x : Int) (hl : ca.length < 5864062014805) (hk : ca.length + 1 < k) : almanacref02_Read.f k a ca l d x = dev_Read.f a ca l d x := by
  obtain ⟨k, rfl⟩ : ∃ m, k = m + 1 := ⟨k - 1, by omega⟩
  unfold almanacref02_Read.f dev_Read.f
  cases d with
  | true => rw [if_pos rfl, if_pos rfl]
  | false =>
    simp only [Bool.false_eq_true, if_false, if_true, almanacref02_Read.j0]
    by_cases h0 : x < 0
    · rw [if_pos h0, if_neg (by omega)]
    · rw [if_neg h0]
      by_cases h1 : x ≥ a.length
      · rw [if_pos (decide_eq_true h1), if_neg (by omega)]
      · rw [if_neg (by simpa using h1), if_pos (by omega), if_pos (by omega), if_pos (by omega)]
        have := rread_l0 x a ca hl l false ca.length k 0 (rdOf ByteArray.empty a x) (Nat.zero_le _) (by omega) (by omega)
        rw [show ((0 : Nat) : Int) = 0 from rfl, List.drop_zero] at this
        rw [this]
        rfl
end Go.Proofs.Ytaocplhijfkicaa.PD
/- What it means that two devices are the same. -/
namespace Go.Proofs.Ytaocplhijfkicaa.PD
open Go.RowKit Go.Proofs.YtaocplhijfkicaaW.PrintWords Go.Proofs.YtaocplhijfkicaaW.PrintLast Go.Proofs.YtaocplhijfkicaaW.PrintMore
def eqS (a b : List ByteArray) : Bool := allFrom (fun j => (a.getD j ByteArray.empty).toList == (b.getD j ByteArray.empty).toList) 0 a.length
def eqW (a b : List S40) : Bool := allFrom (fun j => (a.getD j z40).f0 == (b.getD j z40).f0 && (a.getD j z40).f1.toList == (b.getD j z40).f1.toList) 0 a.length
def sameB (a : List ByteArray) (ca : List S40) (l : Int) (d : Bool) (b : List ByteArray) (cb : List S40) (m : Int) (e : Bool) : Bool := decide (a.length = b.length) && decide (ca.length = cb.length) && l == m && d == e && eqS a b && eqW ca cb
theorem wneq (x y : S40) : (!((x.f0) == (y.f0)) || !((x.f1).toList == (y.f1).toList)) = !((x.f0 == y.f0) && x.f1.toList == y.f1.toList) := by rw [Bool.not_and]
theorem rsame_l1 (a : List ByteArray) (ca : List S40) (l : Int) (d : Bool) (b : List ByteArray) (cb : List S40) (m : Int) (e : Bool) (hl : ca.length = cb.length) (hc : ca.length ≤ 9223372036854775807) (k : Nat) (hk : ca.length < k) :
    almanacref02_Same.l1 k 0 a ca l d b cb m e = some (eqW ca cb) := by
  have h := all_loop (fun k i => almanacref02_Same.l1 k i a ca l d b cb m e) ca.length (fun j => (ca.getD j z40).f0 == (cb.getD j z40).f0 && (ca.getD j z40).f1.toList == (cb.getD j z40).f1.toList) false (fun _ => some true)
    (fun k i hi hp => by
      simp only [almanacref02_Same.l1, rdW]
      rw [if_pos (by omega), if_pos (by omega), if_pos (by omega), wneq, hp, if_neg (by decide), wrapN hi hc])
    (fun k i hi hp => by
      simp only [almanacref02_Same.l1, rdW]
      rw [if_pos (by omega), if_pos (by omega), if_pos (by omega), wneq, hp, if_pos (by decide)])
    (fun k => by simp only [almanacref02_Same.l1]; rw [if_neg (by omega)])
    ca.length k 0 (by omega) hk
  rw [show ((0 : Nat) : Int) = 0 from rfl] at h
  rw [h]
  unfold eqW
  split
  · rename_i h'; rw [h']
  · rename_i h'; rw [Bool.not_eq_true] at h'; rw [h']
theorem rsame_l0 (a : List ByteArray) (ca : List S40) (l : Int) (d : Bool) (b : List ByteArray) (cb : List S40) (m : Int) (e : Bool) (ha : a.length = b.length) (hl : ca.length = cb.length) (hb : a.length ≤ 9223372036854775807) (hc : ca.length ≤ 9223372036854775807) (k : Nat) (hk : a.length + ca.length + 1 < k) :
    almanacref02_Same.l0 k 0 a ca l d b cb m e = some (eqS a b && eqW ca cb) := by
  have h := all_loop (fun k i => almanacref02_Same.l0 k i a ca l d b cb m e) a.length (fun j => (a.getD j ByteArray.empty).toList == (b.getD j ByteArray.empty).toList) false (fun k => almanacref02_Same.l1 k 0 a ca l d b cb m e)
    (fun k i hi hp => by
      simp only [almanacref02_Same.l0, rdS]
      rw [if_pos (by omega), if_pos (by omega), if_pos (by omega), if_pos (eq_of_beq hp), wrapN hi hb])
    (fun k i hi hp => by
      simp only [almanacref02_Same.l0, rdS]
      rw [if_pos (by omega), if_pos (by omega), if_pos (by omega), if_neg (by simpa using hp)])
    (fun k => by simp only [almanacref02_Same.l0]; rw [if_neg (by omega)])
    a.length k 0 (by omega) (by omega)
  rw [show ((0 : Nat) : Int) = 0 from rfl] at h
  rw [h]
  unfold eqS
  split
  · rename_i h'; rw [h', rsame_l1 a ca l d b cb m e hl hc _ (by omega)]; rfl
  · rename_i h'; rw [Bool.not_eq_true] at h'; rw [h']; rfl
theorem rsame_f (a : List ByteArray) (ca : List S40) (l : Int) (d : Bool) (b : List ByteArray) (cb : List S40) (m : Int) (e : Bool) (hb : a.length ≤ 9223372036854775807) (hc : ca.length ≤ 9223372036854775807) (k : Nat) (hk : a.length + ca.length + 2 < k) :
    almanacref02_Same.f k a ca l d b cb m e = some (sameB a ca l d b cb m e) := by
  obtain ⟨k, rfl⟩ : ∃ m, k = m + 1 := ⟨k - 1, by omega⟩
  unfold almanacref02_Same.f sameB
  simp only [almanacref02_Same.j0, if_true]
  by_cases h1 : a.length = b.length
  · rw [if_pos (by omega)]
    by_cases h2 : ca.length = cb.length
    · rw [if_pos (by omega), rsame_l0 a ca l d b cb m e h1 h2 hb hc k (by omega)]
      by_cases h3 : l = m
      · rw [if_pos h3]
        subst h3
        cases d <;> cases e <;> simp [h1, h2]
      · rw [if_neg h3]; simp [h3]
    · rw [if_neg (by omega)]; simp [h2]
  · rw [if_neg (by omega)]; simp [h1]
theorem deqS (a b : List ByteArray) (hb : a.length ≤ 9223372036854775807) (k : Nat) (hk : a.length < k) : slices_Equal_string_string.f k a b = some (decide (a.length = b.length) && eqS a b) := by
  unfold slices_Equal_string_string.f
  by_cases h1 : a.length = b.length
  · rw [if_pos (by omega)]
    have h := all_loop (fun k i => slices_Equal_string_string.l0 k a b a.length i) a.length (fun j => (a.getD j ByteArray.empty).toList == (b.getD j ByteArray.empty).toList) false (fun k => some true)
      (fun k i hi hp => by
        simp only [slices_Equal_string_string.l0, rdS]
        rw [if_pos (by omega), if_pos (by omega), if_pos (by omega), if_pos (by omega), if_pos (eq_of_beq hp), wrapN hi hb])
      (fun k i hi hp => by
        simp only [slices_Equal_string_string.l0, rdS]
        rw [if_pos (by omega), if_pos (by omega), if_pos (by omega), if_pos (by omega), if_neg (by simpa using hp)])
      (fun k => by simp only [slices_Equal_string_string.l0]; rw [if_neg (by omega)])
      a.length k 0 (by omega) (by omega)
    rw [show ((0 : Nat) : Int) = 0 from rfl] at h
    rw [h]
    unfold eqS
    split
    · rename_i h'; rw [h']; simp [h1]
    · rename_i h'; rw [Bool.not_eq_true] at h'; rw [h']; simp
  · rw [if_neg (by omega)]; simp [h1]
theorem deqW (a b : List S40) (hb : a.length ≤ 9223372036854775807) (k : Nat) (hk : a.length < k) : api_Wr_42.f k a b = some (decide (a.length = b.length) && eqW a b) := by
  unfold api_Wr_42.f
  by_cases h1 : a.length = b.length
  · rw [if_pos (by omega)]
    have h := all_loop (fun k i => api_Wr_42.l0 k a b a.length i) a.length (fun j => (a.getD j z40).f0 == (b.getD j z40).f0 && (a.getD j z40).f1.toList == (b.getD j z40).f1.toList) false (fun k => some true)
      (fun k i hi hp => by
        simp only [api_Wr_42.l0, rdW]
        rw [if_pos (by omega), if_pos (by omega), if_pos (by omega), if_pos (by omega), wneq, hp, if_neg (by decide), wrapN hi hb])
      (fun k i hi hp => by
        simp only [api_Wr_42.l0, rdW]
        rw [if_pos (by omega), if_pos (by omega), if_pos (by omega), if_pos (by omega), wneq, hp, if_pos (by decide)])
      (fun k => by simp only [api_Wr_42.l0]; rw [if_neg (by omega)])
      a.length k 0 (by omega) (by omega)
    rw [show ((0 : Nat) : Int) = 0 from rfl] at h
    rw [h]
    unfold eqW
    split
    · rename_i h'; rw [h']; simp [h1]
    · rename_i h'; rw [Bool.not_eq_true] at h'; rw [h']; simp
  · rw [if_neg (by omega)]; simp [h1]
theorem dsame_f (a : List ByteArray) (ca : List S40) (l : Int) (d : Bool) (b : List ByteArray) (cb : List S40) (m : Int) (e : Bool) (hb : a.length ≤ 9223372036854775807) (hc : ca.length ≤ 9223372036854775807) (k : Nat) (hk : a.length + ca.length + 2 < k) :
    dev_Same.f k a ca l d b cb m e = some (sameB a ca l d b cb m e) := by
  unfold dev_Same.f sameB
  rw [deqS a b hb k (by omega), deqW ca cb hc k (by omega)]
  generalize eqS a b = A
  generalize eqW ca cb = B
  simp only [Option.bind_some]
  by_cases h1 : a.length = b.length <;> by_cases h2 : ca.length = cb.length <;> by_cases h3 : l = m <;> cases A <;> cases B <;> cases d <;> cases e <;> simp [h1, h2, h3]
theorem same_self (a : List ByteArray) (ca : List S40) (l : Int) (d : Bool) : sameB a ca l d a ca l d = true := by
  unfold sameB eqS eqW
  rw [allFrom_congr (q := fun _ => true) _ _ (fun j _ _ => by simp), allFrom_congr (q := fun _ => true) ca.length _ (fun j _ _ => by simp), allFrom_true, allFrom_true]
  simp
end Go.Proofs.Ytaocplhijfkicaa.PD
/- The law DevPlays, in plain words: through every row of calls the program's device and the document's stay the same. -/
namespace Go.Proofs.Ytaocplhijfkicaa.PD
open Go.RowKit Go.Proofs.YtaocplhijfkicaaW.PrintWords Go.Proofs.YtaocplhijfkicaaW.PrintLast Go.Proofs.YtaocplhijfkicaaW.PrintMore
def zero128 : ByteArray := ⟨(List.replicate 128 (0 : UInt8)).toArray⟩
theorem zeroD : strings_Repeat.f (⟨#[0]⟩ : ByteArray) 128 = some zero128 := by kernel_rfl
theorem zeroR : almanacref02_Zeros.f = some zero128 := by kernel_rfl
theorem rnew_l0 (n : Nat) (hn : n ≤ 1024) : ∀ (d k i : Nat) (bl : List ByteArray), i + d = n → bl.length = i → d < k → almanacref02_New.l0 k (n : Int) (i : Int) bl (-1) false = some (bl ++ List.replicate d zero128, [], -1, false)
  | 0, k, i, bl, hi, hb, hk => by
    obtain ⟨k, rfl⟩ : ∃ m, k = m + 1 := ⟨k - 1, by omega⟩
    simp only [almanacref02_New.l0]
    rw [if_neg (by omega)]
    simp
  | d + 1, k, i, bl, hi, hb, hk => by
    obtain ⟨k, rfl⟩ : ∃ m, k = m + 1 := ⟨k - 1, by omega⟩
    simp only [almanacref02_New.l0]
    rw [if_pos (by omega), zeroR]
    simp only [Option.bind_some]
    rw [if_pos (by omega), wrap_up (by omega), rnew_l0 n hn d k (i + 1) _ (by omega) (by simp [hb]) (by omega), List.replicate_succ]
    simp
theorem new_f (k : Nat) (n : Int) (hk : 1030 ≤ k) : ∃ a ca l d, dev_New.f k n = some (a, ca, l, d) ∧ almanacref02_New.f k n = some (a, ca, l, d) ∧ a.length ≤ 1024 ∧ ca.length ≤ 4097 ∧ l ≤ 9223372036854775807 := by
  obtain ⟨k, rfl⟩ : ∃ m, k = m + 1 := ⟨k - 1, by omega⟩
  unfold dev_New.f almanacref02_New.f
  simp only [dev_New.j0, almanacref02_New.j0]
  by_cases h1 : n < 1
  · rw [if_pos h1, if_pos h1]
    exact ⟨[], [], 0, false, rfl, rfl, by simp, by simp, by omega⟩
  · rw [if_neg h1, if_neg h1]
    by_cases h2 : n > 1024
    · rw [if_pos (decide_eq_true h2), if_pos (decide_eq_true h2)]
      exact ⟨[], [], 0, false, rfl, rfl, by simp, by simp, by omega⟩
    · rw [if_neg (by simpa using h2), if_neg (by simpa using h2), zeroD]
      simp only [Option.bind_some]
      have hr : slices_Repeat_string_string.f [zero128] n = some (List.replicate n.toNat zero128) := by
        unfold slices_Repeat_string_string.f
        rw [if_pos ⟨rfl, by omega, by omega⟩]
        rfl
      have hl := rnew_l0 n.toNat (by omega) n.toNat k 0 [] (by omega) rfl (by omega)
      rw [show ((n.toNat : Nat) : Int) = n by omega, show ((0 : Nat) : Int) = 0 from rfl] at hl
      rw [hr, hl]
      exact ⟨List.replicate n.toNat zero128, [], -1, false, rfl, by simp, by simp; omega, by simp, by omega⟩
theorem wrote_ok (a : List ByteArray) (ca : List S40) (l : Int) (d : Bool) (x : Int) (b : ByteArray) (h1 : a.length ≤ 1024) (h2 : ca.length ≤ 4096) (h3 : l ≤ 9223372036854775807) :
    (wrote a ca l d x b).1.length ≤ 1024 ∧ (wrote a ca l d x b).2.1.length ≤ 4097 ∧ (wrote a ca l d x b).2.2.1 ≤ 9223372036854775807 := by
  unfold wrote
  split
  · exact ⟨h1, by simp only; omega, h3⟩
  · split
    · exact ⟨h1, by simp only; omega, h3⟩
    · split
      · exact ⟨h1, by simp only; omega, h3⟩
      · split
        · exact ⟨h1, by simp only; omega, h3⟩
        · refine ⟨h1, by simp; omega, ?_⟩
          simp only
          split <;> omega
theorem flush_some (a : List ByteArray) (ca : List S40) (l : Int) (d : Bool) (h0 : a.length ≤ 1024) (h1 : ca.length ≤ 4096) (hf : fitW (fun _ => true) a.length 0 ca = true) (hlo : -1 ≤ l) (hhi : l ≤ 9223372036854775807) :
    ∃ a' ca' l' d' e, dev_Flush.f a ca l d = some (a', ca', l', d', e) ∧ a'.length ≤ 1024 ∧ ca'.length ≤ 4097 ∧ l' ≤ 9223372036854775807 := by
  unfold dev_Flush.f
  rw [if_pos ⟨by omega, by omega, hf, hlo, hhi⟩]
  split
  · exact ⟨_, _, _, _, _, rfl, h0, by omega, hhi⟩
  · split
    · exact ⟨_, _, _, _, _, rfl, h0, by omega, hhi⟩
    · exact ⟨_, _, _, _, _, rfl, by rw [doneL_len]; exact h0, by simp, by split <;> omega⟩
theorem plays_j3 (acts : List S45) (n i : Int) (a : List ByteArray) (ca : List S40) (l : Int) (d : Bool) (hf : fitB a ca l d = true) (hl : l ≤ 9223372036854775807) (k : Nat) (hk : 9000 ≤ k)
    (cont : ∀ k' a' ca' l' d', k ≤ k' + 1 → a'.length ≤ 1024 → ca'.length ≤ 4097 → l' ≤ 9223372036854775807 → almanaclaw02_DevPlays.l0 k' acts n (wrap64 (i + 1)) a' ca' l' d' a' ca' l' d' = some true) (data : ByteArray) (x : S45) (hx : x.f1 ≤ 9223372036854775807) :
    almanaclaw02_DevPlays.j3 (k + 1) 0 0 data acts n i a ca l d a ca l d x.f0 x.f1 x.f2 x.f3 = some true := by
  obtain ⟨h1, h2, h3, h4, h5, h6⟩ := fitB_iff hf
  have hw : ∀ p : Nat → Bool, fitW p a.length 0 ca = true := fun p => fitW_of p _ _ _ (fun w hw => (h6 w hw).1)
  have same : ∀ (a' : List ByteArray) (ca' : List S40) (l' : Int) (d' : Bool), a'.length ≤ 1024 → ca'.length ≤ 4097 → almanacref02_Same.f k a' ca' l' d' a' ca' l' d' = some true := fun a' ca' l' d' e1 e2 => by
    rw [rsame_f a' ca' l' d' a' ca' l' d' (by omega) (by omega) k (by omega), same_self]
  obtain ⟨m, rfl⟩ : ∃ m, k = m + 1 := ⟨k - 1, by omega⟩
  simp only [almanaclaw02_DevPlays.j3]
  by_cases g0 : x.f0 = 0
  · rw [if_pos g0, dwrite_f m a ca l d x.f1 data (by omega) (by omega) h4 hl, rwrite_f m a ca l d x.f1 data (by omega) (by omega) h4 hl]
    obtain ⟨q1, q2, q3⟩ := wrote_ok a ca l d x.f1 data h2 h3 hl
    simp only [Option.bind_some, if_true]
    rw [same _ _ _ _ q1 q2]
    simp only [Option.bind_some, if_true]
    exact cont _ _ _ _ _ (by omega) q1 q2 q3
  · rw [if_neg g0]
    by_cases g1 : x.f0 = 1
    · rw [if_pos g1, rflush_f _ a ca l d (by omega) (by omega) (hw _) h4 hl (by omega)]
      obtain ⟨a', ca', l', d', e, he, q1, q2, q3⟩ := flush_some a ca l d h2 h3 (hw _) h4 hl
      rw [he]
      simp only [Option.bind_some, if_true]
      rw [same _ _ _ _ q1 q2]
      simp only [Option.bind_some, if_true]
      exact cont _ _ _ _ _ (by omega) q1 q2 q3
    · rw [if_neg g1]
      by_cases g2 : x.f0 = 2
      · rw [if_pos g2, rcrash_f _ a ca l d x.f3 (by omega) (by omega) (hw _) (by omega)]
        have he : dev_Crash.f a ca l d x.f3 = some (doneL (kept x.f3) 0 a ca, [], -1, false) := by
          unfold dev_Crash.f
          rw [if_pos ⟨by omega, by omega, hw _⟩]
        have q1 : (doneL (kept x.f3) 0 a ca).length ≤ 1024 := by rw [doneL_len]; exact h2
        rw [he]
        simp only [Option.bind_some, if_true]
        rw [same _ _ _ _ q1 (by simp)]
        simp only [Option.bind_some, if_true]
        exact cont _ _ _ _ _ (by omega) q1 (by simp) (by omega)
      · rw [if_neg g2]
        by_cases g3 : x.f0 = 3
        · obtain ⟨e1, e2⟩ := arms_f a ca l d x.f1 (by omega) (by omega)
          rw [if_pos g3, e1, e2]
          simp only [Option.bind_some, if_true]
          cases d with
          | true =>
            simp only [if_true]
            rw [same _ _ _ _ h2 (by omega)]
            simp only [Option.bind_some, if_true]
            exact cont _ _ _ _ _ (by omega) h2 (by omega) hl
          | false =>
            simp only [Bool.false_eq_true, if_false]
            rw [same _ _ _ _ h2 (by omega)]
            simp only [Option.bind_some, if_true]
            exact cont _ _ _ _ _ (by omega) h2 (by omega) (by unfold mx; split <;> omega)
        · rw [if_neg g3, rread_f _ a ca l d x.f1 (by omega) (by omega)]
          have hr : ∃ r, dev_Read.f a ca l d x.f1 = some r := by
            unfold dev_Read.f
            split
            · exact ⟨_, rfl⟩
            · split <;> exact ⟨_, rfl⟩
          obtain ⟨r, hr⟩ := hr
          rw [hr]
          simp only [Option.bind_some, if_true, almanaclaw02_DevPlays.j4, bne_self_eq_false, Bool.false_eq_true, if_false]
          have sm : almanacref02_Same.f m a ca l d a ca l d = some true := by rw [rsame_f a ca l d a ca l d (by omega) (by omega) m (by omega), same_self]
          rw [sm]
          simp only [Option.bind_some, if_true]
          exact cont _ _ _ _ _ (by omega) h2 (by omega) hl
theorem plays_l0 (acts : List S45) (hn : acts.length ≤ 9223372036854775807) (hx : ∀ x ∈ acts, x.f1 ≤ 9223372036854775807) : ∀ (d k i : Nat) (a : List ByteArray) (ca : List S40) (l : Int) (e : Bool), i + d = acts.length → a.length ≤ 1024 → ca.length ≤ 4097 → l ≤ 9223372036854775807 → 5 * d + 9010 ≤ k →
    almanaclaw02_DevPlays.l0 k acts (acts.length : Int) (i : Int) a ca l e a ca l e = some true
  | 0, k, i, a, ca, l, e, hi, h1, h2, h3, hk => by
    obtain ⟨k, rfl⟩ : ∃ m, k = m + 1 := ⟨k - 1, by omega⟩
    simp only [almanaclaw02_DevPlays.l0]
    rw [if_neg (by omega), awake_any k (by omega)]
    rfl
  | d + 1, k, i, a, ca, l, e, hi, h1, h2, h3, hk => by
    obtain ⟨k, rfl⟩ : ∃ m, k = m + 4 := ⟨k - 4, by omega⟩
    simp only [almanaclaw02_DevPlays.l0]
    rw [if_pos (by omega), if_pos (by omega), if_pos (by omega), rfit_f a ca (by omega) (by omega) l e _ (by omega)]
    simp only [Option.bind_some]
    cases hf : fitB a ca l e with
    | false =>
      simp only [Bool.false_eq_true, if_false, almanaclaw02_DevPlays.j2, if_true]
      rw [rfit_f a ca (by omega) (by omega) l e _ (by omega), hf]
      simp only [Option.bind_some, Bool.false_eq_true, if_false]
      rw [awake_any _ (by omega)]
      rfl
    | true =>
      simp only [if_true]
      rw [rsame_f a ca l e a ca l e (by omega) (by omega) _ (by omega), same_self]
      simp only [Option.bind_some, Bool.not_true, almanaclaw02_DevPlays.j2, Bool.false_eq_true, if_false]
      have hm : (rd_T45 acts (i : Int)).f1 ≤ 9223372036854775807 := by
        unfold rd_T45
        rw [Int.toNat_natCast, List.getD_eq_getElem?_getD, List.getElem?_eq_getElem (by omega)]
        exact hx _ (List.getElem_mem _)
      have cont : ∀ k' a' ca' l' d', k + 1 ≤ k' + 1 → a'.length ≤ 1024 → ca'.length ≤ 4097 → l' ≤ 9223372036854775807 → almanaclaw02_DevPlays.l0 k' acts (acts.length : Int) (wrap64 ((i : Int) + 1)) a' ca' l' d' a' ca' l' d' = some true := fun k' a' ca' l' d' hk' q1 q2 q3 => by
        rw [wrapN (show i < acts.length by omega) hn]
        exact plays_l0 acts hn hx d k' (i + 1) a' ca' l' d' (by omega) q1 q2 q3 (by omega)
      have fin := fun data => plays_j3 acts (acts.length : Int) (i : Int) a ca l e hf h3 (k + 1) (by omega) cont data (rd_T45 acts (i : Int)) hm
      split
      · exact fin _
      · unfold almanaclaw02_filled.f
        simp only [Option.bind_some]
        exact fin _
theorem devPlays_pure (n : Int) (acts : List S45) (hn : acts.length ≤ 9223372036854775807) (hx : ∀ x ∈ acts, x.f1 ≤ 9223372036854775807) : ∃ k, almanaclaw02_DevPlays.f k n acts = some true := by
  refine ⟨5 * acts.length + 9020, ?_⟩
  unfold almanaclaw02_DevPlays.f
  obtain ⟨a, ca, l, d, e1, e2, h1, h2, h3⟩ := new_f (5 * acts.length + 9020) n (by omega)
  rw [e1, e2]
  simp only [Option.bind_some]
  rw [dsame_f a ca l d a ca l d (by omega) (by omega) _ (by omega), rsame_f a ca l d a ca l d (by omega) (by omega) _ (by omega), same_self]
  simp only [Option.bind_some, if_true, Bool.not_true, almanaclaw02_DevPlays.j0, Bool.false_eq_true, if_false]
  have := plays_l0 acts hn hx acts.length (5 * acts.length + 9019) 0 a ca l d (by omega) h1 h2 h3 (by omega)
  rw [show ((0 : Nat) : Int) = 0 from rfl] at this
  exact this
end Go.Proofs.Ytaocplhijfkicaa.PD
namespace Go.Proofs.Ytaocplhijfkicaa.PD
open Go.ChangeShapes Go.WideShapes Go.ChangeAt Go.RowKit Go.Proofs.YtaocplhijfkicaaW.PrintWords
set_option linter.unusedVariables false
theorem op_act : Op Try.prog 45 k45 (fun x => (Lit.int .i64 x.f0).wf = true ∧ (Lit.int .i64 x.f1).wf = true ∧ x.f2.size ≤ reachBytes ∧ (x.f3.length * 1 ≤ reachBytes ∧ ∀ y ∈ x.f3, True)) :=
  op_iso (fun x : S45 => (x.f0, x.f1, x.f2, x.f3)) (fun a => ⟨a.1, a.2.1, a.2.2.1, a.2.2.2⟩) (fun _ => rfl)
    (op_struct (L := [(0, 3), (1, 3), (2, 9), (3, 32)]) Try.underlying45 rfl (by kernel_rfl) (opF_cons (op_int Try.underlying3) (by kernel_rfl) (opF_cons (op_int Try.underlying3) (by kernel_rfl) (opF_cons (op_string Try.underlying9) (by kernel_rfl) (opF_one op_bools (by kernel_rfl))))))
/-- A row of calls that came in, laid open. -/
theorem open_acts {H : Type} {enc : TypeId × Value → H} {w : World} {base : Nat} {spare : Nat → Bool} {held : Bool} {r : Reach} {b0 : Nat} {v : Value} {d : DataW H} {p : List MemPlace} (hv : Value.okWide Try.prog w r b0 42 v) (h : DataW.Trod enc Try.prog w base spare held 42 v d p)
    (hs : ∀ n ∈ d.weights Try.prog 42, n ≤ reachBytes) : ∃ (A : Option Addr) (c : Nat) (l : List S45), v = .slice A l.length c ∧ Kd.C k45 w A l.length l ∧ l.length ≤ c ∧ l.length ≤ 9223372036854775807 ∧ ∀ x ∈ l, x.f1 ≤ 9223372036854775807 := by
  obtain ⟨a, n, c0, rfl⟩ := okWide_slice Try.underlying42 hv
  obtain ⟨fuel, hf⟩ := h
  obtain ⟨l, ⟨A, c, hcs, hc, hC⟩, hl, hx⟩ := (op_slice (B := 56) Try.underlying42 (by kernel_rfl) (by kernel_rfl) op_act) enc w base spare held fuel _ _ hf hs
  have hcs' : [Value.slice a n c0] = [Value.slice A l.length c] := by simpa [Value.cells] using hcs
  refine ⟨A, c, l, by simpa using hcs', hC, hc, ?_, fun x hxl => ?_⟩
  · unfold reachBytes at hl; omega
  · have := (hx x hxl).2.1
    simp [Lit.wf, IntKind.min, IntKind.max, IntKind.signed, IntKind.bits] at this
    omega
namespace DevPlaysRow
open _root_.Go.Proofs.Ytaocplhijfkicaa.Rows
set_option maxRecDepth 100000 in
theorem lifted (os : Os) (started : os.Started) (H : Type) (enc : TypeId × Value → H) :
    ReturnsInHanded {} Try.checked os 5 .any (devPlaysSpec.pre6 enc Try.prog Try.f5 devPlaysRow.domain false) (devPlaysSpec.post enc Try.prog Try.f5 false true false false) := by
  refine returnsInHanded_of_change_sized (C := Try.checked) own started (by kernel_rfl) Try.func5
    (ChangeSpec.witness6 (enc := enc) (C := Try.checked) false ⟨#[], #[.int .i64 0, .slice none 0 0], []⟩ 8 (by kernel_rfl) (by kernel_rfl) (by kernel_rfl) (by kernel_rfl)) ?_
  intro W base args ds gs before hval0 hW hcnd hsz0 _
  have hsz : (DataW.weightsEach Try.prog (Try.f5.params.toList ++ devPlaysSpec.plain.varTypes Try.prog) (ds ++ gs)).all (· ≤ reachBytes) = true := hsz0
  have hval : ∀ (j : Nat) t v, Try.f5.params[j]? = some t → args[j]? = some v → Value.okWide Try.prog W .any base t v := hval0
  have hW' := hW
  obtain ⟨p, q, hA0, hV, rfl, hfz, hnd⟩ := hW
  have hA : DataW.TrodAll enc Try.prog W 0 (fun _ => true) true Try.f5.params.toList args.toList ds p := hA0
  rw [Try.params5] at hA hval hsz
  obtain ⟨v0, vs0, d0, ds0, p0, q0, hargs, rfl, rfl, h0, r0⟩ := trodAll_cons hA
  obtain ⟨v1, vs1, d1, ds1, p1, q1, rfl, rfl, rfl, h1, r1⟩ := trodAll_cons r0
  obtain ⟨rfl, rfl, rfl⟩ := trodAll_nil r1
  obtain rfl : args = #[v0, v1] := by cases args; simp_all
  obtain ⟨rfl, rfl⟩ := trodVars_none hV
  obtain ⟨n0, rfl, rfl, rfl, w0⟩ := open_int Try.underlying3 (hval 0 3 v0 rfl rfl) h0
  obtain ⟨A1, c1, acts, rfl, x1, y1, hn, hx⟩ := open_acts (hval 1 42 v1 rfl rfl) h1 (weighs hsz (j := 1) rfl rfl)
  have k1 := h1
  have lt1 : ∀ x ∈ p1, x.block < W.heap.size := by obtain ⟨m, hm⟩ := k1; exact DataW.trod_lt m _ _ _ hm
  clear hA0 hval0 hsz0 hsz
  obtain ⟨k, hk⟩ := devPlays_pure n0 acts hn hx
  refine (almanaclaw02_DevPlays.callsT k n0 A1 c1 acts true W x1 y1 hk rfl).mono fun e W' ⟨he, bel⟩ => ?_
  subst he
  exact ⟨_, rfl, _, _, _, [], _, [], hW', trodAll_mk1 (shut_bool Try.underlying4 _), (trodAll_cons_mk (shut_int Try.underlying3 w0) (trodAll_cons_mk (Below.trod laidOut (by kernel_rfl) (of_decide_eq_true (by kernel_rfl)) k1 bel lt1) trodAll_mk0)), rfl, bel.frame _, fun h => by cases h⟩
theorem over : devPlaysRow.holds Try.pinned (OpenSpec.ofChange devPlaysSpec) :=
  OpenClaim.holds_of_wide 5 Try.f5 rfl rfl rfl rfl rfl rfl rfl ⟨rfl, rfl, rfl, rfl, rfl⟩ rfl rfl rfl rfl rfl (by kernel_rfl) Try.func5 (by kernel_rfl)
    (of_decide_eq_true (by kernel_rfl)) (by unfold Func.isWrapper; first | (rw [if_pos (by decide +kernel)]; kernel_rfl) | (rw [if_neg (by decide +kernel)]; exact ⟨rfl, rfl⟩))
    (fun os started H enc _ => lifted os started H enc)
end DevPlaysRow
theorem devPlays_holds : Rows.DevPlaysSaid := DevPlaysRow.over
end Go.Proofs.Ytaocplhijfkicaa.PD
