/- The law DevKeeps holds of every device and every row of what a crash keeps: whatever the input, the call returns true, and its arguments read as they did. -/
import Derived.Test.YtaocplhijfkicaaDevKeeps1
/- The law DevKeeps, in plain words: behind a crash each block is what it was, or what a write of the cache holds. -/
namespace Go.Proofs.Ytaocplhijfkicaa.PD
open Go.RowKit Go.Proofs.YtaocplhijfkicaaW.PrintWords Go.Proofs.YtaocplhijfkicaaW.PrintLast Go.Proofs.YtaocplhijfkicaaW.PrintMore
theorem awake_all (k : Nat) (hk : 10 ≤ k) : almanaclaw02_awake.f k = some true := at_rounds (fun k => almanaclaw02_awake.mono k) hk awake_val
theorem doneL_len (p : Nat → Bool) : ∀ (ca : List S40) (n : Nat) (bl : List ByteArray), (doneL p n bl ca).length = bl.length
  | [], _, _ => rfl
  | w :: r, n, bl => by
    simp only [doneL]
    rw [doneL_len p r]
    split <;> simp
/-- Each block behind the writes is what it was, or what a write at it holds. -/
theorem doneL_get (p : Nat → Bool) : ∀ (ca : List S40) (n : Nat) (bl : List ByteArray) (j : Nat), j < bl.length →
    (doneL p n bl ca).getD j ByteArray.empty = bl.getD j ByteArray.empty ∨ ∃ w ∈ ca, w.f0.toNat = j ∧ (doneL p n bl ca).getD j ByteArray.empty = w.f1
  | [], _, _, _, _ => .inl rfl
  | w :: r, n, bl, j, hj => by
    simp only [doneL]
    rcases doneL_get p r (n + 1) (if p n then bl.set w.f0.toNat w.f1 else bl) j (by split <;> simpa using hj) with h | ⟨x, hx, h1, h2⟩
    · rw [h]
      by_cases hp : p n = true
      · rw [if_pos hp]
        by_cases hw : w.f0.toNat = j
        · subst hw
          exact .inr ⟨w, List.mem_cons_self, rfl, by rw [List.getD_eq_getElem?_getD, List.getElem?_set_self hj]; rfl⟩
        · refine .inl ?_
          rw [List.getD_eq_getElem?_getD, List.getD_eq_getElem?_getD, List.getElem?_set_ne hw]
      · rw [if_neg hp]; exact .inl rfl
    · exact .inr ⟨x, List.mem_cons_of_mem _ hx, h1, h2⟩
theorem fitW_of (p : Nat → Bool) (m : Nat) : ∀ (ca : List S40) (n : Nat), (∀ w ∈ ca, 0 ≤ w.f0 ∧ w.f0 < m) → fitW p m n ca = true
  | [], _, _ => rfl
  | w :: r, n, h => by
    simp only [fitW, fitW_of p m r (n + 1) (fun x hx => h x (List.mem_cons_of_mem _ hx)), Bool.and_true, Bool.or_eq_true, Bool.and_eq_true, decide_eq_true_eq]
    exact .inr (h w List.mem_cons_self)
/-- What a fit device is. -/
theorem fitB_iff {bl : List ByteArray} {ca : List S40} {left : Int} {dead : Bool} (h : fitB bl ca left dead = true) :
    0 < bl.length ∧ bl.length ≤ 1024 ∧ ca.length ≤ 4096 ∧ -1 ≤ left ∧ (∀ j, j < bl.length → (bl.getD j ByteArray.empty).size = 128) ∧ ∀ w ∈ ca, (0 ≤ w.f0 ∧ w.f0 < bl.length) ∧ w.f1.size = 128 := by
  unfold fitB at h
  simp only [Bool.and_eq_true, decide_eq_true_eq, allFrom_iff, beq_iff_eq] at h
  obtain ⟨⟨⟨⟨⟨⟨h1, h2⟩, h3⟩, h4⟩, _⟩, h5⟩, h6⟩ := h
  refine ⟨h1, h2, h3, h4, fun j hj => h5 j (Nat.zero_le _) (by omega), fun w hw => ?_⟩
  obtain ⟨i, hi, rfl⟩ := List.getElem_of_mem hw
  have := h6 i (Nat.zero_le _) (by omega)
  rw [List.getD_eq_getElem?_getD, List.getElem?_eq_getElem hi] at this
  simpa using this
theorem fitB_of {bl : List ByteArray} {ca : List S40} {left : Int} {dead : Bool} (h1 : 0 < bl.length) (h2 : bl.length ≤ 1024) (h3 : ca.length ≤ 4096) (h4 : -1 ≤ left) (h5 : dead = true → left = 0) (h6 : ∀ j, j < bl.length → (bl.getD j ByteArray.empty).size = 128)
    (h7 : ∀ w ∈ ca, (0 ≤ w.f0 ∧ w.f0 < bl.length) ∧ w.f1.size = 128) : fitB bl ca left dead = true := by
  unfold fitB
  simp only [Bool.and_eq_true, decide_eq_true_eq, allFrom_iff, beq_iff_eq]
  refine ⟨⟨⟨⟨⟨⟨h1, h2⟩, h3⟩, h4⟩, ?_⟩, fun j _ hj => h6 j (by omega)⟩, fun j _ hj => ?_⟩
  · cases dead
    · rfl
    · simp [h5 rfl]
  · rw [List.getD_eq_getElem?_getD, List.getElem?_eq_getElem (show j < ca.length by omega)]
    exact h7 _ (List.getElem_mem _)
theorem keeps_l1 (x6 : Int) (b : ByteArray) (D : List ByteArray) (x42 x43 : Int) (bl : List ByteArray) (ca : List S40) (hc : ca.length ≤ 9223372036854775807) (l : Int) (dd : Bool) : ∀ (d k j : Nat) (acc : Bool), j + d = ca.length → d < k →
    almanaclaw02_DevKeeps.l1 k x6 b acc D x42 x43 ca (ca.length : Int) (j : Nat) bl ca l dd = if (acc || (ca.drop j).any (fun w => w.f0 == x6 && w.f1.toList == b.toList)) = true then almanaclaw02_DevKeeps.l0 (k - 1 - d) D x42 (wrap64 (x43 + 1)) bl ca l dd else some false
  | 0, k, j, acc, hj, hk => by
    obtain ⟨k, rfl⟩ : ∃ m, k = m + 1 := ⟨k - 1, by omega⟩
    simp only [almanaclaw02_DevKeeps.l1]
    rw [if_neg (by omega), List.drop_of_length_le (by omega)]
    simp
  | d + 1, k, j, acc, hj, hk => by
    obtain ⟨k, rfl⟩ : ∃ m, k = m + 1 := ⟨k - 1, by omega⟩
    simp only [almanaclaw02_DevKeeps.l1, rdW]
    rw [if_pos (by omega), if_pos (by omega), if_pos (by omega), wrapN (show j < ca.length by omega) hc, drop_cons ca j z40 (by omega), List.any_cons]
    have e : k + 1 - 1 - (d + 1) = k - 1 - d := by omega
    rw [e]
    cases acc with
    | true =>
      rw [if_pos rfl, keeps_l1 x6 b D x42 x43 bl ca hc l dd d k (j + 1) true (by omega) (by omega)]
      simp
    | false =>
      rw [if_neg (by decide)]
      by_cases hx : (ca.getD j z40).f0 = x6
      · have hx' : ((ca.getD j z40).f0 == x6) = true := by simpa only [beq_iff_eq] using hx
        rw [if_pos hx, keeps_l1 x6 b D x42 x43 bl ca hc l dd d k (j + 1) _ (by omega) (by omega), hx', Bool.true_and, Bool.false_or]
      · have hx' : ((ca.getD j z40).f0 == x6) = false := by simpa only [beq_eq_false_iff_ne, ne_eq] using hx
        rw [if_neg hx, keeps_l1 x6 b D x42 x43 bl ca hc l dd d k (j + 1) _ (by omega) (by omega), hx', Bool.false_and]
        simp only [Bool.false_or]
theorem keeps_l0 (D bl : List ByteArray) (ca : List S40) (hD : D.length = bl.length) (hb : bl.length ≤ 9223372036854775807) (hc : ca.length ≤ 9223372036854775807) (l : Int) (dd : Bool)
    (h : ∀ j, j < bl.length → D.getD j ByteArray.empty = bl.getD j ByteArray.empty ∨ ∃ w ∈ ca, w.f0 = (j : Int) ∧ D.getD j ByteArray.empty = w.f1) : ∀ (d k i : Nat), i + d = D.length → d * (ca.length + 2) + 11 ≤ k → almanaclaw02_DevKeeps.l0 k D (D.length : Int) (i : Nat) bl ca l dd = some true
  | 0, k, i, hi, hk => by
    obtain ⟨k, rfl⟩ : ∃ m, k = m + 1 := ⟨k - 1, by omega⟩
    simp only [almanaclaw02_DevKeeps.l0]
    rw [if_neg (by omega), awake_all k (by omega)]
    rfl
  | d + 1, k, i, hi, hk => by
    obtain ⟨k, rfl⟩ : ∃ m, k = m + 1 := ⟨k - 1, by omega⟩
    have hm : (d + 1) * (ca.length + 2) = d * (ca.length + 2) + (ca.length + 2) := by rw [Nat.succ_mul]
    simp only [almanaclaw02_DevKeeps.l0, rdS]
    rw [if_pos (by omega), if_pos (by omega), if_pos (by omega), if_pos (by omega)]
    have hl := keeps_l1 (i : Int) (D.getD i ByteArray.empty) D (D.length : Int) (i : Int) bl ca hc l dd ca.length k 0 ((D.getD i ByteArray.empty).toList == (bl.getD i ByteArray.empty).toList) (by omega) (by omega)
    rw [show ((0 : Nat) : Int) = 0 from rfl] at hl
    rw [hl, wrapN (show i < D.length by omega) (by omega), keeps_l0 D bl ca hD hb hc l dd h d (k - 1 - ca.length) (i + 1) (by omega) (by omega)]
    rw [if_pos]
    rcases h i (by omega) with e | ⟨w, hw, h1, h2⟩
    · rw [e]; simp
    · rw [List.drop_zero, h2]
      simp only [Bool.or_eq_true, List.any_eq_true, Bool.and_eq_true, beq_iff_eq]
      exact .inr ⟨w, hw, h1, rfl⟩
theorem devKeeps_pure (a : List ByteArray) (ca : List S40) (l : Int) (d : Bool) (keep : List Bool) (ha : a.length < 8796093022208) (hca : ca.length < 5864062014805) :
    ∃ k, almanaclaw02_DevKeeps.f k a ca l d keep = some true := by
  refine ⟨a.length * (ca.length + 2) + a.length + ca.length + 20, ?_⟩
  unfold almanaclaw02_DevKeeps.f
  rw [rfit_f a ca (by omega) (by omega) l d _ (by omega)]
  simp only [Option.bind_some]
  cases hf : fitB a ca l d with
  | false => rw [if_neg (by decide), awake_all _ (by omega)]; rfl
  | true =>
    rw [if_pos rfl]
    obtain ⟨h1, h2, h3, h4, h5, h6⟩ := fitB_iff hf
    have hlen : (doneL (kept keep) 0 a ca).length = a.length := doneL_len _ _ _ _
    have hget : ∀ j, j < a.length → (doneL (kept keep) 0 a ca).getD j ByteArray.empty = a.getD j ByteArray.empty ∨ ∃ w ∈ ca, w.f0 = (j : Int) ∧ (doneL (kept keep) 0 a ca).getD j ByteArray.empty = w.f1 := fun j hj => by
      rcases doneL_get (kept keep) ca 0 a j hj with e | ⟨w, hw, e1, e2⟩
      · exact .inl e
      · have := (h6 w hw).1
        exact .inr ⟨w, hw, by omega, e2⟩
    unfold dev_Crash.f
    rw [if_pos ⟨ha, hca, fitW_of _ _ _ _ (fun w hw => (h6 w hw).1)⟩]
    simp only [Option.bind_some]
    generalize hD : doneL (kept keep) 0 a ca = D at hlen hget
    rw [dfit_f D [] (by omega) (by simp) (-1) false _ (by simp; omega)]
    have hfit : fitB D [] (-1) false = true := fitB_of (by omega) (by omega) (by simp) (by omega) (by simp) (fun j hj => by
      rcases hget j (by omega) with e | ⟨w, hw, _, e⟩
      · rw [e]; exact h5 j (by omega)
      · rw [e]; exact (h6 w hw).2) (by simp)
    rw [hfit]
    simp only [Option.bind_some, if_true]
    rw [if_pos (by omega), if_pos (by simp)]
    obtain ⟨k, hk⟩ : ∃ k, a.length * (ca.length + 2) + a.length + ca.length + 20 = k + 1 := ⟨_, rfl⟩
    rw [hk]
    simp only [almanaclaw02_DevKeeps.j0, Bool.false_eq_true, if_false]
    have := keeps_l0 D a ca hlen (by omega) (by omega) l d hget D.length k 0 (by omega) (by rw [hlen]; omega)
    rw [show ((0 : Nat) : Int) = 0 from rfl] at this
    exact this
end Go.Proofs.Ytaocplhijfkicaa.PD
namespace Go.Proofs.Ytaocplhijfkicaa.PD
open Go.ChangeShapes Go.WideShapes Go.ChangeAt Go.RowKit Go.Proofs.YtaocplhijfkicaaW.PrintWords
set_option linter.unusedVariables false
namespace DevKeepsRow
open _root_.Go.Proofs.Ytaocplhijfkicaa.Rows
set_option maxRecDepth 100000 in
theorem lifted (os : Os) (started : os.Started) (H : Type) (enc : TypeId × Value → H) :
    ReturnsInHanded {} Try.checked os 4 .any (devKeepsSpec.pre6 enc Try.prog Try.f4 devKeepsRow.domain false) (devKeepsSpec.post enc Try.prog Try.f4 false true false false) := by
  refine returnsInHanded_of_change_sized (C := Try.checked) own started (by kernel_rfl) Try.func4
    (ChangeSpec.witness6 (enc := enc) (C := Try.checked) false ⟨#[], #[.agg #[.slice none 0 0, .slice none 0 0, .int .i64 0, .bool false], .slice none 0 0], []⟩ 8 (by kernel_rfl) (by kernel_rfl) (by kernel_rfl) (by kernel_rfl)) ?_
  intro W base args ds gs before hval0 hW hcnd hsz0 _
  have hsz : (DataW.weightsEach Try.prog (Try.f4.params.toList ++ devKeepsSpec.plain.varTypes Try.prog) (ds ++ gs)).all (· ≤ reachBytes) = true := hsz0
  have hval : ∀ (j : Nat) t v, Try.f4.params[j]? = some t → args[j]? = some v → Value.okWide Try.prog W .any base t v := hval0
  have hW' := hW
  obtain ⟨p, q, hA0, hV, rfl, hfz, hnd⟩ := hW
  have hA : DataW.TrodAll enc Try.prog W 0 (fun _ => true) true Try.f4.params.toList args.toList ds p := hA0
  rw [Try.params4] at hA hval hsz
  obtain ⟨v0, vs0, d0, ds0, p0, q0, hargs, rfl, rfl, h0, r0⟩ := trodAll_cons hA
  obtain ⟨v1, vs1, d1, ds1, p1, q1, rfl, rfl, rfl, h1, r1⟩ := trodAll_cons r0
  obtain ⟨rfl, rfl, rfl⟩ := trodAll_nil r1
  obtain rfl : args = #[v0, v1] := by cases args; simp_all
  obtain ⟨rfl, rfl⟩ := trodVars_none hV
  obtain ⟨A0, c0, b0, A0', c0', ca0, l0, e0, rfl, x0, y0, x0', y0', m0, m0', _, _⟩ := open_dev (hval 0 25 v0 rfl rfl) h0 (weighs hsz (j := 0) rfl rfl)
  obtain ⟨A1, c1, b1, rfl, x1, y1⟩ := open_bools (hval 1 32 v1 rfl rfl) h1 (weighs hsz (j := 1) rfl rfl)
  have k0 := h0
  have k1 := h1
  have lt0 : ∀ x ∈ p0, x.block < W.heap.size := by obtain ⟨m, hm⟩ := k0; exact DataW.trod_lt m _ _ _ hm
  have lt1 : ∀ x ∈ p1, x.block < W.heap.size := by obtain ⟨m, hm⟩ := k1; exact DataW.trod_lt m _ _ _ hm
  clear hA0 hval0 hsz0 hsz
  obtain ⟨k, hk⟩ := devKeeps_pure b0 ca0 l0 e0 b1 m0 m0'
  refine (almanaclaw02_DevKeeps.callsT k A0 c0 b0 A0' c0' ca0 l0 e0 A1 c1 b1 true W x0 y0 x0' y0' x1 y1 hk rfl).mono fun e W' ⟨he, bel⟩ => ?_
  subst he
  exact ⟨_, rfl, _, _, _, [], _, [], hW', trodAll_mk1 (shut_bool Try.underlying4 _), (trodAll_cons_mk (Below.trod laidOut (by kernel_rfl) (of_decide_eq_true (by kernel_rfl)) k0 bel lt0) (trodAll_cons_mk (Below.trod laidOut (by kernel_rfl) (of_decide_eq_true (by kernel_rfl)) k1 bel lt1) trodAll_mk0)), rfl, bel.frame _, fun h => by cases h⟩
theorem over : devKeepsRow.holds Try.pinned (OpenSpec.ofChange devKeepsSpec) :=
  OpenClaim.holds_of_wide 4 Try.f4 rfl rfl rfl rfl rfl rfl rfl ⟨rfl, rfl, rfl, rfl, rfl⟩ rfl rfl rfl rfl rfl (by kernel_rfl) Try.func4 (by kernel_rfl)
    (of_decide_eq_true (by kernel_rfl)) (by unfold Func.isWrapper; first | (rw [if_pos (by decide +kernel)]; kernel_rfl) | (rw [if_neg (by decide +kernel)]; exact ⟨rfl, rfl⟩))
    (fun os started H enc _ => lifted os started H enc)
end DevKeepsRow
theorem devKeeps_holds : Rows.DevKeepsSaid := DevKeepsRow.over
end Go.Proofs.Ytaocplhijfkicaa.PD
