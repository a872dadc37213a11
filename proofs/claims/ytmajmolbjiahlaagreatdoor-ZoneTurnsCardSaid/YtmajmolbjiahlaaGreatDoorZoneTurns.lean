/- The law ZoneTurns holds of every zone and every time (the tied card): the three tables of the library that the row lists are tied to the program's text. -/
import Derived.Test.YtmajmolbjiahlaaGreatDoorZoneTurns3
import Derived.Test.YtmajmolbjiahlaaGreatDoorZoneTurns2
import Derived.Lib.ConvBytes
import Derived.Lib.Strings
import Derived.Laws.IdiomStrings
import Derived.Test.YtmajmolbjiahlaaGreatDoorTie
import Derived.Test.YtmajmolbjiahlaaGreatDoorCards
import Derived.SevenTiedAt
namespace Go.Proofs.YtmajmolbjiahlaaGreatDoor.PD
open Go.RowKit Go.Proofs.YtmajmolbjiahlaaGreatDoorW.PrintWords Go.Proofs.YtmajmolbjiahlaaGreatDoorW.PrintLast Go.Proofs.YtmajmolbjiahlaaGreatDoorW.PrintMore
set_option linter.unusedVariables false
set_option linter.unusedSimpArgs false
def ftL (l : List S32) : List Int := l.flatMap fun o => [o.f1, o.f2]
theorem ftL_cons (o : S32) (l : List S32) : ftL (o :: l) = o.f1 :: o.f2 :: ftL l := rfl
theorem ftL_len (l : List S32) : (ftL l).length = 2 * l.length := by
  induction l with
  | nil => rfl
  | cons o l ih => rw [ftL_cons, List.length_cons, List.length_cons, List.length_cons, ih]; omega
theorem ftL_mem {l : List S32} {n : Int} : n ∈ ftL l ↔ ∃ o ∈ l, n = o.f1 ∨ n = o.f2 := by
  unfold ftL
  simp [List.mem_flatMap]
theorem ftL_small {l : List S32} (h : fitZ l = true) {n : Int} (hn : n ∈ ftL l) : -86400 < n ∧ n < 86400 := by
  obtain ⟨o, ho, e⟩ := ftL_mem.1 hn
  obtain ⟨_, h1, h2, _⟩ := fitO_parts o (fitZ_mem h o ho)
  rcases e with rfl | rfl
  · exact h1
  · exact h2
theorem inO_iff (t : Int) : inO t = true ↔ -62135596800 ≤ t ∧ t ≤ 253402300799 := by unfold inO; simp
theorem fold_mem (l : List S32) (utc : Int) : ∀ (q : List S32) (s : Int × Int × Bool), (∀ o ∈ q, o ∈ l) → (s.2.2 = true → s.2.1 ∈ ftL l) → ((q.foldl (offF utc) s).2.2 = true → (q.foldl (offF utc) s).2.1 ∈ ftL l) := by
  intro q
  induction q with
  | nil => intro s _ hs; exact hs
  | cons o q ih =>
    intro s hq hs
    rw [List.foldl_cons]
    refine ih _ (fun x hx => hq x (List.mem_cons_of_mem _ hx)) ?_
    have ho : o.f2 ∈ ftL l := ftL_mem.2 ⟨o, hq o List.mem_cons_self, .inr rfl⟩
    unfold offF
    repeat' split
    all_goals first | exact fun _ => ho | exact hs
theorem minFrom_mem (r : List S32) : ∀ a : S32, minFrom a r ∈ a :: r := by
  induction r with
  | nil => intro a; exact List.mem_cons_self
  | cons b r ih =>
    intro a
    have h := ih (stepMin a b)
    show minFrom (stepMin a b) r ∈ _
    rcases List.mem_cons.1 h with h | h
    · rw [h]
      unfold stepMin
      split
      · exact List.mem_cons_of_mem _ List.mem_cons_self
      · exact List.mem_cons_self
    · exact List.mem_cons_of_mem _ (List.mem_cons_of_mem _ h)
theorem minF_mem {l : List S32} (h : l ≠ []) : minF l ∈ l := by
  cases l with
  | nil => exact absurd rfl h
  | cons a r => exact minFrom_mem r a
theorem offP_mem {l : List S32} {utc : Int} (h1 : fitZ l = true) (h2 : inO utc = true) (h3 : l ≠ []) : offP l utc ∈ ftL l := by
  unfold offP endF
  rw [if_pos ⟨h1, h2, h3⟩]
  split
  · rename_i h
    exact fold_mem l utc l (0, 0, false) (fun _ h => h) (fun h => by simp at h) h
  · exact ftL_mem.2 ⟨minF l, minF_mem h3, .inl rfl⟩
theorem offP_le (l : List S32) (utc : Int) : -86400 < offP l utc ∧ offP l utc < 86400 := by
  by_cases h : fitZ l = true ∧ inO utc = true ∧ l ≠ []
  · exact ftL_small h.1 (offP_mem h.1 h.2.1 h.2.2)
  · unfold offP; rw [if_neg h]; omega
def hitB (l : List S32) (loc n : Int) : Bool := decide (offP l (loc - n) = n)
def findU (l : List S32) (loc h : Int) (q : List Int) : Int := match q.find? (hitB l loc) with | some n => loc - n | none => loc - offP l (loc - h)
def utcP (l : List S32) (loc : Int) : Int := if fitZ l = true ∧ inO loc = true ∧ l ≠ [] then findU l loc ((sortDesc (ftL l)).headD 0) (sortDesc (ftL l)) else loc
theorem sortD_mem {q : List Int} {n : Int} : n ∈ sortDesc q ↔ n ∈ q := List.mem_mergeSort
theorem sortD_len (q : List Int) : (sortDesc q).length = q.length := List.length_mergeSort q
theorem sortD_pair (q : List Int) : (sortDesc q).Pairwise fun a b => b ≤ a := by
  have := List.pairwise_mergeSort (le := fun x y : Int => decide (y ≤ x)) (by intro a b c; simp only [decide_eq_true_eq]; omega) (by intro a b; simp only [Bool.or_eq_true, decide_eq_true_eq]; omega) q
  exact this.imp (by intro a b h; simpa using h)
theorem rd_atI {q : List Int} {i : Nat} (h : i < q.length) : rd q (i : Int) = q[i] := by unfold rd; simp [List.getD, h]
theorem zutc_l1 (nm : ByteArray) (l : List S32) (loc : Int) (hl : inO loc = true) (q : List Int) (hq : ∀ n ∈ q, -86400 < n ∧ n < 86400) (hpos : 0 < q.length) (hb : q.length < 1000) : ∀ d j : Nat, q.length - j = d → j ≤ q.length →
    Ev (fun k => zone_Utc.l1 k loc q q (q.length : Int) (j : Int) nm l) (findU l loc (q.headD 0) (q.drop j)) := by
  have hL := (inO_iff loc).1 hl
  intro d
  induction d with
  | zero =>
    intro j hd hj
    rw [List.drop_eq_nil_of_le (by omega)]
    have h0 : rd q 0 = q.headD 0 := by
      cases q with
      | nil => simp at hpos
      | cons a r => rfl
    have hm : q.headD 0 ∈ q := by
      cases q with
      | nil => simp at hpos
      | cons a r => exact List.mem_cons_self
    have hr := hq _ hm
    have hw : Aside0 (wrap64 (loc - q.headD 0) = loc - q.headD 0) := ⟨w64 (by omega) (by omega)⟩
    refine Ev.step (f := fun k => (zone_Offset.f k nm l (loc - q.headD 0)).bind fun t203 => (some (wrap64 (loc - t203)))) (fun k => by
      simp only [zone_Utc.l1]
      rw [if_neg (by omega), if_pos (by omega), h0, hw.out]) ?_
    refine Ev.bind (zoff_val nm l _) ?_
    have ho := offP_le l (loc - q.headD 0)
    refine Ev.congr (fun k => ?_) (Ev.now _)
    rw [w64 (by omega) (by omega)]
    rfl
  | succ d ih =>
    intro j hd hj
    have h1 : j < q.length := by omega
    rw [List.drop_eq_getElem_cons h1]
    have hr := hq _ (List.getElem_mem h1)
    have hw : Aside0 (wrap64 (loc - q[j]) = loc - q[j]) := ⟨w64 (by omega) (by omega)⟩
    have hw2 : Aside0 (wrap64 ((j : Int) + 1) = ((j + 1 : Nat) : Int)) := ⟨w64n (by omega)⟩
    have ihj := ih (j + 1) (by omega) (by omega)
    refine Ev.step (f := fun k => (zone_Offset.f k nm l (loc - q[j])).bind fun t201 => (if t201 = q[j] then (some (loc - q[j])) else (zone_Utc.l1 k loc q q (q.length : Int) ((j + 1 : Nat) : Int) nm l))) (fun k => by
      simp only [zone_Utc.l1]
      rw [if_pos (by omega), if_pos (by omega), if_pos (by omega), rd_atI h1, hw.out, hw2.out]) ?_
    refine Ev.bind (zoff_val nm l _) ?_
    by_cases hh : offP l (loc - q[j]) = q[j]
    · have : findU l loc (q.headD 0) (q[j] :: q.drop (j + 1)) = loc - q[j] := by
        unfold findU
        rw [List.find?_cons_of_pos (by unfold hitB; exact decide_eq_true hh)]
      rw [this]
      exact Ev.congr (fun k => if_pos hh) (Ev.now _)
    · have : findU l loc (q.headD 0) (q[j] :: q.drop (j + 1)) = findU l loc (q.headD 0) (q.drop (j + 1)) := by
        unfold findU
        rw [List.find?_cons_of_neg (by unfold hitB; simpa using hh)]
      rw [this]
      exact Ev.congr (fun k => if_neg hh) ihj
theorem ftL_take (l : List S32) (i : Nat) (h : i < l.length) : ftL (l.take (i + 1)) = ftL (l.take i) ++ [l[i].f1, l[i].f2] := by
  rw [List.take_succ_eq_append_getElem h]
  unfold ftL
  rw [List.flatMap_append]
  rfl
theorem zutc_l0 (nm : ByteArray) (l : List S32) (loc : Int) (hf : fitZ l = true) (hl : inO loc = true) (hne : l ≠ []) : ∀ d i : Nat, l.length - i = d → i ≤ l.length →
    Ev (fun k => zone_Utc.l0 k loc (ftL (l.take i)) l (l.length : Int) (i : Int) nm l) (findU l loc ((sortDesc (ftL l)).headD 0) (sortDesc (ftL l))) := by
  have hlen := fitZ_len hf
  intro d
  induction d with
  | zero =>
    intro i hd hi
    obtain rfl : i = l.length := by omega
    rw [List.take_length]
    have hsm : smallI (ftL l) = true := by
      unfold smallI
      simp only [Bool.and_eq_true, decide_eq_true_eq, List.all_eq_true]
      refine ⟨by rw [ftL_len]; omega, fun n hn => ?_⟩
      have := ftL_small hf hn
      omega
    have hpos : 0 < l.length := List.length_pos_iff.2 hne
    have hsl : (sortDesc (ftL l)).length = (ftL l).length := sortD_len _
    have hfl := ftL_len l
    have := zutc_l1 nm l loc hl (sortDesc (ftL l)) (fun n hn => ftL_small hf (sortD_mem.1 hn)) (by omega) (by omega) _ 0 rfl (Nat.zero_le _)
    refine Ev.step (fun k => ?_) this
    simp only [zone_Utc.l0]
    rw [if_neg (by omega)]
    unfold slices_SortFunc_int64_int64.f
    rw [if_pos hsm, Option.bind_some, hsl]
    rfl
  | succ d ih =>
    intro i hd hi
    have h1 : i < l.length := by omega
    have hw2 : Aside0 (wrap64 ((i : Int) + 1) = ((i + 1 : Nat) : Int)) := ⟨w64n (by omega)⟩
    have ihj := ih (i + 1) (by omega) (by omega)
    have hfl := ftL_len (l.take i)
    rw [List.length_take] at hfl
    refine Ev.step (fun k => ?_) ihj
    simp only [zone_Utc.l0]
    rw [if_pos (by omega), if_pos (by omega), if_pos (by omega), rd_atO h1, Option.bind_some, if_pos (by simp only [List.length_cons, List.length_nil]; omega), hw2.out, ftL_take l i h1]
theorem zutc_val (nm : ByteArray) (l : List S32) (loc : Int) : Ev (fun k => zone_Utc.f k nm l loc) (utcP l loc) := by
  have hj : Ev (fun k => zone_Utc.j0 k loc true nm l) loc := Ev.step (f := fun _ => some loc) (fun k => by simp only [zone_Utc.j0]; rw [if_pos (by trivial)]) (Ev.now _)
  unfold utcP
  by_cases h1 : fitZ l = true
  · by_cases h2 : inO loc = true
    · refine Ev.congr (f := fun k => zone_Utc.j0 k loc (decide (l = [])) nm l) (fun k => by
        unfold zone_Utc.f zone_Fit.f
        rw [Option.bind_some, if_pos h1, in_val, Option.bind_some, if_pos h2, nil_of]) ?_
      by_cases h3 : l = []
      · rw [if_neg (by simp [h3]), decide_eq_true h3]
        exact hj
      · rw [if_pos ⟨h1, h2, h3⟩, decide_eq_false h3]
        refine Ev.step (f := fun k => zone_Utc.l0 k loc [] l (l.length : Int) 0 nm l) (fun k => by simp only [zone_Utc.j0]; rw [if_neg (by simp)]) ?_
        exact zutc_l0 nm l loc h1 h2 h3 _ 0 rfl (Nat.zero_le _)
    · rw [if_neg (fun h => h2 h.2.1)]
      exact Ev.congr (fun k => by unfold zone_Utc.f zone_Fit.f; rw [Option.bind_some, if_pos h1, in_val, Option.bind_some, if_neg h2]) hj
  · rw [if_neg (fun h => h1 h.1)]
    exact Ev.congr (fun k => by unfold zone_Utc.f zone_Fit.f; rw [Option.bind_some, if_neg h1]) hj
theorem find_sorted {q : List Int} (hp : q.Pairwise fun a b => b ≤ a) (p : Int → Bool) (n : Int) (h : q.find? p = some n) : n ∈ q ∧ p n = true ∧ ∀ n' ∈ q, p n' = true → n' ≤ n := by
  induction q with
  | nil => cases h
  | cons a r ih =>
    by_cases ha : p a = true
    · rw [List.find?_cons_of_pos ha] at h
      obtain rfl : a = n := Option.some.inj h
      refine ⟨List.mem_cons_self, ha, fun n' hn' _ => ?_⟩
      rcases List.mem_cons.1 hn' with rfl | hn'
      · exact Int.le_refl _
      · exact (List.pairwise_cons.1 hp).1 n' hn'
    · rw [List.find?_cons_of_neg ha] at h
      obtain ⟨h1, h2, h3⟩ := ih (List.pairwise_cons.1 hp).2 h
      refine ⟨List.mem_cons_of_mem _ h1, h2, fun n' hn' hp' => ?_⟩
      rcases List.mem_cons.1 hn' with rfl | hn'
      · exact absurd hp' ha
      · exact h3 n' hn' hp'
theorem zloc_val (nm : ByteArray) (l : List S32) (t : Int) : Ev (fun k => zone_Local.f k nm l t) (wrap64 (t + offP l t)) := Ev.bind (zoff_val nm l t) (Ev.now _)
end Go.Proofs.YtmajmolbjiahlaaGreatDoor.PD
namespace Go.Proofs.YtmajmolbjiahlaaGreatDoor.PD
open Go.RowKit Go.Proofs.YtmajmolbjiahlaaGreatDoorW.PrintWords Go.Proofs.YtmajmolbjiahlaaGreatDoorW.PrintLast Go.Proofs.YtmajmolbjiahlaaGreatDoorW.PrintMore
attribute [local go_sem] isSome_setCell
set_option linter.unusedVariables false
set_option linter.unusedSimpArgs false
def byteN (s : ByteArray) (i : Nat) : Nat := (s.data.getD i 0).toNat
theorem bytesW_cell (w : World) (s : ByteArray) (j : Nat) (hj : j < s.size) : (Lib.bytesWorld w 5 s).cell? ⟨w.heap.size, j, none⟩ = some (.int .u8 (byteN s j : Nat)) := by
  rw [Lib.bytesWorld_cell w 5 s j hj]
  simp [byteN, List.getD_eq_getElem?_getD, Array.getD_eq_getD_getElem?]
def dgt (b : Nat) : Bool := decide (48 ≤ b) && decide (b ≤ 57)
def numGo (s : ByteArray) : Nat → Nat → Int → Option Int
  | 0, _, n => some n
  | d + 1, i, n => if dgt (byteN s i) = true then numGo s d (i + 1) (n * 10 + ((byteN s i : Int) - 48)) else none
def numS (s : ByteArray) (most : Int) : Int × Bool :=
  if s.size = 0 ∨ 18 < s.size then (0, false) else match numGo s s.size 0 0 with
    | none => (0, false)
    | some n => if n > most then (0, false) else (n, true)
theorem byteN_lt (s : ByteArray) (i : Nat) : byteN s i < 256 := by
  unfold byteN
  exact UInt8.toNat_lt _
theorem isEmpty_of (a : ByteArray) (h : a.size = 0) : a.toList.isEmpty = true := by
  have h' : a.data.size = 0 := h
  rw [ByteArray.toList_eq, List.isEmpty_iff, Array.toList_eq_nil_iff]
  exact Array.size_eq_zero_iff.1 h'
theorem isEmpty_not (a : ByteArray) (h : ¬ a.size = 0) : a.toList.isEmpty = false := by
  cases hh : a.toList.isEmpty with
  | false => rfl
  | true =>
    rw [ByteArray.toList_eq, List.isEmpty_iff, Array.toList_eq_nil_iff] at hh
    exact absurd (show a.data.size = 0 by rw [hh]; rfl) h
theorem num_bad (s : ByteArray) (most : Int) (hz : s.size ≠ 0) {g : Option Int} {d : Bool} (h : numGo s s.size 0 0 = if d = true then g else none) (hd : d = false) : numS s most = (0, false) := by
  unfold numS
  split
  · rfl
  · rw [h, hd]; rfl
theorem pow10_le (i : Nat) (h : i ≤ 17) : (10 : Int) ^ i ≤ 100000000000000000 := by
  have : ∀ i : Fin 18, (10 : Int) ^ i.val ≤ 100000000000000000 := by decide
  exact this ⟨i, by omega⟩
def text_Number.f (a0 : ByteArray) (a1 : Int) : Option (Int × Bool) := some (numS a0 a1)
set_option maxRecDepth 100000 in
set_option maxHeartbeats 4000000 in
theorem text_Number.calls (a0 : ByteArray) (a1 : Int) (r1 : Int) (r2 : Bool) (w : World) (h : text_Number.f a0 a1 = some (r1, r2)) :
    Calls Tryz.prog 80 #[.string a0, .int .i64 a1] w fun e w' => e = .returned (.tuple #[.int .i64 r1, .bool r2]) ∧ Below w.heap.size w w' := by
  have h' : numS a0 a1 = (r1, r2) := Option.some.inj h
  clear h
  have hcv := fun W => Lib.run_convert_string_bytes (P := Tryz.prog) W 9 111 5 a0 Tryz.underlying9 Tryz.underlying111 Tryz.underlying5
  have hB1 : Below w.heap.size w (Lib.bytesWorld w 5 a0) := ⟨rfl, rfl, rfl, by rw [Lib.bytesWorld_size]; exact Nat.le_succ _, fun k hk => Lib.bytesWorld_at_old w 5 a0 k hk⟩
  have HB := Aside0.mk hB1
  have HCL := Aside0.mk (fun j hj => bytesW_cell w a0 j hj)
  clear hB1
  have H := Aside0.mk h'
  clear h'
  have HP := Aside0.mk pow10_le
  go_enter Tryz.func80, Tryz.ntmps80
  go_wp2
  clear hcv
  go_loopw [6, 12] (fun v6 v12 wr => ∃ (i : Nat) (n : Int), v6 = .int .i64 n ∧ v12 = .int .i64 (i : Int) ∧ i ≤ a0.size ∧ Aside0 (0 ≤ n ∧ n < (10 : Int) ^ i) ∧ Aside0 (a0.size ≤ 18 ∨ i = 0) ∧ Aside0 (numGo a0 (a0.size - i) i n = numGo a0 a0.size 0 0) ∧ wr = Lib.bytesWorld w 5 a0) (fun _ v12 _ => a0.size - (intOf v12).toNat)
  case atStart => exact ⟨0, 0, rfl, rfl, Nat.zero_le _, ⟨by omega, by decide⟩, ⟨.inr rfl⟩, ⟨by rw [Nat.sub_zero]⟩, rfl⟩
  case round =>
    obtain ⟨i, n, rfl, rfl, hi, HNB, H18, HG, rfl⟩ := hrel
    by_cases hlt : i < a0.size
    · have hlt0 : decide ((i : Int) < (a0.size : Int)) = true := decide_eq_true (by omega)
      have hc := HCL.out i hlt
      have hb := byteN_lt a0 i
      have hstep : numGo a0 (a0.size - i) i n = if dgt (byteN a0 i) = true then numGo a0 (a0.size - (i + 1)) (i + 1) (n * 10 + ((byteN a0 i : Int) - 48)) else none := by
        rw [show a0.size - i = (a0.size - (i + 1)) + 1 by omega]
        rfl
      rw [HG.out] at hstep
      obtain ⟨b, hbb⟩ : ∃ b, byteN a0 i = b := ⟨_, rfl⟩
      rw [hbb] at hc hb hstep
      clear hbb
      by_cases h1 : b < 48
      · have e1 : decide ((b : Int) < 48) = true := decide_eq_true (by omega)
        have hr := num_bad a0 a1 (by omega) hstep (by unfold dgt; rw [decide_eq_false (by omega)]; simp)
        rw [H.out] at hr
        obtain ⟨rfl, rfl⟩ := Prod.mk.inj hr
        go_wp2
        go_ret2
        exact ⟨rfl, HB.out⟩
      · have e1 : decide ((b : Int) < 48) = false := decide_eq_false (by omega)
        by_cases h2 : 57 < b
        · have e2 : decide (57 < (b : Int)) = true := decide_eq_true (by omega)
          have hr := num_bad a0 a1 (by omega) hstep (by unfold dgt; rw [decide_eq_false (show ¬ b ≤ 57 by omega)]; simp)
          rw [H.out] at hr
          obtain ⟨rfl, rfl⟩ := Prod.mk.inj hr
          go_wp2
          go_ret2
          exact ⟨rfl, HB.out⟩
        · have e2 : decide (57 < (b : Int)) = false := decide_eq_false (by omega)
          by_cases h3 : 18 < a0.size
          · have e3 : decide (18 < (a0.size : Int)) = true := decide_eq_true (by omega)
            have hr : numS a0 a1 = (0, false) := by unfold numS; rw [if_pos (.inr h3)]
            rw [H.out] at hr
            obtain ⟨rfl, rfl⟩ := Prod.mk.inj hr
            go_wp2
            go_ret2
            exact ⟨rfl, HB.out⟩
          · have e3 : decide (18 < (a0.size : Int)) = false := decide_eq_false (by omega)
            have hp := HP.out i (by omega)
            have hn := HNB.out
            have w1 : IntKind.u8.wrap ((b : Int) - 48) = (b : Int) - 48 := by simp only [IntKind.wrap, IntKind.bits]; simp; omega
            have w2 : IntKind.i64.wrap (n * 10) = n * 10 := by rw [i64_w]; simp only [wrap64]; omega
            have w3 : IntKind.i64.wrap ((b : Int) - 48) = (b : Int) - 48 := by rw [i64_w]; simp only [wrap64]; omega
            have w4 : IntKind.i64.wrap (n * 10 + ((b : Int) - 48)) = n * 10 + ((b : Int) - 48) := by rw [i64_w]; simp only [wrap64]; omega
            go_wp2
            go_roundw
            case rel =>
              refine ⟨i + 1, n * 10 + ((b : Int) - 48), rfl, by simp, hlt, ⟨by omega, by rw [Int.pow_succ]; omega⟩, ⟨.inl (by omega)⟩, ⟨?_⟩, trivial⟩
              rw [hstep, if_pos (by unfold dgt; rw [decide_eq_true (by omega), decide_eq_true (by omega)]; rfl)]
            case measure => show a0.size - (((i : Int) + 1)).toNat < a0.size - ((i : Int)).toNat; omega
    · have hlt0 : decide ((i : Int) < (a0.size : Int)) = false := decide_eq_false (by omega)
      obtain rfl : i = a0.size := by omega
      have hg := HG.out
      rw [Nat.sub_self] at hg
      by_cases hz : a0.size = 0
      · have eE : a0.toList.isEmpty = true := isEmpty_of a0 hz
        have hr : numS a0 a1 = (0, false) := by unfold numS; rw [if_pos (.inl hz)]
        rw [H.out] at hr
        obtain ⟨rfl, rfl⟩ := Prod.mk.inj hr
        go_wp2
        go_ret2
        exact ⟨rfl, HB.out⟩
      · have eE : a0.toList.isEmpty = false := isEmpty_not a0 hz
        have hr : numS a0 a1 = if n > a1 then (0, false) else (n, true) := by
          unfold numS
          rw [if_neg (by have := H18.out; omega), ← hg]
          rfl
        rw [H.out] at hr
        by_cases h4 : a1 < n
        · have e4 : decide (a1 < n) = true := decide_eq_true h4
          rw [if_pos h4] at hr
          obtain ⟨rfl, rfl⟩ := Prod.mk.inj hr
          go_wp2
          go_ret2
          exact ⟨rfl, HB.out⟩
        · have e4 : decide (a1 < n) = false := decide_eq_false h4
          rw [if_neg h4] at hr
          obtain ⟨rfl, rfl⟩ := Prod.mk.inj hr
          go_wp2
          go_ret2
          exact ⟨rfl, HB.out⟩
end Go.Proofs.YtmajmolbjiahlaaGreatDoor.PD
namespace Go.Proofs.YtmajmolbjiahlaaGreatDoor.PD
open Go.RowKit Go.Proofs.YtmajmolbjiahlaaGreatDoorW.PrintWords Go.Proofs.YtmajmolbjiahlaaGreatDoorW.PrintLast Go.Proofs.YtmajmolbjiahlaaGreatDoorW.PrintMore
attribute [local go_sem] isSome_setCell max2_int min2_int max_two min_two max_three min_three max_four min_four
set_option linter.unusedVariables false
set_option linter.unusedSimpArgs false
def date_field.f (a0 : ByteArray) (a1 : Int) (a2 : Int) : Option (Int) := if 0 ≤ a1 then (if a1 ≤ (wrap64 (a1 + a2)) then (if (wrap64 (a1 + a2)) ≤ (a0.size : Int) then ((text_Number.f (a0.extract (a1 : Int).toNat ((wrap64 (a1 + a2)) : Int).toNat) 9999).bind fun bt221 => (if bt221.2 = true then (some bt221.1) else (some (-1)))) else (none)) else (none)) else (none)
set_option maxHeartbeats 8000000 in
set_option maxRecDepth 100000 in
theorem date_field.calls (a0 : ByteArray) (a1 : Int) (a2 : Int) (r : Int) (w : World) (h : date_field.f a0 a1 a2 = some r) :
    Calls Tryz.prog 51 #[.string a0, .int .i64 a1, .int .i64 a2] w fun e w' => e = .returned (.int .i64 r) ∧ Below w.heap.size w w' := by
  have HB := Aside0.mk (Below.refl w.heap.size w)
  have H : (if 0 ≤ a1 then (if a1 ≤ (wrap64 (a1 + a2)) then (if (wrap64 (a1 + a2)) ≤ (a0.size : Int) then ((text_Number.f (a0.extract (a1 : Int).toNat ((wrap64 (a1 + a2)) : Int).toNat) 9999).bind fun bt221 => (if bt221.2 = true then (some bt221.1) else (some (-1)))) else (none)) else (none)) else (none)) = some r := h
  clear h
  by_cases c4 : 0 ≤ a1
  · rw [if_pos c4] at H
    have c4b0 := eq_true c4
    have c4b1 : decide (0 ≤ a1) = true := decide_eq_true c4
    clear c4
    by_cases c5 : a1 ≤ (wrap64 (a1 + a2))
    · rw [if_pos c5] at H
      have c5b0 := eq_true c5
      have c5b1 : decide (a1 ≤ (wrap64 (a1 + a2))) = true := decide_eq_true c5
      by_cases c6 : (wrap64 (a1 + a2)) ≤ (a0.size : Int)
      · rw [if_pos c6] at H
        have c6b0 := eq_true c6
        have c6b1 : decide ((wrap64 (a1 + a2)) ≤ (a0.size : Int)) = true := decide_eq_true c6
        replace H := Option.bind_eq_some_iff.mp H
        obtain ⟨⟨t221, t222⟩, A70, H⟩ := H
        replace H : (if t222 = true then (some t221) else (some (-1))) = some r := H
        have A7 := Aside0.mk A70
        clear A70
        by_cases c8 : t222 = true
        · subst c8
          have H1 : (some t221) = some r := by rw [if_pos rfl] at H; exact H
          clear H
          have H := H1
          clear H1
          obtain rfl := Option.some.inj H
          go_enter Tryz.func51, Tryz.ntmps51
          go_wp2_with (first | ((with_reducible refine gate_callee (f := 80) rfl ?_); refine goesL_ (some 16) rfl rfl Tryz.func80 (by kernel_rfl) rfl #[.string (a0.extract (a1 : Int).toNat ((wrap64 (a1 + a2)) : Int).toNat), .int .i64 9999] rfl (by (try simp only [List.map_toArray, List.map_cons, List.map_nil]); first | done | rfl | (simp only [List.length_drop, List.length_take]; rfl)) ?_; (with_reducible refine (text_Number.calls (a0.extract (a1 : Int).toNat ((wrap64 (a1 + a2)) : Int).toNat) 9999 t221 true _ A7.out).mono ?_); rintro e w9 ⟨rfl, hb⟩; refine ⟨_, rfl, ?_⟩; have n0_ := Aside0.mk (below_step (by repeat (first | (with_reducible first | exact HB.out | apply below_alloc | apply pw_below_drewN | apply below_drew1) | exact HB.out)) hb); clear HB; have HB := n0_; clear n0_; (try clear hb); (try clear hb2); (try clear hk); (try clear hi)))
          go_ret
          exact ⟨by first | rfl | (simp [errW_none, errW_some] <;> rfl) | (simp [*, errW_none, errW_some] <;> rfl), by repeat (first | (with_reducible first | exact HB.out | apply below_alloc | apply pw_below_drewN | apply below_drew1) | exact HB.out)⟩
        · replace c8 := Bool.eq_false_iff.mpr c8
          subst c8
          have H1 : (some (-1)) = some r := by rw [if_neg (show ¬ (false = true) by decide)] at H; exact H
          clear H
          have H := H1
          clear H1
          obtain rfl := Option.some.inj H
          go_enter Tryz.func51, Tryz.ntmps51
          go_wp2_with (first | ((with_reducible refine gate_callee (f := 80) rfl ?_); refine goesL_ (some 16) rfl rfl Tryz.func80 (by kernel_rfl) rfl #[.string (a0.extract (a1 : Int).toNat ((wrap64 (a1 + a2)) : Int).toNat), .int .i64 9999] rfl (by (try simp only [List.map_toArray, List.map_cons, List.map_nil]); first | done | rfl | (simp only [List.length_drop, List.length_take]; rfl)) ?_; (with_reducible refine (text_Number.calls (a0.extract (a1 : Int).toNat ((wrap64 (a1 + a2)) : Int).toNat) 9999 t221 false _ A7.out).mono ?_); rintro e w10 ⟨rfl, hb⟩; refine ⟨_, rfl, ?_⟩; have n0_ := Aside0.mk (below_step (by repeat (first | (with_reducible first | exact HB.out | apply below_alloc | apply pw_below_drewN | apply below_drew1) | exact HB.out)) hb); clear HB; have HB := n0_; clear n0_; (try clear hb); (try clear hb2); (try clear hk); (try clear hi)))
          go_ret
          exact ⟨by first | rfl | (simp [errW_none, errW_some] <;> rfl) | (simp [*, errW_none, errW_some] <;> rfl), by repeat (first | (with_reducible first | exact HB.out | apply below_alloc | apply pw_below_drewN | apply below_drew1) | exact HB.out)⟩
      · rw [if_neg c6] at H
        exact absurd H (by simp)
    · rw [if_neg c5] at H
      exact absurd H (by simp)
  · rw [if_neg c4] at H
    exact absurd H (by simp)
end Go.Proofs.YtmajmolbjiahlaaGreatDoor.PD
namespace Go.Proofs.YtmajmolbjiahlaaGreatDoor.PD
open Go.RowKit Go.Proofs.YtmajmolbjiahlaaGreatDoorW.PrintWords Go.Proofs.YtmajmolbjiahlaaGreatDoorW.PrintLast Go.Proofs.YtmajmolbjiahlaaGreatDoorW.PrintMore
attribute [local go_sem] isSome_setCell max2_int min2_int max_two min_two max_three min_three max_four min_four
set_option linter.unusedVariables false
set_option linter.unusedSimpArgs false
def date_ReadDay.f (a0 : ByteArray) : Option (Int × Int) := if (a0.size : Int) = 8 then ((date_field.f a0 0 4).bind fun t229 => ((date_field.f a0 4 2).bind fun t230 => ((date_field.f a0 6 2).bind fun t231 => ((date_Days.f t229 t230 t231).bind fun bt232 => (if bt232.2 = true then (some (bt232.1, 0)) else (some (0, 10))))))) else (some (0, 10))
set_option maxHeartbeats 8000000 in
set_option maxRecDepth 100000 in
theorem date_ReadDay.calls (a0 : ByteArray) (r1 : Int) (r2 : Int) (w : World) (h : date_ReadDay.f a0 = some (r1, r2)) :
    Calls Tryz.prog 50 #[.string a0] w fun e w' => e = .returned (.tuple #[.int .i64 r1, .int .i64 r2]) ∧ Below w.heap.size w w' := by
  have HB := Aside0.mk (Below.refl w.heap.size w)
  have H : (if (a0.size : Int) = 8 then ((date_field.f a0 0 4).bind fun t229 => ((date_field.f a0 4 2).bind fun t230 => ((date_field.f a0 6 2).bind fun t231 => ((date_Days.f t229 t230 t231).bind fun bt232 => (if bt232.2 = true then (some (bt232.1, 0)) else (some (0, 10))))))) else (some (0, 10))) = some (r1, r2) := h
  clear h
  by_cases c2 : (a0.size : Int) = 8
  · rw [if_pos c2] at H
    have c2b0 : ((a0.size : Int) == 8) = true := beq_iff_eq.mpr c2
    have c2b1 : ((a0.size : Int) != 8) = false := bne_eq_false_iff_eq.mpr c2
    clear c2
    replace H := Option.bind_eq_some_iff.mp H
    obtain ⟨t229, A30, H⟩ := H
    replace H : ((date_field.f a0 4 2).bind fun t230 => ((date_field.f a0 6 2).bind fun t231 => ((date_Days.f t229 t230 t231).bind fun bt232 => (if bt232.2 = true then (some (bt232.1, 0)) else (some (0, 10)))))) = some (r1, r2) := H
    have A3 := Aside0.mk A30
    clear A30
    replace H := Option.bind_eq_some_iff.mp H
    obtain ⟨t230, A40, H⟩ := H
    replace H : ((date_field.f a0 6 2).bind fun t231 => ((date_Days.f t229 t230 t231).bind fun bt232 => (if bt232.2 = true then (some (bt232.1, 0)) else (some (0, 10))))) = some (r1, r2) := H
    have A4 := Aside0.mk A40
    clear A40
    replace H := Option.bind_eq_some_iff.mp H
    obtain ⟨t231, A50, H⟩ := H
    replace H : ((date_Days.f t229 t230 t231).bind fun bt232 => (if bt232.2 = true then (some (bt232.1, 0)) else (some (0, 10)))) = some (r1, r2) := H
    have A5 := Aside0.mk A50
    clear A50
    replace H := Option.bind_eq_some_iff.mp H
    obtain ⟨⟨t232, t233⟩, A60, H⟩ := H
    replace H : (if t233 = true then (some (t232, 0)) else (some (0, 10))) = some (r1, r2) := H
    have A6 := Aside0.mk A60
    clear A60
    by_cases c7 : t233 = true
    · subst c7
      have H1 : (some (t232, 0)) = some (r1, r2) := by rw [if_pos rfl] at H; exact H
      clear H
      have H := H1
      clear H1
      simp only [Option.some.injEq, Prod.mk.injEq] at H
      obtain ⟨rfl, rfl⟩ := H
      go_enter Tryz.func50, Tryz.ntmps50
      go_wp2_with (first | ((with_reducible refine gate_callee (f := 51) rfl ?_); refine goesL_ (some 11) rfl rfl Tryz.func51 (by kernel_rfl) rfl #[.string a0, .int .i64 0, .int .i64 4] rfl (by (try simp only [List.map_toArray, List.map_cons, List.map_nil]); first | done | rfl | (simp only [List.length_drop, List.length_take]; rfl)) ?_; (with_reducible refine (date_field.calls a0 0 4 t229 _ A3.out).mono ?_); rintro e w8 ⟨rfl, hb⟩; refine ⟨_, rfl, ?_⟩; have n0_ := Aside0.mk (below_step (by repeat (first | (with_reducible first | exact HB.out | apply below_alloc | apply pw_below_drewN | apply below_drew1) | exact HB.out)) hb); clear HB; have HB := n0_; clear n0_; (try clear hb); (try clear hb2); (try clear hk); (try clear hi)) | ((with_reducible refine gate_callee (f := 51) rfl ?_); refine goesL_ (some 13) rfl rfl Tryz.func51 (by kernel_rfl) rfl #[.string a0, .int .i64 4, .int .i64 2] rfl (by (try simp only [List.map_toArray, List.map_cons, List.map_nil]); first | done | rfl | (simp only [List.length_drop, List.length_take]; rfl)) ?_; (with_reducible refine (date_field.calls a0 4 2 t230 _ A4.out).mono ?_); rintro e w9 ⟨rfl, hb⟩; refine ⟨_, rfl, ?_⟩; have n0_ := Aside0.mk (below_step (by repeat (first | (with_reducible first | exact HB.out | apply below_alloc | apply pw_below_drewN | apply below_drew1) | exact HB.out)) hb); clear HB; have HB := n0_; clear n0_; (try clear hb); (try clear hb2); (try clear hk); (try clear hi)) | ((with_reducible refine gate_callee (f := 51) rfl ?_); refine goesL_ (some 15) rfl rfl Tryz.func51 (by kernel_rfl) rfl #[.string a0, .int .i64 6, .int .i64 2] rfl (by (try simp only [List.map_toArray, List.map_cons, List.map_nil]); first | done | rfl | (simp only [List.length_drop, List.length_take]; rfl)) ?_; (with_reducible refine (date_field.calls a0 6 2 t231 _ A5.out).mono ?_); rintro e w10 ⟨rfl, hb⟩; refine ⟨_, rfl, ?_⟩; have n0_ := Aside0.mk (below_step (by repeat (first | (with_reducible first | exact HB.out | apply below_alloc | apply pw_below_drewN | apply below_drew1) | exact HB.out)) hb); clear HB; have HB := n0_; clear n0_; (try clear hb); (try clear hb2); (try clear hk); (try clear hi)) | ((with_reducible refine gate_callee (f := 79) rfl ?_); refine goesL_ (some 16) rfl rfl Tryz.func79 (by kernel_rfl) rfl #[.int .i64 t229, .int .i64 t230, .int .i64 t231] rfl (by (try simp only [List.map_toArray, List.map_cons, List.map_nil]); first | done | rfl | (simp only [List.length_drop, List.length_take]; rfl)) ?_; (with_reducible refine (date_Days.calls t229 t230 t231 t232 true _ A6.out).mono ?_); rintro e w11 ⟨rfl, hb⟩; refine ⟨_, rfl, ?_⟩; have n0_ := Aside0.mk (below_step (by repeat (first | (with_reducible first | exact HB.out | apply below_alloc | apply pw_below_drewN | apply below_drew1) | exact HB.out)) hb); clear HB; have HB := n0_; clear n0_; (try clear hb); (try clear hb2); (try clear hk); (try clear hi)))
      go_ret2
      exact ⟨by first | rfl | (simp [errW_none, errW_some] <;> rfl) | (simp [*, errW_none, errW_some] <;> rfl), by repeat (first | (with_reducible first | exact HB.out | apply below_alloc | apply pw_below_drewN | apply below_drew1) | exact HB.out)⟩
    · replace c7 := Bool.eq_false_iff.mpr c7
      subst c7
      have H1 : (some (0, 10)) = some (r1, r2) := by rw [if_neg (show ¬ (false = true) by decide)] at H; exact H
      clear H
      have H := H1
      clear H1
      simp only [Option.some.injEq, Prod.mk.injEq] at H
      obtain ⟨rfl, rfl⟩ := H
      go_enter Tryz.func50, Tryz.ntmps50
      go_wp2_with (first | ((with_reducible refine gate_callee (f := 51) rfl ?_); refine goesL_ (some 11) rfl rfl Tryz.func51 (by kernel_rfl) rfl #[.string a0, .int .i64 0, .int .i64 4] rfl (by (try simp only [List.map_toArray, List.map_cons, List.map_nil]); first | done | rfl | (simp only [List.length_drop, List.length_take]; rfl)) ?_; (with_reducible refine (date_field.calls a0 0 4 t229 _ A3.out).mono ?_); rintro e w12 ⟨rfl, hb⟩; refine ⟨_, rfl, ?_⟩; have n0_ := Aside0.mk (below_step (by repeat (first | (with_reducible first | exact HB.out | apply below_alloc | apply pw_below_drewN | apply below_drew1) | exact HB.out)) hb); clear HB; have HB := n0_; clear n0_; (try clear hb); (try clear hb2); (try clear hk); (try clear hi)) | ((with_reducible refine gate_callee (f := 51) rfl ?_); refine goesL_ (some 13) rfl rfl Tryz.func51 (by kernel_rfl) rfl #[.string a0, .int .i64 4, .int .i64 2] rfl (by (try simp only [List.map_toArray, List.map_cons, List.map_nil]); first | done | rfl | (simp only [List.length_drop, List.length_take]; rfl)) ?_; (with_reducible refine (date_field.calls a0 4 2 t230 _ A4.out).mono ?_); rintro e w13 ⟨rfl, hb⟩; refine ⟨_, rfl, ?_⟩; have n0_ := Aside0.mk (below_step (by repeat (first | (with_reducible first | exact HB.out | apply below_alloc | apply pw_below_drewN | apply below_drew1) | exact HB.out)) hb); clear HB; have HB := n0_; clear n0_; (try clear hb); (try clear hb2); (try clear hk); (try clear hi)) | ((with_reducible refine gate_callee (f := 51) rfl ?_); refine goesL_ (some 15) rfl rfl Tryz.func51 (by kernel_rfl) rfl #[.string a0, .int .i64 6, .int .i64 2] rfl (by (try simp only [List.map_toArray, List.map_cons, List.map_nil]); first | done | rfl | (simp only [List.length_drop, List.length_take]; rfl)) ?_; (with_reducible refine (date_field.calls a0 6 2 t231 _ A5.out).mono ?_); rintro e w14 ⟨rfl, hb⟩; refine ⟨_, rfl, ?_⟩; have n0_ := Aside0.mk (below_step (by repeat (first | (with_reducible first | exact HB.out | apply below_alloc | apply pw_below_drewN | apply below_drew1) | exact HB.out)) hb); clear HB; have HB := n0_; clear n0_; (try clear hb); (try clear hb2); (try clear hk); (try clear hi)) | ((with_reducible refine gate_callee (f := 79) rfl ?_); refine goesL_ (some 16) rfl rfl Tryz.func79 (by kernel_rfl) rfl #[.int .i64 t229, .int .i64 t230, .int .i64 t231] rfl (by (try simp only [List.map_toArray, List.map_cons, List.map_nil]); first | done | rfl | (simp only [List.length_drop, List.length_take]; rfl)) ?_; (with_reducible refine (date_Days.calls t229 t230 t231 t232 false _ A6.out).mono ?_); rintro e w15 ⟨rfl, hb⟩; refine ⟨_, rfl, ?_⟩; have n0_ := Aside0.mk (below_step (by repeat (first | (with_reducible first | exact HB.out | apply below_alloc | apply pw_below_drewN | apply below_drew1) | exact HB.out)) hb); clear HB; have HB := n0_; clear n0_; (try clear hb); (try clear hb2); (try clear hk); (try clear hi)))
      go_ret2
      exact ⟨by first | rfl | (simp [errW_none, errW_some] <;> rfl) | (simp [*, errW_none, errW_some] <;> rfl), by repeat (first | (with_reducible first | exact HB.out | apply below_alloc | apply pw_below_drewN | apply below_drew1) | exact HB.out)⟩
  · rw [if_neg c2] at H
    have c2b0 : ((a0.size : Int) == 8) = false := beq_eq_false_iff_ne.mpr c2
    have c2b1 : ((a0.size : Int) != 8) = true := bne_iff_ne.mpr c2
    simp only [Option.some.injEq, Prod.mk.injEq] at H
    obtain ⟨rfl, rfl⟩ := H
    go_enter Tryz.func50, Tryz.ntmps50
    go_wp2
    go_ret2
    exact ⟨by first | rfl | (simp [errW_none, errW_some] <;> rfl) | (simp [*, errW_none, errW_some] <;> rfl), by repeat (first | (with_reducible first | exact HB.out | apply below_alloc | apply pw_below_drewN | apply below_drew1) | exact HB.out)⟩
end Go.Proofs.YtmajmolbjiahlaaGreatDoor.PD
namespace Go.Proofs.YtmajmolbjiahlaaGreatDoor.PD
open Go.RowKit Go.Proofs.YtmajmolbjiahlaaGreatDoorW.PrintWords Go.Proofs.YtmajmolbjiahlaaGreatDoorW.PrintLast Go.Proofs.YtmajmolbjiahlaaGreatDoorW.PrintMore
attribute [local go_sem] isSome_setCell max2_int min2_int max_two min_two max_three min_three max_four min_four
set_option linter.unusedVariables false
set_option linter.unusedSimpArgs false
def date_Day.f (a0 : Int) : Option (ByteArray) := (date_Civil.f a0).bind fun bt259 => (if bt259.2.2.2 = true then ((date_padded.f bt259.1 4).bind fun t263 => ((date_padded.f bt259.2.1 2).bind fun t264 => (if t263.size + t264.size ≤ 9223372036854775807 then ((date_padded.f bt259.2.2.1 2).bind fun t265 => (if (t263 ++ t264).size + t265.size ≤ 9223372036854775807 then (some ((t263 ++ t264) ++ t265)) else (none))) else (none)))) else (some (⟨#[]⟩ : ByteArray)))
set_option maxHeartbeats 8000000 in
set_option maxRecDepth 100000 in
theorem date_Day.calls (a0 : Int) (r : ByteArray) (w : World) (h : date_Day.f a0 = some r) (hTab : Tab w) :
    Calls Tryz.prog 81 #[.int .i64 a0] w fun e w' => e = .returned (.string r) ∧ Below w.heap.size w w' := by
  have HTab := Aside0.mk hTab
  clear hTab
  have HB := Aside0.mk (Below.refl w.heap.size w)
  have H : ((date_Civil.f a0).bind fun bt259 => (if bt259.2.2.2 = true then ((date_padded.f bt259.1 4).bind fun t263 => ((date_padded.f bt259.2.1 2).bind fun t264 => (if t263.size + t264.size ≤ 9223372036854775807 then ((date_padded.f bt259.2.2.1 2).bind fun t265 => (if (t263 ++ t264).size + t265.size ≤ 9223372036854775807 then (some ((t263 ++ t264) ++ t265)) else (none))) else (none)))) else (some (⟨#[]⟩ : ByteArray)))) = some r := h
  clear h
  replace H := Option.bind_eq_some_iff.mp H
  obtain ⟨⟨t259, t260, t261, t262⟩, A20, H⟩ := H
  replace H : (if t262 = true then ((date_padded.f t259 4).bind fun t263 => ((date_padded.f t260 2).bind fun t264 => (if t263.size + t264.size ≤ 9223372036854775807 then ((date_padded.f t261 2).bind fun t265 => (if (t263 ++ t264).size + t265.size ≤ 9223372036854775807 then (some ((t263 ++ t264) ++ t265)) else (none))) else (none)))) else (some (⟨#[]⟩ : ByteArray))) = some r := H
  have A2 := Aside0.mk A20
  clear A20
  by_cases c3 : t262 = true
  · subst c3
    have H1 : ((date_padded.f t259 4).bind fun t263 => ((date_padded.f t260 2).bind fun t264 => (if t263.size + t264.size ≤ 9223372036854775807 then ((date_padded.f t261 2).bind fun t265 => (if (t263 ++ t264).size + t265.size ≤ 9223372036854775807 then (some ((t263 ++ t264) ++ t265)) else (none))) else (none)))) = some r := by rw [if_pos rfl] at H; exact H
    clear H
    have H := H1
    clear H1
    replace H := Option.bind_eq_some_iff.mp H
    obtain ⟨t263, A40, H⟩ := H
    replace H : ((date_padded.f t260 2).bind fun t264 => (if t263.size + t264.size ≤ 9223372036854775807 then ((date_padded.f t261 2).bind fun t265 => (if (t263 ++ t264).size + t265.size ≤ 9223372036854775807 then (some ((t263 ++ t264) ++ t265)) else (none))) else (none))) = some r := H
    have A4 := Aside0.mk A40
    clear A40
    replace H := Option.bind_eq_some_iff.mp H
    obtain ⟨t264, A50, H⟩ := H
    replace H : (if t263.size + t264.size ≤ 9223372036854775807 then ((date_padded.f t261 2).bind fun t265 => (if (t263 ++ t264).size + t265.size ≤ 9223372036854775807 then (some ((t263 ++ t264) ++ t265)) else (none))) else (none)) = some r := H
    have A5 := Aside0.mk A50
    clear A50
    by_cases c6 : t263.size + t264.size ≤ 9223372036854775807
    · rw [if_pos c6] at H
      have c6b0 := eq_true c6
      have c6b1 : decide (t263.size + t264.size ≤ 9223372036854775807) = true := decide_eq_true c6
      try have c6b2 : (9223372036854775807 < t263.size + t264.size) = False := eq_false (Nat.not_lt.2 c6)
      replace H := Option.bind_eq_some_iff.mp H
      obtain ⟨t265, A70, H⟩ := H
      replace H : (if (t263 ++ t264).size + t265.size ≤ 9223372036854775807 then (some ((t263 ++ t264) ++ t265)) else (none)) = some r := H
      have A7 := Aside0.mk A70
      clear A70
      by_cases c8 : (t263 ++ t264).size + t265.size ≤ 9223372036854775807
      · rw [if_pos c8] at H
        have c8b0 := eq_true c8
        have c8b1 : decide ((t263 ++ t264).size + t265.size ≤ 9223372036854775807) = true := decide_eq_true c8
        try have c8b2 : (9223372036854775807 < (t263 ++ t264).size + t265.size) = False := eq_false (Nat.not_lt.2 c8)
        try have c8b3 : (9223372036854775807 < t263.size + t264.size + t265.size) = False := eq_false (Nat.not_lt.2 (by have h_ := c8; simp only [ByteArray.size_append] at h_; exact h_))
        obtain rfl := Option.some.inj H
        go_enter Tryz.func81, Tryz.ntmps81
        go_wp2_with (first | ((with_reducible refine gate_callee (f := 43) rfl ?_); refine goesL_ (some 9) rfl rfl Tryz.func43 (by kernel_rfl) rfl #[.int .i64 a0] rfl (by (try simp only [List.map_toArray, List.map_cons, List.map_nil]); first | done | rfl | (simp only [List.length_drop, List.length_take]; rfl)) ?_; (with_reducible refine (date_Civil.calls a0 t259 t260 t261 true _ A2.out).mono ?_); rintro e w9 ⟨rfl, hb⟩; refine ⟨_, rfl, ?_⟩; have n0_ := Aside0.mk (below_step (by repeat (first | (with_reducible first | exact HB.out | apply below_alloc | apply pw_below_drewN | apply below_drew1) | exact HB.out)) hb); clear HB; have HB := n0_; clear n0_; (try clear hb); (try clear hb2); (try clear hk); (try clear hi)) | ((with_reducible refine gate_callee (f := 95) rfl ?_); refine goesL_ (some 17) rfl rfl Tryz.func95 (by kernel_rfl) rfl #[.int .i64 t259, .int .i64 4] rfl (by (try simp only [List.map_toArray, List.map_cons, List.map_nil]); first | done | rfl | (simp only [List.length_drop, List.length_take]; rfl)) ?_; (with_reducible refine (date_padded.calls t259 4 t263 _ A4.out (HTab.out.below (by repeat (first | (with_reducible first | exact HB.out | apply below_alloc | apply pw_below_drewN | apply below_drew1) | exact HB.out)))).mono ?_); rintro e w10 ⟨rfl, hb⟩; refine ⟨_, rfl, ?_⟩; have n0_ := Aside0.mk (below_step (by repeat (first | (with_reducible first | exact HB.out | apply below_alloc | apply pw_below_drewN | apply below_drew1) | exact HB.out)) hb); clear HB; have HB := n0_; clear n0_; (try clear hb); (try clear hb2); (try clear hk); (try clear hi)) | ((with_reducible refine gate_callee (f := 95) rfl ?_); refine goesL_ (some 19) rfl rfl Tryz.func95 (by kernel_rfl) rfl #[.int .i64 t260, .int .i64 2] rfl (by (try simp only [List.map_toArray, List.map_cons, List.map_nil]); first | done | rfl | (simp only [List.length_drop, List.length_take]; rfl)) ?_; (with_reducible refine (date_padded.calls t260 2 t264 _ A5.out (HTab.out.below (by repeat (first | (with_reducible first | exact HB.out | apply below_alloc | apply pw_below_drewN | apply below_drew1) | exact HB.out)))).mono ?_); rintro e w11 ⟨rfl, hb⟩; refine ⟨_, rfl, ?_⟩; have n0_ := Aside0.mk (below_step (by repeat (first | (with_reducible first | exact HB.out | apply below_alloc | apply pw_below_drewN | apply below_drew1) | exact HB.out)) hb); clear HB; have HB := n0_; clear n0_; (try clear hb); (try clear hb2); (try clear hk); (try clear hi)) | ((with_reducible refine gate_callee (f := 95) rfl ?_); refine goesL_ (some 22) rfl rfl Tryz.func95 (by kernel_rfl) rfl #[.int .i64 t261, .int .i64 2] rfl (by (try simp only [List.map_toArray, List.map_cons, List.map_nil]); first | done | rfl | (simp only [List.length_drop, List.length_take]; rfl)) ?_; (with_reducible refine (date_padded.calls t261 2 t265 _ A7.out (HTab.out.below (by repeat (first | (with_reducible first | exact HB.out | apply below_alloc | apply pw_below_drewN | apply below_drew1) | exact HB.out)))).mono ?_); rintro e w12 ⟨rfl, hb⟩; refine ⟨_, rfl, ?_⟩; have n0_ := Aside0.mk (below_step (by repeat (first | (with_reducible first | exact HB.out | apply below_alloc | apply pw_below_drewN | apply below_drew1) | exact HB.out)) hb); clear HB; have HB := n0_; clear n0_; (try clear hb); (try clear hb2); (try clear hk); (try clear hi)))
        go_ret
        exact ⟨by first | rfl | (simp [errW_none, errW_some] <;> rfl) | (simp [*, errW_none, errW_some] <;> rfl), by repeat (first | (with_reducible first | exact HB.out | apply below_alloc | apply pw_below_drewN | apply below_drew1) | exact HB.out)⟩
      · rw [if_neg c8] at H
        exact absurd H (by simp)
    · rw [if_neg c6] at H
      exact absurd H (by simp)
  · replace c3 := Bool.eq_false_iff.mpr c3
    subst c3
    have H1 : (some (⟨#[]⟩ : ByteArray)) = some r := by rw [if_neg (show ¬ (false = true) by decide)] at H; exact H
    clear H
    have H := H1
    clear H1
    obtain rfl := Option.some.inj H
    go_enter Tryz.func81, Tryz.ntmps81
    go_wp2_with (first | ((with_reducible refine gate_callee (f := 43) rfl ?_); refine goesL_ (some 9) rfl rfl Tryz.func43 (by kernel_rfl) rfl #[.int .i64 a0] rfl (by (try simp only [List.map_toArray, List.map_cons, List.map_nil]); first | done | rfl | (simp only [List.length_drop, List.length_take]; rfl)) ?_; (with_reducible refine (date_Civil.calls a0 t259 t260 t261 false _ A2.out).mono ?_); rintro e w13 ⟨rfl, hb⟩; refine ⟨_, rfl, ?_⟩; have n0_ := Aside0.mk (below_step (by repeat (first | (with_reducible first | exact HB.out | apply below_alloc | apply pw_below_drewN | apply below_drew1) | exact HB.out)) hb); clear HB; have HB := n0_; clear n0_; (try clear hb); (try clear hb2); (try clear hk); (try clear hi)))
    go_ret
    exact ⟨by first | rfl | (simp [errW_none, errW_some] <;> rfl) | (simp [*, errW_none, errW_some] <;> rfl), by repeat (first | (with_reducible first | exact HB.out | apply below_alloc | apply pw_below_drewN | apply below_drew1) | exact HB.out)⟩
end Go.Proofs.YtmajmolbjiahlaaGreatDoor.PD
namespace Go.Proofs.YtmajmolbjiahlaaGreatDoor.PD
open Go.RowKit Go.Proofs.YtmajmolbjiahlaaGreatDoorW.PrintWords Go.Proofs.YtmajmolbjiahlaaGreatDoorW.PrintLast Go.Proofs.YtmajmolbjiahlaaGreatDoorW.PrintMore
attribute [local go_sem] isSome_setCell max2_int min2_int max_two min_two max_three min_three max_four min_four
set_option linter.unusedVariables false
set_option linter.unusedSimpArgs false
def date_clock.f (a0 : Int) (a1 : ByteArray) : Option (ByteArray) := (date_padded.f (wrap64 (Int.tdiv a0 3600)) 2).bind fun t266 => (if t266.size + a1.size ≤ 9223372036854775807 then ((date_padded.f (Int.tmod (wrap64 (Int.tdiv a0 60)) 60) 2).bind fun t267 => (if (t266 ++ a1).size + t267.size ≤ 9223372036854775807 then (if ((t266 ++ a1) ++ t267).size + a1.size ≤ 9223372036854775807 then ((date_padded.f (Int.tmod a0 60) 2).bind fun t268 => (if (((t266 ++ a1) ++ t267) ++ a1).size + t268.size ≤ 9223372036854775807 then (some ((((t266 ++ a1) ++ t267) ++ a1) ++ t268)) else (none))) else (none)) else (none))) else (none))
set_option maxHeartbeats 8000000 in
set_option maxRecDepth 100000 in
theorem date_clock.calls (a0 : Int) (a1 : ByteArray) (r : ByteArray) (w : World) (h : date_clock.f a0 a1 = some r) (hTab : Tab w) :
    Calls Tryz.prog 82 #[.int .i64 a0, .string a1] w fun e w' => e = .returned (.string r) ∧ Below w.heap.size w w' := by
  have HTab := Aside0.mk hTab
  clear hTab
  have HB := Aside0.mk (Below.refl w.heap.size w)
  have H : ((date_padded.f (wrap64 (Int.tdiv a0 3600)) 2).bind fun t266 => (if t266.size + a1.size ≤ 9223372036854775807 then ((date_padded.f (Int.tmod (wrap64 (Int.tdiv a0 60)) 60) 2).bind fun t267 => (if (t266 ++ a1).size + t267.size ≤ 9223372036854775807 then (if ((t266 ++ a1) ++ t267).size + a1.size ≤ 9223372036854775807 then ((date_padded.f (Int.tmod a0 60) 2).bind fun t268 => (if (((t266 ++ a1) ++ t267) ++ a1).size + t268.size ≤ 9223372036854775807 then (some ((((t266 ++ a1) ++ t267) ++ a1) ++ t268)) else (none))) else (none)) else (none))) else (none))) = some r := h
  clear h
  replace H := Option.bind_eq_some_iff.mp H
  obtain ⟨t266, A30, H⟩ := H
  replace H : (if t266.size + a1.size ≤ 9223372036854775807 then ((date_padded.f (Int.tmod (wrap64 (Int.tdiv a0 60)) 60) 2).bind fun t267 => (if (t266 ++ a1).size + t267.size ≤ 9223372036854775807 then (if ((t266 ++ a1) ++ t267).size + a1.size ≤ 9223372036854775807 then ((date_padded.f (Int.tmod a0 60) 2).bind fun t268 => (if (((t266 ++ a1) ++ t267) ++ a1).size + t268.size ≤ 9223372036854775807 then (some ((((t266 ++ a1) ++ t267) ++ a1) ++ t268)) else (none))) else (none)) else (none))) else (none)) = some r := H
  have A3 := Aside0.mk A30
  clear A30
  by_cases c4 : t266.size + a1.size ≤ 9223372036854775807
  · rw [if_pos c4] at H
    have c4b0 := eq_true c4
    have c4b1 : decide (t266.size + a1.size ≤ 9223372036854775807) = true := decide_eq_true c4
    try have c4b2 : (9223372036854775807 < t266.size + a1.size) = False := eq_false (Nat.not_lt.2 c4)
    replace H := Option.bind_eq_some_iff.mp H
    obtain ⟨t267, A50, H⟩ := H
    replace H : (if (t266 ++ a1).size + t267.size ≤ 9223372036854775807 then (if ((t266 ++ a1) ++ t267).size + a1.size ≤ 9223372036854775807 then ((date_padded.f (Int.tmod a0 60) 2).bind fun t268 => (if (((t266 ++ a1) ++ t267) ++ a1).size + t268.size ≤ 9223372036854775807 then (some ((((t266 ++ a1) ++ t267) ++ a1) ++ t268)) else (none))) else (none)) else (none)) = some r := H
    have A5 := Aside0.mk A50
    clear A50
    by_cases c6 : (t266 ++ a1).size + t267.size ≤ 9223372036854775807
    · rw [if_pos c6] at H
      have c6b0 := eq_true c6
      have c6b1 : decide ((t266 ++ a1).size + t267.size ≤ 9223372036854775807) = true := decide_eq_true c6
      try have c6b2 : (9223372036854775807 < (t266 ++ a1).size + t267.size) = False := eq_false (Nat.not_lt.2 c6)
      try have c6b3 : (9223372036854775807 < t266.size + a1.size + t267.size) = False := eq_false (Nat.not_lt.2 (by have h_ := c6; simp only [ByteArray.size_append] at h_; exact h_))
      by_cases c7 : ((t266 ++ a1) ++ t267).size + a1.size ≤ 9223372036854775807
      · rw [if_pos c7] at H
        have c7b0 := eq_true c7
        have c7b1 : decide (((t266 ++ a1) ++ t267).size + a1.size ≤ 9223372036854775807) = true := decide_eq_true c7
        try have c7b2 : (9223372036854775807 < ((t266 ++ a1) ++ t267).size + a1.size) = False := eq_false (Nat.not_lt.2 c7)
        try have c7b3 : (9223372036854775807 < t266.size + a1.size + t267.size + a1.size) = False := eq_false (Nat.not_lt.2 (by have h_ := c7; simp only [ByteArray.size_append] at h_; exact h_))
        replace H := Option.bind_eq_some_iff.mp H
        obtain ⟨t268, A80, H⟩ := H
        replace H : (if (((t266 ++ a1) ++ t267) ++ a1).size + t268.size ≤ 9223372036854775807 then (some ((((t266 ++ a1) ++ t267) ++ a1) ++ t268)) else (none)) = some r := H
        have A8 := Aside0.mk A80
        clear A80
        by_cases c9 : (((t266 ++ a1) ++ t267) ++ a1).size + t268.size ≤ 9223372036854775807
        · rw [if_pos c9] at H
          have c9b0 := eq_true c9
          have c9b1 : decide ((((t266 ++ a1) ++ t267) ++ a1).size + t268.size ≤ 9223372036854775807) = true := decide_eq_true c9
          try have c9b2 : (9223372036854775807 < (((t266 ++ a1) ++ t267) ++ a1).size + t268.size) = False := eq_false (Nat.not_lt.2 c9)
          try have c9b3 : (9223372036854775807 < t266.size + a1.size + t267.size + a1.size + t268.size) = False := eq_false (Nat.not_lt.2 (by have h_ := c9; simp only [ByteArray.size_append] at h_; exact h_))
          obtain rfl := Option.some.inj H
          go_enter Tryz.func82, Tryz.ntmps82
          go_wp2_with (first | ((with_reducible refine gate_callee (f := 95) rfl ?_); refine goesL_ (some 7) rfl rfl Tryz.func95 (by kernel_rfl) rfl #[.int .i64 (wrap64 (Int.tdiv a0 3600)), .int .i64 2] rfl (by (try simp only [List.map_toArray, List.map_cons, List.map_nil]); first | done | rfl | (simp only [List.length_drop, List.length_take]; rfl)) ?_; (with_reducible refine (date_padded.calls (wrap64 (Int.tdiv a0 3600)) 2 t266 _ A3.out (HTab.out.below (by repeat (first | (with_reducible first | exact HB.out | apply below_alloc | apply pw_below_drewN | apply below_drew1) | exact HB.out)))).mono ?_); rintro e w10 ⟨rfl, hb⟩; refine ⟨_, rfl, ?_⟩; have n0_ := Aside0.mk (below_step (by repeat (first | (with_reducible first | exact HB.out | apply below_alloc | apply pw_below_drewN | apply below_drew1) | exact HB.out)) hb); clear HB; have HB := n0_; clear n0_; (try clear hb); (try clear hb2); (try clear hk); (try clear hi)) | ((with_reducible refine gate_callee (f := 95) rfl ?_); refine goesL_ (some 13) rfl rfl Tryz.func95 (by kernel_rfl) rfl #[.int .i64 (Int.tmod (wrap64 (Int.tdiv a0 60)) 60), .int .i64 2] rfl (by (try simp only [List.map_toArray, List.map_cons, List.map_nil]); first | done | rfl | (simp only [List.length_drop, List.length_take]; rfl)) ?_; (with_reducible refine (date_padded.calls (Int.tmod (wrap64 (Int.tdiv a0 60)) 60) 2 t267 _ A5.out (HTab.out.below (by repeat (first | (with_reducible first | exact HB.out | apply below_alloc | apply pw_below_drewN | apply below_drew1) | exact HB.out)))).mono ?_); rintro e w11 ⟨rfl, hb⟩; refine ⟨_, rfl, ?_⟩; have n0_ := Aside0.mk (below_step (by repeat (first | (with_reducible first | exact HB.out | apply below_alloc | apply pw_below_drewN | apply below_drew1) | exact HB.out)) hb); clear HB; have HB := n0_; clear n0_; (try clear hb); (try clear hb2); (try clear hk); (try clear hi)) | ((with_reducible refine gate_callee (f := 95) rfl ?_); refine goesL_ (some 19) rfl rfl Tryz.func95 (by kernel_rfl) rfl #[.int .i64 (Int.tmod a0 60), .int .i64 2] rfl (by (try simp only [List.map_toArray, List.map_cons, List.map_nil]); first | done | rfl | (simp only [List.length_drop, List.length_take]; rfl)) ?_; (with_reducible refine (date_padded.calls (Int.tmod a0 60) 2 t268 _ A8.out (HTab.out.below (by repeat (first | (with_reducible first | exact HB.out | apply below_alloc | apply pw_below_drewN | apply below_drew1) | exact HB.out)))).mono ?_); rintro e w12 ⟨rfl, hb⟩; refine ⟨_, rfl, ?_⟩; have n0_ := Aside0.mk (below_step (by repeat (first | (with_reducible first | exact HB.out | apply below_alloc | apply pw_below_drewN | apply below_drew1) | exact HB.out)) hb); clear HB; have HB := n0_; clear n0_; (try clear hb); (try clear hb2); (try clear hk); (try clear hi)))
          go_ret
          exact ⟨by first | rfl | (simp [errW_none, errW_some] <;> rfl) | (simp [*, errW_none, errW_some] <;> rfl), by repeat (first | (with_reducible first | exact HB.out | apply below_alloc | apply pw_below_drewN | apply below_drew1) | exact HB.out)⟩
        · rw [if_neg c9] at H
          exact absurd H (by simp)
      · rw [if_neg c7] at H
        exact absurd H (by simp)
    · rw [if_neg c6] at H
      exact absurd H (by simp)
  · rw [if_neg c4] at H
    exact absurd H (by simp)
end Go.Proofs.YtmajmolbjiahlaaGreatDoor.PD
namespace Go.Proofs.YtmajmolbjiahlaaGreatDoor.PD
open Go.RowKit Go.Proofs.YtmajmolbjiahlaaGreatDoorW.PrintWords Go.Proofs.YtmajmolbjiahlaaGreatDoorW.PrintLast Go.Proofs.YtmajmolbjiahlaaGreatDoorW.PrintMore
attribute [local go_sem] isSome_setCell max2_int min2_int max_two min_two max_three min_three max_four min_four
set_option linter.unusedVariables false
set_option linter.unusedSimpArgs false
def date_Stamp.f (a0 : Int) : Option (ByteArray) := (date_In.f a0).bind fun t269 => (if t269 = true then ((date_Parts.f a0).bind fun bt270 => ((date_Day.f bt270.1).bind fun t272 => (if t272.size + 1 ≤ 9223372036854775807 then ((date_clock.f bt270.2 (⟨#[]⟩ : ByteArray)).bind fun t273 => (if (t272 ++ (⟨#[84]⟩ : ByteArray)).size + t273.size ≤ 9223372036854775807 then (some ((t272 ++ (⟨#[84]⟩ : ByteArray)) ++ t273)) else (none))) else (none)))) else (some (⟨#[]⟩ : ByteArray)))
set_option maxHeartbeats 8000000 in
set_option maxRecDepth 100000 in
theorem date_Stamp.calls (a0 : Int) (r : ByteArray) (w : World) (h : date_Stamp.f a0 = some r) (hTab : Tab w) :
    Calls Tryz.prog 52 #[.int .i64 a0] w fun e w' => e = .returned (.string r) ∧ Below w.heap.size w w' := by
  have HTab := Aside0.mk hTab
  clear hTab
  have HB := Aside0.mk (Below.refl w.heap.size w)
  have H : ((date_In.f a0).bind fun t269 => (if t269 = true then ((date_Parts.f a0).bind fun bt270 => ((date_Day.f bt270.1).bind fun t272 => (if t272.size + 1 ≤ 9223372036854775807 then ((date_clock.f bt270.2 (⟨#[]⟩ : ByteArray)).bind fun t273 => (if (t272 ++ (⟨#[84]⟩ : ByteArray)).size + t273.size ≤ 9223372036854775807 then (some ((t272 ++ (⟨#[84]⟩ : ByteArray)) ++ t273)) else (none))) else (none)))) else (some (⟨#[]⟩ : ByteArray)))) = some r := h
  clear h
  replace H := Option.bind_eq_some_iff.mp H
  obtain ⟨t269, A20, H⟩ := H
  replace H : (if t269 = true then ((date_Parts.f a0).bind fun bt270 => ((date_Day.f bt270.1).bind fun t272 => (if t272.size + 1 ≤ 9223372036854775807 then ((date_clock.f bt270.2 (⟨#[]⟩ : ByteArray)).bind fun t273 => (if (t272 ++ (⟨#[84]⟩ : ByteArray)).size + t273.size ≤ 9223372036854775807 then (some ((t272 ++ (⟨#[84]⟩ : ByteArray)) ++ t273)) else (none))) else (none)))) else (some (⟨#[]⟩ : ByteArray))) = some r := H
  have A2 := Aside0.mk A20
  clear A20
  by_cases c3 : t269 = true
  · subst c3
    have H1 : ((date_Parts.f a0).bind fun bt270 => ((date_Day.f bt270.1).bind fun t272 => (if t272.size + 1 ≤ 9223372036854775807 then ((date_clock.f bt270.2 (⟨#[]⟩ : ByteArray)).bind fun t273 => (if (t272 ++ (⟨#[84]⟩ : ByteArray)).size + t273.size ≤ 9223372036854775807 then (some ((t272 ++ (⟨#[84]⟩ : ByteArray)) ++ t273)) else (none))) else (none)))) = some r := by rw [if_pos rfl] at H; exact H
    clear H
    have H := H1
    clear H1
    replace H := Option.bind_eq_some_iff.mp H
    obtain ⟨⟨t270, t271⟩, A40, H⟩ := H
    replace H : ((date_Day.f t270).bind fun t272 => (if t272.size + 1 ≤ 9223372036854775807 then ((date_clock.f t271 (⟨#[]⟩ : ByteArray)).bind fun t273 => (if (t272 ++ (⟨#[84]⟩ : ByteArray)).size + t273.size ≤ 9223372036854775807 then (some ((t272 ++ (⟨#[84]⟩ : ByteArray)) ++ t273)) else (none))) else (none))) = some r := H
    have A4 := Aside0.mk A40
    clear A40
    replace H := Option.bind_eq_some_iff.mp H
    obtain ⟨t272, A50, H⟩ := H
    replace H : (if t272.size + 1 ≤ 9223372036854775807 then ((date_clock.f t271 (⟨#[]⟩ : ByteArray)).bind fun t273 => (if (t272 ++ (⟨#[84]⟩ : ByteArray)).size + t273.size ≤ 9223372036854775807 then (some ((t272 ++ (⟨#[84]⟩ : ByteArray)) ++ t273)) else (none))) else (none)) = some r := H
    have A5 := Aside0.mk A50
    clear A50
    by_cases c6 : t272.size + 1 ≤ 9223372036854775807
    · rw [if_pos c6] at H
      have c6b0 := eq_true c6
      have c6b1 : decide (t272.size + 1 ≤ 9223372036854775807) = true := decide_eq_true c6
      try have c6b2 : (9223372036854775807 < t272.size + 1) = False := eq_false (Nat.not_lt.2 c6)
      replace H := Option.bind_eq_some_iff.mp H
      obtain ⟨t273, A70, H⟩ := H
      replace H : (if (t272 ++ (⟨#[84]⟩ : ByteArray)).size + t273.size ≤ 9223372036854775807 then (some ((t272 ++ (⟨#[84]⟩ : ByteArray)) ++ t273)) else (none)) = some r := H
      have A7 := Aside0.mk A70
      clear A70
      by_cases c8 : (t272 ++ (⟨#[84]⟩ : ByteArray)).size + t273.size ≤ 9223372036854775807
      · rw [if_pos c8] at H
        have c8b0 := eq_true c8
        have c8b1 : decide ((t272 ++ (⟨#[84]⟩ : ByteArray)).size + t273.size ≤ 9223372036854775807) = true := decide_eq_true c8
        try have c8b2 : (9223372036854775807 < (t272 ++ (⟨#[84]⟩ : ByteArray)).size + t273.size) = False := eq_false (Nat.not_lt.2 c8)
        try have c8b3 : (9223372036854775807 < t272.size + 1 + t273.size) = False := eq_false (Nat.not_lt.2 (by have h_ := c8; simp only [ByteArray.size_append] at h_; exact h_))
        obtain rfl := Option.some.inj H
        go_enter Tryz.func52, Tryz.ntmps52
        go_wp2_with (first | ((with_reducible refine gate_callee (f := 22) rfl ?_); refine goesL_ (some 6) rfl rfl Tryz.func22 (by kernel_rfl) rfl #[.int .i64 a0] rfl (by (try simp only [List.map_toArray, List.map_cons, List.map_nil]); first | done | rfl | (simp only [List.length_drop, List.length_take]; rfl)) ?_; (with_reducible refine (date_In.calls a0 true _ A2.out).mono ?_); rintro e w' ⟨rfl, ⟨nd, rfl⟩⟩; refine ⟨_, rfl, ?_⟩) | ((with_reducible refine gate_callee (f := 42) rfl ?_); refine goesL_ (some 10) rfl rfl Tryz.func42 (by kernel_rfl) rfl #[.int .i64 a0] rfl (by (try simp only [List.map_toArray, List.map_cons, List.map_nil]); first | done | rfl | (simp only [List.length_drop, List.length_take]; rfl)) ?_; (with_reducible refine (date_Parts.calls a0 t270 t271 _ A4.out).mono ?_); rintro e w' ⟨rfl, ⟨nd, rfl⟩⟩; refine ⟨_, rfl, ?_⟩) | ((with_reducible refine gate_callee (f := 81) rfl ?_); refine goesL_ (some 14) rfl rfl Tryz.func81 (by kernel_rfl) rfl #[.int .i64 t270] rfl (by (try simp only [List.map_toArray, List.map_cons, List.map_nil]); first | done | rfl | (simp only [List.length_drop, List.length_take]; rfl)) ?_; (with_reducible refine (date_Day.calls t270 t272 _ A5.out (HTab.out.below (by repeat (first | (with_reducible first | exact HB.out | apply below_alloc | apply pw_below_drewN | apply below_drew1) | exact HB.out)))).mono ?_); rintro e w9 ⟨rfl, hb⟩; refine ⟨_, rfl, ?_⟩; have n0_ := Aside0.mk (below_step (by repeat (first | (with_reducible first | exact HB.out | apply below_alloc | apply pw_below_drewN | apply below_drew1) | exact HB.out)) hb); clear HB; have HB := n0_; clear n0_; (try clear hb); (try clear hb2); (try clear hk); (try clear hi)) | ((with_reducible refine gate_callee (f := 82) rfl ?_); refine goesL_ (some 17) rfl rfl Tryz.func82 (by kernel_rfl) rfl #[.int .i64 t271, .string (⟨#[]⟩ : ByteArray)] rfl (by (try simp only [List.map_toArray, List.map_cons, List.map_nil]); first | done | rfl | (simp only [List.length_drop, List.length_take]; rfl)) ?_; (with_reducible refine (date_clock.calls t271 (⟨#[]⟩ : ByteArray) t273 _ A7.out (HTab.out.below (by repeat (first | (with_reducible first | exact HB.out | apply below_alloc | apply pw_below_drewN | apply below_drew1) | exact HB.out)))).mono ?_); rintro e w10 ⟨rfl, hb⟩; refine ⟨_, rfl, ?_⟩; have n0_ := Aside0.mk (below_step (by repeat (first | (with_reducible first | exact HB.out | apply below_alloc | apply pw_below_drewN | apply below_drew1) | exact HB.out)) hb); clear HB; have HB := n0_; clear n0_; (try clear hb); (try clear hb2); (try clear hk); (try clear hi)))
        go_ret
        exact ⟨by first | rfl | (simp [errW_none, errW_some] <;> rfl) | (simp [*, errW_none, errW_some] <;> rfl), by repeat (first | (with_reducible first | exact HB.out | apply below_alloc | apply pw_below_drewN | apply below_drew1) | exact HB.out)⟩
      · rw [if_neg c8] at H
        exact absurd H (by simp)
    · rw [if_neg c6] at H
      exact absurd H (by simp)
  · replace c3 := Bool.eq_false_iff.mpr c3
    subst c3
    have H1 : (some (⟨#[]⟩ : ByteArray)) = some r := by rw [if_neg (show ¬ (false = true) by decide)] at H; exact H
    clear H
    have H := H1
    clear H1
    obtain rfl := Option.some.inj H
    go_enter Tryz.func52, Tryz.ntmps52
    go_wp2_with (first | ((with_reducible refine gate_callee (f := 22) rfl ?_); refine goesL_ (some 6) rfl rfl Tryz.func22 (by kernel_rfl) rfl #[.int .i64 a0] rfl (by (try simp only [List.map_toArray, List.map_cons, List.map_nil]); first | done | rfl | (simp only [List.length_drop, List.length_take]; rfl)) ?_; (with_reducible refine (date_In.calls a0 false _ A2.out).mono ?_); rintro e w' ⟨rfl, ⟨nd, rfl⟩⟩; refine ⟨_, rfl, ?_⟩))
    go_ret
    exact ⟨by first | rfl | (simp [errW_none, errW_some] <;> rfl) | (simp [*, errW_none, errW_some] <;> rfl), by repeat (first | (with_reducible first | exact HB.out | apply below_alloc | apply pw_below_drewN | apply below_drew1) | exact HB.out)⟩
end Go.Proofs.YtmajmolbjiahlaaGreatDoor.PD
namespace Go.Proofs.YtmajmolbjiahlaaGreatDoor.PD
open Go.RowKit Go.Proofs.YtmajmolbjiahlaaGreatDoorW.PrintWords Go.Proofs.YtmajmolbjiahlaaGreatDoorW.PrintLast Go.Proofs.YtmajmolbjiahlaaGreatDoorW.PrintMore
attribute [local go_sem] isSome_setCell max2_int min2_int max_two min_two max_three min_three max_four min_four
set_option linter.unusedVariables false
set_option linter.unusedSimpArgs false
def date_ReadStamp.f (a0 : ByteArray) : Option (Int × Int) := if (a0.size : Int) = 15 then (if 0 ≤ 8 then (if 8 ≤ (a0.size : Int) then ((date_ReadDay.f (a0.extract 0 8)).bind fun bt274 => ((date_field.f a0 9 2).bind fun t276 => ((date_field.f a0 11 2).bind fun t277 => ((date_field.f a0 13 2).bind fun t278 => (if bt274.2 = 0 then ((date_Stamp.f (wrap64 ((wrap64 ((wrap64 ((wrap64 (bt274.1 * 86400)) + (wrap64 (t276 * 3600)))) + (wrap64 (t277 * 60)))) + t278))).bind fun t279 => (if t279.toList = a0.toList then (some (wrap64 ((wrap64 ((wrap64 ((wrap64 (bt274.1 * 86400)) + (wrap64 (t276 * 3600)))) + (wrap64 (t277 * 60)))) + t278), 0)) else (some (0, 10)))) else (some (0, 10))))))) else (none)) else (none)) else (some (0, 10))
set_option maxHeartbeats 8000000 in
set_option maxRecDepth 100000 in
theorem date_ReadStamp.calls (a0 : ByteArray) (r1 : Int) (r2 : Int) (w : World) (h : date_ReadStamp.f a0 = some (r1, r2)) (hTab : Tab w) :
    Calls Tryz.prog 31 #[.string a0] w fun e w' => e = .returned (.tuple #[.int .i64 r1, .int .i64 r2]) ∧ Below w.heap.size w w' := by
  have HTab := Aside0.mk hTab
  clear hTab
  have HB := Aside0.mk (Below.refl w.heap.size w)
  have H : (if (a0.size : Int) = 15 then (if 0 ≤ 8 then (if 8 ≤ (a0.size : Int) then ((date_ReadDay.f (a0.extract 0 8)).bind fun bt274 => ((date_field.f a0 9 2).bind fun t276 => ((date_field.f a0 11 2).bind fun t277 => ((date_field.f a0 13 2).bind fun t278 => (if bt274.2 = 0 then ((date_Stamp.f (wrap64 ((wrap64 ((wrap64 ((wrap64 (bt274.1 * 86400)) + (wrap64 (t276 * 3600)))) + (wrap64 (t277 * 60)))) + t278))).bind fun t279 => (if t279.toList = a0.toList then (some (wrap64 ((wrap64 ((wrap64 ((wrap64 (bt274.1 * 86400)) + (wrap64 (t276 * 3600)))) + (wrap64 (t277 * 60)))) + t278), 0)) else (some (0, 10)))) else (some (0, 10))))))) else (none)) else (none)) else (some (0, 10))) = some (r1, r2) := h
  clear h
  by_cases c2 : (a0.size : Int) = 15
  · rw [if_pos c2] at H
    have c2b0 : ((a0.size : Int) == 15) = true := beq_iff_eq.mpr c2
    have c2b1 : ((a0.size : Int) != 15) = false := bne_eq_false_iff_eq.mpr c2
    clear c2
    by_cases c3 : 0 ≤ 8
    · rw [if_pos c3] at H
      have c3b0 := eq_true c3
      have c3b1 : decide (0 ≤ 8) = true := decide_eq_true c3
      clear c3
      by_cases c4 : 8 ≤ (a0.size : Int)
      · rw [if_pos c4] at H
        have c4b0 := eq_true c4
        have c4b1 : decide (8 ≤ (a0.size : Int)) = true := decide_eq_true c4
        clear c4
        replace H := Option.bind_eq_some_iff.mp H
        obtain ⟨⟨t274, t275⟩, A50, H⟩ := H
        replace H : ((date_field.f a0 9 2).bind fun t276 => ((date_field.f a0 11 2).bind fun t277 => ((date_field.f a0 13 2).bind fun t278 => (if t275 = 0 then ((date_Stamp.f (wrap64 ((wrap64 ((wrap64 ((wrap64 (t274 * 86400)) + (wrap64 (t276 * 3600)))) + (wrap64 (t277 * 60)))) + t278))).bind fun t279 => (if t279.toList = a0.toList then (some (wrap64 ((wrap64 ((wrap64 ((wrap64 (t274 * 86400)) + (wrap64 (t276 * 3600)))) + (wrap64 (t277 * 60)))) + t278), 0)) else (some (0, 10)))) else (some (0, 10)))))) = some (r1, r2) := H
        have A5 := Aside0.mk A50
        clear A50
        replace H := Option.bind_eq_some_iff.mp H
        obtain ⟨t276, A60, H⟩ := H
        replace H : ((date_field.f a0 11 2).bind fun t277 => ((date_field.f a0 13 2).bind fun t278 => (if t275 = 0 then ((date_Stamp.f (wrap64 ((wrap64 ((wrap64 ((wrap64 (t274 * 86400)) + (wrap64 (t276 * 3600)))) + (wrap64 (t277 * 60)))) + t278))).bind fun t279 => (if t279.toList = a0.toList then (some (wrap64 ((wrap64 ((wrap64 ((wrap64 (t274 * 86400)) + (wrap64 (t276 * 3600)))) + (wrap64 (t277 * 60)))) + t278), 0)) else (some (0, 10)))) else (some (0, 10))))) = some (r1, r2) := H
        have A6 := Aside0.mk A60
        clear A60
        replace H := Option.bind_eq_some_iff.mp H
        obtain ⟨t277, A70, H⟩ := H
        replace H : ((date_field.f a0 13 2).bind fun t278 => (if t275 = 0 then ((date_Stamp.f (wrap64 ((wrap64 ((wrap64 ((wrap64 (t274 * 86400)) + (wrap64 (t276 * 3600)))) + (wrap64 (t277 * 60)))) + t278))).bind fun t279 => (if t279.toList = a0.toList then (some (wrap64 ((wrap64 ((wrap64 ((wrap64 (t274 * 86400)) + (wrap64 (t276 * 3600)))) + (wrap64 (t277 * 60)))) + t278), 0)) else (some (0, 10)))) else (some (0, 10)))) = some (r1, r2) := H
        have A7 := Aside0.mk A70
        clear A70
        replace H := Option.bind_eq_some_iff.mp H
        obtain ⟨t278, A80, H⟩ := H
        replace H : (if t275 = 0 then ((date_Stamp.f (wrap64 ((wrap64 ((wrap64 ((wrap64 (t274 * 86400)) + (wrap64 (t276 * 3600)))) + (wrap64 (t277 * 60)))) + t278))).bind fun t279 => (if t279.toList = a0.toList then (some (wrap64 ((wrap64 ((wrap64 ((wrap64 (t274 * 86400)) + (wrap64 (t276 * 3600)))) + (wrap64 (t277 * 60)))) + t278), 0)) else (some (0, 10)))) else (some (0, 10))) = some (r1, r2) := H
        have A8 := Aside0.mk A80
        clear A80
        by_cases c9 : t275 = 0
        · rw [if_pos c9] at H
          have c9b0 : (t275 == 0) = true := beq_iff_eq.mpr c9
          have c9b1 : (t275 != 0) = false := bne_eq_false_iff_eq.mpr c9
          clear c9
          replace H := Option.bind_eq_some_iff.mp H
          obtain ⟨t279, A100, H⟩ := H
          replace H : (if t279.toList = a0.toList then (some (wrap64 ((wrap64 ((wrap64 ((wrap64 (t274 * 86400)) + (wrap64 (t276 * 3600)))) + (wrap64 (t277 * 60)))) + t278), 0)) else (some (0, 10))) = some (r1, r2) := H
          have A10 := Aside0.mk A100
          clear A100
          by_cases c11 : t279.toList = a0.toList
          · rw [if_pos c11] at H
            have c11b0 : (t279.toList == a0.toList) = true := beq_iff_eq.mpr c11
            have c11b1 : (t279.toList != a0.toList) = false := bne_eq_false_iff_eq.mpr c11
            clear c11
            simp only [Option.some.injEq, Prod.mk.injEq] at H
            obtain ⟨rfl, rfl⟩ := H
            go_enter Tryz.func31, Tryz.ntmps31
            go_wp2_with (first | ((with_reducible refine gate_callee (f := 50) rfl ?_); refine goesL_ (some 13) rfl rfl Tryz.func50 (by kernel_rfl) rfl #[.string (a0.extract 0 8)] rfl (by (try simp only [List.map_toArray, List.map_cons, List.map_nil]); first | done | rfl | (simp only [List.length_drop, List.length_take]; rfl)) ?_; (with_reducible refine (date_ReadDay.calls (a0.extract 0 8) t274 t275 _ A5.out).mono ?_); rintro e w12 ⟨rfl, hb⟩; refine ⟨_, rfl, ?_⟩; have n0_ := Aside0.mk (below_step (by repeat (first | (with_reducible first | exact HB.out | apply below_alloc | apply pw_below_drewN | apply below_drew1) | exact HB.out)) hb); clear HB; have HB := n0_; clear n0_; (try clear hb); (try clear hb2); (try clear hk); (try clear hi)) | ((with_reducible refine gate_callee (f := 51) rfl ?_); refine goesL_ (some 19) rfl rfl Tryz.func51 (by kernel_rfl) rfl #[.string a0, .int .i64 9, .int .i64 2] rfl (by (try simp only [List.map_toArray, List.map_cons, List.map_nil]); first | done | rfl | (simp only [List.length_drop, List.length_take]; rfl)) ?_; (with_reducible refine (date_field.calls a0 9 2 t276 _ A6.out).mono ?_); rintro e w13 ⟨rfl, hb⟩; refine ⟨_, rfl, ?_⟩; have n0_ := Aside0.mk (below_step (by repeat (first | (with_reducible first | exact HB.out | apply below_alloc | apply pw_below_drewN | apply below_drew1) | exact HB.out)) hb); clear HB; have HB := n0_; clear n0_; (try clear hb); (try clear hb2); (try clear hk); (try clear hi)) | ((with_reducible refine gate_callee (f := 51) rfl ?_); refine goesL_ (some 23) rfl rfl Tryz.func51 (by kernel_rfl) rfl #[.string a0, .int .i64 11, .int .i64 2] rfl (by (try simp only [List.map_toArray, List.map_cons, List.map_nil]); first | done | rfl | (simp only [List.length_drop, List.length_take]; rfl)) ?_; (with_reducible refine (date_field.calls a0 11 2 t277 _ A7.out).mono ?_); rintro e w14 ⟨rfl, hb⟩; refine ⟨_, rfl, ?_⟩; have n0_ := Aside0.mk (below_step (by repeat (first | (with_reducible first | exact HB.out | apply below_alloc | apply pw_below_drewN | apply below_drew1) | exact HB.out)) hb); clear HB; have HB := n0_; clear n0_; (try clear hb); (try clear hb2); (try clear hk); (try clear hi)) | ((with_reducible refine gate_callee (f := 51) rfl ?_); refine goesL_ (some 27) rfl rfl Tryz.func51 (by kernel_rfl) rfl #[.string a0, .int .i64 13, .int .i64 2] rfl (by (try simp only [List.map_toArray, List.map_cons, List.map_nil]); first | done | rfl | (simp only [List.length_drop, List.length_take]; rfl)) ?_; (with_reducible refine (date_field.calls a0 13 2 t278 _ A8.out).mono ?_); rintro e w15 ⟨rfl, hb⟩; refine ⟨_, rfl, ?_⟩; have n0_ := Aside0.mk (below_step (by repeat (first | (with_reducible first | exact HB.out | apply below_alloc | apply pw_below_drewN | apply below_drew1) | exact HB.out)) hb); clear HB; have HB := n0_; clear n0_; (try clear hb); (try clear hb2); (try clear hk); (try clear hi)) | (go_at_call 52; (with_reducible refine (date_Stamp.calls (wrap64 ((wrap64 ((wrap64 ((wrap64 (t274 * 86400)) + (wrap64 (t276 * 3600)))) + (wrap64 (t277 * 60)))) + t278)) t279 _ A10.out (HTab.out.below (by repeat (first | (with_reducible first | exact HB.out | apply below_alloc | apply pw_below_drewN | apply below_drew1) | exact HB.out)))).mono ?_); rintro e w16 ⟨rfl, hb⟩; have n0_ := Aside0.mk (below_step (by repeat (first | (with_reducible first | exact HB.out | apply below_alloc | apply pw_below_drewN | apply below_drew1) | exact HB.out)) hb); clear HB; have HB := n0_; clear n0_; (try clear hb); (try clear hb2); (try clear hk); (try clear hi)))
            go_ret2
            exact ⟨by first | rfl | (simp [errW_none, errW_some] <;> rfl) | (simp [*, errW_none, errW_some] <;> rfl), by repeat (first | (with_reducible first | exact HB.out | apply below_alloc | apply pw_below_drewN | apply below_drew1) | exact HB.out)⟩
          · rw [if_neg c11] at H
            have c11b0 : (t279.toList == a0.toList) = false := beq_eq_false_iff_ne.mpr c11
            have c11b1 : (t279.toList != a0.toList) = true := bne_iff_ne.mpr c11
            simp only [Option.some.injEq, Prod.mk.injEq] at H
            obtain ⟨rfl, rfl⟩ := H
            go_enter Tryz.func31, Tryz.ntmps31
            go_wp2_with (first | ((with_reducible refine gate_callee (f := 50) rfl ?_); refine goesL_ (some 13) rfl rfl Tryz.func50 (by kernel_rfl) rfl #[.string (a0.extract 0 8)] rfl (by (try simp only [List.map_toArray, List.map_cons, List.map_nil]); first | done | rfl | (simp only [List.length_drop, List.length_take]; rfl)) ?_; (with_reducible refine (date_ReadDay.calls (a0.extract 0 8) t274 t275 _ A5.out).mono ?_); rintro e w17 ⟨rfl, hb⟩; refine ⟨_, rfl, ?_⟩; have n0_ := Aside0.mk (below_step (by repeat (first | (with_reducible first | exact HB.out | apply below_alloc | apply pw_below_drewN | apply below_drew1) | exact HB.out)) hb); clear HB; have HB := n0_; clear n0_; (try clear hb); (try clear hb2); (try clear hk); (try clear hi)) | ((with_reducible refine gate_callee (f := 51) rfl ?_); refine goesL_ (some 19) rfl rfl Tryz.func51 (by kernel_rfl) rfl #[.string a0, .int .i64 9, .int .i64 2] rfl (by (try simp only [List.map_toArray, List.map_cons, List.map_nil]); first | done | rfl | (simp only [List.length_drop, List.length_take]; rfl)) ?_; (with_reducible refine (date_field.calls a0 9 2 t276 _ A6.out).mono ?_); rintro e w18 ⟨rfl, hb⟩; refine ⟨_, rfl, ?_⟩; have n0_ := Aside0.mk (below_step (by repeat (first | (with_reducible first | exact HB.out | apply below_alloc | apply pw_below_drewN | apply below_drew1) | exact HB.out)) hb); clear HB; have HB := n0_; clear n0_; (try clear hb); (try clear hb2); (try clear hk); (try clear hi)) | ((with_reducible refine gate_callee (f := 51) rfl ?_); refine goesL_ (some 23) rfl rfl Tryz.func51 (by kernel_rfl) rfl #[.string a0, .int .i64 11, .int .i64 2] rfl (by (try simp only [List.map_toArray, List.map_cons, List.map_nil]); first | done | rfl | (simp only [List.length_drop, List.length_take]; rfl)) ?_; (with_reducible refine (date_field.calls a0 11 2 t277 _ A7.out).mono ?_); rintro e w19 ⟨rfl, hb⟩; refine ⟨_, rfl, ?_⟩; have n0_ := Aside0.mk (below_step (by repeat (first | (with_reducible first | exact HB.out | apply below_alloc | apply pw_below_drewN | apply below_drew1) | exact HB.out)) hb); clear HB; have HB := n0_; clear n0_; (try clear hb); (try clear hb2); (try clear hk); (try clear hi)) | ((with_reducible refine gate_callee (f := 51) rfl ?_); refine goesL_ (some 27) rfl rfl Tryz.func51 (by kernel_rfl) rfl #[.string a0, .int .i64 13, .int .i64 2] rfl (by (try simp only [List.map_toArray, List.map_cons, List.map_nil]); first | done | rfl | (simp only [List.length_drop, List.length_take]; rfl)) ?_; (with_reducible refine (date_field.calls a0 13 2 t278 _ A8.out).mono ?_); rintro e w20 ⟨rfl, hb⟩; refine ⟨_, rfl, ?_⟩; have n0_ := Aside0.mk (below_step (by repeat (first | (with_reducible first | exact HB.out | apply below_alloc | apply pw_below_drewN | apply below_drew1) | exact HB.out)) hb); clear HB; have HB := n0_; clear n0_; (try clear hb); (try clear hb2); (try clear hk); (try clear hi)) | (go_at_call 52; (with_reducible refine (date_Stamp.calls (wrap64 ((wrap64 ((wrap64 ((wrap64 (t274 * 86400)) + (wrap64 (t276 * 3600)))) + (wrap64 (t277 * 60)))) + t278)) t279 _ A10.out (HTab.out.below (by repeat (first | (with_reducible first | exact HB.out | apply below_alloc | apply pw_below_drewN | apply below_drew1) | exact HB.out)))).mono ?_); rintro e w21 ⟨rfl, hb⟩; have n0_ := Aside0.mk (below_step (by repeat (first | (with_reducible first | exact HB.out | apply below_alloc | apply pw_below_drewN | apply below_drew1) | exact HB.out)) hb); clear HB; have HB := n0_; clear n0_; (try clear hb); (try clear hb2); (try clear hk); (try clear hi)))
            go_ret2
            exact ⟨by first | rfl | (simp [errW_none, errW_some] <;> rfl) | (simp [*, errW_none, errW_some] <;> rfl), by repeat (first | (with_reducible first | exact HB.out | apply below_alloc | apply pw_below_drewN | apply below_drew1) | exact HB.out)⟩
        · rw [if_neg c9] at H
          have c9b0 : (t275 == 0) = false := beq_eq_false_iff_ne.mpr c9
          have c9b1 : (t275 != 0) = true := bne_iff_ne.mpr c9
          simp only [Option.some.injEq, Prod.mk.injEq] at H
          obtain ⟨rfl, rfl⟩ := H
          go_enter Tryz.func31, Tryz.ntmps31
          go_wp2_with (first | ((with_reducible refine gate_callee (f := 50) rfl ?_); refine goesL_ (some 13) rfl rfl Tryz.func50 (by kernel_rfl) rfl #[.string (a0.extract 0 8)] rfl (by (try simp only [List.map_toArray, List.map_cons, List.map_nil]); first | done | rfl | (simp only [List.length_drop, List.length_take]; rfl)) ?_; (with_reducible refine (date_ReadDay.calls (a0.extract 0 8) t274 t275 _ A5.out).mono ?_); rintro e w22 ⟨rfl, hb⟩; refine ⟨_, rfl, ?_⟩; have n0_ := Aside0.mk (below_step (by repeat (first | (with_reducible first | exact HB.out | apply below_alloc | apply pw_below_drewN | apply below_drew1) | exact HB.out)) hb); clear HB; have HB := n0_; clear n0_; (try clear hb); (try clear hb2); (try clear hk); (try clear hi)) | ((with_reducible refine gate_callee (f := 51) rfl ?_); refine goesL_ (some 19) rfl rfl Tryz.func51 (by kernel_rfl) rfl #[.string a0, .int .i64 9, .int .i64 2] rfl (by (try simp only [List.map_toArray, List.map_cons, List.map_nil]); first | done | rfl | (simp only [List.length_drop, List.length_take]; rfl)) ?_; (with_reducible refine (date_field.calls a0 9 2 t276 _ A6.out).mono ?_); rintro e w23 ⟨rfl, hb⟩; refine ⟨_, rfl, ?_⟩; have n0_ := Aside0.mk (below_step (by repeat (first | (with_reducible first | exact HB.out | apply below_alloc | apply pw_below_drewN | apply below_drew1) | exact HB.out)) hb); clear HB; have HB := n0_; clear n0_; (try clear hb); (try clear hb2); (try clear hk); (try clear hi)) | ((with_reducible refine gate_callee (f := 51) rfl ?_); refine goesL_ (some 23) rfl rfl Tryz.func51 (by kernel_rfl) rfl #[.string a0, .int .i64 11, .int .i64 2] rfl (by (try simp only [List.map_toArray, List.map_cons, List.map_nil]); first | done | rfl | (simp only [List.length_drop, List.length_take]; rfl)) ?_; (with_reducible refine (date_field.calls a0 11 2 t277 _ A7.out).mono ?_); rintro e w24 ⟨rfl, hb⟩; refine ⟨_, rfl, ?_⟩; have n0_ := Aside0.mk (below_step (by repeat (first | (with_reducible first | exact HB.out | apply below_alloc | apply pw_below_drewN | apply below_drew1) | exact HB.out)) hb); clear HB; have HB := n0_; clear n0_; (try clear hb); (try clear hb2); (try clear hk); (try clear hi)) | ((with_reducible refine gate_callee (f := 51) rfl ?_); refine goesL_ (some 27) rfl rfl Tryz.func51 (by kernel_rfl) rfl #[.string a0, .int .i64 13, .int .i64 2] rfl (by (try simp only [List.map_toArray, List.map_cons, List.map_nil]); first | done | rfl | (simp only [List.length_drop, List.length_take]; rfl)) ?_; (with_reducible refine (date_field.calls a0 13 2 t278 _ A8.out).mono ?_); rintro e w25 ⟨rfl, hb⟩; refine ⟨_, rfl, ?_⟩; have n0_ := Aside0.mk (below_step (by repeat (first | (with_reducible first | exact HB.out | apply below_alloc | apply pw_below_drewN | apply below_drew1) | exact HB.out)) hb); clear HB; have HB := n0_; clear n0_; (try clear hb); (try clear hb2); (try clear hk); (try clear hi)))
          go_ret2
          exact ⟨by first | rfl | (simp [errW_none, errW_some] <;> rfl) | (simp [*, errW_none, errW_some] <;> rfl), by repeat (first | (with_reducible first | exact HB.out | apply below_alloc | apply pw_below_drewN | apply below_drew1) | exact HB.out)⟩
      · rw [if_neg c4] at H
        exact absurd H (by simp)
    · rw [if_neg c3] at H
      exact absurd H (by simp)
  · rw [if_neg c2] at H
    have c2b0 : ((a0.size : Int) == 15) = false := beq_eq_false_iff_ne.mpr c2
    have c2b1 : ((a0.size : Int) != 15) = true := bne_iff_ne.mpr c2
    simp only [Option.some.injEq, Prod.mk.injEq] at H
    obtain ⟨rfl, rfl⟩ := H
    go_enter Tryz.func31, Tryz.ntmps31
    go_wp2
    go_ret2
    exact ⟨by first | rfl | (simp [errW_none, errW_some] <;> rfl) | (simp [*, errW_none, errW_some] <;> rfl), by repeat (first | (with_reducible first | exact HB.out | apply below_alloc | apply pw_below_drewN | apply below_drew1) | exact HB.out)⟩
end Go.Proofs.YtmajmolbjiahlaaGreatDoor.PD
namespace Go.Proofs.YtmajmolbjiahlaaGreatDoor.PD
open Go.RowKit Go.Proofs.YtmajmolbjiahlaaGreatDoorW.PrintWords Go.Proofs.YtmajmolbjiahlaaGreatDoorW.PrintLast Go.Proofs.YtmajmolbjiahlaaGreatDoorW.PrintMore
attribute [local go_sem] isSome_setCell max2_int min2_int max_two min_two max_three min_three max_four min_four
set_option linter.unusedVariables false
set_option linter.unusedSimpArgs false
def zone_stamp.f (a0 : ByteArray) : Option (Int) := (date_ReadStamp.f a0).bind fun bt280 => (some bt280.1)
set_option maxHeartbeats 8000000 in
set_option maxRecDepth 100000 in
theorem zone_stamp.calls (a0 : ByteArray) (r : Int) (w : World) (h : zone_stamp.f a0 = some r) (hTab : Tab w) :
    Calls Tryz.prog 54 #[.string a0] w fun e w' => e = .returned (.int .i64 r) ∧ Below w.heap.size w w' := by
  have HTab := Aside0.mk hTab
  clear hTab
  have HB := Aside0.mk (Below.refl w.heap.size w)
  have H : ((date_ReadStamp.f a0).bind fun bt280 => (some bt280.1)) = some r := h
  clear h
  replace H := Option.bind_eq_some_iff.mp H
  obtain ⟨⟨t280, t281⟩, A20, H⟩ := H
  replace H : (some t280) = some r := H
  have A2 := Aside0.mk A20
  clear A20
  obtain rfl := Option.some.inj H
  go_enter Tryz.func54, Tryz.ntmps54
  go_wp2_with (first | ((with_reducible refine gate_callee (f := 31) rfl ?_); refine goesL_ (some 7) rfl rfl Tryz.func31 (by kernel_rfl) rfl #[.string a0] rfl (by (try simp only [List.map_toArray, List.map_cons, List.map_nil]); first | done | rfl | (simp only [List.length_drop, List.length_take]; rfl)) ?_; (with_reducible refine (date_ReadStamp.calls a0 t280 t281 _ A2.out (HTab.out.below (by repeat (first | (with_reducible first | exact HB.out | apply below_alloc | apply pw_below_drewN | apply below_drew1) | exact HB.out)))).mono ?_); rintro e w3 ⟨rfl, hb⟩; refine ⟨_, rfl, ?_⟩; have n0_ := Aside0.mk (below_step (by repeat (first | (with_reducible first | exact HB.out | apply below_alloc | apply pw_below_drewN | apply below_drew1) | exact HB.out)) hb); clear HB; have HB := n0_; clear n0_; (try clear hb); (try clear hb2); (try clear hk); (try clear hi)))
  go_ret
  exact ⟨by first | rfl | (simp [errW_none, errW_some] <;> rfl) | (simp [*, errW_none, errW_some] <;> rfl), by repeat (first | (with_reducible first | exact HB.out | apply below_alloc | apply pw_below_drewN | apply below_drew1) | exact HB.out)⟩
end Go.Proofs.YtmajmolbjiahlaaGreatDoor.PD
namespace Go.Proofs.YtmajmolbjiahlaaGreatDoor.PD
open Go.RowKit Go.Proofs.YtmajmolbjiahlaaGreatDoorW.PrintWords Go.Proofs.YtmajmolbjiahlaaGreatDoorW.PrintLast Go.Proofs.YtmajmolbjiahlaaGreatDoorW.PrintMore
attribute [local go_sem] isSome_setCell max2_int min2_int max_two min_two max_three min_three max_four min_four
set_option linter.unusedVariables false
set_option linter.unusedSimpArgs false
def zone_sundays.f (a0 : ByteArray) (a1 : Int) (a2 : Int) (a3 : Int) (a4 : Int) : Option (Int × Int × Int × Bool × Int × Int × Int) := (zone_stamp.f a0).bind fun t283 => (some (t283, wrap64 (a1 * 3600), wrap64 (a2 * 3600), true, a3, a4, 6))
set_option maxHeartbeats 8000000 in
set_option maxRecDepth 100000 in
theorem zone_sundays.calls (a0 : ByteArray) (a1 : Int) (a2 : Int) (a3 : Int) (a4 : Int) (r1 : Int) (r2 : Int) (r3 : Int) (r4 : Bool) (r5 : Int) (r6 : Int) (r7 : Int) (w : World) (h : zone_sundays.f a0 a1 a2 a3 a4 = some (r1, r2, r3, r4, r5, r6, r7)) (hTab : Tab w) :
    Calls Tryz.prog 53 #[.string a0, .int .i64 a1, .int .i64 a2, .int .i64 a3, .int .i64 a4] w fun e w' => e = .returned (.agg #[.int .i64 r1, .int .i64 r2, .int .i64 r3, .bool r4, .int .i64 r5, .int .i64 r6, .int .i64 r7]) ∧ Below w.heap.size w w' := by
  have HTab := Aside0.mk hTab
  clear hTab
  have hu32 := Tryz.underlying32
  have hu30 := Tryz.underlying30
  have HB := Aside0.mk (Below.refl w.heap.size w)
  have H : ((zone_stamp.f a0).bind fun t283 => (some (t283, wrap64 (a1 * 3600), wrap64 (a2 * 3600), true, a3, a4, 6))) = some (r1, r2, r3, r4, r5, r6, r7) := h
  clear h
  replace H := Option.bind_eq_some_iff.mp H
  obtain ⟨t283, A60, H⟩ := H
  replace H : (some (t283, wrap64 (a1 * 3600), wrap64 (a2 * 3600), true, a3, a4, 6)) = some (r1, r2, r3, r4, r5, r6, r7) := H
  have A6 := Aside0.mk A60
  clear A60
  simp only [Option.some.injEq, Prod.mk.injEq] at H
  obtain ⟨rfl, rfl, rfl, rfl, rfl, rfl, rfl⟩ := H
  go_enter Tryz.func53, Tryz.ntmps53
  go_wp2_with (first | ((with_reducible refine gate_dst (N := 10) rfl ?_); refine box_event ?hg (N := 10) ?hd (cs := #[.int .i64 0, .int .i64 0, .int .i64 0, .bool false, .int .i64 0, .int .i64 0, .int .i64 0]) (t := 32) ?hr ?_; (case hd => rfl); (case hg => rfl); (case hr => first | (go_simp; done) | (go_simp; rfl)); intro gb282 hg w7 hbox hb; have n0_ := Aside0.mk (below_step (by repeat (first | (with_reducible first | exact HB.out | apply below_alloc | apply pw_below_drewN | apply below_drew1) | exact HB.out)) hb); have n1_ := Aside0.mk (hbox); have n2_ := Aside0.mk ((by rw [hg]; exact (below_size (by repeat (first | (with_reducible first | exact HB.out | apply below_alloc | apply pw_below_drewN | apply below_drew1) | exact HB.out))) : w.heap.size ≤ gb282)); have n3_ := Aside0.mk ((by rw [hg]; exact (below_size (by repeat (first | (with_reducible first | exact HB.out | apply below_alloc | apply pw_below_drewN | apply below_drew1) | exact HB.out))) : w.heap.size ≤ gb282)); clear HB; have HB := n0_; have BK282 := n1_; have GW282 := n2_; have GE282 := n3_; clear n0_ n1_ n2_ n3_; clear hb hbox hg) | ((with_reducible refine gate_callee (f := 54) rfl ?_); refine goesL_ (some 12) rfl rfl Tryz.func54 (by kernel_rfl) rfl #[.string a0] rfl (by (try simp only [List.map_toArray, List.map_cons, List.map_nil]); first | done | rfl | (simp only [List.length_drop, List.length_take]; rfl)) ?_; (with_reducible refine (zone_stamp.calls a0 t283 _ A6.out (HTab.out.below (by repeat (first | (with_reducible first | exact HB.out | apply below_alloc | apply pw_below_drewN | apply below_drew1) | exact HB.out)))).mono ?_); rintro e w8 ⟨rfl, hb⟩; refine ⟨_, rfl, ?_⟩; have n0_ := Aside0.mk (blk_below (g := gb282) (o := .cells #[.int .i64 0, .int .i64 0, .int .i64 0, .bool false, .int .i64 0, .int .i64 0, .int .i64 0] 32 (0, 0)) (by (with_reducible repeat (first | refine blk_drewN ?_ _ | refine blk_drew ?_ | refine blk_alloc ?_ _)); exact BK282.out) hb); have n1_ := Aside0.mk (below_step (by repeat (first | (with_reducible first | exact HB.out | apply below_alloc | apply pw_below_drewN | apply below_drew1 | refine below_set ?_ GE282.out) | exact HB.out)) hb); clear BK282; clear HB; have BK282 := n0_; have HB := n1_; clear n0_ n1_; (try clear hb); (try clear hb2); (try clear hk); (try clear hi); have hcz9_0 : w8.cell? ⟨gb282, 0, none⟩ = some (.int .i64 0) := (blk_cell BK282.out 0).trans rfl; have hcz9_1 : w8.cell? ⟨gb282, 1, none⟩ = some (.int .i64 0) := (blk_cell BK282.out 1).trans rfl; have hcz9_2 : w8.cell? ⟨gb282, 2, none⟩ = some (.int .i64 0) := (blk_cell BK282.out 2).trans rfl; have hcz9_3 : w8.cell? ⟨gb282, 3, none⟩ = some (.bool false) := (blk_cell BK282.out 3).trans rfl; have hcz9_4 : w8.cell? ⟨gb282, 4, none⟩ = some (.int .i64 0) := (blk_cell BK282.out 4).trans rfl; have hcz9_5 : w8.cell? ⟨gb282, 5, none⟩ = some (.int .i64 0) := (blk_cell BK282.out 5).trans rfl; have hcz9_6 : w8.cell? ⟨gb282, 6, none⟩ = some (.int .i64 0) := (blk_cell BK282.out 6).trans rfl; have hfz9_0 := blk_frozen BK282.out 0; have hfz9_1 := blk_frozen BK282.out 1; have hfz9_2 := blk_frozen BK282.out 2; have hfz9_3 := blk_frozen BK282.out 3; have hfz9_4 := blk_frozen BK282.out 4; have hfz9_5 := blk_frozen BK282.out 5; have hfz9_6 := blk_frozen BK282.out 6))
  refine bodyPost_ret (results_cell_row rfl _ _ gb282 32 #[.int .i64 t283, .int .i64 (wrap64 (a1 * 3600)), .int .i64 (wrap64 (a2 * 3600)), .bool true, .int .i64 a3, .int .i64 a4, .int .i64 6] (0, 0) _ rfl (by (with_reducible repeat (first | refine blk_drewN ?_ _ | refine blk_drew ?_ | refine blk_alloc ?_ _)); refine blk_put (cs := #[.int .i64 t283, .int .i64 (wrap64 (a1 * 3600)), .int .i64 (wrap64 (a2 * 3600)), .bool true, .int .i64 a3, .int .i64 a4, .int .i64 0]) ?_ 6 _ rfl; (with_reducible repeat (first | refine blk_drewN ?_ _ | refine blk_drew ?_ | refine blk_alloc ?_ _)); refine blk_put (cs := #[.int .i64 t283, .int .i64 (wrap64 (a1 * 3600)), .int .i64 (wrap64 (a2 * 3600)), .bool true, .int .i64 a3, .int .i64 0, .int .i64 0]) ?_ 5 _ rfl; (with_reducible repeat (first | refine blk_drewN ?_ _ | refine blk_drew ?_ | refine blk_alloc ?_ _)); refine blk_put (cs := #[.int .i64 t283, .int .i64 (wrap64 (a1 * 3600)), .int .i64 (wrap64 (a2 * 3600)), .bool true, .int .i64 0, .int .i64 0, .int .i64 0]) ?_ 4 _ rfl; (with_reducible repeat (first | refine blk_drewN ?_ _ | refine blk_drew ?_ | refine blk_alloc ?_ _)); refine blk_put (cs := #[.int .i64 t283, .int .i64 (wrap64 (a1 * 3600)), .int .i64 (wrap64 (a2 * 3600)), .bool false, .int .i64 0, .int .i64 0, .int .i64 0]) ?_ 3 _ rfl; (with_reducible repeat (first | refine blk_drewN ?_ _ | refine blk_drew ?_ | refine blk_alloc ?_ _)); refine blk_put (cs := #[.int .i64 t283, .int .i64 (wrap64 (a1 * 3600)), .int .i64 0, .bool false, .int .i64 0, .int .i64 0, .int .i64 0]) ?_ 2 _ rfl; (with_reducible repeat (first | refine blk_drewN ?_ _ | refine blk_drew ?_ | refine blk_alloc ?_ _)); refine blk_put (cs := #[.int .i64 t283, .int .i64 0, .int .i64 0, .bool false, .int .i64 0, .int .i64 0, .int .i64 0]) ?_ 1 _ rfl; (with_reducible repeat (first | refine blk_drewN ?_ _ | refine blk_drew ?_ | refine blk_alloc ?_ _)); refine blk_put (cs := #[.int .i64 0, .int .i64 0, .int .i64 0, .bool false, .int .i64 0, .int .i64 0, .int .i64 0]) ?_ 0 _ rfl; (with_reducible repeat (first | refine blk_drewN ?_ _ | refine blk_drew ?_ | refine blk_alloc ?_ _)); exact BK282.out) Tryz.underlying32 rfl (by kernel_rfl)) rfl ?_
  exact ⟨by first | rfl | (simp [errW_none, errW_some] <;> rfl) | (simp [*, errW_none, errW_some] <;> rfl), by repeat (first | (with_reducible first | exact HB.out | apply below_alloc | apply pw_below_drewN | apply below_drew1 | refine below_set ?_ GE282.out) | exact HB.out)⟩
end Go.Proofs.YtmajmolbjiahlaaGreatDoor.PD
namespace Go.Proofs.YtmajmolbjiahlaaGreatDoor.PD
open Go.RowKit Go.Proofs.YtmajmolbjiahlaaGreatDoorW.PrintWords Go.Proofs.YtmajmolbjiahlaaGreatDoorW.PrintLast Go.Proofs.YtmajmolbjiahlaaGreatDoorW.PrintMore
attribute [local go_sem] isSome_setCell max2_int min2_int max_two min_two max_three min_three max_four min_four
set_option linter.unusedVariables false
set_option linter.unusedSimpArgs false
def zone_known.f  : Option ((List (S24))) := (zone_sundays.f (⟨#[50, 48, 48, 55, 48, 51, 49, 49, 84, 48, 50, 48, 48, 48, 48]⟩ : ByteArray) (-5) (-4) 3 2).bind fun bt284 => ((zone_sundays.f (⟨#[50, 48, 48, 55, 49, 49, 48, 52, 84, 48, 50, 48, 48, 48, 48]⟩ : ByteArray) (-4) (-5) 11 1).bind fun bt291 => ((zone_stamp.f (⟨#[49, 57, 52, 53, 49, 48, 49, 53, 84, 48, 48, 48, 48, 48, 48]⟩ : ByteArray)).bind fun t301 => ((zone_sundays.f (⟨#[50, 48, 48, 56, 48, 52, 48, 54, 84, 48, 51, 48, 48, 48, 48]⟩ : ByteArray) 11 10 4 1).bind fun bt305 => ((zone_sundays.f (⟨#[50, 48, 48, 56, 49, 48, 48, 53, 84, 48, 50, 48, 48, 48, 48]⟩ : ByteArray) 10 11 10 1).bind fun bt312 => ((zone_sundays.f (⟨#[49, 57, 57, 54, 48, 51, 51, 49, 84, 48, 50, 48, 48, 48, 48]⟩ : ByteArray) 1 2 3 (-1)).bind fun bt322 => ((zone_sundays.f (⟨#[49, 57, 57, 54, 49, 48, 50, 55, 84, 48, 51, 48, 48, 48, 48]⟩ : ByteArray) 2 1 10 (-1)).bind fun bt329 => (some (([(⟨(⟨#[65, 109, 101, 114, 105, 99, 97, 47, 78, 101, 119, 95, 89, 111, 114, 107]⟩ : ByteArray), (([(⟨bt284.1, bt284.2.1, bt284.2.2.1, bt284.2.2.2.1, bt284.2.2.2.2.1, (⟨bt284.2.2.2.2.2.1, bt284.2.2.2.2.2.2⟩ : S30)⟩ : S32), (⟨bt291.1, bt291.2.1, bt291.2.2.1, bt291.2.2.2.1, bt291.2.2.2.2.1, (⟨bt291.2.2.2.2.2.1, bt291.2.2.2.2.2.2⟩ : S30)⟩ : S32)] : List (S32)))⟩ : S24), (⟨(⟨#[65, 115, 105, 97, 47, 75, 111, 108, 107, 97, 116, 97]⟩ : ByteArray), (([(⟨t301, 19800, 19800, false, 0, (⟨0, 0⟩ : S30)⟩ : S32)] : List (S32)))⟩ : S24), (⟨(⟨#[65, 117, 115, 116, 114, 97, 108, 105, 97, 47, 83, 121, 100, 110, 101, 121]⟩ : ByteArray), (([(⟨bt305.1, bt305.2.1, bt305.2.2.1, bt305.2.2.2.1, bt305.2.2.2.2.1, (⟨bt305.2.2.2.2.2.1, bt305.2.2.2.2.2.2⟩ : S30)⟩ : S32), (⟨bt312.1, bt312.2.1, bt312.2.2.1, bt312.2.2.2.1, bt312.2.2.2.2.1, (⟨bt312.2.2.2.2.2.1, bt312.2.2.2.2.2.2⟩ : S30)⟩ : S32)] : List (S32)))⟩ : S24), (⟨(⟨#[69, 116, 99, 47, 85, 84, 67]⟩ : ByteArray), ([] : List (S32))⟩ : S24), (⟨(⟨#[69, 117, 114, 111, 112, 101, 47, 66, 101, 114, 108, 105, 110]⟩ : ByteArray), (([(⟨bt322.1, bt322.2.1, bt322.2.2.1, bt322.2.2.2.1, bt322.2.2.2.2.1, (⟨bt322.2.2.2.2.2.1, bt322.2.2.2.2.2.2⟩ : S30)⟩ : S32), (⟨bt329.1, bt329.2.1, bt329.2.2.1, bt329.2.2.2.1, bt329.2.2.2.2.1, (⟨bt329.2.2.2.2.2.1, bt329.2.2.2.2.2.2⟩ : S30)⟩ : S32)] : List (S32)))⟩ : S24), (⟨(⟨#[85, 84, 67]⟩ : ByteArray), ([] : List (S32))⟩ : S24)] : List (S24))))))))))
set_option maxHeartbeats 8000000 in
set_option maxRecDepth 100000 in
theorem zone_known.calls  (r : List (S24)) (w : World) (h : zone_known.f  = some r) (hTab : Tab w) :
    Calls Tryz.prog 34 #[] w fun e w' => ∃ v0_ : Value, e = .returned (v0_) ∧ Kd.N k24 24 w' w.heap.size (fun k_ => (w.heap.size ≤ k_)) v0_ r ∧ Below w.heap.size w w' := by
  have HTab := Aside0.mk hTab
  clear hTab
  have hu24 := Tryz.underlying24
  have hu32 := Tryz.underlying32
  have HB := Aside0.mk (Below.refl w.heap.size w)
  have H : ((zone_sundays.f (⟨#[50, 48, 48, 55, 48, 51, 49, 49, 84, 48, 50, 48, 48, 48, 48]⟩ : ByteArray) (-5) (-4) 3 2).bind fun bt284 => ((zone_sundays.f (⟨#[50, 48, 48, 55, 49, 49, 48, 52, 84, 48, 50, 48, 48, 48, 48]⟩ : ByteArray) (-4) (-5) 11 1).bind fun bt291 => ((zone_stamp.f (⟨#[49, 57, 52, 53, 49, 48, 49, 53, 84, 48, 48, 48, 48, 48, 48]⟩ : ByteArray)).bind fun t301 => ((zone_sundays.f (⟨#[50, 48, 48, 56, 48, 52, 48, 54, 84, 48, 51, 48, 48, 48, 48]⟩ : ByteArray) 11 10 4 1).bind fun bt305 => ((zone_sundays.f (⟨#[50, 48, 48, 56, 49, 48, 48, 53, 84, 48, 50, 48, 48, 48, 48]⟩ : ByteArray) 10 11 10 1).bind fun bt312 => ((zone_sundays.f (⟨#[49, 57, 57, 54, 48, 51, 51, 49, 84, 48, 50, 48, 48, 48, 48]⟩ : ByteArray) 1 2 3 (-1)).bind fun bt322 => ((zone_sundays.f (⟨#[49, 57, 57, 54, 49, 48, 50, 55, 84, 48, 51, 48, 48, 48, 48]⟩ : ByteArray) 2 1 10 (-1)).bind fun bt329 => (some (([(⟨(⟨#[65, 109, 101, 114, 105, 99, 97, 47, 78, 101, 119, 95, 89, 111, 114, 107]⟩ : ByteArray), (([(⟨bt284.1, bt284.2.1, bt284.2.2.1, bt284.2.2.2.1, bt284.2.2.2.2.1, (⟨bt284.2.2.2.2.2.1, bt284.2.2.2.2.2.2⟩ : S30)⟩ : S32), (⟨bt291.1, bt291.2.1, bt291.2.2.1, bt291.2.2.2.1, bt291.2.2.2.2.1, (⟨bt291.2.2.2.2.2.1, bt291.2.2.2.2.2.2⟩ : S30)⟩ : S32)] : List (S32)))⟩ : S24), (⟨(⟨#[65, 115, 105, 97, 47, 75, 111, 108, 107, 97, 116, 97]⟩ : ByteArray), (([(⟨t301, 19800, 19800, false, 0, (⟨0, 0⟩ : S30)⟩ : S32)] : List (S32)))⟩ : S24), (⟨(⟨#[65, 117, 115, 116, 114, 97, 108, 105, 97, 47, 83, 121, 100, 110, 101, 121]⟩ : ByteArray), (([(⟨bt305.1, bt305.2.1, bt305.2.2.1, bt305.2.2.2.1, bt305.2.2.2.2.1, (⟨bt305.2.2.2.2.2.1, bt305.2.2.2.2.2.2⟩ : S30)⟩ : S32), (⟨bt312.1, bt312.2.1, bt312.2.2.1, bt312.2.2.2.1, bt312.2.2.2.2.1, (⟨bt312.2.2.2.2.2.1, bt312.2.2.2.2.2.2⟩ : S30)⟩ : S32)] : List (S32)))⟩ : S24), (⟨(⟨#[69, 116, 99, 47, 85, 84, 67]⟩ : ByteArray), ([] : List (S32))⟩ : S24), (⟨(⟨#[69, 117, 114, 111, 112, 101, 47, 66, 101, 114, 108, 105, 110]⟩ : ByteArray), (([(⟨bt322.1, bt322.2.1, bt322.2.2.1, bt322.2.2.2.1, bt322.2.2.2.2.1, (⟨bt322.2.2.2.2.2.1, bt322.2.2.2.2.2.2⟩ : S30)⟩ : S32), (⟨bt329.1, bt329.2.1, bt329.2.2.1, bt329.2.2.2.1, bt329.2.2.2.2.1, (⟨bt329.2.2.2.2.2.1, bt329.2.2.2.2.2.2⟩ : S30)⟩ : S32)] : List (S32)))⟩ : S24), (⟨(⟨#[85, 84, 67]⟩ : ByteArray), ([] : List (S32))⟩ : S24)] : List (S24))))))))))) = some r := h
  clear h
  replace H := Option.bind_eq_some_iff.mp H
  obtain ⟨⟨t284, t285, t286, t287, t288, t289, t290⟩, A10, H⟩ := H
  replace H : ((zone_sundays.f (⟨#[50, 48, 48, 55, 49, 49, 48, 52, 84, 48, 50, 48, 48, 48, 48]⟩ : ByteArray) (-4) (-5) 11 1).bind fun bt291 => ((zone_stamp.f (⟨#[49, 57, 52, 53, 49, 48, 49, 53, 84, 48, 48, 48, 48, 48, 48]⟩ : ByteArray)).bind fun t301 => ((zone_sundays.f (⟨#[50, 48, 48, 56, 48, 52, 48, 54, 84, 48, 51, 48, 48, 48, 48]⟩ : ByteArray) 11 10 4 1).bind fun bt305 => ((zone_sundays.f (⟨#[50, 48, 48, 56, 49, 48, 48, 53, 84, 48, 50, 48, 48, 48, 48]⟩ : ByteArray) 10 11 10 1).bind fun bt312 => ((zone_sundays.f (⟨#[49, 57, 57, 54, 48, 51, 51, 49, 84, 48, 50, 48, 48, 48, 48]⟩ : ByteArray) 1 2 3 (-1)).bind fun bt322 => ((zone_sundays.f (⟨#[49, 57, 57, 54, 49, 48, 50, 55, 84, 48, 51, 48, 48, 48, 48]⟩ : ByteArray) 2 1 10 (-1)).bind fun bt329 => (some (([(⟨(⟨#[65, 109, 101, 114, 105, 99, 97, 47, 78, 101, 119, 95, 89, 111, 114, 107]⟩ : ByteArray), (([(⟨t284, t285, t286, t287, t288, (⟨t289, t290⟩ : S30)⟩ : S32), (⟨bt291.1, bt291.2.1, bt291.2.2.1, bt291.2.2.2.1, bt291.2.2.2.2.1, (⟨bt291.2.2.2.2.2.1, bt291.2.2.2.2.2.2⟩ : S30)⟩ : S32)] : List (S32)))⟩ : S24), (⟨(⟨#[65, 115, 105, 97, 47, 75, 111, 108, 107, 97, 116, 97]⟩ : ByteArray), (([(⟨t301, 19800, 19800, false, 0, (⟨0, 0⟩ : S30)⟩ : S32)] : List (S32)))⟩ : S24), (⟨(⟨#[65, 117, 115, 116, 114, 97, 108, 105, 97, 47, 83, 121, 100, 110, 101, 121]⟩ : ByteArray), (([(⟨bt305.1, bt305.2.1, bt305.2.2.1, bt305.2.2.2.1, bt305.2.2.2.2.1, (⟨bt305.2.2.2.2.2.1, bt305.2.2.2.2.2.2⟩ : S30)⟩ : S32), (⟨bt312.1, bt312.2.1, bt312.2.2.1, bt312.2.2.2.1, bt312.2.2.2.2.1, (⟨bt312.2.2.2.2.2.1, bt312.2.2.2.2.2.2⟩ : S30)⟩ : S32)] : List (S32)))⟩ : S24), (⟨(⟨#[69, 116, 99, 47, 85, 84, 67]⟩ : ByteArray), ([] : List (S32))⟩ : S24), (⟨(⟨#[69, 117, 114, 111, 112, 101, 47, 66, 101, 114, 108, 105, 110]⟩ : ByteArray), (([(⟨bt322.1, bt322.2.1, bt322.2.2.1, bt322.2.2.2.1, bt322.2.2.2.2.1, (⟨bt322.2.2.2.2.2.1, bt322.2.2.2.2.2.2⟩ : S30)⟩ : S32), (⟨bt329.1, bt329.2.1, bt329.2.2.1, bt329.2.2.2.1, bt329.2.2.2.2.1, (⟨bt329.2.2.2.2.2.1, bt329.2.2.2.2.2.2⟩ : S30)⟩ : S32)] : List (S32)))⟩ : S24), (⟨(⟨#[85, 84, 67]⟩ : ByteArray), ([] : List (S32))⟩ : S24)] : List (S24)))))))))) = some r := H
  have A1 := Aside0.mk A10
  clear A10
  replace H := Option.bind_eq_some_iff.mp H
  obtain ⟨⟨t291, t292, t293, t294, t295, t296, t297⟩, A20, H⟩ := H
  replace H : ((zone_stamp.f (⟨#[49, 57, 52, 53, 49, 48, 49, 53, 84, 48, 48, 48, 48, 48, 48]⟩ : ByteArray)).bind fun t301 => ((zone_sundays.f (⟨#[50, 48, 48, 56, 48, 52, 48, 54, 84, 48, 51, 48, 48, 48, 48]⟩ : ByteArray) 11 10 4 1).bind fun bt305 => ((zone_sundays.f (⟨#[50, 48, 48, 56, 49, 48, 48, 53, 84, 48, 50, 48, 48, 48, 48]⟩ : ByteArray) 10 11 10 1).bind fun bt312 => ((zone_sundays.f (⟨#[49, 57, 57, 54, 48, 51, 51, 49, 84, 48, 50, 48, 48, 48, 48]⟩ : ByteArray) 1 2 3 (-1)).bind fun bt322 => ((zone_sundays.f (⟨#[49, 57, 57, 54, 49, 48, 50, 55, 84, 48, 51, 48, 48, 48, 48]⟩ : ByteArray) 2 1 10 (-1)).bind fun bt329 => (some (([(⟨(⟨#[65, 109, 101, 114, 105, 99, 97, 47, 78, 101, 119, 95, 89, 111, 114, 107]⟩ : ByteArray), (([(⟨t284, t285, t286, t287, t288, (⟨t289, t290⟩ : S30)⟩ : S32), (⟨t291, t292, t293, t294, t295, (⟨t296, t297⟩ : S30)⟩ : S32)] : List (S32)))⟩ : S24), (⟨(⟨#[65, 115, 105, 97, 47, 75, 111, 108, 107, 97, 116, 97]⟩ : ByteArray), (([(⟨t301, 19800, 19800, false, 0, (⟨0, 0⟩ : S30)⟩ : S32)] : List (S32)))⟩ : S24), (⟨(⟨#[65, 117, 115, 116, 114, 97, 108, 105, 97, 47, 83, 121, 100, 110, 101, 121]⟩ : ByteArray), (([(⟨bt305.1, bt305.2.1, bt305.2.2.1, bt305.2.2.2.1, bt305.2.2.2.2.1, (⟨bt305.2.2.2.2.2.1, bt305.2.2.2.2.2.2⟩ : S30)⟩ : S32), (⟨bt312.1, bt312.2.1, bt312.2.2.1, bt312.2.2.2.1, bt312.2.2.2.2.1, (⟨bt312.2.2.2.2.2.1, bt312.2.2.2.2.2.2⟩ : S30)⟩ : S32)] : List (S32)))⟩ : S24), (⟨(⟨#[69, 116, 99, 47, 85, 84, 67]⟩ : ByteArray), ([] : List (S32))⟩ : S24), (⟨(⟨#[69, 117, 114, 111, 112, 101, 47, 66, 101, 114, 108, 105, 110]⟩ : ByteArray), (([(⟨bt322.1, bt322.2.1, bt322.2.2.1, bt322.2.2.2.1, bt322.2.2.2.2.1, (⟨bt322.2.2.2.2.2.1, bt322.2.2.2.2.2.2⟩ : S30)⟩ : S32), (⟨bt329.1, bt329.2.1, bt329.2.2.1, bt329.2.2.2.1, bt329.2.2.2.2.1, (⟨bt329.2.2.2.2.2.1, bt329.2.2.2.2.2.2⟩ : S30)⟩ : S32)] : List (S32)))⟩ : S24), (⟨(⟨#[85, 84, 67]⟩ : ByteArray), ([] : List (S32))⟩ : S24)] : List (S24))))))))) = some r := H
  have A2 := Aside0.mk A20
  clear A20
  obtain ⟨y298, hy298⟩ : ∃ y_ : List (S32), y_ = (([(⟨t284, t285, t286, t287, t288, (⟨t289, t290⟩ : S30)⟩ : S32), (⟨t291, t292, t293, t294, t295, (⟨t296, t297⟩ : S30)⟩ : S32)] : List (S32))) := ⟨_, rfl⟩
  replace H : ((zone_stamp.f (⟨#[49, 57, 52, 53, 49, 48, 49, 53, 84, 48, 48, 48, 48, 48, 48]⟩ : ByteArray)).bind fun t301 => ((zone_sundays.f (⟨#[50, 48, 48, 56, 48, 52, 48, 54, 84, 48, 51, 48, 48, 48, 48]⟩ : ByteArray) 11 10 4 1).bind fun bt305 => ((zone_sundays.f (⟨#[50, 48, 48, 56, 49, 48, 48, 53, 84, 48, 50, 48, 48, 48, 48]⟩ : ByteArray) 10 11 10 1).bind fun bt312 => ((zone_sundays.f (⟨#[49, 57, 57, 54, 48, 51, 51, 49, 84, 48, 50, 48, 48, 48, 48]⟩ : ByteArray) 1 2 3 (-1)).bind fun bt322 => ((zone_sundays.f (⟨#[49, 57, 57, 54, 49, 48, 50, 55, 84, 48, 51, 48, 48, 48, 48]⟩ : ByteArray) 2 1 10 (-1)).bind fun bt329 => (some (([(⟨(⟨#[65, 109, 101, 114, 105, 99, 97, 47, 78, 101, 119, 95, 89, 111, 114, 107]⟩ : ByteArray), y298⟩ : S24), (⟨(⟨#[65, 115, 105, 97, 47, 75, 111, 108, 107, 97, 116, 97]⟩ : ByteArray), (([(⟨t301, 19800, 19800, false, 0, (⟨0, 0⟩ : S30)⟩ : S32)] : List (S32)))⟩ : S24), (⟨(⟨#[65, 117, 115, 116, 114, 97, 108, 105, 97, 47, 83, 121, 100, 110, 101, 121]⟩ : ByteArray), (([(⟨bt305.1, bt305.2.1, bt305.2.2.1, bt305.2.2.2.1, bt305.2.2.2.2.1, (⟨bt305.2.2.2.2.2.1, bt305.2.2.2.2.2.2⟩ : S30)⟩ : S32), (⟨bt312.1, bt312.2.1, bt312.2.2.1, bt312.2.2.2.1, bt312.2.2.2.2.1, (⟨bt312.2.2.2.2.2.1, bt312.2.2.2.2.2.2⟩ : S30)⟩ : S32)] : List (S32)))⟩ : S24), (⟨(⟨#[69, 116, 99, 47, 85, 84, 67]⟩ : ByteArray), ([] : List (S32))⟩ : S24), (⟨(⟨#[69, 117, 114, 111, 112, 101, 47, 66, 101, 114, 108, 105, 110]⟩ : ByteArray), (([(⟨bt322.1, bt322.2.1, bt322.2.2.1, bt322.2.2.2.1, bt322.2.2.2.2.1, (⟨bt322.2.2.2.2.2.1, bt322.2.2.2.2.2.2⟩ : S30)⟩ : S32), (⟨bt329.1, bt329.2.1, bt329.2.2.1, bt329.2.2.2.1, bt329.2.2.2.2.1, (⟨bt329.2.2.2.2.2.1, bt329.2.2.2.2.2.2⟩ : S30)⟩ : S32)] : List (S32)))⟩ : S24), (⟨(⟨#[85, 84, 67]⟩ : ByteArray), ([] : List (S32))⟩ : S24)] : List (S24))))))))) = some r := by first | (rw [hy298]; with_reducible exact H) | (have H2_ := (Option.bind_some _ _).symm.trans H; rw [hy298]; with_reducible exact H2_) | (have H2_ := (Option.bind_some _ _).symm.trans H; with_reducible exact H2_) | with_reducible exact H | (rw [hy298]; exact H) | exact H
  have Ny298 := Aside0.mk hy298
  clear hy298
  replace H := Option.bind_eq_some_iff.mp H
  obtain ⟨t301, A30, H⟩ := H
  replace H : ((zone_sundays.f (⟨#[50, 48, 48, 56, 48, 52, 48, 54, 84, 48, 51, 48, 48, 48, 48]⟩ : ByteArray) 11 10 4 1).bind fun bt305 => ((zone_sundays.f (⟨#[50, 48, 48, 56, 49, 48, 48, 53, 84, 48, 50, 48, 48, 48, 48]⟩ : ByteArray) 10 11 10 1).bind fun bt312 => ((zone_sundays.f (⟨#[49, 57, 57, 54, 48, 51, 51, 49, 84, 48, 50, 48, 48, 48, 48]⟩ : ByteArray) 1 2 3 (-1)).bind fun bt322 => ((zone_sundays.f (⟨#[49, 57, 57, 54, 49, 48, 50, 55, 84, 48, 51, 48, 48, 48, 48]⟩ : ByteArray) 2 1 10 (-1)).bind fun bt329 => (some (([(⟨(⟨#[65, 109, 101, 114, 105, 99, 97, 47, 78, 101, 119, 95, 89, 111, 114, 107]⟩ : ByteArray), y298⟩ : S24), (⟨(⟨#[65, 115, 105, 97, 47, 75, 111, 108, 107, 97, 116, 97]⟩ : ByteArray), (([(⟨t301, 19800, 19800, false, 0, (⟨0, 0⟩ : S30)⟩ : S32)] : List (S32)))⟩ : S24), (⟨(⟨#[65, 117, 115, 116, 114, 97, 108, 105, 97, 47, 83, 121, 100, 110, 101, 121]⟩ : ByteArray), (([(⟨bt305.1, bt305.2.1, bt305.2.2.1, bt305.2.2.2.1, bt305.2.2.2.2.1, (⟨bt305.2.2.2.2.2.1, bt305.2.2.2.2.2.2⟩ : S30)⟩ : S32), (⟨bt312.1, bt312.2.1, bt312.2.2.1, bt312.2.2.2.1, bt312.2.2.2.2.1, (⟨bt312.2.2.2.2.2.1, bt312.2.2.2.2.2.2⟩ : S30)⟩ : S32)] : List (S32)))⟩ : S24), (⟨(⟨#[69, 116, 99, 47, 85, 84, 67]⟩ : ByteArray), ([] : List (S32))⟩ : S24), (⟨(⟨#[69, 117, 114, 111, 112, 101, 47, 66, 101, 114, 108, 105, 110]⟩ : ByteArray), (([(⟨bt322.1, bt322.2.1, bt322.2.2.1, bt322.2.2.2.1, bt322.2.2.2.2.1, (⟨bt322.2.2.2.2.2.1, bt322.2.2.2.2.2.2⟩ : S30)⟩ : S32), (⟨bt329.1, bt329.2.1, bt329.2.2.1, bt329.2.2.2.1, bt329.2.2.2.2.1, (⟨bt329.2.2.2.2.2.1, bt329.2.2.2.2.2.2⟩ : S30)⟩ : S32)] : List (S32)))⟩ : S24), (⟨(⟨#[85, 84, 67]⟩ : ByteArray), ([] : List (S32))⟩ : S24)] : List (S24)))))))) = some r := H
  have A3 := Aside0.mk A30
  clear A30
  obtain ⟨y302, hy302⟩ : ∃ y_ : List (S32), y_ = (([(⟨t301, 19800, 19800, false, 0, (⟨0, 0⟩ : S30)⟩ : S32)] : List (S32))) := ⟨_, rfl⟩
  replace H : ((zone_sundays.f (⟨#[50, 48, 48, 56, 48, 52, 48, 54, 84, 48, 51, 48, 48, 48, 48]⟩ : ByteArray) 11 10 4 1).bind fun bt305 => ((zone_sundays.f (⟨#[50, 48, 48, 56, 49, 48, 48, 53, 84, 48, 50, 48, 48, 48, 48]⟩ : ByteArray) 10 11 10 1).bind fun bt312 => ((zone_sundays.f (⟨#[49, 57, 57, 54, 48, 51, 51, 49, 84, 48, 50, 48, 48, 48, 48]⟩ : ByteArray) 1 2 3 (-1)).bind fun bt322 => ((zone_sundays.f (⟨#[49, 57, 57, 54, 49, 48, 50, 55, 84, 48, 51, 48, 48, 48, 48]⟩ : ByteArray) 2 1 10 (-1)).bind fun bt329 => (some (([(⟨(⟨#[65, 109, 101, 114, 105, 99, 97, 47, 78, 101, 119, 95, 89, 111, 114, 107]⟩ : ByteArray), y298⟩ : S24), (⟨(⟨#[65, 115, 105, 97, 47, 75, 111, 108, 107, 97, 116, 97]⟩ : ByteArray), y302⟩ : S24), (⟨(⟨#[65, 117, 115, 116, 114, 97, 108, 105, 97, 47, 83, 121, 100, 110, 101, 121]⟩ : ByteArray), (([(⟨bt305.1, bt305.2.1, bt305.2.2.1, bt305.2.2.2.1, bt305.2.2.2.2.1, (⟨bt305.2.2.2.2.2.1, bt305.2.2.2.2.2.2⟩ : S30)⟩ : S32), (⟨bt312.1, bt312.2.1, bt312.2.2.1, bt312.2.2.2.1, bt312.2.2.2.2.1, (⟨bt312.2.2.2.2.2.1, bt312.2.2.2.2.2.2⟩ : S30)⟩ : S32)] : List (S32)))⟩ : S24), (⟨(⟨#[69, 116, 99, 47, 85, 84, 67]⟩ : ByteArray), ([] : List (S32))⟩ : S24), (⟨(⟨#[69, 117, 114, 111, 112, 101, 47, 66, 101, 114, 108, 105, 110]⟩ : ByteArray), (([(⟨bt322.1, bt322.2.1, bt322.2.2.1, bt322.2.2.2.1, bt322.2.2.2.2.1, (⟨bt322.2.2.2.2.2.1, bt322.2.2.2.2.2.2⟩ : S30)⟩ : S32), (⟨bt329.1, bt329.2.1, bt329.2.2.1, bt329.2.2.2.1, bt329.2.2.2.2.1, (⟨bt329.2.2.2.2.2.1, bt329.2.2.2.2.2.2⟩ : S30)⟩ : S32)] : List (S32)))⟩ : S24), (⟨(⟨#[85, 84, 67]⟩ : ByteArray), ([] : List (S32))⟩ : S24)] : List (S24)))))))) = some r := by first | (rw [hy302]; with_reducible exact H) | (have H2_ := (Option.bind_some _ _).symm.trans H; rw [hy302]; with_reducible exact H2_) | (have H2_ := (Option.bind_some _ _).symm.trans H; with_reducible exact H2_) | with_reducible exact H | (rw [hy302]; exact H) | exact H
  have Ny302 := Aside0.mk hy302
  clear hy302
  replace H := Option.bind_eq_some_iff.mp H
  obtain ⟨⟨t305, t306, t307, t308, t309, t310, t311⟩, A40, H⟩ := H
  replace H : ((zone_sundays.f (⟨#[50, 48, 48, 56, 49, 48, 48, 53, 84, 48, 50, 48, 48, 48, 48]⟩ : ByteArray) 10 11 10 1).bind fun bt312 => ((zone_sundays.f (⟨#[49, 57, 57, 54, 48, 51, 51, 49, 84, 48, 50, 48, 48, 48, 48]⟩ : ByteArray) 1 2 3 (-1)).bind fun bt322 => ((zone_sundays.f (⟨#[49, 57, 57, 54, 49, 48, 50, 55, 84, 48, 51, 48, 48, 48, 48]⟩ : ByteArray) 2 1 10 (-1)).bind fun bt329 => (some (([(⟨(⟨#[65, 109, 101, 114, 105, 99, 97, 47, 78, 101, 119, 95, 89, 111, 114, 107]⟩ : ByteArray), y298⟩ : S24), (⟨(⟨#[65, 115, 105, 97, 47, 75, 111, 108, 107, 97, 116, 97]⟩ : ByteArray), y302⟩ : S24), (⟨(⟨#[65, 117, 115, 116, 114, 97, 108, 105, 97, 47, 83, 121, 100, 110, 101, 121]⟩ : ByteArray), (([(⟨t305, t306, t307, t308, t309, (⟨t310, t311⟩ : S30)⟩ : S32), (⟨bt312.1, bt312.2.1, bt312.2.2.1, bt312.2.2.2.1, bt312.2.2.2.2.1, (⟨bt312.2.2.2.2.2.1, bt312.2.2.2.2.2.2⟩ : S30)⟩ : S32)] : List (S32)))⟩ : S24), (⟨(⟨#[69, 116, 99, 47, 85, 84, 67]⟩ : ByteArray), ([] : List (S32))⟩ : S24), (⟨(⟨#[69, 117, 114, 111, 112, 101, 47, 66, 101, 114, 108, 105, 110]⟩ : ByteArray), (([(⟨bt322.1, bt322.2.1, bt322.2.2.1, bt322.2.2.2.1, bt322.2.2.2.2.1, (⟨bt322.2.2.2.2.2.1, bt322.2.2.2.2.2.2⟩ : S30)⟩ : S32), (⟨bt329.1, bt329.2.1, bt329.2.2.1, bt329.2.2.2.1, bt329.2.2.2.2.1, (⟨bt329.2.2.2.2.2.1, bt329.2.2.2.2.2.2⟩ : S30)⟩ : S32)] : List (S32)))⟩ : S24), (⟨(⟨#[85, 84, 67]⟩ : ByteArray), ([] : List (S32))⟩ : S24)] : List (S24))))))) = some r := H
  have A4 := Aside0.mk A40
  clear A40
  replace H := Option.bind_eq_some_iff.mp H
  obtain ⟨⟨t312, t313, t314, t315, t316, t317, t318⟩, A50, H⟩ := H
  replace H : ((zone_sundays.f (⟨#[49, 57, 57, 54, 48, 51, 51, 49, 84, 48, 50, 48, 48, 48, 48]⟩ : ByteArray) 1 2 3 (-1)).bind fun bt322 => ((zone_sundays.f (⟨#[49, 57, 57, 54, 49, 48, 50, 55, 84, 48, 51, 48, 48, 48, 48]⟩ : ByteArray) 2 1 10 (-1)).bind fun bt329 => (some (([(⟨(⟨#[65, 109, 101, 114, 105, 99, 97, 47, 78, 101, 119, 95, 89, 111, 114, 107]⟩ : ByteArray), y298⟩ : S24), (⟨(⟨#[65, 115, 105, 97, 47, 75, 111, 108, 107, 97, 116, 97]⟩ : ByteArray), y302⟩ : S24), (⟨(⟨#[65, 117, 115, 116, 114, 97, 108, 105, 97, 47, 83, 121, 100, 110, 101, 121]⟩ : ByteArray), (([(⟨t305, t306, t307, t308, t309, (⟨t310, t311⟩ : S30)⟩ : S32), (⟨t312, t313, t314, t315, t316, (⟨t317, t318⟩ : S30)⟩ : S32)] : List (S32)))⟩ : S24), (⟨(⟨#[69, 116, 99, 47, 85, 84, 67]⟩ : ByteArray), ([] : List (S32))⟩ : S24), (⟨(⟨#[69, 117, 114, 111, 112, 101, 47, 66, 101, 114, 108, 105, 110]⟩ : ByteArray), (([(⟨bt322.1, bt322.2.1, bt322.2.2.1, bt322.2.2.2.1, bt322.2.2.2.2.1, (⟨bt322.2.2.2.2.2.1, bt322.2.2.2.2.2.2⟩ : S30)⟩ : S32), (⟨bt329.1, bt329.2.1, bt329.2.2.1, bt329.2.2.2.1, bt329.2.2.2.2.1, (⟨bt329.2.2.2.2.2.1, bt329.2.2.2.2.2.2⟩ : S30)⟩ : S32)] : List (S32)))⟩ : S24), (⟨(⟨#[85, 84, 67]⟩ : ByteArray), ([] : List (S32))⟩ : S24)] : List (S24)))))) = some r := H
  have A5 := Aside0.mk A50
  clear A50
  obtain ⟨y319, hy319⟩ : ∃ y_ : List (S32), y_ = (([(⟨t305, t306, t307, t308, t309, (⟨t310, t311⟩ : S30)⟩ : S32), (⟨t312, t313, t314, t315, t316, (⟨t317, t318⟩ : S30)⟩ : S32)] : List (S32))) := ⟨_, rfl⟩
  replace H : ((zone_sundays.f (⟨#[49, 57, 57, 54, 48, 51, 51, 49, 84, 48, 50, 48, 48, 48, 48]⟩ : ByteArray) 1 2 3 (-1)).bind fun bt322 => ((zone_sundays.f (⟨#[49, 57, 57, 54, 49, 48, 50, 55, 84, 48, 51, 48, 48, 48, 48]⟩ : ByteArray) 2 1 10 (-1)).bind fun bt329 => (some (([(⟨(⟨#[65, 109, 101, 114, 105, 99, 97, 47, 78, 101, 119, 95, 89, 111, 114, 107]⟩ : ByteArray), y298⟩ : S24), (⟨(⟨#[65, 115, 105, 97, 47, 75, 111, 108, 107, 97, 116, 97]⟩ : ByteArray), y302⟩ : S24), (⟨(⟨#[65, 117, 115, 116, 114, 97, 108, 105, 97, 47, 83, 121, 100, 110, 101, 121]⟩ : ByteArray), y319⟩ : S24), (⟨(⟨#[69, 116, 99, 47, 85, 84, 67]⟩ : ByteArray), ([] : List (S32))⟩ : S24), (⟨(⟨#[69, 117, 114, 111, 112, 101, 47, 66, 101, 114, 108, 105, 110]⟩ : ByteArray), (([(⟨bt322.1, bt322.2.1, bt322.2.2.1, bt322.2.2.2.1, bt322.2.2.2.2.1, (⟨bt322.2.2.2.2.2.1, bt322.2.2.2.2.2.2⟩ : S30)⟩ : S32), (⟨bt329.1, bt329.2.1, bt329.2.2.1, bt329.2.2.2.1, bt329.2.2.2.2.1, (⟨bt329.2.2.2.2.2.1, bt329.2.2.2.2.2.2⟩ : S30)⟩ : S32)] : List (S32)))⟩ : S24), (⟨(⟨#[85, 84, 67]⟩ : ByteArray), ([] : List (S32))⟩ : S24)] : List (S24)))))) = some r := by first | (rw [hy319]; with_reducible exact H) | (have H2_ := (Option.bind_some _ _).symm.trans H; rw [hy319]; with_reducible exact H2_) | (have H2_ := (Option.bind_some _ _).symm.trans H; with_reducible exact H2_) | with_reducible exact H | (rw [hy319]; exact H) | exact H
  have Ny319 := Aside0.mk hy319
  clear hy319
  replace H := Option.bind_eq_some_iff.mp H
  obtain ⟨⟨t322, t323, t324, t325, t326, t327, t328⟩, A60, H⟩ := H
  replace H : ((zone_sundays.f (⟨#[49, 57, 57, 54, 49, 48, 50, 55, 84, 48, 51, 48, 48, 48, 48]⟩ : ByteArray) 2 1 10 (-1)).bind fun bt329 => (some (([(⟨(⟨#[65, 109, 101, 114, 105, 99, 97, 47, 78, 101, 119, 95, 89, 111, 114, 107]⟩ : ByteArray), y298⟩ : S24), (⟨(⟨#[65, 115, 105, 97, 47, 75, 111, 108, 107, 97, 116, 97]⟩ : ByteArray), y302⟩ : S24), (⟨(⟨#[65, 117, 115, 116, 114, 97, 108, 105, 97, 47, 83, 121, 100, 110, 101, 121]⟩ : ByteArray), y319⟩ : S24), (⟨(⟨#[69, 116, 99, 47, 85, 84, 67]⟩ : ByteArray), ([] : List (S32))⟩ : S24), (⟨(⟨#[69, 117, 114, 111, 112, 101, 47, 66, 101, 114, 108, 105, 110]⟩ : ByteArray), (([(⟨t322, t323, t324, t325, t326, (⟨t327, t328⟩ : S30)⟩ : S32), (⟨bt329.1, bt329.2.1, bt329.2.2.1, bt329.2.2.2.1, bt329.2.2.2.2.1, (⟨bt329.2.2.2.2.2.1, bt329.2.2.2.2.2.2⟩ : S30)⟩ : S32)] : List (S32)))⟩ : S24), (⟨(⟨#[85, 84, 67]⟩ : ByteArray), ([] : List (S32))⟩ : S24)] : List (S24))))) = some r := H
  have A6 := Aside0.mk A60
  clear A60
  replace H := Option.bind_eq_some_iff.mp H
  obtain ⟨⟨t329, t330, t331, t332, t333, t334, t335⟩, A70, H⟩ := H
  replace H : (some (([(⟨(⟨#[65, 109, 101, 114, 105, 99, 97, 47, 78, 101, 119, 95, 89, 111, 114, 107]⟩ : ByteArray), y298⟩ : S24), (⟨(⟨#[65, 115, 105, 97, 47, 75, 111, 108, 107, 97, 116, 97]⟩ : ByteArray), y302⟩ : S24), (⟨(⟨#[65, 117, 115, 116, 114, 97, 108, 105, 97, 47, 83, 121, 100, 110, 101, 121]⟩ : ByteArray), y319⟩ : S24), (⟨(⟨#[69, 116, 99, 47, 85, 84, 67]⟩ : ByteArray), ([] : List (S32))⟩ : S24), (⟨(⟨#[69, 117, 114, 111, 112, 101, 47, 66, 101, 114, 108, 105, 110]⟩ : ByteArray), (([(⟨t322, t323, t324, t325, t326, (⟨t327, t328⟩ : S30)⟩ : S32), (⟨t329, t330, t331, t332, t333, (⟨t334, t335⟩ : S30)⟩ : S32)] : List (S32)))⟩ : S24), (⟨(⟨#[85, 84, 67]⟩ : ByteArray), ([] : List (S32))⟩ : S24)] : List (S24)))) = some r := H
  have A7 := Aside0.mk A70
  clear A70
  obtain ⟨y336, hy336⟩ : ∃ y_ : List (S32), y_ = (([(⟨t322, t323, t324, t325, t326, (⟨t327, t328⟩ : S30)⟩ : S32), (⟨t329, t330, t331, t332, t333, (⟨t334, t335⟩ : S30)⟩ : S32)] : List (S32))) := ⟨_, rfl⟩
  replace H : (some (([(⟨(⟨#[65, 109, 101, 114, 105, 99, 97, 47, 78, 101, 119, 95, 89, 111, 114, 107]⟩ : ByteArray), y298⟩ : S24), (⟨(⟨#[65, 115, 105, 97, 47, 75, 111, 108, 107, 97, 116, 97]⟩ : ByteArray), y302⟩ : S24), (⟨(⟨#[65, 117, 115, 116, 114, 97, 108, 105, 97, 47, 83, 121, 100, 110, 101, 121]⟩ : ByteArray), y319⟩ : S24), (⟨(⟨#[69, 116, 99, 47, 85, 84, 67]⟩ : ByteArray), ([] : List (S32))⟩ : S24), (⟨(⟨#[69, 117, 114, 111, 112, 101, 47, 66, 101, 114, 108, 105, 110]⟩ : ByteArray), y336⟩ : S24), (⟨(⟨#[85, 84, 67]⟩ : ByteArray), ([] : List (S32))⟩ : S24)] : List (S24)))) = some r := by first | (rw [hy336]; with_reducible exact H) | (have H2_ := (Option.bind_some _ _).symm.trans H; rw [hy336]; with_reducible exact H2_) | (have H2_ := (Option.bind_some _ _).symm.trans H; with_reducible exact H2_) | with_reducible exact H | (rw [hy336]; exact H) | exact H
  have Ny336 := Aside0.mk hy336
  clear hy336
  obtain ⟨y339, hy339⟩ : ∃ y_ : List (S24), y_ = (([(⟨(⟨#[65, 109, 101, 114, 105, 99, 97, 47, 78, 101, 119, 95, 89, 111, 114, 107]⟩ : ByteArray), y298⟩ : S24), (⟨(⟨#[65, 115, 105, 97, 47, 75, 111, 108, 107, 97, 116, 97]⟩ : ByteArray), y302⟩ : S24), (⟨(⟨#[65, 117, 115, 116, 114, 97, 108, 105, 97, 47, 83, 121, 100, 110, 101, 121]⟩ : ByteArray), y319⟩ : S24), (⟨(⟨#[69, 116, 99, 47, 85, 84, 67]⟩ : ByteArray), ([] : List (S32))⟩ : S24), (⟨(⟨#[69, 117, 114, 111, 112, 101, 47, 66, 101, 114, 108, 105, 110]⟩ : ByteArray), y336⟩ : S24), (⟨(⟨#[85, 84, 67]⟩ : ByteArray), ([] : List (S32))⟩ : S24)] : List (S24))) := ⟨_, rfl⟩
  replace H : (some y339) = some r := by first | (rw [hy339]; with_reducible exact H) | (have H2_ := (Option.bind_some _ _).symm.trans H; rw [hy339]; with_reducible exact H2_) | (have H2_ := (Option.bind_some _ _).symm.trans H; with_reducible exact H2_) | with_reducible exact H | (rw [hy339]; exact H) | exact H
  have Ny339 := Aside0.mk hy339
  clear hy339
  obtain rfl := Option.some.inj H
  go_enter Tryz.func34, Tryz.ntmps34
  go_wp2_with (first | ((with_reducible refine gate_callee (f := 53) rfl ?_); refine goesL_ (some 1) rfl rfl Tryz.func53 (by kernel_rfl) rfl #[.string (⟨#[50, 48, 48, 55, 48, 51, 49, 49, 84, 48, 50, 48, 48, 48, 48]⟩ : ByteArray), .int .i64 (-5), .int .i64 (-4), .int .i64 3, .int .i64 2] rfl (by (try simp only [List.map_toArray, List.map_cons, List.map_nil]); first | done | rfl | (simp only [List.length_drop, List.length_take]; rfl)) ?_; (with_reducible refine (zone_sundays.calls (⟨#[50, 48, 48, 55, 48, 51, 49, 49, 84, 48, 50, 48, 48, 48, 48]⟩ : ByteArray) (-5) (-4) 3 2 t284 t285 t286 t287 t288 t289 t290 _ A1.out (HTab.out.below (by repeat (first | (with_reducible first | exact HB.out | apply below_alloc | apply pw_below_drewN | apply below_drew1) | exact HB.out)))).mono ?_); rintro e w8 ⟨rfl, hb⟩; refine ⟨_, rfl, ?_⟩; have n0_ := Aside0.mk (below_step (by repeat (first | (with_reducible first | exact HB.out | apply below_alloc | apply pw_below_drewN | apply below_drew1) | exact HB.out)) hb); clear HB; have HB := n0_; clear n0_; (try clear hb); (try clear hb2); (try clear hk); (try clear hi)) | ((with_reducible refine gate_callee (f := 53) rfl ?_); refine goesL_ (some 2) rfl rfl Tryz.func53 (by kernel_rfl) rfl #[.string (⟨#[50, 48, 48, 55, 49, 49, 48, 52, 84, 48, 50, 48, 48, 48, 48]⟩ : ByteArray), .int .i64 (-4), .int .i64 (-5), .int .i64 11, .int .i64 1] rfl (by (try simp only [List.map_toArray, List.map_cons, List.map_nil]); first | done | rfl | (simp only [List.length_drop, List.length_take]; rfl)) ?_; (with_reducible refine (zone_sundays.calls (⟨#[50, 48, 48, 55, 49, 49, 48, 52, 84, 48, 50, 48, 48, 48, 48]⟩ : ByteArray) (-4) (-5) 11 1 t291 t292 t293 t294 t295 t296 t297 _ A2.out (HTab.out.below (by repeat (first | (with_reducible first | exact HB.out | apply below_alloc | apply pw_below_drewN | apply below_drew1) | exact HB.out)))).mono ?_); rintro e w9 ⟨rfl, hb⟩; refine ⟨_, rfl, ?_⟩; have n0_ := Aside0.mk (below_step (by repeat (first | (with_reducible first | exact HB.out | apply below_alloc | apply pw_below_drewN | apply below_drew1) | exact HB.out)) hb); clear HB; have HB := n0_; clear n0_; (try clear hb); (try clear hb2); (try clear hk); (try clear hi)) | ((with_reducible refine gate_dst (N := 3) rfl ?_); refine Kd.R_lit k32 _ 32 ?hg (N := 3) ?hd (xs := ([(⟨t284, t285, t286, t287, t288, (⟨t289, t290⟩ : S30)⟩ : S32), (⟨t291, t292, t293, t294, t295, (⟨t296, t297⟩ : S30)⟩ : S32)] : List (S32))) (inner := [.int .i64 t284, .int .i64 t285, .int .i64 t286, .bool t287, .int .i64 t288, .int .i64 t289, .int .i64 t290, .int .i64 t291, .int .i64 t292, .int .i64 t293, .bool t294, .int .i64 t295, .int .i64 t296, .int .i64 t297]) (ok := fun _ => True) (okp := fun _ => True) ?hr ?hp (fun _ hk => hk) trivial (Below.refl _ _) (Nat.le_refl _) (by simp) ?_; (case hd => rfl); (case hg => rfl); (case hr => first | (go_simp; done) | (go_simp; rfl)); (case hp => exact (Reps.c7 (show Kd.M k32 _ _ _ (⟨t284, t285, t286, t287, t288, (⟨t289, t290⟩ : S30)⟩ : S32) [.int .i64 t284, .int .i64 t285, .int .i64 t286, .bool t287, .int .i64 t288, .int .i64 t289, .int .i64 t290] from (k32_mkM _ _ _ (⟨t284, t285, t286, t287, t288, (⟨t289, t290⟩ : S30)⟩ : S32) )) (Reps.c7 (show Kd.M k32 _ _ _ (⟨t291, t292, t293, t294, t295, (⟨t296, t297⟩ : S30)⟩ : S32) [.int .i64 t291, .int .i64 t292, .int .i64 t293, .bool t294, .int .i64 t295, .int .i64 t296, .int .i64 t297] from (k32_mkM _ _ _ (⟨t291, t292, t293, t294, t295, (⟨t296, t297⟩ : S30)⟩ : S32) )) (Reps.none _ _)))); intro v299 w10 ho11 hb hg_ hnew_; clear hg_ hnew_; (first | rw [← Ny298.out] at ho11 | (simp only [Int.reduceToNat] at ho11; rw [← Ny298.out] at ho11)); have n0_ := Aside0.mk (Kd.R_lower (Kd.R_newM (M := fun k_ => (w.heap.size ≤ k_)) ho11 (below_size (by repeat (first | (with_reducible first | exact HB.out | apply below_alloc | apply pw_below_drewN | apply below_drew1) | exact HB.out))) (fun k_ h_ => h_)) (below_size (by repeat (first | (with_reducible first | exact HB.out | apply below_alloc | apply pw_below_drewN | apply below_drew1) | exact HB.out)))); have n1_ := Aside0.mk (below_step (by repeat (first | (with_reducible first | exact HB.out | apply below_alloc | apply pw_below_drewN | apply below_drew1) | exact HB.out)) hb); clear HB; have HO300 := n0_; have HB := n1_; clear n0_ n1_; clear hb ho11; obtain ⟨Ao12, co12, eo12⟩ := Kd.R_slice HO300.out; subst eo12) | ((with_reducible refine gate_callee (f := 54) rfl ?_); refine goesL_ (some 5) rfl rfl Tryz.func54 (by kernel_rfl) rfl #[.string (⟨#[49, 57, 52, 53, 49, 48, 49, 53, 84, 48, 48, 48, 48, 48, 48]⟩ : ByteArray)] rfl (by (try simp only [List.map_toArray, List.map_cons, List.map_nil]); first | done | rfl | (simp only [List.length_drop, List.length_take]; rfl)) ?_; (with_reducible refine (zone_stamp.calls (⟨#[49, 57, 52, 53, 49, 48, 49, 53, 84, 48, 48, 48, 48, 48, 48]⟩ : ByteArray) t301 _ A3.out (HTab.out.below (by repeat (first | (with_reducible first | exact HB.out | apply below_alloc | apply pw_below_drewN | apply below_drew1) | exact HB.out)))).mono ?_); rintro e w13 ⟨rfl, hb⟩; refine ⟨_, rfl, ?_⟩; have n0_ := Aside0.mk (Kd.R_below (by (with_reducible repeat (first | apply Kd.R_alloc | apply Kd.R_drewN | apply Kd.R_drew)); exact HO300.out) hb); have n1_ := Aside0.mk (below_step (by repeat (first | (with_reducible first | exact HB.out | apply below_alloc | apply pw_below_drewN | apply below_drew1) | exact HB.out)) hb); clear HO300; clear HB; have HO300 := n0_; have HB := n1_; clear n0_ n1_; (try clear hb); (try clear hb2); (try clear hk); (try clear hi)) | ((with_reducible refine gate_dst (N := 7) rfl ?_); refine Kd.R_lit k32 _ 32 ?hg (N := 7) ?hd (xs := ([(⟨t301, 19800, 19800, false, 0, (⟨0, 0⟩ : S30)⟩ : S32)] : List (S32))) (inner := [.int .i64 t301, .int .i64 19800, .int .i64 19800, .bool false, .int .i64 0, .int .i64 0, .int .i64 0]) (ok := fun _ => True) (okp := fun _ => True) ?hr ?hp (fun _ hk => hk) trivial (Below.refl _ _) (Nat.le_refl _) (by simp) ?_; (case hd => rfl); (case hg => rfl); (case hr => first | (go_simp; done) | (go_simp; rfl)); (case hp => exact (Reps.c7 (show Kd.M k32 _ _ _ (⟨t301, 19800, 19800, false, 0, (⟨0, 0⟩ : S30)⟩ : S32) [.int .i64 t301, .int .i64 19800, .int .i64 19800, .bool false, .int .i64 0, .int .i64 0, .int .i64 0] from (k32_mkM _ _ _ (⟨t301, 19800, 19800, false, 0, (⟨0, 0⟩ : S30)⟩ : S32) )) (Reps.none _ _))); intro v303 w14 ho15 hb hg_ hnew_; clear hg_ hnew_; (first | rw [← Ny302.out] at ho15 | (simp only [Int.reduceToNat] at ho15; rw [← Ny302.out] at ho15)); have n0_ := Aside0.mk (Kd.R_elder' (by (with_reducible repeat (first | apply Kd.R_alloc | apply Kd.R_drewN | apply Kd.R_drew)); exact HO300.out) (Kd.R_base ho15) hb); have n1_ := Aside0.mk (Kd.R_lower (Kd.R_new' (Kd.R_newM (M := fun k_ => (w.heap.size ≤ k_)) ho15 (below_size (by repeat (first | (with_reducible first | exact HB.out | apply below_alloc | apply pw_below_drewN | apply below_drew1) | exact HB.out))) (fun k_ h_ => h_)) (Kd.R_lt (by (with_reducible repeat (first | apply Kd.R_alloc | apply Kd.R_drewN | apply Kd.R_drew)); exact HO300.out))) (below_size (by repeat (first | (with_reducible first | exact HB.out | apply below_alloc | apply pw_below_drewN | apply below_drew1) | exact HB.out)))); have n2_ := Aside0.mk (below_step (by repeat (first | (with_reducible first | exact HB.out | apply below_alloc | apply pw_below_drewN | apply below_drew1) | exact HB.out)) hb); clear HO300; clear HB; have HO300 := n0_; have HO304 := n1_; have HB := n2_; clear n0_ n1_ n2_; clear hb ho15; obtain ⟨Ao16, co16, eo16⟩ := Kd.R_slice HO304.out; subst eo16) | ((with_reducible refine gate_callee (f := 53) rfl ?_); refine goesL_ (some 9) rfl rfl Tryz.func53 (by kernel_rfl) rfl #[.string (⟨#[50, 48, 48, 56, 48, 52, 48, 54, 84, 48, 51, 48, 48, 48, 48]⟩ : ByteArray), .int .i64 11, .int .i64 10, .int .i64 4, .int .i64 1] rfl (by (try simp only [List.map_toArray, List.map_cons, List.map_nil]); first | done | rfl | (simp only [List.length_drop, List.length_take]; rfl)) ?_; (with_reducible refine (zone_sundays.calls (⟨#[50, 48, 48, 56, 48, 52, 48, 54, 84, 48, 51, 48, 48, 48, 48]⟩ : ByteArray) 11 10 4 1 t305 t306 t307 t308 t309 t310 t311 _ A4.out (HTab.out.below (by repeat (first | (with_reducible first | exact HB.out | apply below_alloc | apply pw_below_drewN | apply below_drew1) | exact HB.out)))).mono ?_); rintro e w17 ⟨rfl, hb⟩; refine ⟨_, rfl, ?_⟩; have n0_ := Aside0.mk (Kd.R_below (by (with_reducible repeat (first | apply Kd.R_alloc | apply Kd.R_drewN | apply Kd.R_drew)); exact HO300.out) hb); have n1_ := Aside0.mk (Kd.R_below (by (with_reducible repeat (first | apply Kd.R_alloc | apply Kd.R_drewN | apply Kd.R_drew)); exact HO304.out) hb); have n2_ := Aside0.mk (below_step (by repeat (first | (with_reducible first | exact HB.out | apply below_alloc | apply pw_below_drewN | apply below_drew1) | exact HB.out)) hb); clear HO300; clear HO304; clear HB; have HO300 := n0_; have HO304 := n1_; have HB := n2_; clear n0_ n1_ n2_; (try clear hb); (try clear hb2); (try clear hk); (try clear hi)) | ((with_reducible refine gate_callee (f := 53) rfl ?_); refine goesL_ (some 10) rfl rfl Tryz.func53 (by kernel_rfl) rfl #[.string (⟨#[50, 48, 48, 56, 49, 48, 48, 53, 84, 48, 50, 48, 48, 48, 48]⟩ : ByteArray), .int .i64 10, .int .i64 11, .int .i64 10, .int .i64 1] rfl (by (try simp only [List.map_toArray, List.map_cons, List.map_nil]); first | done | rfl | (simp only [List.length_drop, List.length_take]; rfl)) ?_; (with_reducible refine (zone_sundays.calls (⟨#[50, 48, 48, 56, 49, 48, 48, 53, 84, 48, 50, 48, 48, 48, 48]⟩ : ByteArray) 10 11 10 1 t312 t313 t314 t315 t316 t317 t318 _ A5.out (HTab.out.below (by repeat (first | (with_reducible first | exact HB.out | apply below_alloc | apply pw_below_drewN | apply below_drew1) | exact HB.out)))).mono ?_); rintro e w18 ⟨rfl, hb⟩; refine ⟨_, rfl, ?_⟩; have n0_ := Aside0.mk (Kd.R_below (by (with_reducible repeat (first | apply Kd.R_alloc | apply Kd.R_drewN | apply Kd.R_drew)); exact HO300.out) hb); have n1_ := Aside0.mk (Kd.R_below (by (with_reducible repeat (first | apply Kd.R_alloc | apply Kd.R_drewN | apply Kd.R_drew)); exact HO304.out) hb); have n2_ := Aside0.mk (below_step (by repeat (first | (with_reducible first | exact HB.out | apply below_alloc | apply pw_below_drewN | apply below_drew1) | exact HB.out)) hb); clear HO300; clear HO304; clear HB; have HO300 := n0_; have HO304 := n1_; have HB := n2_; clear n0_ n1_ n2_; (try clear hb); (try clear hb2); (try clear hk); (try clear hi)) | ((with_reducible refine gate_dst (N := 11) rfl ?_); refine Kd.R_lit k32 _ 32 ?hg (N := 11) ?hd (xs := ([(⟨t305, t306, t307, t308, t309, (⟨t310, t311⟩ : S30)⟩ : S32), (⟨t312, t313, t314, t315, t316, (⟨t317, t318⟩ : S30)⟩ : S32)] : List (S32))) (inner := [.int .i64 t305, .int .i64 t306, .int .i64 t307, .bool t308, .int .i64 t309, .int .i64 t310, .int .i64 t311, .int .i64 t312, .int .i64 t313, .int .i64 t314, .bool t315, .int .i64 t316, .int .i64 t317, .int .i64 t318]) (ok := fun _ => True) (okp := fun _ => True) ?hr ?hp (fun _ hk => hk) trivial (Below.refl _ _) (Nat.le_refl _) (by simp) ?_; (case hd => rfl); (case hg => rfl); (case hr => first | (go_simp; done) | (go_simp; rfl)); (case hp => exact (Reps.c7 (show Kd.M k32 _ _ _ (⟨t305, t306, t307, t308, t309, (⟨t310, t311⟩ : S30)⟩ : S32) [.int .i64 t305, .int .i64 t306, .int .i64 t307, .bool t308, .int .i64 t309, .int .i64 t310, .int .i64 t311] from (k32_mkM _ _ _ (⟨t305, t306, t307, t308, t309, (⟨t310, t311⟩ : S30)⟩ : S32) )) (Reps.c7 (show Kd.M k32 _ _ _ (⟨t312, t313, t314, t315, t316, (⟨t317, t318⟩ : S30)⟩ : S32) [.int .i64 t312, .int .i64 t313, .int .i64 t314, .bool t315, .int .i64 t316, .int .i64 t317, .int .i64 t318] from (k32_mkM _ _ _ (⟨t312, t313, t314, t315, t316, (⟨t317, t318⟩ : S30)⟩ : S32) )) (Reps.none _ _)))); intro v320 w19 ho20 hb hg_ hnew_; clear hg_ hnew_; (first | rw [← Ny319.out] at ho20 | (simp only [Int.reduceToNat] at ho20; rw [← Ny319.out] at ho20)); have n0_ := Aside0.mk (Kd.R_elder' (by (with_reducible repeat (first | apply Kd.R_alloc | apply Kd.R_drewN | apply Kd.R_drew)); exact HO300.out) (Kd.R_base ho20) hb); have n1_ := Aside0.mk (Kd.R_elder' (by (with_reducible repeat (first | apply Kd.R_alloc | apply Kd.R_drewN | apply Kd.R_drew)); exact HO304.out) (Kd.R_base ho20) hb); have n2_ := Aside0.mk (Kd.R_lower (Kd.R_new' (Kd.R_new' (Kd.R_newM (M := fun k_ => (w.heap.size ≤ k_)) ho20 (below_size (by repeat (first | (with_reducible first | exact HB.out | apply below_alloc | apply pw_below_drewN | apply below_drew1) | exact HB.out))) (fun k_ h_ => h_)) (Kd.R_lt (by (with_reducible repeat (first | apply Kd.R_alloc | apply Kd.R_drewN | apply Kd.R_drew)); exact HO300.out))) (Kd.R_lt (by (with_reducible repeat (first | apply Kd.R_alloc | apply Kd.R_drewN | apply Kd.R_drew)); exact HO304.out))) (below_size (by repeat (first | (with_reducible first | exact HB.out | apply below_alloc | apply pw_below_drewN | apply below_drew1) | exact HB.out)))); have n3_ := Aside0.mk (below_step (by repeat (first | (with_reducible first | exact HB.out | apply below_alloc | apply pw_below_drewN | apply below_drew1) | exact HB.out)) hb); clear HO300; clear HO304; clear HB; have HO300 := n0_; have HO304 := n1_; have HO321 := n2_; have HB := n3_; clear n0_ n1_ n2_ n3_; clear hb ho20; obtain ⟨Ao21, co21, eo21⟩ := Kd.R_slice HO321.out; subst eo21) | ((with_reducible refine gate_callee (f := 53) rfl ?_); refine goesL_ (some 14) rfl rfl Tryz.func53 (by kernel_rfl) rfl #[.string (⟨#[49, 57, 57, 54, 48, 51, 51, 49, 84, 48, 50, 48, 48, 48, 48]⟩ : ByteArray), .int .i64 1, .int .i64 2, .int .i64 3, .int .i64 (-1)] rfl (by (try simp only [List.map_toArray, List.map_cons, List.map_nil]); first | done | rfl | (simp only [List.length_drop, List.length_take]; rfl)) ?_; (with_reducible refine (zone_sundays.calls (⟨#[49, 57, 57, 54, 48, 51, 51, 49, 84, 48, 50, 48, 48, 48, 48]⟩ : ByteArray) 1 2 3 (-1) t322 t323 t324 t325 t326 t327 t328 _ A6.out (HTab.out.below (by repeat (first | (with_reducible first | exact HB.out | apply below_alloc | apply pw_below_drewN | apply below_drew1) | exact HB.out)))).mono ?_); rintro e w22 ⟨rfl, hb⟩; refine ⟨_, rfl, ?_⟩; have n0_ := Aside0.mk (Kd.R_below (by (with_reducible repeat (first | apply Kd.R_alloc | apply Kd.R_drewN | apply Kd.R_drew)); exact HO300.out) hb); have n1_ := Aside0.mk (Kd.R_below (by (with_reducible repeat (first | apply Kd.R_alloc | apply Kd.R_drewN | apply Kd.R_drew)); exact HO304.out) hb); have n2_ := Aside0.mk (Kd.R_below (by (with_reducible repeat (first | apply Kd.R_alloc | apply Kd.R_drewN | apply Kd.R_drew)); exact HO321.out) hb); have n3_ := Aside0.mk (below_step (by repeat (first | (with_reducible first | exact HB.out | apply below_alloc | apply pw_below_drewN | apply below_drew1) | exact HB.out)) hb); clear HO300; clear HO304; clear HO321; clear HB; have HO300 := n0_; have HO304 := n1_; have HO321 := n2_; have HB := n3_; clear n0_ n1_ n2_ n3_; (try clear hb); (try clear hb2); (try clear hk); (try clear hi)) | ((with_reducible refine gate_callee (f := 53) rfl ?_); refine goesL_ (some 15) rfl rfl Tryz.func53 (by kernel_rfl) rfl #[.string (⟨#[49, 57, 57, 54, 49, 48, 50, 55, 84, 48, 51, 48, 48, 48, 48]⟩ : ByteArray), .int .i64 2, .int .i64 1, .int .i64 10, .int .i64 (-1)] rfl (by (try simp only [List.map_toArray, List.map_cons, List.map_nil]); first | done | rfl | (simp only [List.length_drop, List.length_take]; rfl)) ?_; (with_reducible refine (zone_sundays.calls (⟨#[49, 57, 57, 54, 49, 48, 50, 55, 84, 48, 51, 48, 48, 48, 48]⟩ : ByteArray) 2 1 10 (-1) t329 t330 t331 t332 t333 t334 t335 _ A7.out (HTab.out.below (by repeat (first | (with_reducible first | exact HB.out | apply below_alloc | apply pw_below_drewN | apply below_drew1) | exact HB.out)))).mono ?_); rintro e w23 ⟨rfl, hb⟩; refine ⟨_, rfl, ?_⟩; have n0_ := Aside0.mk (Kd.R_below (by (with_reducible repeat (first | apply Kd.R_alloc | apply Kd.R_drewN | apply Kd.R_drew)); exact HO300.out) hb); have n1_ := Aside0.mk (Kd.R_below (by (with_reducible repeat (first | apply Kd.R_alloc | apply Kd.R_drewN | apply Kd.R_drew)); exact HO304.out) hb); have n2_ := Aside0.mk (Kd.R_below (by (with_reducible repeat (first | apply Kd.R_alloc | apply Kd.R_drewN | apply Kd.R_drew)); exact HO321.out) hb); have n3_ := Aside0.mk (below_step (by repeat (first | (with_reducible first | exact HB.out | apply below_alloc | apply pw_below_drewN | apply below_drew1) | exact HB.out)) hb); clear HO300; clear HO304; clear HO321; clear HB; have HO300 := n0_; have HO304 := n1_; have HO321 := n2_; have HB := n3_; clear n0_ n1_ n2_ n3_; (try clear hb); (try clear hb2); (try clear hk); (try clear hi)) | ((with_reducible refine gate_dst (N := 16) rfl ?_); refine Kd.R_lit k32 _ 32 ?hg (N := 16) ?hd (xs := ([(⟨t322, t323, t324, t325, t326, (⟨t327, t328⟩ : S30)⟩ : S32), (⟨t329, t330, t331, t332, t333, (⟨t334, t335⟩ : S30)⟩ : S32)] : List (S32))) (inner := [.int .i64 t322, .int .i64 t323, .int .i64 t324, .bool t325, .int .i64 t326, .int .i64 t327, .int .i64 t328, .int .i64 t329, .int .i64 t330, .int .i64 t331, .bool t332, .int .i64 t333, .int .i64 t334, .int .i64 t335]) (ok := fun _ => True) (okp := fun _ => True) ?hr ?hp (fun _ hk => hk) trivial (Below.refl _ _) (Nat.le_refl _) (by simp) ?_; (case hd => rfl); (case hg => rfl); (case hr => first | (go_simp; done) | (go_simp; rfl)); (case hp => exact (Reps.c7 (show Kd.M k32 _ _ _ (⟨t322, t323, t324, t325, t326, (⟨t327, t328⟩ : S30)⟩ : S32) [.int .i64 t322, .int .i64 t323, .int .i64 t324, .bool t325, .int .i64 t326, .int .i64 t327, .int .i64 t328] from (k32_mkM _ _ _ (⟨t322, t323, t324, t325, t326, (⟨t327, t328⟩ : S30)⟩ : S32) )) (Reps.c7 (show Kd.M k32 _ _ _ (⟨t329, t330, t331, t332, t333, (⟨t334, t335⟩ : S30)⟩ : S32) [.int .i64 t329, .int .i64 t330, .int .i64 t331, .bool t332, .int .i64 t333, .int .i64 t334, .int .i64 t335] from (k32_mkM _ _ _ (⟨t329, t330, t331, t332, t333, (⟨t334, t335⟩ : S30)⟩ : S32) )) (Reps.none _ _)))); intro v337 w24 ho25 hb hg_ hnew_; clear hg_ hnew_; (first | rw [← Ny336.out] at ho25 | (simp only [Int.reduceToNat] at ho25; rw [← Ny336.out] at ho25)); have n0_ := Aside0.mk (Kd.R_elder' (by (with_reducible repeat (first | apply Kd.R_alloc | apply Kd.R_drewN | apply Kd.R_drew)); exact HO300.out) (Kd.R_base ho25) hb); have n1_ := Aside0.mk (Kd.R_elder' (by (with_reducible repeat (first | apply Kd.R_alloc | apply Kd.R_drewN | apply Kd.R_drew)); exact HO304.out) (Kd.R_base ho25) hb); have n2_ := Aside0.mk (Kd.R_elder' (by (with_reducible repeat (first | apply Kd.R_alloc | apply Kd.R_drewN | apply Kd.R_drew)); exact HO321.out) (Kd.R_base ho25) hb); have n3_ := Aside0.mk (Kd.R_lower (Kd.R_new' (Kd.R_new' (Kd.R_new' (Kd.R_newM (M := fun k_ => (w.heap.size ≤ k_)) ho25 (below_size (by repeat (first | (with_reducible first | exact HB.out | apply below_alloc | apply pw_below_drewN | apply below_drew1) | exact HB.out))) (fun k_ h_ => h_)) (Kd.R_lt (by (with_reducible repeat (first | apply Kd.R_alloc | apply Kd.R_drewN | apply Kd.R_drew)); exact HO300.out))) (Kd.R_lt (by (with_reducible repeat (first | apply Kd.R_alloc | apply Kd.R_drewN | apply Kd.R_drew)); exact HO304.out))) (Kd.R_lt (by (with_reducible repeat (first | apply Kd.R_alloc | apply Kd.R_drewN | apply Kd.R_drew)); exact HO321.out))) (below_size (by repeat (first | (with_reducible first | exact HB.out | apply below_alloc | apply pw_below_drewN | apply below_drew1) | exact HB.out)))); have n4_ := Aside0.mk (below_step (by repeat (first | (with_reducible first | exact HB.out | apply below_alloc | apply pw_below_drewN | apply below_drew1) | exact HB.out)) hb); clear HO300; clear HO304; clear HO321; clear HB; have HO300 := n0_; have HO304 := n1_; have HO321 := n2_; have HO338 := n3_; have HB := n4_; clear n0_ n1_ n2_ n3_ n4_; clear hb ho25; obtain ⟨Ao26, co26, eo26⟩ := Kd.R_slice HO338.out; subst eo26) | ((with_reducible refine gate_dst (N := 19) rfl ?_); refine Kd.N_lit k24 _ 24 ?hg (N' := 19) ?hd (xs := ([(⟨(⟨#[65, 109, 101, 114, 105, 99, 97, 47, 78, 101, 119, 95, 89, 111, 114, 107]⟩ : ByteArray), y298⟩ : S24), (⟨(⟨#[65, 115, 105, 97, 47, 75, 111, 108, 107, 97, 116, 97]⟩ : ByteArray), y302⟩ : S24), (⟨(⟨#[65, 117, 115, 116, 114, 97, 108, 105, 97, 47, 83, 121, 100, 110, 101, 121]⟩ : ByteArray), y319⟩ : S24), (⟨(⟨#[69, 116, 99, 47, 85, 84, 67]⟩ : ByteArray), ([] : List (S32))⟩ : S24), (⟨(⟨#[69, 117, 114, 111, 112, 101, 47, 66, 101, 114, 108, 105, 110]⟩ : ByteArray), y336⟩ : S24), (⟨(⟨#[85, 84, 67]⟩ : ByteArray), ([] : List (S32))⟩ : S24)] : List (S24))) (inner := [.string (⟨#[65, 109, 101, 114, 105, 99, 97, 47, 78, 101, 119, 95, 89, 111, 114, 107]⟩ : ByteArray), .slice Ao12 y298.length co12, .string (⟨#[65, 115, 105, 97, 47, 75, 111, 108, 107, 97, 116, 97]⟩ : ByteArray), .slice Ao16 y302.length co16, .string (⟨#[65, 117, 115, 116, 114, 97, 108, 105, 97, 47, 83, 121, 100, 110, 101, 121]⟩ : ByteArray), .slice Ao21 y319.length co21, .string (⟨#[69, 116, 99, 47, 85, 84, 67]⟩ : ByteArray), .slice none 0 0, .string (⟨#[69, 117, 114, 111, 112, 101, 47, 66, 101, 114, 108, 105, 110]⟩ : ByteArray), .slice Ao26 y336.length co26, .string (⟨#[85, 84, 67]⟩ : ByteArray), .slice none 0 0]) (ok := (fun k_ => (w.heap.size ≤ k_))) (okp := (fun k_ => (w.heap.size ≤ k_))) ?hr ?hp (fun _ hk => hk) ((show ∀ k_, w24.heap.size ≤ k_ → (fun k_ => (w.heap.size ≤ k_)) k_ from fun k_ hk => (Nat.le_trans (below_size (by repeat (first | (with_reducible first | exact HB.out | apply below_alloc | apply pw_below_drewN | apply below_drew1) | exact HB.out))) hk)) _ (Nat.le_refl _)) (Below.refl _ _) (Nat.le_refl _) (by simp) ?_; (case hd => rfl); (case hg => rfl); (case hr => first | (go_simp; done) | (go_simp; rfl)); (case hp => exact (Reps.c2 (show Kd.FK k24 _ _ (⟨(⟨#[65, 109, 101, 114, 105, 99, 97, 47, 78, 101, 119, 95, 89, 111, 114, 107]⟩ : ByteArray), y298⟩ : S24) [.string (⟨#[65, 109, 101, 114, 105, 99, 97, 47, 78, 101, 119, 95, 89, 111, 114, 107]⟩ : ByteArray), .slice Ao12 y298.length co12] from (k24_mkF _ _ (⟨(⟨#[65, 109, 101, 114, 105, 99, 97, 47, 78, 101, 119, 95, 89, 111, 114, 107]⟩ : ByteArray), y298⟩ : S24) (Kd.R_reads' (Kd.R_mono (ok' := (fun k_ => (w.heap.size ≤ k_))) (HO300.out) (fun k_ hk => hk.1.1.1.1))).2.1 (Kd.R_F (Kd.R_mono (ok' := (fun k_ => (w.heap.size ≤ k_))) (HO300.out) (fun k_ hk => hk.1.1.1.1))))) (Reps.c2 (show Kd.FK k24 _ _ (⟨(⟨#[65, 115, 105, 97, 47, 75, 111, 108, 107, 97, 116, 97]⟩ : ByteArray), y302⟩ : S24) [.string (⟨#[65, 115, 105, 97, 47, 75, 111, 108, 107, 97, 116, 97]⟩ : ByteArray), .slice Ao16 y302.length co16] from (k24_mkF _ _ (⟨(⟨#[65, 115, 105, 97, 47, 75, 111, 108, 107, 97, 116, 97]⟩ : ByteArray), y302⟩ : S24) (Kd.R_reads' (Kd.R_mono (ok' := (fun k_ => (w.heap.size ≤ k_))) (HO304.out) (fun k_ hk => hk.1.1.1.1))).2.1 (Kd.R_F (Kd.R_mono (ok' := (fun k_ => (w.heap.size ≤ k_))) (HO304.out) (fun k_ hk => hk.1.1.1.1))))) (Reps.c2 (show Kd.FK k24 _ _ (⟨(⟨#[65, 117, 115, 116, 114, 97, 108, 105, 97, 47, 83, 121, 100, 110, 101, 121]⟩ : ByteArray), y319⟩ : S24) [.string (⟨#[65, 117, 115, 116, 114, 97, 108, 105, 97, 47, 83, 121, 100, 110, 101, 121]⟩ : ByteArray), .slice Ao21 y319.length co21] from (k24_mkF _ _ (⟨(⟨#[65, 117, 115, 116, 114, 97, 108, 105, 97, 47, 83, 121, 100, 110, 101, 121]⟩ : ByteArray), y319⟩ : S24) (Kd.R_reads' (Kd.R_mono (ok' := (fun k_ => (w.heap.size ≤ k_))) (HO321.out) (fun k_ hk => hk.1.1.1.1))).2.1 (Kd.R_F (Kd.R_mono (ok' := (fun k_ => (w.heap.size ≤ k_))) (HO321.out) (fun k_ hk => hk.1.1.1.1))))) (Reps.c2 (show Kd.FK k24 _ _ (⟨(⟨#[69, 116, 99, 47, 85, 84, 67]⟩ : ByteArray), ([] : List (S32))⟩ : S24) [.string (⟨#[69, 116, 99, 47, 85, 84, 67]⟩ : ByteArray), .slice none 0 0] from (k24_mkF _ _ (⟨(⟨#[69, 116, 99, 47, 85, 84, 67]⟩ : ByteArray), ([] : List (S32))⟩ : S24) (Nat.le_refl _) (Kd.F_nil _ _ _))) (Reps.c2 (show Kd.FK k24 _ _ (⟨(⟨#[69, 117, 114, 111, 112, 101, 47, 66, 101, 114, 108, 105, 110]⟩ : ByteArray), y336⟩ : S24) [.string (⟨#[69, 117, 114, 111, 112, 101, 47, 66, 101, 114, 108, 105, 110]⟩ : ByteArray), .slice Ao26 y336.length co26] from (k24_mkF _ _ (⟨(⟨#[69, 117, 114, 111, 112, 101, 47, 66, 101, 114, 108, 105, 110]⟩ : ByteArray), y336⟩ : S24) (Kd.R_reads' (Kd.R_mono (ok' := (fun k_ => (w.heap.size ≤ k_))) (HO338.out) (fun k_ hk => hk.1.1.1.1))).2.1 (Kd.R_F (Kd.R_mono (ok' := (fun k_ => (w.heap.size ≤ k_))) (HO338.out) (fun k_ hk => hk.1.1.1.1))))) (Reps.c2 (show Kd.FK k24 _ _ (⟨(⟨#[85, 84, 67]⟩ : ByteArray), ([] : List (S32))⟩ : S24) [.string (⟨#[85, 84, 67]⟩ : ByteArray), .slice none 0 0] from (k24_mkF _ _ (⟨(⟨#[85, 84, 67]⟩ : ByteArray), ([] : List (S32))⟩ : S24) (Nat.le_refl _) (Kd.F_nil _ _ _))) (Reps.none _ _)))))))); intro v340 w27 ho28 hb hg_ hnew_; clear hg_ hnew_; (first | rw [← Ny339.out] at ho28 | (simp only [Int.reduceToNat] at ho28; rw [← Ny339.out] at ho28)); have n0_ := Aside0.mk (Kd.N_lower ho28 (below_size (by repeat (first | (with_reducible first | exact HB.out | apply below_alloc | apply pw_below_drewN | apply below_drew1) | exact HB.out)))); have n1_ := Aside0.mk (below_step (by repeat (first | (with_reducible first | exact HB.out | apply below_alloc | apply pw_below_drewN | apply below_drew1) | exact HB.out)) hb); clear HB; clear HO300; clear HO304; clear HO321; clear HO338; have HO341 := n0_; have HB := n1_; clear n0_ n1_; clear hb ho28))
  go_ret
  exact ⟨_, by first | rfl | (simp [errW_none, errW_some] <;> rfl) | (simp [*, errW_none, errW_some] <;> rfl), by (with_reducible repeat (first | apply Kd.N_alloc | apply Kd.N_drewN | apply Kd.N_drew)); exact HO341.out, by repeat (first | (with_reducible first | exact HB.out | apply below_alloc | apply pw_below_drewN | apply below_drew1) | exact HB.out)⟩
end Go.Proofs.YtmajmolbjiahlaaGreatDoor.PD
namespace Go.Proofs.YtmajmolbjiahlaaGreatDoor.PD
open Go.RowKit Go.Proofs.YtmajmolbjiahlaaGreatDoorW.PrintWords Go.Proofs.YtmajmolbjiahlaaGreatDoorW.PrintLast Go.Proofs.YtmajmolbjiahlaaGreatDoorW.PrintMore
attribute [local go_sem] isSome_setCell
set_option linter.unusedVariables false
set_option linter.unusedSimpArgs false
set_option maxRecDepth 100000 in
set_option maxHeartbeats 1600000 in
theorem named1_calls (nm : ByteArray) (G : Nat) (s : ByteArray) (A : Option Addr) (n c : Nat) (W : World) (hG : W.heap[G]? = some (.cells #[.string nm] 9 (0, 0))) :
    Calls Tryz.prog 36 (#[.agg #[.string s, .slice A n c]] ++ #[.pointer (some ⟨G, 0, none⟩)]) W fun e W' => e = .returned (.bool (s.toList == nm.toList)) ∧ Below W.heap.size W W' := by
  have hc : (W.alloc (.cells #[.string s, .slice A n c] 24)).cell? ⟨G, 0, none⟩ = some (.string nm) := (blk_cell (blk_alloc hG _) 0).trans rfl
  have HB0 := Aside0.mk (below_alloc (Below.refl W.heap.size W) (.cells #[.string s, .slice A n c] 24))
  go_enter Tryz.func36, Tryz.ntmps36
  go_wp2
  go_ret
  exact ⟨rfl, HB0.out⟩
set_option maxRecDepth 100000 in
set_option maxHeartbeats 1600000 in
theorem indexZ (fk : Nat) (fn : Func) (hfn : Tryz.prog.funcs[fk]? = some fn) (hname : (fn.name == "runtime.NumGoroutine") = false) (hbody : fn.body.isSome = true) (lb : Array Value) (p : ByteArray → Bool)
    (A0 : Option Addr) (c0 : Nat) (l0 : List S24) (w : World) (hr0 : Kd.C k24 w A0 l0.length l0)
    (hp : ∀ s A n c W, Below w.heap.size w W → Calls Tryz.prog fk (#[.agg #[.string s, .slice A n c]] ++ lb) W fun e W' => e = .returned (.bool (p s)) ∧ Below W.heap.size W W') :
    Calls Tryz.prog 35 #[.slice A0 l0.length c0, .func (.func fk) #[] lb] w fun e w' => e = .returned (.int .i64 (idxP (fun z => p z.f0) l0)) ∧ Below w.heap.size w w' := by
  have HR0 := Aside0.mk hr0
  have hml : l0.length ≤ 9223372036854775807 := by have := hr0.2.1; unfold maxLen at this; omega
  clear hr0
  have HP := Aside0.mk hp
  clear hp
  have HB := Aside0.mk (Below.refl w.heap.size w)
  go_enter Tryz.func35, Tryz.ntmps35
  go_wp2
  go_loopw [8] (fun v wr => ∃ k : Nat, v = .int .i64 k ∧ k ≤ l0.length ∧ Aside0 (∀ j, (hj : j < l0.length) → j < k → p l0[j].f0 = false) ∧ Aside0 (Below w.heap.size w wr)) (fun v _ => l0.length - (intOf v).toNat)
  case atStart => exact ⟨0, rfl, Nat.zero_le _, ⟨fun j _ hj => absurd hj (Nat.not_lt_zero _)⟩, HB⟩
  case round =>
    obtain ⟨k, rfl, hk, hno, hb⟩ := hrel
    by_cases hlt : k < l0.length
    · have hlt0 : decide ((k : Int) < (l0.length : Int)) = true := decide_eq_true (by omega)
      obtain ⟨ad, A1, c1, e, hx0, hx1, _, _⟩ := at_T24 HR0.out (k : Int) (by omega) (by omega)
      subst e
      replace hx0 := (hb.out.cell (World.block_lt_of_cell? w _ hx0)).trans hx0
      replace hx1 := (hb.out.cell (World.block_lt_of_cell? w _ hx1)).trans hx1
      have hget : rd_T24 l0 (k : Int) = l0[k] := by simp [rd_T24, hlt]
      rw [hget] at hx0 hx1
      have hc := HP.out l0[k].f0 A1 l0[k].f1.length c1 wr hb.out
      simp only [Int.toNat_natCast] at hx0 hx1
      cases hpk : p l0[k].f0 with
      | true =>
        rw [hpk] at hc
        have HC := Aside0.mk hc
        clear hc
        go_wp2_with ((with_reducible refine gate_tmp (t := 11) rfl ?_); refine goesF_ (some 16) rfl rfl hfn hname hbody (args := #[.agg #[.string l0[k].f0, .slice A1 l0[k].f1.length c1]] ++ lb) rfl rfl (by (try simp only [List.map_toArray, List.map_cons, List.map_nil]); first | done | rfl) ?_; refine HC.out.mono ?_; rintro e W' ⟨rfl, hb'⟩; refine ⟨_, rfl, ?_⟩)
        go_ret
        refine ⟨?_, hb.out.trans (hb'.mono hb.out.size)⟩
        rw [idxP_at (fun z => p z.f0) l0 k hlt hpk (fun j hj => hno.out j (by omega) hj)]
        rfl
      | false =>
        rw [hpk] at hc
        have HC := Aside0.mk hc
        clear hc
        go_wp2_with ((with_reducible refine gate_tmp (t := 11) rfl ?_); refine goesF_ (some 16) rfl rfl hfn hname hbody (args := #[.agg #[.string l0[k].f0, .slice A1 l0[k].f1.length c1]] ++ lb) rfl rfl (by (try simp only [List.map_toArray, List.map_cons, List.map_nil]); first | done | rfl) ?_; refine HC.out.mono ?_; rintro e W' ⟨rfl, hb'⟩; refine ⟨_, rfl, ?_⟩)
        go_roundw
        case rel =>
          refine ⟨k + 1, by simp, hlt, ⟨fun j hj hjk => ?_⟩, ⟨hb.out.trans (hb'.mono hb.out.size)⟩⟩
          rcases Nat.lt_or_ge j k with h | h
          · exact hno.out j hj h
          · obtain rfl : j = k := by omega
            exact hpk
        case measure => show l0.length - (((k : Int) + 1)).toNat < l0.length - ((k : Int)).toNat; omega
    · have hlt0 : decide ((k : Int) < (l0.length : Int)) = false := decide_eq_false (by omega)
      go_wp2
      go_ret
      refine ⟨?_, hb.out⟩
      rw [idxP_none (fun z => p z.f0) l0 (fun j hj => hno.out j hj (by omega))]
      rfl
def pickZ (a0 : ByteArray) (l : List S24) : ByteArray × List S32 × Bool := match l.find? (fun z => z.f0.toList == a0.toList) with
  | some z => (z.f0, z.f1, true)
  | none => ((⟨#[]⟩ : ByteArray), [], false)
def zone_Named.f (k : Nat) (a0 : ByteArray) : Option (ByteArray × (List (S32)) × Bool) := zone_known.f.bind fun l => some (pickZ a0 l)
theorem idx_find {α : Type} (p : α → Bool) (l : List α) : (idxP p l = -1 ∧ l.find? p = none) ∨ ∃ i : Nat, ∃ hi : i < l.length, idxP p l = i ∧ l.find? p = some l[i] := by
  unfold idxP
  cases h : l.findIdx? p with
  | none =>
    left
    rw [List.findIdx?_eq_none_iff] at h
    exact ⟨rfl, List.find?_eq_none.2 (fun x hx => by simp [h x hx])⟩
  | some i =>
    right
    obtain ⟨h1, h2, h3⟩ := List.findIdx?_eq_some_iff_getElem.1 h
    refine ⟨i, h1, rfl, ?_⟩
    rw [List.find?_eq_some_iff_getElem]
    exact ⟨h2, i, h1, rfl, fun j hj => by have := h3 j hj; simpa using this⟩
theorem elemZ {W : World} {l : List S24} {base : Nat} {ok : Nat → Prop} {Ao : Option Addr} {co : Nat} (h : Kd.N k24 24 W base ok (.slice Ao l.length co) l) (i : Nat) (hi : i < l.length) (base' : Nat) :
    ∃ ad A1 c1, Ao = some ad ∧ W.cell? (ad.add (i * 2)) = some (.string l[i].f0) ∧ W.cell? ⟨(ad.add (i * 2)).block, (ad.add (i * 2)).off + 1, none⟩ = some (.slice A1 l[i].f1.length c1) ∧ Kd.V k32 32 W base' ok (.slice A1 l[i].f1.length c1) l[i].f1 := by
  obtain ⟨ad, A1, c1, rfl, hx0, hx1, hl1, hc1⟩ := at_T24 (Kd.N_reads' h).2.2 (i : Int) (by omega) (by omega)
  have hgd : l.getD (i : Int).toNat z24 = l[i] := by simp [hi]
  have hgr : rd_T24 l (i : Int) = l[i] := hgd
  obtain ⟨ce, hce, hMe, hcc⟩ := Kd.N_get h z24 (i : Int) (by omega) (by omega)
  rw [hgd] at hMe
  obtain ⟨ua, uc, rfl, ul, ge⟩ := k24_openF hMe
  have hv := hcc 1 _ rfl
  rw [add_field _ _ 1 (by omega)] at hv
  replace hv := Option.some.inj (hv.symm.trans hx1)
  rw [hgr] at hx0 hx1 hv
  injection hv with hva hvn hvc
  rw [hva] at ge
  rw [hvc] at ul
  exact ⟨ad, A1, c1, rfl, hx0, hx1, Kd.V_mono (Kd.V_mk ul ge) (fun _ hk => hk.1)⟩
set_option maxRecDepth 100000 in
set_option maxHeartbeats 8000000 in
theorem zone_Named.calls (k : Nat) (a0 : ByteArray) (r1 : ByteArray) (r2 : List (S32)) (r3 : Bool) (w : World) (h : zone_Named.f k a0 = some (r1, r2, r3)) (hTab : Tab w) :
    Calls Tryz.prog 14 #[.string a0] w fun e w' => ∃ v1_ : Value, e = .returned (.tuple #[.agg #[.string r1, v1_], .bool r3]) ∧ Kd.V k32 32 w' w.heap.size (fun k_ => (w.heap.size ≤ k_)) v1_ r2 ∧ Below w.heap.size w w' := by
  obtain ⟨l, hl, hr⟩ := Option.bind_eq_some_iff.1 h
  have hr' := Option.some.inj hr
  clear h hr
  have HL := Aside0.mk hl
  have HTab := Aside0.mk hTab
  clear hl hTab
  have hu24 := Tryz.underlying24
  have HB := Aside0.mk (below_alloc (Below.refl w.heap.size w) (.cells #[.string a0] 9))
  have HN := Aside0.mk (heap_alloc_new w (.cells #[.string a0] 9))
  rcases idx_find (fun z : S24 => z.f0.toList == a0.toList) l with ⟨hi, hf⟩ | ⟨i, hi, he, hf⟩
  · have hP : pickZ a0 l = ((⟨#[]⟩ : ByteArray), [], false) := by unfold pickZ; rw [hf]
    rw [hP] at hr'
    obtain ⟨rfl, rfl, rfl⟩ : r1 = (⟨#[]⟩ : ByteArray) ∧ r2 = [] ∧ r3 = false := by simp only [Prod.mk.injEq] at hr'; exact ⟨hr'.1.symm, hr'.2.1.symm, hr'.2.2.symm⟩
    have HI := Aside0.mk hi
    clear hr' hP hf hi
    go_enter Tryz.func14, Tryz.ntmps14
    go_wp2_with (first | ((with_reducible refine gate_dst (N := 2) rfl ?_); refine box_event ?hg (N := 2) ?hd (cs := #[.string (⟨#[]⟩ : ByteArray), .slice none 0 0]) (t := 24) ?hr ?_; (case hd => rfl); (case hg => rfl); (case hr => first | (go_simp; done) | (go_simp; rfl)); intro gb hg w2 hbox hb; have BK := Aside0.mk hbox; have HB2 := Aside0.mk (below_step HB.out hb); have HN2 := Aside0.mk (blk_below HN.out hb); have GB := Aside0.mk (show w.heap.size + 1 = gb by rw [hg]; simp); clear HB HN hbox hb hg) | (go_at_call 34; refine (zone_known.calls l _ HL.out (HTab.out.below HB2.out)).mono ?_; rintro e w3 ⟨v0, rfl, hn, hb⟩; obtain ⟨Ao, co, eo⟩ := Kd.N_slice hn; subst eo; have HNN := Aside0.mk (show Kd.N k24 24 w3 w2.heap.size (fun k_ => w2.heap.size ≤ k_) (.slice Ao l.length co) l from hn); have BK3 := Aside0.mk (blk_below BK.out hb); have HN3 := Aside0.mk (blk_below HN2.out hb); have HB3 := Aside0.mk (below_step HB2.out hb); have GW := Aside0.mk (blk_lt BK.out); clear hn hb BK HN2 HB2) | (go_at_call 35; refine (indexZ 36 _ Tryz.func36 (by kernel_rfl) rfl #[.pointer (some ⟨w.heap.size, 0, none⟩)] (fun s => s.toList == a0.toList) Ao co l w3 (Kd.N_reads' HNN.out).2.2 (fun s A n c W hW => named1_calls a0 w.heap.size s A n c W (blk_below HN3.out hW))).mono ?_; rw [HI.out]; rintro e w4 ⟨rfl, hb⟩; have HN4 := Aside0.mk (Kd.N_below HNN.out hb); have BK4 := Aside0.mk (blk_below BK3.out hb); have HB4 := Aside0.mk (below_step HB3.out hb); clear hb HNN BK3 HN3 HB3; have f0 : w4.cell? ⟨gb, 0, none⟩ = some (.string ⟨#[]⟩) := (blk_cell BK4.out 0).trans rfl; have f1 : w4.cell? ⟨gb, 1, none⟩ = some (.slice none 0 0) := (blk_cell BK4.out 1).trans rfl; have z0 := blk_frozen BK4.out 0; have z1 := blk_frozen BK4.out 1))
    refine bodyPost_ret (results_ct rfl _ _ gb 24 #[.string (⟨#[]⟩ : ByteArray), .slice none 0 0] (0, 0) _ rfl (by refine blk_put (cs := #[.string (⟨#[]⟩ : ByteArray), .slice none 0 0]) ?_ 1 _ rfl; refine blk_put (cs := #[.string (⟨#[]⟩ : ByteArray), .slice none 0 0]) ?_ 0 _ rfl; exact BK4.out) Tryz.underlying24 rfl (by kernel_rfl)) rfl ?_
    exact ⟨_, rfl, Kd.V_nil _ _ _ _ _, below_set (below_set HB4.out (by have := GB.out; omega)) (by have := GB.out; omega)⟩
  · have hP : pickZ a0 l = (l[i].f0, l[i].f1, true) := by unfold pickZ; rw [hf]
    rw [hP] at hr'
    obtain ⟨rfl, rfl, rfl⟩ : r1 = l[i].f0 ∧ r2 = l[i].f1 ∧ r3 = true := by simp only [Prod.mk.injEq] at hr'; exact ⟨hr'.1.symm, hr'.2.1.symm, hr'.2.2.symm⟩
    have HI := Aside0.mk he
    have e0 : decide ((i : Int) < 0) = false := decide_eq_false (by omega)
    have p0 : (0 ≤ (i : Int)) = True := eq_true (by omega)
    have q0 : ((i : Int) < (l.length : Int)) = True := eq_true (by omega)
    have HIL := Aside0.mk hi
    have hget : rd_T24 l (i : Int) = l[i] := by simp [rd_T24, hi]
    have HG := Aside0.mk hget
    clear hr' hP hf he hget
    go_enter Tryz.func14, Tryz.ntmps14
    go_wp2_with (first | ((with_reducible refine gate_dst (N := 2) rfl ?_); refine box_event ?hg (N := 2) ?hd (cs := #[.string (⟨#[]⟩ : ByteArray), .slice none 0 0]) (t := 24) ?hr ?_; (case hd => rfl); (case hg => rfl); (case hr => first | (go_simp; done) | (go_simp; rfl)); intro gb hg w2 hbox hb; have BK := Aside0.mk hbox; have HB2 := Aside0.mk (below_step HB.out hb); have HN2 := Aside0.mk (blk_below HN.out hb); have GB := Aside0.mk (show w.heap.size + 1 = gb by rw [hg]; simp); clear HB HN hbox hb hg) | (go_at_call 34; refine (zone_known.calls l _ HL.out (HTab.out.below HB2.out)).mono ?_; rintro e w3 ⟨v0, rfl, hn, hb⟩; obtain ⟨Ao, co, eo⟩ := Kd.N_slice hn; subst eo; have HNN := Aside0.mk (show Kd.N k24 24 w3 w2.heap.size (fun k_ => w2.heap.size ≤ k_) (.slice Ao l.length co) l from hn); have BK3 := Aside0.mk (blk_below BK.out hb); have HN3 := Aside0.mk (blk_below HN2.out hb); have HB3 := Aside0.mk (below_step HB2.out hb); have GW := Aside0.mk (blk_lt BK.out); clear hn hb BK HN2 HB2) | (go_at_call 35; refine (indexZ 36 _ Tryz.func36 (by kernel_rfl) rfl #[.pointer (some ⟨w.heap.size, 0, none⟩)] (fun s => s.toList == a0.toList) Ao co l w3 (Kd.N_reads' HNN.out).2.2 (fun s A n c W hW => named1_calls a0 w.heap.size s A n c W (blk_below HN3.out hW))).mono ?_; rw [HI.out]; rintro e w4 ⟨rfl, hb⟩; have HN4 := Aside0.mk (Kd.N_below HNN.out hb); have BK4 := Aside0.mk (blk_below BK3.out hb); have HB4 := Aside0.mk (below_step HB3.out hb); clear hb HNN BK3 HN3 HB3; have f0 : w4.cell? ⟨gb, 0, none⟩ = some (.string ⟨#[]⟩) := (blk_cell BK4.out 0).trans rfl; have f1 : w4.cell? ⟨gb, 1, none⟩ = some (.slice none 0 0) := (blk_cell BK4.out 1).trans rfl; have z0 := blk_frozen BK4.out 0; have z1 := blk_frozen BK4.out 1; obtain ⟨ad, A1, c1, ea, hx0, hx1, hv⟩ := elemZ HN4.out i HIL.out w.heap.size; subst ea; have HV := Aside0.mk hv; clear hv))
    refine bodyPost_ret (results_ct rfl _ _ gb 24 #[.string l[i].f0, .slice A1 l[i].f1.length c1] (0, 0) _ rfl (by refine blk_put (cs := #[.string l[i].f0, .slice none 0 0]) ?_ 1 _ rfl; refine blk_put (cs := #[.string (⟨#[]⟩ : ByteArray), .slice none 0 0]) ?_ 0 _ rfl; exact BK4.out) Tryz.underlying24 rfl (by kernel_rfl)) rfl ?_
    exact ⟨_, rfl, Kd.V_mono (Kd.V_far (Kd.V_far HV.out (p := ⟨gb, 0, none⟩) (fun k hk e => by have := GW.out; have e' : k = gb := e; omega) _) (p := ⟨gb, 1, none⟩) (fun k hk e => by have := GW.out; have e' : k = gb := e; omega) _) (fun k hk => by have h1 := GW.out; have h2 := GB.out; have h3 : w2.heap.size ≤ k := hk; omega), below_set (below_set HB4.out (by have := GB.out; omega)) (by have := GB.out; omega)⟩
end Go.Proofs.YtmajmolbjiahlaaGreatDoor.PD
namespace Go.Proofs.YtmajmolbjiahlaaGreatDoor.PD
open Go.RowKit Go.Shelf Go.Proofs.YtmajmolbjiahlaaGreatDoorW.PrintWords Go.Proofs.YtmajmolbjiahlaaGreatDoorW.PrintLast Go.Proofs.YtmajmolbjiahlaaGreatDoorW.PrintMore
attribute [local go_sem] isSome_setCell
set_option linter.unusedVariables false
set_option linter.unusedSimpArgs false
abbrev berlin : ByteArray := ⟨#[69, 117, 114, 111, 112, 101, 47, 66, 101, 114, 108, 105, 110]⟩
abbrev nowhere : ByteArray := ⟨#[78, 111, 119, 104, 101, 114, 101]⟩
abbrev obsB : List S32 := [⟨828237600, 3600, 7200, true, 3, ⟨-1, 6⟩⟩, ⟨846385200, 7200, 3600, true, 10, ⟨-1, 6⟩⟩]
theorem nmB : zone_Named.f 0 berlin = some (berlin, obsB, true) := by kernel_rfl
theorem nmN : zone_Named.f 0 nowhere = some (⟨#[]⟩, [], false) := by kernel_rfl
theorem st20250330T013000 : date_ReadStamp.f ⟨#[50, 48, 50, 53, 48, 51, 51, 48, 84, 48, 49, 51, 48, 48, 48]⟩ = some (1743298200, 0) := by decide +kernel
theorem st20250330T003000 : date_ReadStamp.f ⟨#[50, 48, 50, 53, 48, 51, 51, 48, 84, 48, 48, 51, 48, 48, 48]⟩ = some (1743294600, 0) := by decide +kernel
theorem st20250330T023000 : date_ReadStamp.f ⟨#[50, 48, 50, 53, 48, 51, 51, 48, 84, 48, 50, 51, 48, 48, 48]⟩ = some (1743301800, 0) := by decide +kernel
theorem st20251026T023000 : date_ReadStamp.f ⟨#[50, 48, 50, 53, 49, 48, 50, 54, 84, 48, 50, 51, 48, 48, 48]⟩ = some (1761445800, 0) := by decide +kernel
theorem st20251026T003000 : date_ReadStamp.f ⟨#[50, 48, 50, 53, 49, 48, 50, 54, 84, 48, 48, 51, 48, 48, 48]⟩ = some (1761438600, 0) := by decide +kernel
theorem of0 : zone_Offset.f 20 berlin obsB 0 = some 3600 := by decide +kernel
theorem sort4 : sortDesc [3600, 7200, 7200, 3600] = [7200, 7200, 3600, 3600] := by
  simp [sortDesc, List.mergeSort, List.MergeSort.Internal.splitInTwo, List.merge]
theorem utS (x : Int) (h : inO x = true) : zone_Utc.f 20 berlin obsB x = zone_Utc.l1 16 x [7200, 7200, 3600, 3600] [7200, 7200, 3600, 3600] 4 0 berlin obsB := by
  have e1 : zone_Fit.f berlin obsB = some true := by decide
  have e2 : date_In.f x = some true := by rw [in_val, h]
  have e3 : slices_SortFunc_int64_int64.f 16 [3600, 7200, 7200, 3600] = some [7200, 7200, 3600, 3600] := by
    unfold slices_SortFunc_int64_int64.f
    rw [if_pos (by decide), sort4]
  have e4 : zone_Utc.j0 20 x (((obsB.length : Nat) : Int) == 0) berlin obsB = (slices_SortFunc_int64_int64.f 16 [3600, 7200, 7200, 3600]).bind fun t199 => (zone_Utc.l1 16 x t199 t199 4 0 berlin obsB) := by kernel_rfl
  unfold zone_Utc.f
  rw [e1, Option.bind_some, if_pos rfl, e2, Option.bind_some, if_pos rfl, e4, e3, Option.bind_some]
theorem ut1743298200 : zone_Utc.f 20 berlin obsB 1743298200 = some 1743294600 := by rw [utS _ (by decide)]; decide +kernel
theorem ut1743301800 : zone_Utc.f 20 berlin obsB 1743301800 = some 1743298200 := by rw [utS _ (by decide)]; decide +kernel
theorem ut1761445800 : zone_Utc.f 20 berlin obsB 1761445800 = some 1761438600 := by rw [utS _ (by decide)]; decide +kernel
set_option maxRecDepth 100000 in
set_option maxHeartbeats 1600000 in
theorem t_calls (s : ByteArray) (v : Int) (w : World) (h : date_ReadStamp.f s = some (v, 0)) (hTab : Tab w) : Calls Tryz.prog 30 #[.string s] w fun e w' => e = .returned (.int .i64 v) ∧ Below w.heap.size w w' := by
  have HR := Aside0.mk (date_ReadStamp.calls s v 0 w h hTab)
  clear h hTab
  go_enter Tryz.func30, Tryz.ntmps30
  go_wp2_with (go_at_call 31; refine HR.out.mono ?_; rintro e w1 ⟨rfl, hb⟩; have HB1 := Aside0.mk hb; clear hb)
  go_ret
  exact ⟨rfl, HB1.out⟩
def almanaclaw16_awake.f : Option Bool := some true
set_option maxRecDepth 100000 in
set_option maxHeartbeats 8000000 in
theorem almanaclaw16_awake.calls (r : Bool) (w : World) (h : almanaclaw16_awake.f = some r) (hTab : Tab w) : Calls Tryz.prog 12 #[] w fun e w' => e = .returned (.bool r) ∧ Below w.heap.size w w' := by
  obtain rfl : true = r := Option.some.inj h
  clear h
  have HT := Aside0.mk hTab
  clear hTab
  have hu24 := Tryz.underlying24
  have HB := Aside0.mk (Below.refl w.heap.size w)
  go_enter Tryz.func12, Tryz.ntmps12
  go_wp2_with (first
    | (go_at_call 14; refine (zone_Named.calls 0 berlin berlin obsB true _ nmB (HT.out.below HB.out)).mono ?_; rintro e w1 ⟨v1, rfl, hv1, hb⟩; obtain ⟨A, cp, rfl⟩ := Kd.V_slice hv1; have HP := Aside0.mk (show obsB.length ≤ cp from (Kd.V_reads' hv1).2.1); have HCa := Aside0.mk (Kd.C_below (show Kd.C k32 w1 A obsB.length obsB from (Kd.V_reads' hv1).2.2) (below_alloc (Below.refl _ _) (.cells #[.string berlin, .slice A 2 cp] 24))); have HBa := Aside0.mk (below_alloc (below_step HB.out hb) (.cells #[.string berlin, .slice A 2 cp] 24)); have BKa := Aside0.mk (heap_alloc_new w1 (.cells #[.string berlin, .slice A 2 cp] 24)); clear HB hv1 hb)
    | (go_at_call 14; refine (zone_Named.calls 0 nowhere ⟨#[]⟩ [] false _ nmN (HT.out.below HBa.out)).mono ?_; rintro e w2 ⟨v2, rfl, hv2, hb⟩; obtain ⟨A2, cp2, rfl⟩ := Kd.V_slice hv2; have HC0 := Aside0.mk (Kd.C_alloc (Kd.C_below HCa.out hb) (.cells #[.string ⟨#[]⟩, .slice A2 0 cp2] 24)); have HB0 := Aside0.mk (below_alloc (below_step HBa.out hb) (.cells #[.string ⟨#[]⟩, .slice A2 0 cp2] 24)); have BK0 := Aside0.mk (blk_alloc (blk_below BKa.out hb) (.cells #[.string ⟨#[]⟩, .slice A2 0 cp2] 24)); clear hv2 hb HCa HBa BKa))
  obtain ⟨gz, hgz⟩ : ∃ g, w1.heap.size = g := ⟨_, rfl⟩
  rw [hgz] at BK0 ⊢
  clear hgz
  refine start_ (n := 47) (S := fun w' => w'.cell? ⟨gz, 0, none⟩ = some (.string berlin) ∧ w'.cell? ⟨gz, 1, none⟩ = some (.slice A 2 cp)) (ds := []) #[false, false, false, false, false, false, false, false, false, false, false, false, false, false, false, false, false, false, false, false, false, false, false, false, false, false, false, false, false, false, false, false, false, false, false, false, false, false, false, false, false, false, false, false, false, false, false] (by kernel_rfl) rfl rfl ⟨(blk_cell (blk_drew BK0.out) 0).trans rfl, (blk_cell (blk_drew BK0.out) 1).trans rfl⟩ (fun hHeld => ?_)
  replace BK0 := Aside0.mk (blk_drew BK0.out)
  replace HB0 := Aside0.mk (below_drew1 HB0.out)
  replace HC0 := Aside0.mk (Kd.C_drew HC0.out)
  refine pure_ (i := 0) (N := some 14) (v := ?_) (a' := ?_) #[true, false, false, false, false, false, false, false, false, false, false, false, false, false, false, false, false, false, false, false, false, false, false, false, false, false, false, false, false, false, false, false, false, false, false, false, false, false, false, false, false, false, false, false, false, false, false] rfl rfl (by kernel_rfl) (fun _ _ _ h => h) (Or.inl ⟨by rfl, ?_⟩) ?_ ?_
  rotate_left
  · intro w'
    go_simp
    with_reducible rfl
  rotate_left
  · simp only [Act.put, List.setIfInBounds_toArray, List.set_cons_zero, List.set_cons_succ, i64_w, i32_w]
    rfl
  refine pure_ (i := 1) (N := some 15) (v := ?_) (a' := ?_) #[true, true, false, false, false, false, false, false, false, false, false, false, false, false, false, false, false, false, false, false, false, false, false, false, false, false, false, false, false, false, false, false, false, false, false, false, false, false, false, false, false, false, false, false, false, false, false] rfl rfl (by kernel_rfl) (fun _ _ _ h => h) (Or.inl ⟨by rfl, ?_⟩) ?_ ?_
  rotate_left
  · intro w'
    go_simp
    with_reducible rfl
  rotate_left
  · simp only [Act.put, List.setIfInBounds_toArray, List.set_cons_zero, List.set_cons_succ, i64_w, i32_w]
    rfl
  refine pure_ (i := 2) (N := some 16) (v := ?_) (a' := ?_) #[true, true, true, false, false, false, false, false, false, false, false, false, false, false, false, false, false, false, false, false, false, false, false, false, false, false, false, false, false, false, false, false, false, false, false, false, false, false, false, false, false, false, false, false, false, false, false] rfl rfl (by kernel_rfl) (fun _ _ _ h => h) (Or.inl ⟨by rfl, ?_⟩) ?_ ?_
  rotate_left
  · intro w'
    go_simp
    with_reducible rfl
  rotate_left
  · simp only [Act.put, List.setIfInBounds_toArray, List.set_cons_zero, List.set_cons_succ, i64_w, i32_w]
    rfl
  refine pure_ (i := 3) (N := some 17) (v := ?_) (a' := ?_) #[true, true, true, true, false, false, false, false, false, false, false, false, false, false, false, false, false, false, false, false, false, false, false, false, false, false, false, false, false, false, false, false, false, false, false, false, false, false, false, false, false, false, false, false, false, false, false] rfl rfl (by kernel_rfl) (fun _ _ _ h => h) (Or.inl ⟨by rfl, ?_⟩) ?_ ?_
  rotate_left
  · intro w'
    go_simp
    with_reducible rfl
  rotate_left
  · simp only [Act.put, List.setIfInBounds_toArray, List.set_cons_zero, List.set_cons_succ, i64_w, i32_w]
    rfl
  refine pure_ (i := 4) (N := some 18) (v := ?_) (a' := ?_) #[true, true, true, true, true, false, false, false, false, false, false, false, false, false, false, false, false, false, false, false, false, false, false, false, false, false, false, false, false, false, false, false, false, false, false, false, false, false, false, false, false, false, false, false, false, false, false] rfl rfl (by kernel_rfl) (fun _ _ _ h => h) (Or.inl ⟨by rfl, ?_⟩) ?_ ?_
  rotate_left
  · intro w'
    go_simp
    with_reducible rfl
  rotate_left
  · simp only [Act.put, List.setIfInBounds_toArray, List.set_cons_zero, List.set_cons_succ, i64_w, i32_w]
    rfl
  refine pure_ (i := 5) (N := some 19) (v := ?_) (a' := ?_) #[true, true, true, true, true, true, false, false, false, false, false, false, false, false, false, false, false, false, false, false, false, false, false, false, false, false, false, false, false, false, false, false, false, false, false, false, false, false, false, false, false, false, false, false, false, false, false] rfl rfl (by kernel_rfl) (fun _ _ _ h => h) (Or.inl ⟨by rfl, ?_⟩) ?_ ?_
  rotate_left
  · intro w'
    go_simp
    with_reducible rfl
  rotate_left
  · simp only [Act.put, List.setIfInBounds_toArray, List.set_cons_zero, List.set_cons_succ, i64_w, i32_w]
    rfl
  refine pure_ (i := 6) (N := some 20) (v := ?_) (a' := ?_) #[true, true, true, true, true, true, true, false, false, false, false, false, false, false, false, false, false, false, false, false, false, false, false, false, false, false, false, false, false, false, false, false, false, false, false, false, false, false, false, false, false, false, false, false, false, false, false] rfl rfl (by kernel_rfl) (fun _ _ _ h => h) (Or.inl ⟨by rfl, ?_⟩) ?_ ?_
  rotate_left
  · intro w'
    go_simp
    with_reducible rfl
  rotate_left
  · simp only [Act.put, List.setIfInBounds_toArray, List.set_cons_zero, List.set_cons_succ, i64_w, i32_w]
    rfl
  refine one_ (i := 7) (N := some 21) #[true, true, true, true, true, true, true, true, false, false, false, false, false, false, false, false, false, false, false, false, false, false, false, false, false, false, false, false, false, false, false, false, false, false, false, false, false, false, false, false, false, false, false, false, false, false, false] rfl rfl (by kernel_rfl) (by decide) (fun K hK => ?_)
  refine goesV_ Tryz.func30 (by kernel_rfl) rfl #[.string ⟨#[50, 48, 50, 53, 48, 51, 51, 48, 84, 48, 49, 51, 48, 48, 48]⟩] (by rfl) rfl rfl (by rfl) (by (try simp only [List.map_toArray, List.map_cons, List.map_nil]); first | done | rfl) ?_
  refine (t_calls ⟨#[50, 48, 50, 53, 48, 51, 51, 48, 84, 48, 49, 51, 48, 48, 48]⟩ 1743298200 _ st20250330T013000 (HT.out.below HB0.out)).mono ?_
  rintro e x1 ⟨rfl, hb⟩
  refine ⟨_, rfl, ?_⟩
  have BK1 := Aside0.mk (blk_below BK0.out hb)
  have HC1 := Aside0.mk (Kd.C_below HC0.out hb)
  have HB1 := Aside0.mk (below_step HB0.out hb)
  clear hb BK0 HC0 HB0
  refine hK.out _ _ (⟨(blk_cell BK1.out 0).trans rfl, (blk_cell BK1.out 1).trans rfl⟩) (fun hHeld => ?_)
  clear hK K
  refine norm_ (a' := ?_) ?_ ?_
  rotate_left
  · show Act.put _ (some 21) _ = _
    simp only [Act.put, List.setIfInBounds_toArray, List.set_cons_zero, List.set_cons_succ, i64_w, i32_w]
    rfl
  refine one_ (i := 8) (N := some 22) #[true, true, true, true, true, true, true, true, true, false, false, false, false, false, false, false, false, false, false, false, false, false, false, false, false, false, false, false, false, false, false, false, false, false, false, false, false, false, false, false, false, false, false, false, false, false, false] rfl rfl (by kernel_rfl) (by decide) (fun K hK => ?_)
  refine goes_ Tryz.func26 (by kernel_rfl) rfl #[.int .i64 1743298200] (by rfl) rfl rfl (by (try simp only [List.map_toArray, List.map_cons, List.map_nil]); first | done | rfl) ?_
  refine (almanacref10_In.calls 1743298200 true _ (by decide)).mono ?_
  rintro e x2 ⟨rfl, hd⟩
  have hb := drawn_below hd
  clear hd
  refine ⟨_, rfl, ?_⟩
  have BK2 := Aside0.mk (blk_below BK1.out hb)
  have HC2 := Aside0.mk (Kd.C_below HC1.out hb)
  have HB2 := Aside0.mk (below_step HB1.out hb)
  clear hb BK1 HC1 HB1
  refine hK.out _ _ (⟨(blk_cell BK2.out 0).trans rfl, (blk_cell BK2.out 1).trans rfl⟩) (fun hHeld => ?_)
  clear hK K
  refine norm_ (a' := ?_) ?_ ?_
  rotate_left
  · show Act.put _ (some 22) _ = _
    simp only [Act.put, List.setIfInBounds_toArray, List.set_cons_zero, List.set_cons_succ, i64_w, i32_w]
    rfl
  refine pure_ (i := 9) (N := some 23) (v := ?_) (a' := ?_) #[true, true, true, true, true, true, true, true, true, true, false, false, false, false, false, false, false, false, false, false, false, false, false, false, false, false, false, false, false, false, false, false, false, false, false, false, false, false, false, false, false, false, false, false, false, false, false] rfl rfl (by kernel_rfl) (fun _ _ _ h => h) (Or.inl ⟨by rfl, ?_⟩) ?_ ?_
  rotate_left
  · intro w'
    go_simp
    with_reducible rfl
  rotate_left
  · simp only [Act.put, List.setIfInBounds_toArray, List.set_cons_zero, List.set_cons_succ, i64_w, i32_w]
    rfl
  refine pure_ (i := 10) (N := some 24) (v := ?_) (a' := ?_) #[true, true, true, true, true, true, true, true, true, true, true, false, false, false, false, false, false, false, false, false, false, false, false, false, false, false, false, false, false, false, false, false, false, false, false, false, false, false, false, false, false, false, false, false, false, false, false] rfl rfl (by kernel_rfl) (fun _ _ _ h => h) (Or.inl ⟨by rfl, ?_⟩) ?_ ?_
  rotate_left
  · intro w'
    go_simp
    with_reducible rfl
  rotate_left
  · simp only [Act.put, List.setIfInBounds_toArray, List.set_cons_zero, List.set_cons_succ, i64_w, i32_w]
    rfl
  refine pure_ (i := 12) (N := some 26) (v := ?_) (a' := ?_) #[true, true, true, true, true, true, true, true, true, true, true, false, true, false, false, false, false, false, false, false, false, false, false, false, false, false, false, false, false, false, false, false, false, false, false, false, false, false, false, false, false, false, false, false, false, false, false] rfl rfl (by kernel_rfl) (fun _ _ _ h => h) (Or.inl ⟨by rfl, ?_⟩) ?_ ?_
  rotate_left
  · intro w'
    go_simp
    with_reducible rfl
  rotate_left
  · simp only [Act.put, List.setIfInBounds_toArray, List.set_cons_zero, List.set_cons_succ, i64_w, i32_w]
    rfl
  refine pure_ (i := 15) (N := some 29) (v := ?_) (a' := ?_) #[true, true, true, true, true, true, true, true, true, true, true, false, true, false, false, true, false, false, false, false, false, false, false, false, false, false, false, false, false, false, false, false, false, false, false, false, false, false, false, false, false, false, false, false, false, false, false] rfl rfl (by kernel_rfl) (fun _ _ _ h => h) (Or.inl ⟨by rfl, ?_⟩) ?_ ?_
  rotate_left
  · intro w'
    go_simp
    with_reducible rfl
  rotate_left
  · simp only [Act.put, List.setIfInBounds_toArray, List.set_cons_zero, List.set_cons_succ, i64_w, i32_w]
    rfl
  refine take_ (i := 11) (N := some 25) (v := ?_) (a' := ?_) #[true, true, true, true, true, true, true, true, true, true, true, true, true, false, false, true, false, false, false, false, false, false, false, false, false, false, false, false, false, false, false, false, false, false, false, false, false, false, false, false, false, false, false, false, false, false, false] rfl rfl (by kernel_rfl) (fun _ _ _ h => h) (Or.inl ⟨by rfl, ?_⟩) hHeld ?_ ?_
  rotate_left
  · rintro w' ⟨s0, s1⟩
    go_simp
    with_reducible rfl
  rotate_left
  · simp only [Act.put, List.setIfInBounds_toArray, List.set_cons_zero, List.set_cons_succ, i64_w, i32_w]
    rfl
  refine one_ (i := 13) (N := some 27) #[true, true, true, true, true, true, true, true, true, true, true, true, true, true, false, true, false, false, false, false, false, false, false, false, false, false, false, false, false, false, false, false, false, false, false, false, false, false, false, false, false, false, false, false, false, false, false] rfl rfl (by kernel_rfl) (by decide) (fun K hK => ?_)
  refine goesV_ Tryz.func30 (by kernel_rfl) rfl #[.string ⟨#[50, 48, 50, 53, 48, 51, 51, 48, 84, 48, 49, 51, 48, 48, 48]⟩] (by rfl) rfl rfl (by rfl) (by (try simp only [List.map_toArray, List.map_cons, List.map_nil]); first | done | rfl) ?_
  refine (t_calls ⟨#[50, 48, 50, 53, 48, 51, 51, 48, 84, 48, 49, 51, 48, 48, 48]⟩ 1743298200 _ st20250330T013000 (HT.out.below HB2.out)).mono ?_
  rintro e x3 ⟨rfl, hb⟩
  refine ⟨_, rfl, ?_⟩
  have BK3 := Aside0.mk (blk_below BK2.out hb)
  have HC3 := Aside0.mk (Kd.C_below HC2.out hb)
  have HB3 := Aside0.mk (below_step HB2.out hb)
  clear hb BK2 HC2 HB2
  refine hK.out _ _ (⟨(blk_cell BK3.out 0).trans rfl, (blk_cell BK3.out 1).trans rfl⟩) (fun hHeld => ?_)
  clear hK K
  refine norm_ (a' := ?_) ?_ ?_
  rotate_left
  · show Act.put _ (some 27) _ = _
    simp only [Act.put, List.setIfInBounds_toArray, List.set_cons_zero, List.set_cons_succ, i64_w, i32_w]
    rfl
  refine one_ (i := 14) (N := some 28) #[true, true, true, true, true, true, true, true, true, true, true, true, true, true, true, true, false, false, false, false, false, false, false, false, false, false, false, false, false, false, false, false, false, false, false, false, false, false, false, false, false, false, false, false, false, false, false] rfl rfl (by kernel_rfl) (by decide) (fun K hK => ?_)
  refine goes_ Tryz.func10 (by kernel_rfl) rfl #[.agg #[.string berlin, .slice A 2 cp], .int .i64 1743298200] (by rfl) rfl rfl (by (try simp only [List.map_toArray, List.map_cons, List.map_nil]); first | done | rfl) ?_
  refine (zone_Utc.calls 20 berlin A cp obsB 1743298200 1743294600 _ HC3.out HP.out ut1743298200).mono ?_
  rintro e x4 ⟨rfl, hb⟩
  refine ⟨_, rfl, ?_⟩
  have BK4 := Aside0.mk (blk_below BK3.out hb)
  have HC4 := Aside0.mk (Kd.C_below HC3.out hb)
  have HB4 := Aside0.mk (below_step HB3.out hb)
  clear hb BK3 HC3 HB3
  refine hK.out _ _ (⟨(blk_cell BK4.out 0).trans rfl, (blk_cell BK4.out 1).trans rfl⟩) (fun hHeld => ?_)
  clear hK K
  refine norm_ (a' := ?_) ?_ ?_
  rotate_left
  · show Act.put _ (some 28) _ = _
    simp only [Act.put, List.setIfInBounds_toArray, List.set_cons_zero, List.set_cons_succ, i64_w, i32_w]
    rfl
  refine one_ (i := 16) (N := some 30) #[true, true, true, true, true, true, true, true, true, true, true, true, true, true, true, true, true, false, false, false, false, false, false, false, false, false, false, false, false, false, false, false, false, false, false, false, false, false, false, false, false, false, false, false, false, false, false] rfl rfl (by kernel_rfl) (by decide) (fun K hK => ?_)
  refine goesV_ Tryz.func30 (by kernel_rfl) rfl #[.string ⟨#[50, 48, 50, 53, 48, 51, 51, 48, 84, 48, 48, 51, 48, 48, 48]⟩] (by rfl) rfl rfl (by rfl) (by (try simp only [List.map_toArray, List.map_cons, List.map_nil]); first | done | rfl) ?_
  refine (t_calls ⟨#[50, 48, 50, 53, 48, 51, 51, 48, 84, 48, 48, 51, 48, 48, 48]⟩ 1743294600 _ st20250330T003000 (HT.out.below HB4.out)).mono ?_
  rintro e x5 ⟨rfl, hb⟩
  refine ⟨_, rfl, ?_⟩
  have BK5 := Aside0.mk (blk_below BK4.out hb)
  have HC5 := Aside0.mk (Kd.C_below HC4.out hb)
  have HB5 := Aside0.mk (below_step HB4.out hb)
  clear hb BK4 HC4 HB4
  refine hK.out _ _ (⟨(blk_cell BK5.out 0).trans rfl, (blk_cell BK5.out 1).trans rfl⟩) (fun hHeld => ?_)
  clear hK K
  refine norm_ (a' := ?_) ?_ ?_
  rotate_left
  · show Act.put _ (some 30) _ = _
    simp only [Act.put, List.setIfInBounds_toArray, List.set_cons_zero, List.set_cons_succ, i64_w, i32_w]
    rfl
  refine pure_ (i := 17) (N := some 31) (v := ?_) (a' := ?_) #[true, true, true, true, true, true, true, true, true, true, true, true, true, true, true, true, true, true, false, false, false, false, false, false, false, false, false, false, false, false, false, false, false, false, false, false, false, false, false, false, false, false, false, false, false, false, false] rfl rfl (by kernel_rfl) (fun _ _ _ h => h) (Or.inl ⟨by rfl, ?_⟩) ?_ ?_
  rotate_left
  · intro w'
    go_simp
    with_reducible rfl
  rotate_left
  · simp only [Act.put, List.setIfInBounds_toArray, List.set_cons_zero, List.set_cons_succ, i64_w, i32_w]
    rfl
  refine pure_ (i := 18) (N := some 32) (v := ?_) (a' := ?_) #[true, true, true, true, true, true, true, true, true, true, true, true, true, true, true, true, true, true, true, false, false, false, false, false, false, false, false, false, false, false, false, false, false, false, false, false, false, false, false, false, false, false, false, false, false, false, false] rfl rfl (by kernel_rfl) (fun _ _ _ h => h) (Or.inl ⟨by rfl, ?_⟩) ?_ ?_
  rotate_left
  · intro w'
    go_simp
    with_reducible rfl
  rotate_left
  · simp only [Act.put, List.setIfInBounds_toArray, List.set_cons_zero, List.set_cons_succ, i64_w, i32_w]
    rfl
  refine pure_ (i := 19) (N := some 33) (v := ?_) (a' := ?_) #[true, true, true, true, true, true, true, true, true, true, true, true, true, true, true, true, true, true, true, true, false, false, false, false, false, false, false, false, false, false, false, false, false, false, false, false, false, false, false, false, false, false, false, false, false, false, false] rfl rfl (by kernel_rfl) (fun _ _ _ h => h) (Or.inl ⟨by rfl, ?_⟩) ?_ ?_
  rotate_left
  · intro w'
    go_simp
    with_reducible rfl
  rotate_left
  · simp only [Act.put, List.setIfInBounds_toArray, List.set_cons_zero, List.set_cons_succ, i64_w, i32_w]
    rfl
  refine pure_ (i := 21) (N := some 35) (v := ?_) (a' := ?_) #[true, true, true, true, true, true, true, true, true, true, true, true, true, true, true, true, true, true, true, true, false, true, false, false, false, false, false, false, false, false, false, false, false, false, false, false, false, false, false, false, false, false, false, false, false, false, false] rfl rfl (by kernel_rfl) (fun _ _ _ h => h) (Or.inl ⟨by rfl, ?_⟩) ?_ ?_
  rotate_left
  · intro w'
    go_simp
    with_reducible rfl
  rotate_left
  · simp only [Act.put, List.setIfInBounds_toArray, List.set_cons_zero, List.set_cons_succ, i64_w, i32_w]
    rfl
  refine pure_ (i := 24) (N := some 38) (v := ?_) (a' := ?_) #[true, true, true, true, true, true, true, true, true, true, true, true, true, true, true, true, true, true, true, true, false, true, false, false, true, false, false, false, false, false, false, false, false, false, false, false, false, false, false, false, false, false, false, false, false, false, false] rfl rfl (by kernel_rfl) (fun _ _ _ h => h) (Or.inl ⟨by rfl, ?_⟩) ?_ ?_
  rotate_left
  · intro w'
    go_simp
    with_reducible rfl
  rotate_left
  · simp only [Act.put, List.setIfInBounds_toArray, List.set_cons_zero, List.set_cons_succ, i64_w, i32_w]
    rfl
  refine take_ (i := 20) (N := some 34) (v := ?_) (a' := ?_) #[true, true, true, true, true, true, true, true, true, true, true, true, true, true, true, true, true, true, true, true, true, true, false, false, true, false, false, false, false, false, false, false, false, false, false, false, false, false, false, false, false, false, false, false, false, false, false] rfl rfl (by kernel_rfl) (fun _ _ _ h => h) (Or.inl ⟨by rfl, ?_⟩) hHeld ?_ ?_
  rotate_left
  · rintro w' ⟨s0, s1⟩
    go_simp
    with_reducible rfl
  rotate_left
  · simp only [Act.put, List.setIfInBounds_toArray, List.set_cons_zero, List.set_cons_succ, i64_w, i32_w]
    rfl
  refine one_ (i := 22) (N := some 36) #[true, true, true, true, true, true, true, true, true, true, true, true, true, true, true, true, true, true, true, true, true, true, true, false, true, false, false, false, false, false, false, false, false, false, false, false, false, false, false, false, false, false, false, false, false, false, false] rfl rfl (by kernel_rfl) (by decide) (fun K hK => ?_)
  refine goesV_ Tryz.func30 (by kernel_rfl) rfl #[.string ⟨#[50, 48, 50, 53, 48, 51, 51, 48, 84, 48, 50, 51, 48, 48, 48]⟩] (by rfl) rfl rfl (by rfl) (by (try simp only [List.map_toArray, List.map_cons, List.map_nil]); first | done | rfl) ?_
  refine (t_calls ⟨#[50, 48, 50, 53, 48, 51, 51, 48, 84, 48, 50, 51, 48, 48, 48]⟩ 1743301800 _ st20250330T023000 (HT.out.below HB5.out)).mono ?_
  rintro e x6 ⟨rfl, hb⟩
  refine ⟨_, rfl, ?_⟩
  have BK6 := Aside0.mk (blk_below BK5.out hb)
  have HC6 := Aside0.mk (Kd.C_below HC5.out hb)
  have HB6 := Aside0.mk (below_step HB5.out hb)
  clear hb BK5 HC5 HB5
  refine hK.out _ _ (⟨(blk_cell BK6.out 0).trans rfl, (blk_cell BK6.out 1).trans rfl⟩) (fun hHeld => ?_)
  clear hK K
  refine norm_ (a' := ?_) ?_ ?_
  rotate_left
  · show Act.put _ (some 36) _ = _
    simp only [Act.put, List.setIfInBounds_toArray, List.set_cons_zero, List.set_cons_succ, i64_w, i32_w]
    rfl
  refine one_ (i := 23) (N := some 37) #[true, true, true, true, true, true, true, true, true, true, true, true, true, true, true, true, true, true, true, true, true, true, true, true, true, false, false, false, false, false, false, false, false, false, false, false, false, false, false, false, false, false, false, false, false, false, false] rfl rfl (by kernel_rfl) (by decide) (fun K hK => ?_)
  refine goes_ Tryz.func10 (by kernel_rfl) rfl #[.agg #[.string berlin, .slice A 2 cp], .int .i64 1743301800] (by rfl) rfl rfl (by (try simp only [List.map_toArray, List.map_cons, List.map_nil]); first | done | rfl) ?_
  refine (zone_Utc.calls 20 berlin A cp obsB 1743301800 1743298200 _ HC6.out HP.out ut1743301800).mono ?_
  rintro e x7 ⟨rfl, hb⟩
  refine ⟨_, rfl, ?_⟩
  have BK7 := Aside0.mk (blk_below BK6.out hb)
  have HC7 := Aside0.mk (Kd.C_below HC6.out hb)
  have HB7 := Aside0.mk (below_step HB6.out hb)
  clear hb BK6 HC6 HB6
  refine hK.out _ _ (⟨(blk_cell BK7.out 0).trans rfl, (blk_cell BK7.out 1).trans rfl⟩) (fun hHeld => ?_)
  clear hK K
  refine norm_ (a' := ?_) ?_ ?_
  rotate_left
  · show Act.put _ (some 37) _ = _
    simp only [Act.put, List.setIfInBounds_toArray, List.set_cons_zero, List.set_cons_succ, i64_w, i32_w]
    rfl
  refine one_ (i := 25) (N := some 39) #[true, true, true, true, true, true, true, true, true, true, true, true, true, true, true, true, true, true, true, true, true, true, true, true, true, true, false, false, false, false, false, false, false, false, false, false, false, false, false, false, false, false, false, false, false, false, false] rfl rfl (by kernel_rfl) (by decide) (fun K hK => ?_)
  refine goesV_ Tryz.func30 (by kernel_rfl) rfl #[.string ⟨#[50, 48, 50, 53, 48, 51, 51, 48, 84, 48, 49, 51, 48, 48, 48]⟩] (by rfl) rfl rfl (by rfl) (by (try simp only [List.map_toArray, List.map_cons, List.map_nil]); first | done | rfl) ?_
  refine (t_calls ⟨#[50, 48, 50, 53, 48, 51, 51, 48, 84, 48, 49, 51, 48, 48, 48]⟩ 1743298200 _ st20250330T013000 (HT.out.below HB7.out)).mono ?_
  rintro e x8 ⟨rfl, hb⟩
  refine ⟨_, rfl, ?_⟩
  have BK8 := Aside0.mk (blk_below BK7.out hb)
  have HC8 := Aside0.mk (Kd.C_below HC7.out hb)
  have HB8 := Aside0.mk (below_step HB7.out hb)
  clear hb BK7 HC7 HB7
  refine hK.out _ _ (⟨(blk_cell BK8.out 0).trans rfl, (blk_cell BK8.out 1).trans rfl⟩) (fun hHeld => ?_)
  clear hK K
  refine norm_ (a' := ?_) ?_ ?_
  rotate_left
  · show Act.put _ (some 39) _ = _
    simp only [Act.put, List.setIfInBounds_toArray, List.set_cons_zero, List.set_cons_succ, i64_w, i32_w]
    rfl
  refine pure_ (i := 26) (N := some 40) (v := ?_) (a' := ?_) #[true, true, true, true, true, true, true, true, true, true, true, true, true, true, true, true, true, true, true, true, true, true, true, true, true, true, true, false, false, false, false, false, false, false, false, false, false, false, false, false, false, false, false, false, false, false, false] rfl rfl (by kernel_rfl) (fun _ _ _ h => h) (Or.inl ⟨by rfl, ?_⟩) ?_ ?_
  rotate_left
  · intro w'
    go_simp
    with_reducible rfl
  rotate_left
  · simp only [Act.put, List.setIfInBounds_toArray, List.set_cons_zero, List.set_cons_succ, i64_w, i32_w]
    rfl
  refine pure_ (i := 27) (N := some 41) (v := ?_) (a' := ?_) #[true, true, true, true, true, true, true, true, true, true, true, true, true, true, true, true, true, true, true, true, true, true, true, true, true, true, true, true, false, false, false, false, false, false, false, false, false, false, false, false, false, false, false, false, false, false, false] rfl rfl (by kernel_rfl) (fun _ _ _ h => h) (Or.inl ⟨by rfl, ?_⟩) ?_ ?_
  rotate_left
  · intro w'
    go_simp
    with_reducible rfl
  rotate_left
  · simp only [Act.put, List.setIfInBounds_toArray, List.set_cons_zero, List.set_cons_succ, i64_w, i32_w]
    rfl
  refine pure_ (i := 28) (N := some 42) (v := ?_) (a' := ?_) #[true, true, true, true, true, true, true, true, true, true, true, true, true, true, true, true, true, true, true, true, true, true, true, true, true, true, true, true, true, false, false, false, false, false, false, false, false, false, false, false, false, false, false, false, false, false, false] rfl rfl (by kernel_rfl) (fun _ _ _ h => h) (Or.inl ⟨by rfl, ?_⟩) ?_ ?_
  rotate_left
  · intro w'
    go_simp
    with_reducible rfl
  rotate_left
  · simp only [Act.put, List.setIfInBounds_toArray, List.set_cons_zero, List.set_cons_succ, i64_w, i32_w]
    rfl
  refine pure_ (i := 30) (N := some 44) (v := ?_) (a' := ?_) #[true, true, true, true, true, true, true, true, true, true, true, true, true, true, true, true, true, true, true, true, true, true, true, true, true, true, true, true, true, false, true, false, false, false, false, false, false, false, false, false, false, false, false, false, false, false, false] rfl rfl (by kernel_rfl) (fun _ _ _ h => h) (Or.inl ⟨by rfl, ?_⟩) ?_ ?_
  rotate_left
  · intro w'
    go_simp
    with_reducible rfl
  rotate_left
  · simp only [Act.put, List.setIfInBounds_toArray, List.set_cons_zero, List.set_cons_succ, i64_w, i32_w]
    rfl
  refine pure_ (i := 33) (N := some 47) (v := ?_) (a' := ?_) #[true, true, true, true, true, true, true, true, true, true, true, true, true, true, true, true, true, true, true, true, true, true, true, true, true, true, true, true, true, false, true, false, false, true, false, false, false, false, false, false, false, false, false, false, false, false, false] rfl rfl (by kernel_rfl) (fun _ _ _ h => h) (Or.inl ⟨by rfl, ?_⟩) ?_ ?_
  rotate_left
  · intro w'
    go_simp
    with_reducible rfl
  rotate_left
  · simp only [Act.put, List.setIfInBounds_toArray, List.set_cons_zero, List.set_cons_succ, i64_w, i32_w]
    rfl
  refine take_ (i := 29) (N := some 43) (v := ?_) (a' := ?_) #[true, true, true, true, true, true, true, true, true, true, true, true, true, true, true, true, true, true, true, true, true, true, true, true, true, true, true, true, true, true, true, false, false, true, false, false, false, false, false, false, false, false, false, false, false, false, false] rfl rfl (by kernel_rfl) (fun _ _ _ h => h) (Or.inl ⟨by rfl, ?_⟩) hHeld ?_ ?_
  rotate_left
  · rintro w' ⟨s0, s1⟩
    go_simp
    with_reducible rfl
  rotate_left
  · simp only [Act.put, List.setIfInBounds_toArray, List.set_cons_zero, List.set_cons_succ, i64_w, i32_w]
    rfl
  refine one_ (i := 31) (N := some 45) #[true, true, true, true, true, true, true, true, true, true, true, true, true, true, true, true, true, true, true, true, true, true, true, true, true, true, true, true, true, true, true, true, false, true, false, false, false, false, false, false, false, false, false, false, false, false, false] rfl rfl (by kernel_rfl) (by decide) (fun K hK => ?_)
  refine goesV_ Tryz.func30 (by kernel_rfl) rfl #[.string ⟨#[50, 48, 50, 53, 49, 48, 50, 54, 84, 48, 50, 51, 48, 48, 48]⟩] (by rfl) rfl rfl (by rfl) (by (try simp only [List.map_toArray, List.map_cons, List.map_nil]); first | done | rfl) ?_
  refine (t_calls ⟨#[50, 48, 50, 53, 49, 48, 50, 54, 84, 48, 50, 51, 48, 48, 48]⟩ 1761445800 _ st20251026T023000 (HT.out.below HB8.out)).mono ?_
  rintro e x9 ⟨rfl, hb⟩
  refine ⟨_, rfl, ?_⟩
  have BK9 := Aside0.mk (blk_below BK8.out hb)
  have HC9 := Aside0.mk (Kd.C_below HC8.out hb)
  have HB9 := Aside0.mk (below_step HB8.out hb)
  clear hb BK8 HC8 HB8
  refine hK.out _ _ (⟨(blk_cell BK9.out 0).trans rfl, (blk_cell BK9.out 1).trans rfl⟩) (fun hHeld => ?_)
  clear hK K
  refine norm_ (a' := ?_) ?_ ?_
  rotate_left
  · show Act.put _ (some 45) _ = _
    simp only [Act.put, List.setIfInBounds_toArray, List.set_cons_zero, List.set_cons_succ, i64_w, i32_w]
    rfl
  refine one_ (i := 32) (N := some 46) #[true, true, true, true, true, true, true, true, true, true, true, true, true, true, true, true, true, true, true, true, true, true, true, true, true, true, true, true, true, true, true, true, true, true, false, false, false, false, false, false, false, false, false, false, false, false, false] rfl rfl (by kernel_rfl) (by decide) (fun K hK => ?_)
  refine goes_ Tryz.func10 (by kernel_rfl) rfl #[.agg #[.string berlin, .slice A 2 cp], .int .i64 1761445800] (by rfl) rfl rfl (by (try simp only [List.map_toArray, List.map_cons, List.map_nil]); first | done | rfl) ?_
  refine (zone_Utc.calls 20 berlin A cp obsB 1761445800 1761438600 _ HC9.out HP.out ut1761445800).mono ?_
  rintro e x10 ⟨rfl, hb⟩
  refine ⟨_, rfl, ?_⟩
  have BK10 := Aside0.mk (blk_below BK9.out hb)
  have HC10 := Aside0.mk (Kd.C_below HC9.out hb)
  have HB10 := Aside0.mk (below_step HB9.out hb)
  clear hb BK9 HC9 HB9
  refine hK.out _ _ (⟨(blk_cell BK10.out 0).trans rfl, (blk_cell BK10.out 1).trans rfl⟩) (fun hHeld => ?_)
  clear hK K
  refine norm_ (a' := ?_) ?_ ?_
  rotate_left
  · show Act.put _ (some 46) _ = _
    simp only [Act.put, List.setIfInBounds_toArray, List.set_cons_zero, List.set_cons_succ, i64_w, i32_w]
    rfl
  refine one_ (i := 34) (N := some 48) #[true, true, true, true, true, true, true, true, true, true, true, true, true, true, true, true, true, true, true, true, true, true, true, true, true, true, true, true, true, true, true, true, true, true, true, false, false, false, false, false, false, false, false, false, false, false, false] rfl rfl (by kernel_rfl) (by decide) (fun K hK => ?_)
  refine goesV_ Tryz.func30 (by kernel_rfl) rfl #[.string ⟨#[50, 48, 50, 53, 49, 48, 50, 54, 84, 48, 48, 51, 48, 48, 48]⟩] (by rfl) rfl rfl (by rfl) (by (try simp only [List.map_toArray, List.map_cons, List.map_nil]); first | done | rfl) ?_
  refine (t_calls ⟨#[50, 48, 50, 53, 49, 48, 50, 54, 84, 48, 48, 51, 48, 48, 48]⟩ 1761438600 _ st20251026T003000 (HT.out.below HB10.out)).mono ?_
  rintro e x11 ⟨rfl, hb⟩
  refine ⟨_, rfl, ?_⟩
  have BK11 := Aside0.mk (blk_below BK10.out hb)
  have HC11 := Aside0.mk (Kd.C_below HC10.out hb)
  have HB11 := Aside0.mk (below_step HB10.out hb)
  clear hb BK10 HC10 HB10
  refine hK.out _ _ (⟨(blk_cell BK11.out 0).trans rfl, (blk_cell BK11.out 1).trans rfl⟩) (fun hHeld => ?_)
  clear hK K
  refine norm_ (a' := ?_) ?_ ?_
  rotate_left
  · show Act.put _ (some 48) _ = _
    simp only [Act.put, List.setIfInBounds_toArray, List.set_cons_zero, List.set_cons_succ, i64_w, i32_w]
    rfl
  refine pure_ (i := 35) (N := some 49) (v := ?_) (a' := ?_) #[true, true, true, true, true, true, true, true, true, true, true, true, true, true, true, true, true, true, true, true, true, true, true, true, true, true, true, true, true, true, true, true, true, true, true, true, false, false, false, false, false, false, false, false, false, false, false] rfl rfl (by kernel_rfl) (fun _ _ _ h => h) (Or.inl ⟨by rfl, ?_⟩) ?_ ?_
  rotate_left
  · intro w'
    go_simp
    with_reducible rfl
  rotate_left
  · simp only [Act.put, List.setIfInBounds_toArray, List.set_cons_zero, List.set_cons_succ, i64_w, i32_w]
    rfl
  refine pure_ (i := 36) (N := some 50) (v := ?_) (a' := ?_) #[true, true, true, true, true, true, true, true, true, true, true, true, true, true, true, true, true, true, true, true, true, true, true, true, true, true, true, true, true, true, true, true, true, true, true, true, true, false, false, false, false, false, false, false, false, false, false] rfl rfl (by kernel_rfl) (fun _ _ _ h => h) (Or.inl ⟨by rfl, ?_⟩) ?_ ?_
  rotate_left
  · intro w'
    go_simp
    with_reducible rfl
  rotate_left
  · simp only [Act.put, List.setIfInBounds_toArray, List.set_cons_zero, List.set_cons_succ, i64_w, i32_w]
    rfl
  refine pure_ (i := 37) (N := some 51) (v := ?_) (a' := ?_) #[true, true, true, true, true, true, true, true, true, true, true, true, true, true, true, true, true, true, true, true, true, true, true, true, true, true, true, true, true, true, true, true, true, true, true, true, true, true, false, false, false, false, false, false, false, false, false] rfl rfl (by kernel_rfl) (fun _ _ _ h => h) (Or.inl ⟨by rfl, ?_⟩) ?_ ?_
  rotate_left
  · intro w'
    go_simp
    with_reducible rfl
  rotate_left
  · simp only [Act.put, List.setIfInBounds_toArray, List.set_cons_zero, List.set_cons_succ, i64_w, i32_w]
    rfl
  refine take_ (i := 38) (N := some 52) (v := ?_) (a' := ?_) #[true, true, true, true, true, true, true, true, true, true, true, true, true, true, true, true, true, true, true, true, true, true, true, true, true, true, true, true, true, true, true, true, true, true, true, true, true, true, true, false, false, false, false, false, false, false, false] rfl rfl (by kernel_rfl) (fun _ _ _ h => h) (Or.inl ⟨by rfl, ?_⟩) hHeld ?_ ?_
  rotate_left
  · rintro w' ⟨s0, s1⟩
    go_simp
    with_reducible rfl
  rotate_left
  · simp only [Act.put, List.setIfInBounds_toArray, List.set_cons_zero, List.set_cons_succ, i64_w, i32_w]
    rfl
  refine one_ (i := 39) (N := some 53) #[true, true, true, true, true, true, true, true, true, true, true, true, true, true, true, true, true, true, true, true, true, true, true, true, true, true, true, true, true, true, true, true, true, true, true, true, true, true, true, true, false, false, false, false, false, false, false] rfl rfl (by kernel_rfl) (by decide) (fun K hK => ?_)
  refine goes_ Tryz.func6 (by kernel_rfl) rfl #[.agg #[.string berlin, .slice A 2 cp], .int .i64 0] (by rfl) rfl rfl (by (try simp only [List.map_toArray, List.map_cons, List.map_nil]); first | done | rfl) ?_
  refine (zone_Offset.calls 20 berlin A cp obsB 0 3600 _ HC11.out HP.out of0).mono ?_
  rintro e x12 ⟨rfl, hb⟩
  refine ⟨_, rfl, ?_⟩
  have BK12 := Aside0.mk (blk_below BK11.out hb)
  have HC12 := Aside0.mk (Kd.C_below HC11.out hb)
  have HB12 := Aside0.mk (below_step HB11.out hb)
  clear hb BK11 HC11 HB11
  refine hK.out _ _ (⟨(blk_cell BK12.out 0).trans rfl, (blk_cell BK12.out 1).trans rfl⟩) (fun hHeld => ?_)
  clear hK K
  refine norm_ (a' := ?_) ?_ ?_
  rotate_left
  · show Act.put _ (some 53) _ = _
    simp only [Act.put, List.setIfInBounds_toArray, List.set_cons_zero, List.set_cons_succ, i64_w, i32_w]
    rfl
  refine pure_ (i := 40) (N := some 54) (v := ?_) (a' := ?_) #[true, true, true, true, true, true, true, true, true, true, true, true, true, true, true, true, true, true, true, true, true, true, true, true, true, true, true, true, true, true, true, true, true, true, true, true, true, true, true, true, true, false, false, false, false, false, false] rfl rfl (by kernel_rfl) (fun _ _ _ h => h) (Or.inl ⟨by rfl, ?_⟩) ?_ ?_
  rotate_left
  · intro w'
    go_simp
    with_reducible rfl
  rotate_left
  · simp only [Act.put, List.setIfInBounds_toArray, List.set_cons_zero, List.set_cons_succ, i64_w, i32_w]
    rfl
  refine pure_ (i := 41) (N := some 55) (v := ?_) (a' := ?_) #[true, true, true, true, true, true, true, true, true, true, true, true, true, true, true, true, true, true, true, true, true, true, true, true, true, true, true, true, true, true, true, true, true, true, true, true, true, true, true, true, true, true, false, false, false, false, false] rfl rfl (by kernel_rfl) (fun _ _ _ h => h) (Or.inl ⟨by rfl, ?_⟩) ?_ ?_
  rotate_left
  · intro w'
    go_simp
    with_reducible rfl
  rotate_left
  · simp only [Act.put, List.setIfInBounds_toArray, List.set_cons_zero, List.set_cons_succ, i64_w, i32_w]
    rfl
  refine pure_ (i := 42) (N := some 56) (v := ?_) (a' := ?_) #[true, true, true, true, true, true, true, true, true, true, true, true, true, true, true, true, true, true, true, true, true, true, true, true, true, true, true, true, true, true, true, true, true, true, true, true, true, true, true, true, true, true, true, false, false, false, false] rfl rfl (by kernel_rfl) (fun _ _ _ h => h) (Or.inl ⟨by rfl, ?_⟩) ?_ ?_
  rotate_left
  · intro w'
    go_simp
    with_reducible rfl
  rotate_left
  · simp only [Act.put, List.setIfInBounds_toArray, List.set_cons_zero, List.set_cons_succ, i64_w, i32_w]
    rfl
  refine take_ (i := 43) (N := some 57) (v := ?_) (a' := ?_) #[true, true, true, true, true, true, true, true, true, true, true, true, true, true, true, true, true, true, true, true, true, true, true, true, true, true, true, true, true, true, true, true, true, true, true, true, true, true, true, true, true, true, true, true, false, false, false] rfl rfl (by kernel_rfl) (fun _ _ _ h => h) (Or.inl ⟨by rfl, ?_⟩) hHeld ?_ ?_
  rotate_left
  · rintro w' ⟨s0, s1⟩
    go_simp
    with_reducible rfl
  rotate_left
  · simp only [Act.put, List.setIfInBounds_toArray, List.set_cons_zero, List.set_cons_succ, i64_w, i32_w]
    rfl
  refine one_ (i := 44) (N := some 58) #[true, true, true, true, true, true, true, true, true, true, true, true, true, true, true, true, true, true, true, true, true, true, true, true, true, true, true, true, true, true, true, true, true, true, true, true, true, true, true, true, true, true, true, true, true, false, false] rfl rfl (by kernel_rfl) (by decide) (fun K hK => ?_)
  refine goes_ Tryz.func20 (by kernel_rfl) rfl #[.agg #[.string berlin, .slice A 2 cp]] (by rfl) rfl rfl (by (try simp only [List.map_toArray, List.map_cons, List.map_nil]); first | done | rfl) ?_
  refine (zone_Fit.calls berlin A cp obsB true _ HC12.out HP.out (by decide)).mono ?_
  rintro e x13 ⟨rfl, hb⟩
  refine ⟨_, rfl, ?_⟩
  have BK13 := Aside0.mk (blk_below BK12.out hb)
  have HC13 := Aside0.mk (Kd.C_below HC12.out hb)
  have HB13 := Aside0.mk (below_step HB12.out hb)
  clear hb BK12 HC12 HB12
  refine hK.out _ _ (⟨(blk_cell BK13.out 0).trans rfl, (blk_cell BK13.out 1).trans rfl⟩) (fun hHeld => ?_)
  clear hK K
  refine norm_ (a' := ?_) ?_ ?_
  rotate_left
  · show Act.put _ (some 58) _ = _
    simp only [Act.put, List.setIfInBounds_toArray, List.set_cons_zero, List.set_cons_succ, i64_w, i32_w]
    rfl
  refine pure_ (i := 45) (N := some 59) (v := ?_) (a' := ?_) #[true, true, true, true, true, true, true, true, true, true, true, true, true, true, true, true, true, true, true, true, true, true, true, true, true, true, true, true, true, true, true, true, true, true, true, true, true, true, true, true, true, true, true, true, true, true, false] rfl rfl (by kernel_rfl) (fun _ _ _ h => h) (Or.inl ⟨by rfl, ?_⟩) ?_ ?_
  rotate_left
  · intro w'
    go_simp
    with_reducible rfl
  rotate_left
  · simp only [Act.put, List.setIfInBounds_toArray, List.set_cons_zero, List.set_cons_succ, i64_w, i32_w]
    rfl
  refine pure_ (i := 46) (N := some 0) (v := ?_) (a' := ?_) #[true, true, true, true, true, true, true, true, true, true, true, true, true, true, true, true, true, true, true, true, true, true, true, true, true, true, true, true, true, true, true, true, true, true, true, true, true, true, true, true, true, true, true, true, true, true, true] rfl rfl (by kernel_rfl) (fun _ _ _ h => h) (Or.inl ⟨by rfl, ?_⟩) ?_ ?_
  rotate_left
  · intro w'
    go_simp
    with_reducible rfl
  rotate_left
  · simp only [Act.put, List.setIfInBounds_toArray, List.set_cons_zero, List.set_cons_succ, i64_w, i32_w]
    rfl
  refine done_ (by kernel_rfl) ?_
  go_wp2
  go_ret
  exact ⟨rfl, HB13.out⟩
end Go.Proofs.YtmajmolbjiahlaaGreatDoor.PD
namespace Go.Proofs.YtmajmolbjiahlaaGreatDoor.PD
open Go.RowKit Go.Proofs.YtmajmolbjiahlaaGreatDoorW.PrintWords Go.Proofs.YtmajmolbjiahlaaGreatDoorW.PrintLast Go.Proofs.YtmajmolbjiahlaaGreatDoorW.PrintMore
attribute [local go_sem] isSome_setCell max2_int min2_int max_two min_two max_three min_three max_four min_four
set_option linter.unusedVariables false
set_option linter.unusedSimpArgs false
mutual
def almanaclaw16_ZoneTurns.j0 : Nat → Int → Bool → ByteArray → List (S32) → Option (Bool)
  | 0, _, _, _, _ => none
  | k + 1, x1, x21, x363000, x363001 => if x21 = true then ((almanaclaw16_awake.f).bind fun t364 => (some t364)) else ((zone_Local.f k x363000 x363001 x1).bind fun t365 => ((zone_Utc.f k x363000 x363001 t365).bind fun t366 => (if t366 > x1 then (almanaclaw16_ZoneTurns.j1 k x1 true x363000 x363001) else ((zone_Local.f k x363000 x363001 t366).bind fun t367 => (almanaclaw16_ZoneTurns.j1 k x1 (t367 != t365) x363000 x363001)))))
def almanaclaw16_ZoneTurns.j1 : Nat → Int → Bool → ByteArray → List (S32) → Option (Bool)
  | 0, _, _, _, _ => none
  | k + 1, x1, x38, x363000, x363001 => if x38 = true then (some false) else ((zone_Offset.f k x363000 x363001 x1).bind fun t368 => (if (x363001.length : Int) = 0 then (almanaclaw16_ZoneTurns.j2 k t368 (t368 == 0) x363000 x363001) else (almanaclaw16_ZoneTurns.j2 k t368 false x363000 x363001)))
def almanaclaw16_ZoneTurns.j2 : Nat → Int → Bool → ByteArray → List (S32) → Option (Bool)
  | 0, _, _, _, _ => none
  | k + 1, x7, x8, x363000, x363001 => almanaclaw16_ZoneTurns.l0 k x7 x8 x363001 (x363001.length : Int) 0
def almanaclaw16_ZoneTurns.l0 : Nat → Int → Bool → List (S32) → Int → Int → Option (Bool)
  | 0, _, _, _, _, _ => none
  | k + 1, x7, x8, x51, x52, x53 => if x53 < x52 then (if 0 ≤ x53 then (if x53 < (x51.length : Int) then (if x8 = true then (almanaclaw16_ZoneTurns.l0 k x7 true x51 x52 (wrap64 (x53 + 1))) else (if x7 = ((rd_T32 x51 x53).f1) then (almanaclaw16_ZoneTurns.l0 k x7 true x51 x52 (wrap64 (x53 + 1))) else (almanaclaw16_ZoneTurns.l0 k x7 (x7 == ((rd_T32 x51 x53).f2)) x51 x52 (wrap64 (x53 + 1))))) else (none)) else (none)) else (if x8 = true then ((almanaclaw16_awake.f).bind fun t371 => (some t371)) else (some false))
end
def almanaclaw16_ZoneTurns.f (k : Nat) (a0_0 : ByteArray) (l0_1 : List (S32)) (a1 : Int) : Option (Bool) := (almanacref16_Fit.f k a0_0 l0_1).bind fun t363 => (if t363 = true then (if a1 < (-62101036800) then (almanaclaw16_ZoneTurns.j0 k a1 true a0_0 l0_1) else (almanaclaw16_ZoneTurns.j0 k a1 (decide (a1 > 253367740799)) a0_0 l0_1)) else (almanaclaw16_ZoneTurns.j0 k a1 true a0_0 l0_1))
set_option maxHeartbeats 8000000 in
set_option maxRecDepth 100000 in
theorem almanaclaw16_ZoneTurns.callsT (k : Nat) (a0_0 : ByteArray) (A0_1 : Option Addr) (c0_1 : Nat) (l0_1 : List (S32)) (a1 : Int) (r : Bool) (w : World) (hr0_1 : Kd.C k32 w A0_1 l0_1.length l0_1) (hc0_1 : l0_1.length ≤ c0_1) (h : almanaclaw16_ZoneTurns.f k a0_0 l0_1 a1 = some r) (hr : r = true) (hTab : Tab w) :
    Calls Tryz.prog 4 #[.agg #[.string a0_0, .slice A0_1 l0_1.length c0_1], .int .i64 a1] w fun e w' => e = .returned (.bool r) ∧ Below w.heap.size w w' := by
  have HTab := Aside0.mk hTab
  clear hTab
  have HRT := Aside0.mk hr
  clear hr
  have hu24 := Tryz.underlying24
  have hu32 := Tryz.underlying32
  have HR0_1 := Aside0.mk hr0_1
  have HC0_1 := Aside0.mk hc0_1
  clear hr0_1 hc0_1
  have HB := Aside0.mk (Below.refl w.heap.size w)
  have H : ((almanacref16_Fit.f k a0_0 l0_1).bind fun t363 => (if t363 = true then (if a1 < (-62101036800) then (almanaclaw16_ZoneTurns.j0 k a1 true a0_0 l0_1) else (almanaclaw16_ZoneTurns.j0 k a1 (decide (a1 > 253367740799)) a0_0 l0_1)) else (almanaclaw16_ZoneTurns.j0 k a1 true a0_0 l0_1))) = some r := h
  clear h
  have HC3 := Aside0.mk H
  clear H
  go_enter Tryz.func4, Tryz.ntmps4
  go_upto_region 1 with (first | ((with_reducible refine gate_dst (N := 2) rfl ?_); refine box_event ?hg (N := 2) ?hd (cs := #[.string a0_0, .slice A0_1 l0_1.length c0_1]) (t := 24) ?hr ?_; (case hd => rfl); (case hg => rfl); (case hr => first | (go_simp; done) | (go_simp; rfl)); intro gb362 hg w4 hbox hb; have n0_ := Aside0.mk (below_step (by repeat (first | (with_reducible first | exact HB.out | apply below_alloc | apply pw_below_drewN | apply below_drew1) | exact HB.out)) hb); have n1_ := Aside0.mk (hbox); have n2_ := Aside0.mk ((by rw [hg]; exact (below_size (by repeat (first | (with_reducible first | exact HB.out | apply below_alloc | apply pw_below_drewN | apply below_drew1) | exact HB.out))) : w.heap.size ≤ gb362)); have n3_ := Aside0.mk ((by rw [hg]; exact (below_size (by repeat (first | (with_reducible first | exact HB.out | apply below_alloc | apply pw_below_drewN | apply below_drew1) | exact HB.out))) : w.heap.size ≤ gb362)); clear HB; have HB := n0_; have BK362 := n1_; have GW362 := n2_; have GE362 := n3_; clear n0_ n1_ n2_ n3_; clear hb hbox hg))
  (try simp only [Act.put, List.setIfInBounds_toArray, List.set_cons_zero, List.set_cons_succ])
  go_cut [21] (fun v21 wc => ∃ (kq : Nat) (x21_2 : Bool), v21 = .bool x21_2 ∧ Aside0 (almanaclaw16_ZoneTurns.j0 kq a1 x21_2 a0_0 l0_1 = some r) ∧ Aside0 (kq ≤ k) ∧ Aside0 (wc.heap[gb362]? = some (.cells #[.string a0_0, (.slice A0_1 l0_1.length c0_1)] 24 (0, 0))) ∧ Aside0 (Below w.heap.size w wc))
  case first =>
    have H := HC3.out
    clear HC3
    replace H := Option.bind_eq_some_iff.mp H
    obtain ⟨t363, A50, H⟩ := H
    replace H : (if t363 = true then (if a1 < (-62101036800) then (almanaclaw16_ZoneTurns.j0 k a1 true a0_0 l0_1) else (almanaclaw16_ZoneTurns.j0 k a1 (decide (a1 > 253367740799)) a0_0 l0_1)) else (almanaclaw16_ZoneTurns.j0 k a1 true a0_0 l0_1)) = some r := H
    have A5 := Aside0.mk A50
    clear A50
    by_cases c6 : t363 = true
    · subst c6
      have H1 : (if a1 < (-62101036800) then (almanaclaw16_ZoneTurns.j0 k a1 true a0_0 l0_1) else (almanaclaw16_ZoneTurns.j0 k a1 (decide (a1 > 253367740799)) a0_0 l0_1)) = some r := by rw [if_pos rfl] at H; exact H
      clear H
      have H := H1
      clear H1
      by_cases c7 : a1 < (-62101036800)
      · rw [if_pos c7] at H
        have c7b0 : decide (a1 < (-62101036800)) = true := decide_eq_true c7
        clear c7
        (first | rw [c7b0] | (simp only [i64_w, i32_w]; rw [c7b0]) | skip)
        have H' := Aside0.mk H
        clear H
        have hcz8_0 : w4.cell? ⟨gb362, 0, none⟩ = some (.string a0_0) := (blk_cell BK362.out 0).trans rfl
        have hcz8_1 : w4.cell? ⟨gb362, 1, none⟩ = some (.slice A0_1 l0_1.length c0_1) := (blk_cell BK362.out 1).trans rfl
        have hfz8_0 := blk_frozen BK362.out 0
        have hfz8_1 := blk_frozen BK362.out 1
        go_wp2_with (first | ((with_reducible refine gate_callee (f := 13) rfl ?_); refine goesL_ (some 12) rfl rfl Tryz.func13 (by kernel_rfl) rfl #[.agg #[.string a0_0, .slice A0_1 l0_1.length c0_1]] rfl (by (try simp only [List.map_toArray, List.map_cons, List.map_nil]); first | done | rfl | (simp only [List.length_drop, List.length_take]; rfl)) ?_; (with_reducible refine (almanacref16_Fit.calls k a0_0 _ _ l0_1 true _ ?side1 ?side2 A5.out).mono ?_); (case side1 => repeat (first | exact (Kd.C_below HR0_1.out HB.out) | (with_reducible refine Kd.C_alloc ?_ _) | (with_reducible refine Kd.C_drewN ?_ _) | (with_reducible refine Kd.C_drew ?_))); (case side2 => exact HC0_1.out); rintro e w9 ⟨rfl, hb⟩; refine ⟨_, rfl, ?_⟩; have n0_ := Aside0.mk (blk_below (g := gb362) (o := .cells #[.string a0_0, .slice A0_1 l0_1.length c0_1] 24 (0, 0)) (by (with_reducible repeat (first | refine blk_drewN ?_ _ | refine blk_drew ?_ | refine blk_alloc ?_ _)); exact BK362.out) hb); have n1_ := Aside0.mk (below_step (by repeat (first | (with_reducible first | exact HB.out | apply below_alloc | apply pw_below_drewN | apply below_drew1 | refine below_set ?_ GE362.out) | exact HB.out)) hb); clear BK362; clear HB; have BK362 := n0_; have HB := n1_; clear n0_ n1_; (try clear hb); (try clear hb2); (try clear hk); (try clear hi)))
        go_meet
        case rel => exact ⟨_, (true), (by first | rfl | (simp; done) | (simp [*]; done)), H', ⟨by first | omega | exact Nat.le_refl _⟩, ⟨by (with_reducible repeat (first | refine blk_drewN ?_ _ | refine blk_drew ?_ | refine blk_alloc ?_ _)); exact BK362.out⟩, ⟨by repeat (first | (with_reducible first | exact HB.out | apply below_alloc | apply pw_below_drewN | apply below_drew1 | refine below_set ?_ GE362.out) | exact HB.out)⟩⟩
      · rw [if_neg c7] at H
        have c7b0 : decide (a1 < (-62101036800)) = false := decide_eq_false c7
        clear c7
        (first | rw [c7b0] | (simp only [i64_w, i32_w]; rw [c7b0]) | skip)
        have H' := Aside0.mk H
        clear H
        have hcz10_0 : w4.cell? ⟨gb362, 0, none⟩ = some (.string a0_0) := (blk_cell BK362.out 0).trans rfl
        have hcz10_1 : w4.cell? ⟨gb362, 1, none⟩ = some (.slice A0_1 l0_1.length c0_1) := (blk_cell BK362.out 1).trans rfl
        have hfz10_0 := blk_frozen BK362.out 0
        have hfz10_1 := blk_frozen BK362.out 1
        go_wp2_with (first | ((with_reducible refine gate_callee (f := 13) rfl ?_); refine goesL_ (some 12) rfl rfl Tryz.func13 (by kernel_rfl) rfl #[.agg #[.string a0_0, .slice A0_1 l0_1.length c0_1]] rfl (by (try simp only [List.map_toArray, List.map_cons, List.map_nil]); first | done | rfl | (simp only [List.length_drop, List.length_take]; rfl)) ?_; (with_reducible refine (almanacref16_Fit.calls k a0_0 _ _ l0_1 true _ ?side1 ?side2 A5.out).mono ?_); (case side1 => repeat (first | exact (Kd.C_below HR0_1.out HB.out) | (with_reducible refine Kd.C_alloc ?_ _) | (with_reducible refine Kd.C_drewN ?_ _) | (with_reducible refine Kd.C_drew ?_))); (case side2 => exact HC0_1.out); rintro e w11 ⟨rfl, hb⟩; refine ⟨_, rfl, ?_⟩; have n0_ := Aside0.mk (blk_below (g := gb362) (o := .cells #[.string a0_0, .slice A0_1 l0_1.length c0_1] 24 (0, 0)) (by (with_reducible repeat (first | refine blk_drewN ?_ _ | refine blk_drew ?_ | refine blk_alloc ?_ _)); exact BK362.out) hb); have n1_ := Aside0.mk (below_step (by repeat (first | (with_reducible first | exact HB.out | apply below_alloc | apply pw_below_drewN | apply below_drew1 | refine below_set ?_ GE362.out) | exact HB.out)) hb); clear BK362; clear HB; have BK362 := n0_; have HB := n1_; clear n0_ n1_; (try clear hb); (try clear hb2); (try clear hk); (try clear hi)))
        go_meet
        case rel => exact ⟨_, (decide (a1 > 253367740799)), (by first | rfl | (simp; done) | (simp [*]; done)), H', ⟨by first | omega | exact Nat.le_refl _⟩, ⟨by (with_reducible repeat (first | refine blk_drewN ?_ _ | refine blk_drew ?_ | refine blk_alloc ?_ _)); exact BK362.out⟩, ⟨by repeat (first | (with_reducible first | exact HB.out | apply below_alloc | apply pw_below_drewN | apply below_drew1 | refine below_set ?_ GE362.out) | exact HB.out)⟩⟩
    · replace c6 := Bool.eq_false_iff.mpr c6
      subst c6
      have H1 : (almanaclaw16_ZoneTurns.j0 k a1 true a0_0 l0_1) = some r := by rw [if_neg (show ¬ (false = true) by decide)] at H; exact H
      clear H
      have H := H1
      clear H1
      have H' := Aside0.mk H
      clear H
      have hcz12_0 : w4.cell? ⟨gb362, 0, none⟩ = some (.string a0_0) := (blk_cell BK362.out 0).trans rfl
      have hcz12_1 : w4.cell? ⟨gb362, 1, none⟩ = some (.slice A0_1 l0_1.length c0_1) := (blk_cell BK362.out 1).trans rfl
      have hfz12_0 := blk_frozen BK362.out 0
      have hfz12_1 := blk_frozen BK362.out 1
      go_wp2_with (first | ((with_reducible refine gate_callee (f := 13) rfl ?_); refine goesL_ (some 12) rfl rfl Tryz.func13 (by kernel_rfl) rfl #[.agg #[.string a0_0, .slice A0_1 l0_1.length c0_1]] rfl (by (try simp only [List.map_toArray, List.map_cons, List.map_nil]); first | done | rfl | (simp only [List.length_drop, List.length_take]; rfl)) ?_; (with_reducible refine (almanacref16_Fit.calls k a0_0 _ _ l0_1 false _ ?side1 ?side2 A5.out).mono ?_); (case side1 => repeat (first | exact (Kd.C_below HR0_1.out HB.out) | (with_reducible refine Kd.C_alloc ?_ _) | (with_reducible refine Kd.C_drewN ?_ _) | (with_reducible refine Kd.C_drew ?_))); (case side2 => exact HC0_1.out); rintro e w13 ⟨rfl, hb⟩; refine ⟨_, rfl, ?_⟩; have n0_ := Aside0.mk (blk_below (g := gb362) (o := .cells #[.string a0_0, .slice A0_1 l0_1.length c0_1] 24 (0, 0)) (by (with_reducible repeat (first | refine blk_drewN ?_ _ | refine blk_drew ?_ | refine blk_alloc ?_ _)); exact BK362.out) hb); have n1_ := Aside0.mk (below_step (by repeat (first | (with_reducible first | exact HB.out | apply below_alloc | apply pw_below_drewN | apply below_drew1 | refine below_set ?_ GE362.out) | exact HB.out)) hb); clear BK362; clear HB; have BK362 := n0_; have HB := n1_; clear n0_ n1_; (try clear hb); (try clear hb2); (try clear hk); (try clear hi)))
      go_meet
      case rel => exact ⟨_, (true), (by first | rfl | (simp; done) | (simp [*]; done)), H', ⟨by first | omega | exact Nat.le_refl _⟩, ⟨by (with_reducible repeat (first | refine blk_drewN ?_ _ | refine blk_drew ?_ | refine blk_alloc ?_ _)); exact BK362.out⟩, ⟨by repeat (first | (with_reducible first | exact HB.out | apply below_alloc | apply pw_below_drewN | apply below_drew1 | refine below_set ?_ GE362.out) | exact HB.out)⟩⟩
  case rest =>
    clear HC3
    try clear c1
    try clear p2
    try clear c4
    try clear c6
    try clear c7
    try clear c7b0
    try clear c13
    try clear hcz10_0
    try clear hcz10_1
    try clear hcz12_0
    try clear hcz12_1
    try clear hcz8_0
    try clear hcz8_1
    try clear hfz10_0
    try clear hfz10_1
    try clear hfz12_0
    try clear hfz12_1
    try clear hfz8_0
    try clear hfz8_1
    obtain ⟨kq, x21_2, rfl, HA, HJ2, BK362, HB⟩ := hcut
    cases kq with
    | zero => exact absurd HA.out (by simp [almanaclaw16_ZoneTurns.j0])
    | succ kj2 =>
      have H := HA.out
      clear HA
      simp only [almanaclaw16_ZoneTurns.j0] at H
      by_cases c14 : x21_2 = true
      · subst c14
        have H1 : ((almanaclaw16_awake.f).bind fun t364 => (some t364)) = some r := by rw [if_pos rfl] at H; exact H
        clear H
        have H := H1
        clear H1
        replace H := Option.bind_eq_some_iff.mp H
        obtain ⟨t364, A150, H⟩ := H
        replace H : (some t364) = some r := H
        have A15 := Aside0.mk A150
        clear A150
        obtain rfl := Option.some.inj H
        go_wp2_with (first | ((with_reducible refine gate_callee (f := 12) rfl ?_); refine goesL_ (some 22) rfl rfl Tryz.func12 (by kernel_rfl) rfl #[] rfl (by (try simp only [List.map_toArray, List.map_cons, List.map_nil]); first | done | rfl | (simp only [List.length_drop, List.length_take]; rfl)) ?_; (with_reducible refine (almanaclaw16_awake.calls  t364 _ A15.out (HTab.out.below (by repeat (first | (with_reducible first | exact HB.out | apply below_alloc | apply pw_below_drewN | apply below_drew1) | exact HB.out)))).mono ?_); rintro e w16 ⟨rfl, hb⟩; refine ⟨_, rfl, ?_⟩; have n0_ := Aside0.mk (blk_below (g := gb362) (o := .cells #[.string a0_0, .slice A0_1 l0_1.length c0_1] 24 (0, 0)) (by (with_reducible repeat (first | refine blk_drewN ?_ _ | refine blk_drew ?_ | refine blk_alloc ?_ _)); exact BK362.out) hb); have n1_ := Aside0.mk (below_step (by repeat (first | (with_reducible first | exact HB.out | apply below_alloc | apply pw_below_drewN | apply below_drew1 | refine below_set ?_ GE362.out) | exact HB.out)) hb); clear BK362; clear HB; have BK362 := n0_; have HB := n1_; clear n0_ n1_; (try clear hb); (try clear hb2); (try clear hk); (try clear hi)))
        go_ret
        exact ⟨by first | rfl | (simp [errW_none, errW_some] <;> rfl) | (simp [*, errW_none, errW_some] <;> rfl), by repeat (first | (with_reducible first | exact HB.out | apply below_alloc | apply pw_below_drewN | apply below_drew1 | refine below_set ?_ GE362.out) | exact HB.out)⟩
      · replace c14 := Bool.eq_false_iff.mpr c14
        subst c14
        have H1 : ((zone_Local.f kj2 a0_0 l0_1 a1).bind fun t365 => ((zone_Utc.f kj2 a0_0 l0_1 t365).bind fun t366 => (if t366 > a1 then (almanaclaw16_ZoneTurns.j1 kj2 a1 true a0_0 l0_1) else ((zone_Local.f kj2 a0_0 l0_1 t366).bind fun t367 => (almanaclaw16_ZoneTurns.j1 kj2 a1 (t367 != t365) a0_0 l0_1))))) = some r := by rw [if_neg (show ¬ (false = true) by decide)] at H; exact H
        clear H
        have H := H1
        clear H1
        replace H := Option.bind_eq_some_iff.mp H
        obtain ⟨t365, A170, H⟩ := H
        replace H : ((zone_Utc.f kj2 a0_0 l0_1 t365).bind fun t366 => (if t366 > a1 then (almanaclaw16_ZoneTurns.j1 kj2 a1 true a0_0 l0_1) else ((zone_Local.f kj2 a0_0 l0_1 t366).bind fun t367 => (almanaclaw16_ZoneTurns.j1 kj2 a1 (t367 != t365) a0_0 l0_1)))) = some r := H
        have A17 := Aside0.mk A170
        clear A170
        replace H := Option.bind_eq_some_iff.mp H
        obtain ⟨t366, A180, H⟩ := H
        replace H : (if t366 > a1 then (almanaclaw16_ZoneTurns.j1 kj2 a1 true a0_0 l0_1) else ((zone_Local.f kj2 a0_0 l0_1 t366).bind fun t367 => (almanaclaw16_ZoneTurns.j1 kj2 a1 (t367 != t365) a0_0 l0_1))) = some r := H
        have A18 := Aside0.mk A180
        clear A180
        have HC19 := Aside0.mk H
        clear H
        have hcz20_0 : wc.cell? ⟨gb362, 0, none⟩ = some (.string a0_0) := (blk_cell BK362.out 0).trans rfl
        have hcz20_1 : wc.cell? ⟨gb362, 1, none⟩ = some (.slice A0_1 l0_1.length c0_1) := (blk_cell BK362.out 1).trans rfl
        have hfz20_0 := blk_frozen BK362.out 0
        have hfz20_1 := blk_frozen BK362.out 1
        go_upto_region 5 with (first | ((with_reducible refine gate_callee (f := 8) rfl ?_); refine goesL_ (some 25) rfl rfl Tryz.func8 (by kernel_rfl) rfl #[.agg #[.string a0_0, .slice A0_1 l0_1.length c0_1], .int .i64 a1] rfl (by (try simp only [List.map_toArray, List.map_cons, List.map_nil]); first | done | rfl | (simp only [List.length_drop, List.length_take]; rfl)) ?_; (with_reducible refine (zone_Local.calls kj2 a0_0 _ _ l0_1 a1 t365 _ ?side1 ?side2 A17.out).mono ?_); (case side1 => repeat (first | exact (Kd.C_below HR0_1.out HB.out) | (with_reducible refine Kd.C_alloc ?_ _) | (with_reducible refine Kd.C_drewN ?_ _) | (with_reducible refine Kd.C_drew ?_))); (case side2 => exact HC0_1.out); rintro e w21 ⟨rfl, hb⟩; refine ⟨_, rfl, ?_⟩; have n0_ := Aside0.mk (blk_below (g := gb362) (o := .cells #[.string a0_0, .slice A0_1 l0_1.length c0_1] 24 (0, 0)) (by (with_reducible repeat (first | refine blk_drewN ?_ _ | refine blk_drew ?_ | refine blk_alloc ?_ _)); exact BK362.out) hb); have n1_ := Aside0.mk (below_step (by repeat (first | (with_reducible first | exact HB.out | apply below_alloc | apply pw_below_drewN | apply below_drew1 | refine below_set ?_ GE362.out) | exact HB.out)) hb); clear BK362; clear HB; have BK362 := n0_; have HB := n1_; clear n0_ n1_; (try clear hb); (try clear hb2); (try clear hk); (try clear hi); have hcz22_0 : w21.cell? ⟨gb362, 0, none⟩ = some (.string a0_0) := (blk_cell BK362.out 0).trans rfl; have hcz22_1 : w21.cell? ⟨gb362, 1, none⟩ = some (.slice A0_1 l0_1.length c0_1) := (blk_cell BK362.out 1).trans rfl; have hfz22_0 := blk_frozen BK362.out 0; have hfz22_1 := blk_frozen BK362.out 1) | ((with_reducible refine gate_callee (f := 10) rfl ?_); refine goesL_ (some 28) rfl rfl Tryz.func10 (by kernel_rfl) rfl #[.agg #[.string a0_0, .slice A0_1 l0_1.length c0_1], .int .i64 t365] rfl (by (try simp only [List.map_toArray, List.map_cons, List.map_nil]); first | done | rfl | (simp only [List.length_drop, List.length_take]; rfl)) ?_; (with_reducible refine (zone_Utc.calls kj2 a0_0 _ _ l0_1 t365 t366 _ ?side1 ?side2 A18.out).mono ?_); (case side1 => repeat (first | exact (Kd.C_below HR0_1.out HB.out) | (with_reducible refine Kd.C_alloc ?_ _) | (with_reducible refine Kd.C_drewN ?_ _) | (with_reducible refine Kd.C_drew ?_))); (case side2 => exact HC0_1.out); rintro e w23 ⟨rfl, hb⟩; refine ⟨_, rfl, ?_⟩; have n0_ := Aside0.mk (blk_below (g := gb362) (o := .cells #[.string a0_0, .slice A0_1 l0_1.length c0_1] 24 (0, 0)) (by (with_reducible repeat (first | refine blk_drewN ?_ _ | refine blk_drew ?_ | refine blk_alloc ?_ _)); exact BK362.out) hb); have n1_ := Aside0.mk (below_step (by repeat (first | (with_reducible first | exact HB.out | apply below_alloc | apply pw_below_drewN | apply below_drew1 | refine below_set ?_ GE362.out) | exact HB.out)) hb); clear BK362; clear HB; have BK362 := n0_; have HB := n1_; clear n0_ n1_; (try clear hb); (try clear hb2); (try clear hk); (try clear hi)))
        (try simp only [Act.put, List.setIfInBounds_toArray, List.set_cons_zero, List.set_cons_succ])
        go_cut [38] (fun v38 wc => ∃ (kq : Nat) (x38_18 : Bool), v38 = .bool x38_18 ∧ Aside0 (almanaclaw16_ZoneTurns.j1 kq a1 x38_18 a0_0 l0_1 = some r) ∧ Aside0 (kq ≤ kj2) ∧ Aside0 (wc.heap[gb362]? = some (.cells #[.string a0_0, (.slice A0_1 l0_1.length c0_1)] 24 (0, 0))) ∧ Aside0 (Below w.heap.size w wc))
        case first =>
          have H := HC19.out
          clear HC19
          by_cases c24 : t366 > a1
          · rw [if_pos c24] at H
            have c24b0 : decide (a1 < t366) = true := decide_eq_true c24
            clear c24
            (first | rw [c24b0] | (simp only [i64_w, i32_w]; rw [c24b0]) | skip)
            have H' := Aside0.mk H
            clear H
            go_wp2
            go_meet
            case rel => exact ⟨_, (true), (by first | rfl | (simp; done) | (simp [*]; done)), H', ⟨by have := HJ2.out; first | omega | exact Nat.le_refl _⟩, ⟨by (with_reducible repeat (first | refine blk_drewN ?_ _ | refine blk_drew ?_ | refine blk_alloc ?_ _)); exact BK362.out⟩, ⟨by repeat (first | (with_reducible first | exact HB.out | apply below_alloc | apply pw_below_drewN | apply below_drew1 | refine below_set ?_ GE362.out) | exact HB.out)⟩⟩
          · rw [if_neg c24] at H
            have c24b0 : decide (a1 < t366) = false := decide_eq_false c24
            clear c24
            (first | rw [c24b0] | (simp only [i64_w, i32_w]; rw [c24b0]) | skip)
            replace H := Option.bind_eq_some_iff.mp H
            obtain ⟨t367, A250, H⟩ := H
            replace H : (almanaclaw16_ZoneTurns.j1 kj2 a1 (t367 != t365) a0_0 l0_1) = some r := H
            have A25 := Aside0.mk A250
            clear A250
            have H' := Aside0.mk H
            clear H
            have hcz26_0 : w23.cell? ⟨gb362, 0, none⟩ = some (.string a0_0) := (blk_cell BK362.out 0).trans rfl
            have hcz26_1 : w23.cell? ⟨gb362, 1, none⟩ = some (.slice A0_1 l0_1.length c0_1) := (blk_cell BK362.out 1).trans rfl
            have hfz26_0 := blk_frozen BK362.out 0
            have hfz26_1 := blk_frozen BK362.out 1
            go_wp2_with (first | (go_at_call 8; (with_reducible refine (zone_Local.calls kj2 a0_0 _ _ l0_1 t366 t367 _ ?side1 ?side2 A25.out).mono ?_); (case side1 => repeat (first | exact (Kd.C_below HR0_1.out HB.out) | (with_reducible refine Kd.C_alloc ?_ _) | (with_reducible refine Kd.C_drewN ?_ _) | (with_reducible refine Kd.C_drew ?_))); (case side2 => exact HC0_1.out); rintro e w27 ⟨rfl, hb⟩; have n0_ := Aside0.mk (blk_below (g := gb362) (o := .cells #[.string a0_0, .slice A0_1 l0_1.length c0_1] 24 (0, 0)) (by (with_reducible repeat (first | refine blk_drewN ?_ _ | refine blk_drew ?_ | refine blk_alloc ?_ _)); exact BK362.out) hb); have n1_ := Aside0.mk (below_step (by repeat (first | (with_reducible first | exact HB.out | apply below_alloc | apply pw_below_drewN | apply below_drew1 | refine below_set ?_ GE362.out) | exact HB.out)) hb); clear BK362; clear HB; have BK362 := n0_; have HB := n1_; clear n0_ n1_; (try clear hb); (try clear hb2); (try clear hk); (try clear hi)))
            go_meet
            case rel => exact ⟨_, ((t367 != t365)), (by first | rfl | (simp; done) | (simp [*]; done)), H', ⟨by have := HJ2.out; first | omega | exact Nat.le_refl _⟩, ⟨by (with_reducible repeat (first | refine blk_drewN ?_ _ | refine blk_drew ?_ | refine blk_alloc ?_ _)); exact BK362.out⟩, ⟨by repeat (first | (with_reducible first | exact HB.out | apply below_alloc | apply pw_below_drewN | apply below_drew1 | refine below_set ?_ GE362.out) | exact HB.out)⟩⟩
        case rest =>
          clear HC19
          try clear c1
          try clear c2
          try clear p2
          try clear c4
          try clear c6
          try clear c7
          try clear c7b0
          try clear c8
          try clear c10
          try clear c12
          try clear c13
          try clear c14
          try clear c24
          try clear c24b0
          try clear hcz10_0
          try clear hcz10_1
          try clear hcz12_0
          try clear hcz12_1
          try clear hcz20_0
          try clear hcz20_1
          try clear hcz22_0
          try clear hcz22_1
          try clear hcz26_0
          try clear hcz26_1
          try clear hcz8_0
          try clear hcz8_1
          try clear hfz10_0
          try clear hfz10_1
          try clear hfz12_0
          try clear hfz12_1
          try clear hfz20_0
          try clear hfz20_1
          try clear hfz22_0
          try clear hfz22_1
          try clear hfz26_0
          try clear hfz26_1
          try clear hfz8_0
          try clear hfz8_1
          try clear p2
          obtain ⟨kq, x38_18, rfl, HA, HJ18, BK362, HB⟩ := hcut
          cases kq with
          | zero => exact absurd HA.out (by simp [almanaclaw16_ZoneTurns.j1])
          | succ kj18 =>
            have H := HA.out
            clear HA
            simp only [almanaclaw16_ZoneTurns.j1] at H
            by_cases c28 : x38_18 = true
            · subst c28
              have H1 : (some false) = some r := by rw [if_pos rfl] at H; exact H
              clear H
              have H := H1
              clear H1
              exact absurd ((Option.some.inj H).trans HRT.out) (by decide)
            · replace c28 := Bool.eq_false_iff.mpr c28
              subst c28
              have H1 : ((zone_Offset.f kj18 a0_0 l0_1 a1).bind fun t368 => (if (l0_1.length : Int) = 0 then (almanaclaw16_ZoneTurns.j2 kj18 t368 (t368 == 0) a0_0 l0_1) else (almanaclaw16_ZoneTurns.j2 kj18 t368 false a0_0 l0_1))) = some r := by rw [if_neg (show ¬ (false = true) by decide)] at H; exact H
              clear H
              have H := H1
              clear H1
              replace H := Option.bind_eq_some_iff.mp H
              obtain ⟨t368, A290, H⟩ := H
              replace H : (if (l0_1.length : Int) = 0 then (almanaclaw16_ZoneTurns.j2 kj18 t368 (t368 == 0) a0_0 l0_1) else (almanaclaw16_ZoneTurns.j2 kj18 t368 false a0_0 l0_1)) = some r := H
              have A29 := Aside0.mk A290
              clear A290
              have HC30 := Aside0.mk H
              clear H
              have hcz31_0 : wc.cell? ⟨gb362, 0, none⟩ = some (.string a0_0) := (blk_cell BK362.out 0).trans rfl
              have hcz31_1 : wc.cell? ⟨gb362, 1, none⟩ = some (.slice A0_1 l0_1.length c0_1) := (blk_cell BK362.out 1).trans rfl
              have hfz31_0 := blk_frozen BK362.out 0
              have hfz31_1 := blk_frozen BK362.out 1
              go_upto_region 8 with (first | ((with_reducible refine gate_callee (f := 6) rfl ?_); refine goesL_ (some 41) rfl rfl Tryz.func6 (by kernel_rfl) rfl #[.agg #[.string a0_0, .slice A0_1 l0_1.length c0_1], .int .i64 a1] rfl (by (try simp only [List.map_toArray, List.map_cons, List.map_nil]); first | done | rfl | (simp only [List.length_drop, List.length_take]; rfl)) ?_; (with_reducible refine (zone_Offset.calls kj18 a0_0 _ _ l0_1 a1 t368 _ ?side1 ?side2 A29.out).mono ?_); (case side1 => repeat (first | exact (Kd.C_below HR0_1.out HB.out) | (with_reducible refine Kd.C_alloc ?_ _) | (with_reducible refine Kd.C_drewN ?_ _) | (with_reducible refine Kd.C_drew ?_))); (case side2 => exact HC0_1.out); rintro e w32 ⟨rfl, hb⟩; refine ⟨_, rfl, ?_⟩; have n0_ := Aside0.mk (blk_below (g := gb362) (o := .cells #[.string a0_0, .slice A0_1 l0_1.length c0_1] 24 (0, 0)) (by (with_reducible repeat (first | refine blk_drewN ?_ _ | refine blk_drew ?_ | refine blk_alloc ?_ _)); exact BK362.out) hb); have n1_ := Aside0.mk (below_step (by repeat (first | (with_reducible first | exact HB.out | apply below_alloc | apply pw_below_drewN | apply below_drew1 | refine below_set ?_ GE362.out) | exact HB.out)) hb); clear BK362; clear HB; have BK362 := n0_; have HB := n1_; clear n0_ n1_; (try clear hb); (try clear hb2); (try clear hk); (try clear hi)))
              (try simp only [Act.put, List.setIfInBounds_toArray, List.set_cons_zero, List.set_cons_succ])
              go_cut [8] (fun v8 wc => ∃ (kq : Nat) (x8_29 : Bool), v8 = .bool x8_29 ∧ Aside0 (almanaclaw16_ZoneTurns.j2 kq t368 x8_29 a0_0 l0_1 = some r) ∧ Aside0 (kq ≤ kj18) ∧ Aside0 (wc.heap[gb362]? = some (.cells #[.string a0_0, (.slice A0_1 l0_1.length c0_1)] 24 (0, 0))) ∧ Aside0 (Below w.heap.size w wc))
              case first =>
                have H := HC30.out
                clear HC30
                by_cases c33 : (l0_1.length : Int) = 0
                · rw [if_pos c33] at H
                  have c33b0 : ((l0_1.length : Int) == 0) = true := beq_iff_eq.mpr c33
                  have c33b1 : ((l0_1.length : Int) != 0) = false := bne_eq_false_iff_eq.mpr c33
                  clear c33
                  (first | rw [c33b0] | (simp only [i64_w, i32_w]; rw [c33b0]) | skip)
                  have H' := Aside0.mk H
                  clear H
                  have hcz34_0 : w32.cell? ⟨gb362, 0, none⟩ = some (.string a0_0) := (blk_cell BK362.out 0).trans rfl
                  have hcz34_1 : w32.cell? ⟨gb362, 1, none⟩ = some (.slice A0_1 l0_1.length c0_1) := (blk_cell BK362.out 1).trans rfl
                  have hfz34_0 := blk_frozen BK362.out 0
                  have hfz34_1 := blk_frozen BK362.out 1
                  go_wp2
                  go_meet
                  case rel => exact ⟨_, ((t368 == 0)), (by first | rfl | (simp; done) | (simp [*]; done)), H', ⟨by have := HJ2.out; have := HJ18.out; first | omega | exact Nat.le_refl _⟩, ⟨by (with_reducible repeat (first | refine blk_drewN ?_ _ | refine blk_drew ?_ | refine blk_alloc ?_ _)); exact BK362.out⟩, ⟨by repeat (first | (with_reducible first | exact HB.out | apply below_alloc | apply pw_below_drewN | apply below_drew1 | refine below_set ?_ GE362.out) | exact HB.out)⟩⟩
                · rw [if_neg c33] at H
                  have c33b0 : ((l0_1.length : Int) == 0) = false := beq_eq_false_iff_ne.mpr c33
                  have c33b1 : ((l0_1.length : Int) != 0) = true := bne_iff_ne.mpr c33
                  have c33b2 : ¬ (l0_1 = []) := fun h_ => c33 (by rw [h_]; rfl)
                  (first | rw [c33b0] | (simp only [i64_w, i32_w]; rw [c33b0]) | skip)
                  have H' := Aside0.mk H
                  clear H
                  have hcz35_0 : w32.cell? ⟨gb362, 0, none⟩ = some (.string a0_0) := (blk_cell BK362.out 0).trans rfl
                  have hcz35_1 : w32.cell? ⟨gb362, 1, none⟩ = some (.slice A0_1 l0_1.length c0_1) := (blk_cell BK362.out 1).trans rfl
                  have hfz35_0 := blk_frozen BK362.out 0
                  have hfz35_1 := blk_frozen BK362.out 1
                  go_wp2
                  go_meet
                  case rel => exact ⟨_, (false), (by first | rfl | (simp; done) | (simp [*]; done)), H', ⟨by have := HJ2.out; have := HJ18.out; first | omega | exact Nat.le_refl _⟩, ⟨by (with_reducible repeat (first | refine blk_drewN ?_ _ | refine blk_drew ?_ | refine blk_alloc ?_ _)); exact BK362.out⟩, ⟨by repeat (first | (with_reducible first | exact HB.out | apply below_alloc | apply pw_below_drewN | apply below_drew1 | refine below_set ?_ GE362.out) | exact HB.out)⟩⟩
              case rest =>
                clear HC30
                try clear c1
                try clear c2
                try clear p2
                try clear c3
                try clear c4
                try clear c6
                try clear c7
                try clear c7b0
                try clear c8
                try clear c10
                try clear c12
                try clear c13
                try clear c14
                try clear c24
                try clear c24b0
                try clear c28
                try clear c33
                try clear c33b0
                try clear c33b1
                try clear c33b2
                try clear hcz10_0
                try clear hcz10_1
                try clear hcz12_0
                try clear hcz12_1
                try clear hcz20_0
                try clear hcz20_1
                try clear hcz22_0
                try clear hcz22_1
                try clear hcz26_0
                try clear hcz26_1
                try clear hcz31_0
                try clear hcz31_1
                try clear hcz34_0
                try clear hcz34_1
                try clear hcz35_0
                try clear hcz35_1
                try clear hcz8_0
                try clear hcz8_1
                try clear hfz10_0
                try clear hfz10_1
                try clear hfz12_0
                try clear hfz12_1
                try clear hfz20_0
                try clear hfz20_1
                try clear hfz22_0
                try clear hfz22_1
                try clear hfz26_0
                try clear hfz26_1
                try clear hfz31_0
                try clear hfz31_1
                try clear hfz34_0
                try clear hfz34_1
                try clear hfz35_0
                try clear hfz35_1
                try clear hfz8_0
                try clear hfz8_1
                try clear p2
                obtain ⟨kq, x8_29, rfl, HA, HJ29, BK362, HB⟩ := hcut
                cases kq with
                | zero => exact absurd HA.out (by simp [almanaclaw16_ZoneTurns.j2])
                | succ kj29 =>
                  have H := HA.out
                  clear HA
                  simp only [almanaclaw16_ZoneTurns.j2] at H
                  have H' := Aside0.mk H
                  clear H
                  have hcz36_0 : wc.cell? ⟨gb362, 0, none⟩ = some (.string a0_0) := (blk_cell BK362.out 0).trans rfl
                  have hcz36_1 : wc.cell? ⟨gb362, 1, none⟩ = some (.slice A0_1 l0_1.length c0_1) := (blk_cell BK362.out 1).trans rfl
                  have hfz36_0 := blk_frozen BK362.out 0
                  have hfz36_1 := blk_frozen BK362.out 1
                  go_wp2
                  go_loopg [8, 53] kj29 (fun kq v8 v53 w' => ∃ (x8_4 : Bool) (x53_4 : Int), v8 = .bool x8_4 ∧ v53 = .int .i64 x53_4 ∧ Aside0 (almanaclaw16_ZoneTurns.l0 kq t368 x8_4 l0_1 (l0_1.length : Int) x53_4 = some r) ∧ Aside0 (kq ≤ kj29) ∧ Aside0 (w'.heap[gb362]? = some (.cells #[.string a0_0, (.slice A0_1 l0_1.length c0_1)] 24 (0, 0))) ∧ Aside0 (Below w.heap.size w w'))
                  case atStart => exact ⟨(x8_29), (0), (by first | rfl | (simp; done) | (simp [*]; done)), (by first | rfl | (simp; done) | (simp [*]; done)), H', ⟨Nat.le_refl _⟩, ⟨by (with_reducible repeat (first | refine blk_drewN ?_ _ | refine blk_drew ?_ | refine blk_alloc ?_ _)); exact BK362.out⟩, ⟨by repeat (first | (with_reducible first | exact HB.out | apply below_alloc | apply pw_below_drewN | apply below_drew1 | refine below_set ?_ GE362.out) | exact HB.out)⟩⟩
                  case round =>
                    clear H'
                    try clear c1
                    try clear c2
                    try clear p2
                    try clear c3
                    try clear c4
                    try clear c6
                    try clear c7
                    try clear c7b0
                    try clear c8
                    try clear c10
                    try clear c12
                    try clear c13
                    try clear c14
                    try clear c24
                    try clear c24b0
                    try clear c28
                    try clear c33
                    try clear c33b0
                    try clear c33b1
                    try clear c33b2
                    try clear hcz10_0
                    try clear hcz10_1
                    try clear hcz12_0
                    try clear hcz12_1
                    try clear hcz20_0
                    try clear hcz20_1
                    try clear hcz22_0
                    try clear hcz22_1
                    try clear hcz26_0
                    try clear hcz26_1
                    try clear hcz31_0
                    try clear hcz31_1
                    try clear hcz34_0
                    try clear hcz34_1
                    try clear hcz35_0
                    try clear hcz35_1
                    try clear hcz36_0
                    try clear hcz36_1
                    try clear hcz8_0
                    try clear hcz8_1
                    try clear hfz10_0
                    try clear hfz10_1
                    try clear hfz12_0
                    try clear hfz12_1
                    try clear hfz20_0
                    try clear hfz20_1
                    try clear hfz22_0
                    try clear hfz22_1
                    try clear hfz26_0
                    try clear hfz26_1
                    try clear hfz31_0
                    try clear hfz31_1
                    try clear hfz34_0
                    try clear hfz34_1
                    try clear hfz35_0
                    try clear hfz35_1
                    try clear hfz36_0
                    try clear hfz36_1
                    try clear hfz8_0
                    try clear hfz8_1
                    try clear p2
                    obtain ⟨x8_4, x53_4, rfl, rfl, HA, HK4, BK362, HB⟩ := hrel
                    cases gk with
                    | zero => exact absurd HA.out (by simp [almanaclaw16_ZoneTurns.l0])
                    | succ k4 =>
                      have H := HA.out
                      clear HA
                      simp only [almanaclaw16_ZoneTurns.l0] at H
                      by_cases c37 : x53_4 < (l0_1.length : Int)
                      · rw [if_pos c37] at H
                        have c37b0 : decide (x53_4 < (l0_1.length : Int)) = true := decide_eq_true c37
                        clear c37
                        by_cases c38 : 0 ≤ x53_4
                        · rw [if_pos c38] at H
                          have c38b0 : decide (0 ≤ x53_4) = true := decide_eq_true c38
                          clear c38
                          by_cases c39 : x53_4 < (l0_1.length : Int)
                          · rw [if_pos c39] at H
                            have c39b0 : decide (x53_4 < (l0_1.length : Int)) = true := decide_eq_true c39
                            clear c39
                            by_cases c40 : x8_4 = true
                            · subst c40
                              have H1 : (almanaclaw16_ZoneTurns.l0 k4 t368 true l0_1 (l0_1.length : Int) (wrap64 (x53_4 + 1))) = some r := by rw [if_pos rfl] at H; exact H
                              clear H
                              have H := H1
                              clear H1
                              have H' := Aside0.mk H
                              clear H
                              have p369 : 0 ≤ (x53_4 : Int) := of_decide_eq_true (by first | (with_reducible assumption) | assumption)
                              have q369 : x53_4 < (l0_1.length : Int) := of_decide_eq_true (by first | (with_reducible assumption) | assumption)
                              obtain ⟨ad369, e369, hx369_0, hx369_1, hx369_2, hx369_3, hx369_4, hx369_5, hx369_6⟩ := at_T32 HR0_1.out x53_4 p369 q369
                              cases e369
                              replace hx369_0 := (HB.out.cell (World.block_lt_of_cell? w _ hx369_0)).trans hx369_0
                              replace hx369_1 := (HB.out.cell (World.block_lt_of_cell? w _ hx369_1)).trans hx369_1
                              replace hx369_2 := (HB.out.cell (World.block_lt_of_cell? w _ hx369_2)).trans hx369_2
                              replace hx369_3 := (HB.out.cell (World.block_lt_of_cell? w _ hx369_3)).trans hx369_3
                              replace hx369_4 := (HB.out.cell (World.block_lt_of_cell? w _ hx369_4)).trans hx369_4
                              replace hx369_5 := (HB.out.cell (World.block_lt_of_cell? w _ hx369_5)).trans hx369_5
                              replace hx369_6 := (HB.out.cell (World.block_lt_of_cell? w _ hx369_6)).trans hx369_6
                              replace p369 := eq_true p369
                              replace q369 := eq_true q369
                              go_wp2_with (first | ((with_reducible refine gate_dst (N := 10) rfl ?_); refine box_event ?hg (N := 10) ?hd (cs := #[.int .i64 0, .int .i64 0, .int .i64 0, .bool false, .int .i64 0, .int .i64 0, .int .i64 0]) (t := 32) ?hr ?_; (case hd => rfl); (case hg => rfl); (case hr => first | (go_simp; done) | (go_simp; rfl)); intro gb370 hg w41 hbox hb; have n0_ := Aside0.mk (blk_below (g := gb362) (o := .cells #[.string a0_0, .slice (some ad369) l0_1.length c0_1] 24 (0, 0)) (by (with_reducible repeat (first | refine blk_drewN ?_ _ | refine blk_drew ?_ | refine blk_alloc ?_ _)); exact BK362.out) hb); have n1_ := Aside0.mk (below_step (by repeat (first | (with_reducible first | exact HB.out | apply below_alloc | apply pw_below_drewN | apply below_drew1 | refine below_set ?_ GE362.out) | exact HB.out)) hb); have n2_ := Aside0.mk (hbox); have n3_ := Aside0.mk ((by rw [hg]; exact (below_size (by repeat (first | (with_reducible first | exact HB.out | apply below_alloc | apply pw_below_drewN | apply below_drew1 | refine below_set ?_ GE362.out) | exact HB.out))) : w.heap.size ≤ gb370)); have n4_ := Aside0.mk ((by rw [hg]; exact (below_size (by repeat (first | (with_reducible first | exact HB.out | apply below_alloc | apply pw_below_drewN | apply below_drew1 | refine below_set ?_ GE362.out) | exact HB.out))) : w.heap.size ≤ gb370)); have n5_ := Aside0.mk ((by rw [hg]; exact Nat.ne_of_lt (blk_lt (g := gb362) (o := .cells #[.string a0_0, .slice (some ad369) l0_1.length c0_1] 24 (0, 0)) (by (with_reducible repeat (first | refine blk_drewN ?_ _ | refine blk_drew ?_ | refine blk_alloc ?_ _)); exact BK362.out)) : gb362 ≠ gb370)); have n6_ := Aside0.mk ((by rw [hg]; exact Nat.ne_of_gt (blk_lt (g := gb362) (o := .cells #[.string a0_0, .slice (some ad369) l0_1.length c0_1] 24 (0, 0)) (by (with_reducible repeat (first | refine blk_drewN ?_ _ | refine blk_drew ?_ | refine blk_alloc ?_ _)); exact BK362.out)) : gb370 ≠ gb362)); clear BK362; clear HB; have BK362 := n0_; have HB := n1_; have BK370 := n2_; have GW370 := n3_; have GE370 := n4_; have NB362_370 := n5_; have NB370_362 := n6_; clear n0_ n1_ n2_ n3_ n4_ n5_ n6_; clear hb hbox hg; have hnb42 := NB370_362.out; have hnc42 := NB362_370.out; have hcz43_0 : w41.cell? ⟨gb370, 0, none⟩ = some (.int .i64 0) := (blk_cell BK370.out 0).trans rfl; have hcz43_1 : w41.cell? ⟨gb370, 1, none⟩ = some (.int .i64 0) := (blk_cell BK370.out 1).trans rfl; have hcz43_2 : w41.cell? ⟨gb370, 2, none⟩ = some (.int .i64 0) := (blk_cell BK370.out 2).trans rfl; have hcz43_3 : w41.cell? ⟨gb370, 3, none⟩ = some (.bool false) := (blk_cell BK370.out 3).trans rfl; have hcz43_4 : w41.cell? ⟨gb370, 4, none⟩ = some (.int .i64 0) := (blk_cell BK370.out 4).trans rfl; have hcz43_5 : w41.cell? ⟨gb370, 5, none⟩ = some (.int .i64 0) := (blk_cell BK370.out 5).trans rfl; have hcz43_6 : w41.cell? ⟨gb370, 6, none⟩ = some (.int .i64 0) := (blk_cell BK370.out 6).trans rfl; have hfz43_0 := blk_frozen BK370.out 0; have hfz43_1 := blk_frozen BK370.out 1; have hfz43_2 := blk_frozen BK370.out 2; have hfz43_3 := blk_frozen BK370.out 3; have hfz43_4 := blk_frozen BK370.out 4; have hfz43_5 := blk_frozen BK370.out 5; have hfz43_6 := blk_frozen BK370.out 6))
                              go_roundg k4
                              case measure => have := HJ2.out; have := HJ18.out; have := HJ29.out; have := HK4.out; omega
                              case rel => exact ⟨(true), (wrap64 (x53_4 + 1)), (by first | rfl | (simp; done) | (simp [*]; done)), (by first | rfl | (simp; done) | (simp [*]; done)), H', ⟨by have := HJ2.out; have := HJ18.out; have := HJ29.out; have := HK4.out; omega⟩, ⟨by (with_reducible repeat (first | refine blk_drewN ?_ _ | refine blk_drew ?_ | refine blk_alloc ?_ _)); refine blk_far ?_ NB362_370.out _; (with_reducible repeat (first | refine blk_drewN ?_ _ | refine blk_drew ?_ | refine blk_alloc ?_ _)); refine blk_far ?_ NB362_370.out _; (with_reducible repeat (first | refine blk_drewN ?_ _ | refine blk_drew ?_ | refine blk_alloc ?_ _)); refine blk_far ?_ NB362_370.out _; (with_reducible repeat (first | refine blk_drewN ?_ _ | refine blk_drew ?_ | refine blk_alloc ?_ _)); refine blk_far ?_ NB362_370.out _; (with_reducible repeat (first | refine blk_drewN ?_ _ | refine blk_drew ?_ | refine blk_alloc ?_ _)); refine blk_far ?_ NB362_370.out _; (with_reducible repeat (first | refine blk_drewN ?_ _ | refine blk_drew ?_ | refine blk_alloc ?_ _)); refine blk_far ?_ NB362_370.out _; (with_reducible repeat (first | refine blk_drewN ?_ _ | refine blk_drew ?_ | refine blk_alloc ?_ _)); refine blk_far ?_ NB362_370.out _; (with_reducible repeat (first | refine blk_drewN ?_ _ | refine blk_drew ?_ | refine blk_alloc ?_ _)); exact BK362.out⟩, ⟨by repeat (first | (with_reducible first | exact HB.out | apply below_alloc | apply pw_below_drewN | apply below_drew1 | refine below_set ?_ GE362.out | refine below_set ?_ GE370.out) | exact HB.out)⟩⟩
                            · replace c40 := Bool.eq_false_iff.mpr c40
                              subst c40
                              have H1 : (if t368 = ((rd_T32 l0_1 x53_4).f1) then (almanaclaw16_ZoneTurns.l0 k4 t368 true l0_1 (l0_1.length : Int) (wrap64 (x53_4 + 1))) else (almanaclaw16_ZoneTurns.l0 k4 t368 (t368 == ((rd_T32 l0_1 x53_4).f2)) l0_1 (l0_1.length : Int) (wrap64 (x53_4 + 1)))) = some r := by rw [if_neg (show ¬ (false = true) by decide)] at H; exact H
                              clear H
                              have H := H1
                              clear H1
                              by_cases c44 : t368 = ((rd_T32 l0_1 x53_4).f1)
                              · rw [if_pos c44] at H
                                have c44b0 : (t368 == ((rd_T32 l0_1 x53_4).f1)) = true := beq_iff_eq.mpr c44
                                have c44b1 : (t368 != ((rd_T32 l0_1 x53_4).f1)) = false := bne_eq_false_iff_eq.mpr c44
                                clear c44
                                have H' := Aside0.mk H
                                clear H
                                have p369 : 0 ≤ (x53_4 : Int) := of_decide_eq_true (by first | (with_reducible assumption) | assumption)
                                have q369 : x53_4 < (l0_1.length : Int) := of_decide_eq_true (by first | (with_reducible assumption) | assumption)
                                obtain ⟨ad369, e369, hx369_0, hx369_1, hx369_2, hx369_3, hx369_4, hx369_5, hx369_6⟩ := at_T32 HR0_1.out x53_4 p369 q369
                                cases e369
                                replace hx369_0 := (HB.out.cell (World.block_lt_of_cell? w _ hx369_0)).trans hx369_0
                                replace hx369_1 := (HB.out.cell (World.block_lt_of_cell? w _ hx369_1)).trans hx369_1
                                replace hx369_2 := (HB.out.cell (World.block_lt_of_cell? w _ hx369_2)).trans hx369_2
                                replace hx369_3 := (HB.out.cell (World.block_lt_of_cell? w _ hx369_3)).trans hx369_3
                                replace hx369_4 := (HB.out.cell (World.block_lt_of_cell? w _ hx369_4)).trans hx369_4
                                replace hx369_5 := (HB.out.cell (World.block_lt_of_cell? w _ hx369_5)).trans hx369_5
                                replace hx369_6 := (HB.out.cell (World.block_lt_of_cell? w _ hx369_6)).trans hx369_6
                                replace p369 := eq_true p369
                                replace q369 := eq_true q369
                                go_wp2_with (first | ((with_reducible refine gate_dst (N := 10) rfl ?_); refine box_event ?hg (N := 10) ?hd (cs := #[.int .i64 0, .int .i64 0, .int .i64 0, .bool false, .int .i64 0, .int .i64 0, .int .i64 0]) (t := 32) ?hr ?_; (case hd => rfl); (case hg => rfl); (case hr => first | (go_simp; done) | (go_simp; rfl)); intro gb370 hg w45 hbox hb; have n0_ := Aside0.mk (blk_below (g := gb362) (o := .cells #[.string a0_0, .slice (some ad369) l0_1.length c0_1] 24 (0, 0)) (by (with_reducible repeat (first | refine blk_drewN ?_ _ | refine blk_drew ?_ | refine blk_alloc ?_ _)); exact BK362.out) hb); have n1_ := Aside0.mk (below_step (by repeat (first | (with_reducible first | exact HB.out | apply below_alloc | apply pw_below_drewN | apply below_drew1 | refine below_set ?_ GE362.out) | exact HB.out)) hb); have n2_ := Aside0.mk (hbox); have n3_ := Aside0.mk ((by rw [hg]; exact (below_size (by repeat (first | (with_reducible first | exact HB.out | apply below_alloc | apply pw_below_drewN | apply below_drew1 | refine below_set ?_ GE362.out) | exact HB.out))) : w.heap.size ≤ gb370)); have n4_ := Aside0.mk ((by rw [hg]; exact (below_size (by repeat (first | (with_reducible first | exact HB.out | apply below_alloc | apply pw_below_drewN | apply below_drew1 | refine below_set ?_ GE362.out) | exact HB.out))) : w.heap.size ≤ gb370)); have n5_ := Aside0.mk ((by rw [hg]; exact Nat.ne_of_lt (blk_lt (g := gb362) (o := .cells #[.string a0_0, .slice (some ad369) l0_1.length c0_1] 24 (0, 0)) (by (with_reducible repeat (first | refine blk_drewN ?_ _ | refine blk_drew ?_ | refine blk_alloc ?_ _)); exact BK362.out)) : gb362 ≠ gb370)); have n6_ := Aside0.mk ((by rw [hg]; exact Nat.ne_of_gt (blk_lt (g := gb362) (o := .cells #[.string a0_0, .slice (some ad369) l0_1.length c0_1] 24 (0, 0)) (by (with_reducible repeat (first | refine blk_drewN ?_ _ | refine blk_drew ?_ | refine blk_alloc ?_ _)); exact BK362.out)) : gb370 ≠ gb362)); clear BK362; clear HB; have BK362 := n0_; have HB := n1_; have BK370 := n2_; have GW370 := n3_; have GE370 := n4_; have NB362_370 := n5_; have NB370_362 := n6_; clear n0_ n1_ n2_ n3_ n4_ n5_ n6_; clear hb hbox hg; have hnb46 := NB370_362.out; have hnc46 := NB362_370.out; have hcz47_0 : w45.cell? ⟨gb370, 0, none⟩ = some (.int .i64 0) := (blk_cell BK370.out 0).trans rfl; have hcz47_1 : w45.cell? ⟨gb370, 1, none⟩ = some (.int .i64 0) := (blk_cell BK370.out 1).trans rfl; have hcz47_2 : w45.cell? ⟨gb370, 2, none⟩ = some (.int .i64 0) := (blk_cell BK370.out 2).trans rfl; have hcz47_3 : w45.cell? ⟨gb370, 3, none⟩ = some (.bool false) := (blk_cell BK370.out 3).trans rfl; have hcz47_4 : w45.cell? ⟨gb370, 4, none⟩ = some (.int .i64 0) := (blk_cell BK370.out 4).trans rfl; have hcz47_5 : w45.cell? ⟨gb370, 5, none⟩ = some (.int .i64 0) := (blk_cell BK370.out 5).trans rfl; have hcz47_6 : w45.cell? ⟨gb370, 6, none⟩ = some (.int .i64 0) := (blk_cell BK370.out 6).trans rfl; have hfz47_0 := blk_frozen BK370.out 0; have hfz47_1 := blk_frozen BK370.out 1; have hfz47_2 := blk_frozen BK370.out 2; have hfz47_3 := blk_frozen BK370.out 3; have hfz47_4 := blk_frozen BK370.out 4; have hfz47_5 := blk_frozen BK370.out 5; have hfz47_6 := blk_frozen BK370.out 6))
                                go_roundg k4
                                case measure => have := HJ2.out; have := HJ18.out; have := HJ29.out; have := HK4.out; omega
                                case rel => exact ⟨(true), (wrap64 (x53_4 + 1)), (by first | rfl | (simp; done) | (simp [*]; done)), (by first | rfl | (simp; done) | (simp [*]; done)), H', ⟨by have := HJ2.out; have := HJ18.out; have := HJ29.out; have := HK4.out; omega⟩, ⟨by (with_reducible repeat (first | refine blk_drewN ?_ _ | refine blk_drew ?_ | refine blk_alloc ?_ _)); refine blk_far ?_ NB362_370.out _; (with_reducible repeat (first | refine blk_drewN ?_ _ | refine blk_drew ?_ | refine blk_alloc ?_ _)); refine blk_far ?_ NB362_370.out _; (with_reducible repeat (first | refine blk_drewN ?_ _ | refine blk_drew ?_ | refine blk_alloc ?_ _)); refine blk_far ?_ NB362_370.out _; (with_reducible repeat (first | refine blk_drewN ?_ _ | refine blk_drew ?_ | refine blk_alloc ?_ _)); refine blk_far ?_ NB362_370.out _; (with_reducible repeat (first | refine blk_drewN ?_ _ | refine blk_drew ?_ | refine blk_alloc ?_ _)); refine blk_far ?_ NB362_370.out _; (with_reducible repeat (first | refine blk_drewN ?_ _ | refine blk_drew ?_ | refine blk_alloc ?_ _)); refine blk_far ?_ NB362_370.out _; (with_reducible repeat (first | refine blk_drewN ?_ _ | refine blk_drew ?_ | refine blk_alloc ?_ _)); refine blk_far ?_ NB362_370.out _; (with_reducible repeat (first | refine blk_drewN ?_ _ | refine blk_drew ?_ | refine blk_alloc ?_ _)); exact BK362.out⟩, ⟨by repeat (first | (with_reducible first | exact HB.out | apply below_alloc | apply pw_below_drewN | apply below_drew1 | refine below_set ?_ GE362.out | refine below_set ?_ GE370.out) | exact HB.out)⟩⟩
                              · rw [if_neg c44] at H
                                have c44b0 : (t368 == ((rd_T32 l0_1 x53_4).f1)) = false := beq_eq_false_iff_ne.mpr c44
                                have c44b1 : (t368 != ((rd_T32 l0_1 x53_4).f1)) = true := bne_iff_ne.mpr c44
                                have H' := Aside0.mk H
                                clear H
                                have p369 : 0 ≤ (x53_4 : Int) := of_decide_eq_true (by first | (with_reducible assumption) | assumption)
                                have q369 : x53_4 < (l0_1.length : Int) := of_decide_eq_true (by first | (with_reducible assumption) | assumption)
                                obtain ⟨ad369, e369, hx369_0, hx369_1, hx369_2, hx369_3, hx369_4, hx369_5, hx369_6⟩ := at_T32 HR0_1.out x53_4 p369 q369
                                cases e369
                                replace hx369_0 := (HB.out.cell (World.block_lt_of_cell? w _ hx369_0)).trans hx369_0
                                replace hx369_1 := (HB.out.cell (World.block_lt_of_cell? w _ hx369_1)).trans hx369_1
                                replace hx369_2 := (HB.out.cell (World.block_lt_of_cell? w _ hx369_2)).trans hx369_2
                                replace hx369_3 := (HB.out.cell (World.block_lt_of_cell? w _ hx369_3)).trans hx369_3
                                replace hx369_4 := (HB.out.cell (World.block_lt_of_cell? w _ hx369_4)).trans hx369_4
                                replace hx369_5 := (HB.out.cell (World.block_lt_of_cell? w _ hx369_5)).trans hx369_5
                                replace hx369_6 := (HB.out.cell (World.block_lt_of_cell? w _ hx369_6)).trans hx369_6
                                replace p369 := eq_true p369
                                replace q369 := eq_true q369
                                go_wp2_with (first | ((with_reducible refine gate_dst (N := 10) rfl ?_); refine box_event ?hg (N := 10) ?hd (cs := #[.int .i64 0, .int .i64 0, .int .i64 0, .bool false, .int .i64 0, .int .i64 0, .int .i64 0]) (t := 32) ?hr ?_; (case hd => rfl); (case hg => rfl); (case hr => first | (go_simp; done) | (go_simp; rfl)); intro gb370 hg w48 hbox hb; have n0_ := Aside0.mk (blk_below (g := gb362) (o := .cells #[.string a0_0, .slice (some ad369) l0_1.length c0_1] 24 (0, 0)) (by (with_reducible repeat (first | refine blk_drewN ?_ _ | refine blk_drew ?_ | refine blk_alloc ?_ _)); exact BK362.out) hb); have n1_ := Aside0.mk (below_step (by repeat (first | (with_reducible first | exact HB.out | apply below_alloc | apply pw_below_drewN | apply below_drew1 | refine below_set ?_ GE362.out) | exact HB.out)) hb); have n2_ := Aside0.mk (hbox); have n3_ := Aside0.mk ((by rw [hg]; exact (below_size (by repeat (first | (with_reducible first | exact HB.out | apply below_alloc | apply pw_below_drewN | apply below_drew1 | refine below_set ?_ GE362.out) | exact HB.out))) : w.heap.size ≤ gb370)); have n4_ := Aside0.mk ((by rw [hg]; exact (below_size (by repeat (first | (with_reducible first | exact HB.out | apply below_alloc | apply pw_below_drewN | apply below_drew1 | refine below_set ?_ GE362.out) | exact HB.out))) : w.heap.size ≤ gb370)); have n5_ := Aside0.mk ((by rw [hg]; exact Nat.ne_of_lt (blk_lt (g := gb362) (o := .cells #[.string a0_0, .slice (some ad369) l0_1.length c0_1] 24 (0, 0)) (by (with_reducible repeat (first | refine blk_drewN ?_ _ | refine blk_drew ?_ | refine blk_alloc ?_ _)); exact BK362.out)) : gb362 ≠ gb370)); have n6_ := Aside0.mk ((by rw [hg]; exact Nat.ne_of_gt (blk_lt (g := gb362) (o := .cells #[.string a0_0, .slice (some ad369) l0_1.length c0_1] 24 (0, 0)) (by (with_reducible repeat (first | refine blk_drewN ?_ _ | refine blk_drew ?_ | refine blk_alloc ?_ _)); exact BK362.out)) : gb370 ≠ gb362)); clear BK362; clear HB; have BK362 := n0_; have HB := n1_; have BK370 := n2_; have GW370 := n3_; have GE370 := n4_; have NB362_370 := n5_; have NB370_362 := n6_; clear n0_ n1_ n2_ n3_ n4_ n5_ n6_; clear hb hbox hg; have hnb49 := NB370_362.out; have hnc49 := NB362_370.out; have hcz50_0 : w48.cell? ⟨gb370, 0, none⟩ = some (.int .i64 0) := (blk_cell BK370.out 0).trans rfl; have hcz50_1 : w48.cell? ⟨gb370, 1, none⟩ = some (.int .i64 0) := (blk_cell BK370.out 1).trans rfl; have hcz50_2 : w48.cell? ⟨gb370, 2, none⟩ = some (.int .i64 0) := (blk_cell BK370.out 2).trans rfl; have hcz50_3 : w48.cell? ⟨gb370, 3, none⟩ = some (.bool false) := (blk_cell BK370.out 3).trans rfl; have hcz50_4 : w48.cell? ⟨gb370, 4, none⟩ = some (.int .i64 0) := (blk_cell BK370.out 4).trans rfl; have hcz50_5 : w48.cell? ⟨gb370, 5, none⟩ = some (.int .i64 0) := (blk_cell BK370.out 5).trans rfl; have hcz50_6 : w48.cell? ⟨gb370, 6, none⟩ = some (.int .i64 0) := (blk_cell BK370.out 6).trans rfl; have hfz50_0 := blk_frozen BK370.out 0; have hfz50_1 := blk_frozen BK370.out 1; have hfz50_2 := blk_frozen BK370.out 2; have hfz50_3 := blk_frozen BK370.out 3; have hfz50_4 := blk_frozen BK370.out 4; have hfz50_5 := blk_frozen BK370.out 5; have hfz50_6 := blk_frozen BK370.out 6))
                                go_roundg k4
                                case measure => have := HJ2.out; have := HJ18.out; have := HJ29.out; have := HK4.out; omega
                                case rel => exact ⟨((t368 == ((rd_T32 l0_1 x53_4).f2))), (wrap64 (x53_4 + 1)), (by first | rfl | (simp; done) | (simp [*]; done)), (by first | rfl | (simp; done) | (simp [*]; done)), H', ⟨by have := HJ2.out; have := HJ18.out; have := HJ29.out; have := HK4.out; omega⟩, ⟨by (with_reducible repeat (first | refine blk_drewN ?_ _ | refine blk_drew ?_ | refine blk_alloc ?_ _)); refine blk_far ?_ NB362_370.out _; (with_reducible repeat (first | refine blk_drewN ?_ _ | refine blk_drew ?_ | refine blk_alloc ?_ _)); refine blk_far ?_ NB362_370.out _; (with_reducible repeat (first | refine blk_drewN ?_ _ | refine blk_drew ?_ | refine blk_alloc ?_ _)); refine blk_far ?_ NB362_370.out _; (with_reducible repeat (first | refine blk_drewN ?_ _ | refine blk_drew ?_ | refine blk_alloc ?_ _)); refine blk_far ?_ NB362_370.out _; (with_reducible repeat (first | refine blk_drewN ?_ _ | refine blk_drew ?_ | refine blk_alloc ?_ _)); refine blk_far ?_ NB362_370.out _; (with_reducible repeat (first | refine blk_drewN ?_ _ | refine blk_drew ?_ | refine blk_alloc ?_ _)); refine blk_far ?_ NB362_370.out _; (with_reducible repeat (first | refine blk_drewN ?_ _ | refine blk_drew ?_ | refine blk_alloc ?_ _)); refine blk_far ?_ NB362_370.out _; (with_reducible repeat (first | refine blk_drewN ?_ _ | refine blk_drew ?_ | refine blk_alloc ?_ _)); exact BK362.out⟩, ⟨by repeat (first | (with_reducible first | exact HB.out | apply below_alloc | apply pw_below_drewN | apply below_drew1 | refine below_set ?_ GE362.out | refine below_set ?_ GE370.out) | exact HB.out)⟩⟩
                          · rw [if_neg c39] at H
                            exact absurd H (by simp)
                        · rw [if_neg c38] at H
                          exact absurd H (by simp)
                      · rw [if_neg c37] at H
                        have c37b0 : decide (x53_4 < (l0_1.length : Int)) = false := decide_eq_false c37
                        clear c37
                        by_cases c51 : x8_4 = true
                        · subst c51
                          have H1 : ((almanaclaw16_awake.f).bind fun t371 => (some t371)) = some r := by rw [if_pos rfl] at H; exact H
                          clear H
                          have H := H1
                          clear H1
                          replace H := Option.bind_eq_some_iff.mp H
                          obtain ⟨t371, A520, H⟩ := H
                          replace H : (some t371) = some r := H
                          have A52 := Aside0.mk A520
                          clear A520
                          obtain rfl := Option.some.inj H
                          go_wp2_with (first | (go_at_call 12; (with_reducible refine (almanaclaw16_awake.calls  t371 _ A52.out (HTab.out.below (by repeat (first | (with_reducible first | exact HB.out | apply below_alloc | apply pw_below_drewN | apply below_drew1) | exact HB.out)))).mono ?_); rintro e w53 ⟨rfl, hb⟩; have n0_ := Aside0.mk (blk_below (g := gb362) (o := .cells #[.string a0_0, .slice A0_1 l0_1.length c0_1] 24 (0, 0)) (by (with_reducible repeat (first | refine blk_drewN ?_ _ | refine blk_drew ?_ | refine blk_alloc ?_ _)); exact BK362.out) hb); have n1_ := Aside0.mk (below_step (by repeat (first | (with_reducible first | exact HB.out | apply below_alloc | apply pw_below_drewN | apply below_drew1 | refine below_set ?_ GE362.out) | exact HB.out)) hb); clear BK362; clear HB; have BK362 := n0_; have HB := n1_; clear n0_ n1_; (try clear hb); (try clear hb2); (try clear hk); (try clear hi)))
                          go_ret
                          exact ⟨by first | rfl | (simp [errW_none, errW_some] <;> rfl) | (simp [*, errW_none, errW_some] <;> rfl), by repeat (first | (with_reducible first | exact HB.out | apply below_alloc | apply pw_below_drewN | apply below_drew1 | refine below_set ?_ GE362.out) | exact HB.out)⟩
                        · replace c51 := Bool.eq_false_iff.mpr c51
                          subst c51
                          have H1 : (some false) = some r := by rw [if_neg (show ¬ (false = true) by decide)] at H; exact H
                          clear H
                          have H := H1
                          clear H1
                          exact absurd ((Option.some.inj H).trans HRT.out) (by decide)
end Go.Proofs.YtmajmolbjiahlaaGreatDoor.PD
namespace Go.Proofs.YtmajmolbjiahlaaGreatDoor.PD
open Go.RowKit Go.Proofs.YtmajmolbjiahlaaGreatDoorW.PrintWords Go.Proofs.YtmajmolbjiahlaaGreatDoorW.PrintLast Go.Proofs.YtmajmolbjiahlaaGreatDoorW.PrintMore
set_option linter.unusedVariables false
set_option linter.unusedSimpArgs false
theorem offP_nil (t : Int) : offP [] t = 0 := by unfold offP; rw [if_neg (by simp)]
theorem utcP_nil (t : Int) : utcP [] t = t := by unfold utcP; rw [if_neg (by simp)]
theorem turns (l : List S32) (t : Int) (hf : fitZ l = true) (ht : -62101036800 ≤ t ∧ t ≤ 253367740799) : utcP l (t + offP l t) ≤ t ∧ utcP l (t + offP l t) + offP l (utcP l (t + offP l t)) = t + offP l t := by
  by_cases hne : l = []
  · subst hne
    rw [offP_nil, utcP_nil, offP_nil]
    omega
  · have ho := offP_le l t
    have hloc : inO (t + offP l t) = true := (inO_iff _).2 (by omega)
    have hmem := offP_mem hf ((inO_iff t).2 (by omega)) hne
    have hhit : hitB l (t + offP l t) (offP l t) = true := by
      unfold hitB
      rw [show t + offP l t - offP l t = t by omega]
      simp
    have hp := sortD_pair (ftL l)
    unfold utcP
    rw [if_pos ⟨hf, hloc, hne⟩]
    unfold findU
    cases hx : (sortDesc (ftL l)).find? (hitB l (t + offP l t)) with
    | none => exact absurd hhit (List.find?_eq_none.1 hx _ (sortD_mem.2 hmem))
    | some n =>
      obtain ⟨h1, h2, h3⟩ := find_sorted hp _ n hx
      have hle := h3 _ (sortD_mem.2 hmem) hhit
      have he : offP l (t + offP l t - n) = n := by unfold hitB at h2; simpa using h2
      simp only
      rw [he]
      omega
theorem found_loop (o : Int) (l : List S32) (hb : l.length < 4398046511104) : ∀ (d i : Nat) (s : Bool), l.length - i = d → i ≤ l.length → (s = true ∨ o ∈ ftL (l.drop i)) → Ev (fun k => almanaclaw16_ZoneTurns.l0 k o s l (l.length : Int) (i : Int)) true := by
  intro d
  induction d with
  | zero =>
    intro i s hd hi hs
    rw [List.drop_eq_nil_of_le (by omega)] at hs
    rcases hs with rfl | hs
    · exact Ev.step (f := fun _ => some true) (fun k => by simp only [almanaclaw16_ZoneTurns.l0]; rw [if_neg (by omega), if_pos (by trivial)]; rfl) (Ev.now _)
    · cases hs
  | succ d ih =>
    intro i s hd hi hs
    have h1 : i < l.length := by omega
    have hw : Aside0 (wrap64 ((i : Int) + 1) = ((i + 1 : Nat) : Int)) := ⟨w64n (by omega)⟩
    rw [List.drop_eq_getElem_cons h1, ftL_cons] at hs
    by_cases hc : s = true
    · refine Ev.step (fun k => ?_) (ih (i + 1) true (by omega) (by omega) (.inl rfl))
      simp only [almanaclaw16_ZoneTurns.l0]
      rw [if_pos (by omega), if_pos (by omega), if_pos (by omega), if_pos hc, hw.out]
    · by_cases h2 : o = l[i].f1
      · refine Ev.step (fun k => ?_) (ih (i + 1) true (by omega) (by omega) (.inl rfl))
        simp only [almanaclaw16_ZoneTurns.l0]
        rw [if_pos (by omega), if_pos (by omega), if_pos (by omega), if_neg hc, rd_atO h1, if_pos h2, hw.out]
      · have hs' : (o == l[i].f2) = true ∨ o ∈ ftL (l.drop (i + 1)) := by
          rcases hs with h | h
          · exact absurd h hc
          · rcases List.mem_cons.1 h with h | h
            · exact absurd h h2
            · rcases List.mem_cons.1 h with h | h
              · exact .inl (by simpa using h)
              · exact .inr h
        refine Ev.step (fun k => ?_) (ih (i + 1) (o == l[i].f2) (by omega) (by omega) hs')
        simp only [almanaclaw16_ZoneTurns.l0]
        rw [if_pos (by omega), if_pos (by omega), if_pos (by omega), if_neg hc, rd_atO h1, if_neg h2, hw.out]
theorem turns_true (nm : ByteArray) (l : List S32) (t : Int) (hb : l.length < 4398046511104) : ∃ k, almanaclaw16_ZoneTurns.f k nm l t = some true := by
  refine Ev.rounds ?_
  have hj : Ev (fun k => almanaclaw16_ZoneTurns.j0 k t true nm l) true := Ev.step (f := fun _ => some true) (fun k => by simp only [almanaclaw16_ZoneTurns.j0]; rw [if_pos (by trivial)]; rfl) (Ev.now _)
  refine Ev.bind (fitR nm l hb) ?_
  by_cases hf : fitZ l = true
  · by_cases h1 : t < -62101036800
    · exact Ev.congr (fun k => by rw [if_pos hf, if_pos h1]) hj
    · by_cases h2 : t > 253367740799
      · exact Ev.congr (fun k => by rw [if_pos hf, if_neg h1, decide_eq_true h2]) hj
      · refine Ev.congr (f := fun k => almanaclaw16_ZoneTurns.j0 k t false nm l) (fun k => by rw [if_pos hf, if_neg h1, decide_eq_false h2]) ?_
        obtain ⟨hle, heq⟩ := turns l t hf (by omega)
        have ho := offP_le l t
        have hw1 : Aside0 (wrap64 (t + offP l t) = t + offP l t) := ⟨w64 (by omega) (by omega)⟩
        refine Ev.step (fun k => by simp only [almanaclaw16_ZoneTurns.j0]; rw [if_neg (by simp)]) ?_
        refine Ev.bind (zloc_val nm l t) ?_
        rw [hw1.out]
        refine Ev.bind (zutc_val nm l _) ?_
        refine Ev.congr (fun k => if_neg (by omega)) ?_
        refine Ev.bind (zloc_val nm l _) ?_
        rw [heq, hw1.out]
        refine Ev.step (fun k => by simp only [almanaclaw16_ZoneTurns.j1]; rw [if_neg (by simp)]) ?_
        refine Ev.bind (zoff_val nm l t) ?_
        have hmain : ∀ s : Bool, (s = true ∨ offP l t ∈ ftL l) → Ev (fun k => almanaclaw16_ZoneTurns.j2 k (offP l t) s nm l) true := by
          intro s hs
          exact Ev.step (fun k => by simp only [almanaclaw16_ZoneTurns.j2]; rfl) (found_loop (offP l t) l hb _ 0 s rfl (Nat.zero_le _) hs)
        by_cases h0 : (l.length : Int) = 0
        · have hl : l = [] := List.length_eq_zero_iff.1 (by omega)
          refine Ev.congr (fun k => if_pos h0) ?_
          exact hmain _ (.inl (by rw [hl, offP_nil]; rfl))
        · have hl : l ≠ [] := fun e => h0 (by rw [e]; rfl)
          refine Ev.congr (fun k => if_neg h0) ?_
          exact hmain _ (.inr (offP_mem hf ((inO_iff t).2 (by omega)) hl))
  · exact Ev.congr (fun k => if_neg hf) hj
end Go.Proofs.YtmajmolbjiahlaaGreatDoor.PD
namespace Go.Proofs.YtmajmolbjiahlaaGreatDoor.PD
open Go.ChangeShapes Go.WideShapes Go.ChangeAt Go.RowKit Go.Proofs.YtmajmolbjiahlaaGreatDoorW.PrintWords
set_option linter.unusedVariables false
open _root_.Go.Proofs.YtmajmolbjiahlaaGreatDoor.Rows
set_option maxRecDepth 100000 in
theorem zoneTurns_lifted (os : Os) (started : os.Started) (H : Type) (enc : TypeId × Value → H) :
    ReturnsInHanded {} Tryz.checked os 4 .any (fun w args => (zoneTurnsSpec.pre enc Tryz.prog Tryz.f4 zoneTurnsRow.domain false w args ∧ laidMetH Tryz.prog laidL w) ∧ sizedMet enc Tryz.prog Tryz.f4 (OpenSpec.ofChange zoneTurnsSpec) false w args)
      (zoneTurnsSpec.post enc Tryz.prog Tryz.f4 false true false false) := by
  refine returnsInHanded_of_change_and (C := Tryz.checked) (X := fun w _ => laidMetH Tryz.prog laidL w) (fun _ _ _ hh h => h.of_heap hh) own started (by kernel_rfl) Tryz.func4
    (ChangeSpec.witness_shaped (enc := enc) (C := Tryz.checked) (os := os) (X := fun w _ => laidMetH Tryz.prog laidL w) false (World.doorLaid Tryz.prog 400 os) #[.agg #[.string ⟨#[]⟩, .slice none 0 0], .int .i64 0] 8 rfl (World.shaped_of_RefB (by kernel_rfl) (by kernel_rfl)) (by kernel_rfl) (by kernel_rfl) (by kernel_rfl) (door_met os _)) ?_
  intro W base args ds gs before hval0 hW hcnd hsz0 hL _
  have hsz : (DataW.weightsEach Tryz.prog (Tryz.f4.params.toList ++ zoneTurnsSpec.plain.varTypes Tryz.prog) (ds ++ gs)).all (· ≤ reachBytes) = true := hsz0
  have hval : ∀ (j : Nat) t v, Tryz.f4.params[j]? = some t → args[j]? = some v → Value.okWide Tryz.prog W .any base t v := hval0
  have hW' := hW
  obtain ⟨p, q, hA0, hV, rfl, hfz, hnd⟩ := hW
  have hA : DataW.TrodAll enc Tryz.prog W 0 (fun _ => true) true Tryz.f4.params.toList args.toList ds p := hA0
  rw [Tryz.params4] at hA hval hsz
  obtain ⟨v0, vs0, d0, ds0, p0, q0, hargs, rfl, rfl, h0, r0⟩ := trodAll_cons hA
  obtain ⟨v1, vs1, d1, ds1, p1, q1, rfl, rfl, rfl, h1, r1⟩ := trodAll_cons r0
  obtain ⟨rfl, rfl, rfl⟩ := trodAll_nil r1
  obtain rfl : args = #[v0, v1] := by cases args; simp_all
  obtain ⟨rfl, rfl⟩ := trodVars_none hV
  obtain ⟨s0, A0, c0, l0, rfl, x0, y0, z0⟩ := open_zone (hval 0 24 v0 rfl rfl) h0 (weighs hsz (j := 0) rfl rfl)
  obtain ⟨n1, rfl, rfl, rfl, w1⟩ := open_int Tryz.underlying2 (hval 1 2 v1 rfl rfl) h1
  have k0 := h0
  have lt0 : ∀ x ∈ p0, x.block < W.heap.size := by obtain ⟨m, hm⟩ := k0; exact DataW.trod_lt m _ _ _ hm
  clear hA0 hval0 hsz0 hsz
  obtain ⟨k, hk⟩ := turns_true s0 l0 n1 z0
  refine (almanaclaw16_ZoneTurns.callsT k s0 A0 c0 l0 n1 true W x0 y0 hk rfl (tab_of hL)).mono fun e W' ⟨he, bel⟩ => ?_
  subst he
  exact ⟨_, rfl, _, _, _, [], _, [], hW', trodAll_mk1 (shut_bool Tryz.underlying4 _), (trodAll_cons_mk (Below.trod laidOut (by kernel_rfl) (of_decide_eq_true (by kernel_rfl)) k0 bel lt0) (trodAll_cons_mk (shut_int Tryz.underlying2 w1) trodAll_mk0)), rfl, bel.frame _, fun h => by cases h⟩
theorem zoneTurns_row : zoneTurnsRow.holds Tryz.pinned (OpenSpec.ofChange zoneTurnsSpec) :=
  OpenClaim.holds_of_wide 4 Tryz.f4 rfl rfl rfl rfl rfl rfl rfl ⟨rfl, rfl, rfl, rfl, rfl⟩ rfl rfl rfl rfl rfl (by kernel_rfl) Tryz.func4 (by kernel_rfl)
    (of_decide_eq_true (by kernel_rfl)) (by unfold Func.isWrapper; first | (rw [if_pos (by decide +kernel)]; kernel_rfl) | (rw [if_neg (by decide +kernel)]; exact ⟨rfl, rfl⟩))
    (fun os started H enc _ => zoneTurns_lifted os started H enc)
end Go.Proofs.YtmajmolbjiahlaaGreatDoor.PD
namespace Go.Proofs.YtmajmolbjiahlaaGreatDoor.PD
open _root_.Go.Proofs.YtmajmolbjiahlaaGreatDoor.Rows
theorem zoneTurns_card : ZoneTurnsCardSaid :=
  Claim7.holds_tied_plain_at .later [] [.data, .data, .data] true (true, "caf13726c208a16d25baa9bb3af26a78e00e2f0a48de74af47d1b6c661e961a8") false
    zoneTurns_row (fun _ h => by cases h) (by kernel_rfl) (fun _ h => by cases h) zoneTurns_row_tie rfl ⟨rfl, rfl⟩ (by kernel_rfl) rfl
    (fun f fn hf hfn => by
      obtain rfl : f = 4 := Option.some.inj ((show Tryz.prog.funcNamed "almanac/almanaclaw16.ZoneTurns" = some 4 by kernel_rfl).symm.trans hf) |>.symm
      obtain rfl : fn = Tryz.f4 := (Option.some.inj (Tryz.func4.symm.trans hfn)).symm
      exact ⟨by kernel_rfl, fun j t ht => by
        rw [Tryz.params4] at ht
        have hm : t ∈ [24, 2] := by simpa using Array.mem_of_getElem? ht
        have hall : ([24, 2].all fun u => !Tryz.prog.wantsStandIn u) = true := by kernel_rfl
        exact (show Tryz.prog.wantsStandIn t = false by simpa using List.all_eq_true.1 hall t hm)⟩)
    (by kernel_rfl)
#print axioms zoneTurns_card
end Go.Proofs.YtmajmolbjiahlaaGreatDoor.PD
