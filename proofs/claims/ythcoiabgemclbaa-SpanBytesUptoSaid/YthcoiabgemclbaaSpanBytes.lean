/- The law SpanBytes holds of every row of spans and every text that are together of bulk at most 1048576: the call returns true, and its arguments read as they did. -/
import Derived.Test.YthcoiabgemclbaaSpanBytes2
import Derived.Test.YthcoiabgemclbaaSpanBytes1
import Derived.JoinedCond
import Derived.Deep.CondSized
/- span.Read. -/
namespace Go.Proofs.Ythcoiabgemclbaa.PD
open Go.RowKit Go.Shelf Go.Proofs.YthcoiabgemclbaaW.PrintWords Go.Proofs.YthcoiabgemclbaaW.PrintLast Go.Proofs.YthcoiabgemclbaaW.PrintMore
set_option linter.unusedVariables false
set_option linter.unusedSimpArgs false
attribute [local go_sem] isSome_setCell
theorem grown_refl (w : World) (r : Option Nat) : w.grownBy w r := ⟨rfl, rfl, rfl, Nat.le_refl _, fun _ _ _ => rfl⟩
theorem below_reader {w w1 : World} {o : Obj} (h : (w.alloc o).grownBy w1 (some w.heap.size)) : Below w.heap.size w w1 :=
  (below_alloc (Below.refl _ _) o).grown h (by rw [World.size_alloc]; omega) (fun k e => by cases e; exact Nat.le_refl _)
theorem below_row {w W W' : World} (h : Below w.heap.size w W) (hg : W.grownBy W' (some w.heap.size)) : Below w.heap.size w W' := h.grown hg h.size (fun k e => by cases e; exact Nat.le_refl _)
theorem R_rdr {w W W' : World} {v : Value} {l : List S25} (h : Kd.R k25 25 W (w.heap.size + 1) (fun k => k ≠ w.heap.size) v l) (hg : W.grownBy W' (some w.heap.size)) : Kd.R k25 25 W' (w.heap.size + 1) (fun k => k ≠ w.heap.size) v l := Kd.R_grown h hg (fun k hk e => hk (by cases e; rfl))
theorem R_own_far {W : World} {b X j : Nat} {ok : Nat → Prop} {v : Value} {l : List S25} {u : Value} (h : Kd.R k25 25 W b ok v l) (hX : ∀ k, v.ownBlock = some k → k ≠ X) : Kd.R k25 25 (W.setCell ⟨X, j, none⟩ u) b ok v l := by
  have h2 : Kd.R k25 25 W b (fun k => ok k ∧ k ≠ X) v l := ⟨fun k hk => ⟨h.1 k hk, hX k hk⟩, by
    obtain ⟨h0, inner, hown, hrep⟩ := h
    exact ⟨inner, hown, hrep.imp_ (fun p c hp => by rw [k25_openM hp]; exact k25_mkM _ _ _ _)⟩⟩
  exact Kd.R_mono (Kd.R_far h2 (p := ⟨X, j, none⟩) (fun k hk => hk.2) u) (fun _ hk => hk.1)
def stN (s : ByteArray) (a e : Int) : Int × Int × Int := if e = 0 then rdNum s a else (0, a, e)
def stT (s : ByteArray) (a e : Int) : ByteArray × Int × Int := if e = 0 then rdText s a else (⟨#[]⟩, a, e)
def stS (s : ByteArray) (a e : Int) : Int × Int × Int := if e = 0 then rdSig s a else (0, a, e)
theorem rd32 (R : Nat) (s : ByteArray) (a e : Int) (w : World) (hs : s.size ≤ 140737488355328) (hr : Rdr w R s a e) :
    Calls Try.prog 32 #[.pointer (some ⟨R, 0, none⟩), .func (.func 33) #[] #[]] w fun e' w' => e' = .returned (.int .u64 (stN s a e).1) ∧ Rdr w' R s (stN s a e).2.1 (stN s a e).2.2 ∧ w.grownBy w' (some R) := by
  by_cases h : e = 0
  · subst h
    unfold stN
    rw [if_pos rfl]
    exact read32_calls R s a _ _ _ w hr (fun W => readNumber_calls s a W hs)
  · unfold stN
    rw [if_neg h]
    exact (read32_none R s a e w h hr).mono fun _ _ ⟨h1, h2⟩ => ⟨h1, by rw [h2]; exact hr, by rw [h2]; exact grown_refl _ _⟩
theorem rd34 (R : Nat) (s : ByteArray) (a e : Int) (w : World) (hs : s.size ≤ 140737488355328) (hr : Rdr w R s a e) :
    Calls Try.prog 34 #[.pointer (some ⟨R, 0, none⟩), .func (.func 35) #[] #[]] w fun e' w' => e' = .returned (.string (stT s a e).1) ∧ Rdr w' R s (stT s a e).2.1 (stT s a e).2.2 ∧ w.grownBy w' (some R) := by
  by_cases h : e = 0
  · subst h
    unfold stT
    rw [if_pos rfl]
    exact read34_calls R s a _ _ _ w hr (fun W => readText_calls s a W hs)
  · unfold stT
    rw [if_neg h]
    exact (read34_none R s a e w h hr).mono fun _ _ ⟨h1, h2⟩ => ⟨h1, by rw [h2]; exact hr, by rw [h2]; exact grown_refl _ _⟩
theorem rd36 (R : Nat) (s : ByteArray) (a e : Int) (w : World) (hs : s.size ≤ 140737488355328) (hr : Rdr w R s a e) :
    Calls Try.prog 36 #[.pointer (some ⟨R, 0, none⟩), .func (.func 37) #[] #[]] w fun e' w' => e' = .returned (.int .i64 (stS s a e).1) ∧ Rdr w' R s (stS s a e).2.1 (stS s a e).2.2 ∧ w.grownBy w' (some R) := by
  by_cases h : e = 0
  · subst h
    unfold stS
    rw [if_pos rfl]
    exact read36_calls R s a _ _ _ w hr (fun W => readSigned_calls s a W hs)
  · unfold stS
    rw [if_neg h]
    exact (read36_none R s a e w h hr).mono fun _ _ ⟨h1, h2⟩ => ⟨h1, by rw [h2]; exact hr, by rw [h2]; exact grown_refl _ _⟩
/-- One span. -/
def oneSp (s : ByteArray) (a : Int) : S25 × Int × Int :=
  let t := stT s a 0
  let f := stS s t.2.1 t.2.2
  let l := stN s f.2.1 f.2.2
  (⟨t.1, f.1, wrap64 (f.1 + wrap64 l.1)⟩, l.2.1, l.2.2)
def spansGo (s : ByteArray) : Nat → Int → Int → List S25 → List S25 × Int × Int
  | 0, a, e, acc => (acc, a, e)
  | m + 1, a, e, acc => if e = 0 then spansGo s m (oneSp s a).2.1 (oneSp s a).2.2 (acc ++ [(oneSp s a).1]) else (acc, a, e)
def readB (s : ByteArray) : List S25 × Int :=
  let h := rdNum s 0
  let r := spansGo s h.1.toNat h.2.1 h.2.2 []
  if r.2.2 ≠ 0 then ([], r.2.2) else if r.2.1 < s.size then ([], 10) else if fitB r.1 then (r.1, 0) else ([], 14)
def gst (s : ByteArray) (a e : Int) : Nat := if e = 0 then ((s.size : Int) - a + 1).toNat else 0
theorem stN_ok {s : ByteArray} {a e n b : Int} (h : stN s a e = (n, b, 0)) : e = 0 ∧ rdNum s a = (n, b, 0) := by
  unfold stN at h
  split at h
  · exact ⟨by assumption, h⟩
  · rename_i h2
    simp only [Prod.mk.injEq] at h
    exact absurd h.2.2 h2
theorem rdText_ok {s : ByteArray} {a b : Int} {x : ByteArray} (h : rdText s a = (x, b, 0)) : ∃ n c, rdNum s a = (n, c, 0) ∧ n ≤ (s.size : Int) - c ∧ b = c + n ∧ x = s.extract c.toNat b.toNat := by
  unfold rdText at h
  split at h
  · rename_i h1
    simp only [Prod.mk.injEq] at h
    exact absurd h.2.2 h1
  · rename_i h1
    split at h
    · simp at h
    · rename_i h2
      simp only [Prod.mk.injEq, and_true] at h
      refine ⟨_, _, ?_, by omega, h.2.symm, ?_⟩
      · exact Prod.ext rfl (Prod.ext rfl (by simpa using h1))
      · rw [← h.1, ← h.2]
theorem stT_ok {s : ByteArray} {a e b : Int} {x : ByteArray} (h : stT s a e = (x, b, 0)) : e = 0 ∧ rdText s a = (x, b, 0) := by
  unfold stT at h
  split at h
  · exact ⟨by assumption, h⟩
  · rename_i h2
    simp only [Prod.mk.injEq] at h
    exact absurd h.2.2 h2
theorem stS_ok {s : ByteArray} {a e n b : Int} (h : stS s a e = (n, b, 0)) : e = 0 ∧ ∃ m, rdNum s a = (m, b, 0) ∧ n = sgn m := by
  unfold stS rdSig at h
  split at h
  · refine ⟨by assumption, (rdNum s a).1, ?_⟩
    simp only [Prod.mk.injEq] at h
    exact ⟨Prod.ext rfl (Prod.ext h.2.1 h.2.2), h.1.symm⟩
  · rename_i h2
    simp only [Prod.mk.injEq] at h
    exact absurd h.2.2 h2
theorem extract_size (s : ByteArray) (i j : Nat) : (s.extract i j).size ≤ s.size := by rw [ByteArray.size_extract]; omega
theorem stT_size (s : ByteArray) (a e : Int) : (stT s a e).1.size ≤ s.size := by
  unfold stT rdText
  split
  · split
    · exact Nat.zero_le _
    · split
      · exact Nat.zero_le _
      · exact extract_size _ _ _
  · exact Nat.zero_le _
theorem one_ok {s : ByteArray} {a a2 e2 a3 e3 a4 f0 l0 : Int} {x0 : ByteArray} (h1 : stT s a 0 = (x0, a2, e2)) (h2 : stS s a2 e2 = (f0, a3, e3)) (h3 : stN s a3 e3 = (l0, a4, 0)) : a + 3 ≤ a4 ∧ a4 ≤ s.size ∧ 0 ≤ a := by
  obtain ⟨rfl, k3⟩ := stN_ok h3
  obtain ⟨rfl, m, k2, -⟩ := stS_ok h2
  obtain ⟨-, k1⟩ := stT_ok h1
  obtain ⟨n, c, j1, h4, rfl, -⟩ := rdText_ok k1
  have b1 := rdNum_bounds j1
  have b2 := rdNum_bounds k2
  have b3 := rdNum_bounds k3
  omega
set_option maxRecDepth 100000 in
set_option maxHeartbeats 8000000 in
theorem span_Read0 (s : ByteArray) (w : World) (hs : s.size ≤ 1048576) :
    Calls Try.prog 19 #[.string s] w fun e w' => ∃ v0_ : Value, e = .returned (.tuple #[v0_, .int .i64 (readB s).2]) ∧ Kd.R k25 25 w' w.heap.size (fun _ => True) v0_ (readB s).1 ∧ Below w.heap.size w w' := by
  have hs2 : s.size ≤ 140737488355328 := by omega
  go_enter Try.func19, Try.ntmps19
  go_wp2_with fail
  refine (rd32 w.heap.size s 0 0 _ hs2 (heap_alloc_new _ _)).mono ?_
  rintro e w1 ⟨rfl, hR1, hg1⟩
  have HR1 := Aside0.mk hR1
  have HB1 := Aside0.mk (below_reader hg1)
  clear hR1 hg1
  obtain ⟨n, a0, e0, h1⟩ : ∃ n a0 e0, stN s 0 0 = (n, a0, e0) := ⟨_, _, _, rfl⟩
  have hn := rdNum_range s 0
  have h1' : rdNum s 0 = (n, a0, e0) := h1
  rw [h1'] at hn
  rw [h1] at HR1
  simp only at HR1 hn
  rw [show (stN s 0 0).1 = n by rw [h1]]
  obtain ⟨m, rfl⟩ := Int.eq_ofNat_of_zero_le hn.1
  have hm : m < 18446744073709551616 := by omega
  have HH := Aside0.mk h1'
  obtain ⟨tot, htot⟩ : ∃ tot, tot = spansGo s m a0 e0 [] := ⟨_, rfl⟩
  have HTot := Aside0.mk htot
  have HA0 : Aside0 (e0 = 0 → 0 ≤ a0 ∧ a0 ≤ s.size) := ⟨fun h => by subst h; have := rdNum_bounds h1'; omega⟩
  clear h1 h1' hn htot
  go_wp2_with fail
  go_loopg [6, 7] (gst s a0 e0) (fun g v6 v7 w' => ∃ (j : Nat) (acc : List S25) (a e : Int), v7 = .int .u64 (j : Int) ∧ Aside0 (j ≤ m) ∧ Aside0 (g = gst s a e) ∧ Aside0 (spansGo s (m - j) a e acc = tot) ∧ Aside0 (Kd.R k25 25 w' (w.heap.size + 1) (fun k => k ≠ w.heap.size) v6 acc) ∧
    Aside0 (Rdr w' w.heap.size s a e) ∧ Aside0 (Below w.heap.size w w') ∧ Aside0 (e = 0 → (acc.length : Int) ≤ a ∧ a ≤ s.size) ∧ Aside0 (acc.length ≤ s.size + 1) ∧ Aside0 (∀ x ∈ acc, x.f0.size ≤ s.size))
  case atStart => exact ⟨0, [], a0, e0, rfl, ⟨Nat.zero_le _⟩, ⟨rfl⟩, ⟨HTot.out.symm⟩, ⟨Kd.R_nil _ _ _ _ _⟩, HR1, HB1, ⟨fun h => by have := HA0.out h; simp; omega⟩, ⟨by simp⟩, ⟨by simp⟩⟩
  case round =>
    obtain ⟨j, acc, a, e, rfl, HJ, HG, HT, HRow, HR, HB, HA, HL, HS⟩ := hrel
    have y2 : wr.cell? ⟨w.heap.size, 2, none⟩ = some (.int .i64 e) := (blk_cell HR.out 2).trans rfl
    have y1 : wr.cell? ⟨w.heap.size, 1, none⟩ = some (.int .i64 a) := (blk_cell HR.out 1).trans rfl
    by_cases hlt : j < m ∧ e = 0
    · obtain ⟨hjm, rfl⟩ := hlt
      have t1 : decide ((j : Int) < (m : Int)) = true := decide_eq_true (by omega)
      have t2 : decide (j < m) = true := decide_eq_true hjm
      go_wp2_with fail
      refine (rd34 w.heap.size s a 0 _ hs2 HR.out).mono ?_
      rintro e2 w2 ⟨rfl, hR2, hg2⟩
      have HB2 := Aside0.mk (below_row HB.out hg2)
      have HRow2 := Aside0.mk (R_rdr HRow.out hg2)
      obtain ⟨x0, a2, e2, hx⟩ : ∃ x a2 e2, stT s a 0 = (x, a2, e2) := ⟨_, _, _, rfl⟩
      have HX := Aside0.mk hx
      rw [hx] at hR2
      rw [show (stT s a 0).1 = x0 by rw [hx]]
      have HR2 := Aside0.mk hR2
      clear hR2 hg2 hx y1 y2 HB HRow HR
      go_wp2_with fail
      refine (rd36 w.heap.size s a2 e2 _ hs2 HR2.out).mono ?_
      rintro e3 w3 ⟨rfl, hR3, hg3⟩
      have HB3 := Aside0.mk (below_row HB2.out hg3)
      have HRow3 := Aside0.mk (R_rdr HRow2.out hg3)
      obtain ⟨f0, a3, e3, hf⟩ : ∃ x a3 e3, stS s a2 e2 = (x, a3, e3) := ⟨_, _, _, rfl⟩
      have HF := Aside0.mk hf
      rw [hf] at hR3
      rw [show (stS s a2 e2).1 = f0 by rw [hf]]
      have HR3 := Aside0.mk hR3
      clear hR3 hg3 hf HB2 HRow2 HR2
      go_wp2_with fail
      have bx := heap_alloc_new w3 (.cells #[.string x0, .int .i64 f0, .int .i64 0] 25)
      have br := blk_alloc HR3.out (.cells #[.string x0, .int .i64 f0, .int .i64 0] 25)
      have hbb := below_alloc HB3.out (.cells #[.string x0, .int .i64 f0, .int .i64 0] 25)
      have hrr := Kd.R_alloc HRow3.out (.cells #[.string x0, .int .i64 f0, .int .i64 0] 25)
      have hX : w.heap.size < w3.heap.size := blk_lt HR3.out
      have hrx : ∀ k, (u6 : Value).ownBlock = some k → k < w3.heap.size := Kd.R_lt HRow3.out
      obtain ⟨X, hXe⟩ : ∃ X, X = w3.heap.size := ⟨_, rfl⟩
      obtain ⟨w4, hw4⟩ : ∃ w4, w4 = w3.alloc (.cells #[.string x0, .int .i64 f0, .int .i64 0] 25) := ⟨_, rfl⟩
      rw [← hXe, ← hw4] at bx
      rw [← hw4] at br hbb hrr
      rw [← hXe] at hX hrx
      rw [← hw4, ← hXe]
      clear hw4 hXe HR3 HB3 HRow3
      have HBX := Aside0.mk bx
      have HR4 : Aside0 (Rdr w4 w.heap.size s a3 e3) := ⟨br⟩
      have HB4 := Aside0.mk hbb
      have HRow4 := Aside0.mk hrr
      have HXX := Aside0.mk hX
      have HRX := Aside0.mk hrx
      clear bx br hbb hrr hX hrx
      have z1 : w4.cell? ⟨X, 1, none⟩ = some (.int .i64 f0) := (blk_cell HBX.out 1).trans rfl
      obtain ⟨l0, a4, e4, hl⟩ : ∃ x a4 e4, stN s a3 e3 = (x, a4, e4) := ⟨_, _, _, rfl⟩
      have HLn := Aside0.mk hl
      clear hl
      have HCall : ∀ W : World, Rdr W w.heap.size s a3 e3 → Calls Try.prog 32 #[.pointer (some ⟨w.heap.size, 0, none⟩), .func (.func 33) #[] #[]] W fun e' w' => e' = .returned (.int .u64 l0) ∧ Rdr w' w.heap.size s a4 e4 ∧ W.grownBy w' (some w.heap.size) := fun W hW => by
        have := rd32 w.heap.size s a3 e3 W hs2 hW
        rwa [HLn.out] at this
      have HC := Aside0.mk HCall
      clear HCall
      go_region_with (go_at_call 32; refine (HC.out _ (by exact HR4.out)).mono ?_; rintro e w5 ⟨rfl, hR5, hg5⟩; have hbx5 := (hg5.block X (blk_lt HBX.out) (by simp only [ne_eq, Option.some.injEq]; have := HXX.out; omega)).trans HBX.out; have HBX5 := Aside0.mk hbx5; have z3 : w5.cell? ⟨X, 1, none⟩ = some (.int .i64 f0) := (blk_cell hbx5 1).trans rfl; have z2 : w5.cell? ⟨X, 2, none⟩ = some (.int .i64 0) := (blk_cell hbx5 2).trans rfl; have zf := blk_frozen hbx5 2; have HR5 := Aside0.mk hR5; have HG5 := Aside0.mk hg5; clear hbx5 hR5 hg5)
      all_goals
        have hy : IntKind.i64.wrap (f0 + IntKind.i64.wrap l0) = wrap64 (f0 + wrap64 l0) := by rw [IntKind.wrap_i64, IntKind.wrap_i64]; unfold wrap64; omega
        rw [hy]
        clear hy
        obtain ⟨y, hye⟩ : ∃ y, y = wrap64 (f0 + wrap64 l0) := ⟨_, rfl⟩
        rw [← hye]
        have bx6 : (w5.setCell ⟨X, 2, none⟩ (.int .i64 y)).heap[X]? = some (.cells #[.string x0, .int .i64 f0, .int .i64 y] 25 (0, 0)) := blk_set HBX5.out 2 _
        have HR6 : Aside0 (Rdr (w5.setCell ⟨X, 2, none⟩ (.int .i64 y)) w.heap.size s a4 e4) := ⟨blk_far HR5.out (p := ⟨X, 2, none⟩) (by show w.heap.size ≠ X; have := HXX.out; omega) _⟩
        have HB6 : Aside0 (Below w.heap.size w (w5.setCell ⟨X, 2, none⟩ (.int .i64 y))) := ⟨(below_row (below_drew1 HB4.out) HG5.out).setCell (p := ⟨X, 2, none⟩) (by have := HXX.out; show w.heap.size ≤ X; omega) _⟩
        have HRow6 : Aside0 (Kd.R k25 25 (w5.setCell ⟨X, 2, none⟩ (.int .i64 y)) (w.heap.size + 1) (fun k => k ≠ w.heap.size) u6 acc) := ⟨R_own_far (R_rdr (Kd.R_drew HRow4.out) HG5.out) (fun k hk => by have := HRX.out k hk; omega)⟩
        have hsz : w.heap.size < (w5.setCell ⟨X, 2, none⟩ (.int .i64 y)).heap.size := blk_lt HR6.out
        have HSZ := Aside0.mk hsz
        have v0 : (w5.setCell ⟨X, 2, none⟩ (.int .i64 y)).cell? ⟨X, 0, none⟩ = some (.string x0) := (blk_cell bx6 0).trans rfl
        have v1 : (w5.setCell ⟨X, 2, none⟩ (.int .i64 y)).cell? ⟨X, 1, none⟩ = some (.int .i64 f0) := (blk_cell bx6 1).trans rfl
        have v2 : (w5.setCell ⟨X, 2, none⟩ (.int .i64 y)).cell? ⟨X, 2, none⟩ = some (.int .i64 y) := (blk_cell bx6 2).trans rfl
        have HY := Aside0.mk hye
        clear bx6 hsz hye z1 z2 z3 zf HR4 HB4 HRow4 HBX HBX5 HR5 HG5
        generalize w5.setCell ⟨X, 2, none⟩ (.int .i64 y) = w6 at HR6 HB6 HRow6 HSZ v0 v1 v2 ⊢
        have HFr : Aside0 (∀ k, w6.heap.size ≤ k → k ≠ w.heap.size) := ⟨fun k hk => by have := HSZ.out; omega⟩
        go_wp2_with ((with_reducible refine gate_builtin (b := .append) (xs := #[.tmp 38, .tmp 40]) rfl ?_); at_builtin; refine Kd.R_append k25 (w0 := w6) (w.heap.size + 1) rfl (.tmp 38) (.tmp 40) 22 25 (.agg #[(.string ⟨#[]⟩), (.int .i64 0), (.int .i64 0)]) 32 rfl Try.underlying22 info25 rfl (by decide) (by omega) u6 acc (⟨x0, f0, y⟩ : S25) [.string x0, .int .i64 f0, .int .i64 y] (fun k => k ≠ w.heap.size) (fun _ => False) rfl (by first | (go_simp; done) | (go_simp; rfl)) (k25_mkM _ _ _ _) (fun _ hk => hk.elim) HFr.out HRow6.out (Below.refl _ _) HSZ.out (by have := HL.out; omega) ?_; intro va w7 ho7 hb7 hg7 hat7; have HRow7 := Aside0.mk ho7; have HR7 : Aside0 (Rdr w7 w.heap.size s a4 e4) := ⟨(hb7.block _ (by omega)).trans HR6.out⟩; have HB7 := Aside0.mk (HB6.out.trans (hb7.mono (by omega))); clear ho7 hb7 hg7 hat7)
        have hone : oneSp s a = (⟨x0, f0, y⟩, a4, e4) := by unfold oneSp; simp only [HX.out, HF.out, HLn.out]; rw [HY.out]
        have hnext : spansGo s (m - (j + 1)) a4 e4 (acc ++ [⟨x0, f0, y⟩]) = tot := by
          have h := HT.out
          rw [show m - j = (m - (j + 1)) + 1 by omega, spansGo, if_pos rfl, hone] at h
          exact h
        have hx0 : x0.size ≤ s.size := by have := stT_size s a 0; rw [HX.out] at this; exact this
        have hok := fun h : e4 = 0 => one_ok HX.out HF.out (by rw [← h]; exact HLn.out)
        have hla : (acc.length : Int) ≤ a ∧ a ≤ s.size := by first | exact HA.out rfl | exact HA.out trivial
        have HNX := Aside0.mk hnext
        have HX0 := Aside0.mk hx0
        have HOK := Aside0.mk hok
        have hge : gst s a4 e4 < gst s a 0 := by
          unfold gst
          rw [if_pos rfl]
          split
          · rename_i h
            have := HOK.out h
            omega
          · omega
        have HGE := Aside0.mk hge
        have hwj : IntKind.u64.wrap ((j : Int) + 1) = ((j + 1 : Nat) : Int) := by rw [IntKind.wrap_u64]; omega
        clear hone hnext hx0 hok hge v0 v1 v2
        go_wp2_with fail
        go_roundg (gst s a4 e4)
        case measure => rw [HG.out]; exact HGE.out
        case rel => exact ⟨j + 1, acc ++ [⟨x0, f0, y⟩], a4, e4, by first | rfl | go_num | (rw [hwj]), ⟨hjm⟩, ⟨rfl⟩, HNX, HRow7, HR7, HB7, ⟨fun h => by have := HOK.out h; simp; omega⟩, ⟨by simp; omega⟩, ⟨fun z hz => by
          rcases List.mem_append.1 hz with hz | hz
          · exact HS.out z hz
          · rw [List.mem_singleton.1 hz]; exact HX0.out⟩⟩
    · have htot : tot = (acc, a, e) := by
        have h := HT.out
        by_cases he : e = 0
        · have : m - j = 0 := by have := HJ.out; omega
          rw [this] at h
          exact h.symm
        · cases hk : m - j with
          | zero => rw [hk] at h; exact h.symm
          | succ k => rw [hk, spansGo, if_neg he] at h; exact h.symm
      have hrb : readB s = if e ≠ 0 then ([], e) else if a < s.size then ([], 10) else if fitB acc then (acc, 0) else ([], 14) := by
        unfold readB
        rw [HH.out]
        simp only [Int.toNat_natCast]
        rw [← HTot.out, htot]
      have HRB := Aside0.mk hrb
      have HLow : Aside0 (Kd.R k25 25 wr w.heap.size (fun _ => True) u6 acc) := ⟨Kd.R_mono (Kd.R_lower HRow.out (by omega)) (fun _ _ => trivial)⟩
      clear htot hrb
      have hg5 : (decide ((j : Int) < (m : Int)) = true ∧ e ≠ 0) ∨ decide ((j : Int) < (m : Int)) = false := by
        by_cases h : j < m
        · exact .inl ⟨decide_eq_true (by omega), fun he => hlt ⟨h, he⟩⟩
        · exact .inr (decide_eq_false (by omega))
      clear hlt
      by_cases he : e = 0
      · have t1 : decide ((j : Int) < (m : Int)) = false := by
          rcases hg5 with ⟨_, h⟩ | h
          · exact absurd he h
          · exact h
        have t1' : decide (j < m) = false := by simpa using t1
        subst he
        clear hg5
        by_cases ha : a < s.size
        · have t2 : decide (a < (s.size : Int)) = true := decide_eq_true ha
          have HRB2 : Aside0 (readB s = ([], 10)) := ⟨by rw [HRB.out]; simp [ha]⟩
          go_wp2_with fail
          refine bodyPost_ret (results_tmp2 rfl _ _ _) rfl ?_
          exact ⟨_, by rw [HRB2.out]; rfl, by rw [HRB2.out]; exact Kd.R_nil _ _ _ _ _, HB.out⟩
        · have t2 : decide (a < (s.size : Int)) = false := decide_eq_false ha
          obtain ⟨A, c, eA⟩ := Kd.R_slice HRow.out
          subst eA
          have HFc := Aside0.mk (fun b (hb : fitB acc = b) => fit_calls2 A c acc acc.length b wr HRow.out rfl (fun x hx => by have := HS.out x hx; unfold maxLen; omega) (by have := HL.out; omega) hb)
          cases hfit : fitB acc with
          | true =>
            have HRB2 : Aside0 (readB s = (acc, 0)) := ⟨by rw [HRB.out, hfit]; simp [ha]⟩
            have HFi := Aside0.mk hfit
            clear hfit
            go_wp2_with (go_at_call 8; refine (HFc.out true HFi.out).mono ?_; rintro e w9 ⟨rfl, hb9⟩; have HB9 := Aside0.mk hb9; clear hb9)
            refine bodyPost_ret (results_tmp2 rfl _ _ _) rfl ?_
            exact ⟨_, by rw [HRB2.out]; rfl, by rw [HRB2.out]; exact Kd.R_below HLow.out HB9.out, below_step HB.out HB9.out⟩
          | false =>
            have HRB2 : Aside0 (readB s = ([], 14)) := ⟨by rw [HRB.out, hfit]; simp [ha]⟩
            have HFi := Aside0.mk hfit
            clear hfit
            go_wp2_with (go_at_call 8; refine (HFc.out false HFi.out).mono ?_; rintro e w9 ⟨rfl, hb9⟩; have HB9 := Aside0.mk hb9; clear hb9)
            refine bodyPost_ret (results_tmp2 rfl _ _ _) rfl ?_
            exact ⟨_, by rw [HRB2.out]; rfl, by rw [HRB2.out]; exact Kd.R_nil _ _ _ _ _, below_step HB.out HB9.out⟩
      · have t3 : (e == 0) = false := beq_eq_false_iff_ne.2 he
        have t4 : (e != 0) = true := bne_iff_ne.2 he
        have HRB2 : Aside0 (readB s = ([], e)) := ⟨by rw [HRB.out]; simp [he]⟩
        have hg6 : (decide ((j : Int) < (m : Int)) = true ∧ decide (j < m) = true) ∨ (decide ((j : Int) < (m : Int)) = false ∧ decide (j < m) = false) := by
          by_cases h : j < m
          · exact .inl ⟨decide_eq_true (by omega), decide_eq_true h⟩
          · exact .inr ⟨decide_eq_false (by omega), decide_eq_false h⟩
        clear hg5 he
        rcases hg6 with ⟨t1, t1'⟩ | ⟨t1, t1'⟩
        all_goals
          go_wp2_with fail
          go_quiet (fail)
          go_wp2_with fail
          refine bodyPost_ret (results_tmp2 rfl _ _ _) rfl ?_
          exact ⟨_, by rw [HRB2.out]; rfl, by rw [HRB2.out]; exact Kd.R_nil _ _ _ _ _, pw_below_drewN HB.out _⟩
def span_Read.f (a0 : ByteArray) : Option (List S25 × Int) := if a0.size ≤ 1048576 then some (readB a0) else none
theorem span_Read.calls (a0 : ByteArray) (r1 : List (S25)) (r2 : Int) (w : World) (h : span_Read.f a0 = some (r1, r2)) :
    Calls Try.prog 19 #[.string a0] w fun e w' => ∃ v0_ : Value, e = .returned (.tuple #[v0_, .int .i64 r2]) ∧ Kd.R k25 25 w' w.heap.size (fun _ => True) v0_ r1 ∧ Below w.heap.size w w' := by
  unfold span_Read.f at h
  split at h
  case isFalse => cases h
  rename_i hs
  have h2 := Option.some.inj h
  have := span_Read0 a0 w hs
  rw [h2] at this
  exact this
end Go.Proofs.Ythcoiabgemclbaa.PD
/- span.Read's contract. -/

-- written by a program of this work (mk.sh, over the kit's print; stubs are proved by hand)
namespace Go.Proofs.Ythcoiabgemclbaa.PD
open Go.RowKit Go.Proofs.YthcoiabgemclbaaW.PrintWords Go.Proofs.YthcoiabgemclbaaW.PrintLast Go.Proofs.YthcoiabgemclbaaW.PrintMore
attribute [local go_sem] isSome_setCell max2_int min2_int max_two min_two max_three min_three max_four min_four   -- for this text's walks alone
set_option linter.unusedVariables false
set_option linter.unusedSimpArgs false

/-! ### almanacref01_ReadNumber: function 38 -/
mutual
def almanacref01_ReadNumber.j0 : Nat → ByteArray → Int → Bool → Option (Int × Int × Int)
  | 0, _, _, _ => none
  | k + 1, x0, x1, x17 => if x17 = true then (some (0, 0, 15)) else (almanacref01_ReadNumber.l0 k x0 x1 0 0)
def almanacref01_ReadNumber.l0 : Nat → ByteArray → Int → Int → Int → Option (Int × Int × Int)
  | 0, _, _, _, _ => none
  | k + 1, x0, x1, x7, x8 => if (wrap64 (x1 + x8)) ≥ (x0.size : Int) then (some (0, 0, 11)) else (if 0 ≤ (wrap64 (x1 + x8)) then (if (wrap64 (x1 + x8)) < (x0.size : Int) then (if x8 = 9 then (almanacref01_ReadNumber.j2 k x0 x1 x7 x8 (bt x0 (wrap64 (x1 + x8))) (decide ((bt x0 (wrap64 (x1 + x8))) > 1))) else (almanacref01_ReadNumber.j2 k x0 x1 x7 x8 (bt x0 (wrap64 (x1 + x8))) false)) else (none)) else (none))
def almanacref01_ReadNumber.j2 : Nat → ByteArray → Int → Int → Int → Int → Bool → Option (Int × Int × Int)
  | 0, _, _, _, _, _, _ => none
  | k + 1, x0, x1, x7, x8, x9, x36 => if x36 = true then (some (0, 0, 10)) else (if 0 ≤ (wrap64 (7 * x8)) then (if x9 < 128 then (if x9 = 0 then (if x8 > 0 then (some (0, 0, 10)) else (some (IntKind.u64.wrap (x7 + (shl .u64 (IntKind.u64.wrap (Int.tmod x9 128)) (wrap64 (7 * x8)))), wrap64 ((wrap64 (x1 + x8)) + 1), 0))) else (some (IntKind.u64.wrap (x7 + (shl .u64 (IntKind.u64.wrap (Int.tmod x9 128)) (wrap64 (7 * x8)))), wrap64 ((wrap64 (x1 + x8)) + 1), 0))) else (almanacref01_ReadNumber.l0 k x0 x1 (IntKind.u64.wrap (x7 + (shl .u64 (IntKind.u64.wrap (Int.tmod x9 128)) (wrap64 (7 * x8))))) (wrap64 (x8 + 1)))) else (none))
end
def almanacref01_ReadNumber.f (k : Nat) (a0 : ByteArray) (a1 : Int) : Option (Int × Int × Int) := if a1 < 0 then (almanacref01_ReadNumber.j0 k a0 a1 true) else (almanacref01_ReadNumber.j0 k a0 a1 (decide (a1 > (a0.size : Int))))
theorem almanacref01_ReadNumber.mono_l : ∀ k, (∀ y0 y1 y2, LeO (almanacref01_ReadNumber.j0 k y0 y1 y2) (almanacref01_ReadNumber.j0 (k + 1) y0 y1 y2)) ∧ (∀ y0 y1 y2 y3, LeO (almanacref01_ReadNumber.l0 k y0 y1 y2 y3) (almanacref01_ReadNumber.l0 (k + 1) y0 y1 y2 y3)) ∧ (∀ y0 y1 y2 y3 y4 y5, LeO (almanacref01_ReadNumber.j2 k y0 y1 y2 y3 y4 y5) (almanacref01_ReadNumber.j2 (k + 1) y0 y1 y2 y3 y4 y5))
  | 0 => ⟨fun _ _ _ r h => by simp [almanacref01_ReadNumber.j0] at h, fun _ _ _ _ r h => by simp [almanacref01_ReadNumber.l0] at h, fun _ _ _ _ _ _ r h => by simp [almanacref01_ReadNumber.j2] at h⟩
  | k + 1 => by
    obtain ⟨ih0, ih1, ih2⟩ := almanacref01_ReadNumber.mono_l k
    refine ⟨?_, ?_, ?_⟩
    · intro y0 y1 y2
      unfold almanacref01_ReadNumber.j0
      repeat' first
      | (with_reducible exact ih0 _ _ _)
      | (with_reducible exact ih1 _ _ _ _)
      | (with_reducible exact ih2 _ _ _ _ _ _)
      | (with_reducible exact LeO.refl _)
      | (with_reducible exact LeO.none _)
      | (with_reducible refine LeO.ite ?_ ?_)
      | (with_reducible refine LeO.bind ?_ (fun _ => ?_))
      | exact ih0 _ _ _
      | exact ih1 _ _ _ _
      | exact ih2 _ _ _ _ _ _
      | exact LeO.none _
      | refine LeO.ite ?_ ?_
      | refine LeO.bind ?_ (fun _ => ?_)
    · intro y0 y1 y2 y3
      unfold almanacref01_ReadNumber.l0
      repeat' first
      | (with_reducible exact ih0 _ _ _)
      | (with_reducible exact ih1 _ _ _ _)
      | (with_reducible exact ih2 _ _ _ _ _ _)
      | (with_reducible exact LeO.refl _)
      | (with_reducible exact LeO.none _)
      | (with_reducible refine LeO.ite ?_ ?_)
      | (with_reducible refine LeO.bind ?_ (fun _ => ?_))
      | exact ih0 _ _ _
      | exact ih1 _ _ _ _
      | exact ih2 _ _ _ _ _ _
      | exact LeO.none _
      | refine LeO.ite ?_ ?_
      | refine LeO.bind ?_ (fun _ => ?_)
    · intro y0 y1 y2 y3 y4 y5
      unfold almanacref01_ReadNumber.j2
      repeat' first
      | (with_reducible exact ih0 _ _ _)
      | (with_reducible exact ih1 _ _ _ _)
      | (with_reducible exact ih2 _ _ _ _ _ _)
      | (with_reducible exact LeO.refl _)
      | (with_reducible exact LeO.none _)
      | (with_reducible refine LeO.ite ?_ ?_)
      | (with_reducible refine LeO.bind ?_ (fun _ => ?_))
      | exact ih0 _ _ _
      | exact ih1 _ _ _ _
      | exact ih2 _ _ _ _ _ _
      | exact LeO.none _
      | refine LeO.ite ?_ ?_
      | refine LeO.bind ?_ (fun _ => ?_)
theorem almanacref01_ReadNumber.mono : ∀ a0 a1 k, LeO (almanacref01_ReadNumber.f k a0 a1) (almanacref01_ReadNumber.f (k + 1) a0 a1) := by
  intro a0 a1 k
  obtain ⟨ih0, ih1, ih2⟩ := almanacref01_ReadNumber.mono_l k
  unfold almanacref01_ReadNumber.f
  repeat' first
      | (with_reducible exact ih0 _ _ _)
      | (with_reducible exact ih1 _ _ _ _)
      | (with_reducible exact ih2 _ _ _ _ _ _)
      | (with_reducible exact LeO.refl _)
      | (with_reducible exact LeO.none _)
      | (with_reducible refine LeO.ite ?_ ?_)
      | (with_reducible refine LeO.bind ?_ (fun _ => ?_))
      | exact ih0 _ _ _
      | exact ih1 _ _ _ _
      | exact ih2 _ _ _ _ _ _
      | exact LeO.none _
      | refine LeO.ite ?_ ?_
      | refine LeO.bind ?_ (fun _ => ?_)
set_option maxHeartbeats 8000000 in
set_option maxRecDepth 100000 in
theorem almanacref01_ReadNumber.calls (k : Nat) (a0 : ByteArray) (a1 : Int) (r1 : Int) (r2 : Int) (r3 : Int) (w : World) (h : almanacref01_ReadNumber.f k a0 a1 = some (r1, r2, r3)) :
    Calls Try.prog 38 #[.string a0, .int .i64 a1] w fun e w' => e = .returned (.tuple #[.int .u64 r1, .int .i64 r2, .int .i64 r3]) ∧ Drawn0 w w' := by
  have H : (if a1 < 0 then (almanacref01_ReadNumber.j0 k a0 a1 true) else (almanacref01_ReadNumber.j0 k a0 a1 (decide (a1 > (a0.size : Int))))) = some (r1, r2, r3) := h
  clear h
  have HC3 := Aside0.mk H
  clear H
  go_enter Try.func38, Try.ntmps38
  go_upto_region 1 with (fail)
  go_cut [17] (fun v17 wc => ∃ (kq : Nat) (x17_2 : Bool), v17 = .bool x17_2 ∧ Aside0 (almanacref01_ReadNumber.j0 kq a0 a1 x17_2 = some (r1, r2, r3)) ∧ Aside0 (kq ≤ k) ∧ Drawn0 w wc)
  case first =>
    have H := HC3.out
    clear HC3
    by_cases c4 : a1 < 0
    · rw [if_pos c4] at H
      have c4b0 : decide (a1 < 0) = true := decide_eq_true c4
      clear c4
      (first | rw [c4b0] | (simp only [i64_w, i32_w]; rw [c4b0]) | skip)
      have H' := Aside0.mk H
      clear H
      go_wp2
      go_meet
      case rel => exact ⟨_, (true), (by first | rfl | (simp; done) | (simp [*]; done)), H', ⟨by first | omega | exact Nat.le_refl _⟩, by repeat (first | exact Drawn0.refl _ | apply Drawn0.step)⟩
    · rw [if_neg c4] at H
      have c4b0 : decide (a1 < 0) = false := decide_eq_false c4
      clear c4
      (first | rw [c4b0] | (simp only [i64_w, i32_w]; rw [c4b0]) | skip)
      have H' := Aside0.mk H
      clear H
      go_wp2
      go_meet
      case rel => exact ⟨_, (decide (a1 > (a0.size : Int))), (by first | rfl | (simp; done) | (simp [*]; done)), H', ⟨by first | omega | exact Nat.le_refl _⟩, by repeat (first | exact Drawn0.refl _ | apply Drawn0.step)⟩
  case rest =>
    clear HC3
    try clear p2
    try clear c3
    try clear c4
    try clear c4b0
    obtain ⟨kq, x17_2, rfl, HA, HJ2, ⟨mc2, rfl⟩⟩ := hcut
    cases kq with
    | zero => exact absurd HA.out (by simp [almanacref01_ReadNumber.j0])
    | succ kj2 =>
      have H := HA.out
      clear HA
      simp only [almanacref01_ReadNumber.j0] at H
      by_cases c5 : x17_2 = true
      · subst c5
        have H1 : (some (0, 0, 15)) = some (r1, r2, r3) := by rw [if_pos rfl] at H; exact H
        clear H
        have H := H1
        clear H1
        simp only [Option.some.injEq, Prod.mk.injEq] at H
        obtain ⟨rfl, rfl, rfl⟩ := H
        go_wp2
        go_ret3
        exact ⟨by first | rfl | (simp; done) | (simp [*]; done), by repeat (first | exact Drawn0.refl _ | apply Drawn0.step)⟩
      · replace c5 := Bool.eq_false_iff.mpr c5
        subst c5
        have H1 : (almanacref01_ReadNumber.l0 kj2 a0 a1 0 0) = some (r1, r2, r3) := by rw [if_neg (show ¬ (false = true) by decide)] at H; exact H
        clear H
        have H := H1
        clear H1
        have H' := Aside0.mk H
        clear H
        go_wp2
        go_loopg [7, 8] kj2 (fun kq v7 v8 w' => ∃ (x7_2 : Int) (x8_2 : Int), v7 = .int .u64 x7_2 ∧ v8 = .int .i64 x8_2 ∧ Aside0 (almanacref01_ReadNumber.l0 kq a0 a1 x7_2 x8_2 = some (r1, r2, r3)) ∧ Aside0 (kq ≤ kj2) ∧ Drawn0 w w')
        case atStart => exact ⟨(0), (0), (by first | rfl | (simp; done) | (simp [*]; done)), (by first | rfl | (simp; done) | (simp [*]; done)), H', ⟨Nat.le_refl _⟩, by repeat (first | exact Drawn0.refl _ | apply Drawn0.step)⟩
        case round =>
          clear H'
          try clear c2
          try clear p2
          try clear c3
          try clear c4
          try clear c4b0
          try clear c5
          try clear p2
          obtain ⟨x7_2, x8_2, rfl, rfl, HA, HK2, ⟨m2, rfl⟩⟩ := hrel
          cases gk with
          | zero => exact absurd HA.out (by simp [almanacref01_ReadNumber.l0])
          | succ k2 =>
            have H := HA.out
            clear HA
            simp only [almanacref01_ReadNumber.l0] at H
            by_cases c6 : (wrap64 (a1 + x8_2)) ≥ (a0.size : Int)
            · rw [if_pos c6] at H
              have c6b0 : decide ((a0.size : Int) ≤ (wrap64 (a1 + x8_2))) = true := decide_eq_true c6
              clear c6
              simp only [Option.some.injEq, Prod.mk.injEq] at H
              obtain ⟨rfl, rfl, rfl⟩ := H
              go_wp2
              go_ret3
              exact ⟨by first | rfl | (simp; done) | (simp [*]; done), by repeat (first | exact Drawn0.refl _ | apply Drawn0.step)⟩
            · rw [if_neg c6] at H
              have c6b0 : decide ((a0.size : Int) ≤ (wrap64 (a1 + x8_2))) = false := decide_eq_false c6
              clear c6
              obtain ⟨ji7, hji7⟩ : ∃ j_ : Int, (wrap64 (a1 + x8_2)) = j_ := ⟨_, rfl⟩
              replace H : (if 0 ≤ (ji7) then (if (ji7) < (a0.size : Int) then (if x8_2 = 9 then (almanacref01_ReadNumber.j2 k2 a0 a1 x7_2 x8_2 (bt a0 (ji7)) (decide ((bt a0 (ji7)) > 1))) else (almanacref01_ReadNumber.j2 k2 a0 a1 x7_2 x8_2 (bt a0 (ji7)) false)) else (none)) else (none)) = some (r1, r2, r3) := by first | (rw [hji7] at H; exact H) | (simp only [hji7] at H ⊢; exact H)
              (try rw [hji7] at c6b0)
              have hji7w : (IntKind.i64.wrap (a1 + x8_2)) = ji7 := (i64_w _).trans hji7
              by_cases c8 : 0 ≤ (ji7)
              · rw [if_pos c8] at H
                have c8b0 : decide (0 ≤ (ji7)) = true := decide_eq_true c8
                clear c8
                by_cases c9 : (ji7) < (a0.size : Int)
                · rw [if_pos c9] at H
                  have c9b0 : decide ((ji7) < (a0.size : Int)) = true := decide_eq_true c9
                  clear c9
                  have HC11 := Aside0.mk H
                  clear H
                  have p10 : 0 ≤ ((ji7) : Int) := of_decide_eq_true (by first | (with_reducible assumption) | assumption)
                  have q10 : (ji7) < (a0.size : Int) := of_decide_eq_true (by first | (with_reducible assumption) | assumption)
                  have hx10 := bt_at a0 (ji7)
                  replace p10 := eq_true p10
                  replace q10 := eq_true q10
                  go_upto_region 9 with (fail)
                  go_cut [36] (fun v36 wc => ∃ (kq : Nat) (x36_10 : Bool), v36 = .bool x36_10 ∧ Aside0 (almanacref01_ReadNumber.j2 kq a0 a1 x7_2 x8_2 (bt a0 (ji7)) x36_10 = some (r1, r2, r3)) ∧ Aside0 (kq ≤ k2) ∧ Drawn0 w wc)
                  case first =>
                    have H := HC11.out
                    clear HC11
                    by_cases c12 : x8_2 = 9
                    · rw [if_pos c12] at H
                      have c12b0 : (x8_2 == 9) = true := beq_iff_eq.mpr c12
                      have c12b1 : (x8_2 != 9) = false := bne_eq_false_iff_eq.mpr c12
                      clear c12
                      (first | rw [c12b0] | (simp only [i64_w, i32_w]; rw [c12b0]) | skip)
                      have H' := Aside0.mk H
                      clear H
                      go_wp2
                      go_meet
                      case rel => exact ⟨_, (decide ((bt a0 (ji7)) > 1)), (by first | rfl | (simp; done) | (simp only [← hji7] <;> (first | rfl | simp)) | (simp [*]; done)), H', ⟨by have := HJ2.out; have := HK2.out; first | omega | exact Nat.le_refl _⟩, by repeat (first | exact Drawn0.refl _ | apply Drawn0.step)⟩
                    · rw [if_neg c12] at H
                      have c12b0 : (x8_2 == 9) = false := beq_eq_false_iff_ne.mpr c12
                      have c12b1 : (x8_2 != 9) = true := bne_iff_ne.mpr c12
                      (first | rw [c12b0] | (simp only [i64_w, i32_w]; rw [c12b0]) | skip)
                      have H' := Aside0.mk H
                      clear H
                      go_wp2
                      go_meet
                      case rel => exact ⟨_, (false), (by first | rfl | (simp; done) | (simp [*]; done)), H', ⟨by have := HJ2.out; have := HK2.out; first | omega | exact Nat.le_refl _⟩, by repeat (first | exact Drawn0.refl _ | apply Drawn0.step)⟩
                  case rest =>
                    clear HC11
                    try clear c1
                    try clear p1
                    try clear q1
                    try clear hx1
                    try clear c2
                    try clear p2
                    try clear c3
                    try clear c4
                    try clear c4b0
                    try clear c5
                    try clear c6
                    try clear c6b0
                    try clear p6
                    try clear c8
                    try clear c8b0
                    try clear c9
                    try clear c9b0
                    try clear p10
                    try clear q10
                    try clear hx10
                    try clear c12
                    try clear c12b0
                    try clear c12b1
                    try clear p10
                    try clear p2
                    try clear q10
                    obtain ⟨kq, x36_10, rfl, HA, HJ10, ⟨mc10, rfl⟩⟩ := hcut
                    cases kq with
                    | zero => exact absurd HA.out (by simp [almanacref01_ReadNumber.j2])
                    | succ kj10 =>
                      have H := HA.out
                      clear HA
                      simp only [almanacref01_ReadNumber.j2] at H
                      by_cases c13 : x36_10 = true
                      · subst c13
                        have H1 : (some (0, 0, 10)) = some (r1, r2, r3) := by rw [if_pos rfl] at H; exact H
                        clear H
                        have H := H1
                        clear H1
                        simp only [Option.some.injEq, Prod.mk.injEq] at H
                        obtain ⟨rfl, rfl, rfl⟩ := H
                        go_wp2
                        go_ret3
                        exact ⟨by first | rfl | (simp; done) | (simp only [← hji7] <;> (first | rfl | simp)) | (simp [*]; done), by repeat (first | exact Drawn0.refl _ | apply Drawn0.step)⟩
                      · replace c13 := Bool.eq_false_iff.mpr c13
                        subst c13
                        have H1 : (if 0 ≤ (wrap64 (7 * x8_2)) then (if (bt a0 (ji7)) < 128 then (if (bt a0 (ji7)) = 0 then (if x8_2 > 0 then (some (0, 0, 10)) else (some (IntKind.u64.wrap (x7_2 + (shl .u64 (IntKind.u64.wrap (Int.tmod (bt a0 (ji7)) 128)) (wrap64 (7 * x8_2)))), wrap64 ((wrap64 (a1 + x8_2)) + 1), 0))) else (some (IntKind.u64.wrap (x7_2 + (shl .u64 (IntKind.u64.wrap (Int.tmod (bt a0 (ji7)) 128)) (wrap64 (7 * x8_2)))), wrap64 ((wrap64 (a1 + x8_2)) + 1), 0))) else (almanacref01_ReadNumber.l0 kj10 a0 a1 (IntKind.u64.wrap (x7_2 + (shl .u64 (IntKind.u64.wrap (Int.tmod (bt a0 (ji7)) 128)) (wrap64 (7 * x8_2))))) (wrap64 (x8_2 + 1)))) else (none)) = some (r1, r2, r3) := by rw [if_neg (show ¬ (false = true) by decide)] at H; exact H
                        clear H
                        have H := H1
                        clear H1
                        obtain ⟨ji14, hji14⟩ : ∃ j_ : Int, (wrap64 (7 * x8_2)) = j_ := ⟨_, rfl⟩
                        replace H : (if 0 ≤ (ji14) then (if (bt a0 (ji7)) < 128 then (if (bt a0 (ji7)) = 0 then (if x8_2 > 0 then (some (0, 0, 10)) else (some (IntKind.u64.wrap (x7_2 + (shl .u64 (IntKind.u64.wrap (Int.tmod (bt a0 (ji7)) 128)) (ji14))), wrap64 ((wrap64 (a1 + x8_2)) + 1), 0))) else (some (IntKind.u64.wrap (x7_2 + (shl .u64 (IntKind.u64.wrap (Int.tmod (bt a0 (ji7)) 128)) (ji14))), wrap64 ((wrap64 (a1 + x8_2)) + 1), 0))) else (almanacref01_ReadNumber.l0 kj10 a0 a1 (IntKind.u64.wrap (x7_2 + (shl .u64 (IntKind.u64.wrap (Int.tmod (bt a0 (ji7)) 128)) (ji14)))) (wrap64 (x8_2 + 1)))) else (none)) = some (r1, r2, r3) := by first | (rw [hji14] at H; exact H) | (simp only [hji14] at H ⊢; exact H)
                        have hji14w : (IntKind.i64.wrap (7 * x8_2)) = ji14 := (i64_w _).trans hji14
                        by_cases c15 : 0 ≤ (ji14)
                        · rw [if_pos c15] at H
                          have c15b0 := eq_true c15
                          have c15b1 : decide (0 ≤ (ji14)) = true := decide_eq_true c15
                          clear c15
                          obtain ⟨ji16, hji16⟩ : ∃ j_ : Int, (shl .u64 (IntKind.u64.wrap (Int.tmod (bt a0 (ji7)) 128)) (ji14)) = j_ := ⟨_, rfl⟩
                          replace H : (if (bt a0 (ji7)) < 128 then (if (bt a0 (ji7)) = 0 then (if x8_2 > 0 then (some (0, 0, 10)) else (some (IntKind.u64.wrap (x7_2 + (ji16)), wrap64 ((wrap64 (a1 + x8_2)) + 1), 0))) else (some (IntKind.u64.wrap (x7_2 + (ji16)), wrap64 ((wrap64 (a1 + x8_2)) + 1), 0))) else (almanacref01_ReadNumber.l0 kj10 a0 a1 (IntKind.u64.wrap (x7_2 + (ji16))) (wrap64 (x8_2 + 1)))) = some (r1, r2, r3) := by first | (rw [hji16] at H; exact H) | (simp only [hji16] at H ⊢; exact H)
                          have hji16_ : (IntKind.u64.wrap ((IntKind.u64.wrap (Int.tmod (bt a0 (ji7)) 128)) * 2 ^ min (ji14).toNat 64)) = ji16 := hji16
                          have hji16z : (ji14) ≤ 64 → (IntKind.u64.wrap ((IntKind.u64.wrap (Int.tmod (bt a0 (ji7)) 128)) * 2 ^ (ji14).toNat)) = ji16 := shl_small hji16
                          by_cases c17 : (bt a0 (ji7)) < 128
                          · rw [if_pos c17] at H
                            have c17b0 : decide ((bt a0 (ji7)) < 128) = true := decide_eq_true c17
                            clear c17
                            by_cases c18 : (bt a0 (ji7)) = 0
                            · rw [if_pos c18] at H
                              have c18b0 : ((bt a0 (ji7)) == 0) = true := beq_iff_eq.mpr c18
                              have c18b1 : ((bt a0 (ji7)) != 0) = false := bne_eq_false_iff_eq.mpr c18
                              clear c18
                              by_cases c19 : x8_2 > 0
                              · rw [if_pos c19] at H
                                have c19b0 : decide (0 < x8_2) = true := decide_eq_true c19
                                clear c19
                                simp only [Option.some.injEq, Prod.mk.injEq] at H
                                obtain ⟨rfl, rfl, rfl⟩ := H
                                go_wp2
                                go_ret3
                                exact ⟨by first | rfl | (simp; done) | (simp only [← hji7, ← hji14, ← hji16] <;> (first | rfl | simp)) | (simp [*]; done), by repeat (first | exact Drawn0.refl _ | apply Drawn0.step)⟩
                              · rw [if_neg c19] at H
                                have c19b0 : decide (0 < x8_2) = false := decide_eq_false c19
                                clear c19
                                simp only [Option.some.injEq, Prod.mk.injEq] at H
                                obtain ⟨rfl, rfl, rfl⟩ := H
                                go_wp2
                                go_ret3
                                exact ⟨by first | rfl | (simp; done) | (simp only [← hji7, ← hji14, ← hji16] <;> (first | rfl | simp)) | (simp [*]; done), by repeat (first | exact Drawn0.refl _ | apply Drawn0.step)⟩
                            · rw [if_neg c18] at H
                              have c18b0 : ((bt a0 (ji7)) == 0) = false := beq_eq_false_iff_ne.mpr c18
                              have c18b1 : ((bt a0 (ji7)) != 0) = true := bne_iff_ne.mpr c18
                              simp only [Option.some.injEq, Prod.mk.injEq] at H
                              obtain ⟨rfl, rfl, rfl⟩ := H
                              go_wp2
                              go_ret3
                              exact ⟨by first | rfl | (simp; done) | (simp only [← hji7, ← hji14, ← hji16] <;> (first | rfl | simp)) | (simp [*]; done), by repeat (first | exact Drawn0.refl _ | apply Drawn0.step)⟩
                          · rw [if_neg c17] at H
                            have c17b0 : decide ((bt a0 (ji7)) < 128) = false := decide_eq_false c17
                            clear c17
                            have H' := Aside0.mk H
                            clear H
                            go_wp2
                            go_roundg kj10
                            case measure => have := HJ2.out; have := HK2.out; have := HJ10.out; omega
                            case rel => exact ⟨(IntKind.u64.wrap (x7_2 + (ji16))), (wrap64 (x8_2 + 1)), (by first | rfl | (simp; done) | (simp only [← hji16] <;> (first | rfl | simp)) | (simp [*]; done)), (by first | rfl | (simp; done) | (simp [*]; done)), H', ⟨by have := HJ2.out; have := HK2.out; have := HJ10.out; omega⟩, by repeat (first | exact Drawn0.refl _ | apply Drawn0.step)⟩
                        · rw [if_neg c15] at H
                          exact absurd H (by simp)
                · rw [if_neg c9] at H
                  exact absurd H (by simp)
              · rw [if_neg c8] at H
                exact absurd H (by simp)

end Go.Proofs.Ythcoiabgemclbaa.PD
-- written by a program of this work (mk.sh, over the kit's print; stubs are proved by hand)
namespace Go.Proofs.Ythcoiabgemclbaa.PD
open Go.RowKit Go.Proofs.YthcoiabgemclbaaW.PrintWords Go.Proofs.YthcoiabgemclbaaW.PrintLast Go.Proofs.YthcoiabgemclbaaW.PrintMore
attribute [local go_sem] isSome_setCell max2_int min2_int max_two min_two max_three min_three max_four min_four   -- for this text's walks alone
set_option linter.unusedVariables false
set_option linter.unusedSimpArgs false

/-! ### almanacref01_ReadText: function 39 -/
def almanacref01_ReadText.f (k : Nat) (a0 : ByteArray) (a1 : Int) : Option (ByteArray × Int × Int) := (almanacref01_ReadNumber.f k a0 a1).bind fun bt416 => (if bt416.2.2 = 0 then (if bt416.1 > (IntKind.u64.wrap (wrap64 ((a0.size : Int) - bt416.2.1))) then (some ((⟨#[]⟩ : ByteArray), 0, 11)) else (if 0 ≤ bt416.2.1 then (if bt416.2.1 ≤ (wrap64 (bt416.2.1 + (wrap64 (bt416.1)))) then (if (wrap64 (bt416.2.1 + (wrap64 (bt416.1)))) ≤ (a0.size : Int) then (some (a0.extract (bt416.2.1 : Int).toNat ((wrap64 (bt416.2.1 + (wrap64 (bt416.1)))) : Int).toNat, wrap64 (bt416.2.1 + (wrap64 (bt416.1))), 0)) else (none)) else (none)) else (none))) else (some ((⟨#[]⟩ : ByteArray), 0, bt416.2.2)))
theorem almanacref01_ReadText.mono : ∀ a0 a1 k, LeO (almanacref01_ReadText.f k a0 a1) (almanacref01_ReadText.f (k + 1) a0 a1) := by
  intro a0 a1 k
  unfold almanacref01_ReadText.f
  repeat' first
      | (with_reducible exact almanacref01_ReadNumber.mono _ _ _)
      | (with_reducible exact LeO.refl _)
      | (with_reducible exact LeO.none _)
      | (with_reducible refine LeO.ite ?_ ?_)
      | (with_reducible refine LeO.bind ?_ (fun _ => ?_))
      | exact almanacref01_ReadNumber.mono _ _ _
      | exact LeO.none _
      | refine LeO.ite ?_ ?_
      | refine LeO.bind ?_ (fun _ => ?_)
set_option maxHeartbeats 8000000 in
set_option maxRecDepth 100000 in
theorem almanacref01_ReadText.calls (k : Nat) (a0 : ByteArray) (a1 : Int) (r1 : ByteArray) (r2 : Int) (r3 : Int) (w : World) (h : almanacref01_ReadText.f k a0 a1 = some (r1, r2, r3)) :
    Calls Try.prog 39 #[.string a0, .int .i64 a1] w fun e w' => e = .returned (.tuple #[.string r1, .int .i64 r2, .int .i64 r3]) ∧ Drawn0 w w' := by
  have H : ((almanacref01_ReadNumber.f k a0 a1).bind fun bt416 => (if bt416.2.2 = 0 then (if bt416.1 > (IntKind.u64.wrap (wrap64 ((a0.size : Int) - bt416.2.1))) then (some ((⟨#[]⟩ : ByteArray), 0, 11)) else (if 0 ≤ bt416.2.1 then (if bt416.2.1 ≤ (wrap64 (bt416.2.1 + (wrap64 (bt416.1)))) then (if (wrap64 (bt416.2.1 + (wrap64 (bt416.1)))) ≤ (a0.size : Int) then (some (a0.extract (bt416.2.1 : Int).toNat ((wrap64 (bt416.2.1 + (wrap64 (bt416.1)))) : Int).toNat, wrap64 (bt416.2.1 + (wrap64 (bt416.1))), 0)) else (none)) else (none)) else (none))) else (some ((⟨#[]⟩ : ByteArray), 0, bt416.2.2)))) = some (r1, r2, r3) := h
  clear h
  replace H := Option.bind_eq_some_iff.mp H
  obtain ⟨⟨t416, t417, t418⟩, A30, H⟩ := H
  replace H : (if t418 = 0 then (if t416 > (IntKind.u64.wrap (wrap64 ((a0.size : Int) - t417))) then (some ((⟨#[]⟩ : ByteArray), 0, 11)) else (if 0 ≤ t417 then (if t417 ≤ (wrap64 (t417 + (wrap64 (t416)))) then (if (wrap64 (t417 + (wrap64 (t416)))) ≤ (a0.size : Int) then (some (a0.extract (t417 : Int).toNat ((wrap64 (t417 + (wrap64 (t416)))) : Int).toNat, wrap64 (t417 + (wrap64 (t416))), 0)) else (none)) else (none)) else (none))) else (some ((⟨#[]⟩ : ByteArray), 0, t418))) = some (r1, r2, r3) := H
  have A3 := Aside0.mk A30
  clear A30
  by_cases c4 : t418 = 0
  · rw [if_pos c4] at H
    have c4b0 : (t418 == 0) = true := beq_iff_eq.mpr c4
    have c4b1 : (t418 != 0) = false := bne_eq_false_iff_eq.mpr c4
    clear c4
    by_cases c5 : t416 > (IntKind.u64.wrap (wrap64 ((a0.size : Int) - t417)))
    · rw [if_pos c5] at H
      have c5b0 : decide ((IntKind.u64.wrap (wrap64 ((a0.size : Int) - t417))) < t416) = true := decide_eq_true c5
      clear c5
      simp only [Option.some.injEq, Prod.mk.injEq] at H
      obtain ⟨rfl, rfl, rfl⟩ := H
      go_enter Try.func39, Try.ntmps39
      go_wp2_with (first | ((with_reducible refine gate_callee (f := 38) rfl ?_); refine goesL_ (some 13) rfl rfl Try.func38 (by kernel_rfl) rfl #[.string a0, .int .i64 a1] rfl (by (try simp only [List.map_toArray, List.map_cons, List.map_nil]); first | done | rfl | (simp only [List.length_drop, List.length_take]; rfl)) ?_; (with_reducible refine (almanacref01_ReadNumber.calls k a0 a1 t416 t417 t418 _ A3.out).mono ?_); rintro e w' ⟨rfl, ⟨nd, rfl⟩⟩; refine ⟨_, rfl, ?_⟩))
      go_ret3
      exact ⟨by first | rfl | (simp; done) | (simp [*]; done), by repeat (first | exact Drawn0.refl _ | apply Drawn0.step)⟩
    · rw [if_neg c5] at H
      have c5b0 : decide ((IntKind.u64.wrap (wrap64 ((a0.size : Int) - t417))) < t416) = false := decide_eq_false c5
      clear c5
      by_cases c6 : 0 ≤ t417
      · rw [if_pos c6] at H
        have c6b0 := eq_true c6
        have c6b1 : decide (0 ≤ t417) = true := decide_eq_true c6
        clear c6
        by_cases c7 : t417 ≤ (wrap64 (t417 + (wrap64 (t416))))
        · rw [if_pos c7] at H
          have c7b0 := eq_true c7
          have c7b1 : decide (t417 ≤ (wrap64 (t417 + (wrap64 (t416))))) = true := decide_eq_true c7
          by_cases c8 : (wrap64 (t417 + (wrap64 (t416)))) ≤ (a0.size : Int)
          · rw [if_pos c8] at H
            have c8b0 := eq_true c8
            have c8b1 : decide ((wrap64 (t417 + (wrap64 (t416)))) ≤ (a0.size : Int)) = true := decide_eq_true c8
            simp only [Option.some.injEq, Prod.mk.injEq] at H
            obtain ⟨rfl, rfl, rfl⟩ := H
            go_enter Try.func39, Try.ntmps39
            go_wp2_with (first | ((with_reducible refine gate_callee (f := 38) rfl ?_); refine goesL_ (some 13) rfl rfl Try.func38 (by kernel_rfl) rfl #[.string a0, .int .i64 a1] rfl (by (try simp only [List.map_toArray, List.map_cons, List.map_nil]); first | done | rfl | (simp only [List.length_drop, List.length_take]; rfl)) ?_; (with_reducible refine (almanacref01_ReadNumber.calls k a0 a1 t416 t417 t418 _ A3.out).mono ?_); rintro e w' ⟨rfl, ⟨nd, rfl⟩⟩; refine ⟨_, rfl, ?_⟩))
            go_ret3
            exact ⟨by first | rfl | (simp; done) | (simp [*]; done), by repeat (first | exact Drawn0.refl _ | apply Drawn0.step)⟩
          · rw [if_neg c8] at H
            exact absurd H (by simp)
        · rw [if_neg c7] at H
          exact absurd H (by simp)
      · rw [if_neg c6] at H
        exact absurd H (by simp)
  · rw [if_neg c4] at H
    have c4b0 : (t418 == 0) = false := beq_eq_false_iff_ne.mpr c4
    have c4b1 : (t418 != 0) = true := bne_iff_ne.mpr c4
    simp only [Option.some.injEq, Prod.mk.injEq] at H
    obtain ⟨rfl, rfl, rfl⟩ := H
    go_enter Try.func39, Try.ntmps39
    go_wp2_with (first | ((with_reducible refine gate_callee (f := 38) rfl ?_); refine goesL_ (some 13) rfl rfl Try.func38 (by kernel_rfl) rfl #[.string a0, .int .i64 a1] rfl (by (try simp only [List.map_toArray, List.map_cons, List.map_nil]); first | done | rfl | (simp only [List.length_drop, List.length_take]; rfl)) ?_; (with_reducible refine (almanacref01_ReadNumber.calls k a0 a1 t416 t417 t418 _ A3.out).mono ?_); rintro e w' ⟨rfl, ⟨nd, rfl⟩⟩; refine ⟨_, rfl, ?_⟩))
    go_ret3
    exact ⟨by first | rfl | (simp; done) | (simp [*]; done), by repeat (first | exact Drawn0.refl _ | apply Drawn0.step)⟩

end Go.Proofs.Ythcoiabgemclbaa.PD
-- written by a program of this work (mk.sh, over the kit's print; stubs are proved by hand)
namespace Go.Proofs.Ythcoiabgemclbaa.PD
open Go.RowKit Go.Proofs.YthcoiabgemclbaaW.PrintWords Go.Proofs.YthcoiabgemclbaaW.PrintLast Go.Proofs.YthcoiabgemclbaaW.PrintMore
attribute [local go_sem] isSome_setCell max2_int min2_int max_two min_two max_three min_three max_four min_four   -- for this text's walks alone
set_option linter.unusedVariables false
set_option linter.unusedSimpArgs false

/-! ### almanacref01_ReadSigned: function 40 -/
def almanacref01_ReadSigned.f (k : Nat) (a0 : ByteArray) (a1 : Int) : Option (Int × Int × Int) := (almanacref01_ReadNumber.f k a0 a1).bind fun bt419 => (if bt419.2.2 = 0 then (if (Int.tmod bt419.1 2) = 1 then (some (wrap64 ((wrap64 (-(wrap64 (bt419.1 / 2)))) - 1), bt419.2.1, 0)) else (some (wrap64 (bt419.1 / 2), bt419.2.1, 0))) else (some (0, 0, bt419.2.2)))
theorem almanacref01_ReadSigned.mono : ∀ a0 a1 k, LeO (almanacref01_ReadSigned.f k a0 a1) (almanacref01_ReadSigned.f (k + 1) a0 a1) := by
  intro a0 a1 k
  unfold almanacref01_ReadSigned.f
  repeat' first
      | (with_reducible exact almanacref01_ReadNumber.mono _ _ _)
      | (with_reducible exact LeO.refl _)
      | (with_reducible exact LeO.none _)
      | (with_reducible refine LeO.ite ?_ ?_)
      | (with_reducible refine LeO.bind ?_ (fun _ => ?_))
      | exact almanacref01_ReadNumber.mono _ _ _
      | exact LeO.none _
      | refine LeO.ite ?_ ?_
      | refine LeO.bind ?_ (fun _ => ?_)
set_option maxHeartbeats 8000000 in
set_option maxRecDepth 100000 in
theorem almanacref01_ReadSigned.calls (k : Nat) (a0 : ByteArray) (a1 : Int) (r1 : Int) (r2 : Int) (r3 : Int) (w : World) (h : almanacref01_ReadSigned.f k a0 a1 = some (r1, r2, r3)) :
    Calls Try.prog 40 #[.string a0, .int .i64 a1] w fun e w' => e = .returned (.tuple #[.int .i64 r1, .int .i64 r2, .int .i64 r3]) ∧ Drawn0 w w' := by
  have H : ((almanacref01_ReadNumber.f k a0 a1).bind fun bt419 => (if bt419.2.2 = 0 then (if (Int.tmod bt419.1 2) = 1 then (some (wrap64 ((wrap64 (-(wrap64 (bt419.1 / 2)))) - 1), bt419.2.1, 0)) else (some (wrap64 (bt419.1 / 2), bt419.2.1, 0))) else (some (0, 0, bt419.2.2)))) = some (r1, r2, r3) := h
  clear h
  replace H := Option.bind_eq_some_iff.mp H
  obtain ⟨⟨t419, t420, t421⟩, A30, H⟩ := H
  replace H : (if t421 = 0 then (if (Int.tmod t419 2) = 1 then (some (wrap64 ((wrap64 (-(wrap64 (t419 / 2)))) - 1), t420, 0)) else (some (wrap64 (t419 / 2), t420, 0))) else (some (0, 0, t421))) = some (r1, r2, r3) := H
  have A3 := Aside0.mk A30
  clear A30
  by_cases c4 : t421 = 0
  · rw [if_pos c4] at H
    have c4b0 : (t421 == 0) = true := beq_iff_eq.mpr c4
    have c4b1 : (t421 != 0) = false := bne_eq_false_iff_eq.mpr c4
    clear c4
    by_cases c5 : (Int.tmod t419 2) = 1
    · rw [if_pos c5] at H
      have c5b0 : ((Int.tmod t419 2) == 1) = true := beq_iff_eq.mpr c5
      have c5b1 : ((Int.tmod t419 2) != 1) = false := bne_eq_false_iff_eq.mpr c5
      clear c5
      simp only [Option.some.injEq, Prod.mk.injEq] at H
      obtain ⟨rfl, rfl, rfl⟩ := H
      go_enter Try.func40, Try.ntmps40
      go_wp2_with (first | ((with_reducible refine gate_callee (f := 38) rfl ?_); refine goesL_ (some 13) rfl rfl Try.func38 (by kernel_rfl) rfl #[.string a0, .int .i64 a1] rfl (by (try simp only [List.map_toArray, List.map_cons, List.map_nil]); first | done | rfl | (simp only [List.length_drop, List.length_take]; rfl)) ?_; (with_reducible refine (almanacref01_ReadNumber.calls k a0 a1 t419 t420 t421 _ A3.out).mono ?_); rintro e w' ⟨rfl, ⟨nd, rfl⟩⟩; refine ⟨_, rfl, ?_⟩))
      go_ret3
      exact ⟨by first | rfl | (simp; done) | (simp [*]; done), by repeat (first | exact Drawn0.refl _ | apply Drawn0.step)⟩
    · rw [if_neg c5] at H
      have c5b0 : ((Int.tmod t419 2) == 1) = false := beq_eq_false_iff_ne.mpr c5
      have c5b1 : ((Int.tmod t419 2) != 1) = true := bne_iff_ne.mpr c5
      simp only [Option.some.injEq, Prod.mk.injEq] at H
      obtain ⟨rfl, rfl, rfl⟩ := H
      go_enter Try.func40, Try.ntmps40
      go_wp2_with (first | ((with_reducible refine gate_callee (f := 38) rfl ?_); refine goesL_ (some 13) rfl rfl Try.func38 (by kernel_rfl) rfl #[.string a0, .int .i64 a1] rfl (by (try simp only [List.map_toArray, List.map_cons, List.map_nil]); first | done | rfl | (simp only [List.length_drop, List.length_take]; rfl)) ?_; (with_reducible refine (almanacref01_ReadNumber.calls k a0 a1 t419 t420 t421 _ A3.out).mono ?_); rintro e w' ⟨rfl, ⟨nd, rfl⟩⟩; refine ⟨_, rfl, ?_⟩))
      go_ret3
      exact ⟨by first | rfl | (simp; done) | (simp [*]; done), by repeat (first | exact Drawn0.refl _ | apply Drawn0.step)⟩
  · rw [if_neg c4] at H
    have c4b0 : (t421 == 0) = false := beq_eq_false_iff_ne.mpr c4
    have c4b1 : (t421 != 0) = true := bne_iff_ne.mpr c4
    simp only [Option.some.injEq, Prod.mk.injEq] at H
    obtain ⟨rfl, rfl, rfl⟩ := H
    go_enter Try.func40, Try.ntmps40
    go_wp2_with (first | ((with_reducible refine gate_callee (f := 38) rfl ?_); refine goesL_ (some 13) rfl rfl Try.func38 (by kernel_rfl) rfl #[.string a0, .int .i64 a1] rfl (by (try simp only [List.map_toArray, List.map_cons, List.map_nil]); first | done | rfl | (simp only [List.length_drop, List.length_take]; rfl)) ?_; (with_reducible refine (almanacref01_ReadNumber.calls k a0 a1 t419 t420 t421 _ A3.out).mono ?_); rintro e w' ⟨rfl, ⟨nd, rfl⟩⟩; refine ⟨_, rfl, ?_⟩))
    go_ret3
    exact ⟨by first | rfl | (simp; done) | (simp [*]; done), by repeat (first | exact Drawn0.refl _ | apply Drawn0.step)⟩

end Go.Proofs.Ythcoiabgemclbaa.PD
-- written by a program of this work (mk.sh, over the kit's print; stubs are proved by hand)
namespace Go.Proofs.Ythcoiabgemclbaa.PD
open Go.RowKit Go.Proofs.YthcoiabgemclbaaW.PrintWords Go.Proofs.YthcoiabgemclbaaW.PrintLast Go.Proofs.YthcoiabgemclbaaW.PrintMore
attribute [local go_sem] isSome_setCell max2_int min2_int max_two min_two max_three min_three max_four min_four   -- for this text's walks alone
set_option linter.unusedVariables false
set_option linter.unusedSimpArgs false

/-! ### almanacref19_Read: function 20 -/
mutual
def almanacref19_Read.l0 : Nat → ByteArray → Int → Int → List (S25) → Int → Option ((List (S25)) × Int)
  | 0, _, _, _, _, _ => none
  | k + 1, x0, x4, x5, x7, x8 => if x8 < x4 then ((almanacref01_ReadText.f k x0 x5).bind fun bt426 => (if bt426.2.2 = 0 then ((almanacref01_ReadSigned.f k x0 bt426.2.1).bind fun bt429 => (almanacref19_Read.j1 k x0 x4 bt429.2.1 bt429.2.2 x7 x8 bt426.1 bt429.1 0)) else (almanacref19_Read.j1 k x0 x4 bt426.2.1 bt426.2.2 x7 x8 bt426.1 0 0))) else (if x5 < (x0.size : Int) then (some (([] : List (S25)), 10)) else ((almanacref19_Fit.f k x7).bind fun t438 => (if t438 = true then (some (x7, 0)) else (some (([] : List (S25)), 14)))))
def almanacref19_Read.j1 : Nat → ByteArray → Int → Int → Int → List (S25) → Int → ByteArray → Int → Int → Option ((List (S25)) × Int)
  | 0, _, _, _, _, _, _, _, _, _ => none
  | k + 1, x0, x4, x5, x6, x7, x8, x426000, x426001, x426002 => if x6 = 0 then ((almanacref01_ReadNumber.f k x0 x5).bind fun bt432 => (if bt432.2.2 = 0 then (if x7.length < 4398046511104 then (almanacref19_Read.l0 k x0 x4 bt432.2.1 (x7 ++ [(⟨x426000, x426001, wrap64 (IntKind.u64.wrap ((IntKind.u64.wrap (x426001)) + bt432.1))⟩ : S25)]) (IntKind.u64.wrap (x8 + 1))) else (none)) else (some (([] : List (S25)), bt432.2.2)))) else (some (([] : List (S25)), x6))
end
def almanacref19_Read.f (k : Nat) (a0 : ByteArray) : Option ((List (S25)) × Int) := (almanacref01_ReadNumber.f k a0 0).bind fun bt422 => (if bt422.2.2 = 0 then (almanacref19_Read.l0 k a0 bt422.1 bt422.2.1 ([] : List (S25)) 0) else (some (([] : List (S25)), bt422.2.2)))
theorem almanacref19_Read.mono_l : ∀ k, (∀ y0 y1 y2 y3 y4, LeO (almanacref19_Read.l0 k y0 y1 y2 y3 y4) (almanacref19_Read.l0 (k + 1) y0 y1 y2 y3 y4)) ∧ (∀ y0 y1 y2 y3 y4 y5 y6 y7 y8, LeO (almanacref19_Read.j1 k y0 y1 y2 y3 y4 y5 y6 y7 y8) (almanacref19_Read.j1 (k + 1) y0 y1 y2 y3 y4 y5 y6 y7 y8))
  | 0 => ⟨fun _ _ _ _ _ r h => by simp [almanacref19_Read.l0] at h, fun _ _ _ _ _ _ _ _ _ r h => by simp [almanacref19_Read.j1] at h⟩
  | k + 1 => by
    obtain ⟨ih0, ih1⟩ := almanacref19_Read.mono_l k
    refine ⟨?_, ?_⟩
    · intro y0 y1 y2 y3 y4
      unfold almanacref19_Read.l0
      repeat' first
      | (with_reducible exact ih0 _ _ _ _ _)
      | (with_reducible exact ih1 _ _ _ _ _ _ _ _ _)
      | (with_reducible exact almanacref01_ReadNumber.mono _ _ _)
      | (with_reducible exact almanacref01_ReadSigned.mono _ _ _)
      | (with_reducible exact almanacref01_ReadText.mono _ _ _)
      | (with_reducible exact almanacref19_Fit.mono _ _)
      | (with_reducible exact LeO.refl _)
      | (with_reducible exact LeO.none _)
      | (with_reducible refine LeO.ite ?_ ?_)
      | (with_reducible refine LeO.bind ?_ (fun _ => ?_))
      | exact ih0 _ _ _ _ _
      | exact ih1 _ _ _ _ _ _ _ _ _
      | exact almanacref01_ReadNumber.mono _ _ _
      | exact almanacref01_ReadSigned.mono _ _ _
      | exact almanacref01_ReadText.mono _ _ _
      | exact almanacref19_Fit.mono _ _
      | exact LeO.none _
      | refine LeO.ite ?_ ?_
      | refine LeO.bind ?_ (fun _ => ?_)
    · intro y0 y1 y2 y3 y4 y5 y6 y7 y8
      unfold almanacref19_Read.j1
      repeat' first
      | (with_reducible exact ih0 _ _ _ _ _)
      | (with_reducible exact ih1 _ _ _ _ _ _ _ _ _)
      | (with_reducible exact almanacref01_ReadNumber.mono _ _ _)
      | (with_reducible exact almanacref01_ReadSigned.mono _ _ _)
      | (with_reducible exact almanacref01_ReadText.mono _ _ _)
      | (with_reducible exact almanacref19_Fit.mono _ _)
      | (with_reducible exact LeO.refl _)
      | (with_reducible exact LeO.none _)
      | (with_reducible refine LeO.ite ?_ ?_)
      | (with_reducible refine LeO.bind ?_ (fun _ => ?_))
      | exact ih0 _ _ _ _ _
      | exact ih1 _ _ _ _ _ _ _ _ _
      | exact almanacref01_ReadNumber.mono _ _ _
      | exact almanacref01_ReadSigned.mono _ _ _
      | exact almanacref01_ReadText.mono _ _ _
      | exact almanacref19_Fit.mono _ _
      | exact LeO.none _
      | refine LeO.ite ?_ ?_
      | refine LeO.bind ?_ (fun _ => ?_)
theorem almanacref19_Read.mono : ∀ a0 k, LeO (almanacref19_Read.f k a0) (almanacref19_Read.f (k + 1) a0) := by
  intro a0 k
  obtain ⟨ih0, ih1⟩ := almanacref19_Read.mono_l k
  unfold almanacref19_Read.f
  repeat' first
      | (with_reducible exact ih0 _ _ _ _ _)
      | (with_reducible exact ih1 _ _ _ _ _ _ _ _ _)
      | (with_reducible exact almanacref01_ReadNumber.mono _ _ _)
      | (with_reducible exact almanacref01_ReadSigned.mono _ _ _)
      | (with_reducible exact almanacref01_ReadText.mono _ _ _)
      | (with_reducible exact almanacref19_Fit.mono _ _)
      | (with_reducible exact LeO.refl _)
      | (with_reducible exact LeO.none _)
      | (with_reducible refine LeO.ite ?_ ?_)
      | (with_reducible refine LeO.bind ?_ (fun _ => ?_))
      | exact ih0 _ _ _ _ _
      | exact ih1 _ _ _ _ _ _ _ _ _
      | exact almanacref01_ReadNumber.mono _ _ _
      | exact almanacref01_ReadSigned.mono _ _ _
      | exact almanacref01_ReadText.mono _ _ _
      | exact almanacref19_Fit.mono _ _
      | exact LeO.none _
      | refine LeO.ite ?_ ?_
      | refine LeO.bind ?_ (fun _ => ?_)
set_option maxHeartbeats 8000000 in
set_option maxRecDepth 100000 in
theorem almanacref19_Read.calls (k : Nat) (a0 : ByteArray) (r1 : List (S25)) (r2 : Int) (w : World) (h : almanacref19_Read.f k a0 = some (r1, r2)) :
    Calls Try.prog 20 #[.string a0] w fun e w' => ∃ v0_ : Value, e = .returned (.tuple #[v0_, .int .i64 r2]) ∧ Kd.R k25 25 w' w.heap.size (fun _ => True) v0_ r1 ∧ Below w.heap.size w w' := by
  have hu25 := Try.underlying25
  have HB := Aside0.mk (Below.refl w.heap.size w)
  have H : ((almanacref01_ReadNumber.f k a0 0).bind fun bt422 => (if bt422.2.2 = 0 then (almanacref19_Read.l0 k a0 bt422.1 bt422.2.1 ([] : List (S25)) 0) else (some (([] : List (S25)), bt422.2.2)))) = some (r1, r2) := h
  clear h
  replace H := Option.bind_eq_some_iff.mp H
  obtain ⟨⟨t422, t423, t424⟩, A20, H⟩ := H
  replace H : (if t424 = 0 then (almanacref19_Read.l0 k a0 t422 t423 ([] : List (S25)) 0) else (some (([] : List (S25)), t424))) = some (r1, r2) := H
  have A2 := Aside0.mk A20
  clear A20
  by_cases c3 : t424 = 0
  · rw [if_pos c3] at H
    have c3b0 : (t424 == 0) = true := beq_iff_eq.mpr c3
    have c3b1 : (t424 != 0) = false := bne_eq_false_iff_eq.mpr c3
    clear c3
    have H' := Aside0.mk H
    clear H
    go_enter Try.func20, Try.ntmps20
    go_wp2_with (first | ((with_reducible refine gate_callee (f := 38) rfl ?_); refine goesL_ (some 13) rfl rfl Try.func38 (by kernel_rfl) rfl #[.string a0, .int .i64 0] rfl (by (try simp only [List.map_toArray, List.map_cons, List.map_nil]); first | done | rfl | (simp only [List.length_drop, List.length_take]; rfl)) ?_; (with_reducible refine (almanacref01_ReadNumber.calls k a0 0 t422 t423 t424 _ A2.out).mono ?_); rintro e w' ⟨rfl, ⟨nd, rfl⟩⟩; refine ⟨_, rfl, ?_⟩))
    go_loopg [5, 7, 8] k (fun kq v5 v7 v8 w' => ∃ (x5_1 : Int) (x7_1 : List (S25)) (x8_1 : Int), v5 = .int .i64 x5_1 ∧ v8 = .int .u64 x8_1 ∧ Aside0 (almanacref19_Read.l0 kq a0 t422 x5_1 x7_1 x8_1 = some (r1, r2)) ∧ Aside0 (kq ≤ k) ∧ Aside0 (Kd.R k25 25 w' w.heap.size (fun _ => True) v7 x7_1) ∧ Aside0 (Below w.heap.size w w'))
    case atStart => exact ⟨(t423), (([] : List (S25))), (0), (by first | rfl | (simp; done) | (simp [*]; done)), (by first | rfl | (simp; done) | (simp [*]; done)), H', ⟨Nat.le_refl _⟩, ⟨by first | exact Kd.R_nil _ _ _ _ _ | exact Kd.N_nil _ _ _ _ _ | exact Kd.V_nil _ _ _ _ _ | exact Kd.Q_nil _ _ _ _ _ | exact Kd.S_nil _ _ _ _ _⟩, ⟨by repeat (first | (with_reducible first | exact HB.out | apply below_alloc | apply pw_below_drewN | apply below_drew1) | exact HB.out)⟩⟩
    case round =>
      clear H'
      try clear c2
      try clear p2
      try clear c3
      try clear c3b0
      try clear c3b1
      obtain ⟨x5_1, x7_1, x8_1, rfl, rfl, HA, HK1, HO_7, HB⟩ := hrel
      cases gk with
      | zero => exact absurd HA.out (by simp [almanacref19_Read.l0])
      | succ k1 =>
        have H := HA.out
        clear HA
        simp only [almanacref19_Read.l0] at H
        by_cases c4 : x8_1 < t422
        · rw [if_pos c4] at H
          have c4b0 : decide (x8_1 < t422) = true := decide_eq_true c4
          clear c4
          replace H := Option.bind_eq_some_iff.mp H
          obtain ⟨⟨t426, t427, t428⟩, A50, H⟩ := H
          replace H : (if t428 = 0 then ((almanacref01_ReadSigned.f k1 a0 t427).bind fun bt429 => (almanacref19_Read.j1 k1 a0 t422 bt429.2.1 bt429.2.2 x7_1 x8_1 t426 bt429.1 0)) else (almanacref19_Read.j1 k1 a0 t422 t427 t428 x7_1 x8_1 t426 0 0)) = some (r1, r2) := H
          have A5 := Aside0.mk A50
          clear A50
          have HC6 := Aside0.mk H
          clear H
          go_upto_if 35 with (first | ((with_reducible refine gate_dst (N := 9) rfl ?_); refine box_event ?hg (N := 9) ?hd (cs := #[.string (⟨#[]⟩ : ByteArray), .int .i64 0, .int .i64 0]) (t := 25) ?hr ?_; (case hd => rfl); (case hg => rfl); (case hr => first | (go_simp; done) | (go_simp; rfl)); intro gb425 hg w7 hbox hb; have n0_ := Aside0.mk (Kd.R_below (Kd.R_elderB (by (with_reducible repeat (first | apply Kd.R_alloc | apply Kd.R_drewN | apply Kd.R_drew)); exact HO_7.out) gb425 (Nat.le_of_eq hg.symm)) hb); have n1_ := Aside0.mk (below_step (by repeat (first | (with_reducible first | exact HB.out | apply below_alloc | apply pw_below_drewN | apply below_drew1) | exact HB.out)) hb); have n2_ := Aside0.mk (hbox); have n3_ := Aside0.mk ((by rw [hg]; exact (below_size (by repeat (first | (with_reducible first | exact HB.out | apply below_alloc | apply pw_below_drewN | apply below_drew1) | exact HB.out))) : w.heap.size ≤ gb425)); have n4_ := Aside0.mk ((by rw [hg]; exact (below_size (by repeat (first | (with_reducible first | exact HB.out | apply below_alloc | apply pw_below_drewN | apply below_drew1) | exact HB.out))) : w.heap.size ≤ gb425)); clear HO_7; clear HB; have HO_7 := n0_; have HB := n1_; have BK425 := n2_; have GW425 := n3_; have GE425 := n4_; clear n0_ n1_ n2_ n3_ n4_; clear hb hbox hg; have hcz8_0 : w7.cell? ⟨gb425, 0, none⟩ = some (.string (⟨#[]⟩ : ByteArray)) := (blk_cell BK425.out 0).trans rfl; have hcz8_1 : w7.cell? ⟨gb425, 1, none⟩ = some (.int .i64 0) := (blk_cell BK425.out 1).trans rfl; have hcz8_2 : w7.cell? ⟨gb425, 2, none⟩ = some (.int .i64 0) := (blk_cell BK425.out 2).trans rfl; have hfz8_0 := blk_frozen BK425.out 0; have hfz8_1 := blk_frozen BK425.out 1; have hfz8_2 := blk_frozen BK425.out 2) | ((with_reducible refine gate_callee (f := 39) rfl ?_); refine goesL_ (some 29) rfl rfl Try.func39 (by kernel_rfl) rfl #[.string a0, .int .i64 x5_1] rfl (by (try simp only [List.map_toArray, List.map_cons, List.map_nil]); first | done | rfl | (simp only [List.length_drop, List.length_take]; rfl)) ?_; (with_reducible refine (almanacref01_ReadText.calls k1 a0 x5_1 t426 t427 t428 _ A5.out).mono ?_); rintro e w' ⟨rfl, ⟨nd, rfl⟩⟩; refine ⟨_, rfl, ?_⟩))
          (try simp only [Act.put, List.setIfInBounds_toArray, List.set_cons_zero, List.set_cons_succ])
          go_cut [5, 6] (fun v5 v6 wc => ∃ (kq : Nat) (x5_5 : Int) (x6_5 : Int) (x426001_5 : Int), v5 = .int .i64 x5_5 ∧ v6 = .int .i64 x6_5 ∧ Aside0 (almanacref19_Read.j1 kq a0 t422 x5_5 x6_5 x7_1 x8_1 t426 x426001_5 0 = some (r1, r2)) ∧ Aside0 (kq ≤ k1) ∧ Aside0 (Kd.R k25 25 wc w.heap.size (fun k_ => k_ ≠ gb425) u7 x7_1) ∧ Aside0 (wc.heap[gb425]? = some (.cells #[.string t426, .int .i64 x426001_5, .int .i64 0] 25 (0, 0))) ∧ Aside0 (Below w.heap.size w wc))
          case first =>
            have H := HC6.out
            clear HC6
            by_cases c9 : t428 = 0
            · rw [if_pos c9] at H
              have c9b0 : (t428 == 0) = true := beq_iff_eq.mpr c9
              have c9b1 : (t428 != 0) = false := bne_eq_false_iff_eq.mpr c9
              clear c9
              (first | rw [c9b0] | (simp only [i64_w, i32_w]; rw [c9b0]) | skip)
              replace H := Option.bind_eq_some_iff.mp H
              obtain ⟨⟨t429, t430, t431⟩, A100, H⟩ := H
              replace H : (almanacref19_Read.j1 k1 a0 t422 t430 t431 x7_1 x8_1 t426 t429 0) = some (r1, r2) := H
              have A10 := Aside0.mk A100
              clear A100
              have H' := Aside0.mk H
              clear H
              go_wp2_with (first | ((with_reducible refine gate_callee (f := 40) rfl ?_); refine goesL_ (some 39) rfl rfl Try.func40 (by kernel_rfl) rfl #[.string a0, .int .i64 t427] rfl (by (try simp only [List.map_toArray, List.map_cons, List.map_nil]); first | done | rfl | (simp only [List.length_drop, List.length_take]; rfl)) ?_; (with_reducible refine (almanacref01_ReadSigned.calls k1 a0 t427 t429 t430 t431 _ A10.out).mono ?_); rintro e w' ⟨rfl, ⟨nd, rfl⟩⟩; refine ⟨_, rfl, ?_⟩; have hcz11_0 : w7.cell? ⟨gb425, 0, none⟩ = some (.string (⟨#[]⟩ : ByteArray)) := (blk_cell BK425.out 0).trans rfl; have hcz11_1 : w7.cell? ⟨gb425, 1, none⟩ = some (.int .i64 0) := (blk_cell BK425.out 1).trans rfl; have hcz11_2 : w7.cell? ⟨gb425, 2, none⟩ = some (.int .i64 0) := (blk_cell BK425.out 2).trans rfl; have hfz11_0 := blk_frozen BK425.out 0; have hfz11_1 := blk_frozen BK425.out 1; have hfz11_2 := blk_frozen BK425.out 2))
              go_meet
              case rel => exact ⟨_, (t430), (t431), (t429), (by first | rfl | (simp; done) | (simp [*]; done)), (by first | rfl | (simp; done) | (simp [*]; done)), H', ⟨by have := HK1.out; first | omega | exact Nat.le_refl _⟩, ⟨by (with_reducible repeat (first | apply Kd.R_alloc | apply Kd.R_drewN | apply Kd.R_drew)); exact Kd.R_mono (Kd.R_far (p := ⟨gb425, 1, none⟩) (Kd.R_far (p := ⟨gb425, 0, none⟩) (Kd.R_far (p := ⟨gb425, 2, none⟩) (Kd.R_far (p := ⟨gb425, 1, none⟩) (Kd.R_far (p := ⟨gb425, 0, none⟩) (Kd.R_mono HO_7.out (fun k_ hk => (⟨hk, hk.2⟩ : _ ∧ k_ ≠ gb425))) (fun _ hk => hk.2) (.string (⟨#[]⟩ : ByteArray))) (fun _ hk => hk.2) (.int .i64 0)) (fun _ hk => hk.2) (.int .i64 0)) (fun _ hk => hk.2) (.string t426)) (fun _ hk => hk.2) (.int .i64 t429)) (fun _ hk => hk.1.2)⟩, ⟨by (with_reducible repeat (first | refine blk_drewN ?_ _ | refine blk_drew ?_ | refine blk_alloc ?_ _)); refine blk_put (cs := #[.string t426, .int .i64 0, .int .i64 0]) ?_ 1 _ rfl; (with_reducible repeat (first | refine blk_drewN ?_ _ | refine blk_drew ?_ | refine blk_alloc ?_ _)); refine blk_put (cs := #[.string (⟨#[]⟩ : ByteArray), .int .i64 0, .int .i64 0]) ?_ 0 _ rfl; (with_reducible repeat (first | refine blk_drewN ?_ _ | refine blk_drew ?_ | refine blk_alloc ?_ _)); refine blk_put (cs := #[.string (⟨#[]⟩ : ByteArray), .int .i64 0, .int .i64 0]) ?_ 2 _ rfl; (with_reducible repeat (first | refine blk_drewN ?_ _ | refine blk_drew ?_ | refine blk_alloc ?_ _)); refine blk_put (cs := #[.string (⟨#[]⟩ : ByteArray), .int .i64 0, .int .i64 0]) ?_ 1 _ rfl; (with_reducible repeat (first | refine blk_drewN ?_ _ | refine blk_drew ?_ | refine blk_alloc ?_ _)); refine blk_put (cs := #[.string (⟨#[]⟩ : ByteArray), .int .i64 0, .int .i64 0]) ?_ 0 _ rfl; (with_reducible repeat (first | refine blk_drewN ?_ _ | refine blk_drew ?_ | refine blk_alloc ?_ _)); exact BK425.out⟩, ⟨by repeat (first | (with_reducible first | exact HB.out | apply below_alloc | apply pw_below_drewN | apply below_drew1 | refine below_set ?_ GE425.out) | exact HB.out)⟩⟩
            · rw [if_neg c9] at H
              have c9b0 : (t428 == 0) = false := beq_eq_false_iff_ne.mpr c9
              have c9b1 : (t428 != 0) = true := bne_iff_ne.mpr c9
              (first | rw [c9b0] | (simp only [i64_w, i32_w]; rw [c9b0]) | skip)
              have H' := Aside0.mk H
              clear H
              go_wp2
              go_meet
              case rel => exact ⟨_, (t427), (t428), (0), (by first | rfl | (simp; done) | (simp [*]; done)), (by first | rfl | (simp; done) | (simp [*]; done)), H', ⟨by have := HK1.out; first | omega | exact Nat.le_refl _⟩, ⟨by (with_reducible repeat (first | apply Kd.R_alloc | apply Kd.R_drewN | apply Kd.R_drew)); exact Kd.R_mono (Kd.R_far (p := ⟨gb425, 0, none⟩) (Kd.R_far (p := ⟨gb425, 2, none⟩) (Kd.R_far (p := ⟨gb425, 1, none⟩) (Kd.R_far (p := ⟨gb425, 0, none⟩) (Kd.R_mono HO_7.out (fun k_ hk => (⟨hk, hk.2⟩ : _ ∧ k_ ≠ gb425))) (fun _ hk => hk.2) (.string (⟨#[]⟩ : ByteArray))) (fun _ hk => hk.2) (.int .i64 0)) (fun _ hk => hk.2) (.int .i64 0)) (fun _ hk => hk.2) (.string t426)) (fun _ hk => hk.1.2)⟩, ⟨by (with_reducible repeat (first | refine blk_drewN ?_ _ | refine blk_drew ?_ | refine blk_alloc ?_ _)); refine blk_put (cs := #[.string (⟨#[]⟩ : ByteArray), .int .i64 0, .int .i64 0]) ?_ 0 _ rfl; (with_reducible repeat (first | refine blk_drewN ?_ _ | refine blk_drew ?_ | refine blk_alloc ?_ _)); refine blk_put (cs := #[.string (⟨#[]⟩ : ByteArray), .int .i64 0, .int .i64 0]) ?_ 2 _ rfl; (with_reducible repeat (first | refine blk_drewN ?_ _ | refine blk_drew ?_ | refine blk_alloc ?_ _)); refine blk_put (cs := #[.string (⟨#[]⟩ : ByteArray), .int .i64 0, .int .i64 0]) ?_ 1 _ rfl; (with_reducible repeat (first | refine blk_drewN ?_ _ | refine blk_drew ?_ | refine blk_alloc ?_ _)); refine blk_put (cs := #[.string (⟨#[]⟩ : ByteArray), .int .i64 0, .int .i64 0]) ?_ 0 _ rfl; (with_reducible repeat (first | refine blk_drewN ?_ _ | refine blk_drew ?_ | refine blk_alloc ?_ _)); exact BK425.out⟩, ⟨by repeat (first | (with_reducible first | exact HB.out | apply below_alloc | apply pw_below_drewN | apply below_drew1 | refine below_set ?_ GE425.out) | exact HB.out)⟩⟩
          case rest =>
            clear HC6
            try clear c2
            try clear p2
            try clear c3
            try clear c3b0
            try clear c3b1
            try clear c4
            try clear c4b0
            try clear c9
            try clear c9b0
            try clear c9b1
            try clear hcz11_0
            try clear hcz11_1
            try clear hcz11_2
            try clear hcz8_0
            try clear hcz8_1
            try clear hcz8_2
            try clear hfz11_0
            try clear hfz11_1
            try clear hfz11_2
            try clear hfz8_0
            try clear hfz8_1
            try clear hfz8_2
            try clear p2
            obtain ⟨kq, x5_5, x6_5, x426001_5, rfl, rfl, HA, HJ5, HO_7, BK425, HB⟩ := hcut
            cases kq with
            | zero => exact absurd HA.out (by simp [almanacref19_Read.j1])
            | succ kj5 =>
              have H := HA.out
              clear HA
              simp only [almanacref19_Read.j1] at H
              by_cases c12 : x6_5 = 0
              · rw [if_pos c12] at H
                have c12b0 : (x6_5 == 0) = true := beq_iff_eq.mpr c12
                have c12b1 : (x6_5 != 0) = false := bne_eq_false_iff_eq.mpr c12
                clear c12
                replace H := Option.bind_eq_some_iff.mp H
                obtain ⟨⟨t432, t433, t434⟩, A130, H⟩ := H
                replace H : (if t434 = 0 then (if x7_1.length < 4398046511104 then (almanacref19_Read.l0 kj5 a0 t422 t433 (x7_1 ++ [(⟨t426, x426001_5, wrap64 (IntKind.u64.wrap ((IntKind.u64.wrap (x426001_5)) + t432))⟩ : S25)]) (IntKind.u64.wrap (x8_1 + 1))) else (none)) else (some (([] : List (S25)), t434))) = some (r1, r2) := H
                have A13 := Aside0.mk A130
                clear A130
                by_cases c14 : t434 = 0
                · rw [if_pos c14] at H
                  have c14b0 : (t434 == 0) = true := beq_iff_eq.mpr c14
                  have c14b1 : (t434 != 0) = false := bne_eq_false_iff_eq.mpr c14
                  clear c14
                  by_cases c15 : x7_1.length < 4398046511104
                  · rw [if_pos c15] at H
                    have LMc15 := Aside0.mk c15
                    clear c15
                    obtain ⟨y435, hy435⟩ : ∃ y_ : List (S25), y_ = (x7_1 ++ [(⟨t426, x426001_5, wrap64 (IntKind.u64.wrap ((IntKind.u64.wrap (x426001_5)) + t432))⟩ : S25)]) := ⟨_, rfl⟩
                    replace H : (almanacref19_Read.l0 kj5 a0 t422 t433 y435 (IntKind.u64.wrap (x8_1 + 1))) = some (r1, r2) := by first | (rw [hy435]; with_reducible exact H) | (have H2_ := (Option.bind_some _ _).symm.trans H; rw [hy435]; with_reducible exact H2_) | (have H2_ := (Option.bind_some _ _).symm.trans H; with_reducible exact H2_) | with_reducible exact H | (rw [hy435]; exact H) | exact H
                    have Ny435 := Aside0.mk hy435
                    clear hy435
                    have H' := Aside0.mk H
                    clear H
                    go_wp2_with (first | ((with_reducible refine gate_callee (f := 38) rfl ?_); refine goesL_ (some 49) rfl rfl Try.func38 (by kernel_rfl) rfl #[.string a0, .int .i64 x5_5] rfl (by (try simp only [List.map_toArray, List.map_cons, List.map_nil]); first | done | rfl | (simp only [List.length_drop, List.length_take]; rfl)) ?_; (with_reducible refine (almanacref01_ReadNumber.calls kj5 a0 x5_5 t432 t433 t434 _ A13.out).mono ?_); rintro e w' ⟨rfl, ⟨nd, rfl⟩⟩; refine ⟨_, rfl, ?_⟩; (try (rw [drewN_self wc]; generalize hq_ : World.drewN wc _ = wc; have n0_ : Aside0 (Kd.R k25 25 wc w.heap.size (fun k_ => k_ ≠ gb425) u7 x7_1) := ⟨by rw [← hq_]; exact (by (with_reducible repeat (first | apply Kd.R_alloc | apply Kd.R_drewN | apply Kd.R_drew)); exact HO_7.out)⟩; have n1_ : Aside0 (wc.heap[gb425]? = some (.cells #[.string t426, .int .i64 x426001_5, .int .i64 0] 25 (0, 0))) := ⟨by rw [← hq_]; exact (by (with_reducible repeat (first | refine blk_drewN ?_ _ | refine blk_drew ?_ | refine blk_alloc ?_ _)); exact BK425.out)⟩; have n2_ : Aside0 (Below w.heap.size w wc) := ⟨by rw [← hq_]; exact (by repeat (first | (with_reducible first | exact HB.out | apply below_alloc | apply pw_below_drewN | apply below_drew1 | refine below_set ?_ GE425.out) | exact HB.out))⟩; clear HO_7 BK425 HB hq_; have HO_7 := n0_; have BK425 := n1_; have HB := n2_; clear n0_ n1_ n2_)); have hcz16_0 : wc.cell? ⟨gb425, 0, none⟩ = some (.string t426) := (blk_cell BK425.out 0).trans rfl; have hcz16_1 : wc.cell? ⟨gb425, 1, none⟩ = some (.int .i64 x426001_5) := (blk_cell BK425.out 1).trans rfl; have hcz16_2 : wc.cell? ⟨gb425, 2, none⟩ = some (.int .i64 0) := (blk_cell BK425.out 2).trans rfl; have hfz16_0 := blk_frozen BK425.out 0; have hfz16_1 := blk_frozen BK425.out 1; have hfz16_2 := blk_frozen BK425.out 2) | ((with_reducible refine gate_builtin (b := .append) (xs := #[.tmp 63, .tmp 65]) rfl ?_); at_builtin; refine Kd.R_append k25 (w0 := w) w.heap.size rfl (.tmp 63) (.tmp 65) 22 25 (.agg #[(.string ⟨#[]⟩), (.int .i64 0), (.int .i64 0)]) 32 rfl Try.underlying22 info25 rfl (by decide) (by omega) u7 x7_1 (⟨t426, x426001_5, wrap64 (IntKind.u64.wrap ((IntKind.u64.wrap (x426001_5)) + t432))⟩ : S25) [.string t426, .int .i64 x426001_5, .int .i64 (wrap64 (IntKind.u64.wrap ((IntKind.u64.wrap (x426001_5)) + t432)))] (fun k_ => k_ ≠ gb425) (fun _ => False) rfl (by first | (go_simp; done) | (go_simp; rfl)) ?aP (fun _ hk => hk.elim) ?aF ?aO ?aB ?aS ?aL ?_; (case aP => exact k25_mkM _ _ _ (⟨t426, x426001_5, wrap64 (IntKind.u64.wrap ((IntKind.u64.wrap (x426001_5)) + t432))⟩ : S25)); (case aB => exact (by repeat (first | (with_reducible first | exact HB.out | apply below_alloc | apply pw_below_drewN | apply below_drew1 | refine below_set ?_ GE425.out) | exact HB.out))); (case aF => exact (fun k_ hk => Kd.freshB (g := gb425) (o := .cells #[.string t426, .int .i64 x426001_5, .int .i64 (wrap64 (IntKind.u64.wrap ((IntKind.u64.wrap (x426001_5)) + t432)))] 25 (0, 0)) (by (with_reducible repeat (first | refine blk_drewN ?_ _ | refine blk_drew ?_ | refine blk_alloc ?_ _)); refine blk_put (cs := #[.string t426, .int .i64 x426001_5, .int .i64 0]) ?_ 2 _ rfl; (with_reducible repeat (first | refine blk_drewN ?_ _ | refine blk_drew ?_ | refine blk_alloc ?_ _)); exact BK425.out) k_ hk)); (case aO => exact (by (with_reducible repeat (first | apply Kd.R_alloc | apply Kd.R_drewN | apply Kd.R_drew)); exact Kd.R_mono (Kd.R_far (p := ⟨gb425, 2, none⟩) (Kd.R_mono HO_7.out (fun k_ hk => (⟨hk, hk⟩ : _ ∧ k_ ≠ gb425))) (fun _ hk => hk.2) (.int .i64 (wrap64 (IntKind.u64.wrap ((IntKind.u64.wrap (x426001_5)) + t432))))) (fun _ hk => hk.1))); (case aS => exact (below_size (by repeat (first | (with_reducible first | exact HB.out | apply below_alloc | apply pw_below_drewN | apply below_drew1 | refine below_set ?_ GE425.out) | exact HB.out)))); (case aL => have := LMc15.out; omega); intro v436 w17 ho hb hg hat; rw [← Ny435.out] at ho; have n0_ := Aside0.mk (blk_grown (g := gb425) (o := .cells #[.string t426, .int .i64 x426001_5, .int .i64 (wrap64 (IntKind.u64.wrap ((IntKind.u64.wrap (x426001_5)) + t432)))] 25 (0, 0)) (by (with_reducible repeat (first | refine blk_drewN ?_ _ | refine blk_drew ?_ | refine blk_alloc ?_ _)); refine blk_put (cs := #[.string t426, .int .i64 x426001_5, .int .i64 0]) ?_ 2 _ rfl; (with_reducible repeat (first | refine blk_drewN ?_ _ | refine blk_drew ?_ | refine blk_alloc ?_ _)); exact BK425.out) hg (Kd.R_away HO_7.out (fun _ hk => hk))); have n1_ := Aside0.mk (hb); have n2_ := Aside0.mk (ho); clear BK425; clear HB; clear HO_7; have BK425 := n0_; have HB := n1_; have HO437 := n2_; clear n0_ n1_ n2_; clear ho hb hg hat))
                    go_roundg kj5
                    case measure => have := HK1.out; have := HJ5.out; omega
                    case rel => exact ⟨(t433), (y435), (IntKind.u64.wrap (x8_1 + 1)), (by first | rfl | (simp; done) | (simp [*]; done)), (by first | rfl | (simp; done) | (simp [*]; done)), H', ⟨by have := HK1.out; have := HJ5.out; omega⟩, ⟨by (with_reducible repeat (first | apply Kd.R_alloc | apply Kd.R_drewN | apply Kd.R_drew)); exact Kd.R_mono HO437.out (fun _ hk => trivial)⟩, ⟨by repeat (first | (with_reducible first | exact HB.out | apply below_alloc | apply pw_below_drewN | apply below_drew1 | refine below_set ?_ GE425.out) | exact HB.out)⟩⟩
                  · rw [if_neg c15] at H
                    exact absurd H (by simp)
                · rw [if_neg c14] at H
                  have c14b0 : (t434 == 0) = false := beq_eq_false_iff_ne.mpr c14
                  have c14b1 : (t434 != 0) = true := bne_iff_ne.mpr c14
                  simp only [Option.some.injEq, Prod.mk.injEq] at H
                  obtain ⟨rfl, rfl⟩ := H
                  go_wp2_with (first | ((with_reducible refine gate_callee (f := 38) rfl ?_); refine goesL_ (some 49) rfl rfl Try.func38 (by kernel_rfl) rfl #[.string a0, .int .i64 x5_5] rfl (by (try simp only [List.map_toArray, List.map_cons, List.map_nil]); first | done | rfl | (simp only [List.length_drop, List.length_take]; rfl)) ?_; (with_reducible refine (almanacref01_ReadNumber.calls kj5 a0 x5_5 t432 t433 t434 _ A13.out).mono ?_); rintro e w' ⟨rfl, ⟨nd, rfl⟩⟩; refine ⟨_, rfl, ?_⟩))
                  go_ret2
                  exact ⟨_, by first | rfl | (simp [errW_none, errW_some] <;> rfl) | (simp [*, errW_none, errW_some] <;> rfl), by first | exact Kd.R_nil _ _ _ _ _ | exact Kd.N_nil _ _ _ _ _ | exact Kd.V_nil _ _ _ _ _ | exact Kd.Q_nil _ _ _ _ _ | exact Kd.S_nil _ _ _ _ _, by repeat (first | (with_reducible first | exact HB.out | apply below_alloc | apply pw_below_drewN | apply below_drew1 | refine below_set ?_ GE425.out) | exact HB.out)⟩
              · rw [if_neg c12] at H
                have c12b0 : (x6_5 == 0) = false := beq_eq_false_iff_ne.mpr c12
                have c12b1 : (x6_5 != 0) = true := bne_iff_ne.mpr c12
                simp only [Option.some.injEq, Prod.mk.injEq] at H
                obtain ⟨rfl, rfl⟩ := H
                go_wp2
                go_ret2
                exact ⟨_, by first | rfl | (simp [errW_none, errW_some] <;> rfl) | (simp [*, errW_none, errW_some] <;> rfl), by first | exact Kd.R_nil _ _ _ _ _ | exact Kd.N_nil _ _ _ _ _ | exact Kd.V_nil _ _ _ _ _ | exact Kd.Q_nil _ _ _ _ _ | exact Kd.S_nil _ _ _ _ _, by repeat (first | (with_reducible first | exact HB.out | apply below_alloc | apply pw_below_drewN | apply below_drew1 | refine below_set ?_ GE425.out) | exact HB.out)⟩
        · rw [if_neg c4] at H
          have c4b0 : decide (x8_1 < t422) = false := decide_eq_false c4
          clear c4
          by_cases c18 : x5_1 < (a0.size : Int)
          · rw [if_pos c18] at H
            have c18b0 : decide (x5_1 < (a0.size : Int)) = true := decide_eq_true c18
            clear c18
            simp only [Option.some.injEq, Prod.mk.injEq] at H
            obtain ⟨rfl, rfl⟩ := H
            go_wp2
            go_ret2
            exact ⟨_, by first | rfl | (simp [errW_none, errW_some] <;> rfl) | (simp [*, errW_none, errW_some] <;> rfl), by first | exact Kd.R_nil _ _ _ _ _ | exact Kd.N_nil _ _ _ _ _ | exact Kd.V_nil _ _ _ _ _ | exact Kd.Q_nil _ _ _ _ _ | exact Kd.S_nil _ _ _ _ _, by repeat (first | (with_reducible first | exact HB.out | apply below_alloc | apply pw_below_drewN | apply below_drew1) | exact HB.out)⟩
          · rw [if_neg c18] at H
            have c18b0 : decide (x5_1 < (a0.size : Int)) = false := decide_eq_false c18
            clear c18
            replace H := Option.bind_eq_some_iff.mp H
            obtain ⟨t438, A190, H⟩ := H
            replace H : (if t438 = true then (some (x7_1, 0)) else (some (([] : List (S25)), 14))) = some (r1, r2) := H
            have A19 := Aside0.mk A190
            clear A190
            by_cases c20 : t438 = true
            · subst c20
              have H1 : (some (x7_1, 0)) = some (r1, r2) := by rw [if_pos rfl] at H; exact H
              clear H
              have H := H1
              clear H1
              simp only [Option.some.injEq, Prod.mk.injEq] at H
              obtain ⟨rfl, rfl⟩ := H
              obtain ⟨Ao21, co21, eo21⟩ := Kd.R_slice HO_7.out
              subst eo21
              go_wp2_with (first | ((with_reducible refine gate_callee (f := 12) rfl ?_); refine goesL_ (some 72) rfl rfl Try.func12 (by kernel_rfl) rfl #[.slice Ao21 x7_1.length co21] rfl (by (try simp only [List.map_toArray, List.map_cons, List.map_nil]); first | done | rfl | (simp only [List.length_drop, List.length_take]; rfl)) ?_; (with_reducible refine (almanacref19_Fit.calls k1 _ _ x7_1 true _ ?side1 ?side2 A19.out).mono ?_); (case side1 => repeat (first | exact (Kd.R_reads' HO_7.out).2.2 | (with_reducible refine Kd.C_alloc ?_ _) | (with_reducible refine Kd.C_drewN ?_ _) | (with_reducible refine Kd.C_drew ?_))); (case side2 => exact (Kd.R_reads' HO_7.out).2.1); rintro e w22 ⟨rfl, hb⟩; refine ⟨_, rfl, ?_⟩; have n0_ := Aside0.mk (Kd.R_below (by (with_reducible repeat (first | apply Kd.R_alloc | apply Kd.R_drewN | apply Kd.R_drew)); exact HO_7.out) hb); have n1_ := Aside0.mk (below_step (by repeat (first | (with_reducible first | exact HB.out | apply below_alloc | apply pw_below_drewN | apply below_drew1) | exact HB.out)) hb); clear HO_7; clear HB; have HO_7 := n0_; have HB := n1_; clear n0_ n1_; (try clear hb); (try clear hb2); (try clear hk); (try clear hi)))
              go_ret2
              exact ⟨_, by first | rfl | (simp [errW_none, errW_some] <;> rfl) | (simp [*, errW_none, errW_some] <;> rfl), by (with_reducible repeat (first | apply Kd.R_alloc | apply Kd.R_drewN | apply Kd.R_drew)); exact HO_7.out, by repeat (first | (with_reducible first | exact HB.out | apply below_alloc | apply pw_below_drewN | apply below_drew1) | exact HB.out)⟩
            · replace c20 := Bool.eq_false_iff.mpr c20
              subst c20
              have H1 : (some (([] : List (S25)), 14)) = some (r1, r2) := by rw [if_neg (show ¬ (false = true) by decide)] at H; exact H
              clear H
              have H := H1
              clear H1
              simp only [Option.some.injEq, Prod.mk.injEq] at H
              obtain ⟨rfl, rfl⟩ := H
              obtain ⟨Ao23, co23, eo23⟩ := Kd.R_slice HO_7.out
              subst eo23
              go_wp2_with (first | ((with_reducible refine gate_callee (f := 12) rfl ?_); refine goesL_ (some 72) rfl rfl Try.func12 (by kernel_rfl) rfl #[.slice Ao23 x7_1.length co23] rfl (by (try simp only [List.map_toArray, List.map_cons, List.map_nil]); first | done | rfl | (simp only [List.length_drop, List.length_take]; rfl)) ?_; (with_reducible refine (almanacref19_Fit.calls k1 _ _ x7_1 false _ ?side1 ?side2 A19.out).mono ?_); (case side1 => repeat (first | exact (Kd.R_reads' HO_7.out).2.2 | (with_reducible refine Kd.C_alloc ?_ _) | (with_reducible refine Kd.C_drewN ?_ _) | (with_reducible refine Kd.C_drew ?_))); (case side2 => exact (Kd.R_reads' HO_7.out).2.1); rintro e w24 ⟨rfl, hb⟩; refine ⟨_, rfl, ?_⟩; have n0_ := Aside0.mk (Kd.R_below (by (with_reducible repeat (first | apply Kd.R_alloc | apply Kd.R_drewN | apply Kd.R_drew)); exact HO_7.out) hb); have n1_ := Aside0.mk (below_step (by repeat (first | (with_reducible first | exact HB.out | apply below_alloc | apply pw_below_drewN | apply below_drew1) | exact HB.out)) hb); clear HO_7; clear HB; have HO_7 := n0_; have HB := n1_; clear n0_ n1_; (try clear hb); (try clear hb2); (try clear hk); (try clear hi)))
              go_ret2
              exact ⟨_, by first | rfl | (simp [errW_none, errW_some] <;> rfl) | (simp [*, errW_none, errW_some] <;> rfl), by first | exact Kd.R_nil _ _ _ _ _ | exact Kd.N_nil _ _ _ _ _ | exact Kd.V_nil _ _ _ _ _ | exact Kd.Q_nil _ _ _ _ _ | exact Kd.S_nil _ _ _ _ _, by repeat (first | (with_reducible first | exact HB.out | apply below_alloc | apply pw_below_drewN | apply below_drew1) | exact HB.out)⟩
  · rw [if_neg c3] at H
    have c3b0 : (t424 == 0) = false := beq_eq_false_iff_ne.mpr c3
    have c3b1 : (t424 != 0) = true := bne_iff_ne.mpr c3
    simp only [Option.some.injEq, Prod.mk.injEq] at H
    obtain ⟨rfl, rfl⟩ := H
    go_enter Try.func20, Try.ntmps20
    go_wp2_with (first | ((with_reducible refine gate_callee (f := 38) rfl ?_); refine goesL_ (some 13) rfl rfl Try.func38 (by kernel_rfl) rfl #[.string a0, .int .i64 0] rfl (by (try simp only [List.map_toArray, List.map_cons, List.map_nil]); first | done | rfl | (simp only [List.length_drop, List.length_take]; rfl)) ?_; (with_reducible refine (almanacref01_ReadNumber.calls k a0 0 t422 t423 t424 _ A2.out).mono ?_); rintro e w' ⟨rfl, ⟨nd, rfl⟩⟩; refine ⟨_, rfl, ?_⟩))
    go_ret2
    exact ⟨_, by first | rfl | (simp [errW_none, errW_some] <;> rfl) | (simp [*, errW_none, errW_some] <;> rfl), by first | exact Kd.R_nil _ _ _ _ _ | exact Kd.N_nil _ _ _ _ _ | exact Kd.V_nil _ _ _ _ _ | exact Kd.Q_nil _ _ _ _ _ | exact Kd.S_nil _ _ _ _ _, by repeat (first | (with_reducible first | exact HB.out | apply below_alloc | apply pw_below_drewN | apply below_drew1) | exact HB.out)⟩

end Go.Proofs.Ythcoiabgemclbaa.PD
-- written by a program of this work (mk.sh, over the kit's print; stubs are proved by hand)
namespace Go.Proofs.Ythcoiabgemclbaa.PD
open Go.RowKit Go.Proofs.YthcoiabgemclbaaW.PrintWords Go.Proofs.YthcoiabgemclbaaW.PrintLast Go.Proofs.YthcoiabgemclbaaW.PrintMore
attribute [local go_sem] isSome_setCell max2_int min2_int max_two min_two max_three min_three max_four min_four   -- for this text's walks alone
set_option linter.unusedVariables false
set_option linter.unusedSimpArgs false

/-! ### almanacref01_Number: function 44 -/
def almanacref01_Number.l0 : Nat → Int → List Int → Option (ByteArray)
  | 0, _, _ => none
  | k + 1, x0, x3 => if x0 ≥ 128 then (if x3.length < 140737488355328 then (almanacref01_Number.l0 k (x0 / 128) (x3 ++ [((Int.tmod x0 128) + 128) % 256])) else (none)) else (if x3.length < 140737488355328 then (some (strOfNums (x3 ++ [(x0) % 256]))) else (none))
def almanacref01_Number.f (k : Nat) (a0 : Int) : Option (ByteArray) := almanacref01_Number.l0 k a0 ([] : List Int)
theorem almanacref01_Number.mono_l : ∀ k, (∀ y0 y1, LeO (almanacref01_Number.l0 k y0 y1) (almanacref01_Number.l0 (k + 1) y0 y1))
  | 0 => fun _ _ r h => by simp [almanacref01_Number.l0] at h
  | k + 1 => by
    have ih0 := almanacref01_Number.mono_l k
    · intro y0 y1
      unfold almanacref01_Number.l0
      repeat' first
      | (with_reducible exact ih0 _ _)
      | (with_reducible exact LeO.refl _)
      | (with_reducible exact LeO.none _)
      | (with_reducible refine LeO.ite ?_ ?_)
      | (with_reducible refine LeO.bind ?_ (fun _ => ?_))
      | exact ih0 _ _
      | exact LeO.none _
      | refine LeO.ite ?_ ?_
      | refine LeO.bind ?_ (fun _ => ?_)
theorem almanacref01_Number.mono : ∀ a0 k, LeO (almanacref01_Number.f k a0) (almanacref01_Number.f (k + 1) a0) := by
  intro a0 k
  have ih0 := almanacref01_Number.mono_l k
  unfold almanacref01_Number.f
  repeat' first
      | (with_reducible exact ih0 _ _)
      | (with_reducible exact LeO.refl _)
      | (with_reducible exact LeO.none _)
      | (with_reducible refine LeO.ite ?_ ?_)
      | (with_reducible refine LeO.bind ?_ (fun _ => ?_))
      | exact ih0 _ _
      | exact LeO.none _
      | refine LeO.ite ?_ ?_
      | refine LeO.bind ?_ (fun _ => ?_)
set_option maxHeartbeats 8000000 in
set_option maxRecDepth 100000 in
theorem almanacref01_Number.calls (k : Nat) (a0 : Int) (r : ByteArray) (w : World) (h : almanacref01_Number.f k a0 = some r) :
    Calls Try.prog 44 #[.int .u64 a0] w fun e w' => e = .returned (.string r) ∧ Below w.heap.size w w' := by
  have HB := Aside0.mk (Below.refl w.heap.size w)
  have H : (almanacref01_Number.l0 k a0 ([] : List Int)) = some r := h
  clear h
  have H' := Aside0.mk H
  clear H
  go_enter Try.func44, Try.ntmps44
  go_wp2
  go_loopg [0, 3] k (fun kq v0 v3 w' => ∃ (x0_1 : Int) (x3_1 : List Int), v0 = .int .u64 x0_1 ∧ Aside0 (almanacref01_Number.l0 kq x0_1 x3_1 = some r) ∧ Aside0 (kq ≤ k) ∧ Aside0 (Kd.R (Kd.int .u8) 5 w' w.heap.size (fun _ => True) v3 x3_1) ∧ Aside0 (Below w.heap.size w w'))
  case atStart => exact ⟨(a0), (([] : List Int)), (by first | rfl | (simp; done) | (simp [*]; done)), H', ⟨Nat.le_refl _⟩, ⟨by first | exact Kd.R_nil _ _ _ _ _ | exact Kd.N_nil _ _ _ _ _ | exact Kd.V_nil _ _ _ _ _ | exact Kd.Q_nil _ _ _ _ _ | exact Kd.S_nil _ _ _ _ _⟩, ⟨by repeat (first | (with_reducible first | exact HB.out | apply below_alloc | apply pw_below_drewN | apply below_drew1) | exact HB.out)⟩⟩
  case round =>
    clear H'
    obtain ⟨x0_1, x3_1, rfl, HA, HK1, HO_3, HB⟩ := hrel
    cases gk with
    | zero => exact absurd HA.out (by simp [almanacref01_Number.l0])
    | succ k1 =>
      have H := HA.out
      clear HA
      simp only [almanacref01_Number.l0] at H
      by_cases c2 : x0_1 ≥ 128
      · rw [if_pos c2] at H
        have c2b0 : decide (128 ≤ x0_1) = true := decide_eq_true c2
        clear c2
        by_cases c3 : x3_1.length < 140737488355328
        · rw [if_pos c3] at H
          have LMc3 := Aside0.mk c3
          clear c3
          obtain ⟨y439, hy439⟩ : ∃ y_ : List Int, y_ = (x3_1 ++ [((Int.tmod x0_1 128) + 128) % 256]) := ⟨_, rfl⟩
          replace H : (almanacref01_Number.l0 k1 (x0_1 / 128) y439) = some r := by first | (rw [hy439]; with_reducible exact H) | (have H2_ := (Option.bind_some _ _).symm.trans H; rw [hy439]; with_reducible exact H2_) | (have H2_ := (Option.bind_some _ _).symm.trans H; with_reducible exact H2_) | with_reducible exact H | (rw [hy439]; exact H) | exact H
          have Ny439 := Aside0.mk hy439
          clear hy439
          have H' := Aside0.mk H
          clear H
          go_wp2_with (first | ((with_reducible refine gate_builtin (b := .append) (xs := #[.tmp 6, .tmp 11]) rfl ?_); at_builtin; refine Kd.R_append (Kd.int .u8) (w0 := w) w.heap.size rfl (.tmp 6) (.tmp 11) 85 5 (.int .u8 0) 1 rfl Try.underlying85 info5 rfl (by decide) (by omega) u3 x3_1 (((Int.tmod x0_1 128) + 128) % 256) [.int .u8 (((Int.tmod x0_1 128) + 128) % 256)] (fun _ => True) (fun _ => False) rfl rfl ?aP (fun _ hk => hk.elim) ?aF ?aO ?aB ?aS ?aL ?_; (case aP => exact rfl); (case aB => exact (by repeat (first | (with_reducible first | exact HB.out | apply below_alloc | apply pw_below_drewN | apply below_drew1) | exact HB.out))); (case aF => exact (fun _ _ => trivial)); (case aO => exact (by (with_reducible repeat (first | apply Kd.R_alloc | apply Kd.R_drewN | apply Kd.R_drew)); exact HO_3.out)); (case aS => exact (below_size (by repeat (first | (with_reducible first | exact HB.out | apply below_alloc | apply pw_below_drewN | apply below_drew1) | exact HB.out)))); (case aL => have := LMc3.out; omega); intro v440 w4 ho hb hg hat; rw [← Ny439.out] at ho; have n0_ := Aside0.mk (hb); have n1_ := Aside0.mk (ho); clear HB; clear HO_3; have HB := n0_; have HO441 := n1_; clear n0_ n1_; clear ho hb hg hat))
          go_roundg k1
          case measure => have := HK1.out; omega
          case rel => exact ⟨(x0_1 / 128), (y439), (by first | rfl | (simp; done) | (simp [*]; done)), H', ⟨by have := HK1.out; omega⟩, ⟨by (with_reducible repeat (first | apply Kd.R_alloc | apply Kd.R_drewN | apply Kd.R_drew)); exact HO441.out⟩, ⟨by repeat (first | (with_reducible first | exact HB.out | apply below_alloc | apply pw_below_drewN | apply below_drew1) | exact HB.out)⟩⟩
        · rw [if_neg c3] at H
          exact absurd H (by simp)
      · rw [if_neg c2] at H
        have c2b0 : decide (128 ≤ x0_1) = false := decide_eq_false c2
        clear c2
        by_cases c5 : x3_1.length < 140737488355328
        · rw [if_pos c5] at H
          have LMc5 := Aside0.mk c5
          clear c5
          obtain ⟨y442, hy442⟩ : ∃ y_ : List Int, y_ = (x3_1 ++ [(x0_1) % 256]) := ⟨_, rfl⟩
          replace H : (some (strOfNums y442)) = some r := by first | (rw [hy442]; with_reducible exact H) | (have H2_ := (Option.bind_some _ _).symm.trans H; rw [hy442]; with_reducible exact H2_) | (have H2_ := (Option.bind_some _ _).symm.trans H; with_reducible exact H2_) | with_reducible exact H | (rw [hy442]; exact H) | exact H
          have Ny442 := Aside0.mk hy442
          clear hy442
          obtain rfl := Option.some.inj H
          go_wp2_with (first | ((with_reducible refine gate_builtin (b := .append) (xs := #[.tmp 15, .tmp 18]) rfl ?_); at_builtin; refine Kd.R_append (Kd.int .u8) (w0 := w) w.heap.size rfl (.tmp 15) (.tmp 18) 85 5 (.int .u8 0) 1 rfl Try.underlying85 info5 rfl (by decide) (by omega) u3 x3_1 ((x0_1) % 256) [.int .u8 ((x0_1) % 256)] (fun _ => True) (fun _ => False) rfl rfl ?aP (fun _ hk => hk.elim) ?aF ?aO ?aB ?aS ?aL ?_; (case aP => exact rfl); (case aB => exact (by repeat (first | (with_reducible first | exact HB.out | apply below_alloc | apply pw_below_drewN | apply below_drew1) | exact HB.out))); (case aF => exact (fun _ _ => trivial)); (case aO => exact (by (with_reducible repeat (first | apply Kd.R_alloc | apply Kd.R_drewN | apply Kd.R_drew)); exact HO_3.out)); (case aS => exact (below_size (by repeat (first | (with_reducible first | exact HB.out | apply below_alloc | apply pw_below_drewN | apply below_drew1) | exact HB.out)))); (case aL => have := LMc5.out; omega); intro v443 w6 ho hb hg hat; rw [← Ny442.out] at ho; have n0_ := Aside0.mk (hb); have n1_ := Aside0.mk (ho); clear HB; clear HO_3; have HB := n0_; have HO444 := n1_; clear n0_ n1_; clear ho hb hg hat; have hcv7 := own_string (P := Try.prog) Try.underlying85 Try.underlying5 Try.underlying9 (Kd.own_of_R HO444.out)))
          go_ret
          exact ⟨by first | rfl | (simp [errW_none, errW_some] <;> rfl) | (simp [*, errW_none, errW_some] <;> rfl), by repeat (first | (with_reducible first | exact HB.out | apply below_alloc | apply pw_below_drewN | apply below_drew1) | exact HB.out)⟩
        · rw [if_neg c5] at H
          exact absurd H (by simp)

end Go.Proofs.Ythcoiabgemclbaa.PD
-- written by a program of this work (mk.sh, over the kit's print; stubs are proved by hand)
namespace Go.Proofs.Ythcoiabgemclbaa.PD
open Go.RowKit Go.Proofs.YthcoiabgemclbaaW.PrintWords Go.Proofs.YthcoiabgemclbaaW.PrintLast Go.Proofs.YthcoiabgemclbaaW.PrintMore
attribute [local go_sem] isSome_setCell max2_int min2_int max_two min_two max_three min_three max_four min_four   -- for this text's walks alone
set_option linter.unusedVariables false
set_option linter.unusedSimpArgs false

/-! ### almanacref01_Text: function 45 -/
def almanacref01_Text.f (k : Nat) (a0 : ByteArray) : Option (ByteArray) := (almanacref01_Number.f k (IntKind.u64.wrap ((a0.size : Int)))).bind fun t445 => (if t445.size + a0.size ≤ 9223372036854775807 then (some (t445 ++ a0)) else (none))
theorem almanacref01_Text.mono : ∀ a0 k, LeO (almanacref01_Text.f k a0) (almanacref01_Text.f (k + 1) a0) := by
  intro a0 k
  unfold almanacref01_Text.f
  repeat' first
      | (with_reducible exact almanacref01_Number.mono _ _)
      | (with_reducible exact LeO.refl _)
      | (with_reducible exact LeO.none _)
      | (with_reducible refine LeO.ite ?_ ?_)
      | (with_reducible refine LeO.bind ?_ (fun _ => ?_))
      | exact almanacref01_Number.mono _ _
      | exact LeO.none _
      | refine LeO.ite ?_ ?_
      | refine LeO.bind ?_ (fun _ => ?_)
set_option maxHeartbeats 8000000 in
set_option maxRecDepth 100000 in
theorem almanacref01_Text.calls (k : Nat) (a0 : ByteArray) (r : ByteArray) (w : World) (h : almanacref01_Text.f k a0 = some r) :
    Calls Try.prog 45 #[.string a0] w fun e w' => e = .returned (.string r) ∧ Below w.heap.size w w' := by
  have HB := Aside0.mk (Below.refl w.heap.size w)
  have H : ((almanacref01_Number.f k (IntKind.u64.wrap ((a0.size : Int)))).bind fun t445 => (if t445.size + a0.size ≤ 9223372036854775807 then (some (t445 ++ a0)) else (none))) = some r := h
  clear h
  replace H := Option.bind_eq_some_iff.mp H
  obtain ⟨t445, A20, H⟩ := H
  replace H : (if t445.size + a0.size ≤ 9223372036854775807 then (some (t445 ++ a0)) else (none)) = some r := H
  have A2 := Aside0.mk A20
  clear A20
  by_cases c3 : t445.size + a0.size ≤ 9223372036854775807
  · rw [if_pos c3] at H
    have c3b0 := eq_true c3
    have c3b1 : decide (t445.size + a0.size ≤ 9223372036854775807) = true := decide_eq_true c3
    try have c3b2 : (9223372036854775807 < t445.size + a0.size) = False := eq_false (Nat.not_lt.2 c3)
    obtain rfl := Option.some.inj H
    replace A2 : Aside0 (almanacref01_Number.f k (a0.size : Int) = some t445) := ⟨by have h_ := A2.out; rwa [show IntKind.u64.wrap (a0.size : Int) = (a0.size : Int) from by simp [IntKind.wrap, IntKind.bits, IntKind.signed]; omega] at h_⟩
    go_enter Try.func45, Try.ntmps45
    go_wp2_with (first | ((with_reducible refine gate_callee (f := 44) rfl ?_); refine goesL_ (some 6) rfl rfl Try.func44 (by kernel_rfl) rfl #[.int .u64 (a0.size : Int)] rfl (by (try simp only [List.map_toArray, List.map_cons, List.map_nil]); first | done | rfl | (simp only [List.length_drop, List.length_take]; rfl)) ?_; (with_reducible refine (almanacref01_Number.calls k (a0.size : Int) t445 _ A2.out).mono ?_); rintro e w4 ⟨rfl, hb⟩; refine ⟨_, rfl, ?_⟩; have n0_ := Aside0.mk (below_step (by repeat (first | (with_reducible first | exact HB.out | apply below_alloc | apply pw_below_drewN | apply below_drew1) | exact HB.out)) hb); clear HB; have HB := n0_; clear n0_; (try clear hb); (try clear hb2); (try clear hk); (try clear hi)))
    go_ret
    exact ⟨by first | rfl | (simp [errW_none, errW_some] <;> rfl) | (simp [*, errW_none, errW_some] <;> rfl), by repeat (first | (with_reducible first | exact HB.out | apply below_alloc | apply pw_below_drewN | apply below_drew1) | exact HB.out)⟩
  · rw [if_neg c3] at H
    exact absurd H (by simp)

end Go.Proofs.Ythcoiabgemclbaa.PD
-- written by a program of this work (mk.sh, over the kit's print; stubs are proved by hand)
namespace Go.Proofs.Ythcoiabgemclbaa.PD
open Go.RowKit Go.Proofs.YthcoiabgemclbaaW.PrintWords Go.Proofs.YthcoiabgemclbaaW.PrintLast Go.Proofs.YthcoiabgemclbaaW.PrintMore
attribute [local go_sem] isSome_setCell max2_int min2_int max_two min_two max_three min_three max_four min_four   -- for this text's walks alone
set_option linter.unusedVariables false
set_option linter.unusedSimpArgs false

/-! ### almanacref01_Signed: function 46 -/
def almanacref01_Signed.f (k : Nat) (a0 : Int) : Option (ByteArray) := if a0 < 0 then ((almanacref01_Number.f k (IntKind.u64.wrap ((IntKind.u64.wrap ((IntKind.u64.wrap (wrap64 (-(wrap64 (a0 + 1))))) * 2)) + 1))).bind fun t446 => (some t446)) else ((almanacref01_Number.f k (IntKind.u64.wrap ((IntKind.u64.wrap (a0)) * 2))).bind fun t447 => (some t447))
theorem almanacref01_Signed.mono : ∀ a0 k, LeO (almanacref01_Signed.f k a0) (almanacref01_Signed.f (k + 1) a0) := by
  intro a0 k
  unfold almanacref01_Signed.f
  repeat' first
      | (with_reducible exact almanacref01_Number.mono _ _)
      | (with_reducible exact LeO.refl _)
      | (with_reducible exact LeO.none _)
      | (with_reducible refine LeO.ite ?_ ?_)
      | (with_reducible refine LeO.bind ?_ (fun _ => ?_))
      | exact almanacref01_Number.mono _ _
      | exact LeO.none _
      | refine LeO.ite ?_ ?_
      | refine LeO.bind ?_ (fun _ => ?_)
set_option maxHeartbeats 8000000 in
set_option maxRecDepth 100000 in
theorem almanacref01_Signed.calls (k : Nat) (a0 : Int) (r : ByteArray) (w : World) (h : almanacref01_Signed.f k a0 = some r) :
    Calls Try.prog 46 #[.int .i64 a0] w fun e w' => e = .returned (.string r) ∧ Below w.heap.size w w' := by
  have HB := Aside0.mk (Below.refl w.heap.size w)
  have H : (if a0 < 0 then ((almanacref01_Number.f k (IntKind.u64.wrap ((IntKind.u64.wrap ((IntKind.u64.wrap (wrap64 (-(wrap64 (a0 + 1))))) * 2)) + 1))).bind fun t446 => (some t446)) else ((almanacref01_Number.f k (IntKind.u64.wrap ((IntKind.u64.wrap (a0)) * 2))).bind fun t447 => (some t447))) = some r := h
  clear h
  by_cases c2 : a0 < 0
  · rw [if_pos c2] at H
    have c2b0 : decide (a0 < 0) = true := decide_eq_true c2
    clear c2
    replace H := Option.bind_eq_some_iff.mp H
    obtain ⟨t446, A30, H⟩ := H
    replace H : (some t446) = some r := H
    have A3 := Aside0.mk A30
    clear A30
    obtain rfl := Option.some.inj H
    go_enter Try.func46, Try.ntmps46
    go_wp2_with (first | ((with_reducible refine gate_callee (f := 44) rfl ?_); refine goesL_ (some 11) rfl rfl Try.func44 (by kernel_rfl) rfl #[.int .u64 (IntKind.u64.wrap ((IntKind.u64.wrap ((IntKind.u64.wrap (wrap64 (-(wrap64 (a0 + 1))))) * 2)) + 1))] rfl (by (try simp only [List.map_toArray, List.map_cons, List.map_nil]); first | done | rfl | (simp only [List.length_drop, List.length_take]; rfl)) ?_; (with_reducible refine (almanacref01_Number.calls k (IntKind.u64.wrap ((IntKind.u64.wrap ((IntKind.u64.wrap (wrap64 (-(wrap64 (a0 + 1))))) * 2)) + 1)) t446 _ A3.out).mono ?_); rintro e w4 ⟨rfl, hb⟩; refine ⟨_, rfl, ?_⟩; have n0_ := Aside0.mk (below_step (by repeat (first | (with_reducible first | exact HB.out | apply below_alloc | apply pw_below_drewN | apply below_drew1) | exact HB.out)) hb); clear HB; have HB := n0_; clear n0_; (try clear hb); (try clear hb2); (try clear hk); (try clear hi)))
    go_ret
    exact ⟨by first | rfl | (simp [errW_none, errW_some] <;> rfl) | (simp [*, errW_none, errW_some] <;> rfl), by repeat (first | (with_reducible first | exact HB.out | apply below_alloc | apply pw_below_drewN | apply below_drew1) | exact HB.out)⟩
  · rw [if_neg c2] at H
    have c2b0 : decide (a0 < 0) = false := decide_eq_false c2
    clear c2
    replace H := Option.bind_eq_some_iff.mp H
    obtain ⟨t447, A50, H⟩ := H
    replace H : (some t447) = some r := H
    have A5 := Aside0.mk A50
    clear A50
    obtain rfl := Option.some.inj H
    go_enter Try.func46, Try.ntmps46
    go_wp2_with (first | ((with_reducible refine gate_callee (f := 44) rfl ?_); refine goesL_ (some 15) rfl rfl Try.func44 (by kernel_rfl) rfl #[.int .u64 (IntKind.u64.wrap ((IntKind.u64.wrap (a0)) * 2))] rfl (by (try simp only [List.map_toArray, List.map_cons, List.map_nil]); first | done | rfl | (simp only [List.length_drop, List.length_take]; rfl)) ?_; (with_reducible refine (almanacref01_Number.calls k (IntKind.u64.wrap ((IntKind.u64.wrap (a0)) * 2)) t447 _ A5.out).mono ?_); rintro e w6 ⟨rfl, hb⟩; refine ⟨_, rfl, ?_⟩; have n0_ := Aside0.mk (below_step (by repeat (first | (with_reducible first | exact HB.out | apply below_alloc | apply pw_below_drewN | apply below_drew1) | exact HB.out)) hb); clear HB; have HB := n0_; clear n0_; (try clear hb); (try clear hb2); (try clear hk); (try clear hi)))
    go_ret
    exact ⟨by first | rfl | (simp [errW_none, errW_some] <;> rfl) | (simp [*, errW_none, errW_some] <;> rfl), by repeat (first | (with_reducible first | exact HB.out | apply below_alloc | apply pw_below_drewN | apply below_drew1) | exact HB.out)⟩

end Go.Proofs.Ythcoiabgemclbaa.PD
-- written by a program of this work (mk.sh, over the kit's print; stubs are proved by hand)
namespace Go.Proofs.Ythcoiabgemclbaa.PD
open Go.RowKit Go.Proofs.YthcoiabgemclbaaW.PrintWords Go.Proofs.YthcoiabgemclbaaW.PrintLast Go.Proofs.YthcoiabgemclbaaW.PrintMore
attribute [local go_sem] isSome_setCell max2_int min2_int max_two min_two max_three min_three max_four min_four   -- for this text's walks alone
set_option linter.unusedVariables false
set_option linter.unusedSimpArgs false

/-! ### almanacref19_Bytes: function 22 -/
def almanacref19_Bytes.l0 : Nat → List (S25) → ByteArray → Int → Option (ByteArray)
  | 0, _, _, _ => none
  | k + 1, x0, x3, x4 => if x4 < (x0.length : Int) then (if 0 ≤ x4 then ((almanacref01_Text.f k ((rd_T25 x0 x4).f0)).bind fun t450 => (if x3.size + t450.size ≤ 9223372036854775807 then ((almanacref01_Signed.f k ((rd_T25 x0 x4).f1)).bind fun t452 => (if (x3 ++ t450).size + t452.size ≤ 9223372036854775807 then ((almanacref01_Number.f k (IntKind.u64.wrap ((IntKind.u64.wrap ((rd_T25 x0 x4).f2)) - (IntKind.u64.wrap ((rd_T25 x0 x4).f1))))).bind fun t455 => (if ((x3 ++ t450) ++ t452).size + t455.size ≤ 9223372036854775807 then (almanacref19_Bytes.l0 k x0 (((x3 ++ t450) ++ t452) ++ t455) (wrap64 (x4 + 1))) else (none))) else (none))) else (none))) else (none)) else (some x3)
def almanacref19_Bytes.f (k : Nat) (l0 : List (S25)) : Option (ByteArray) := (almanacref01_Number.f k (IntKind.u64.wrap ((l0.length : Int)))).bind fun t448 => (almanacref19_Bytes.l0 k l0 t448 0)
theorem almanacref19_Bytes.mono_l : ∀ k, (∀ y0 y1 y2, LeO (almanacref19_Bytes.l0 k y0 y1 y2) (almanacref19_Bytes.l0 (k + 1) y0 y1 y2))
  | 0 => fun _ _ _ r h => by simp [almanacref19_Bytes.l0] at h
  | k + 1 => by
    have ih0 := almanacref19_Bytes.mono_l k
    · intro y0 y1 y2
      unfold almanacref19_Bytes.l0
      repeat' first
      | (with_reducible exact ih0 _ _ _)
      | (with_reducible exact almanacref01_Number.mono _ _)
      | (with_reducible exact almanacref01_Signed.mono _ _)
      | (with_reducible exact almanacref01_Text.mono _ _)
      | (with_reducible exact LeO.refl _)
      | (with_reducible exact LeO.none _)
      | (with_reducible refine LeO.ite ?_ ?_)
      | (with_reducible refine LeO.bind ?_ (fun _ => ?_))
      | exact ih0 _ _ _
      | exact almanacref01_Number.mono _ _
      | exact almanacref01_Signed.mono _ _
      | exact almanacref01_Text.mono _ _
      | exact LeO.none _
      | refine LeO.ite ?_ ?_
      | refine LeO.bind ?_ (fun _ => ?_)
theorem almanacref19_Bytes.mono : ∀ a0 k, LeO (almanacref19_Bytes.f k a0) (almanacref19_Bytes.f (k + 1) a0) := by
  intro a0 k
  have ih0 := almanacref19_Bytes.mono_l k
  unfold almanacref19_Bytes.f
  repeat' first
      | (with_reducible exact ih0 _ _ _)
      | (with_reducible exact almanacref01_Number.mono _ _)
      | (with_reducible exact almanacref01_Signed.mono _ _)
      | (with_reducible exact almanacref01_Text.mono _ _)
      | (with_reducible exact LeO.refl _)
      | (with_reducible exact LeO.none _)
      | (with_reducible refine LeO.ite ?_ ?_)
      | (with_reducible refine LeO.bind ?_ (fun _ => ?_))
      | exact ih0 _ _ _
      | exact almanacref01_Number.mono _ _
      | exact almanacref01_Signed.mono _ _
      | exact almanacref01_Text.mono _ _
      | exact LeO.none _
      | refine LeO.ite ?_ ?_
      | refine LeO.bind ?_ (fun _ => ?_)
def almanacref19_Bytes.T5 : Bool × List (List Nat × List Nat) := (true, [([], []), ([], []), ([], []), ([1, 2], [1, 2]), ([3], [3]), ([4], [4]), ([5], [5]), ([0, 6], [0, 6]), ([], []), ([], []), ([8, 9], [8, 9]), ([10], [10]), ([11], [11]), ([12, 6], [12]), ([7, 13], [7, 13]), ([], []), ([], []), ([15, 16], [15, 16]), ([17], [17]), ([18], [18]), ([19], [19]), ([], []), ([], []), ([21, 22], [21, 22]), ([23], [23]), ([24], [24]), ([25], [25]), ([20, 26], [20, 26]), ([27, 13], [27]), ([14, 28], [14, 28]), ([29, 28, 0, 1, 2, 3, 4, 5, 6, 7, 8, 9, 10, 11, 12, 13, 14, 15, 16, 17, 18, 19, 20, 21, 22, 23, 24, 25, 26, 27, 28, 29], [0, 29])])
def almanacref19_Bytes.B5 : List Nat := [0, 0, 0, 6, 14, 30, 62, 127, 0, 0, 768, 1792, 3840, 8062, 16383, 0, 0, 98304, 229376, 491520, 1015808, 0, 0, 6291456, 14680064, 31457280, 65011712, 134184960, 268418942, 536870911, 1073741823]
theorem almanacref19_Bytes.tab5 : rtab .any (opsOf Try.f22 5) = almanacref19_Bytes.T5 := by kernel_rfl
theorem almanacref19_Bytes.bits5 : waitsOk almanacref19_Bytes.T5.2 almanacref19_Bytes.B5 = true := by kernel_rfl
set_option maxHeartbeats 8000000 in
set_option maxRecDepth 100000 in
theorem almanacref19_Bytes.calls (k : Nat) (A0 : Option Addr) (c0 : Nat) (l0 : List (S25)) (r : ByteArray) (w : World) (hr0 : Kd.C k25 w A0 l0.length l0) (hc0 : l0.length ≤ c0) (h : almanacref19_Bytes.f k l0 = some r) :
    Calls Try.prog 22 #[.slice A0 l0.length c0] w fun e w' => e = .returned (.string r) ∧ Below w.heap.size w w' := by
  have HR0 := Aside0.mk hr0
  have HC0 := Aside0.mk hc0
  clear hr0 hc0
  have HB := Aside0.mk (Below.refl w.heap.size w)
  have H : ((almanacref01_Number.f k (IntKind.u64.wrap ((l0.length : Int)))).bind fun t448 => (almanacref19_Bytes.l0 k l0 t448 0)) = some r := h
  clear h
  replace H := Option.bind_eq_some_iff.mp H
  obtain ⟨t448, A20, H⟩ := H
  replace H : (almanacref19_Bytes.l0 k l0 t448 0) = some r := H
  have A2 := Aside0.mk A20
  clear A20
  have H' := Aside0.mk H
  clear H
  go_enter Try.func22, Try.ntmps22
  go_wp2_with (first | ((with_reducible refine gate_callee (f := 44) rfl ?_); refine goesL_ (some 8) rfl rfl Try.func44 (by kernel_rfl) rfl #[.int .u64 (IntKind.u64.wrap ((l0.length : Int)))] rfl (by (try simp only [List.map_toArray, List.map_cons, List.map_nil]); first | done | rfl | (simp only [List.length_drop, List.length_take]; rfl)) ?_; (with_reducible refine (almanacref01_Number.calls k (IntKind.u64.wrap ((l0.length : Int))) t448 _ A2.out).mono ?_); rintro e w3 ⟨rfl, hb⟩; refine ⟨_, rfl, ?_⟩; have n0_ := Aside0.mk (below_step (by repeat (first | (with_reducible first | exact HB.out | apply below_alloc | apply pw_below_drewN | apply below_drew1) | exact HB.out)) hb); clear HB; have HB := n0_; clear n0_; (try clear hb); (try clear hb2); (try clear hk); (try clear hi)))
  go_loopg [3, 4] k (fun kq v3 v4 w' => ∃ (x3_1 : ByteArray) (x4_1 : Int), v3 = .string x3_1 ∧ v4 = .int .i64 x4_1 ∧ Aside0 (almanacref19_Bytes.l0 kq l0 x3_1 x4_1 = some r) ∧ Aside0 (kq ≤ k) ∧ Aside0 (Below w.heap.size w w'))
  case atStart => exact ⟨(t448), (0), (by first | rfl | (simp; done) | (simp [*]; done)), (by first | rfl | (simp; done) | (simp [*]; done)), H', ⟨Nat.le_refl _⟩, ⟨by repeat (first | (with_reducible first | exact HB.out | apply below_alloc | apply pw_below_drewN | apply below_drew1) | exact HB.out)⟩⟩
  case round =>
    clear H'
    try clear c2
    try clear p2
    obtain ⟨x3_1, x4_1, rfl, rfl, HA, HK1, HB⟩ := hrel
    cases gk with
    | zero => exact absurd HA.out (by simp [almanacref19_Bytes.l0])
    | succ k1 =>
      have H := HA.out
      clear HA
      simp only [almanacref19_Bytes.l0] at H
      by_cases c4 : x4_1 < (l0.length : Int)
      · rw [if_pos c4] at H
        have c4b0 : decide (x4_1 < (l0.length : Int)) = true := decide_eq_true c4
        clear c4
        by_cases c5 : 0 ≤ x4_1
        · rw [if_pos c5] at H
          have c5b0 : decide (0 ≤ x4_1) = true := decide_eq_true c5
          clear c5
          replace H := Option.bind_eq_some_iff.mp H
          obtain ⟨t450, A60, H⟩ := H
          replace H : (if x3_1.size + t450.size ≤ 9223372036854775807 then ((almanacref01_Signed.f k1 ((rd_T25 l0 x4_1).f1)).bind fun t452 => (if (x3_1 ++ t450).size + t452.size ≤ 9223372036854775807 then ((almanacref01_Number.f k1 (IntKind.u64.wrap ((IntKind.u64.wrap ((rd_T25 l0 x4_1).f2)) - (IntKind.u64.wrap ((rd_T25 l0 x4_1).f1))))).bind fun t455 => (if ((x3_1 ++ t450) ++ t452).size + t455.size ≤ 9223372036854775807 then (almanacref19_Bytes.l0 k1 l0 (((x3_1 ++ t450) ++ t452) ++ t455) (wrap64 (x4_1 + 1))) else (none))) else (none))) else (none)) = some r := H
          have A6 := Aside0.mk A60
          clear A60
          by_cases c7 : x3_1.size + t450.size ≤ 9223372036854775807
          · rw [if_pos c7] at H
            have c7b0 := eq_true c7
            have c7b1 : decide (x3_1.size + t450.size ≤ 9223372036854775807) = true := decide_eq_true c7
            try have c7b2 : (9223372036854775807 < x3_1.size + t450.size) = False := eq_false (Nat.not_lt.2 c7)
            replace H := Option.bind_eq_some_iff.mp H
            obtain ⟨t452, A80, H⟩ := H
            replace H : (if (x3_1 ++ t450).size + t452.size ≤ 9223372036854775807 then ((almanacref01_Number.f k1 (IntKind.u64.wrap ((IntKind.u64.wrap ((rd_T25 l0 x4_1).f2)) - (IntKind.u64.wrap ((rd_T25 l0 x4_1).f1))))).bind fun t455 => (if ((x3_1 ++ t450) ++ t452).size + t455.size ≤ 9223372036854775807 then (almanacref19_Bytes.l0 k1 l0 (((x3_1 ++ t450) ++ t452) ++ t455) (wrap64 (x4_1 + 1))) else (none))) else (none)) = some r := H
            have A8 := Aside0.mk A80
            clear A80
            by_cases c9 : (x3_1 ++ t450).size + t452.size ≤ 9223372036854775807
            · rw [if_pos c9] at H
              have c9b0 := eq_true c9
              have c9b1 : decide ((x3_1 ++ t450).size + t452.size ≤ 9223372036854775807) = true := decide_eq_true c9
              have c9s : ((x3_1 ++ t450).size + t452.size ≤ 9223372036854775807) ∧ True := ⟨c9, trivial⟩
              simp only [ByteArray.size_append] at c9s
              have c9t := eq_false (Nat.not_lt.2 c9s.1)
              clear c9s
              try have c9b2 : (9223372036854775807 < (x3_1 ++ t450).size + t452.size) = False := eq_false (Nat.not_lt.2 c9)
              replace H := Option.bind_eq_some_iff.mp H
              obtain ⟨t455, A100, H⟩ := H
              replace H : (if ((x3_1 ++ t450) ++ t452).size + t455.size ≤ 9223372036854775807 then (almanacref19_Bytes.l0 k1 l0 (((x3_1 ++ t450) ++ t452) ++ t455) (wrap64 (x4_1 + 1))) else (none)) = some r := H
              have A10 := Aside0.mk A100
              clear A100
              by_cases c11 : ((x3_1 ++ t450) ++ t452).size + t455.size ≤ 9223372036854775807
              · rw [if_pos c11] at H
                have c11b0 := eq_true c11
                have c11b1 : decide (((x3_1 ++ t450) ++ t452).size + t455.size ≤ 9223372036854775807) = true := decide_eq_true c11
                have c11s : (((x3_1 ++ t450) ++ t452).size + t455.size ≤ 9223372036854775807) ∧ True := ⟨c11, trivial⟩
                simp only [ByteArray.size_append] at c11s
                have c11t := eq_false (Nat.not_lt.2 c11s.1)
                clear c11s
                try have c11b2 : (9223372036854775807 < ((x3_1 ++ t450) ++ t452).size + t455.size) = False := eq_false (Nat.not_lt.2 c11)
                have H' := Aside0.mk H
                clear H
                try go_wp2
                have n0_ := Aside0.mk (below_drew1 HB.out)
                clear HB
                have HB := n0_
                clear n0_
                have p449 : 0 ≤ (x4_1 : Int) := of_decide_eq_true (by first | (with_reducible assumption) | assumption)
                have q449 : x4_1 < (l0.length : Int) := of_decide_eq_true (by first | (with_reducible assumption) | assumption)
                obtain ⟨ad449, e449, hx449_0, hx449_1, hx449_2⟩ := at_T25 HR0.out x4_1 p449 q449
                have hw449_2 := hx449_2
                have hw449_1 := hx449_1
                have hw449_0 := hx449_0
                cases e449
                replace hx449_0 := (HB.out.cell (World.block_lt_of_cell? w _ hx449_0)).trans hx449_0
                replace hx449_1 := (HB.out.cell (World.block_lt_of_cell? w _ hx449_1)).trans hx449_1
                replace hx449_2 := (HB.out.cell (World.block_lt_of_cell? w _ hx449_2)).trans hx449_2
                replace p449 := eq_true p449
                replace q449 := eq_true q449
                have p451 : 0 ≤ (x4_1 : Int) := of_decide_eq_true (by first | (with_reducible assumption) | assumption)
                have q451 : x4_1 < (l0.length : Int) := of_decide_eq_true (by first | (with_reducible assumption) | assumption)
                obtain ⟨ad451, e451, hx451_0, hx451_1, hx451_2⟩ := at_T25 HR0.out x4_1 p451 q451
                have hw451_2 := hx451_2
                have hw451_1 := hx451_1
                have hw451_0 := hx451_0
                obtain rfl : ad449 = ad451 := (by injection e451)
                replace hx451_0 := (HB.out.cell (World.block_lt_of_cell? w _ hx451_0)).trans hx451_0
                replace hx451_1 := (HB.out.cell (World.block_lt_of_cell? w _ hx451_1)).trans hx451_1
                replace hx451_2 := (HB.out.cell (World.block_lt_of_cell? w _ hx451_2)).trans hx451_2
                replace p451 := eq_true p451
                replace q451 := eq_true q451
                have p453 : 0 ≤ (x4_1 : Int) := of_decide_eq_true (by first | (with_reducible assumption) | assumption)
                have q453 : x4_1 < (l0.length : Int) := of_decide_eq_true (by first | (with_reducible assumption) | assumption)
                obtain ⟨ad453, e453, hx453_0, hx453_1, hx453_2⟩ := at_T25 HR0.out x4_1 p453 q453
                have hw453_2 := hx453_2
                have hw453_1 := hx453_1
                have hw453_0 := hx453_0
                obtain rfl : ad449 = ad453 := (by injection e453)
                replace hx453_0 := (HB.out.cell (World.block_lt_of_cell? w _ hx453_0)).trans hx453_0
                replace hx453_1 := (HB.out.cell (World.block_lt_of_cell? w _ hx453_1)).trans hx453_1
                replace hx453_2 := (HB.out.cell (World.block_lt_of_cell? w _ hx453_2)).trans hx453_2
                replace p453 := eq_true p453
                replace q453 := eq_true q453
                have p454 : 0 ≤ (x4_1 : Int) := of_decide_eq_true (by first | (with_reducible assumption) | assumption)
                have q454 : x4_1 < (l0.length : Int) := of_decide_eq_true (by first | (with_reducible assumption) | assumption)
                obtain ⟨ad454, e454, hx454_0, hx454_1, hx454_2⟩ := at_T25 HR0.out x4_1 p454 q454
                have hw454_2 := hx454_2
                have hw454_1 := hx454_1
                have hw454_0 := hx454_0
                obtain rfl : ad449 = ad454 := (by injection e454)
                replace hx454_0 := (HB.out.cell (World.block_lt_of_cell? w _ hx454_0)).trans hx454_0
                replace hx454_1 := (HB.out.cell (World.block_lt_of_cell? w _ hx454_1)).trans hx454_1
                replace hx454_2 := (HB.out.cell (World.block_lt_of_cell? w _ hx454_2)).trans hx454_2
                replace p454 := eq_true p454
                replace q454 := eq_true q454
                refine start_ (n := 31) (S := fun w' => w'.cell? (ad449.add ((x4_1).toNat * 3)) = some (.string ((rd_T25 l0 x4_1).f0)) ∧ w'.cell? ⟨(ad449.add ((x4_1).toNat * 3)).block, (ad449.add ((x4_1).toNat * 3)).off + 1, none⟩ = some (.int .i64 ((rd_T25 l0 x4_1).f1)) ∧ w'.cell? ⟨(ad449.add ((x4_1).toNat * 3)).block, (ad449.add ((x4_1).toNat * 3)).off + 2, none⟩ = some (.int .i64 ((rd_T25 l0 x4_1).f2)) ∧ w'.cell? (ad449.add ((x4_1).toNat * 3)) = some (.string ((rd_T25 l0 x4_1).f0)) ∧ w'.cell? ⟨(ad449.add ((x4_1).toNat * 3)).block, (ad449.add ((x4_1).toNat * 3)).off + 1, none⟩ = some (.int .i64 ((rd_T25 l0 x4_1).f1)) ∧ w'.cell? ⟨(ad449.add ((x4_1).toNat * 3)).block, (ad449.add ((x4_1).toNat * 3)).off + 2, none⟩ = some (.int .i64 ((rd_T25 l0 x4_1).f2)) ∧ w'.cell? (ad449.add ((x4_1).toNat * 3)) = some (.string ((rd_T25 l0 x4_1).f0)) ∧ w'.cell? ⟨(ad449.add ((x4_1).toNat * 3)).block, (ad449.add ((x4_1).toNat * 3)).off + 1, none⟩ = some (.int .i64 ((rd_T25 l0 x4_1).f1)) ∧ w'.cell? ⟨(ad449.add ((x4_1).toNat * 3)).block, (ad449.add ((x4_1).toNat * 3)).off + 2, none⟩ = some (.int .i64 ((rd_T25 l0 x4_1).f2)) ∧ w'.cell? (ad449.add ((x4_1).toNat * 3)) = some (.string ((rd_T25 l0 x4_1).f0)) ∧ w'.cell? ⟨(ad449.add ((x4_1).toNat * 3)).block, (ad449.add ((x4_1).toNat * 3)).off + 1, none⟩ = some (.int .i64 ((rd_T25 l0 x4_1).f1)) ∧ w'.cell? ⟨(ad449.add ((x4_1).toNat * 3)).block, (ad449.add ((x4_1).toNat * 3)).off + 2, none⟩ = some (.int .i64 ((rd_T25 l0 x4_1).f2))) (ds := []) #[false, false, false, false, false, false, false, false, false, false, false, false, false, false, false, false, false, false, false, false, false, false, false, false, false, false, false, false, false, false, false] (by kernel_rfl) rfl rfl ⟨((HB.out.cell (World.block_lt_of_cell? w _ hw449_0)).trans hw449_0), ((HB.out.cell (World.block_lt_of_cell? w _ hw449_1)).trans hw449_1), ((HB.out.cell (World.block_lt_of_cell? w _ hw449_2)).trans hw449_2), ((HB.out.cell (World.block_lt_of_cell? w _ hw451_0)).trans hw451_0), ((HB.out.cell (World.block_lt_of_cell? w _ hw451_1)).trans hw451_1), ((HB.out.cell (World.block_lt_of_cell? w _ hw451_2)).trans hw451_2), ((HB.out.cell (World.block_lt_of_cell? w _ hw453_0)).trans hw453_0), ((HB.out.cell (World.block_lt_of_cell? w _ hw453_1)).trans hw453_1), ((HB.out.cell (World.block_lt_of_cell? w _ hw453_2)).trans hw453_2), ((HB.out.cell (World.block_lt_of_cell? w _ hw454_0)).trans hw454_0), ((HB.out.cell (World.block_lt_of_cell? w _ hw454_1)).trans hw454_1), ((HB.out.cell (World.block_lt_of_cell? w _ hw454_2)).trans hw454_2)⟩ (fun hHeld => ?_); refine with_tabW almanacref19_Bytes.tab5 almanacref19_Bytes.bits5 (fun HT_ HW_ => ?_)
                generalize wr.drew = w12 at HB hx449_0 hx449_1 hx449_2 hx451_0 hx451_1 hx451_2 hx453_0 hx453_1 hx453_2 hx454_0 hx454_1 hx454_2 hHeld ⊢
                refine pure_ (i := 0) (N := some 15) (v := ?_) (a' := ?_) #[true, false, false, false, false, false, false, false, false, false, false, false, false, false, false, false, false, false, false, false, false, false, false, false, false, false, false, false, false, false, false] rfl rfl (any_of HT_.out (by kernel_rfl)) (fun _ _ _ h => h) (Or.inl ⟨by rfl, ?_⟩) ?_ ?_
                rotate_left
                · intro w'
                  go_simp
                  with_reducible rfl
                rotate_left
                · simp only [Act.put, List.setIfInBounds_toArray, List.set_cons_zero, List.set_cons_succ, i64_w, i32_w]
                  rfl
                refine pure_ (i := 1) (N := some 16) (v := ?_) (a' := ?_) #[true, true, false, false, false, false, false, false, false, false, false, false, false, false, false, false, false, false, false, false, false, false, false, false, false, false, false, false, false, false, false] rfl rfl (any_of HT_.out (by kernel_rfl)) (fun _ _ _ h => h) (Or.inl ⟨by rfl, ?_⟩) ?_ ?_
                rotate_left
                · intro w'
                  go_simp
                  with_reducible rfl
                rotate_left
                · simp only [Act.put, List.setIfInBounds_toArray, List.set_cons_zero, List.set_cons_succ, i64_w, i32_w]
                  rfl
                refine pure_ (i := 2) (N := some 17) (v := ?_) (a' := ?_) #[true, true, true, false, false, false, false, false, false, false, false, false, false, false, false, false, false, false, false, false, false, false, false, false, false, false, false, false, false, false, false] rfl rfl (any_of HT_.out (by kernel_rfl)) (fun _ _ _ h => h) (Or.inl ⟨by rfl, ?_⟩) ?_ ?_
                rotate_left
                · intro w'
                  go_simp
                  with_reducible rfl
                rotate_left
                · simp only [Act.put, List.setIfInBounds_toArray, List.set_cons_zero, List.set_cons_succ, i64_w, i32_w]
                  rfl
                refine pure_ (i := 3) (N := some 18) (v := ?_) (a' := ?_) #[true, true, true, true, false, false, false, false, false, false, false, false, false, false, false, false, false, false, false, false, false, false, false, false, false, false, false, false, false, false, false] rfl rfl (any_of HT_.out (by kernel_rfl)) (fun _ _ _ h => h) (Or.inl ⟨by rfl, ?_⟩) ?_ ?_
                rotate_left
                · intro w'
                  go_simp
                  with_reducible rfl
                rotate_left
                · simp only [Act.put, List.setIfInBounds_toArray, List.set_cons_zero, List.set_cons_succ, i64_w, i32_w]
                  rfl
                refine pure_ (i := 4) (N := some 19) (v := ?_) (a' := ?_) #[true, true, true, true, true, false, false, false, false, false, false, false, false, false, false, false, false, false, false, false, false, false, false, false, false, false, false, false, false, false, false] rfl rfl (any_of HT_.out (by kernel_rfl)) (fun _ _ _ h => h) (Or.inl ⟨by rfl, ?_⟩) ?_ ?_
                rotate_left
                · intro w'
                  go_simp
                  with_reducible rfl
                rotate_left
                · simp only [Act.put, List.setIfInBounds_toArray, List.set_cons_zero, List.set_cons_succ, i64_w, i32_w]
                  rfl
                refine pure_ (i := 8) (N := some 23) (v := ?_) (a' := ?_) #[true, true, true, true, true, false, false, false, true, false, false, false, false, false, false, false, false, false, false, false, false, false, false, false, false, false, false, false, false, false, false] rfl rfl (any_of HT_.out (by kernel_rfl)) (fun _ _ _ h => h) (Or.inl ⟨by rfl, ?_⟩) ?_ ?_
                rotate_left
                · intro w'
                  go_simp
                  with_reducible rfl
                rotate_left
                · simp only [Act.put, List.setIfInBounds_toArray, List.set_cons_zero, List.set_cons_succ, i64_w, i32_w]
                  rfl
                refine pure_ (i := 9) (N := some 24) (v := ?_) (a' := ?_) #[true, true, true, true, true, false, false, false, true, true, false, false, false, false, false, false, false, false, false, false, false, false, false, false, false, false, false, false, false, false, false] rfl rfl (any_of HT_.out (by kernel_rfl)) (fun _ _ _ h => h) (Or.inl ⟨by rfl, ?_⟩) ?_ ?_
                rotate_left
                · intro w'
                  go_simp
                  with_reducible rfl
                rotate_left
                · simp only [Act.put, List.setIfInBounds_toArray, List.set_cons_zero, List.set_cons_succ, i64_w, i32_w]
                  rfl
                refine pure_ (i := 10) (N := some 25) (v := ?_) (a' := ?_) #[true, true, true, true, true, false, false, false, true, true, true, false, false, false, false, false, false, false, false, false, false, false, false, false, false, false, false, false, false, false, false] rfl rfl (any_of HT_.out (by kernel_rfl)) (fun _ _ _ h => h) (Or.inl ⟨by rfl, ?_⟩) ?_ ?_
                rotate_left
                · intro w'
                  go_simp
                  with_reducible rfl
                rotate_left
                · simp only [Act.put, List.setIfInBounds_toArray, List.set_cons_zero, List.set_cons_succ, i64_w, i32_w]
                  rfl
                refine pure_ (i := 11) (N := some 26) (v := ?_) (a' := ?_) #[true, true, true, true, true, false, false, false, true, true, true, true, false, false, false, false, false, false, false, false, false, false, false, false, false, false, false, false, false, false, false] rfl rfl (any_of HT_.out (by kernel_rfl)) (fun _ _ _ h => h) (Or.inl ⟨by rfl, ?_⟩) ?_ ?_
                rotate_left
                · intro w'
                  go_simp
                  with_reducible rfl
                rotate_left
                · simp only [Act.put, List.setIfInBounds_toArray, List.set_cons_zero, List.set_cons_succ, i64_w, i32_w]
                  rfl
                refine pure_ (i := 15) (N := some 30) (v := ?_) (a' := ?_) #[true, true, true, true, true, false, false, false, true, true, true, true, false, false, false, true, false, false, false, false, false, false, false, false, false, false, false, false, false, false, false] rfl rfl (any_of HT_.out (by kernel_rfl)) (fun _ _ _ h => h) (Or.inl ⟨by rfl, ?_⟩) ?_ ?_
                rotate_left
                · intro w'
                  go_simp
                  with_reducible rfl
                rotate_left
                · simp only [Act.put, List.setIfInBounds_toArray, List.set_cons_zero, List.set_cons_succ, i64_w, i32_w]
                  rfl
                refine pure_ (i := 16) (N := some 31) (v := ?_) (a' := ?_) #[true, true, true, true, true, false, false, false, true, true, true, true, false, false, false, true, true, false, false, false, false, false, false, false, false, false, false, false, false, false, false] rfl rfl (any_of HT_.out (by kernel_rfl)) (fun _ _ _ h => h) (Or.inl ⟨by rfl, ?_⟩) ?_ ?_
                rotate_left
                · intro w'
                  go_simp
                  with_reducible rfl
                rotate_left
                · simp only [Act.put, List.setIfInBounds_toArray, List.set_cons_zero, List.set_cons_succ, i64_w, i32_w]
                  rfl
                refine pure_ (i := 17) (N := some 32) (v := ?_) (a' := ?_) #[true, true, true, true, true, false, false, false, true, true, true, true, false, false, false, true, true, true, false, false, false, false, false, false, false, false, false, false, false, false, false] rfl rfl (any_of HT_.out (by kernel_rfl)) (fun _ _ _ h => h) (Or.inl ⟨by rfl, ?_⟩) ?_ ?_
                rotate_left
                · intro w'
                  go_simp
                  with_reducible rfl
                rotate_left
                · simp only [Act.put, List.setIfInBounds_toArray, List.set_cons_zero, List.set_cons_succ, i64_w, i32_w]
                  rfl
                refine pure_ (i := 18) (N := some 33) (v := ?_) (a' := ?_) #[true, true, true, true, true, false, false, false, true, true, true, true, false, false, false, true, true, true, true, false, false, false, false, false, false, false, false, false, false, false, false] rfl rfl (any_of HT_.out (by kernel_rfl)) (fun _ _ _ h => h) (Or.inl ⟨by rfl, ?_⟩) ?_ ?_
                rotate_left
                · intro w'
                  go_simp
                  with_reducible rfl
                rotate_left
                · simp only [Act.put, List.setIfInBounds_toArray, List.set_cons_zero, List.set_cons_succ, i64_w, i32_w]
                  rfl
                refine pure_ (i := 21) (N := some 36) (v := ?_) (a' := ?_) #[true, true, true, true, true, false, false, false, true, true, true, true, false, false, false, true, true, true, true, false, false, true, false, false, false, false, false, false, false, false, false] rfl rfl (any_of HT_.out (by kernel_rfl)) (fun _ _ _ h => h) (Or.inl ⟨by rfl, ?_⟩) ?_ ?_
                rotate_left
                · intro w'
                  go_simp
                  with_reducible rfl
                rotate_left
                · simp only [Act.put, List.setIfInBounds_toArray, List.set_cons_zero, List.set_cons_succ, i64_w, i32_w]
                  rfl
                refine pure_ (i := 22) (N := some 37) (v := ?_) (a' := ?_) #[true, true, true, true, true, false, false, false, true, true, true, true, false, false, false, true, true, true, true, false, false, true, true, false, false, false, false, false, false, false, false] rfl rfl (any_of HT_.out (by kernel_rfl)) (fun _ _ _ h => h) (Or.inl ⟨by rfl, ?_⟩) ?_ ?_
                rotate_left
                · intro w'
                  go_simp
                  with_reducible rfl
                rotate_left
                · simp only [Act.put, List.setIfInBounds_toArray, List.set_cons_zero, List.set_cons_succ, i64_w, i32_w]
                  rfl
                refine pure_ (i := 23) (N := some 38) (v := ?_) (a' := ?_) #[true, true, true, true, true, false, false, false, true, true, true, true, false, false, false, true, true, true, true, false, false, true, true, true, false, false, false, false, false, false, false] rfl rfl (any_of HT_.out (by kernel_rfl)) (fun _ _ _ h => h) (Or.inl ⟨by rfl, ?_⟩) ?_ ?_
                rotate_left
                · intro w'
                  go_simp
                  with_reducible rfl
                rotate_left
                · simp only [Act.put, List.setIfInBounds_toArray, List.set_cons_zero, List.set_cons_succ, i64_w, i32_w]
                  rfl
                refine pure_ (i := 24) (N := some 39) (v := ?_) (a' := ?_) #[true, true, true, true, true, false, false, false, true, true, true, true, false, false, false, true, true, true, true, false, false, true, true, true, true, false, false, false, false, false, false] rfl rfl (any_of HT_.out (by kernel_rfl)) (fun _ _ _ h => h) (Or.inl ⟨by rfl, ?_⟩) ?_ ?_
                rotate_left
                · intro w'
                  go_simp
                  with_reducible rfl
                rotate_left
                · simp only [Act.put, List.setIfInBounds_toArray, List.set_cons_zero, List.set_cons_succ, i64_w, i32_w]
                  rfl
                refine take_ (i := 5) (N := some 20) (v := ?_) (a' := ?_) #[true, true, true, true, true, true, false, false, true, true, true, true, false, false, false, true, true, true, true, false, false, true, true, true, true, false, false, false, false, false, false] rfl rfl (take_ofW HT_.out HW_.out (by kernel_rfl)) (fun _ _ _ h => h) (Or.inl ⟨by rfl, ?_⟩) hHeld ?_ ?_
                rotate_left
                · rintro w' ⟨s0, s1, s2, s3, s4, s5, s6, s7, s8, s9, s10, s11⟩
                  go_simp
                  with_reducible rfl
                rotate_left
                · simp only [Act.put, List.setIfInBounds_toArray, List.set_cons_zero, List.set_cons_succ, i64_w, i32_w]
                  rfl
                refine take_ (i := 12) (N := some 27) (v := ?_) (a' := ?_) #[true, true, true, true, true, true, false, false, true, true, true, true, true, false, false, true, true, true, true, false, false, true, true, true, true, false, false, false, false, false, false] rfl rfl (take_ofW HT_.out HW_.out (by kernel_rfl)) (fun _ _ _ h => h) (Or.inl ⟨by rfl, ?_⟩) hHeld ?_ ?_
                rotate_left
                · rintro w' ⟨s0, s1, s2, s3, s4, s5, s6, s7, s8, s9, s10, s11⟩
                  go_simp
                  with_reducible rfl
                rotate_left
                · simp only [Act.put, List.setIfInBounds_toArray, List.set_cons_zero, List.set_cons_succ, i64_w, i32_w]
                  rfl
                refine take_ (i := 19) (N := some 34) (v := ?_) (a' := ?_) #[true, true, true, true, true, true, false, false, true, true, true, true, true, false, false, true, true, true, true, true, false, true, true, true, true, false, false, false, false, false, false] rfl rfl (take_ofW HT_.out HW_.out (by kernel_rfl)) (fun _ _ _ h => h) (Or.inl ⟨by rfl, ?_⟩) hHeld ?_ ?_
                rotate_left
                · rintro w' ⟨s0, s1, s2, s3, s4, s5, s6, s7, s8, s9, s10, s11⟩
                  go_simp
                  with_reducible rfl
                rotate_left
                · simp only [Act.put, List.setIfInBounds_toArray, List.set_cons_zero, List.set_cons_succ, i64_w, i32_w]
                  rfl
                refine pure_ (i := 20) (N := some 35) (v := ?_) (a' := ?_) #[true, true, true, true, true, true, false, false, true, true, true, true, true, false, false, true, true, true, true, true, true, true, true, true, true, false, false, false, false, false, false] rfl rfl (any_of HT_.out (by kernel_rfl)) (fun _ _ _ h => h) (Or.inl ⟨by rfl, ?_⟩) ?_ ?_
                rotate_left
                · intro w'
                  go_simp
                  with_reducible rfl
                rotate_left
                · simp only [Act.put, List.setIfInBounds_toArray, List.set_cons_zero, List.set_cons_succ, i64_w, i32_w]
                  rfl
                refine take_ (i := 25) (N := some 40) (v := ?_) (a' := ?_) #[true, true, true, true, true, true, false, false, true, true, true, true, true, false, false, true, true, true, true, true, true, true, true, true, true, true, false, false, false, false, false] rfl rfl (take_ofW HT_.out HW_.out (by kernel_rfl)) (fun _ _ _ h => h) (Or.inl ⟨by rfl, ?_⟩) hHeld ?_ ?_
                rotate_left
                · rintro w' ⟨s0, s1, s2, s3, s4, s5, s6, s7, s8, s9, s10, s11⟩
                  go_simp
                  with_reducible rfl
                rotate_left
                · simp only [Act.put, List.setIfInBounds_toArray, List.set_cons_zero, List.set_cons_succ, i64_w, i32_w]
                  rfl
                refine pure_ (i := 26) (N := some 41) (v := ?_) (a' := ?_) #[true, true, true, true, true, true, false, false, true, true, true, true, true, false, false, true, true, true, true, true, true, true, true, true, true, true, true, false, false, false, false] rfl rfl (any_of HT_.out (by kernel_rfl)) (fun _ _ _ h => h) (Or.inl ⟨by rfl, ?_⟩) ?_ ?_
                rotate_left
                · intro w'
                  go_simp
                  with_reducible rfl
                rotate_left
                · simp only [Act.put, List.setIfInBounds_toArray, List.set_cons_zero, List.set_cons_succ, i64_w, i32_w]
                  rfl
                refine pure_ (i := 27) (N := some 42) (v := ?_) (a' := ?_) #[true, true, true, true, true, true, false, false, true, true, true, true, true, false, false, true, true, true, true, true, true, true, true, true, true, true, true, true, false, false, false] rfl rfl (any_of HT_.out (by kernel_rfl)) (fun _ _ _ h => h) (Or.inl ⟨by rfl, ?_⟩) ?_ ?_
                rotate_left
                · intro w'
                  go_simp
                  with_reducible rfl
                rotate_left
                · simp only [Act.put, List.setIfInBounds_toArray, List.set_cons_zero, List.set_cons_succ, i64_w, i32_w]
                  rfl
                refine one_ (i := 6) (N := some 21) #[true, true, true, true, true, true, true, false, true, true, true, true, true, false, false, true, true, true, true, true, true, true, true, true, true, true, true, true, false, false, false] rfl rfl (one_of HT_.out (by kernel_rfl)) (by decide) (fun K hK => ?_)
                refine goes_ Try.func45 (by kernel_rfl) rfl #[.string ((rd_T25 l0 x4_1).f0)] (by rfl) rfl rfl (by (try simp only [List.map_toArray, List.map_cons, List.map_nil]); first | done | rfl | (simp only [List.length_drop, List.length_take]; rfl)) ?_
                with_reducible refine (almanacref01_Text.calls k1 ((rd_T25 l0 x4_1).f0) t450 _ A6.out).mono ?_
                rintro e w13 ⟨rfl, hb⟩
                refine ⟨_, rfl, ?_⟩
                have n0_ := Aside0.mk (below_step (by repeat (first | (with_reducible first | exact HB.out | apply below_alloc | apply pw_below_drewN | apply below_drew1) | exact HB.out)) hb)
                clear HB
                have HB := n0_
                clear n0_
                (try clear hb)
                (try clear hb2)
                (try clear hk)
                (try clear hi)
                refine hK.out _ _ ⟨((HB.out.cell (World.block_lt_of_cell? w _ hw449_0)).trans hw449_0), ((HB.out.cell (World.block_lt_of_cell? w _ hw449_1)).trans hw449_1), ((HB.out.cell (World.block_lt_of_cell? w _ hw449_2)).trans hw449_2), ((HB.out.cell (World.block_lt_of_cell? w _ hw451_0)).trans hw451_0), ((HB.out.cell (World.block_lt_of_cell? w _ hw451_1)).trans hw451_1), ((HB.out.cell (World.block_lt_of_cell? w _ hw451_2)).trans hw451_2), ((HB.out.cell (World.block_lt_of_cell? w _ hw453_0)).trans hw453_0), ((HB.out.cell (World.block_lt_of_cell? w _ hw453_1)).trans hw453_1), ((HB.out.cell (World.block_lt_of_cell? w _ hw453_2)).trans hw453_2), ((HB.out.cell (World.block_lt_of_cell? w _ hw454_0)).trans hw454_0), ((HB.out.cell (World.block_lt_of_cell? w _ hw454_1)).trans hw454_1), ((HB.out.cell (World.block_lt_of_cell? w _ hw454_2)).trans hw454_2)⟩ (fun hHeld => ?_)
                clear hK K
                refine norm_ (a' := ?_) ?_ ?_
                rotate_left
                · show Act.put _ (some 21) _ = _
                  simp only [Act.put, List.setIfInBounds_toArray, List.set_cons_zero, List.set_cons_succ, i64_w, i32_w]
                  rfl
                refine pure_ (i := 7) (N := some 22) (v := ?_) (a' := ?_) #[true, true, true, true, true, true, true, true, true, true, true, true, true, false, false, true, true, true, true, true, true, true, true, true, true, true, true, true, false, false, false] rfl rfl (any_of HT_.out (by kernel_rfl)) (fun _ _ _ h => h) (Or.inl ⟨by rfl, ?_⟩) ?_ ?_
                rotate_left
                · intro w'
                  go_simp
                  with_reducible rfl
                rotate_left
                · simp only [Act.put, List.setIfInBounds_toArray, List.set_cons_zero, List.set_cons_succ, i64_w, i32_w]
                  rfl
                refine one_ (i := 13) (N := some 28) #[true, true, true, true, true, true, true, true, true, true, true, true, true, true, false, true, true, true, true, true, true, true, true, true, true, true, true, true, false, false, false] rfl rfl (one_of HT_.out (by kernel_rfl)) (by decide) (fun K hK => ?_)
                refine goes_ Try.func46 (by kernel_rfl) rfl #[.int .i64 ((rd_T25 l0 x4_1).f1)] (by rfl) rfl rfl (by (try simp only [List.map_toArray, List.map_cons, List.map_nil]); first | done | rfl | (simp only [List.length_drop, List.length_take]; rfl)) ?_
                with_reducible refine (almanacref01_Signed.calls k1 ((rd_T25 l0 x4_1).f1) t452 _ A8.out).mono ?_
                rintro e w14 ⟨rfl, hb⟩
                refine ⟨_, rfl, ?_⟩
                have n0_ := Aside0.mk (below_step (by repeat (first | (with_reducible first | exact HB.out | apply below_alloc | apply pw_below_drewN | apply below_drew1) | exact HB.out)) hb)
                clear HB
                have HB := n0_
                clear n0_
                (try clear hb)
                (try clear hb2)
                (try clear hk)
                (try clear hi)
                refine hK.out _ _ ⟨((HB.out.cell (World.block_lt_of_cell? w _ hw449_0)).trans hw449_0), ((HB.out.cell (World.block_lt_of_cell? w _ hw449_1)).trans hw449_1), ((HB.out.cell (World.block_lt_of_cell? w _ hw449_2)).trans hw449_2), ((HB.out.cell (World.block_lt_of_cell? w _ hw451_0)).trans hw451_0), ((HB.out.cell (World.block_lt_of_cell? w _ hw451_1)).trans hw451_1), ((HB.out.cell (World.block_lt_of_cell? w _ hw451_2)).trans hw451_2), ((HB.out.cell (World.block_lt_of_cell? w _ hw453_0)).trans hw453_0), ((HB.out.cell (World.block_lt_of_cell? w _ hw453_1)).trans hw453_1), ((HB.out.cell (World.block_lt_of_cell? w _ hw453_2)).trans hw453_2), ((HB.out.cell (World.block_lt_of_cell? w _ hw454_0)).trans hw454_0), ((HB.out.cell (World.block_lt_of_cell? w _ hw454_1)).trans hw454_1), ((HB.out.cell (World.block_lt_of_cell? w _ hw454_2)).trans hw454_2)⟩ (fun hHeld => ?_)
                clear hK K
                refine norm_ (a' := ?_) ?_ ?_
                rotate_left
                · show Act.put _ (some 28) _ = _
                  simp only [Act.put, List.setIfInBounds_toArray, List.set_cons_zero, List.set_cons_succ, i64_w, i32_w]
                  rfl
                refine pure_ (i := 14) (N := some 29) (v := ?_) (a' := ?_) #[true, true, true, true, true, true, true, true, true, true, true, true, true, true, true, true, true, true, true, true, true, true, true, true, true, true, true, true, false, false, false] rfl rfl (any_of HT_.out (by kernel_rfl)) (fun _ _ _ h => h) (Or.inl ⟨by rfl, ?_⟩) ?_ ?_
                rotate_left
                · intro w'
                  go_simp
                  with_reducible rfl
                rotate_left
                · simp only [Act.put, List.setIfInBounds_toArray, List.set_cons_zero, List.set_cons_succ, i64_w, i32_w]
                  rfl
                refine one_ (i := 28) (N := some 43) #[true, true, true, true, true, true, true, true, true, true, true, true, true, true, true, true, true, true, true, true, true, true, true, true, true, true, true, true, true, false, false] rfl rfl (one_of HT_.out (by kernel_rfl)) (by decide) (fun K hK => ?_)
                refine goes_ Try.func44 (by kernel_rfl) rfl #[.int .u64 (IntKind.u64.wrap ((IntKind.u64.wrap ((rd_T25 l0 x4_1).f2)) - (IntKind.u64.wrap ((rd_T25 l0 x4_1).f1))))] (by rfl) rfl rfl (by (try simp only [List.map_toArray, List.map_cons, List.map_nil]); first | done | rfl | (simp only [List.length_drop, List.length_take]; rfl)) ?_
                with_reducible refine (almanacref01_Number.calls k1 (IntKind.u64.wrap ((IntKind.u64.wrap ((rd_T25 l0 x4_1).f2)) - (IntKind.u64.wrap ((rd_T25 l0 x4_1).f1)))) t455 _ A10.out).mono ?_
                rintro e w15 ⟨rfl, hb⟩
                refine ⟨_, rfl, ?_⟩
                have n0_ := Aside0.mk (below_step (by repeat (first | (with_reducible first | exact HB.out | apply below_alloc | apply pw_below_drewN | apply below_drew1) | exact HB.out)) hb)
                clear HB
                have HB := n0_
                clear n0_
                (try clear hb)
                (try clear hb2)
                (try clear hk)
                (try clear hi)
                refine hK.out _ _ ⟨((HB.out.cell (World.block_lt_of_cell? w _ hw449_0)).trans hw449_0), ((HB.out.cell (World.block_lt_of_cell? w _ hw449_1)).trans hw449_1), ((HB.out.cell (World.block_lt_of_cell? w _ hw449_2)).trans hw449_2), ((HB.out.cell (World.block_lt_of_cell? w _ hw451_0)).trans hw451_0), ((HB.out.cell (World.block_lt_of_cell? w _ hw451_1)).trans hw451_1), ((HB.out.cell (World.block_lt_of_cell? w _ hw451_2)).trans hw451_2), ((HB.out.cell (World.block_lt_of_cell? w _ hw453_0)).trans hw453_0), ((HB.out.cell (World.block_lt_of_cell? w _ hw453_1)).trans hw453_1), ((HB.out.cell (World.block_lt_of_cell? w _ hw453_2)).trans hw453_2), ((HB.out.cell (World.block_lt_of_cell? w _ hw454_0)).trans hw454_0), ((HB.out.cell (World.block_lt_of_cell? w _ hw454_1)).trans hw454_1), ((HB.out.cell (World.block_lt_of_cell? w _ hw454_2)).trans hw454_2)⟩ (fun hHeld => ?_)
                clear hK K
                refine norm_ (a' := ?_) ?_ ?_
                rotate_left
                · show Act.put _ (some 43) _ = _
                  simp only [Act.put, List.setIfInBounds_toArray, List.set_cons_zero, List.set_cons_succ, i64_w, i32_w]
                  rfl
                refine pure_ (i := 29) (N := some 44) (v := ?_) (a' := ?_) #[true, true, true, true, true, true, true, true, true, true, true, true, true, true, true, true, true, true, true, true, true, true, true, true, true, true, true, true, true, true, false] rfl rfl (any_of HT_.out (by kernel_rfl)) (fun _ _ _ h => h) (Or.inl ⟨by rfl, ?_⟩) ?_ ?_
                rotate_left
                · intro w'
                  go_simp
                  with_reducible rfl
                rotate_left
                · simp only [Act.put, List.setIfInBounds_toArray, List.set_cons_zero, List.set_cons_succ, i64_w, i32_w]
                  rfl
                refine pure_ (i := 30) (N := some 3) (v := ?_) (a' := ?_) #[true, true, true, true, true, true, true, true, true, true, true, true, true, true, true, true, true, true, true, true, true, true, true, true, true, true, true, true, true, true, true] rfl rfl (any_of HT_.out (by kernel_rfl)) (fun _ _ _ h => h) (Or.inl ⟨by rfl, ?_⟩) ?_ ?_
                rotate_left
                · intro w'
                  go_simp
                  with_reducible rfl
                rotate_left
                · simp only [Act.put, List.setIfInBounds_toArray, List.set_cons_zero, List.set_cons_succ, i64_w, i32_w]
                  rfl
                refine done_ (done_of HT_.out (by kernel_rfl)) ?_
                try go_wp2
                go_roundg k1
                case measure => have := HK1.out; omega
                case rel => exact ⟨(((x3_1 ++ t450) ++ t452) ++ t455), (wrap64 (x4_1 + 1)), (by first | rfl | (simp; done) | (simp [*]; done)), (by first | rfl | (simp; done) | (simp [*]; done)), H', ⟨by have := HK1.out; omega⟩, ⟨by repeat (first | (with_reducible first | exact HB.out | apply below_alloc | apply pw_below_drewN | apply below_drew1) | exact HB.out)⟩⟩
              · rw [if_neg c11] at H
                exact absurd H (by simp)
            · rw [if_neg c9] at H
              exact absurd H (by simp)
          · rw [if_neg c7] at H
            exact absurd H (by simp)
        · rw [if_neg c5] at H
          exact absurd H (by simp)
      · rw [if_neg c4] at H
        have c4b0 : decide (x4_1 < (l0.length : Int)) = false := decide_eq_false c4
        clear c4
        obtain rfl := Option.some.inj H
        go_wp2
        go_ret
        exact ⟨by first | rfl | (simp [errW_none, errW_some] <;> rfl) | (simp [*, errW_none, errW_some] <;> rfl), by repeat (first | (with_reducible first | exact HB.out | apply below_alloc | apply pw_below_drewN | apply below_drew1) | exact HB.out)⟩

end Go.Proofs.Ythcoiabgemclbaa.PD
-- written by a program of this work (mk.sh, over the kit's print; stubs are proved by hand)
namespace Go.Proofs.Ythcoiabgemclbaa.PD
open Go.RowKit Go.Proofs.YthcoiabgemclbaaW.PrintWords Go.Proofs.YthcoiabgemclbaaW.PrintLast Go.Proofs.YthcoiabgemclbaaW.PrintMore
attribute [local go_sem] isSome_setCell max2_int min2_int max_two min_two max_three min_three max_four min_four   -- for this text's walks alone
set_option linter.unusedVariables false
set_option linter.unusedSimpArgs false

/-! ### almanaclaw19_SpanBytes: function 5 -/
def almanaclaw19_SpanBytes.j0 : Nat → List (S25) → Bool → Option (Bool)
  | 0, _, _ => none
  | k + 1, x0, x39 => if x39 = true then (some false) else ((almanacref19_Fit.f k x0).bind fun t466 => (if t466 = true then ((span_Bytes.f k x0).bind fun t468 => ((span_Read.f t468).bind fun bt469 => ((almanacref19_Bytes.f k x0).bind fun t473 => (if t468.toList = t473.toList then (if bt469.2 = 0 then ((almanacref19_Same.f k bt469.1 x0).bind fun t474 => (if t474 = true then ((almanaclaw19_awake.f k).bind fun t475 => (some t475)) else (some false))) else (some false)) else (some false))))) else ((almanaclaw19_awake.f k).bind fun t467 => (some t467))))
def almanaclaw19_SpanBytes.f (k : Nat) (l0 : List (S25)) (a1 : ByteArray) : Option (Bool) := (span_Read.f a1).bind fun bt456 => ((almanacref19_Read.f k a1).bind fun bt460 => ((almanacref19_Same.f k bt456.1 bt460.1).bind fun t464 => (if t464 = true then (if bt456.2 = bt460.2 then (if bt456.2 = 0 then ((span_Bytes.f k bt456.1).bind fun t465 => (almanaclaw19_SpanBytes.j0 k l0 (t465.toList != a1.toList))) else (almanaclaw19_SpanBytes.j0 k l0 false)) else (almanaclaw19_SpanBytes.j0 k l0 true)) else (almanaclaw19_SpanBytes.j0 k l0 true))))
theorem almanaclaw19_SpanBytes.mono_l : ∀ k, (∀ y0 y1, LeO (almanaclaw19_SpanBytes.j0 k y0 y1) (almanaclaw19_SpanBytes.j0 (k + 1) y0 y1))
  | 0 => fun _ _ r h => by simp [almanaclaw19_SpanBytes.j0] at h
  | k + 1 => by
    have ih0 := almanaclaw19_SpanBytes.mono_l k
    · intro y0 y1
      unfold almanaclaw19_SpanBytes.j0
      repeat' first
      | (with_reducible exact ih0 _ _)
      | (with_reducible exact almanaclaw19_awake.mono _)
      | (with_reducible exact almanacref19_Bytes.mono _ _)
      | (with_reducible exact almanacref19_Fit.mono _ _)
      | (with_reducible exact almanacref19_Read.mono _ _)
      | (with_reducible exact almanacref19_Same.mono _ _ _)
      | (with_reducible exact span_Bytes.mono _ _)
      | (with_reducible exact LeO.refl _)
      | (with_reducible exact LeO.none _)
      | (with_reducible refine LeO.ite ?_ ?_)
      | (with_reducible refine LeO.bind ?_ (fun _ => ?_))
      | exact ih0 _ _
      | exact almanaclaw19_awake.mono _
      | exact almanacref19_Bytes.mono _ _
      | exact almanacref19_Fit.mono _ _
      | exact almanacref19_Read.mono _ _
      | exact almanacref19_Same.mono _ _ _
      | exact span_Bytes.mono _ _
      | exact LeO.none _
      | refine LeO.ite ?_ ?_
      | refine LeO.bind ?_ (fun _ => ?_)
theorem almanaclaw19_SpanBytes.mono : ∀ a0 a1 k, LeO (almanaclaw19_SpanBytes.f k a0 a1) (almanaclaw19_SpanBytes.f (k + 1) a0 a1) := by
  intro a0 a1 k
  have ih0 := almanaclaw19_SpanBytes.mono_l k
  unfold almanaclaw19_SpanBytes.f
  repeat' first
      | (with_reducible exact ih0 _ _)
      | (with_reducible exact almanaclaw19_awake.mono _)
      | (with_reducible exact almanacref19_Bytes.mono _ _)
      | (with_reducible exact almanacref19_Fit.mono _ _)
      | (with_reducible exact almanacref19_Read.mono _ _)
      | (with_reducible exact almanacref19_Same.mono _ _ _)
      | (with_reducible exact span_Bytes.mono _ _)
      | (with_reducible exact LeO.refl _)
      | (with_reducible exact LeO.none _)
      | (with_reducible refine LeO.ite ?_ ?_)
      | (with_reducible refine LeO.bind ?_ (fun _ => ?_))
      | exact ih0 _ _
      | exact almanaclaw19_awake.mono _
      | exact almanacref19_Bytes.mono _ _
      | exact almanacref19_Fit.mono _ _
      | exact almanacref19_Read.mono _ _
      | exact almanacref19_Same.mono _ _ _
      | exact span_Bytes.mono _ _
      | exact LeO.none _
      | refine LeO.ite ?_ ?_
      | refine LeO.bind ?_ (fun _ => ?_)
set_option maxHeartbeats 8000000 in
set_option maxRecDepth 100000 in
theorem almanaclaw19_SpanBytes.callsT (k : Nat) (A0 : Option Addr) (c0 : Nat) (l0 : List (S25)) (a1 : ByteArray) (r : Bool) (w : World) (hr0 : Kd.C k25 w A0 l0.length l0) (hc0 : l0.length ≤ c0) (h : almanaclaw19_SpanBytes.f k l0 a1 = some r) (hr : r = true) :
    Calls Try.prog 5 #[.slice A0 l0.length c0, .string a1] w fun e w' => e = .returned (.bool r) ∧ Below w.heap.size w w' := by
  have HRT := Aside0.mk hr
  clear hr
  have HR0 := Aside0.mk hr0
  have HC0 := Aside0.mk hc0
  clear hr0 hc0
  have HB := Aside0.mk (Below.refl w.heap.size w)
  have H : ((span_Read.f a1).bind fun bt456 => ((almanacref19_Read.f k a1).bind fun bt460 => ((almanacref19_Same.f k bt456.1 bt460.1).bind fun t464 => (if t464 = true then (if bt456.2 = bt460.2 then (if bt456.2 = 0 then ((span_Bytes.f k bt456.1).bind fun t465 => (almanaclaw19_SpanBytes.j0 k l0 (t465.toList != a1.toList))) else (almanaclaw19_SpanBytes.j0 k l0 false)) else (almanaclaw19_SpanBytes.j0 k l0 true)) else (almanaclaw19_SpanBytes.j0 k l0 true))))) = some r := h
  clear h
  replace H := Option.bind_eq_some_iff.mp H
  obtain ⟨⟨t456, t457⟩, A30, H⟩ := H
  replace H : ((almanacref19_Read.f k a1).bind fun bt460 => ((almanacref19_Same.f k t456 bt460.1).bind fun t464 => (if t464 = true then (if t457 = bt460.2 then (if t457 = 0 then ((span_Bytes.f k t456).bind fun t465 => (almanaclaw19_SpanBytes.j0 k l0 (t465.toList != a1.toList))) else (almanaclaw19_SpanBytes.j0 k l0 false)) else (almanaclaw19_SpanBytes.j0 k l0 true)) else (almanaclaw19_SpanBytes.j0 k l0 true)))) = some r := H
  have A3 := Aside0.mk A30
  clear A30
  replace H := Option.bind_eq_some_iff.mp H
  obtain ⟨⟨t460, t461⟩, A40, H⟩ := H
  replace H : ((almanacref19_Same.f k t456 t460).bind fun t464 => (if t464 = true then (if t457 = t461 then (if t457 = 0 then ((span_Bytes.f k t456).bind fun t465 => (almanaclaw19_SpanBytes.j0 k l0 (t465.toList != a1.toList))) else (almanaclaw19_SpanBytes.j0 k l0 false)) else (almanaclaw19_SpanBytes.j0 k l0 true)) else (almanaclaw19_SpanBytes.j0 k l0 true))) = some r := H
  have A4 := Aside0.mk A40
  clear A40
  have HC5 := Aside0.mk H
  clear H
  go_enter Try.func5, Try.ntmps5
  go_upto_region 3 with (first | ((with_reducible refine gate_callee (f := 19) rfl ?_); refine goesL_ (some 13) rfl rfl Try.func19 (by kernel_rfl) rfl #[.string a1] rfl (by (try simp only [List.map_toArray, List.map_cons, List.map_nil]); first | done | rfl | (simp only [List.length_drop, List.length_take]; rfl)) ?_; (with_reducible refine (span_Read.calls a1 t456 t457 _ A3.out).mono ?_); rintro e w6 ⟨v458, rfl, ho0, hb⟩; refine ⟨_, rfl, ?_⟩; have n0_ := Aside0.mk (Kd.R_lower ho0 (below_size (by repeat (first | (with_reducible first | exact HB.out | apply below_alloc | apply pw_below_drewN | apply below_drew1) | exact HB.out)))); have n1_ := Aside0.mk (below_step (by repeat (first | (with_reducible first | exact HB.out | apply below_alloc | apply pw_below_drewN | apply below_drew1) | exact HB.out)) hb); clear HB; have HO459 := n0_; have HB := n1_; clear n0_ n1_; (try clear hb); (try clear hb2); (try clear hk); (try clear hi); (try clear ho0)) | ((with_reducible refine gate_callee (f := 20) rfl ?_); refine goesL_ (some 18) rfl rfl Try.func20 (by kernel_rfl) rfl #[.string a1] rfl (by (try simp only [List.map_toArray, List.map_cons, List.map_nil]); first | done | rfl | (simp only [List.length_drop, List.length_take]; rfl)) ?_; (with_reducible refine (almanacref19_Read.calls k a1 t460 t461 _ A4.out).mono ?_); rintro e w7 ⟨v462, rfl, ho0, hb⟩; refine ⟨_, rfl, ?_⟩; have n0_ := Aside0.mk (Kd.R_elder' (by (with_reducible repeat (first | apply Kd.R_alloc | apply Kd.R_drewN | apply Kd.R_drew)); exact HO459.out) (Kd.R_base ho0) hb); have n1_ := Aside0.mk (Kd.R_lower (Kd.R_new' ho0 (Kd.R_lt (by (with_reducible repeat (first | apply Kd.R_alloc | apply Kd.R_drewN | apply Kd.R_drew)); exact HO459.out))) (below_size (by repeat (first | (with_reducible first | exact HB.out | apply below_alloc | apply pw_below_drewN | apply below_drew1) | exact HB.out)))); have n2_ := Aside0.mk (below_step (by repeat (first | (with_reducible first | exact HB.out | apply below_alloc | apply pw_below_drewN | apply below_drew1) | exact HB.out)) hb); clear HO459; clear HB; have HO459 := n0_; have HO463 := n1_; have HB := n2_; clear n0_ n1_ n2_; (try clear hb); (try clear hb2); (try clear hk); (try clear hi); (try clear ho0)))
  (try simp only [Act.put, List.setIfInBounds_toArray, List.set_cons_zero, List.set_cons_succ])
  go_cut [39] (fun v39 wc => ∃ (kq : Nat) (x39_4 : Bool), v39 = .bool x39_4 ∧ Aside0 (almanaclaw19_SpanBytes.j0 kq l0 x39_4 = some r) ∧ Aside0 (kq ≤ k) ∧ Aside0 (Below w.heap.size w wc))
  case first =>
    have H := HC5.out
    clear HC5
    replace H := Option.bind_eq_some_iff.mp H
    obtain ⟨t464, A80, H⟩ := H
    replace H : (if t464 = true then (if t457 = t461 then (if t457 = 0 then ((span_Bytes.f k t456).bind fun t465 => (almanaclaw19_SpanBytes.j0 k l0 (t465.toList != a1.toList))) else (almanaclaw19_SpanBytes.j0 k l0 false)) else (almanaclaw19_SpanBytes.j0 k l0 true)) else (almanaclaw19_SpanBytes.j0 k l0 true)) = some r := H
    have A8 := Aside0.mk A80
    clear A80
    by_cases c9 : t464 = true
    · subst c9
      have H1 : (if t457 = t461 then (if t457 = 0 then ((span_Bytes.f k t456).bind fun t465 => (almanaclaw19_SpanBytes.j0 k l0 (t465.toList != a1.toList))) else (almanaclaw19_SpanBytes.j0 k l0 false)) else (almanaclaw19_SpanBytes.j0 k l0 true)) = some r := by rw [if_pos rfl] at H; exact H
      clear H
      have H := H1
      clear H1
      by_cases c10 : t457 = t461
      · rw [if_pos c10] at H
        have c10b0 : (t457 == t461) = true := beq_iff_eq.mpr c10
        have c10b1 : (t457 != t461) = false := bne_eq_false_iff_eq.mpr c10
        clear c10
        (first | rw [c10b0] | (simp only [i64_w, i32_w]; rw [c10b0]) | skip)
        by_cases c11 : t457 = 0
        · rw [if_pos c11] at H
          have c11b0 : (t457 == 0) = true := beq_iff_eq.mpr c11
          have c11b1 : (t457 != 0) = false := bne_eq_false_iff_eq.mpr c11
          clear c11
          replace H := Option.bind_eq_some_iff.mp H
          obtain ⟨t465, A120, H⟩ := H
          replace H : (almanaclaw19_SpanBytes.j0 k l0 (t465.toList != a1.toList)) = some r := H
          have A12 := Aside0.mk A120
          clear A120
          have H' := Aside0.mk H
          clear H
          obtain ⟨Ao13, co13, eo13⟩ := Kd.R_slice HO459.out
          subst eo13
          obtain ⟨Ao14, co14, eo14⟩ := Kd.R_slice HO463.out
          subst eo14
          go_wp2_with (first | ((with_reducible refine gate_callee (f := 9) rfl ?_); refine goesL_ (some 23) rfl rfl Try.func9 (by kernel_rfl) rfl #[.slice Ao13 t456.length co13, .slice Ao14 t460.length co14] rfl (by (try simp only [List.map_toArray, List.map_cons, List.map_nil]); first | done | rfl | (simp only [List.length_drop, List.length_take]; rfl)) ?_; (with_reducible refine (almanacref19_Same.calls k _ _ t456 _ _ t460 true _ ?side1 ?side2 ?side3 ?side4 A8.out).mono ?_); (case side1 => repeat (first | exact (Kd.R_reads' HO459.out).2.2 | (with_reducible refine Kd.C_alloc ?_ _) | (with_reducible refine Kd.C_drewN ?_ _) | (with_reducible refine Kd.C_drew ?_))); (case side2 => exact (Kd.R_reads' HO459.out).2.1); (case side3 => repeat (first | exact (Kd.R_reads' HO463.out).2.2 | (with_reducible refine Kd.C_alloc ?_ _) | (with_reducible refine Kd.C_drewN ?_ _) | (with_reducible refine Kd.C_drew ?_))); (case side4 => exact (Kd.R_reads' HO463.out).2.1); rintro e w' ⟨rfl, ⟨nd, rfl⟩⟩; refine ⟨_, rfl, ?_⟩) | (go_at_call 21; (with_reducible refine (span_Bytes.calls k _ _ t456 t465 _ ?side1 ?side2 A12.out).mono ?_); (case side1 => repeat (first | exact (Kd.R_reads' HO459.out).2.2 | (with_reducible refine Kd.C_alloc ?_ _) | (with_reducible refine Kd.C_drewN ?_ _) | (with_reducible refine Kd.C_drew ?_))); (case side2 => exact (Kd.R_reads' HO459.out).2.1); rintro e w15 ⟨rfl, hb⟩; have n0_ := Aside0.mk (Kd.R_below (by (with_reducible repeat (first | apply Kd.R_alloc | apply Kd.R_drewN | apply Kd.R_drew)); exact HO459.out) hb); have n1_ := Aside0.mk (Kd.R_below (by (with_reducible repeat (first | apply Kd.R_alloc | apply Kd.R_drewN | apply Kd.R_drew)); exact HO463.out) hb); have n2_ := Aside0.mk (below_step (by repeat (first | (with_reducible first | exact HB.out | apply below_alloc | apply pw_below_drewN | apply below_drew1) | exact HB.out)) hb); clear HO459; clear HO463; clear HB; have HO459 := n0_; have HO463 := n1_; have HB := n2_; clear n0_ n1_ n2_; (try clear hb); (try clear hb2); (try clear hk); (try clear hi)))
          go_meet
          case rel => exact ⟨_, ((t465.toList != a1.toList)), (by first | rfl | (simp; done) | (simp [*]; done)), H', ⟨by first | omega | exact Nat.le_refl _⟩, ⟨by repeat (first | (with_reducible first | exact HB.out | apply below_alloc | apply pw_below_drewN | apply below_drew1) | exact HB.out)⟩⟩
        · rw [if_neg c11] at H
          have c11b0 : (t457 == 0) = false := beq_eq_false_iff_ne.mpr c11
          have c11b1 : (t457 != 0) = true := bne_iff_ne.mpr c11
          have H' := Aside0.mk H
          clear H
          obtain ⟨Ao16, co16, eo16⟩ := Kd.R_slice HO459.out
          subst eo16
          obtain ⟨Ao17, co17, eo17⟩ := Kd.R_slice HO463.out
          subst eo17
          go_wp2_with (first | ((with_reducible refine gate_callee (f := 9) rfl ?_); refine goesL_ (some 23) rfl rfl Try.func9 (by kernel_rfl) rfl #[.slice Ao16 t456.length co16, .slice Ao17 t460.length co17] rfl (by (try simp only [List.map_toArray, List.map_cons, List.map_nil]); first | done | rfl | (simp only [List.length_drop, List.length_take]; rfl)) ?_; (with_reducible refine (almanacref19_Same.calls k _ _ t456 _ _ t460 true _ ?side1 ?side2 ?side3 ?side4 A8.out).mono ?_); (case side1 => repeat (first | exact (Kd.R_reads' HO459.out).2.2 | (with_reducible refine Kd.C_alloc ?_ _) | (with_reducible refine Kd.C_drewN ?_ _) | (with_reducible refine Kd.C_drew ?_))); (case side2 => exact (Kd.R_reads' HO459.out).2.1); (case side3 => repeat (first | exact (Kd.R_reads' HO463.out).2.2 | (with_reducible refine Kd.C_alloc ?_ _) | (with_reducible refine Kd.C_drewN ?_ _) | (with_reducible refine Kd.C_drew ?_))); (case side4 => exact (Kd.R_reads' HO463.out).2.1); rintro e w' ⟨rfl, ⟨nd, rfl⟩⟩; refine ⟨_, rfl, ?_⟩))
          go_meet
          case rel => exact ⟨_, (false), (by first | rfl | (simp; done) | (simp [*]; done)), H', ⟨by first | omega | exact Nat.le_refl _⟩, ⟨by repeat (first | (with_reducible first | exact HB.out | apply below_alloc | apply pw_below_drewN | apply below_drew1) | exact HB.out)⟩⟩
      · rw [if_neg c10] at H
        have c10b0 : (t457 == t461) = false := beq_eq_false_iff_ne.mpr c10
        have c10b1 : (t457 != t461) = true := bne_iff_ne.mpr c10
        (first | rw [c10b0] | (simp only [i64_w, i32_w]; rw [c10b0]) | skip)
        have H' := Aside0.mk H
        clear H
        obtain ⟨Ao18, co18, eo18⟩ := Kd.R_slice HO459.out
        subst eo18
        obtain ⟨Ao19, co19, eo19⟩ := Kd.R_slice HO463.out
        subst eo19
        go_wp2_with (first | ((with_reducible refine gate_callee (f := 9) rfl ?_); refine goesL_ (some 23) rfl rfl Try.func9 (by kernel_rfl) rfl #[.slice Ao18 t456.length co18, .slice Ao19 t460.length co19] rfl (by (try simp only [List.map_toArray, List.map_cons, List.map_nil]); first | done | rfl | (simp only [List.length_drop, List.length_take]; rfl)) ?_; (with_reducible refine (almanacref19_Same.calls k _ _ t456 _ _ t460 true _ ?side1 ?side2 ?side3 ?side4 A8.out).mono ?_); (case side1 => repeat (first | exact (Kd.R_reads' HO459.out).2.2 | (with_reducible refine Kd.C_alloc ?_ _) | (with_reducible refine Kd.C_drewN ?_ _) | (with_reducible refine Kd.C_drew ?_))); (case side2 => exact (Kd.R_reads' HO459.out).2.1); (case side3 => repeat (first | exact (Kd.R_reads' HO463.out).2.2 | (with_reducible refine Kd.C_alloc ?_ _) | (with_reducible refine Kd.C_drewN ?_ _) | (with_reducible refine Kd.C_drew ?_))); (case side4 => exact (Kd.R_reads' HO463.out).2.1); rintro e w' ⟨rfl, ⟨nd, rfl⟩⟩; refine ⟨_, rfl, ?_⟩))
        go_meet
        case rel => exact ⟨_, (true), (by first | rfl | (simp; done) | (simp [*]; done)), H', ⟨by first | omega | exact Nat.le_refl _⟩, ⟨by repeat (first | (with_reducible first | exact HB.out | apply below_alloc | apply pw_below_drewN | apply below_drew1) | exact HB.out)⟩⟩
    · replace c9 := Bool.eq_false_iff.mpr c9
      subst c9
      have H1 : (almanaclaw19_SpanBytes.j0 k l0 true) = some r := by rw [if_neg (show ¬ (false = true) by decide)] at H; exact H
      clear H
      have H := H1
      clear H1
      have H' := Aside0.mk H
      clear H
      obtain ⟨Ao20, co20, eo20⟩ := Kd.R_slice HO459.out
      subst eo20
      obtain ⟨Ao21, co21, eo21⟩ := Kd.R_slice HO463.out
      subst eo21
      go_wp2_with (first | ((with_reducible refine gate_callee (f := 9) rfl ?_); refine goesL_ (some 23) rfl rfl Try.func9 (by kernel_rfl) rfl #[.slice Ao20 t456.length co20, .slice Ao21 t460.length co21] rfl (by (try simp only [List.map_toArray, List.map_cons, List.map_nil]); first | done | rfl | (simp only [List.length_drop, List.length_take]; rfl)) ?_; (with_reducible refine (almanacref19_Same.calls k _ _ t456 _ _ t460 false _ ?side1 ?side2 ?side3 ?side4 A8.out).mono ?_); (case side1 => repeat (first | exact (Kd.R_reads' HO459.out).2.2 | (with_reducible refine Kd.C_alloc ?_ _) | (with_reducible refine Kd.C_drewN ?_ _) | (with_reducible refine Kd.C_drew ?_))); (case side2 => exact (Kd.R_reads' HO459.out).2.1); (case side3 => repeat (first | exact (Kd.R_reads' HO463.out).2.2 | (with_reducible refine Kd.C_alloc ?_ _) | (with_reducible refine Kd.C_drewN ?_ _) | (with_reducible refine Kd.C_drew ?_))); (case side4 => exact (Kd.R_reads' HO463.out).2.1); rintro e w' ⟨rfl, ⟨nd, rfl⟩⟩; refine ⟨_, rfl, ?_⟩))
      go_meet
      case rel => exact ⟨_, (true), (by first | rfl | (simp; done) | (simp [*]; done)), H', ⟨by first | omega | exact Nat.le_refl _⟩, ⟨by repeat (first | (with_reducible first | exact HB.out | apply below_alloc | apply pw_below_drewN | apply below_drew1) | exact HB.out)⟩⟩
  case rest =>
    clear HC5
    try clear c1
    try clear c2
    try clear p2
    try clear c5
    try clear c9
    try clear c10
    try clear c10b0
    try clear c10b1
    try clear c11
    try clear c11b0
    try clear c11b1
    try clear c19
    try clear c20
    obtain ⟨kq, x39_4, rfl, HA, HJ4, HB⟩ := hcut
    cases kq with
    | zero => exact absurd HA.out (by simp [almanaclaw19_SpanBytes.j0])
    | succ kj4 =>
      have H := HA.out
      clear HA
      simp only [almanaclaw19_SpanBytes.j0] at H
      by_cases c22 : x39_4 = true
      · subst c22
        have H1 : (some false) = some r := by rw [if_pos rfl] at H; exact H
        clear H
        have H := H1
        clear H1
        exact absurd ((Option.some.inj H).trans HRT.out) (by decide)
      · replace c22 := Bool.eq_false_iff.mpr c22
        subst c22
        have H1 : ((almanacref19_Fit.f kj4 l0).bind fun t466 => (if t466 = true then ((span_Bytes.f kj4 l0).bind fun t468 => ((span_Read.f t468).bind fun bt469 => ((almanacref19_Bytes.f kj4 l0).bind fun t473 => (if t468.toList = t473.toList then (if bt469.2 = 0 then ((almanacref19_Same.f kj4 bt469.1 l0).bind fun t474 => (if t474 = true then ((almanaclaw19_awake.f kj4).bind fun t475 => (some t475)) else (some false))) else (some false)) else (some false))))) else ((almanaclaw19_awake.f kj4).bind fun t467 => (some t467)))) = some r := by rw [if_neg (show ¬ (false = true) by decide)] at H; exact H
        clear H
        have H := H1
        clear H1
        replace H := Option.bind_eq_some_iff.mp H
        obtain ⟨t466, A230, H⟩ := H
        replace H : (if t466 = true then ((span_Bytes.f kj4 l0).bind fun t468 => ((span_Read.f t468).bind fun bt469 => ((almanacref19_Bytes.f kj4 l0).bind fun t473 => (if t468.toList = t473.toList then (if bt469.2 = 0 then ((almanacref19_Same.f kj4 bt469.1 l0).bind fun t474 => (if t474 = true then ((almanaclaw19_awake.f kj4).bind fun t475 => (some t475)) else (some false))) else (some false)) else (some false))))) else ((almanaclaw19_awake.f kj4).bind fun t467 => (some t467))) = some r := H
        have A23 := Aside0.mk A230
        clear A230
        by_cases c24 : t466 = true
        · subst c24
          have H1 : ((span_Bytes.f kj4 l0).bind fun t468 => ((span_Read.f t468).bind fun bt469 => ((almanacref19_Bytes.f kj4 l0).bind fun t473 => (if t468.toList = t473.toList then (if bt469.2 = 0 then ((almanacref19_Same.f kj4 bt469.1 l0).bind fun t474 => (if t474 = true then ((almanaclaw19_awake.f kj4).bind fun t475 => (some t475)) else (some false))) else (some false)) else (some false))))) = some r := by rw [if_pos rfl] at H; exact H
          clear H
          have H := H1
          clear H1
          replace H := Option.bind_eq_some_iff.mp H
          obtain ⟨t468, A250, H⟩ := H
          replace H : ((span_Read.f t468).bind fun bt469 => ((almanacref19_Bytes.f kj4 l0).bind fun t473 => (if t468.toList = t473.toList then (if bt469.2 = 0 then ((almanacref19_Same.f kj4 bt469.1 l0).bind fun t474 => (if t474 = true then ((almanaclaw19_awake.f kj4).bind fun t475 => (some t475)) else (some false))) else (some false)) else (some false)))) = some r := H
          have A25 := Aside0.mk A250
          clear A250
          replace H := Option.bind_eq_some_iff.mp H
          obtain ⟨⟨t469, t470⟩, A260, H⟩ := H
          replace H : ((almanacref19_Bytes.f kj4 l0).bind fun t473 => (if t468.toList = t473.toList then (if t470 = 0 then ((almanacref19_Same.f kj4 t469 l0).bind fun t474 => (if t474 = true then ((almanaclaw19_awake.f kj4).bind fun t475 => (some t475)) else (some false))) else (some false)) else (some false))) = some r := H
          have A26 := Aside0.mk A260
          clear A260
          replace H := Option.bind_eq_some_iff.mp H
          obtain ⟨t473, A270, H⟩ := H
          replace H : (if t468.toList = t473.toList then (if t470 = 0 then ((almanacref19_Same.f kj4 t469 l0).bind fun t474 => (if t474 = true then ((almanaclaw19_awake.f kj4).bind fun t475 => (some t475)) else (some false))) else (some false)) else (some false)) = some r := H
          have A27 := Aside0.mk A270
          clear A270
          by_cases c28 : t468.toList = t473.toList
          · rw [if_pos c28] at H
            have c28b0 : (t468.toList == t473.toList) = true := beq_iff_eq.mpr c28
            have c28b1 : (t468.toList != t473.toList) = false := bne_eq_false_iff_eq.mpr c28
            clear c28
            by_cases c29 : t470 = 0
            · rw [if_pos c29] at H
              have c29b0 : (t470 == 0) = true := beq_iff_eq.mpr c29
              have c29b1 : (t470 != 0) = false := bne_eq_false_iff_eq.mpr c29
              clear c29
              replace H := Option.bind_eq_some_iff.mp H
              obtain ⟨t474, A300, H⟩ := H
              replace H : (if t474 = true then ((almanaclaw19_awake.f kj4).bind fun t475 => (some t475)) else (some false)) = some r := H
              have A30 := Aside0.mk A300
              clear A300
              by_cases c31 : t474 = true
              · subst c31
                have H1 : ((almanaclaw19_awake.f kj4).bind fun t475 => (some t475)) = some r := by rw [if_pos rfl] at H; exact H
                clear H
                have H := H1
                clear H1
                replace H := Option.bind_eq_some_iff.mp H
                obtain ⟨t475, A320, H⟩ := H
                replace H : (some t475) = some r := H
                have A32 := Aside0.mk A320
                clear A320
                obtain rfl := Option.some.inj H
                go_wp2_with (first | ((with_reducible refine gate_callee (f := 12) rfl ?_); refine goesL_ (some 41) rfl rfl Try.func12 (by kernel_rfl) rfl #[.slice A0 l0.length c0] rfl (by (try simp only [List.map_toArray, List.map_cons, List.map_nil]); first | done | rfl | (simp only [List.length_drop, List.length_take]; rfl)) ?_; (with_reducible refine (almanacref19_Fit.calls kj4 _ _ l0 true _ ?side1 ?side2 A23.out).mono ?_); (case side1 => repeat (first | exact (Kd.C_below HR0.out HB.out) | (with_reducible refine Kd.C_alloc ?_ _) | (with_reducible refine Kd.C_drewN ?_ _) | (with_reducible refine Kd.C_drew ?_))); (case side2 => exact HC0.out); rintro e w33 ⟨rfl, hb⟩; refine ⟨_, rfl, ?_⟩; have n0_ := Aside0.mk (below_step (by repeat (first | (with_reducible first | exact HB.out | apply below_alloc | apply pw_below_drewN | apply below_drew1) | exact HB.out)) hb); clear HB; have HB := n0_; clear n0_; (try clear hb); (try clear hb2); (try clear hk); (try clear hi)) | ((with_reducible refine gate_callee (f := 21) rfl ?_); refine goesL_ (some 45) rfl rfl Try.func21 (by kernel_rfl) rfl #[.slice A0 l0.length c0] rfl (by (try simp only [List.map_toArray, List.map_cons, List.map_nil]); first | done | rfl | (simp only [List.length_drop, List.length_take]; rfl)) ?_; (with_reducible refine (span_Bytes.calls kj4 _ _ l0 t468 _ ?side1 ?side2 A25.out).mono ?_); (case side1 => repeat (first | exact (Kd.C_below HR0.out HB.out) | (with_reducible refine Kd.C_alloc ?_ _) | (with_reducible refine Kd.C_drewN ?_ _) | (with_reducible refine Kd.C_drew ?_))); (case side2 => exact HC0.out); rintro e w34 ⟨rfl, hb⟩; refine ⟨_, rfl, ?_⟩; have n0_ := Aside0.mk (below_step (by repeat (first | (with_reducible first | exact HB.out | apply below_alloc | apply pw_below_drewN | apply below_drew1) | exact HB.out)) hb); clear HB; have HB := n0_; clear n0_; (try clear hb); (try clear hb2); (try clear hk); (try clear hi)) | ((with_reducible refine gate_callee (f := 19) rfl ?_); refine goesL_ (some 48) rfl rfl Try.func19 (by kernel_rfl) rfl #[.string t468] rfl (by (try simp only [List.map_toArray, List.map_cons, List.map_nil]); first | done | rfl | (simp only [List.length_drop, List.length_take]; rfl)) ?_; (with_reducible refine (span_Read.calls t468 t469 t470 _ A26.out).mono ?_); rintro e w35 ⟨v471, rfl, ho0, hb⟩; refine ⟨_, rfl, ?_⟩; have n0_ := Aside0.mk (Kd.R_lower ho0 (below_size (by repeat (first | (with_reducible first | exact HB.out | apply below_alloc | apply pw_below_drewN | apply below_drew1) | exact HB.out)))); have n1_ := Aside0.mk (below_step (by repeat (first | (with_reducible first | exact HB.out | apply below_alloc | apply pw_below_drewN | apply below_drew1) | exact HB.out)) hb); clear HB; have HO472 := n0_; have HB := n1_; clear n0_ n1_; (try clear hb); (try clear hb2); (try clear hk); (try clear hi); (try clear ho0)) | ((with_reducible refine gate_callee (f := 22) rfl ?_); refine goesL_ (some 53) rfl rfl Try.func22 (by kernel_rfl) rfl #[.slice A0 l0.length c0] rfl (by (try simp only [List.map_toArray, List.map_cons, List.map_nil]); first | done | rfl | (simp only [List.length_drop, List.length_take]; rfl)) ?_; (with_reducible refine (almanacref19_Bytes.calls kj4 _ _ l0 t473 _ ?side1 ?side2 A27.out).mono ?_); (case side1 => repeat (first | exact (Kd.C_below HR0.out HB.out) | (with_reducible refine Kd.C_alloc ?_ _) | (with_reducible refine Kd.C_drewN ?_ _) | (with_reducible refine Kd.C_drew ?_))); (case side2 => exact HC0.out); rintro e w36 ⟨rfl, hb⟩; refine ⟨_, rfl, ?_⟩; have n0_ := Aside0.mk (Kd.R_below (by (with_reducible repeat (first | apply Kd.R_alloc | apply Kd.R_drewN | apply Kd.R_drew)); exact HO472.out) hb); have n1_ := Aside0.mk (below_step (by repeat (first | (with_reducible first | exact HB.out | apply below_alloc | apply pw_below_drewN | apply below_drew1) | exact HB.out)) hb); clear HO472; clear HB; have HO472 := n0_; have HB := n1_; clear n0_ n1_; (try clear hb); (try clear hb2); (try clear hk); (try clear hi); obtain ⟨Ao37, co37, eo37⟩ := Kd.R_slice HO472.out; subst eo37) | (go_at_call 9; (with_reducible refine (almanacref19_Same.calls kj4 _ _ t469 _ _ l0 true _ ?side1 ?side2 ?side3 ?side4 A30.out).mono ?_); (case side1 => repeat (first | exact (Kd.R_reads' HO472.out).2.2 | (with_reducible refine Kd.C_alloc ?_ _) | (with_reducible refine Kd.C_drewN ?_ _) | (with_reducible refine Kd.C_drew ?_))); (case side2 => exact (Kd.R_reads' HO472.out).2.1); (case side3 => repeat (first | exact (Kd.C_below HR0.out HB.out) | (with_reducible refine Kd.C_alloc ?_ _) | (with_reducible refine Kd.C_drewN ?_ _) | (with_reducible refine Kd.C_drew ?_))); (case side4 => exact HC0.out); rintro e w' ⟨rfl, ⟨nd, rfl⟩⟩) | (go_at_call 6; (with_reducible refine (almanaclaw19_awake.calls kj4  t475 _ A32.out).mono ?_); rintro e w38 ⟨rfl, hb⟩; have n0_ := Aside0.mk (Kd.R_below (by (with_reducible repeat (first | apply Kd.R_alloc | apply Kd.R_drewN | apply Kd.R_drew)); exact HO472.out) hb); have n1_ := Aside0.mk (below_step (by repeat (first | (with_reducible first | exact HB.out | apply below_alloc | apply pw_below_drewN | apply below_drew1) | exact HB.out)) hb); clear HO472; clear HB; have HO472 := n0_; have HB := n1_; clear n0_ n1_; (try clear hb); (try clear hb2); (try clear hk); (try clear hi)))
                go_ret
                exact ⟨by first | rfl | (simp [errW_none, errW_some] <;> rfl) | (simp [*, errW_none, errW_some] <;> rfl), by repeat (first | (with_reducible first | exact HB.out | apply below_alloc | apply pw_below_drewN | apply below_drew1) | exact HB.out)⟩
              · replace c31 := Bool.eq_false_iff.mpr c31
                subst c31
                have H1 : (some false) = some r := by rw [if_neg (show ¬ (false = true) by decide)] at H; exact H
                clear H
                have H := H1
                clear H1
                exact absurd ((Option.some.inj H).trans HRT.out) (by decide)
            · rw [if_neg c29] at H
              have c29b0 : (t470 == 0) = false := beq_eq_false_iff_ne.mpr c29
              have c29b1 : (t470 != 0) = true := bne_iff_ne.mpr c29
              exact absurd ((Option.some.inj H).trans HRT.out) (by decide)
          · rw [if_neg c28] at H
            have c28b0 : (t468.toList == t473.toList) = false := beq_eq_false_iff_ne.mpr c28
            have c28b1 : (t468.toList != t473.toList) = true := bne_iff_ne.mpr c28
            exact absurd ((Option.some.inj H).trans HRT.out) (by decide)
        · replace c24 := Bool.eq_false_iff.mpr c24
          subst c24
          have H1 : ((almanaclaw19_awake.f kj4).bind fun t467 => (some t467)) = some r := by rw [if_neg (show ¬ (false = true) by decide)] at H; exact H
          clear H
          have H := H1
          clear H1
          replace H := Option.bind_eq_some_iff.mp H
          obtain ⟨t467, A390, H⟩ := H
          replace H : (some t467) = some r := H
          have A39 := Aside0.mk A390
          clear A390
          obtain rfl := Option.some.inj H
          go_wp2_with (first | ((with_reducible refine gate_callee (f := 12) rfl ?_); refine goesL_ (some 41) rfl rfl Try.func12 (by kernel_rfl) rfl #[.slice A0 l0.length c0] rfl (by (try simp only [List.map_toArray, List.map_cons, List.map_nil]); first | done | rfl | (simp only [List.length_drop, List.length_take]; rfl)) ?_; (with_reducible refine (almanacref19_Fit.calls kj4 _ _ l0 false _ ?side1 ?side2 A23.out).mono ?_); (case side1 => repeat (first | exact (Kd.C_below HR0.out HB.out) | (with_reducible refine Kd.C_alloc ?_ _) | (with_reducible refine Kd.C_drewN ?_ _) | (with_reducible refine Kd.C_drew ?_))); (case side2 => exact HC0.out); rintro e w40 ⟨rfl, hb⟩; refine ⟨_, rfl, ?_⟩; have n0_ := Aside0.mk (below_step (by repeat (first | (with_reducible first | exact HB.out | apply below_alloc | apply pw_below_drewN | apply below_drew1) | exact HB.out)) hb); clear HB; have HB := n0_; clear n0_; (try clear hb); (try clear hb2); (try clear hk); (try clear hi)) | ((with_reducible refine gate_callee (f := 6) rfl ?_); refine goesL_ (some 43) rfl rfl Try.func6 (by kernel_rfl) rfl #[] rfl (by (try simp only [List.map_toArray, List.map_cons, List.map_nil]); first | done | rfl | (simp only [List.length_drop, List.length_take]; rfl)) ?_; (with_reducible refine (almanaclaw19_awake.calls kj4  t467 _ A39.out).mono ?_); rintro e w41 ⟨rfl, hb⟩; refine ⟨_, rfl, ?_⟩; have n0_ := Aside0.mk (below_step (by repeat (first | (with_reducible first | exact HB.out | apply below_alloc | apply pw_below_drewN | apply below_drew1) | exact HB.out)) hb); clear HB; have HB := n0_; clear n0_; (try clear hb); (try clear hb2); (try clear hk); (try clear hi)))
          go_ret
          exact ⟨by first | rfl | (simp [errW_none, errW_some] <;> rfl) | (simp [*, errW_none, errW_some] <;> rfl), by repeat (first | (with_reducible first | exact HB.out | apply below_alloc | apply pw_below_drewN | apply below_drew1) | exact HB.out)⟩

end Go.Proofs.Ythcoiabgemclbaa.PD
/- The document's codes come to what the program's come to. -/
namespace Go.Proofs.Ythcoiabgemclbaa.PD
open Go.RowKit Go.Proofs.YthcoiabgemclbaaW.PrintWords Go.Proofs.YthcoiabgemclbaaW.PrintLast Go.Proofs.YthcoiabgemclbaaW.PrintMore
set_option linter.unusedVariables false
set_option linter.unusedSimpArgs false
theorem u64w {a : Int} (h0 : 0 ≤ a) (h1 : a < 18446744073709551616) : IntKind.u64.wrap a = a := by rw [IntKind.wrap_u64]; omega
theorem bt_ge (s : ByteArray) (i : Int) : 0 ≤ bt s i ∧ bt s i < 256 := by have := bt_range s i; omega
theorem tmod_pos {a b : Int} (h : 0 ≤ a) : Int.tmod a b = a % b := Int.tmod_eq_emod_of_nonneg h
theorem drop_bt {s : ByteArray} {i : Nat} (h : i < s.size) : ∃ c : UInt8, s.data.toList.drop i = c :: s.data.toList.drop (i + 1) ∧ bt s (i : Int) = (c.toNat : Int) := by
  refine ⟨s[i], drop_byte rfl h, ?_⟩
  have := bt_at s (i : Int) (by simpa using h)
  rw [← this]
  rfl
theorem shl_val {c : UInt8} {j : Nat} (hj : j ≤ 9) (hc : j = 9 → c.toNat ≤ 1) : shl .u64 (IntKind.u64.wrap (Int.tmod ((c.toNat : Nat) : Int) 128)) (wrap64 (7 * (j : Int))) = ((c.toNat % 128 * 128 ^ j : Nat) : Int) := by
  have h3 : c.toNat % 128 * 128 ^ j < 18446744073709551616 := by
    rcases Nat.lt_or_ge j 9 with h | h
    · exact one_small (by omega) (by omega)
    · obtain rfl : j = 9 := by omega
      have := hc rfl
      have e : (128 : Nat) ^ 9 = 9223372036854775808 := by decide
      rw [e]
      omega
  have hcl := c.toNat_lt
  rw [tmod_pos (by omega), u64w (by omega) (by omega), w64 (by omega) (by omega)]
  unfold shl
  have e1 : min (7 * (j : Int)).toNat IntKind.u64.bits = 7 * j := by
    show min (7 * (j : Int)).toNat 64 = 7 * j
    omega
  have h2 : (2 : Int) ^ (7 * j) = ((128 ^ j : Nat) : Int) := by
    rw [Int.pow_mul]
    push_cast
    rfl
  rw [e1, h2, show (((c.toNat : Nat) : Int) % 128) = ((c.toNat % 128 : Nat) : Int) by omega, ← Int.natCast_mul]
  generalize c.toNat % 128 * 128 ^ j = q at h3 ⊢
  exact u64w (by omega) (by omega)
theorem sum_lt {n c j : Nat} (hj : j ≤ 9) (hn : n < 128 ^ j) (hc : j = 9 → c ≤ 1) (h256 : c < 256) : n + c % 128 * 128 ^ j < 18446744073709551616 := by
  rcases Nat.lt_or_ge j 9 with h | h
  · have h1 : n + c % 128 * 128 ^ j < 128 ^ (j + 1) := next_lt hn
    have h2 : 128 ^ (j + 1) ≤ 128 ^ 9 := Nat.pow_le_pow_right (by decide) (by omega)
    have e : (128 : Nat) ^ 9 = 9223372036854775808 := by decide
    omega
  · obtain rfl : j = 9 := by omega
    have := hc rfl
    have e : (128 : Nat) ^ 9 = 9223372036854775808 := by decide
    rw [e] at hn ⊢
    omega
def outN (b : Nat) (t : Nat × Nat × Int) : Int × Int × Int := if t.2.2 = 0 then ((t.1 : Int), (b : Int) + t.2.1, 0) else (0, 0, t.2.2)
theorem rnum_loop (s : ByteArray) (hs : s.size ≤ 1048576) (b : Nat) (hb : b ≤ s.size) : ∀ d j n : Nat, s.size - (b + j) = d → b + j ≤ s.size → j ≤ 9 → n < 128 ^ j →
    Ev (fun k => almanacref01_ReadNumber.l0 k s (b : Int) (n : Int) (j : Int)) (outN b (numGo (s.data.toList.drop (b + j)) j n)) := by
  intro d
  induction d with
  | zero =>
    intro j n hd hbj hj hn
    rw [List.drop_eq_nil_of_le (by rw [Array.length_toList]; show s.size ≤ _; omega)]
    refine Ev.step (f := fun _ => some (0, 0, 11)) (fun k => by
      simp only [almanacref01_ReadNumber.l0]
      rw [w64 (by omega) (by omega), if_pos (by omega)]) ?_
    exact Ev.now _
  | succ d ih =>
    intro j n hd hbj hj hn
    have h1 : b + j < s.size := by omega
    obtain ⟨c, hdr, hbt⟩ := drop_bt h1
    have hcl := c.toNat_lt
    have e1 : wrap64 ((b : Int) + (j : Int)) = ((b + j : Nat) : Int) := by rw [w64 (by omega) (by omega)]; omega
    rw [hdr]
    by_cases c1 : j = 9 ∧ 1 < c.toNat
    · refine Ev.step (f := fun k => almanacref01_ReadNumber.j2 k s (b : Int) (n : Int) (j : Int) ((c.toNat : Nat) : Int) true) (fun k => by
        simp only [almanacref01_ReadNumber.l0]
        rw [e1, if_neg (by omega), if_pos (by omega), if_pos (by omega), if_pos (by omega), hbt, decide_eq_true (by omega)]) ?_
      refine Ev.step (f := fun _ => some (0, 0, 10)) (fun k => by simp only [almanacref01_ReadNumber.j2]; rw [if_pos trivial]) ?_
      have e5 : numGo (c :: s.data.toList.drop (b + j + 1)) j n = (0, 0, 10) := by unfold numGo; rw [if_pos c1]
      rw [e5]
      exact Ev.now _
    · have hc9 : j = 9 → c.toNat ≤ 1 := fun h => by omega
      have e2 := shl_val hj hc9
      have e3 : IntKind.u64.wrap ((n : Int) + ((c.toNat % 128 * 128 ^ j : Nat) : Int)) = ((n + c.toNat % 128 * 128 ^ j : Nat) : Int) := by
        have := sum_lt hj hn hc9 hcl
        rw [← Int.natCast_add]
        generalize n + c.toNat % 128 * 128 ^ j = q at this ⊢
        exact u64w (by omega) (by omega)
      have step : Ev (fun k => almanacref01_ReadNumber.j2 k s (b : Int) (n : Int) (j : Int) ((c.toNat : Nat) : Int) false) (outN b (numGo (c :: s.data.toList.drop (b + j + 1)) j n)) := by
        have e0 : (0 : Int) ≤ wrap64 (7 * (j : Int)) := by rw [w64 (by omega) (by omega)]; omega
        by_cases c2 : 128 ≤ c.toNat
        · have e5 : numGo (c :: s.data.toList.drop (b + j + 1)) j n = numGo (s.data.toList.drop (b + j + 1)) (j + 1) (n + c.toNat % 128 * 128 ^ j) := by conv => lhs; unfold numGo
                                                                                                                                                         rw [if_neg c1, if_pos c2]
          rw [e5]
          refine Ev.step (f := fun k => almanacref01_ReadNumber.l0 k s (b : Int) ((n + c.toNat % 128 * 128 ^ j : Nat) : Int) ((j + 1 : Nat) : Int)) (fun k => by
            simp only [almanacref01_ReadNumber.j2]
            rw [if_neg (by decide), if_pos e0, if_neg (by omega), e2, e3, w64 (a := (j : Int) + 1) (by omega) (by omega)]
            rfl) ?_
          exact ih (j + 1) _ (by omega) (by omega) (by omega) (next_lt hn)
        · have e4 : wrap64 (wrap64 ((b : Int) + (j : Int)) + 1) = (b : Int) + ((j + 1 : Nat) : Int) := by rw [e1, w64 (by omega) (by omega)]; omega
          by_cases c3 : c.toNat = 0 ∧ 0 < j
          · have e5 : numGo (c :: s.data.toList.drop (b + j + 1)) j n = (0, 0, 10) := by unfold numGo; rw [if_neg c1, if_neg c2, if_pos c3]
            rw [e5]
            refine Ev.step (f := fun _ => some (0, 0, 10)) (fun k => by
              simp only [almanacref01_ReadNumber.j2]
              rw [if_neg (by decide), if_pos e0, if_pos (by omega), if_pos (by omega), if_pos (by omega)]) ?_
            exact Ev.now _
          · have e5 : numGo (c :: s.data.toList.drop (b + j + 1)) j n = (n + c.toNat % 128 * 128 ^ j, j + 1, 0) := by unfold numGo; rw [if_neg c1, if_neg c2, if_neg c3]
            rw [e5]
            refine Ev.step (f := fun _ => some (((n + c.toNat % 128 * 128 ^ j : Nat) : Int), (b : Int) + ((j + 1 : Nat) : Int), 0)) (fun k => by
              simp only [almanacref01_ReadNumber.j2]
              rw [if_neg (by decide), if_pos e0, if_pos (by omega), e2, e3, e4]
              by_cases c4 : ((c.toNat : Nat) : Int) = 0
              · rw [if_pos c4, if_neg (by omega)]
              · rw [if_neg c4]) ?_
            exact Ev.now _
      by_cases c9 : j = 9
      · refine Ev.step (f := fun k => almanacref01_ReadNumber.j2 k s (b : Int) (n : Int) (j : Int) ((c.toNat : Nat) : Int) false) (fun k => by
          simp only [almanacref01_ReadNumber.l0]
          rw [e1, if_neg (by omega), if_pos (by omega), if_pos (by omega), if_pos (by omega), hbt, decide_eq_false (by have := hc9 c9; omega)]) step
      · refine Ev.step (f := fun k => almanacref01_ReadNumber.j2 k s (b : Int) (n : Int) (j : Int) ((c.toNat : Nat) : Int) false) (fun k => by
          simp only [almanacref01_ReadNumber.l0]
          rw [e1, if_neg (by omega), if_pos (by omega), if_pos (by omega), if_neg (by omega), hbt]) step
theorem rnum_val (s : ByteArray) (hs : s.size ≤ 1048576) (a : Int) : Ev (fun k => almanacref01_ReadNumber.f k s a) (rdNum s a) := by
  unfold almanacref01_ReadNumber.f rdNum
  by_cases h : a < 0
  · rw [if_pos (.inl h)]
    refine Ev.congr (fun k => by rw [if_pos h]) ?_
    refine Ev.step (f := fun _ => some (0, 0, 15)) (fun k => by simp only [almanacref01_ReadNumber.j0]; rw [if_pos trivial]) ?_
    exact Ev.now _
  · by_cases h2 : (s.size : Int) < a
    · rw [if_pos (.inr h2)]
      refine Ev.congr (fun k => by rw [if_neg h, decide_eq_true (show a > (s.size : Int) from h2)]) ?_
      refine Ev.step (f := fun _ => some (0, 0, 15)) (fun k => by simp only [almanacref01_ReadNumber.j0]; rw [if_pos trivial]) ?_
      exact Ev.now _
    · rw [if_neg (by omega)]
      obtain ⟨b, rfl⟩ := Int.eq_ofNat_of_zero_le (show 0 ≤ a by omega)
      refine Ev.congr (fun k => by rw [if_neg h, decide_eq_false (show ¬ (b : Int) > (s.size : Int) from h2)]) ?_
      refine Ev.step (f := fun k => almanacref01_ReadNumber.l0 k s (b : Int) ((0 : Nat) : Int) ((0 : Nat) : Int)) (fun k => by simp only [almanacref01_ReadNumber.j0]; rw [if_neg (by decide)]; rfl) ?_
      exact rnum_loop s hs b (by omega) _ 0 0 rfl (by omega) (by omega) (by simp)
theorem rtext_val (s : ByteArray) (hs : s.size ≤ 1048576) (a : Int) : Ev (fun k => almanacref01_ReadText.f k s a) (rdText s a) := by
  unfold almanacref01_ReadText.f
  refine Ev.bind (rnum_val s hs a) ?_
  obtain ⟨n, b, e, hr⟩ : ∃ n b e, rdNum s a = (n, b, e) := ⟨_, _, _, rfl⟩
  by_cases he : e = 0
  · subst he
    have hb := rdNum_bounds hr
    have e1 : IntKind.u64.wrap (wrap64 ((s.size : Int) - b)) = (s.size : Int) - b := by rw [w64 (by omega) (by omega), u64w (by omega) (by omega)]
    by_cases hn : n > (s.size : Int) - b
    · have ht : rdText s a = (⟨#[]⟩, 0, 11) := by unfold rdText; rw [hr]; simp only; rw [if_neg (by simp), if_pos hn]
      rw [ht]
      exact Ev.congr (f := fun _ => some (⟨#[]⟩, 0, 11)) (fun k => by rw [hr]; simp only; rw [if_pos trivial, e1, if_pos hn]) (Ev.now _)
    · have ht : rdText s a = (s.extract b.toNat (b + n).toNat, b + n, 0) := by unfold rdText; rw [hr]; simp only; rw [if_neg (by simp), if_neg hn]
      rw [ht]
      have e2 : wrap64 (b + wrap64 n) = b + n := by rw [w64 (a := n) (by omega) (by omega), w64 (by omega) (by omega)]
      exact Ev.congr (f := fun _ => some (s.extract b.toNat (b + n).toNat, b + n, 0)) (fun k => by rw [hr]; simp only; rw [if_pos trivial, e1, if_neg hn, e2, if_pos (by omega), if_pos (by omega), if_pos (by omega)]) (Ev.now _)
  · have hz : rdNum s a = (0, 0, e) := by
      rcases rdNum_e s a with h | h
      · rw [hr] at h; exact absurd h he
      · rw [hr] at h ⊢; exact h
    have ht : rdText s a = (⟨#[]⟩, 0, e) := by unfold rdText; rw [hz]; simp only; rw [if_pos he]
    rw [ht]
    exact Ev.congr (f := fun _ => some (⟨#[]⟩, 0, e)) (fun k => by rw [hz]; simp only; rw [if_neg he]) (Ev.now _)
theorem rsig_val (s : ByteArray) (hs : s.size ≤ 1048576) (a : Int) : Ev (fun k => almanacref01_ReadSigned.f k s a) (rdSig s a) := by
  unfold almanacref01_ReadSigned.f
  refine Ev.bind (rnum_val s hs a) ?_
  unfold rdSig
  have hr := rdNum_range s a
  rcases rdNum_e s a with he | he
  · generalize rdNum s a = t at hr he ⊢
    obtain ⟨n, b, e⟩ := t
    simp only at hr he ⊢
    subst he
    unfold sgn
    by_cases h : n % 2 = 1
    · rw [if_pos h]
      exact Ev.congr (f := fun _ => some _) (fun k => by
        rw [if_pos rfl, tmod_pos hr.1, if_pos h, w64 (a := n / 2) (by omega) (by omega), w64 (a := -(n / 2)) (by omega) (by omega), w64 (by omega) (by omega)]) (Ev.now _)
    · rw [if_neg h]
      exact Ev.congr (f := fun _ => some _) (fun k => by rw [if_pos rfl, tmod_pos hr.1, if_neg h, w64 (a := n / 2) (by omega) (by omega)]) (Ev.now _)
  · by_cases h0 : (rdNum s a).2.2 = 0
    · rw [h0] at he
      rw [he]
      exact Ev.congr (f := fun _ => some _) (fun k => by simp [sgn, wrap64]) (Ev.now _)
    · rw [show sgn (rdNum s a).1 = 0 by rw [he]; rfl, show (rdNum s a).2.1 = 0 by rw [he]]
      exact Ev.congr (f := fun _ => some _) (fun k => by rw [if_neg h0]) (Ev.now _)
end Go.Proofs.Ythcoiabgemclbaa.PD
/- The document's Read and Bytes come to what the program's come to. -/
namespace Go.Proofs.Ythcoiabgemclbaa.PD
open Go.RowKit Go.Proofs.YthcoiabgemclbaaW.PrintWords Go.Proofs.YthcoiabgemclbaaW.PrintLast Go.Proofs.YthcoiabgemclbaaW.PrintMore
set_option linter.unusedVariables false
set_option linter.unusedSimpArgs false
def finish (s : ByteArray) (r : List S25 × Int × Int) : List S25 × Int := if r.2.2 ≠ 0 then ([], r.2.2) else if r.2.1 < s.size then ([], 10) else if fitB r.1 then (r.1, 0) else ([], 14)
theorem readB_eq (s : ByteArray) : readB s = finish s (spansGo s (rdNum s 0).1.toNat (rdNum s 0).2.1 (rdNum s 0).2.2 []) := rfl
theorem spansGo_err (s : ByteArray) (m : Nat) (a e : Int) (acc : List S25) (he : e ≠ 0) : spansGo s m a e acc = (acc, a, e) := by
  cases m with
  | zero => rfl
  | succ m => rw [spansGo, if_neg he]
theorem finish_err (s : ByteArray) (acc : List S25) (a e : Int) (he : e ≠ 0) : finish s (acc, a, e) = ([], e) := by unfold finish; rw [if_pos he]
theorem sgn_range {n : Int} (h0 : 0 ≤ n) (h1 : n < 18446744073709551616) : -9223372036854775808 ≤ sgn n ∧ sgn n ≤ 9223372036854775807 := by unfold sgn; split <;> omega
theorem to_eq (f l : Int) : wrap64 (IntKind.u64.wrap ((IntKind.u64.wrap f) + l)) = wrap64 (f + wrap64 l) := by rw [IntKind.wrap_u64, IntKind.wrap_u64]; unfold wrap64; omega
theorem rread_loop (s : ByteArray) (hs : s.size ≤ 1048576) (n : Nat) (hn : n < 18446744073709551616) : ∀ (m i : Nat) (a : Int) (acc : List S25), n - i = m → i ≤ n → 0 ≤ a → a ≤ s.size → (acc.length : Int) ≤ a →
    Ev (fun k => almanacref19_Read.l0 k s (n : Int) a acc (i : Int)) (finish s (spansGo s m a 0 acc)) := by
  intro m
  induction m with
  | zero =>
    intro i a acc hm hi ha0 ha1 hla
    have e1 : finish s (spansGo s 0 a 0 acc) = if a < s.size then ([], 10) else if fitB acc then (acc, 0) else ([], 14) := by unfold finish spansGo; rw [if_neg (by simp)]
    rw [e1]
    by_cases h : a < s.size
    · rw [if_pos h]
      refine Ev.step (f := fun _ => some ([], 10)) (fun k => by simp only [almanacref19_Read.l0]; rw [if_neg (by omega), if_pos h]) ?_
      exact Ev.now _
    · rw [if_neg h]
      refine Ev.step (f := fun k => (almanacref19_Fit.f k acc).bind fun t438 => (if t438 = true then (some (acc, 0)) else (some (([] : List (S25)), 14)))) (fun k => by simp only [almanacref19_Read.l0]; rw [if_neg (by omega), if_neg h]) ?_
      refine Ev.bind (rfit_val acc (by omega)) ?_
      cases fitB acc with
      | true => exact Ev.congr (f := fun _ => some (acc, 0)) (fun k => by rw [if_pos rfl]) (Ev.now _)
      | false => exact Ev.congr (f := fun _ => some ([], 14)) (fun k => by rw [if_neg (by decide)]) (Ev.now _)
  | succ m ih =>
    intro i a acc hm hi ha0 ha1 hla
    rw [spansGo, if_pos rfl]
    obtain ⟨x0, a2, e2, ht⟩ : ∃ x a2 e2, rdText s a = (x, a2, e2) := ⟨_, _, _, rfl⟩
    have hone : oneSp s a = ((⟨x0, (stS s a2 e2).1, wrap64 ((stS s a2 e2).1 + wrap64 (stN s (stS s a2 e2).2.1 (stS s a2 e2).2.2).1)⟩ : S25), (stN s (stS s a2 e2).2.1 (stS s a2 e2).2.2).2.1, (stN s (stS s a2 e2).2.1 (stS s a2 e2).2.2).2.2) := by
      have hst0 : stT s a 0 = (x0, a2, e2) := by unfold stT; rw [if_pos rfl]; exact ht
      unfold oneSp
      simp only [hst0]
    refine Ev.step (f := fun k => (almanacref01_ReadText.f k s a).bind fun bt426 => (if bt426.2.2 = 0 then ((almanacref01_ReadSigned.f k s bt426.2.1).bind fun bt429 => (almanacref19_Read.j1 k s (n : Int) bt429.2.1 bt429.2.2 acc (i : Int) bt426.1 bt429.1 0)) else (almanacref19_Read.j1 k s (n : Int) bt426.2.1 bt426.2.2 acc (i : Int) bt426.1 0 0))) (fun k => by simp only [almanacref19_Read.l0]; rw [if_pos (by omega)]) ?_
    refine Ev.bind (rtext_val s hs a) ?_
    rw [ht]
    by_cases he2 : e2 = 0
    · subst he2
      refine Ev.congr (fun k => by simp only; rw [if_pos trivial]) ?_
      refine Ev.bind (rsig_val s hs a2) ?_
      obtain ⟨f0, a3, e3, hf⟩ : ∃ f a3 e3, rdSig s a2 = (f, a3, e3) := ⟨_, _, _, rfl⟩
      have hst : stS s a2 0 = (f0, a3, e3) := by unfold stS; rw [if_pos rfl, hf]
      rw [hf]
      rw [hst] at hone
      by_cases he3 : e3 = 0
      · subst he3
        obtain ⟨l0, a4, e4, hl⟩ : ∃ l a4 e4, rdNum s a3 = (l, a4, e4) := ⟨_, _, _, rfl⟩
        have hsn : stN s a3 0 = (l0, a4, e4) := by unfold stN; rw [if_pos rfl, hl]
        simp only [hsn] at hone
        rw [hone]
        refine Ev.step (f := fun k => (almanacref01_ReadNumber.f k s a3).bind fun bt432 => (if bt432.2.2 = 0 then (if acc.length < 4398046511104 then (almanacref19_Read.l0 k s (n : Int) bt432.2.1 (acc ++ [(⟨x0, f0, wrap64 (IntKind.u64.wrap ((IntKind.u64.wrap (f0)) + bt432.1))⟩ : S25)]) (IntKind.u64.wrap ((i : Int) + 1))) else (none)) else (some (([] : List (S25)), bt432.2.2)))) (fun k => by simp only [almanacref19_Read.j1]; rw [if_pos trivial]) ?_
        refine Ev.bind (rnum_val s hs a3) ?_
        rw [hl]
        by_cases he4 : e4 = 0
        · subst he4
          have hok := one_ok (by unfold stT; rw [if_pos rfl]; exact ht) hst hsn
          have e5 : IntKind.u64.wrap ((i : Int) + 1) = ((i + 1 : Nat) : Int) := by rw [IntKind.wrap_u64]; omega
          refine Ev.congr (f := fun k => almanacref19_Read.l0 k s (n : Int) a4 (acc ++ [(⟨x0, f0, wrap64 (f0 + wrap64 l0)⟩ : S25)]) ((i + 1 : Nat) : Int)) (fun k => by simp only; rw [if_pos trivial, if_pos (by omega), to_eq, e5]) ?_
          exact ih (i + 1) a4 _ (by omega) (by omega) (by omega) (by omega) (by simp; omega)
        · rw [spansGo_err _ _ _ _ _ he4, finish_err _ _ _ _ he4]
          exact Ev.congr (f := fun _ => some ([], e4)) (fun k => by simp only; rw [if_neg he4]) (Ev.now _)
      · have hsn : stN s a3 e3 = (0, a3, e3) := by unfold stN; rw [if_neg he3]
        simp only [hsn] at hone
        rw [hone, spansGo_err _ _ _ _ _ he3, finish_err _ _ _ _ he3]
        refine Ev.step (f := fun _ => some ([], e3)) (fun k => by simp only [almanacref19_Read.j1]; rw [if_neg he3]) ?_
        exact Ev.now _
    · have hst : stS s a2 e2 = (0, a2, e2) := by unfold stS; rw [if_neg he2]
      have hsn : stN s a2 e2 = (0, a2, e2) := by unfold stN; rw [if_neg he2]
      rw [hst] at hone
      simp only [hsn] at hone
      rw [hone, spansGo_err _ _ _ _ _ he2, finish_err _ _ _ _ he2]
      refine Ev.congr (f := fun k => almanacref19_Read.j1 k s (n : Int) a2 e2 acc (i : Int) x0 0 0) (fun k => by simp only; rw [if_neg he2]) ?_
      refine Ev.step (f := fun _ => some ([], e2)) (fun k => by simp only [almanacref19_Read.j1]; rw [if_neg he2]) ?_
      exact Ev.now _
theorem rread_val (s : ByteArray) (hs : s.size ≤ 1048576) : Ev (fun k => almanacref19_Read.f k s) (readB s) := by
  unfold almanacref19_Read.f
  refine Ev.bind (rnum_val s hs 0) ?_
  rw [readB_eq]
  have hr := rdNum_range s 0
  obtain ⟨n, a, e, h⟩ : ∃ n a e, rdNum s 0 = (n, a, e) := ⟨_, _, _, rfl⟩
  rw [h] at hr ⊢
  simp only at hr ⊢
  by_cases he : e = 0
  · subst he
    have hb := rdNum_bounds h
    obtain ⟨m, rfl⟩ := Int.eq_ofNat_of_zero_le hr.1
    refine Ev.congr (f := fun k => almanacref19_Read.l0 k s ((m : Nat) : Int) a [] ((0 : Nat) : Int)) (fun k => by rw [if_pos rfl]; rfl) ?_
    exact rread_loop s hs m (by omega) m 0 a [] rfl (Nat.zero_le _) (by omega) (by omega) (by simp; omega)
  · rw [spansGo_err _ _ _ _ _ he, finish_err _ _ _ _ he]
    exact Ev.congr (f := fun _ => some ([], e)) (fun k => by rw [if_neg he]) (Ev.now _)
end Go.Proofs.Ythcoiabgemclbaa.PD
/- The law SpanBytes, in plain words: what is written is read, and what is read is what was written. -/
namespace Go.Proofs.Ythcoiabgemclbaa.PD
open Go.RowKit Go.Proofs.YthcoiabgemclbaaW.PrintWords Go.Proofs.YthcoiabgemclbaaW.PrintLast Go.Proofs.YthcoiabgemclbaaW.PrintMore
set_option linter.unusedVariables false
set_option linter.unusedSimpArgs false
theorem ba_ext {a b : ByteArray} (h : a.data.toList = b.data.toList) : a = b := by
  cases a; cases b
  simp only at h
  congr 1
  exact Array.toList_inj.1 h
theorem ba_len (a : ByteArray) : a.data.toList.length = a.size := by rw [Array.length_toList]; rfl
theorem numB_list (n : Nat) : (numB n).data.toList = numL 10 n := by unfold numB; simp
theorem numB_size (n : Nat) : (numB n).size ≤ 10 := by rw [← ba_len, numB_list]; exact numL_le5 10 n
theorem app_list (a b : ByteArray) : (a ++ b).data.toList = a.data.toList ++ b.data.toList := by rw [ByteArray.data_append, Array.toList_append]
/-! #### numbers -/
theorem rnumber_loop : ∀ (f n : Nat) (acc : List Int), n < 128 ^ (f + 1) → acc.length + f < 100 → Ev (fun k => almanacref01_Number.l0 k (n : Int) acc) (⟨((acc.map fun x => UInt8.ofNat x.toNat) ++ numL (f + 1) n).toArray⟩ : ByteArray)
  | f, n, acc, hn, ha => by
    by_cases h : n < 128
    · refine Ev.step (f := fun _ => some (⟨((acc.map fun x => UInt8.ofNat x.toNat) ++ numL (f + 1) n).toArray⟩ : ByteArray)) (fun k => by
        simp only [almanacref01_Number.l0]
        rw [if_neg (by omega), if_pos (by omega)]
        unfold strOfNums numL
        rw [if_pos h, List.map_append, show ((n : Int) % 256) = (n : Int) by omega]
        rfl) ?_
      exact Ev.now _
    · cases f with
      | zero => exfalso; simp at hn; omega
      | succ f =>
        have e1 : (Int.tmod (n : Int) 128 + 128) % 256 = ((n % 128 + 128 : Nat) : Int) := by rw [tmod_pos (by omega)]; omega
        have e2 : ((n : Int) / 128) = ((n / 128 : Nat) : Int) := by omega
        refine Ev.step (f := fun k => almanacref01_Number.l0 k ((n / 128 : Nat) : Int) (acc ++ [((n % 128 + 128 : Nat) : Int)])) (fun k => by
          simp only [almanacref01_Number.l0]
          rw [if_pos (by omega), if_pos (by omega), e1, e2]) ?_
        have := rnumber_loop f (n / 128) (acc ++ [((n % 128 + 128 : Nat) : Int)]) (by rw [Nat.pow_succ] at hn; exact Nat.div_lt_of_lt_mul (by rw [Nat.mul_comm]; exact hn)) (by simp; omega)
        have e3 : (acc ++ [((n % 128 + 128 : Nat) : Int)]).map (fun x => UInt8.ofNat x.toNat) ++ numL (f + 1) (n / 128) = (acc.map fun x => UInt8.ofNat x.toNat) ++ numL (f + 1 + 1) n := by
          conv => rhs; rw [numL, if_neg h]
          rw [List.map_append, List.append_assoc]
          rfl
        rw [e3] at this
        exact this
theorem rnumber_val (n : Nat) (hn : n < 18446744073709551616) : Ev (fun k => almanacref01_Number.f k (n : Int)) (numB n) := by
  have := rnumber_loop 9 n [] (Nat.lt_of_lt_of_le hn (by decide)) (by simp)
  exact this
theorem number_some {a : Int} (h0 : 0 ≤ a) (h1 : a < 18446744073709551616) : code_Number.f a = some (numB a.toNat) := by unfold code_Number.f; rw [if_pos ⟨h0, h1⟩]
/-! #### signed numbers -/
def zz (a : Int) : Nat := if a < 0 then (2 * (-(a + 1)) + 1).toNat else (2 * a).toNat
theorem zz_lt {a : Int} (h0 : -9223372036854775808 ≤ a) (h1 : a ≤ 9223372036854775807) : zz a < 18446744073709551616 := by unfold zz; split <;> omega
theorem sgn_zz (a : Int) : sgn (zz a : Int) = a := by unfold zz sgn; split <;> split <;> omega
theorem zz_sgn {n : Int} (h0 : 0 ≤ n) : (zz (sgn n) : Int) = n := by unfold zz sgn; split <;> split <;> omega
theorem bvi (x : Int) : (BitVec.ofInt 64 x).toNat = (x % 18446744073709551616).toNat := by rw [BitVec.toNat_ofInt]; rfl
theorem xor_any_0 {x : Int} (h0 : -9223372036854775808 ≤ x) (h1 : x ≤ 9223372036854775807) : bits .xor .i64 x 0 = x := by
  show IntKind.i64.wrap ((BitVec.ofInt 64 x ^^^ BitVec.ofInt 64 0).toNat : Int) = _
  rw [show BitVec.ofInt 64 0 = 0#64 from rfl, BitVec.xor_zero, bvi, IntKind.wrap_i64]
  omega
theorem xor_any_m {x : Int} (h0 : -9223372036854775808 ≤ x) (h1 : x ≤ 9223372036854775807) : bits .xor .i64 x (-1) = -x - 1 := by
  show IntKind.i64.wrap ((BitVec.ofInt 64 x ^^^ BitVec.ofInt 64 (-1)).toNat : Int) = _
  rw [show BitVec.ofInt 64 (-1) = BitVec.allOnes 64 from rfl, BitVec.xor_allOnes, BitVec.toNat_not, bvi, IntKind.wrap_i64]
  omega
theorem signed_some {a : Int} (h0 : -9223372036854775808 ≤ a) (h1 : a ≤ 9223372036854775807) : code_Signed.f a = some (numB (zz a)) := by
  have hw : -9223372036854775808 ≤ wrap64 (a * 2) ∧ wrap64 (a * 2) ≤ 9223372036854775807 := by unfold wrap64; omega
  have e : IntKind.u64.wrap (bits .xor .i64 (wrap64 (a * 2)) (a / 9223372036854775808)) = (zz a : Int) := by
    by_cases h : a < 0
    · rw [show a / 9223372036854775808 = -1 by omega, xor_any_m hw.1 hw.2, IntKind.wrap_u64]
      unfold zz wrap64
      rw [if_pos h]
      omega
    · rw [show a / 9223372036854775808 = 0 by omega, xor_any_0 hw.1 hw.2, IntKind.wrap_u64]
      unfold zz wrap64
      rw [if_neg h]
      omega
  have := zz_lt h0 h1
  unfold code_Signed.f
  rw [e, number_some (by omega) (by omega)]
  rfl
theorem rsigned_val {a : Int} (h0 : -9223372036854775808 ≤ a) (h1 : a ≤ 9223372036854775807) : Ev (fun k => almanacref01_Signed.f k a) (numB (zz a)) := by
  have hz := zz_lt h0 h1
  unfold almanacref01_Signed.f
  by_cases h : a < 0
  · have e : IntKind.u64.wrap ((IntKind.u64.wrap ((IntKind.u64.wrap (wrap64 (-(wrap64 (a + 1))))) * 2)) + 1) = (zz a : Int) := by
      simp only [IntKind.wrap_u64]
      unfold zz wrap64
      rw [if_pos h]
      omega
    refine Ev.congr (f := fun k => (almanacref01_Number.f k (zz a : Int)).bind fun t => some t) (fun k => by rw [if_pos h, e]) ?_
    exact Ev.bind (rnumber_val _ hz) (Ev.now _)
  · have e : IntKind.u64.wrap ((IntKind.u64.wrap (a)) * 2) = (zz a : Int) := by
      simp only [IntKind.wrap_u64]
      unfold zz
      rw [if_neg h]
      omega
    refine Ev.congr (f := fun k => (almanacref01_Number.f k (zz a : Int)).bind fun t => some t) (fun k => by rw [if_neg h, e]) ?_
    exact Ev.bind (rnumber_val _ hz) (Ev.now _)
/-! #### texts -/
theorem text_some {t : ByteArray} (h : t.size ≤ 1048576) : code_Text.f t = some (numB t.size ++ t) := by
  have := numB_size t.size
  unfold code_Text.f
  rw [u64w (by omega) (by omega), number_some (by omega) (by omega), Option.bind_some, Int.toNat_natCast, if_pos (by omega)]
theorem rtextw_val {t : ByteArray} (h : t.size ≤ 1048576) : Ev (fun k => almanacref01_Text.f k t) (numB t.size ++ t) := by
  have := numB_size t.size
  unfold almanacref01_Text.f
  rw [u64w (by omega) (by omega)]
  refine Ev.bind (rnumber_val _ (by omega)) ?_
  exact Ev.congr (f := fun _ => some _) (fun k => by rw [if_pos (by omega)]) (Ev.now _)
/-! #### indices -/
def lenS (x : S25) : Nat := ((x.f2 - x.f1) % 18446744073709551616).toNat
def encSp (x : S25) : ByteArray := (numB x.f0.size ++ x.f0) ++ numB (zz x.f1) ++ numB (lenS x)
def inI (x : S25) : Prop := (-9223372036854775808 ≤ x.f1 ∧ x.f1 ≤ 9223372036854775807) ∧ (-9223372036854775808 ≤ x.f2 ∧ x.f2 ≤ 9223372036854775807) ∧ x.f0.size ≤ 24
def bytesFrom (l : List S25) (b : ByteArray) : ByteArray := l.foldl (fun s x => s ++ encSp x) b
def bytesB (l : List S25) : ByteArray := bytesFrom l (numB l.length)
theorem encSp_size {x : S25} (h : x.f0.size ≤ 24) : (encSp x).size ≤ 54 := by
  have h1 := numB_size x.f0.size
  have h2 := numB_size (zz x.f1)
  have h3 := numB_size (lenS x)
  unfold encSp
  rw [ByteArray.size_append, ByteArray.size_append, ByteArray.size_append]
  omega
theorem bytes_loop (l : List S25) (hl : l.length ≤ 32) (hi : ∀ x ∈ l, inI x) : ∀ d i (b : ByteArray), l.length - i = d → i ≤ l.length → b.size ≤ 10 + 54 * i → Ev (fun k => span_Bytes.l0 k b l (l.length : Int) (i : Int)) (bytesFrom (l.drop i) b) := by
  intro d
  induction d with
  | zero =>
    intro i b hd hil hb
    rw [List.drop_eq_nil_of_le (by omega)]
    refine Ev.step (f := fun _ => some b) (fun k => by simp only [span_Bytes.l0]; rw [if_neg (by omega)]) ?_
    exact Ev.now _
  | succ d ih =>
    intro i b hd hil hb
    have h1 : i < l.length := by omega
    rw [drop_step h1]
    obtain ⟨i1, i2, i3⟩ := hi l[i] (List.getElem_mem h1)
    have hs := encSp_size i3
    have n1 := numB_size l[i].f0.size
    have n2 := numB_size (zz l[i].f1)
    have n3 := numB_size (lenS l[i])
    have e1 : IntKind.u64.wrap (wrap64 (l[i].f2 - l[i].f1)) = ((lenS l[i] : Nat) : Int) := by
      rw [IntKind.wrap_u64]
      unfold wrap64 lenS
      omega
    have hlen : lenS l[i] < 18446744073709551616 := by unfold lenS; omega
    refine Ev.step (f := fun k => span_Bytes.l0 k (b ++ encSp l[i]) l (l.length : Int) ((i + 1 : Nat) : Int)) (fun k => by
      simp only [span_Bytes.l0]
      rw [if_pos (by omega), if_pos (by omega), if_pos (by omega), rd_at h1, text_some (by omega), Option.bind_some, signed_some i1.1 i1.2, Option.bind_some,
        if_pos (by rw [ByteArray.size_append]; omega), e1, number_some (by omega) (by omega), Option.bind_some, Int.toNat_natCast, if_pos (by rw [ByteArray.size_append, ByteArray.size_append]; omega),
        if_pos (by rw [ByteArray.size_append, ByteArray.size_append, ByteArray.size_append]; omega), w64n (by omega)]
      rfl) ?_
    exact ih (i + 1) _ (by omega) (by omega) (by rw [ByteArray.size_append]; omega)
theorem bytes_val (l : List S25) (hl : l.length ≤ 32) (hi : ∀ x ∈ l, inI x) : Ev (fun k => span_Bytes.f k l) (bytesB l) := by
  have hn := numB_size l.length
  refine Ev.congr (f := fun k => span_Bytes.l0 k (numB l.length) l (l.length : Int) ((0 : Nat) : Int)) (fun k => by
    unfold span_Bytes.f
    rw [u64w (by omega) (by omega), number_some (by omega) (by omega), Option.bind_some]
    rfl) ?_
  exact bytes_loop l hl hi _ 0 _ rfl (Nat.zero_le _) (by omega)
theorem rbytes_loop (l : List S25) (hl : l.length ≤ 32) (hi : ∀ x ∈ l, inI x) : ∀ d i (b : ByteArray), l.length - i = d → i ≤ l.length → b.size ≤ 10 + 54 * i → Ev (fun k => almanacref19_Bytes.l0 k l b (i : Int)) (bytesFrom (l.drop i) b) := by
  intro d
  induction d with
  | zero =>
    intro i b hd hil hb
    rw [List.drop_eq_nil_of_le (by omega)]
    refine Ev.step (f := fun _ => some b) (fun k => by simp only [almanacref19_Bytes.l0]; rw [if_neg (by omega)]) ?_
    exact Ev.now _
  | succ d ih =>
    intro i b hd hil hb
    have h1 : i < l.length := by omega
    rw [drop_step h1]
    obtain ⟨i1, i2, i3⟩ := hi l[i] (List.getElem_mem h1)
    have hs := encSp_size i3
    have n1 := numB_size l[i].f0.size
    have n2 := numB_size (zz l[i].f1)
    have n3 := numB_size (lenS l[i])
    have e1 : IntKind.u64.wrap ((IntKind.u64.wrap l[i].f2) - (IntKind.u64.wrap l[i].f1)) = ((lenS l[i] : Nat) : Int) := by
      simp only [IntKind.wrap_u64]
      unfold lenS
      omega
    have hlen : lenS l[i] < 18446744073709551616 := by unfold lenS; omega
    have e2 : ((b ++ (numB l[i].f0.size ++ l[i].f0)) ++ numB (zz l[i].f1)) ++ numB (lenS l[i]) = b ++ encSp l[i] := by
      apply ba_ext
      simp only [encSp, app_list, List.append_assoc]
    refine Ev.step (f := fun k => (almanacref01_Text.f k l[i].f0).bind fun t450 => (if b.size + t450.size ≤ 9223372036854775807 then ((almanacref01_Signed.f k l[i].f1).bind fun t452 => (if (b ++ t450).size + t452.size ≤ 9223372036854775807 then ((almanacref01_Number.f k ((lenS l[i] : Nat) : Int)).bind fun t455 => (if ((b ++ t450) ++ t452).size + t455.size ≤ 9223372036854775807 then (almanacref19_Bytes.l0 k l (((b ++ t450) ++ t452) ++ t455) (wrap64 ((i : Int) + 1))) else (none))) else (none))) else (none))) (fun k => by
      simp only [almanacref19_Bytes.l0]
      rw [if_pos (by omega), if_pos (by omega), rd_at h1, e1]) ?_
    refine Ev.bind (rtextw_val (by omega)) ?_
    refine Ev.congr (fun k => by rw [if_pos (by rw [ByteArray.size_append]; omega)]) ?_
    refine Ev.bind (rsigned_val i1.1 i1.2) ?_
    refine Ev.congr (fun k => by rw [if_pos (by rw [ByteArray.size_append, ByteArray.size_append]; omega)]) ?_
    refine Ev.bind (rnumber_val _ hlen) ?_
    refine Ev.congr (f := fun k => almanacref19_Bytes.l0 k l (b ++ encSp l[i]) ((i + 1 : Nat) : Int)) (fun k => by
      rw [if_pos (by rw [ByteArray.size_append, ByteArray.size_append, ByteArray.size_append]; omega), e2, w64n (by omega)]) ?_
    exact ih (i + 1) _ (by omega) (by omega) (by rw [ByteArray.size_append]; omega)
theorem rbytes_val (l : List S25) (hl : l.length ≤ 32) (hi : ∀ x ∈ l, inI x) : Ev (fun k => almanacref19_Bytes.f k l) (bytesB l) := by
  have hn := numB_size l.length
  unfold almanacref19_Bytes.f
  rw [u64w (by omega) (by omega)]
  refine Ev.bind (rnumber_val _ (by omega)) ?_
  exact rbytes_loop l hl hi _ 0 _ rfl (Nat.zero_le _) (by omega)
end Go.Proofs.Ythcoiabgemclbaa.PD
/- The law SpanBytes, in plain words: there and back. -/
namespace Go.Proofs.Ythcoiabgemclbaa.PD
open Go.RowKit Go.Proofs.YthcoiabgemclbaaW.PrintWords Go.Proofs.YthcoiabgemclbaaW.PrintLast Go.Proofs.YthcoiabgemclbaaW.PrintMore
set_option linter.unusedVariables false
set_option linter.unusedSimpArgs false
abbrev L8 (s : ByteArray) (a : Nat) : List UInt8 := s.data.toList.drop a
theorem encSp_list (x : S25) : (encSp x).data.toList = numL 10 x.f0.size ++ (x.f0.data.toList ++ (numL 10 (zz x.f1) ++ numL 10 (lenS x))) := by
  unfold encSp
  simp only [app_list, numB_list, List.append_assoc]
def flatL (l : List S25) : List UInt8 := (l.map fun x => (encSp x).data.toList).flatten
theorem bytesFrom_list : ∀ (l : List S25) (b : ByteArray), (bytesFrom l b).data.toList = b.data.toList ++ flatL l
  | [], b => by simp [bytesFrom, flatL]
  | x :: l, b => by
    have := bytesFrom_list l (b ++ encSp x)
    unfold bytesFrom at this ⊢
    rw [List.foldl_cons, this, app_list]
    simp [flatL, List.append_assoc]
theorem bytesB_list (l : List S25) : (bytesB l).data.toList = numL 10 l.length ++ flatL l := by unfold bytesB; rw [bytesFrom_list, numB_list]
theorem drop_add {l r q : List UInt8} {a : Nat} (h : l.drop a = r ++ q) : l.drop (a + r.length) = q := by rw [← List.drop_drop, h, List.drop_left]
theorem extract_list (s : ByteArray) (a n : Nat) : (s.extract a (a + n)).data.toList = (L8 s a).take n := by
  rw [ByteArray.data_extract]
  simp [L8, List.take_drop]
theorem L8_le {s : ByteArray} {a : Nat} {r : List UInt8} (h : L8 s a = r) (hr : 0 < r.length) : a + r.length = s.size := by
  have := congrArg List.length h
  rw [List.length_drop, ba_len] at this
  omega
/-- A span that lies there is read. -/
theorem one_enc {s : ByteArray} {a : Nat} {x : S25} {rest : List UInt8} (hi : inI x) (h : L8 s a = (encSp x).data.toList ++ rest) : oneSp s (a : Int) = (x, ((a + (encSp x).size : Nat) : Int), 0) := by
  obtain ⟨i1, i2, i3⟩ := hi
  rw [encSp_list] at h
  have hsz : (encSp x).size = (numL 10 x.f0.size).length + (x.f0.size + ((numL 10 (zz x.f1)).length + (numL 10 (lenS x)).length)) := by
    rw [← ba_len, encSp_list]
    simp only [List.length_append, ba_len]
  have h1 : L8 s a = numL 10 x.f0.size ++ (x.f0.data.toList ++ (numL 10 (zz x.f1) ++ (numL 10 (lenS x) ++ rest))) := by rw [h]; simp only [List.append_assoc]
  have h2 := drop_add h1
  have h3 := drop_add h2
  have h4 := drop_add h3
  rw [ba_len] at h3 h4
  have hlen : lenS x < 18446744073709551616 := by unfold lenS; omega
  have r1 := rdNum_enc (n := x.f0.size) (by omega) h1
  have r2 := rdNum_enc (n := zz x.f1) (zz_lt i1.1 i1.2) h3
  have r3 := rdNum_enc (n := lenS x) hlen h4
  have hp : 0 < (numL 10 (zz x.f1)).length := numL_pos 9 _
  have hb := L8_le h2 (by simp; omega)
  simp only [List.length_append, ba_len] at hb
  have t1 : rdText s (a : Int) = (x.f0, ((a + (numL 10 x.f0.size).length + x.f0.size : Nat) : Int), 0) := by
    unfold rdText
    rw [r1]
    simp only
    rw [if_neg (by simp), if_neg (by omega)]
    refine Prod.ext ?_ (Prod.ext (by simp) rfl)
    simp only
    apply ba_ext
    rw [Int.toNat_natCast, show (((a + (numL 10 x.f0.size).length : Nat) : Int) + (x.f0.size : Int)).toNat = a + (numL 10 x.f0.size).length + x.f0.size by omega, extract_list, show L8 s (a + (numL 10 x.f0.size).length) = _ from h2, ← ba_len x.f0, List.take_left]
  have e1 : stT s (a : Int) 0 = (x.f0, ((a + (numL 10 x.f0.size).length + x.f0.size : Nat) : Int), 0) := by unfold stT; rw [if_pos rfl, t1]
  have e2 : stS s ((a + (numL 10 x.f0.size).length + x.f0.size : Nat) : Int) 0 = (x.f1, ((a + (numL 10 x.f0.size).length + x.f0.size + (numL 10 (zz x.f1)).length : Nat) : Int), 0) := by
    unfold stS rdSig
    rw [if_pos rfl, r2]
    simp only [sgn_zz]
  have e3 : stN s ((a + (numL 10 x.f0.size).length + x.f0.size + (numL 10 (zz x.f1)).length : Nat) : Int) 0 = ((lenS x : Int), ((a + (encSp x).size : Nat) : Int), 0) := by
    unfold stN
    rw [if_pos rfl, r3, hsz]
    refine Prod.ext rfl (Prod.ext ?_ rfl)
    simp only
    omega
  have e4 : wrap64 (x.f1 + wrap64 (lenS x : Int)) = x.f2 := by
    unfold wrap64 lenS
    omega
  unfold oneSp
  simp only [e1, e2, e3, e4]
theorem spans_enc (s : ByteArray) : ∀ (l : List S25) (a : Nat) (acc : List S25) (rest : List UInt8), (∀ x ∈ l, inI x) → L8 s a = flatL l ++ rest → spansGo s l.length (a : Int) 0 acc = (acc ++ l, ((a + (flatL l).length : Nat) : Int), 0)
  | [], a, acc, rest, _, _ => by simp [spansGo, flatL]
  | x :: l, a, acc, rest, hi, h => by
    have hf : flatL (x :: l) = (encSp x).data.toList ++ flatL l := by simp [flatL]
    rw [hf, List.append_assoc] at h
    have h1 := one_enc (hi x (List.mem_cons_self ..)) h
    have h2 := drop_add h
    rw [ba_len] at h2
    rw [List.length_cons, spansGo, if_pos rfl, h1]
    simp only
    rw [spans_enc s l _ _ rest (fun y hy => hi y (List.mem_cons_of_mem _ hy)) h2, hf, List.append_assoc, List.length_append, ba_len, Nat.add_assoc]
    rfl
theorem read_bytes {l : List S25} (hf : fitB l = true) (hi : ∀ x ∈ l, inI x) : readB (bytesB l) = (l, 0) := by
  have hl := fit_len hf
  have h0 : L8 (bytesB l) 0 = numL 10 l.length ++ flatL l := by unfold L8; rw [List.drop_zero, bytesB_list]
  have r0 := rdNum_enc (s := bytesB l) (a := 0) (n := l.length) (by omega) h0
  have h1 := drop_add h0
  have hs := spans_enc (bytesB l) l (0 + (numL 10 l.length).length) [] [] hi (by rw [List.append_nil]; exact h1)
  have hsz : (bytesB l).size = 0 + (numL 10 l.length).length + (flatL l).length := by rw [← ba_len, bytesB_list, List.length_append]; omega
  rw [readB_eq, show (0 : Int) = ((0 : Nat) : Int) from rfl, r0]
  simp only [Int.toNat_natCast]
  rw [hs]
  unfold finish
  simp only [List.nil_append]
  rw [if_neg (by simp), if_neg (by omega), hf]
  rfl
/-- What is read as a span is a span's bytes. -/
theorem one_dec {s : ByteArray} {a a' : Int} {x : S25} (h : oneSp s a = (x, a', 0)) : 0 ≤ a ∧ a ≤ a' ∧ a' ≤ s.size ∧ L8 s a.toNat = (encSp x).data.toList ++ L8 s a'.toNat ∧ (-9223372036854775808 ≤ x.f1 ∧ x.f1 ≤ 9223372036854775807) ∧ (-9223372036854775808 ≤ x.f2 ∧ x.f2 ≤ 9223372036854775807) := by
  obtain ⟨x0, a2, e2, h1⟩ : ∃ x a2 e2, stT s a 0 = (x, a2, e2) := ⟨_, _, _, rfl⟩
  obtain ⟨f0, a3, e3, h2⟩ : ∃ x a3 e3, stS s a2 e2 = (x, a3, e3) := ⟨_, _, _, rfl⟩
  obtain ⟨l0, a4, e4, h3⟩ : ∃ x a4 e4, stN s a3 e3 = (x, a4, e4) := ⟨_, _, _, rfl⟩
  unfold oneSp at h
  simp only [h1, h2, h3, Prod.mk.injEq] at h
  obtain ⟨hx, rfl, rfl⟩ := h
  obtain ⟨rfl, k3⟩ := stN_ok h3
  obtain ⟨rfl, m, k2, hm⟩ := stS_ok h2
  obtain ⟨-, k1⟩ := stT_ok h1
  obtain ⟨n, c, j1, h4, rfl, hx0⟩ := rdText_ok k1
  obtain ⟨p1, p2, p3, p4, p5, p6⟩ := rdNum_bounds j1
  obtain ⟨q1, q2, q3, q4, q5, q6⟩ := rdNum_bounds k2
  obtain ⟨s1, s2, s3, s4, s5, s6⟩ := rdNum_bounds k3
  have hsg := sgn_range q2 q3
  obtain ⟨n, rfl⟩ := Int.eq_ofNat_of_zero_le p2
  obtain ⟨c, rfl⟩ := Int.eq_ofNat_of_zero_le (show 0 ≤ c by omega)
  have hx0' : x0.data.toList = (L8 s c).take n := by rw [hx0, Int.toNat_natCast, show ((c : Int) + (n : Int)).toNat = c + n by omega, extract_list]
  have hcn : L8 s c = x0.data.toList ++ L8 s (c + n) := by
    rw [hx0']
    unfold L8
    rw [← List.drop_drop, List.take_append_drop]
  have hx0s : x0.size = n := by
    rw [← ba_len, hx0', List.length_take, List.length_drop, ba_len]
    omega
  have e1 : zz x.f1 = m.toNat := by
    rw [← hx]
    have := zz_sgn q2
    simp only
    rw [hm]
    omega
  have e2 : lenS x = l0.toNat := by
    rw [← hx]
    unfold lenS wrap64
    simp only
    omega
  have e0 : x.f0 = x0 := by rw [← hx]
  refine ⟨p1, by omega, s5, ?_, by rw [← hx]; simp only; rw [hm]; exact hsg, by rw [← hx]; simp only; unfold wrap64; omega⟩
  rw [encSp_list, e0, e1, e2, hx0s]
  simp only [List.append_assoc]
  rw [← s6, ← q6, show ((c : Int) + (n : Int)).toNat = c + n by omega, ← hcn]
  rw [Int.toNat_natCast, Int.toNat_natCast] at p6
  exact p6
theorem spans_dec (s : ByteArray) : ∀ (m : Nat) (a : Int) (acc x : List S25) (a' : Int), 0 ≤ a → spansGo s m a 0 acc = (x, a', 0) → ∃ l, x = acc ++ l ∧ l.length = m ∧ 0 ≤ a' ∧ L8 s a.toNat = flatL l ++ L8 s a'.toNat ∧
    ∀ y ∈ l, (-9223372036854775808 ≤ y.f1 ∧ y.f1 ≤ 9223372036854775807) ∧ (-9223372036854775808 ≤ y.f2 ∧ y.f2 ≤ 9223372036854775807)
  | 0, a, acc, x, a', h0, h => by
    simp only [spansGo, Prod.mk.injEq, and_true] at h
    obtain ⟨rfl, rfl⟩ := h
    exact ⟨[], by simp, rfl, h0, by simp [flatL], by simp⟩
  | m + 1, a, acc, x, a', h0, h => by
    rw [spansGo, if_pos rfl] at h
    obtain ⟨y, b, e, ho⟩ : ∃ y b e, oneSp s a = (y, b, e) := ⟨_, _, _, rfl⟩
    rw [ho] at h
    simp only at h
    by_cases he : e = 0
    · subst he
      obtain ⟨p1, p2, p3, p4, p5, p6⟩ := one_dec ho
      obtain ⟨l, rfl, hl, hb, hd, hr⟩ := spans_dec s m b _ x a' (by omega) h
      refine ⟨y :: l, by simp, by simp [hl], hb, ?_, fun z hz => ?_⟩
      · rw [p4, hd]
        simp [flatL]
      · rcases List.mem_cons.1 hz with rfl | hz
        · exact ⟨p5, p6⟩
        · exact hr z hz
    · rw [spansGo_err _ _ _ _ _ he] at h
      simp only [Prod.mk.injEq] at h
      exact absurd h.2.2 he
theorem bytes_read {s : ByteArray} {x : List S25} (h : readB s = (x, 0)) : bytesB x = s ∧ fitB x = true ∧ ∀ y ∈ x, inI y := by
  rw [readB_eq] at h
  obtain ⟨n, a, e, hr⟩ : ∃ n a e, rdNum s 0 = (n, a, e) := ⟨_, _, _, rfl⟩
  rw [hr] at h
  simp only at h
  obtain ⟨l, b, f, hsp⟩ : ∃ l b f, spansGo s n.toNat a e [] = (l, b, f) := ⟨_, _, _, rfl⟩
  rw [hsp] at h
  unfold finish at h
  simp only at h
  split at h
  · rename_i hf
    simp only [Prod.mk.injEq] at h
    exact absurd h.2 hf
  · rename_i hf
    have hf0 : f = 0 := by omega
    subst hf0
    split at h
    · simp at h
    · rename_i hb
      split at h
      · rename_i hfit
        simp only [Prod.mk.injEq, and_true] at h
        subst h
        have he : e = 0 := by
          by_cases he : e = 0
          · exact he
          · rw [spansGo_err _ _ _ _ _ he] at hsp
            simp only [Prod.mk.injEq] at hsp
            exact absurd hsp.2.2 he
        subst he
        obtain ⟨p1, p2, p3, p4, p5, p6⟩ := rdNum_bounds hr
        obtain ⟨l', e1, hl, hb0, hd, hrng⟩ := spans_dec s n.toNat a [] l b (by omega) hsp
        rw [List.nil_append] at e1
        subst e1
        refine ⟨ba_ext ?_, hfit, fun y hy => ⟨(hrng y hy).1, (hrng y hy).2, ?_⟩⟩
        · rw [bytesB_list, hl]
          have hend : L8 s b.toNat = [] := List.drop_eq_nil_of_le (by rw [ba_len]; omega)
          rw [hend, List.append_nil] at hd
          rw [show (0 : Int).toNat = 0 from rfl, List.drop_zero] at p6
          rw [p6]
          exact congrArg _ hd.symm
        · exact ((fit_iff l).1 hfit).2.2.1 y hy |>.2.1
      · simp at h
theorem bytesFrom_size : ∀ (l : List S25) (b : ByteArray), (∀ x ∈ l, x.f0.size ≤ 24) → (bytesFrom l b).size ≤ b.size + 54 * l.length
  | [], b, _ => by simp [bytesFrom]
  | x :: l, b, h => by
    have h1 := bytesFrom_size l (b ++ encSp x) (fun y hy => h y (List.mem_cons_of_mem _ hy))
    have h2 := encSp_size (h x (List.mem_cons_self ..))
    unfold bytesFrom at h1 ⊢
    rw [List.foldl_cons, List.length_cons]
    rw [ByteArray.size_append] at h1
    omega
theorem bytes_j0 (l : List S25) (hb : l.length < 4398046511104) (hi : ∀ x ∈ l, (-9223372036854775808 ≤ x.f1 ∧ x.f1 ≤ 9223372036854775807) ∧ (-9223372036854775808 ≤ x.f2 ∧ x.f2 ≤ 9223372036854775807)) : Ev (fun k => almanaclaw19_SpanBytes.j0 k l false) true := by
  refine Ev.step (f := fun k => (almanacref19_Fit.f k l).bind fun t466 => (if t466 = true then ((span_Bytes.f k l).bind fun t468 => ((span_Read.f t468).bind fun bt469 => ((almanacref19_Bytes.f k l).bind fun t473 => (if t468.toList = t473.toList then (if bt469.2 = 0 then ((almanacref19_Same.f k bt469.1 l).bind fun t474 => (if t474 = true then ((almanaclaw19_awake.f k).bind fun t475 => (some t475)) else (some false))) else (some false)) else (some false))))) else ((almanaclaw19_awake.f k).bind fun t467 => (some t467)))) (fun k => by simp only [almanaclaw19_SpanBytes.j0]; rfl) ?_
  refine Ev.bind (rfit_val l hb) ?_
  cases hf : fitB l with
  | false => exact Ev.congr (fun k => by rw [if_neg (by decide)]) awake_end'
  | true =>
    have h32 := fit_len hf
    have hI : ∀ x ∈ l, inI x := fun x hx => ⟨(hi x hx).1, (hi x hx).2, ((fit_iff l).1 hf).2.2.1 x hx |>.2.1⟩
    refine Ev.congr (fun k => by rw [if_pos rfl]) ?_
    refine Ev.bind (bytes_val l h32 hI) ?_
    have hsz : (bytesB l).size ≤ 10 + 54 * 32 := by
      have h := bytesFrom_size l (numB l.length) (fun x hx => (hI x hx).2.2)
      have := numB_size l.length
      unfold bytesB
      omega
    refine Ev.congr (fun k => by unfold span_Read.f; rw [if_pos (by omega), Option.bind_some, read_bytes hf hI]) ?_
    refine Ev.bind (rbytes_val l h32 hI) ?_
    refine Ev.congr (fun k => by rw [if_pos rfl, if_pos rfl]) ?_
    refine Ev.bind (rsame_val l l hb) ?_
    rw [decide_eq_true rfl]
    exact Ev.congr (fun k => by rw [if_pos rfl]) awake_end'
theorem spanBytes_pure (l : List S25) (s : ByteArray) (hs : s.size ≤ 1048576) (hb : l.length < 4398046511104) (hi : ∀ x ∈ l, (-9223372036854775808 ≤ x.f1 ∧ x.f1 ≤ 9223372036854775807) ∧ (-9223372036854775808 ≤ x.f2 ∧ x.f2 ≤ 9223372036854775807)) :
    ∃ k, almanaclaw19_SpanBytes.f k l s = some true := by
  apply Ev.rounds
  unfold almanaclaw19_SpanBytes.f
  refine Ev.congr (fun k => by unfold span_Read.f; rw [if_pos hs, Option.bind_some]) ?_
  refine Ev.bind (rread_val s hs) ?_
  obtain ⟨x, e, hr⟩ : ∃ x e, readB s = (x, e) := ⟨_, _, rfl⟩
  have hxl : x.length < 4398046511104 := by
    by_cases he : e = 0
    · subst he
      have := fit_len (bytes_read hr).2.1
      omega
    · have : x = [] := by
        rw [readB_eq] at hr
        unfold finish at hr
        split at hr
        · exact (Prod.mk.inj hr).1.symm
        · split at hr
          · exact (Prod.mk.inj hr).1.symm
          · split at hr
            · exact absurd (Prod.mk.inj hr).2.symm he
            · exact (Prod.mk.inj hr).1.symm
      rw [this]
      simp
  rw [hr]
  simp only
  refine Ev.bind (rsame_val x x hxl) ?_
  rw [decide_eq_true rfl]
  refine Ev.congr (fun k => by rw [if_pos rfl]) ?_
  by_cases he : e = 0
  · subst he
    obtain ⟨h1, h2, h3⟩ := bytes_read hr
    refine Ev.congr (f := fun k => (span_Bytes.f k x).bind fun t465 => almanaclaw19_SpanBytes.j0 k l (t465.toList != s.toList)) (fun k => by rw [if_pos rfl, if_pos trivial]) ?_
    have hb2 := bytes_val x (fit_len h2) h3
    refine Ev.bind hb2 ?_
    rw [h1]
    have e5 : (s.toList != s.toList) = false := by rw [bne_self_eq_false]
    exact Ev.congr (fun k => by rw [e5]) (bytes_j0 l hb hi)
  · exact Ev.congr (f := fun k => almanaclaw19_SpanBytes.j0 k l false) (fun k => by rw [if_neg he, if_pos trivial]) (bytes_j0 l hb hi)
end Go.Proofs.Ythcoiabgemclbaa.PD
namespace Go.Proofs.Ythcoiabgemclbaa.PD
open Go.ChangeShapes Go.WideShapes Go.ChangeAt Go.RowKit Go.Proofs.YthcoiabgemclbaaW.PrintWords
set_option linter.unusedVariables false
namespace SpanBytesRow
open _root_.Go.Proofs.Ythcoiabgemclbaa.Rows
theorem short {H : Type} {l : List (DataW H)} {s : ByteArray} (hk : Rows.uptoSmall H l = true) (hm : DataW.lit (.string s.data.toList) ∈ l) : s.size ≤ 1048576 := by
  have h : Rows.uptoBulkAll l ≤ 1048576 := of_decide_eq_true hk
  have h2 : Rows.uptoBulk (DataW.lit (H := H) (.string s.data.toList)) ≤ Rows.uptoBulkAll l := by
    clear h hk
    induction l with
    | nil => cases hm
    | cons x r ih =>
      simp only [Rows.uptoBulkAll]
      rcases List.mem_cons.1 hm with e | e
      · rw [← e]; omega
      · have := ih e; omega
  simp only [Rows.uptoBulk] at h2
  have e : s.data.toList.length = s.size := by rw [Array.length_toList]; rfl
  omega
set_option maxRecDepth 100000 in
theorem lifted (os : Os) (started : os.Started) (H : Type) (enc : TypeId × Value → H) (F : Stop.Interp) :
    ReturnsInHanded {} Try.checked os 5 .any ((Rows.OpenSpec.upto spanBytesSpec).pre6 enc Try.prog Try.f5 spanBytesUptoRow.domain false) (((Rows.OpenSpec.upto spanBytesSpec).at F).post enc Try.prog Try.f5 false true false false) := by
  refine returnsInHanded_of_cond_sized (C := Try.checked) (s := Rows.OpenSpec.upto spanBytesSpec) (k := Rows.uptoSmall) rfl own started (by kernel_rfl) Try.func5
    (OpenSpec.witness (enc := enc) (C := Try.checked) (s := Rows.OpenSpec.upto spanBytesSpec) (k := Rows.uptoSmall) rfl false ⟨#[], #[.slice none 0 0, .string .empty], []⟩ 8 (by kernel_rfl) (by kernel_rfl) (by kernel_rfl)
      (x := ([.nil, .lit (.string [])], [], [])) (by kernel_rfl) rfl (by kernel_rfl)) ?_
  intro W base args ds gs before hval0 hW hcnd hk hsz0 _
  have hsz : (DataW.weightsEach Try.prog (Try.f5.params.toList ++ spanBytesSpec.plain.varTypes Try.prog) (ds ++ gs)).all (· ≤ reachBytes) = true := hsz0
  have hval : ∀ (j : Nat) t v, Try.f5.params[j]? = some t → args[j]? = some v → Value.okWide Try.prog W .any base t v := hval0
  have hW' := hW
  obtain ⟨p, q, hA0, hV, rfl, hfz, hnd⟩ := hW
  have hA : DataW.TrodAll enc Try.prog W 0 (fun _ => true) true Try.f5.params.toList args.toList ds p := hA0
  rw [Try.params5] at hA hval hsz
  obtain ⟨v0, vs0, d0, ds0, p0, q0, hargs, rfl, rfl, h0, r0⟩ := trodAll_cons hA
  obtain ⟨v1, vs1, d1, ds1, p1, q1, rfl, rfl, rfl, h1, r1⟩ := trodAll_cons r0
  obtain ⟨rfl, rfl, rfl⟩ := trodAll_nil r1
  obtain rfl : args = #[v0, v1] := by cases args; simp_all
  obtain ⟨rfl, rfl⟩ := trodVars_none hV
  obtain ⟨A0, c0, l0, rfl, x0, y0, z0, s0⟩ := open_spans (hval 0 22 v0 rfl rfl) h0 (weighs hsz (j := 0) rfl rfl)
  obtain ⟨s1, rfl, rfl, rfl, w1⟩ := Go.ChangeMaps.open_string Try.underlying9 (hval 1 9 v1 rfl rfl) h1
  have hs1 : s1.size ≤ 1048576 := short hk (by simp)
  have k0 := h0
  have lt0 : ∀ x ∈ p0, x.block < W.heap.size := by obtain ⟨m, hm⟩ := k0; exact DataW.trod_lt m _ _ _ hm
  clear hA0 hval0 hsz0 hsz
  obtain ⟨k, hk⟩ := spanBytes_pure l0 s1 hs1 (by omega) (fun y hy => by
    obtain ⟨-, h2, h3⟩ := s0 y hy
    simp [Lit.wf, IntKind.min, IntKind.max, IntKind.signed, IntKind.bits] at h2 h3
    omega)
  refine (almanaclaw19_SpanBytes.callsT k A0 c0 l0 s1 true W x0 y0 hk rfl).mono fun e W' ⟨he, bel⟩ => ?_
  subst he
  exact ⟨_, rfl, _, _, _, [], _, [], hW', trodAll_mk1 (shut_bool Try.underlying4 _), (trodAll_cons_mk (Below.trod laidOut (by kernel_rfl) (of_decide_eq_true (by kernel_rfl)) k0 bel lt0) (trodAll_cons_mk (Go.ChangeMaps.shut_string Try.underlying9 w1) trodAll_mk0)), rfl, bel.frame _, fun h => by cases h⟩
theorem over : Rows.SpanBytesUptoSaid :=
  OpenClaim.holds_of_cond 5 Try.f5 rfl rfl rfl rfl rfl rfl rfl ⟨rfl, rfl, rfl, rfl, rfl⟩ rfl rfl rfl rfl rfl (by kernel_rfl) Try.func5 (by kernel_rfl)
    (of_decide_eq_true (by kernel_rfl)) (by unfold Func.isWrapper; first | (rw [if_pos (by decide +kernel)]; kernel_rfl) | (rw [if_neg (by decide +kernel)]; exact ⟨rfl, rfl⟩))
    (fun os started H enc _ F => lifted os started H enc F)
end SpanBytesRow
theorem spanBytes_upto : Rows.SpanBytesUptoSaid := SpanBytesRow.over
end Go.Proofs.Ythcoiabgemclbaa.PD
