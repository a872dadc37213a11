/- Part 3 of the texts that the claim leans on: the functions' walks, and what they compute. -/
import Derived.Test.YtebmbfobmakheaaItipTells2
import Derived.Scope
import Derived.Shelf.Abstract
import Derived.Maps.AppendAt
import Derived.Shelf.RegionOpen
namespace Go.Proofs.Ytebmbfobmakheaa.PD
open Go.RowKit Go.Shelf Go.Proofs.YtebmbfobmakheaaW.PrintWords Go.Proofs.YtebmbfobmakheaaW.PrintLast Go.Proofs.YtebmbfobmakheaaW.PrintMore
attribute [local go_sem] isSome_setCell Oper.semAt_some wide_fn wide_depth
set_option linter.unusedVariables false
set_option linter.unusedSimpArgs false
set_option maxRecDepth 100000 in
set_option maxHeartbeats 1600000 in
theorem index9 (fk : Nat) (fn : Func) (hfn : Try.prog.funcs[fk]? = some fn) (hname : (fn.name == "runtime.NumGoroutine") = false) (hbody : fn.body.isSome = true) (lb : Array Value) (p : ByteArray → Bool)
    (A0 : Option Addr) (c0 : Nat) (l0 : List ByteArray) (w : World) (hr0 : Kd.C Kd.string w A0 l0.length l0)
    (hp : ∀ x ∈ l0, ∀ W, Below w.heap.size w W → Calls Try.prog fk (#[.string x] ++ lb) W fun e W' => e = .returned (.bool (p x)) ∧ Below W.heap.size W W') :
    Calls Try.prog 84 #[.slice A0 l0.length c0, .func (.func fk) #[] lb] w fun e w' => e = .returned (.int .i64 (idxP p l0)) ∧ Below w.heap.size w w' := by
  have HR0 := Aside0.mk hr0
  have hml : l0.length ≤ 9223372036854775807 := by have := hr0.2.1; unfold maxLen at this; omega
  clear hr0
  have HP := Aside0.mk hp
  clear hp
  have HB := Aside0.mk (Below.refl w.heap.size w)
  go_enter Try.func84, Try.ntmps84
  go_wp2
  go_loopw [8] (fun v wr => ∃ k : Nat, v = .int .i64 k ∧ k ≤ l0.length ∧ Aside0 (∀ j, (hj : j < l0.length) → j < k → p l0[j] = false) ∧ Aside0 (Below w.heap.size w wr)) (fun v _ => l0.length - (intOf v).toNat)
  case atStart => exact ⟨0, rfl, Nat.zero_le _, ⟨fun j _ hj => absurd hj (Nat.not_lt_zero _)⟩, HB⟩
  case round =>
    obtain ⟨k, rfl, hk, hno, hb⟩ := hrel
    by_cases hlt : k < l0.length
    · have hlt0 : decide ((k : Int) < (l0.length : Int)) = true := decide_eq_true (by omega)
      obtain ⟨ad, e, hx0⟩ := Kd.at_string HR0.out (k : Int) (by omega) (by omega)
      subst e
      replace hx0 := (hb.out.cell (World.block_lt_of_cell? w _ hx0)).trans hx0
      have hget : rdOf ByteArray.empty l0 (k : Int) = l0[k] := by simp only [rdOf, Int.toNat_natCast]; simp [hlt]
      rw [hget] at hx0
      have hc := HP.out l0[k] (List.getElem_mem hlt) wr hb.out
      simp only [Int.toNat_natCast] at hx0
      cases hpk : p l0[k] with
      | true =>
        rw [hpk] at hc
        have HC := Aside0.mk hc
        clear hc
        go_wp2_with ((with_reducible refine gate_tmp (t := 11) rfl ?_); refine goesF_ (some 16) rfl rfl hfn hname hbody (args := #[.string l0[k]] ++ lb) rfl rfl (by (try simp only [List.map_toArray, List.map_cons, List.map_nil]); first | done | rfl) ?_; refine HC.out.mono ?_; rintro e W' ⟨rfl, hb'⟩; refine ⟨_, rfl, ?_⟩)
        go_ret
        refine ⟨?_, hb.out.trans (hb'.mono hb.out.size)⟩
        rw [idxP_at p l0 k hlt hpk (fun j hj => hno.out j (by omega) hj)]
        rfl
      | false =>
        rw [hpk] at hc
        have HC := Aside0.mk hc
        clear hc
        go_wp2_with ((with_reducible refine gate_tmp (t := 11) rfl ?_); refine goesF_ (some 16) rfl rfl hfn hname hbody (args := #[.string l0[k]] ++ lb) rfl rfl (by (try simp only [List.map_toArray, List.map_cons, List.map_nil]); first | done | rfl) ?_; refine HC.out.mono ?_; rintro e W' ⟨rfl, hb'⟩; refine ⟨_, rfl, ?_⟩)
        go_roundw
        case rel =>
          refine ⟨k + 1, by simp, hlt, ⟨fun j hj hjk => ?_⟩, ⟨hb.out.trans (hb'.mono hb.out.size)⟩⟩
          rcases Nat.lt_or_ge j k with h | h
          · exact hno.out j hj h
          · obtain rfl : j = k := by omega
            exact hpk
        case measure => show l0.length - (((k : Int) + 1)).toNat < l0.length - ((k : Int)).toNat; omega
    · have hlt0 : decide ((k : Int) < (l0.length : Int)) = false := decide_eq_false (by omega)
      go_wp2
      go_ret
      refine ⟨?_, hb.out⟩
      rw [idxP_none p l0 (fun j hj => hno.out j hj (by omega))]
      rfl
set_option maxRecDepth 100000 in
set_option maxHeartbeats 1600000 in
theorem attN1_calls (v : ByteArray) (G : Nat) (a : ByteArray) (ha : shortB a = true) (hv : shortB v = true) (W : World) (hG : W.cell? ⟨G, 2, none⟩ = some (.string v)) :
    Calls Try.prog 47 (#[.string a] ++ #[.pointer (some ⟨G, 0, none⟩)]) W fun e W' => e = .returned (.bool (alikeB a v)) ∧ Below W.heap.size W W' := by
  go_enter Try.func47, Try.ntmps47
  go_wp2_with (go_at_call 48; refine (alike_calls a v ha hv W).mono ?_; rintro e w1 ⟨rfl, hb⟩; have HB := Aside0.mk hb; clear hb)
  go_ret
  exact ⟨rfl, HB.out⟩
set_option maxRecDepth 100000 in
set_option maxHeartbeats 1600000 in
theorem contains_walk (v : ByteArray) (G : Nat) (A0 : Option Addr) (c0 : Nat) (l0 : List ByteArray) (hl : ∀ a ∈ l0, shortB a = true) (hv : shortB v = true) (w : World) (hr0 : Kd.C Kd.string w A0 l0.length l0) (hG : w.cell? ⟨G, 2, none⟩ = some (.string v)) :
    Calls Try.prog 46 #[.slice A0 l0.length c0, .func (.func 47) #[] #[.pointer (some ⟨G, 0, none⟩)]] w fun e w' => e = .returned (.bool (l0.any fun a => alikeB a v)) ∧ Below w.heap.size w w' := by
  have HI := Aside0.mk (index9 47 _ Try.func47 (by kernel_rfl) rfl #[.pointer (some ⟨G, 0, none⟩)] (fun a => alikeB a v) A0 c0 l0 w hr0 (fun x hx W hW => attN1_calls v G x (hl x hx) hv W ((hW.cell (World.block_lt_of_cell? w _ hG)).trans hG)))
  rw [← idxP_any]
  obtain ⟨i, hi⟩ : ∃ i, idxP (fun a => alikeB a v) l0 = i := ⟨_, rfl⟩
  rw [hi] at HI ⊢
  clear hr0 hi
  go_enter Try.func46, Try.ntmps46
  go_wp2_with (go_at_call 84; refine HI.out.mono ?_; rintro e w1 ⟨rfl, hb1⟩; have HB1 := Aside0.mk hb1; clear hb1)
  go_ret
  exact ⟨rfl, HB1.out⟩
theorem wpListIn_append_at {F : Fence} {n : Nat} {P : Program} (w : World) {ops : Array Oper} {rest : List Oper} {o : Oper} {a : Act} {Q : Exit → Act → World → Prop}
    (hg : o.guard = none) (s x : Operand) (t : TypeId) (hop : o.op = Op.call { callee := Callee.builtin Builtin.append, args := #[s, x], argTypes := #[t, t] })
    (base : Nat) (e : TypeId) (i : TypeInfo) (z : Value) (size bytes : Nat) (h1 : P.underlying t = some (.slice e)) (h2 : P.info? e = some i) (h3 : i.zero = some z) (h4 : i.size = size) (h5 : i.bytes = bytes) (h6 : z.cells.size = size) (h7 : 0 < size)
    (v : Value) (k : Nat) (xs : List Value) (hs : a.eval s = v) (hown : w.ownsRow base e size v k xs) (ad : Addr) (m c : Nat) (news : List Value) (hx : a.eval x = .slice (some ad) m c) (hn : news.length = m * size)
    (hc : ∀ j u, news[j]? = some u → w.cell? (ad.add j) = some u) (h1c : ∀ u ∈ news, u.oneCell' = true) (b1 : k + m ≤ maxLen) (b2 : (k + m) * bytes ≤ 140737488355328) (b3 : base ≤ w.heap.size)
    (hK : ∀ v' w', w'.ownsRow base e size v' (k + m) (xs ++ news) → w.grownBy w' v.ownBlock → (v'.ownBlock = v.ownBlock ∨ v'.ownBlock = some w.heap.size) → wpListIn F n P ops Q rest (a.put o.dst v') w') :
    wpListIn F n P ops Q (o :: rest) a w := by
  refine wpListIn_plain hg fun K hK' => ?_
  obtain ⟨v', w', hrun, r1, r2, r3, r4⟩ := run_append_own_at (P := P) w base t o.type e i z size bytes h1 h2 h3 h4 h5 h6 h7 v k xs hown ad m c news hn hc h1c b1 b2 b3
  unfold Oper.wpIn
  refine ⟨?_, ?_⟩
  · simp [Oper.about, hop, resolve, Target.leads, Sem.run_pure]
  · rw [Oper.semAt_plain F _ _ (by rw [hop]; intro c hc'; cases hc')]
    simp [execOp, hop, resolve, invoke, builtin, hs, hx, hrun, Result.andThen]
    exact hK' _ _ (hK v' w' r1 r2 r4)
def addA (acc : List ByteArray) (x : S45) : List ByteArray := if (acc.any fun a => alikeB a x.f2) = true then acc else acc ++ [x.f2]
def attendeesP (l : List S25) : List ByteArray := (attP l).foldl addA []
theorem addA_mem (pre : List S45) : ∀ acc : List ByteArray, (∀ a ∈ acc, shortB a = true) → (∀ x ∈ pre, shortB x.f2 = true) → (∀ a ∈ pre.foldl addA acc, shortB a = true) ∧ (pre.foldl addA acc).length ≤ acc.length + pre.length := by
  induction pre with
  | nil => intro acc h _; exact ⟨h, by simp⟩
  | cons x pre ih =>
    intro acc h hx
    have h1 : ∀ a ∈ addA acc x, shortB a = true := by
      unfold addA
      split
      · exact h
      · intro a ha
        rcases List.mem_append.1 ha with ha | ha
        · exact h a ha
        · rw [List.mem_singleton.1 ha]; exact hx x List.mem_cons_self
    have h2 : (addA acc x).length ≤ acc.length + 1 := by unfold addA; split <;> simp
    obtain ⟨h3, h4⟩ := ih _ h1 (fun y hy => hx y (List.mem_cons_of_mem _ hy))
    exact ⟨h3, by rw [List.foldl_cons, List.length_cons]; omega⟩
def Acc (w : World) (xs : List ByteArray) (W : World) : Prop := ∃ v : Value, (W.heap[w.heap.size + 1]? = some (.cells #[v] 33 (0, 0)) ∧ v.ownBlock ≠ some (w.heap.size + 1)) ∧ W.ownsRow (w.heap.size + 2) 9 1 v xs.length (xs.map Value.string) ∧ Below w.heap.size w W
def OwA (w : World) (X : World) (k : Nat) : Prop := ∃ v : Value, X.heap[w.heap.size + 1]? = some (.cells #[v] 33 (0, 0)) ∧ v.ownBlock = some k
theorem owns_typed {W : World} {base : Nat} {e : TypeId} {size n k : Nat} {v : Value} {xs : List Value} (h : W.ownsRow base e size v n xs) (hv : v.ownBlock = some k) : base ≤ k ∧ k < W.heap.size ∧ ∃ cells, W.heap[k]? = some (.cells cells e (0, 0)) := by
  rcases h.2 with ⟨rfl, _⟩ | ⟨g, cap, cur, rfl, hb, hg, _⟩
  · simp [Value.ownBlock] at hv
  · have : g = k := by simpa [Value.ownBlock] using hv
    subst this
    exact ⟨hb, (Array.getElem?_eq_some_iff.1 hg).1, _, hg⟩
theorem acc_own (w : World) (B : Nat) (hB : w.heap.size + 2 ≤ B) : OwnZ NoZ B (fun (xs : List ByteArray) W => Acc w xs W) := by
  rintro s X Y row ⟨v, ⟨h1, h2⟩, h3, h4⟩ hg hr
  refine ⟨v, ⟨cell_own h1 hg hr, h2⟩, h3.kept hg ?_, below_own h4 (by omega) hg hr⟩
  cases hv : v.ownBlock with
  | none => exact .inl rfl
  | some g =>
    refine .inr (fun e => ?_)
    obtain ⟨_, _, cells, hcl⟩ := owns_typed h3 hv
    rcases hr g e.symm with h | ⟨_, o, ho, hoc⟩
    · exact h
    · rw [hcl] at ho; cases ho; cases hoc
theorem acc_ownS (w : World) (B : Nat) (p : List S45 → List ByteArray) : OwnS NoZ (OwA w) B (fun (pre : List S45) W => Acc w (p pre) W) := by
  refine ⟨?_, ?_⟩
  · rintro s X Y row ⟨v, ⟨h1, h2⟩, h3, h4⟩ hg hr k ⟨v', hv', hk⟩
    rw [cell_own h1 hg hr] at hv'
    have : v = v' := by injection hv' with h; injection h with h; simpa using h
    exact ⟨v, h1, by rw [this]; exact hk⟩
  · rintro s X ⟨v, ⟨h1, h2⟩, h3, h4⟩ k ⟨v', hv', hk⟩
    rw [h1] at hv'
    have : v = v' := by injection hv' with h; injection h with h; simpa using h
    exact (owns_typed h3 (by rw [this]; exact hk)).2.1
theorem acc_at {W w1 : World} {S : Nat} {v u : Value} {t : TypeId} (h1 : W.heap[S]? = some (.cells #[v] 33 (0, 0))) (h2 : v.ownBlock ≠ some S) (hg : (W.alloc (.cells #[u] t)).grownBy w1 v.ownBlock) :
    w1.heap[S]? = some (.cells #[v] 33 (0, 0)) ∧ w1.cell? ⟨S, 0, none⟩ = some v ∧ w1.frozen? ⟨S, 0, none⟩ = false := by
  have h := blk_grown (blk_alloc h1 (.cells #[u] t)) hg (fun e => h2 e.symm)
  exact ⟨h, (blk_cell h 0).trans rfl, blk_frozen h 0⟩
theorem own_succ {w : World} {base : Nat} {e : TypeId} {size n : Nat} {v : Value} {xs : List Value} (h : w.ownsRow base e size v (n + 1) xs) : ∃ g cap, v = .slice (some ⟨g, 0, none⟩) (n + 1) cap := by
  rcases h.2 with ⟨_, h0⟩ | ⟨g, cap, cur, rfl, _⟩
  · omega
  · exact ⟨g, cap, rfl⟩
theorem own_put {W : World} {base : Nat} {e : TypeId} {size n D : Nat} {v : Value} {xs : List Value} {o : Obj} (h : W.ownsRow base e size v n xs) (hD : W.heap[D]? = some (.deferred (some []))) : (W.putObj D o).ownsRow base e size v n xs := by
  refine h.kept (row := some D) (grownBy_putObj' W D o) ?_
  cases hv : v.ownBlock with
  | none => exact .inl rfl
  | some g =>
    refine .inr (fun e => ?_)
    obtain ⟨_, _, cells, hcl⟩ := owns_typed h hv
    injection e with e
    rw [e, hD] at hcl
    cases hcl
theorem acc_step {w W W0 w1 : World} {B : Nat} {v : Value} {acc : List ByteArray} {x : ByteArray} {g cap : Nat} (hb0 : Below W0.heap.size W0 W) (h1 : W.heap[w.heap.size + 1]? = some (.cells #[v] 33 (0, 0))) (h10 : W0.heap[w.heap.size + 1]? = some (.cells #[v] 33 (0, 0))) (h2 : v.ownBlock ≠ some (w.heap.size + 1)) (h3 : W.ownsRow (w.heap.size + 2) 9 1 v acc.length (acc.map Value.string)) (h4 : Below w.heap.size w W)
    (hg : (W.alloc (.cells #[.string x] 9)).grownBy w1 v.ownBlock) (ho : w1.ownsRow (w.heap.size + 2) 9 1 (.slice (some ⟨g, 0, none⟩) (acc.length + 1) cap) (acc.length + 1) (acc.map Value.string ++ [.string x])) (hat : some g = v.ownBlock ∨ some g = some (W.alloc (.cells #[.string x] 9)).heap.size) (hB : w.heap.size + 2 ≤ B) :
    KO (OwA w) B W0 (w1.setCell ⟨w.heap.size + 1, 0, none⟩ (.slice (some ⟨g, 0, none⟩) (acc.length + 1) cap)) ∧ Below w.heap.size W0 (w1.setCell ⟨w.heap.size + 1, 0, none⟩ (.slice (some ⟨g, 0, none⟩) (acc.length + 1) cap)) ∧ Acc w (acc ++ [x]) (w1.setCell ⟨w.heap.size + 1, 0, none⟩ (.slice (some ⟨g, 0, none⟩) (acc.length + 1) cap)) := by
  obtain ⟨S, hS⟩ : ∃ S, w.heap.size + 1 = S := ⟨_, rfl⟩
  have hS2 : w.heap.size + 2 = S + 1 := by omega
  rw [hS2] at h3 ho hB
  unfold Acc OwA
  rw [hS2]
  rw [hS] at h1 h10 h2 ⊢
  obtain ⟨X, hX⟩ : ∃ X, w1.setCell ⟨S, 0, none⟩ (.slice (some ⟨g, 0, none⟩) (acc.length + 1) cap) = X := ⟨_, rfl⟩
  have hsz : w1.heap.size = X.heap.size := by rw [← hX]; simp [World.setCell]
  have hsw : W.heap.size + 1 ≤ w1.heap.size := by have := hg.size; rw [World.size_alloc] at this; omega
  have hs0 := hb0.size
  have far : ∀ k, k ≠ S → X.heap[k]? = w1.heap[k]? := fun k hk => by rw [← hX]; exact Below.heap_setCell _ _ _ k hk
  have hv : ∀ k, v.ownBlock = some k → S + 1 ≤ k := fun k e => (owns_typed h3 e).1
  have old : ∀ k, k < W.heap.size → some k ≠ v.ownBlock → w1.heap[k]? = W.heap[k]? := fun k hk hne => (hg.block k (by rw [World.size_alloc]; omega) hne).trans (Below.heap_alloc _ _ _ hk)
  have hgS : g ≠ S := by have := (owns_typed ho (k := g) (by simp [Value.ownBlock])).1; omega
  have hbl : Below w.heap.size W X := ⟨by rw [← hX]; exact hg.os, by rw [← hX]; exact hg.tape, by rw [← hX]; exact hg.output, by omega, fun k hk => (far k (by omega)).trans (old k (by have := h4.size; omega) (fun e => by have := hv k e.symm; omega))⟩
  have hb1 := (acc_at h1 h2 hg).1
  have hXS : X.heap[S]? = some (.cells #[.slice (some ⟨g, 0, none⟩) (acc.length + 1) cap] 33 (0, 0)) := by rw [← hX]; exact blk_set hb1 0 _
  have hw0 : w.heap.size ≤ W0.heap.size := by have := (Array.getElem?_eq_some_iff.1 h10).1; omega
  rw [hX]
  refine ⟨⟨by omega, fun i o hi ho' hc => ?_, fun k hk => ?_⟩, (hb0.mono hw0).trans hbl, ⟨_, ⟨hXS, by simpa [Value.ownBlock] using hgS⟩, ?_, h4.trans hbl⟩⟩
  · have hil := (Array.getElem?_eq_some_iff.1 ho').1
    rw [far i (by omega), old i (by omega) (fun e => ?_)]
    · exact (hb0.block i hil).trans ho'
    · obtain ⟨_, _, cells, hcl⟩ := owns_typed h3 e.symm
      rw [hb0.block i hil, ho'] at hcl
      injection hcl with hcl
      exact hc (by rw [hcl]; rfl) ⟨v, h10, e.symm⟩
  · obtain ⟨v', hv', hk'⟩ := hk
    rw [hXS] at hv'
    have : Value.slice (some ⟨g, 0, none⟩) (acc.length + 1) cap = v' := by injection hv' with h; injection h with h; simpa using h
    rw [← this] at hk'
    have hgk : g = k := by simpa [Value.ownBlock] using hk'
    subst hgk
    rcases hat with h | h
    · exact .inl ⟨v, h10, h.symm⟩
    · injection h with h
      rw [World.size_alloc] at h
      exact .inr (by omega)
  · rw [List.length_append, List.length_singleton, List.map_append]
    refine ho.kept (row := some S) ⟨by rw [← hX]; rfl, by rw [← hX]; rfl, by rw [← hX]; rfl, by omega, fun k _ hk => far k (fun e => hk (by rw [e]))⟩ (.inr (by simpa [Value.ownBlock] using hgS))
theorem strs_R {W : World} {base : Nat} {v : Value} {xs : List ByteArray} (h : W.ownsRow base 9 1 v xs.length (xs.map Value.string)) : Kd.R Kd.string 9 W base (fun _ => True) v xs := by
  refine ⟨fun _ _ => trivial, _, h, ?_⟩
  refine ⟨by show _ = xs.length * 1; simp, fun j x hj => ?_⟩
  obtain ⟨hjl, hjx⟩ := List.getElem?_eq_some_iff.1 hj
  show (List.map Value.string xs |>.drop (j * 1) |>.take 1) = [.string x]
  rw [Nat.mul_one, List.drop_eq_getElem_cons (by simpa using hjl), List.take_succ_cons, List.take_zero]
  simp [hjx]
set_option maxRecDepth 100000 in
set_option maxHeartbeats 8000000 in
theorem attendees_walk (nm : ByteArray) (A1 : Option Addr) (n1 c1 : Nat) (A : Option Addr) (c : Nat) (l : List S25) (w : World) (hr : Kd.C k25 w A l.length l) (hlim : ∀ x ∈ l, x.f1.length < 2513169434917) (hok : ∀ x ∈ attP l, shortB x.f2 = true) (hln : (attP l).length ≤ 1000000) :
    Calls Try.prog 15 #[.agg #[.string nm, .slice A1 n1 c1, .slice A l.length c]] w fun e w' => ∃ v, e = .returned v ∧ Kd.R Kd.string 9 w' w.heap.size (fun _ => True) v (attendeesP l) ∧ Below w.heap.size w w' := by
  have HR := Aside0.mk hr
  have HLIM := Aside0.mk hlim
  have HOK := Aside0.mk hok
  clear hr hlim hok
  have HV : Aside0 (Acc w [] ((w.alloc (.cells #[.string nm, .slice A1 n1 c1, .slice A l.length c] 25)).alloc (.cells #[.slice none 0 0] 33))) := ⟨.slice none 0 0, ⟨by
      have := heap_alloc_new (w.alloc (.cells #[.string nm, .slice A1 n1 c1, .slice A l.length c] 25)) (.cells #[.slice none 0 0] 33)
      rw [World.size_alloc] at this
      exact this, by simp [Value.ownBlock]⟩, World.ownsRow_nil _ _ _ _, below_alloc (below_alloc (Below.refl _ _) _) _⟩
  refine (callsIn_wide (n := 51)).1 ?_
  refine callsIn_of_wp_marks Try.func15 rfl trivial ?_ rfl
  simp only [Try.ntmps15, List.size_toArray, List.length_cons, List.length_nil, Nat.reduceAdd, Nat.reduceSub, Array.replicate_succ, Array.replicate_zero, List.push_toArray, List.append_toArray, List.nil_append, List.cons_append]
  gi_wp2
  gi_at_call 45
  refine (callsIn_wide.2 (atts_made nm A1 n1 c1 A l.length c _)).mono ?_
  rintro e w4 ⟨rfl, rfl⟩
  gi_wp2
  obtain ⟨V, hVe⟩ : ∃ V, ((w.alloc (.cells #[.string nm, .slice A1 n1 c1, .slice A l.length c] 25)).alloc (.cells #[.slice none 0 0] 33)).alloc (.cells #[.string nm, .slice A1 n1 c1, .slice A l.length c] 25) = V := ⟨_, rfl⟩
  have hz : V.heap.size = w.heap.size + 3 := by rw [← hVe]; simp
  have q1 : V.heap[w.heap.size + 2]? = some (.cells #[.string nm, .slice A1 n1 c1, .slice A l.length c] 25 (0, 0)) := by
    have := heap_alloc_new ((w.alloc (.cells #[.string nm, .slice A1 n1 c1, .slice A l.length c] 25)).alloc (.cells #[.slice none 0 0] 33)) (.cells #[.string nm, .slice A1 n1 c1, .slice A l.length c] 25)
    rw [World.size_alloc, World.size_alloc, hVe] at this
    exact this
  have HOG := Aside0.mk (show Acc w [] V from by
    obtain ⟨v, ⟨a1, a2⟩, a3, a4⟩ := HV.out
    rw [← hVe]
    exact ⟨v, ⟨blk_alloc a1 _, a2⟩, a3.alloc _, below_alloc a4 _⟩)
  try rw [show w.heap.size + 1 + 1 = w.heap.size + 2 from rfl]
  rw [hVe]
  clear hVe HV
  refine range_z (n₀ := w.heap.size) (Z := NoZ) (gf := 82) (lb := #[.pointer (some ⟨w.heap.size + 2, 0, none⟩)]) (En := EnP) (xs := attP l) (Rd := fun _ W => Below w.heap.size w W) (Own := OwA w) rfl (enters_of Try.func82 (by kernel_rfl) rfl) (by omega) (fun b hb => hb.elim)
    (fun l' J Jx W hW hJ hJx hRd hSa hSb hY h0 => (callsIn_wide (n := 51)).1 (att_in A c l w HR.out HLIM.out nm A1 n1 c1 l' (w.heap.size + 2) J Jx W hJ hJx hRd hSa hSb hY ((hW.block (w.heap.size + 2) (by omega)).trans q1) h0)) (fun x ar _ e => by obtain ⟨_, _, e, _⟩ := e; rw [e]; rfl)
    (fun pre W => Acc w (pre.foldl addA []) W)
    (fun pre W h => by obtain ⟨_, _, _, h⟩ := h; exact h)
    (fun cd pre W => False)
    (fun s X Y row hs hg hr => acc_own w V.heap.size (by omega) _ X Y row hs hg hr) (fun cd => fun s X Y row h hg hr => h) (acc_ownS w _ (fun pre => pre.foldl addA [])) (fun cd => ⟨fun _ _ _ _ h => h.elim, fun _ _ h => h.elim⟩) HOG.out
    (fun x a' W => ∃ G Ax cx, w.heap.size + 3 ≤ G ∧ a' = { tmps := #[.agg #[.string nm, .slice A1 n1 c1, .slice A l.length c], .pointer (some ⟨w.heap.size, 0, none⟩), .slice none 0 0, .pointer (some ⟨w.heap.size + 1, 0, none⟩), .pointer (some ⟨G, 0, none⟩), .agg #[.string nm, .slice A1 n1 c1, .slice A l.length c], .func (.func 82) #[] #[.pointer (some ⟨w.heap.size + 2, 0, none⟩)], .agg #[.string x.f0, .slice Ax x.f1.length cx, .string x.f2], undef, undef, undef, undef, undef, undef, undef, undef, undef, undef], defers := [] } ∧ W.heap[G]? = some (.cells #[.string x.f0, .slice Ax x.f1.length cx, .string x.f2] 45 (0, 0)))
    (fun x a' _ X Y row h hg hr => by
      obtain ⟨G, Ax, cx, hG, e, hb⟩ := h
      exact ⟨G, Ax, cx, hG, e, cell_own hb hg hr⟩) ?assign ?body ?done ?stop
  case assign =>
    rintro l' pre x ar W K hI hpx ⟨Ax, cx, rfl, hcx, hCx⟩ hW hK
    gi_wp2
    have hb : Below W.heap.size W (W.alloc (.cells #[.string x.f0, .slice Ax x.f1.length cx, .string x.f2] 45)) := below_alloc (Below.refl _ _) _
    have hst := (acc_ownS w V.heap.size (fun pre => pre.foldl addA [])).below (s := pre) hI hb
    refine hK _ _ ((kf_below hb).koS hst) (hb.mono (by obtain ⟨_, _, _, h⟩ := hI; exact h.size)) (fun _ h => h.elim) ((acc_own w V.heap.size (by omega)).below hI hb) ⟨W.heap.size, Ax, cx, by omega, by simp, heap_alloc_new W _⟩
  case body =>
    rintro l' pre x a' W ⟨v, ⟨h1, h2⟩, h3, h4⟩ hpx hWs ⟨G, Ax, cx, hG, rfl, hb⟩
    have hmem : x ∈ attP l := hpx.subset (List.mem_append_right _ List.mem_cons_self)
    have hsx := HOK.out x hmem
    have hpl := hpx.length_le
    rw [List.length_append, List.length_singleton] at hpl
    obtain ⟨acc, hacc⟩ : ∃ acc, pre.foldl addA [] = acc := ⟨_, rfl⟩
    obtain ⟨hm1, hm2⟩ := addA_mem pre [] (fun a h => by cases h) (fun y hy => HOK.out y (hpx.subset (List.mem_append_left _ hy)))
    rw [hacc] at hm1 hm2 h3
    simp only [List.length_nil] at hm2
    have hRs := strs_R h3
    obtain ⟨Av, cv, ev⟩ := Kd.R_slice hRs
    subst ev
    have hCs := (Kd.R_reads' hRs).2.2
    have HM1 := Aside0.mk hm1
    have HA := Aside0.mk hacc
    have H1 := Aside0.mk h1
    have H2 := Aside0.mk h2
    have H3 := Aside0.mk h3
    have H4 := Aside0.mk h4
    have HCS := Aside0.mk hCs
    have HBX := Aside0.mk hb
    have cS : W.cell? ⟨w.heap.size + 1, 0, none⟩ = some (.slice Av acc.length cv) := (blk_cell h1 0).trans rfl
    have g2 : W.cell? ⟨G, 2, none⟩ = some (.string x.f2) := (blk_cell hb 2).trans rfl
    clear h1 h2 h3 h4 hb hmem hRs hCs hm1 hacc hpx
    gi_wp2
    gi_at_call 46
    refine (CallsIn.inRound l' (callsIn_wide.2 (contains_walk x.f2 G Av cv acc HM1.out hsx W HCS.out g2))).mono ?_
    rintro e w5 ⟨rfl, hb5⟩
    have HB5 := Aside0.mk hb5
    have H15 := Aside0.mk (blk_below H1.out hb5)
    have HX5 := Aside0.mk (blk_below HBX.out hb5)
    clear hb5 cS g2
    cases hq : (acc.any fun a => alikeB a x.f2) with
    | true =>
      have HQ := Aside0.mk hq
      clear hq
      gi_wp2
      have hst := (acc_ownS w V.heap.size (fun pre => pre.foldl addA [])).below (s := pre) ⟨_, ⟨H1.out, H2.out⟩, by rw [HA.out]; exact H3.out, H4.out⟩ HB5.out
      refine ⟨(kf_below HB5.out).koS hst, HB5.out.mono H4.out.size, fun _ h => h.elim, ?_⟩
      show Acc w ((pre ++ [x]).foldl addA []) _
      rw [List.foldl_append, HA.out]
      show Acc w (addA acc x) w5
      unfold addA
      rw [if_pos HQ.out]
      exact (acc_own w V.heap.size (by omega)).below ⟨_, ⟨H1.out, H2.out⟩, H3.out, H4.out⟩ HB5.out
    | false =>
      have HQ := Aside0.mk hq
      clear hq
      have cS : w5.cell? ⟨w.heap.size + 1, 0, none⟩ = some (.slice Av acc.length cv) := (blk_cell H15.out 0).trans rfl
      have g2 : w5.cell? ⟨G, 2, none⟩ = some (.string x.f2) := (blk_cell HX5.out 2).trans rfl
      have h35 : w5.ownsRow (w.heap.size + 2) 9 1 (.slice Av acc.length cv) acc.length (acc.map Value.string) := H3.out.kept (row := none) (gb_below HB5.out) (by cases hv : (Value.slice Av acc.length cv).ownBlock with | none => exact .inl rfl | some g => exact .inr (by simp))
      obtain ⟨i0, hi, hzz⟩ := Option.map_eq_some_iff.1 info9
      simp only [Prod.mk.injEq] at hzz
      obtain ⟨hz0, hz1, hz2⟩ := hzz
      have hWS : w.heap.size + 2 ≤ w5.heap.size := by have := HB5.out.size; omega
      have hvl : (acc.map Value.string).length = acc.length := by simp
      gi_wp2_with (gi_at_builtin; refine wpListIn_append_at _ rfl _ _ 33 rfl (w.heap.size + 2) 9 i0 (.string ⟨#[]⟩) 1 16 Try.underlying33 hi hz0 hz1 hz2 rfl (by decide) _ _ _ rfl (h35.alloc _) ⟨w5.heap.size, 0, none⟩ 1 1 [.string x.f2] rfl rfl (cell_one_new _ _ _) (by simp [Value.oneCell']) (by unfold maxLen; omega) (by omega) (by simp; omega) ?_; intro v' w1 hown' hgrow hat; obtain ⟨g', cap', rfl⟩ := own_succ hown'; obtain ⟨HS1, hc1, hf1⟩ := acc_at H15.out H2.out hgrow; have HO := Aside0.mk hown'; have HG := Aside0.mk hgrow; have HAT := Aside0.mk hat; clear hown' hgrow hat cS)
      obtain ⟨k1, k2, k3⟩ := acc_step (B := V.heap.size) HB5.out H15.out H1.out H2.out h35 (H4.out.trans (HB5.out.mono H4.out.size)) HG.out HO.out (by exact HAT.out) (by omega)
      refine ⟨k1, k2, fun _ h => h.elim, ?_⟩
      show Acc w ((pre ++ [x]).foldl addA []) _
      rw [List.foldl_append, HA.out]
      show Acc w (addA acc x) _
      unfold addA
      rw [if_neg (by rw [HQ.out]; decide)]
      exact k3
  case done =>
    rintro D2 W hD2 ⟨v, ⟨h1, h2⟩, h3, h4⟩ hK
    have cS : W.cell? ⟨w.heap.size + 1, 0, none⟩ = some v := (blk_cell h1 0).trans rfl
    have H3 := Aside0.mk h3
    have H4 := Aside0.mk h4
    clear h1 h2 h3 h4
    gi_wp2
    refine ⟨by simp, .inl ⟨_, _, rfl, run_takeDeferred hK, ?_⟩⟩
    refine ⟨_, results_tmp rfl _ _ _, v, rfl, ?_, H4.out.trans (below_put _ (by omega))⟩
    exact Kd.R_lower (strs_R (own_put H3.out hK)) (Nat.le_add_right _ _)
  case stop =>
    rintro D2 cd pre W hD2 hpre h hK
    exact h.elim
def okF (l : List S25) : Bool := (attP l).all fun x => shortB x.f2
def itip_Attendees.f (k : Nat) (a0_0 : ByteArray) (l0_1 : List (S45)) (l0_2 : List (S25)) : Option (List ByteArray) := if (limB l0_2 && (okF l0_2 && decide ((attP l0_2).length ≤ 1000000))) = true then some (attendeesP l0_2) else none
theorem itip_Attendees.calls (k : Nat) (a0_0 : ByteArray) (A0_1 : Option Addr) (c0_1 : Nat) (l0_1 : List (S45)) (A0_2 : Option Addr) (c0_2 : Nat) (l0_2 : List (S25)) (r : List ByteArray) (w : World) (hr0_1 : Kd.C k45 w A0_1 l0_1.length l0_1) (hc0_1 : l0_1.length ≤ c0_1) (hr0_2 : Kd.C k25 w A0_2 l0_2.length l0_2) (hc0_2 : l0_2.length ≤ c0_2) (h : itip_Attendees.f k a0_0 l0_1 l0_2 = some r) :
    Calls Try.prog 15 #[.agg #[.string a0_0, .slice A0_1 l0_1.length c0_1, .slice A0_2 l0_2.length c0_2]] w fun e w' => ∃ v0_ : Value, e = .returned (v0_) ∧ Kd.R Kd.string 9 w' w.heap.size (fun _ => True) v0_ r ∧ Below w.heap.size w w' := by
  unfold itip_Attendees.f at h
  split at h
  case isFalse => cases h
  rename_i hc
  simp only [Bool.and_eq_true, decide_eq_true_eq] at hc
  obtain rfl := Option.some.inj h
  exact attendees_walk a0_0 A0_1 _ c0_1 A0_2 c0_2 l0_2 w hr0_2 ((limB_iff _).1 hc.1) (List.all_eq_true.1 hc.2.1) hc.2.2
end Go.Proofs.Ytebmbfobmakheaa.PD
namespace Go.Proofs.Ytebmbfobmakheaa.PD
open Go.RowKit Go.Proofs.YtebmbfobmakheaaW.PrintWords Go.Proofs.YtebmbfobmakheaaW.PrintLast Go.Proofs.YtebmbfobmakheaaW.PrintMore
attribute [local go_sem] isSome_setCell max2_int min2_int max_two min_two
set_option linter.unusedVariables false
set_option linter.unusedSimpArgs false
def toldN : List ByteArray := [(⟨#[82, 69, 67, 85, 82, 82, 69, 78, 67, 69, 45, 73, 68]⟩ : ByteArray), (⟨#[68, 84, 83, 84, 65, 82, 84]⟩ : ByteArray), (⟨#[68, 84, 69, 78, 68]⟩ : ByteArray), (⟨#[68, 85, 69]⟩ : ByteArray), (⟨#[68, 85, 82, 65, 84, 73, 79, 78]⟩ : ByteArray), (⟨#[82, 82, 85, 76, 69]⟩ : ByteArray), (⟨#[82, 68, 65, 84, 69]⟩ : ByteArray), (⟨#[69, 88, 68, 65, 84, 69]⟩ : ByteArray)]
def byN (l : List S45) (n : ByteArray) : List S45 := l.filter fun x => x.f0.toList == n.toList
def toldP (l : List S45) : List S45 := toldN.flatMap (byN l)
theorem told_at (W : World) (G : Nat) (hG : W.heap[G]? = some (.cells #[.string (⟨#[82, 69, 67, 85, 82, 82, 69, 78, 67, 69, 45, 73, 68]⟩ : ByteArray), .string (⟨#[68, 84, 83, 84, 65, 82, 84]⟩ : ByteArray), .string (⟨#[68, 84, 69, 78, 68]⟩ : ByteArray), .string (⟨#[68, 85, 69]⟩ : ByteArray), .string (⟨#[68, 85, 82, 65, 84, 73, 79, 78]⟩ : ByteArray), .string (⟨#[82, 82, 85, 76, 69]⟩ : ByteArray), .string (⟨#[82, 68, 65, 84, 69]⟩ : ByteArray), .string (⟨#[69, 88, 68, 65, 84, 69]⟩ : ByteArray)] 9 (0, 0))) (j : Nat) (hj : j < 8) : W.cell? ⟨G, j, none⟩ = some (.string (toldN[j]'hj)) := by
  refine (blk_cell hG j).trans ?_
  match j, hj with
  | 0, _ | 1, _ | 2, _ | 3, _ | 4, _ | 5, _ | 6, _ | 7, _ => rfl
set_option maxRecDepth 100000 in
set_option maxHeartbeats 8000000 in
theorem told_walk (nm : ByteArray) (P : Nat → Prop) (A : Option Addr) (c : Nat) (l : List S45) (A2 : Option Addr) (n2 c2 : Nat) (w : World) (hs : Kd.V k45 45 w w.heap.size P (.slice A l.length c) l) (hlim : l.length < 2513169434917) (hlt : (toldP l).length < 2513169434916) :
    Calls Try.prog 52 #[.agg #[.string nm, .slice A l.length c, .slice A2 n2 c2]] w fun e w' => ∃ v : Value, e = .returned v ∧ Kd.N k45 45 w' w.heap.size (fun k_ => P k_ ∨ w.heap.size ≤ k_) v (toldP l) ∧ Below w.heap.size w w' := by
  have HV := Aside0.mk (show Kd.V k45 45 w w.heap.size (fun k_ => P k_ ∧ k_ < w.heap.size) (.slice A l.length c) l from Kd.V_bound hs)
  clear hs
  have hb0 : Below w.heap.size w (w.alloc (.cells #[.string nm, .slice A l.length c, .slice A2 n2 c2] 25)) := below_alloc (Below.refl _ _) _
  have HLT := Aside0.mk hlt
  obtain ⟨w1, hw1⟩ : ∃ w1, w.alloc (.cells #[.string nm, .slice A l.length c, .slice A2 n2 c2] 25) = w1 := ⟨_, rfl⟩
  obtain ⟨w2, hw2⟩ : ∃ w2, w1.alloc (.cells #[.string (⟨#[82, 69, 67, 85, 82, 82, 69, 78, 67, 69, 45, 73, 68]⟩ : ByteArray), .string (⟨#[68, 84, 83, 84, 65, 82, 84]⟩ : ByteArray), .string (⟨#[68, 84, 69, 78, 68]⟩ : ByteArray), .string (⟨#[68, 85, 69]⟩ : ByteArray), .string (⟨#[68, 85, 82, 65, 84, 73, 79, 78]⟩ : ByteArray), .string (⟨#[82, 82, 85, 76, 69]⟩ : ByteArray), .string (⟨#[82, 68, 65, 84, 69]⟩ : ByteArray), .string (⟨#[69, 88, 68, 65, 84, 69]⟩ : ByteArray)] 9) = w2 := ⟨_, rfl⟩
  have hs1 : w1.heap.size = w.heap.size + 1 := by rw [← hw1]; simp
  have hs2 : w2.heap.size = w.heap.size + 2 := by rw [← hw2]; simp [hs1]
  have hB2 : Below w.heap.size w w2 := by rw [← hw2, ← hw1]; exact below_alloc hb0 _
  have hK1 : w2.heap[w.heap.size]? = some (.cells #[.string nm, .slice A l.length c, .slice A2 n2 c2] 25 (0, 0)) := by rw [← hw2, ← hw1]; exact blk_alloc (heap_alloc_new w _) _
  have hK2 : w2.heap[w.heap.size + 1]? = some (.cells #[.string (⟨#[82, 69, 67, 85, 82, 82, 69, 78, 67, 69, 45, 73, 68]⟩ : ByteArray), .string (⟨#[68, 84, 83, 84, 65, 82, 84]⟩ : ByteArray), .string (⟨#[68, 84, 69, 78, 68]⟩ : ByteArray), .string (⟨#[68, 85, 69]⟩ : ByteArray), .string (⟨#[68, 85, 82, 65, 84, 73, 79, 78]⟩ : ByteArray), .string (⟨#[82, 82, 85, 76, 69]⟩ : ByteArray), .string (⟨#[82, 68, 65, 84, 69]⟩ : ByteArray), .string (⟨#[69, 88, 68, 65, 84, 69]⟩ : ByteArray)] 9 (0, 0)) := by rw [← hw2, ← hs1]; exact heap_alloc_new w1 _
  have HB2 := Aside0.mk hB2
  have HK1 := Aside0.mk hK1
  have HK2 := Aside0.mk hK2
  clear hB2 hK1 hK2 hb0 hlt
  go_enter Try.func52, Try.ntmps52
  go_wp2
  clear hw1 hw2 hs1 hs2
  go_loopw [3, 8] (fun v3 v8 wr => ∃ j : Nat, v8 = .int .i64 j ∧ j ≤ 8 ∧ Aside0 (Kd.N k45 45 wr w.heap.size (fun k_ => P k_ ∨ w.heap.size ≤ k_) v3 ((toldN.take j).flatMap (byN l))) ∧ Aside0 (wr.heap[w.heap.size]? = some (.cells #[.string nm, .slice A l.length c, .slice A2 n2 c2] 25 (0, 0))) ∧ Aside0 (wr.heap[w.heap.size + 1]? = some (.cells #[.string (⟨#[82, 69, 67, 85, 82, 82, 69, 78, 67, 69, 45, 73, 68]⟩ : ByteArray), .string (⟨#[68, 84, 83, 84, 65, 82, 84]⟩ : ByteArray), .string (⟨#[68, 84, 69, 78, 68]⟩ : ByteArray), .string (⟨#[68, 85, 69]⟩ : ByteArray), .string (⟨#[68, 85, 82, 65, 84, 73, 79, 78]⟩ : ByteArray), .string (⟨#[82, 82, 85, 76, 69]⟩ : ByteArray), .string (⟨#[82, 68, 65, 84, 69]⟩ : ByteArray), .string (⟨#[69, 88, 68, 65, 84, 69]⟩ : ByteArray)] 9 (0, 0))) ∧ Aside0 (Below w.heap.size w wr)) (fun _ v8 _ => 8 - (intOf v8).toNat)
  case atStart => exact ⟨0, rfl, by omega, ⟨by rw [List.take_zero]; exact Kd.N_nil _ _ _ _ _⟩, HK1, HK2, HB2⟩
  case round =>
    clear HK1 HK2 HB2
    obtain ⟨j, rfl, hj, HN, HK1, HK2, HB⟩ := hrel
    by_cases hlt : j < 8
    · have hlt0 : decide ((j : Int) < 8) = true := decide_eq_true (by omega)
      have p1 : (0 ≤ (j : Int)) = True := eq_true (by omega)
      have q1 : ((j : Int) < 8) = True := eq_true (by omega)
      have x0 : wr.cell? ⟨w.heap.size, 0, none⟩ = some (.string nm) := (blk_cell HK1.out 0).trans rfl
      have x1 : wr.cell? ⟨w.heap.size, 1, none⟩ = some (.slice A l.length c) := (blk_cell HK1.out 1).trans rfl
      have x2 : wr.cell? ⟨w.heap.size, 2, none⟩ = some (.slice A2 n2 c2) := (blk_cell HK1.out 2).trans rfl
      have xj := told_at wr _ HK2.out j hlt
      have HC := Aside0.mk (comp_Props_walk nm (fun k_ => P k_ ∧ k_ < w.heap.size) A c l A2 n2 c2 (toldN[j]'hlt) wr (Kd.V_below HV.out HB.out) hlim)
      have htk : (toldN.take (j + 1)).flatMap (byN l) = (toldN.take j).flatMap (byN l) ++ byN l (toldN[j]'hlt) := by rw [List.take_add_one, List.getElem?_eq_getElem (show j < toldN.length from hlt), Option.toList_some, List.flatMap_append, List.flatMap_cons, List.flatMap_nil, List.append_nil]; rfl
      have HTK := Aside0.mk htk
      have hle : ((toldN.take (j + 1)).flatMap (byN l)).length ≤ (toldP l).length := by
        unfold toldP
        conv => rhs; rw [← List.take_append_drop (j + 1) toldN, List.flatMap_append, List.length_append]
        exact Nat.le_add_right _ _
      rw [htk, List.length_append] at hle
      have HLE := Aside0.mk hle
      clear htk hle
      obtain ⟨nj, hnj⟩ : ∃ nj, toldN[j]'hlt = nj := ⟨_, rfl⟩
      rw [hnj] at HC HTK HLE xj
      obtain ⟨row, hrow⟩ : ∃ row, byN l nj = row := ⟨_, rfl⟩
      rw [hrow] at HTK HLE
      replace HC : Aside0 (Calls Try.prog 83 #[.agg #[.string nm, .slice A l.length c, .slice A2 n2 c2], .string nj] wr fun e w' => ∃ v : Value, e = .returned v ∧ Kd.N k45 45 w' wr.heap.size (fun k_ => (P k_ ∧ k_ < w.heap.size) ∨ wr.heap.size ≤ k_) v row ∧ Below wr.heap.size wr w') := by rw [← hrow]; exact HC
      obtain ⟨acc, hacc⟩ : ∃ acc, (toldN.take j).flatMap (byN l) = acc := ⟨_, rfl⟩
      rw [hacc] at HN HTK HLE
      clear hacc hrow hnj
      obtain ⟨Av, cv, ev⟩ := Kd.N_slice HN.out
      subst ev
      go_wp2_with (first | (go_at_call 83; refine HC.out.mono ?_; rintro e w5 ⟨v5, rfl, hn5, hb5⟩; obtain ⟨A5, c5, e5⟩ := Kd.N_slice hn5; subst e5; have HN5 := Aside0.mk hn5; have HB5 := Aside0.mk hb5; clear hn5 hb5 x0 x1 x2 xj) | ((with_reducible refine gate_builtin (b := .append) (xs := #[.tmp 12, .tmp 15]) rfl ?_); at_builtin; refine Kd.N_append_rows k45 (w0 := w) w.heap.size rfl (.tmp 12) (.tmp 15) 22 45 (.agg #[(.string ⟨#[]⟩), (.slice none 0 0), (.string ⟨#[]⟩)]) 56 rfl Try.underlying22 info45 rfl (by decide) (by omega) (.slice Av acc.length cv) acc row _ _ _ (fun k_ => P k_ ∨ w.heap.size ≤ k_) (fun k_ => (P k_ ∧ k_ < w.heap.size) ∨ wr.heap.size ≤ k_) rfl rfl ?aO ?aR ?aP ?aF ?aB ?aS ?aL ?_; (case aO => exact Kd.N_below HN.out HB5.out); (case aR => exact Kd.N_F HN5.out); (case aP => exact fun k_ hk => ⟨hk.elim (fun h => .inl h.1) (fun h => .inr (Nat.le_trans HB.out.size h)), fun e_ => hk.elim (fun h => by have := Kd.N_base HN.out k_ e_.symm; have := h.2; omega) (fun h => by have := Kd.N_lt HN.out k_ e_.symm; omega)⟩); (case aF => exact fun k_ hk => .inr (Nat.le_trans (HB.out.trans (HB5.out.mono HB.out.size)).size hk)); (case aB => exact HB.out.trans (HB5.out.mono HB.out.size)); (case aS => exact (HB.out.trans (HB5.out.mono HB.out.size)).size); (case aL => have h1 := HLE.out; have h2 := HLT.out; omega); intro v6 w6 ho hb hg hat; have HO6 := Aside0.mk ho; have HB6 := Aside0.mk hb; have HK16 := Aside0.mk (blk_grown (blk_below HK1.out HB5.out) hg (Kd.N_ne HN.out HK1.out (by decide))); have HK26 := Aside0.mk (blk_grown (blk_below HK2.out HB5.out) hg (Kd.N_ne HN.out HK2.out (by decide))); clear ho hb hg hat))
      go_roundw
      case rel => exact ⟨j + 1, by simp, hlt, ⟨by rw [HTK.out]; exact HO6.out⟩, HK16, HK26, HB6⟩
      case measure => show 8 - ((j : Int) + 1).toNat < 8 - (j : Int).toNat; omega
    · have hlt0 : decide ((j : Int) < 8) = false := decide_eq_false (by omega)
      obtain rfl : j = 8 := by omega
      go_wp2
      go_ret
      exact ⟨_, rfl, HN.out, HB.out⟩
end Go.Proofs.Ytebmbfobmakheaa.PD
namespace Go.Proofs.Ytebmbfobmakheaa.PD
open Go.RowKit Go.Proofs.YtebmbfobmakheaaW.PrintWords Go.Proofs.YtebmbfobmakheaaW.PrintLast Go.Proofs.YtebmbfobmakheaaW.PrintMore
attribute [local go_sem] isSome_setCell max2_int min2_int max_two min_two max_three min_three max_four min_four
set_option linter.unusedVariables false
set_option linter.unusedSimpArgs false
def almanacref17_Others.l0 : Nat → List (S25) → Int → ByteArray → List (S45) → List (S25) → Option ((List (S25)))
  | 0, _, _, _, _, _ => none
  | k + 1, x3, x4, x192000, x192001, x192002 => if x4 < (x192002.length : Int) then (if 0 ≤ x4 then (if ((rd_T25 x192002 x4).f0).toList = ([86, 84, 73, 77, 69, 90, 79, 78, 69] : List UInt8) then (almanacref17_Others.l0 k x3 (wrap64 (x4 + 1)) x192000 x192001 x192002) else (if x3.length < 2199023255552 then (almanacref17_Others.l0 k (x3 ++ [(⟨(rd_T25 x192002 x4).f0, (rd_T25 x192002 x4).f1, (rd_T25 x192002 x4).f2⟩ : S25)]) (wrap64 (x4 + 1)) x192000 x192001 x192002) else (none))) else (none)) else (some x3)
def almanacref17_Others.f (k : Nat) (a0_0 : ByteArray) (l0_1 : List (S45)) (l0_2 : List (S25)) : Option ((List (S25))) := almanacref17_Others.l0 k ([] : List (S25)) 0 a0_0 l0_1 l0_2
set_option maxHeartbeats 8000000 in
set_option maxRecDepth 100000 in
theorem almanacref17_Others.calls (k : Nat) (a0_0 : ByteArray) (A0_1 : Option Addr) (c0_1 : Nat) (l0_1 : List (S45)) (P0_2_ : Nat → Prop) (A0_2 : Option Addr) (c0_2 : Nat) (l0_2 : List (S25)) (r : List (S25)) (w : World) (hr0_1 : Kd.C k45 w A0_1 l0_1.length l0_1) (hc0_1 : l0_1.length ≤ c0_1) (hs0_2 : Kd.V k25 25 w w.heap.size (fun k_ => P0_2_ k_) (.slice A0_2 l0_2.length c0_2) l0_2) (h : almanacref17_Others.f k a0_0 l0_1 l0_2 = some r) :
    Calls Try.prog 43 #[.agg #[.string a0_0, .slice A0_1 l0_1.length c0_1, .slice A0_2 l0_2.length c0_2]] w fun e w' => ∃ v0_ : Value, e = .returned (v0_) ∧ Kd.N k25 25 w' w.heap.size (fun k_ => (P0_2_ k_ ∨ w.heap.size ≤ k_)) v0_ r ∧ Below w.heap.size w w' := by
  have hu25 := Try.underlying25
  have HR0_1 := Aside0.mk hr0_1
  have HC0_1 := Aside0.mk hc0_1
  clear hr0_1 hc0_1
  have HO0_2 := Aside0.mk (show Kd.V k25 25 w w.heap.size (fun k_ => (P0_2_ k_ ∨ w.heap.size ≤ k_)) (.slice A0_2 l0_2.length c0_2) l0_2 from Kd.V_mono hs0_2 (fun k_ hk => .inl hk))
  have HB := Aside0.mk (Below.refl w.heap.size w)
  have H : (almanacref17_Others.l0 k ([] : List (S25)) 0 a0_0 l0_1 l0_2) = some r := h
  clear h
  have H' := Aside0.mk H
  clear H
  go_enter Try.func43, Try.ntmps43
  go_wp2_with (first | ((with_reducible refine gate_dst (N := 1) rfl ?_); refine box_event ?hg (N := 1) ?hd (cs := #[.string a0_0, .slice A0_1 l0_1.length c0_1, .slice A0_2 l0_2.length c0_2]) (t := 25) ?hr ?_; (case hd => rfl); (case hg => rfl); (case hr => first | (go_simp; done) | (go_simp; rfl)); intro gb191 hg w2 hbox hb; have n0_ := Aside0.mk (Kd.V_below (Kd.V_elderB (by (with_reducible repeat (first | apply Kd.V_alloc | apply Kd.V_drewN | apply Kd.V_drew)); exact HO0_2.out) gb191 (Nat.le_of_eq hg.symm)) hb); have n1_ := Aside0.mk (below_step (by repeat (first | (with_reducible first | exact HB.out | apply below_alloc | apply pw_below_drewN | apply below_drew1) | exact HB.out)) hb); have n2_ := Aside0.mk (hbox); have n3_ := Aside0.mk ((by rw [hg]; exact (below_size (by repeat (first | (with_reducible first | exact HB.out | apply below_alloc | apply pw_below_drewN | apply below_drew1) | exact HB.out))) : w.heap.size ≤ gb191)); have n4_ := Aside0.mk ((by rw [hg]; exact (below_size (by repeat (first | (with_reducible first | exact HB.out | apply below_alloc | apply pw_below_drewN | apply below_drew1) | exact HB.out))) : w.heap.size ≤ gb191)); clear HO0_2; clear HB; have HO0_2 := n0_; have HB := n1_; have BK191 := n2_; have GW191 := n3_; have GE191 := n4_; clear n0_ n1_ n2_ n3_ n4_; clear hb hbox hg))
  go_loopg [3, 4] k (fun kq v3 v4 w' => ∃ (x3_1 : List (S25)) (x4_1 : Int), v4 = .int .i64 x4_1 ∧ Aside0 (almanacref17_Others.l0 kq x3_1 x4_1 a0_0 l0_1 l0_2 = some r) ∧ Aside0 (kq ≤ k) ∧ Aside0 (Kd.N k25 25 w' w.heap.size (fun k_ => (P0_2_ k_ ∨ w.heap.size ≤ k_) ∧ k_ ≠ gb191) v3 x3_1) ∧ Aside0 (Kd.V k25 25 w' w.heap.size (fun k_ => (P0_2_ k_ ∨ w.heap.size ≤ k_) ∧ some k_ ≠ (v3 : Value).ownBlock ∧ k_ ≠ gb191) (.slice A0_2 l0_2.length c0_2) l0_2) ∧ Aside0 (w'.heap[gb191]? = some (.cells #[.string a0_0, (.slice A0_1 l0_1.length c0_1), (.slice A0_2 l0_2.length c0_2)] 25 (0, 0))) ∧ Aside0 (Below w.heap.size w w'))
  case atStart => exact ⟨(([] : List (S25))), (0), (by first | rfl | (simp; done) | (simp [*]; done)), H', ⟨Nat.le_refl _⟩, ⟨by first | exact Kd.R_nil _ _ _ _ _ | exact Kd.N_nil _ _ _ _ _ | exact Kd.V_nil _ _ _ _ _ | exact Kd.Q_nil _ _ _ _ _ | exact Kd.S_nil _ _ _ _ _⟩, ⟨by (with_reducible repeat (first | apply Kd.V_alloc | apply Kd.V_drewN | apply Kd.V_drew)); exact Kd.V_mono HO0_2.out (fun _ hk => ⟨hk.1, ⟨(by simp [Value.ownBlock]), hk.2⟩⟩)⟩, ⟨by (with_reducible repeat (first | refine blk_drewN ?_ _ | refine blk_drew ?_ | refine blk_alloc ?_ _)); exact BK191.out⟩, ⟨by repeat (first | (with_reducible first | exact HB.out | apply below_alloc | apply pw_below_drewN | apply below_drew1 | refine below_set ?_ GE191.out) | exact HB.out)⟩⟩
  case round =>
    clear H'
    try clear p2
    obtain ⟨x3_1, x4_1, rfl, HA, HK1, HO_3, HO_192002, BK191, HB⟩ := hrel
    cases gk with
    | zero => exact absurd HA.out (by simp [almanacref17_Others.l0])
    | succ k1 =>
      have H := HA.out
      clear HA
      simp only [almanacref17_Others.l0] at H
      by_cases c3 : x4_1 < (l0_2.length : Int)
      · rw [if_pos c3] at H
        have c3b0 : decide (x4_1 < (l0_2.length : Int)) = true := decide_eq_true c3
        clear c3
        by_cases c4 : 0 ≤ x4_1
        · rw [if_pos c4] at H
          have c4b0 : decide (0 ≤ x4_1) = true := decide_eq_true c4
          clear c4
          by_cases c5 : ((rd_T25 l0_2 x4_1).f0).toList = ([86, 84, 73, 77, 69, 90, 79, 78, 69] : List UInt8)
          · rw [if_pos c5] at H
            have c5b0 : (((rd_T25 l0_2 x4_1).f0).toList == ([86, 84, 73, 77, 69, 90, 79, 78, 69] : List UInt8)) = true := beq_iff_eq.mpr c5
            have c5b1 : (((rd_T25 l0_2 x4_1).f0).toList != ([86, 84, 73, 77, 69, 90, 79, 78, 69] : List UInt8)) = false := bne_eq_false_iff_eq.mpr c5
            clear c5
            have H' := Aside0.mk H
            clear H
            have hcz6_0 : wr.cell? ⟨gb191, 0, none⟩ = some (.string a0_0) := (blk_cell BK191.out 0).trans rfl
            have hcz6_1 : wr.cell? ⟨gb191, 1, none⟩ = some (.slice A0_1 l0_1.length c0_1) := (blk_cell BK191.out 1).trans rfl
            have hcz6_2 : wr.cell? ⟨gb191, 2, none⟩ = some (.slice A0_2 l0_2.length c0_2) := (blk_cell BK191.out 2).trans rfl
            have hfz6_0 := blk_frozen BK191.out 0
            have hfz6_1 := blk_frozen BK191.out 1
            have hfz6_2 := blk_frozen BK191.out 2
            have p192 : 0 ≤ (x4_1 : Int) := of_decide_eq_true (by first | (with_reducible assumption) | assumption)
            have q192 : x4_1 < (l0_2.length : Int) := of_decide_eq_true (by first | (with_reducible assumption) | assumption)
            obtain ⟨ad192, A192_1, c192_1, A192_2, c192_2, e192, hx192_0, hx192_1, hx192_2, hl192_1, hi192_1, hl192_2, hi192_2⟩ := at_T25 (Kd.V_reads' HO_192002.out).2.2 x4_1 p192 q192
            cases e192
            obtain ⟨ce192, hce192, hMe192, hcc192⟩ := Kd.V_get HO_192002.out z25 x4_1 p192 (by first | exact q192 | exact of_decide_eq_true (by first | (with_reducible assumption) | assumption) | (have e_ := (Kd.V_reads' HO_192002.out).1; omega))
            obtain ⟨ua192_1, uc192_1, ua192_2, uc192_2, rfl, ul192_1, ge192_1, ul192_2, ge192_2⟩ := k25_openF hMe192
            have hv192_1 := hcc192 1 _ rfl
            rw [add_field _ _ 1 (by omega)] at hv192_1
            replace hv192_1 := Option.some.inj (hv192_1.symm.trans hx192_1)
            injection hv192_1 with hva_ hvn_ hvc_
            rw [hva_] at ge192_1
            rw [hvc_] at ul192_1
            have HL192_1 := Aside0.mk (show Kd.V k45 45 _ w.heap.size _ _ ((rd_T25 l0_2 x4_1).f1) from Kd.V_mk ul192_1 ge192_1)
            clear hva_ hvn_ hvc_ ge192_1 ul192_1
            have hv192_2 := hcc192 2 _ rfl
            rw [add_field _ _ 2 (by omega)] at hv192_2
            replace hv192_2 := Option.some.inj (hv192_2.symm.trans hx192_2)
            injection hv192_2 with hva_ hvn_ hvc_
            rw [hva_] at ge192_2
            rw [hvc_] at ul192_2
            have HL192_2 := Aside0.mk (show Kd.V k25 25 _ w.heap.size _ _ ((rd_T25 l0_2 x4_1).f2) from Kd.V_mk ul192_2 ge192_2)
            clear hva_ hvn_ hvc_ ge192_2 ul192_2
            clear hcc192 hce192
            have HR192_1 := Aside0.mk hi192_1
            have HC192_1 := Aside0.mk hl192_1
            clear hi192_1 hl192_1
            have HR192_2 := Aside0.mk hi192_2
            have HC192_2 := Aside0.mk hl192_2
            clear hi192_2 hl192_2
            replace p192 := eq_true p192
            replace q192 := eq_true q192
            go_wp2
            go_roundg k1
            case measure => have := HK1.out; omega
            case rel => exact ⟨(x3_1), (wrap64 (x4_1 + 1)), (by first | rfl | (simp; done) | (simp [*]; done)), H', ⟨by have := HK1.out; omega⟩, ⟨by (with_reducible repeat (first | apply Kd.N_alloc | apply Kd.N_drewN | apply Kd.N_drew)); exact HO_3.out⟩, ⟨by (with_reducible repeat (first | apply Kd.V_alloc | apply Kd.V_drewN | apply Kd.V_drew)); exact HO_192002.out⟩, ⟨by (with_reducible repeat (first | refine blk_drewN ?_ _ | refine blk_drew ?_ | refine blk_alloc ?_ _)); exact BK191.out⟩, ⟨by repeat (first | (with_reducible first | exact HB.out | apply below_alloc | apply pw_below_drewN | apply below_drew1 | refine below_set ?_ GE191.out) | exact HB.out)⟩⟩
          · rw [if_neg c5] at H
            have c5b0 : (((rd_T25 l0_2 x4_1).f0).toList == ([86, 84, 73, 77, 69, 90, 79, 78, 69] : List UInt8)) = false := beq_eq_false_iff_ne.mpr c5
            have c5b1 : (((rd_T25 l0_2 x4_1).f0).toList != ([86, 84, 73, 77, 69, 90, 79, 78, 69] : List UInt8)) = true := bne_iff_ne.mpr c5
            by_cases c7 : x3_1.length < 2199023255552
            · rw [if_pos c7] at H
              have LMc7 := Aside0.mk c7
              clear c7
              obtain ⟨y194, hy194⟩ : ∃ y_ : List (S25), y_ = (x3_1 ++ [(⟨(rd_T25 l0_2 x4_1).f0, (rd_T25 l0_2 x4_1).f1, (rd_T25 l0_2 x4_1).f2⟩ : S25)]) := ⟨_, rfl⟩
              replace H : (almanacref17_Others.l0 k1 y194 (wrap64 (x4_1 + 1)) a0_0 l0_1 l0_2) = some r := by first | (rw [hy194]; with_reducible exact H) | (have H2_ := (Option.bind_some _ _).symm.trans H; rw [hy194]; with_reducible exact H2_) | (have H2_ := (Option.bind_some _ _).symm.trans H; with_reducible exact H2_) | with_reducible exact H | (rw [hy194]; exact H) | exact H
              have Ny194 := Aside0.mk hy194
              clear hy194
              have H' := Aside0.mk H
              clear H
              have hcz8_0 : wr.cell? ⟨gb191, 0, none⟩ = some (.string a0_0) := (blk_cell BK191.out 0).trans rfl
              have hcz8_1 : wr.cell? ⟨gb191, 1, none⟩ = some (.slice A0_1 l0_1.length c0_1) := (blk_cell BK191.out 1).trans rfl
              have hcz8_2 : wr.cell? ⟨gb191, 2, none⟩ = some (.slice A0_2 l0_2.length c0_2) := (blk_cell BK191.out 2).trans rfl
              have hfz8_0 := blk_frozen BK191.out 0
              have hfz8_1 := blk_frozen BK191.out 1
              have hfz8_2 := blk_frozen BK191.out 2
              have p192 : 0 ≤ (x4_1 : Int) := of_decide_eq_true (by first | (with_reducible assumption) | assumption)
              have q192 : x4_1 < (l0_2.length : Int) := of_decide_eq_true (by first | (with_reducible assumption) | assumption)
              obtain ⟨ad192, A192_1, c192_1, A192_2, c192_2, e192, hx192_0, hx192_1, hx192_2, hl192_1, hi192_1, hl192_2, hi192_2⟩ := at_T25 (Kd.V_reads' HO_192002.out).2.2 x4_1 p192 q192
              cases e192
              obtain ⟨ce192, hce192, hMe192, hcc192⟩ := Kd.V_get HO_192002.out z25 x4_1 p192 (by first | exact q192 | exact of_decide_eq_true (by first | (with_reducible assumption) | assumption) | (have e_ := (Kd.V_reads' HO_192002.out).1; omega))
              obtain ⟨ua192_1, uc192_1, ua192_2, uc192_2, rfl, ul192_1, ge192_1, ul192_2, ge192_2⟩ := k25_openF hMe192
              have hv192_1 := hcc192 1 _ rfl
              rw [add_field _ _ 1 (by omega)] at hv192_1
              replace hv192_1 := Option.some.inj (hv192_1.symm.trans hx192_1)
              injection hv192_1 with hva_ hvn_ hvc_
              rw [hva_] at ge192_1
              rw [hvc_] at ul192_1
              have HL192_1 := Aside0.mk (show Kd.V k45 45 _ w.heap.size _ _ ((rd_T25 l0_2 x4_1).f1) from Kd.V_mk ul192_1 ge192_1)
              clear hva_ hvn_ hvc_ ge192_1 ul192_1
              have hv192_2 := hcc192 2 _ rfl
              rw [add_field _ _ 2 (by omega)] at hv192_2
              replace hv192_2 := Option.some.inj (hv192_2.symm.trans hx192_2)
              injection hv192_2 with hva_ hvn_ hvc_
              rw [hva_] at ge192_2
              rw [hvc_] at ul192_2
              have HL192_2 := Aside0.mk (show Kd.V k25 25 _ w.heap.size _ _ ((rd_T25 l0_2 x4_1).f2) from Kd.V_mk ul192_2 ge192_2)
              clear hva_ hvn_ hvc_ ge192_2 ul192_2
              clear hcc192 hce192
              have HR192_1 := Aside0.mk hi192_1
              have HC192_1 := Aside0.mk hl192_1
              clear hi192_1 hl192_1
              have HR192_2 := Aside0.mk hi192_2
              have HC192_2 := Aside0.mk hl192_2
              clear hi192_2 hl192_2
              replace p192 := eq_true p192
              replace q192 := eq_true q192
              have p193 : 0 ≤ (x4_1 : Int) := of_decide_eq_true (by first | (with_reducible assumption) | assumption)
              have q193 : x4_1 < (l0_2.length : Int) := of_decide_eq_true (by first | (with_reducible assumption) | assumption)
              obtain ⟨ad193, A193_1, c193_1, A193_2, c193_2, e193, hx193_0, hx193_1, hx193_2, hl193_1, hi193_1, hl193_2, hi193_2⟩ := at_T25 (Kd.V_reads' HO_192002.out).2.2 x4_1 p193 q193
              obtain rfl : ad192 = ad193 := (by injection e193)
              obtain ⟨ce193, hce193, hMe193, hcc193⟩ := Kd.V_get HO_192002.out z25 x4_1 p193 (by first | exact q193 | exact of_decide_eq_true (by first | (with_reducible assumption) | assumption) | (have e_ := (Kd.V_reads' HO_192002.out).1; omega))
              obtain ⟨ua193_1, uc193_1, ua193_2, uc193_2, rfl, ul193_1, ge193_1, ul193_2, ge193_2⟩ := k25_openF hMe193
              have hv193_1 := hcc193 1 _ rfl
              rw [add_field _ _ 1 (by omega)] at hv193_1
              replace hv193_1 := Option.some.inj (hv193_1.symm.trans hx193_1)
              injection hv193_1 with hva_ hvn_ hvc_
              rw [hva_] at ge193_1
              rw [hvc_] at ul193_1
              have HL193_1 := Aside0.mk (show Kd.V k45 45 _ w.heap.size _ _ ((rd_T25 l0_2 x4_1).f1) from Kd.V_mk ul193_1 ge193_1)
              clear hva_ hvn_ hvc_ ge193_1 ul193_1
              have hv193_2 := hcc193 2 _ rfl
              rw [add_field _ _ 2 (by omega)] at hv193_2
              replace hv193_2 := Option.some.inj (hv193_2.symm.trans hx193_2)
              injection hv193_2 with hva_ hvn_ hvc_
              rw [hva_] at ge193_2
              rw [hvc_] at ul193_2
              have HL193_2 := Aside0.mk (show Kd.V k25 25 _ w.heap.size _ _ ((rd_T25 l0_2 x4_1).f2) from Kd.V_mk ul193_2 ge193_2)
              clear hva_ hvn_ hvc_ ge193_2 ul193_2
              clear hcc193 hce193
              have HR193_1 := Aside0.mk hi193_1
              have HC193_1 := Aside0.mk hl193_1
              clear hi193_1 hl193_1
              have HR193_2 := Aside0.mk hi193_2
              have HC193_2 := Aside0.mk hl193_2
              clear hi193_2 hl193_2
              replace p193 := eq_true p193
              replace q193 := eq_true q193
              have ea_ := Option.some.inj (hx192_1.symm.trans hx193_1)
              injection ea_ with ea_ en_ ec_
              subst ea_
              subst ec_
              clear en_
              have ea_ := Option.some.inj (hx192_2.symm.trans hx193_2)
              injection ea_ with ea_ en_ ec_
              subst ea_
              subst ec_
              clear en_
              go_wp2_with (first | ((with_reducible refine gate_builtin (b := .append) (xs := #[.tmp 19, .tmp 25]) rfl ?_); at_builtin; refine Kd.N_append k25 (w0 := w) w.heap.size rfl (.tmp 19) (.tmp 25) 23 25 (.agg #[(.string ⟨#[]⟩), (.slice none 0 0), (.slice none 0 0)]) 64 rfl Try.underlying23 info25 rfl (by decide) (by omega) u3 x3_1 (⟨(rd_T25 l0_2 x4_1).f0, (rd_T25 l0_2 x4_1).f1, (rd_T25 l0_2 x4_1).f2⟩ : S25) [.string ((rd_T25 l0_2 x4_1).f0), .slice A192_1 ((rd_T25 l0_2 x4_1).f1).length c192_1, .slice A192_2 ((rd_T25 l0_2 x4_1).f2).length c192_2] (fun k_ => (P0_2_ k_ ∨ w.heap.size ≤ k_) ∧ k_ ≠ gb191) (fun k_ => ((fun k_ => (P0_2_ k_ ∨ w.heap.size ≤ k_) ∧ k_ ≠ gb191)) k_ ∧ some k_ ≠ (u3 : Value).ownBlock) rfl rfl ?aP (fun _ hk => hk) ?aF ?aO ?aB ?aS ?aL ?_; (case aP => exact (k25_mkF _ _ (⟨(rd_T25 l0_2 x4_1).f0, (rd_T25 l0_2 x4_1).f1, (rd_T25 l0_2 x4_1).f2⟩ : S25) (Kd.V_reads' (Kd.V_mono (ok' := (fun k_ => ((fun k_ => (P0_2_ k_ ∨ w.heap.size ≤ k_) ∧ k_ ≠ gb191)) k_ ∧ some k_ ≠ (u3 : Value).ownBlock)) (HL193_1.out) (fun k_ hk => ⟨⟨hk.1, hk.2.2⟩, hk.2.1⟩))).2.1 (Kd.V_F (Kd.V_mono (ok' := (fun k_ => ((fun k_ => (P0_2_ k_ ∨ w.heap.size ≤ k_) ∧ k_ ≠ gb191)) k_ ∧ some k_ ≠ (u3 : Value).ownBlock)) (HL193_1.out) (fun k_ hk => ⟨⟨hk.1, hk.2.2⟩, hk.2.1⟩))) (Kd.V_reads' (Kd.V_mono (ok' := (fun k_ => ((fun k_ => (P0_2_ k_ ∨ w.heap.size ≤ k_) ∧ k_ ≠ gb191)) k_ ∧ some k_ ≠ (u3 : Value).ownBlock)) (HL193_2.out) (fun k_ hk => ⟨⟨hk.1, hk.2.2⟩, hk.2.1⟩))).2.1 (Kd.V_F (Kd.V_mono (ok' := (fun k_ => ((fun k_ => (P0_2_ k_ ∨ w.heap.size ≤ k_) ∧ k_ ≠ gb191)) k_ ∧ some k_ ≠ (u3 : Value).ownBlock)) (HL193_2.out) (fun k_ hk => ⟨⟨hk.1, hk.2.2⟩, hk.2.1⟩))))); (case aB => exact (by repeat (first | (with_reducible first | exact HB.out | apply below_alloc | apply pw_below_drewN | apply below_drew1 | refine below_set ?_ GE191.out) | exact HB.out))); (case aF => exact (fun k_ hk => ⟨(.inr (Nat.le_trans (below_size (by repeat (first | (with_reducible first | exact HB.out | apply below_alloc | apply pw_below_drewN | apply below_drew1 | refine below_set ?_ GE191.out) | exact HB.out))) hk)), Kd.freshB (g := gb191) (o := .cells #[.string a0_0, .slice A0_1 l0_1.length c0_1, .slice (some ad192) l0_2.length c0_2] 25 (0, 0)) (by (with_reducible repeat (first | refine blk_drewN ?_ _ | refine blk_drew ?_ | refine blk_alloc ?_ _)); exact BK191.out) k_ hk⟩)); (case aO => exact (by (with_reducible repeat (first | apply Kd.N_alloc | apply Kd.N_drewN | apply Kd.N_drew)); exact HO_3.out)); (case aS => exact (below_size (by repeat (first | (with_reducible first | exact HB.out | apply below_alloc | apply pw_below_drewN | apply below_drew1 | refine below_set ?_ GE191.out) | exact HB.out)))); (case aL => have := LMc7.out; omega); intro v195 w9 ho hb hg hat; rw [← Ny194.out] at ho; have n0_ := Aside0.mk (Kd.V_afterv (ok := (fun k_ => (P0_2_ k_ ∨ w.heap.size ≤ k_) ∧ k_ ≠ gb191)) (by (with_reducible repeat (first | apply Kd.V_alloc | apply Kd.V_drewN | apply Kd.V_drew)); exact Kd.V_mono HO_192002.out (fun _ hk => ⟨⟨hk.1, hk.2.2⟩, hk.2.1⟩)) hg hat); have n1_ := Aside0.mk (blk_grown (g := gb191) (o := .cells #[.string a0_0, .slice A0_1 l0_1.length c0_1, .slice (some ad192) l0_2.length c0_2] 25 (0, 0)) (by (with_reducible repeat (first | refine blk_drewN ?_ _ | refine blk_drew ?_ | refine blk_alloc ?_ _)); exact BK191.out) hg (Kd.N_away HO_3.out (fun _ hk => hk.2))); have n2_ := Aside0.mk (Kd.V_afterv (ok := (fun k_ => (P0_2_ k_ ∨ w.heap.size ≤ k_) ∧ k_ ≠ gb191)) (by (with_reducible repeat (first | apply Kd.V_alloc | apply Kd.V_drewN | apply Kd.V_drew)); exact Kd.V_mono HL192_1.out (fun _ hk => ⟨⟨hk.1, hk.2.2⟩, hk.2.1⟩)) hg hat); have n3_ := Aside0.mk (Kd.V_afterv (ok := (fun k_ => (P0_2_ k_ ∨ w.heap.size ≤ k_) ∧ k_ ≠ gb191)) (by (with_reducible repeat (first | apply Kd.V_alloc | apply Kd.V_drewN | apply Kd.V_drew)); exact Kd.V_mono HL192_2.out (fun _ hk => ⟨⟨hk.1, hk.2.2⟩, hk.2.1⟩)) hg hat); have n4_ := Aside0.mk (Kd.V_afterv (ok := (fun k_ => (P0_2_ k_ ∨ w.heap.size ≤ k_) ∧ k_ ≠ gb191)) (by (with_reducible repeat (first | apply Kd.V_alloc | apply Kd.V_drewN | apply Kd.V_drew)); exact Kd.V_mono HL193_1.out (fun _ hk => ⟨⟨hk.1, hk.2.2⟩, hk.2.1⟩)) hg hat); have n5_ := Aside0.mk (Kd.V_afterv (ok := (fun k_ => (P0_2_ k_ ∨ w.heap.size ≤ k_) ∧ k_ ≠ gb191)) (by (with_reducible repeat (first | apply Kd.V_alloc | apply Kd.V_drewN | apply Kd.V_drew)); exact Kd.V_mono HL193_2.out (fun _ hk => ⟨⟨hk.1, hk.2.2⟩, hk.2.1⟩)) hg hat); have n6_ := Aside0.mk (hb); have n7_ := Aside0.mk (ho); clear HO_192002; clear BK191; clear HL192_1; clear HL192_2; clear HL193_1; clear HL193_2; clear HB; clear HO_3; have HO_192002 := n0_; have BK191 := n1_; have HL192_1 := n2_; have HL192_2 := n3_; have HL193_1 := n4_; have HL193_2 := n5_; have HB := n6_; have HO196 := n7_; clear n0_ n1_ n2_ n3_ n4_ n5_ n6_ n7_; clear ho hb hg hat))
              go_roundg k1
              case measure => have := HK1.out; omega
              case rel => exact ⟨(y194), (wrap64 (x4_1 + 1)), (by first | rfl | (simp; done) | (simp [*]; done)), H', ⟨by have := HK1.out; omega⟩, ⟨by (with_reducible repeat (first | apply Kd.N_alloc | apply Kd.N_drewN | apply Kd.N_drew)); exact HO196.out⟩, ⟨by (with_reducible repeat (first | apply Kd.V_alloc | apply Kd.V_drewN | apply Kd.V_drew)); exact Kd.V_mono HO_192002.out (fun _ hk => ⟨hk.1.1, ⟨hk.2, hk.1.2⟩⟩)⟩, ⟨by (with_reducible repeat (first | refine blk_drewN ?_ _ | refine blk_drew ?_ | refine blk_alloc ?_ _)); exact BK191.out⟩, ⟨by repeat (first | (with_reducible first | exact HB.out | apply below_alloc | apply pw_below_drewN | apply below_drew1 | refine below_set ?_ GE191.out) | exact HB.out)⟩⟩
            · rw [if_neg c7] at H
              exact absurd H (by simp)
        · rw [if_neg c4] at H
          exact absurd H (by simp)
      · rw [if_neg c3] at H
        have c3b0 : decide (x4_1 < (l0_2.length : Int)) = false := decide_eq_false c3
        clear c3
        obtain rfl := Option.some.inj H
        have hcz10_0 : wr.cell? ⟨gb191, 0, none⟩ = some (.string a0_0) := (blk_cell BK191.out 0).trans rfl
        have hcz10_1 : wr.cell? ⟨gb191, 1, none⟩ = some (.slice A0_1 l0_1.length c0_1) := (blk_cell BK191.out 1).trans rfl
        have hcz10_2 : wr.cell? ⟨gb191, 2, none⟩ = some (.slice A0_2 l0_2.length c0_2) := (blk_cell BK191.out 2).trans rfl
        have hfz10_0 := blk_frozen BK191.out 0
        have hfz10_1 := blk_frozen BK191.out 1
        have hfz10_2 := blk_frozen BK191.out 2
        go_wp2
        go_ret
        exact ⟨_, by first | rfl | (simp [errW_none, errW_some] <;> rfl) | (simp [*, errW_none, errW_some] <;> rfl), by (with_reducible repeat (first | apply Kd.N_alloc | apply Kd.N_drewN | apply Kd.N_drew)); exact Kd.N_mono HO_3.out (fun _ hk => hk.1), by repeat (first | (with_reducible first | exact HB.out | apply below_alloc | apply pw_below_drewN | apply below_drew1 | refine below_set ?_ GE191.out) | exact HB.out)⟩
end Go.Proofs.Ytebmbfobmakheaa.PD
namespace Go.Proofs.Ytebmbfobmakheaa.PD
open Go.RowKit Go.Proofs.YtebmbfobmakheaaW.PrintWords Go.Proofs.YtebmbfobmakheaaW.PrintLast Go.Proofs.YtebmbfobmakheaaW.PrintMore
attribute [local go_sem] isSome_setCell max2_int min2_int max_two min_two max_three min_three max_four min_four
set_option linter.unusedVariables false
set_option linter.unusedSimpArgs false
def almanacref12_Props.l0 : Nat → ByteArray → List (S45) → Int → ByteArray → List (S45) → List (S25) → Option ((List (S45)))
  | 0, _, _, _, _, _, _ => none
  | k + 1, x1, x5, x6, x198000, x198001, x198002 => if x6 < (x198001.length : Int) then (if 0 ≤ x6 then (if ((rd_T45 x198001 x6).f0).toList = x1.toList then (if x5.length < 2513169434916 then (almanacref12_Props.l0 k x1 (x5 ++ [(⟨(rd_T45 x198001 x6).f0, (rd_T45 x198001 x6).f1, (rd_T45 x198001 x6).f2⟩ : S45)]) (wrap64 (x6 + 1)) x198000 x198001 x198002) else (none)) else (almanacref12_Props.l0 k x1 x5 (wrap64 (x6 + 1)) x198000 x198001 x198002)) else (none)) else (some x5)
def almanacref12_Props.f (k : Nat) (a0_0 : ByteArray) (l0_1 : List (S45)) (l0_2 : List (S25)) (a1 : ByteArray) : Option ((List (S45))) := almanacref12_Props.l0 k a1 ([] : List (S45)) 0 a0_0 l0_1 l0_2
set_option maxHeartbeats 8000000 in
set_option maxRecDepth 100000 in
theorem almanacref12_Props.calls (k : Nat) (a0_0 : ByteArray) (P0_1_ : Nat → Prop) (A0_1 : Option Addr) (c0_1 : Nat) (l0_1 : List (S45)) (A0_2 : Option Addr) (c0_2 : Nat) (l0_2 : List (S25)) (a1 : ByteArray) (r : List (S45)) (w : World) (hs0_1 : Kd.V k45 45 w w.heap.size (fun k_ => P0_1_ k_) (.slice A0_1 l0_1.length c0_1) l0_1) (hr0_2 : Kd.C k25 w A0_2 l0_2.length l0_2) (hc0_2 : l0_2.length ≤ c0_2) (h : almanacref12_Props.f k a0_0 l0_1 l0_2 a1 = some r) :
    Calls Try.prog 49 #[.agg #[.string a0_0, .slice A0_1 l0_1.length c0_1, .slice A0_2 l0_2.length c0_2], .string a1] w fun e w' => ∃ v0_ : Value, e = .returned (v0_) ∧ Kd.N k45 45 w' w.heap.size (fun k_ => (P0_1_ k_ ∨ w.heap.size ≤ k_)) v0_ r ∧ Below w.heap.size w w' := by
  have hu25 := Try.underlying25
  have hu45 := Try.underlying45
  have HO0_1 := Aside0.mk (show Kd.V k45 45 w w.heap.size (fun k_ => (P0_1_ k_ ∨ w.heap.size ≤ k_)) (.slice A0_1 l0_1.length c0_1) l0_1 from Kd.V_mono hs0_1 (fun k_ hk => .inl hk))
  have HR0_2 := Aside0.mk hr0_2
  have HC0_2 := Aside0.mk hc0_2
  clear hr0_2 hc0_2
  have HB := Aside0.mk (Below.refl w.heap.size w)
  have H : (almanacref12_Props.l0 k a1 ([] : List (S45)) 0 a0_0 l0_1 l0_2) = some r := h
  clear h
  have H' := Aside0.mk H
  clear H
  go_enter Try.func49, Try.ntmps49
  go_wp2_with (first | ((with_reducible refine gate_dst (N := 2) rfl ?_); refine box_event ?hg (N := 2) ?hd (cs := #[.string a0_0, .slice A0_1 l0_1.length c0_1, .slice A0_2 l0_2.length c0_2]) (t := 25) ?hr ?_; (case hd => rfl); (case hg => rfl); (case hr => first | (go_simp; done) | (go_simp; rfl)); intro gb197 hg w3 hbox hb; have n0_ := Aside0.mk (Kd.V_below (Kd.V_elderB (by (with_reducible repeat (first | apply Kd.V_alloc | apply Kd.V_drewN | apply Kd.V_drew)); exact HO0_1.out) gb197 (Nat.le_of_eq hg.symm)) hb); have n1_ := Aside0.mk (below_step (by repeat (first | (with_reducible first | exact HB.out | apply below_alloc | apply pw_below_drewN | apply below_drew1) | exact HB.out)) hb); have n2_ := Aside0.mk (hbox); have n3_ := Aside0.mk ((by rw [hg]; exact (below_size (by repeat (first | (with_reducible first | exact HB.out | apply below_alloc | apply pw_below_drewN | apply below_drew1) | exact HB.out))) : w.heap.size ≤ gb197)); have n4_ := Aside0.mk ((by rw [hg]; exact (below_size (by repeat (first | (with_reducible first | exact HB.out | apply below_alloc | apply pw_below_drewN | apply below_drew1) | exact HB.out))) : w.heap.size ≤ gb197)); clear HO0_1; clear HB; have HO0_1 := n0_; have HB := n1_; have BK197 := n2_; have GW197 := n3_; have GE197 := n4_; clear n0_ n1_ n2_ n3_ n4_; clear hb hbox hg))
  go_loopg [5, 6] k (fun kq v5 v6 w' => ∃ (x5_1 : List (S45)) (x6_1 : Int), v6 = .int .i64 x6_1 ∧ Aside0 (almanacref12_Props.l0 kq a1 x5_1 x6_1 a0_0 l0_1 l0_2 = some r) ∧ Aside0 (kq ≤ k) ∧ Aside0 (Kd.N k45 45 w' w.heap.size (fun k_ => (P0_1_ k_ ∨ w.heap.size ≤ k_) ∧ k_ ≠ gb197) v5 x5_1) ∧ Aside0 (Kd.V k45 45 w' w.heap.size (fun k_ => (P0_1_ k_ ∨ w.heap.size ≤ k_) ∧ some k_ ≠ (v5 : Value).ownBlock ∧ k_ ≠ gb197) (.slice A0_1 l0_1.length c0_1) l0_1) ∧ Aside0 (w'.heap[gb197]? = some (.cells #[.string a0_0, (.slice A0_1 l0_1.length c0_1), (.slice A0_2 l0_2.length c0_2)] 25 (0, 0))) ∧ Aside0 (Below w.heap.size w w'))
  case atStart => exact ⟨(([] : List (S45))), (0), (by first | rfl | (simp; done) | (simp [*]; done)), H', ⟨Nat.le_refl _⟩, ⟨by first | exact Kd.R_nil _ _ _ _ _ | exact Kd.N_nil _ _ _ _ _ | exact Kd.V_nil _ _ _ _ _ | exact Kd.Q_nil _ _ _ _ _ | exact Kd.S_nil _ _ _ _ _⟩, ⟨by (with_reducible repeat (first | apply Kd.V_alloc | apply Kd.V_drewN | apply Kd.V_drew)); exact Kd.V_mono HO0_1.out (fun _ hk => ⟨hk.1, ⟨(by simp [Value.ownBlock]), hk.2⟩⟩)⟩, ⟨by (with_reducible repeat (first | refine blk_drewN ?_ _ | refine blk_drew ?_ | refine blk_alloc ?_ _)); exact BK197.out⟩, ⟨by repeat (first | (with_reducible first | exact HB.out | apply below_alloc | apply pw_below_drewN | apply below_drew1 | refine below_set ?_ GE197.out) | exact HB.out)⟩⟩
  case round =>
    clear H'
    try clear p2
    obtain ⟨x5_1, x6_1, rfl, HA, HK1, HO_5, HO_198001, BK197, HB⟩ := hrel
    cases gk with
    | zero => exact absurd HA.out (by simp [almanacref12_Props.l0])
    | succ k1 =>
      have H := HA.out
      clear HA
      simp only [almanacref12_Props.l0] at H
      by_cases c4 : x6_1 < (l0_1.length : Int)
      · rw [if_pos c4] at H
        have c4b0 : decide (x6_1 < (l0_1.length : Int)) = true := decide_eq_true c4
        clear c4
        by_cases c5 : 0 ≤ x6_1
        · rw [if_pos c5] at H
          have c5b0 : decide (0 ≤ x6_1) = true := decide_eq_true c5
          clear c5
          by_cases c6 : ((rd_T45 l0_1 x6_1).f0).toList = a1.toList
          · rw [if_pos c6] at H
            have c6b0 : (((rd_T45 l0_1 x6_1).f0).toList == a1.toList) = true := beq_iff_eq.mpr c6
            have c6b1 : (((rd_T45 l0_1 x6_1).f0).toList != a1.toList) = false := bne_eq_false_iff_eq.mpr c6
            clear c6
            by_cases c7 : x5_1.length < 2513169434916
            · rw [if_pos c7] at H
              have LMc7 := Aside0.mk c7
              clear c7
              obtain ⟨y200, hy200⟩ : ∃ y_ : List (S45), y_ = (x5_1 ++ [(⟨(rd_T45 l0_1 x6_1).f0, (rd_T45 l0_1 x6_1).f1, (rd_T45 l0_1 x6_1).f2⟩ : S45)]) := ⟨_, rfl⟩
              replace H : (almanacref12_Props.l0 k1 a1 y200 (wrap64 (x6_1 + 1)) a0_0 l0_1 l0_2) = some r := by first | (rw [hy200]; with_reducible exact H) | (have H2_ := (Option.bind_some _ _).symm.trans H; rw [hy200]; with_reducible exact H2_) | (have H2_ := (Option.bind_some _ _).symm.trans H; with_reducible exact H2_) | with_reducible exact H | (rw [hy200]; exact H) | exact H
              have Ny200 := Aside0.mk hy200
              clear hy200
              have H' := Aside0.mk H
              clear H
              have hcz8_0 : wr.cell? ⟨gb197, 0, none⟩ = some (.string a0_0) := (blk_cell BK197.out 0).trans rfl
              have hcz8_1 : wr.cell? ⟨gb197, 1, none⟩ = some (.slice A0_1 l0_1.length c0_1) := (blk_cell BK197.out 1).trans rfl
              have hcz8_2 : wr.cell? ⟨gb197, 2, none⟩ = some (.slice A0_2 l0_2.length c0_2) := (blk_cell BK197.out 2).trans rfl
              have hfz8_0 := blk_frozen BK197.out 0
              have hfz8_1 := blk_frozen BK197.out 1
              have hfz8_2 := blk_frozen BK197.out 2
              have p198 : 0 ≤ (x6_1 : Int) := of_decide_eq_true (by first | (with_reducible assumption) | assumption)
              have q198 : x6_1 < (l0_1.length : Int) := of_decide_eq_true (by first | (with_reducible assumption) | assumption)
              obtain ⟨ad198, A198_1, c198_1, e198, hx198_0, hx198_1, hx198_2, hl198_1, hi198_1⟩ := at_T45 (Kd.V_reads' HO_198001.out).2.2 x6_1 p198 q198
              cases e198
              obtain ⟨ce198, hce198, hMe198, hcc198⟩ := Kd.V_get HO_198001.out z45 x6_1 p198 (by first | exact q198 | exact of_decide_eq_true (by first | (with_reducible assumption) | assumption) | (have e_ := (Kd.V_reads' HO_198001.out).1; omega))
              obtain ⟨ua198_1, uc198_1, rfl, ul198_1, ge198_1⟩ := k45_openF hMe198
              have hv198_1 := hcc198 1 _ rfl
              rw [add_field _ _ 1 (by omega)] at hv198_1
              replace hv198_1 := Option.some.inj (hv198_1.symm.trans hx198_1)
              injection hv198_1 with hva_ hvn_ hvc_
              rw [hva_] at ge198_1
              rw [hvc_] at ul198_1
              have HL198_1 := Aside0.mk (show Kd.V k77 77 _ w.heap.size _ _ ((rd_T45 l0_1 x6_1).f1) from Kd.V_mk ul198_1 ge198_1)
              clear hva_ hvn_ hvc_ ge198_1 ul198_1
              clear hcc198 hce198
              have HR198_1 := Aside0.mk hi198_1
              have HC198_1 := Aside0.mk hl198_1
              clear hi198_1 hl198_1
              replace p198 := eq_true p198
              replace q198 := eq_true q198
              have p199 : 0 ≤ (x6_1 : Int) := of_decide_eq_true (by first | (with_reducible assumption) | assumption)
              have q199 : x6_1 < (l0_1.length : Int) := of_decide_eq_true (by first | (with_reducible assumption) | assumption)
              obtain ⟨ad199, A199_1, c199_1, e199, hx199_0, hx199_1, hx199_2, hl199_1, hi199_1⟩ := at_T45 (Kd.V_reads' HO_198001.out).2.2 x6_1 p199 q199
              obtain rfl : ad198 = ad199 := (by injection e199)
              obtain ⟨ce199, hce199, hMe199, hcc199⟩ := Kd.V_get HO_198001.out z45 x6_1 p199 (by first | exact q199 | exact of_decide_eq_true (by first | (with_reducible assumption) | assumption) | (have e_ := (Kd.V_reads' HO_198001.out).1; omega))
              obtain ⟨ua199_1, uc199_1, rfl, ul199_1, ge199_1⟩ := k45_openF hMe199
              have hv199_1 := hcc199 1 _ rfl
              rw [add_field _ _ 1 (by omega)] at hv199_1
              replace hv199_1 := Option.some.inj (hv199_1.symm.trans hx199_1)
              injection hv199_1 with hva_ hvn_ hvc_
              rw [hva_] at ge199_1
              rw [hvc_] at ul199_1
              have HL199_1 := Aside0.mk (show Kd.V k77 77 _ w.heap.size _ _ ((rd_T45 l0_1 x6_1).f1) from Kd.V_mk ul199_1 ge199_1)
              clear hva_ hvn_ hvc_ ge199_1 ul199_1
              clear hcc199 hce199
              have HR199_1 := Aside0.mk hi199_1
              have HC199_1 := Aside0.mk hl199_1
              clear hi199_1 hl199_1
              replace p199 := eq_true p199
              replace q199 := eq_true q199
              have ea_ := Option.some.inj (hx198_1.symm.trans hx199_1)
              injection ea_ with ea_ en_ ec_
              subst ea_
              subst ec_
              clear en_
              go_wp2_with (first | ((with_reducible refine gate_builtin (b := .append) (xs := #[.tmp 22, .tmp 28]) rfl ?_); at_builtin; refine Kd.N_append k45 (w0 := w) w.heap.size rfl (.tmp 22) (.tmp 28) 22 45 (.agg #[(.string ⟨#[]⟩), (.slice none 0 0), (.string ⟨#[]⟩)]) 56 rfl Try.underlying22 info45 rfl (by decide) (by omega) u5 x5_1 (⟨(rd_T45 l0_1 x6_1).f0, (rd_T45 l0_1 x6_1).f1, (rd_T45 l0_1 x6_1).f2⟩ : S45) [.string ((rd_T45 l0_1 x6_1).f0), .slice A198_1 ((rd_T45 l0_1 x6_1).f1).length c198_1, .string ((rd_T45 l0_1 x6_1).f2)] (fun k_ => (P0_1_ k_ ∨ w.heap.size ≤ k_) ∧ k_ ≠ gb197) (fun k_ => ((fun k_ => (P0_1_ k_ ∨ w.heap.size ≤ k_) ∧ k_ ≠ gb197)) k_ ∧ some k_ ≠ (u5 : Value).ownBlock) rfl rfl ?aP (fun _ hk => hk) ?aF ?aO ?aB ?aS ?aL ?_; (case aP => exact (k45_mkF _ _ (⟨(rd_T45 l0_1 x6_1).f0, (rd_T45 l0_1 x6_1).f1, (rd_T45 l0_1 x6_1).f2⟩ : S45) (Kd.V_reads' (Kd.V_mono (ok' := (fun k_ => ((fun k_ => (P0_1_ k_ ∨ w.heap.size ≤ k_) ∧ k_ ≠ gb197)) k_ ∧ some k_ ≠ (u5 : Value).ownBlock)) (HL199_1.out) (fun k_ hk => ⟨⟨hk.1, hk.2.2⟩, hk.2.1⟩))).2.1 (Kd.V_F (Kd.V_mono (ok' := (fun k_ => ((fun k_ => (P0_1_ k_ ∨ w.heap.size ≤ k_) ∧ k_ ≠ gb197)) k_ ∧ some k_ ≠ (u5 : Value).ownBlock)) (HL199_1.out) (fun k_ hk => ⟨⟨hk.1, hk.2.2⟩, hk.2.1⟩))))); (case aB => exact (by repeat (first | (with_reducible first | exact HB.out | apply below_alloc | apply pw_below_drewN | apply below_drew1 | refine below_set ?_ GE197.out) | exact HB.out))); (case aF => exact (fun k_ hk => ⟨(.inr (Nat.le_trans (below_size (by repeat (first | (with_reducible first | exact HB.out | apply below_alloc | apply pw_below_drewN | apply below_drew1 | refine below_set ?_ GE197.out) | exact HB.out))) hk)), Kd.freshB (g := gb197) (o := .cells #[.string a0_0, .slice (some ad198) l0_1.length c0_1, .slice A0_2 l0_2.length c0_2] 25 (0, 0)) (by (with_reducible repeat (first | refine blk_drewN ?_ _ | refine blk_drew ?_ | refine blk_alloc ?_ _)); exact BK197.out) k_ hk⟩)); (case aO => exact (by (with_reducible repeat (first | apply Kd.N_alloc | apply Kd.N_drewN | apply Kd.N_drew)); exact HO_5.out)); (case aS => exact (below_size (by repeat (first | (with_reducible first | exact HB.out | apply below_alloc | apply pw_below_drewN | apply below_drew1 | refine below_set ?_ GE197.out) | exact HB.out)))); (case aL => have := LMc7.out; omega); intro v201 w9 ho hb hg hat; rw [← Ny200.out] at ho; have n0_ := Aside0.mk (Kd.V_afterv (ok := (fun k_ => (P0_1_ k_ ∨ w.heap.size ≤ k_) ∧ k_ ≠ gb197)) (by (with_reducible repeat (first | apply Kd.V_alloc | apply Kd.V_drewN | apply Kd.V_drew)); exact Kd.V_mono HO_198001.out (fun _ hk => ⟨⟨hk.1, hk.2.2⟩, hk.2.1⟩)) hg hat); have n1_ := Aside0.mk (blk_grown (g := gb197) (o := .cells #[.string a0_0, .slice (some ad198) l0_1.length c0_1, .slice A0_2 l0_2.length c0_2] 25 (0, 0)) (by (with_reducible repeat (first | refine blk_drewN ?_ _ | refine blk_drew ?_ | refine blk_alloc ?_ _)); exact BK197.out) hg (Kd.N_ne HO_5.out BK197.out (by decide))); have n2_ := Aside0.mk (Kd.V_afterv (ok := (fun k_ => (P0_1_ k_ ∨ w.heap.size ≤ k_) ∧ k_ ≠ gb197)) (by (with_reducible repeat (first | apply Kd.V_alloc | apply Kd.V_drewN | apply Kd.V_drew)); exact Kd.V_mono HL198_1.out (fun _ hk => ⟨⟨hk.1, hk.2.2⟩, hk.2.1⟩)) hg hat); have n3_ := Aside0.mk (Kd.V_afterv (ok := (fun k_ => (P0_1_ k_ ∨ w.heap.size ≤ k_) ∧ k_ ≠ gb197)) (by (with_reducible repeat (first | apply Kd.V_alloc | apply Kd.V_drewN | apply Kd.V_drew)); exact Kd.V_mono HL199_1.out (fun _ hk => ⟨⟨hk.1, hk.2.2⟩, hk.2.1⟩)) hg hat); have n4_ := Aside0.mk (hb); have n5_ := Aside0.mk (ho); clear HO_198001; clear BK197; clear HL198_1; clear HL199_1; clear HB; clear HO_5; have HO_198001 := n0_; have BK197 := n1_; have HL198_1 := n2_; have HL199_1 := n3_; have HB := n4_; have HO202 := n5_; clear n0_ n1_ n2_ n3_ n4_ n5_; clear ho hb hg hat))
              go_roundg k1
              case measure => have := HK1.out; omega
              case rel => exact ⟨(y200), (wrap64 (x6_1 + 1)), (by first | rfl | (simp; done) | (simp [*]; done)), H', ⟨by have := HK1.out; omega⟩, ⟨by (with_reducible repeat (first | apply Kd.N_alloc | apply Kd.N_drewN | apply Kd.N_drew)); exact HO202.out⟩, ⟨by (with_reducible repeat (first | apply Kd.V_alloc | apply Kd.V_drewN | apply Kd.V_drew)); exact Kd.V_mono HO_198001.out (fun _ hk => ⟨hk.1.1, ⟨hk.2, hk.1.2⟩⟩)⟩, ⟨by (with_reducible repeat (first | refine blk_drewN ?_ _ | refine blk_drew ?_ | refine blk_alloc ?_ _)); exact BK197.out⟩, ⟨by repeat (first | (with_reducible first | exact HB.out | apply below_alloc | apply pw_below_drewN | apply below_drew1 | refine below_set ?_ GE197.out) | exact HB.out)⟩⟩
            · rw [if_neg c7] at H
              exact absurd H (by simp)
          · rw [if_neg c6] at H
            have c6b0 : (((rd_T45 l0_1 x6_1).f0).toList == a1.toList) = false := beq_eq_false_iff_ne.mpr c6
            have c6b1 : (((rd_T45 l0_1 x6_1).f0).toList != a1.toList) = true := bne_iff_ne.mpr c6
            have H' := Aside0.mk H
            clear H
            have hcz10_0 : wr.cell? ⟨gb197, 0, none⟩ = some (.string a0_0) := (blk_cell BK197.out 0).trans rfl
            have hcz10_1 : wr.cell? ⟨gb197, 1, none⟩ = some (.slice A0_1 l0_1.length c0_1) := (blk_cell BK197.out 1).trans rfl
            have hcz10_2 : wr.cell? ⟨gb197, 2, none⟩ = some (.slice A0_2 l0_2.length c0_2) := (blk_cell BK197.out 2).trans rfl
            have hfz10_0 := blk_frozen BK197.out 0
            have hfz10_1 := blk_frozen BK197.out 1
            have hfz10_2 := blk_frozen BK197.out 2
            have p198 : 0 ≤ (x6_1 : Int) := of_decide_eq_true (by first | (with_reducible assumption) | assumption)
            have q198 : x6_1 < (l0_1.length : Int) := of_decide_eq_true (by first | (with_reducible assumption) | assumption)
            obtain ⟨ad198, A198_1, c198_1, e198, hx198_0, hx198_1, hx198_2, hl198_1, hi198_1⟩ := at_T45 (Kd.V_reads' HO_198001.out).2.2 x6_1 p198 q198
            cases e198
            obtain ⟨ce198, hce198, hMe198, hcc198⟩ := Kd.V_get HO_198001.out z45 x6_1 p198 (by first | exact q198 | exact of_decide_eq_true (by first | (with_reducible assumption) | assumption) | (have e_ := (Kd.V_reads' HO_198001.out).1; omega))
            obtain ⟨ua198_1, uc198_1, rfl, ul198_1, ge198_1⟩ := k45_openF hMe198
            have hv198_1 := hcc198 1 _ rfl
            rw [add_field _ _ 1 (by omega)] at hv198_1
            replace hv198_1 := Option.some.inj (hv198_1.symm.trans hx198_1)
            injection hv198_1 with hva_ hvn_ hvc_
            rw [hva_] at ge198_1
            rw [hvc_] at ul198_1
            have HL198_1 := Aside0.mk (show Kd.V k77 77 _ w.heap.size _ _ ((rd_T45 l0_1 x6_1).f1) from Kd.V_mk ul198_1 ge198_1)
            clear hva_ hvn_ hvc_ ge198_1 ul198_1
            clear hcc198 hce198
            have HR198_1 := Aside0.mk hi198_1
            have HC198_1 := Aside0.mk hl198_1
            clear hi198_1 hl198_1
            replace p198 := eq_true p198
            replace q198 := eq_true q198
            go_wp2
            go_roundg k1
            case measure => have := HK1.out; omega
            case rel => exact ⟨(x5_1), (wrap64 (x6_1 + 1)), (by first | rfl | (simp; done) | (simp [*]; done)), H', ⟨by have := HK1.out; omega⟩, ⟨by (with_reducible repeat (first | apply Kd.N_alloc | apply Kd.N_drewN | apply Kd.N_drew)); exact HO_5.out⟩, ⟨by (with_reducible repeat (first | apply Kd.V_alloc | apply Kd.V_drewN | apply Kd.V_drew)); exact HO_198001.out⟩, ⟨by (with_reducible repeat (first | refine blk_drewN ?_ _ | refine blk_drew ?_ | refine blk_alloc ?_ _)); exact BK197.out⟩, ⟨by repeat (first | (with_reducible first | exact HB.out | apply below_alloc | apply pw_below_drewN | apply below_drew1 | refine below_set ?_ GE197.out) | exact HB.out)⟩⟩
        · rw [if_neg c5] at H
          exact absurd H (by simp)
      · rw [if_neg c4] at H
        have c4b0 : decide (x6_1 < (l0_1.length : Int)) = false := decide_eq_false c4
        clear c4
        obtain rfl := Option.some.inj H
        have hcz11_0 : wr.cell? ⟨gb197, 0, none⟩ = some (.string a0_0) := (blk_cell BK197.out 0).trans rfl
        have hcz11_1 : wr.cell? ⟨gb197, 1, none⟩ = some (.slice A0_1 l0_1.length c0_1) := (blk_cell BK197.out 1).trans rfl
        have hcz11_2 : wr.cell? ⟨gb197, 2, none⟩ = some (.slice A0_2 l0_2.length c0_2) := (blk_cell BK197.out 2).trans rfl
        have hfz11_0 := blk_frozen BK197.out 0
        have hfz11_1 := blk_frozen BK197.out 1
        have hfz11_2 := blk_frozen BK197.out 2
        go_wp2
        go_ret
        exact ⟨_, by first | rfl | (simp [errW_none, errW_some] <;> rfl) | (simp [*, errW_none, errW_some] <;> rfl), by (with_reducible repeat (first | apply Kd.N_alloc | apply Kd.N_drewN | apply Kd.N_drew)); exact Kd.N_mono HO_5.out (fun _ hk => hk.1), by repeat (first | (with_reducible first | exact HB.out | apply below_alloc | apply pw_below_drewN | apply below_drew1 | refine below_set ?_ GE197.out) | exact HB.out)⟩
end Go.Proofs.Ytebmbfobmakheaa.PD
namespace Go.Proofs.Ytebmbfobmakheaa.PD
open Go.RowKit Go.Proofs.YtebmbfobmakheaaW.PrintWords Go.Proofs.YtebmbfobmakheaaW.PrintLast Go.Proofs.YtebmbfobmakheaaW.PrintMore
attribute [local go_sem] isSome_setCell max2_int min2_int max_two min_two max_three min_three max_four min_four
set_option linter.unusedVariables false
set_option linter.unusedSimpArgs false
def almanacref12_Prop.f (k : Nat) (a0_0 : ByteArray) (l0_1 : List (S45)) (l0_2 : List (S25)) (a1 : ByteArray) : Option (ByteArray × (List (S77)) × ByteArray × Bool) := (almanacref12_Props.f k a0_0 l0_1 l0_2 a1).bind fun t205 => (if (t205.length : Int) = 0 then (some ((⟨#[]⟩ : ByteArray), ([] : List (S77)), (⟨#[]⟩ : ByteArray), false)) else (if 0 < (t205.length : Int) then (some ((rd_T45 t205 0).f0, (rd_T45 t205 0).f1, (rd_T45 t205 0).f2, true)) else (none)))
set_option maxHeartbeats 8000000 in
set_option maxRecDepth 100000 in
theorem almanacref12_Prop.calls (k : Nat) (a0_0 : ByteArray) (P0_1_ : Nat → Prop) (A0_1 : Option Addr) (c0_1 : Nat) (l0_1 : List (S45)) (A0_2 : Option Addr) (c0_2 : Nat) (l0_2 : List (S25)) (a1 : ByteArray) (r1 : ByteArray) (r2 : List (S77)) (r3 : ByteArray) (r4 : Bool) (w : World) (hs0_1 : Kd.V k45 45 w w.heap.size (fun k_ => P0_1_ k_) (.slice A0_1 l0_1.length c0_1) l0_1) (hr0_2 : Kd.C k25 w A0_2 l0_2.length l0_2) (hc0_2 : l0_2.length ≤ c0_2) (h : almanacref12_Prop.f k a0_0 l0_1 l0_2 a1 = some (r1, r2, r3, r4)) :
    Calls Try.prog 44 #[.agg #[.string a0_0, .slice A0_1 l0_1.length c0_1, .slice A0_2 l0_2.length c0_2], .string a1] w fun e w' => ∃ v1_ : Value, e = .returned (.tuple #[.agg #[.string r1, v1_, .string r3], .bool r4]) ∧ Kd.V k77 77 w' w.heap.size (fun k_ => (P0_1_ k_ ∨ w.heap.size ≤ k_)) v1_ r2 ∧ Below w.heap.size w w' := by
  have hu25 := Try.underlying25
  have hu45 := Try.underlying45
  have HO0_1 := Aside0.mk (show Kd.V k45 45 w w.heap.size (fun k_ => (P0_1_ k_ ∨ w.heap.size ≤ k_)) (.slice A0_1 l0_1.length c0_1) l0_1 from Kd.V_mono hs0_1 (fun k_ hk => .inl hk))
  have HR0_2 := Aside0.mk hr0_2
  have HC0_2 := Aside0.mk hc0_2
  clear hr0_2 hc0_2
  have HB := Aside0.mk (Below.refl w.heap.size w)
  have H : ((almanacref12_Props.f k a0_0 l0_1 l0_2 a1).bind fun t205 => (if (t205.length : Int) = 0 then (some ((⟨#[]⟩ : ByteArray), ([] : List (S77)), (⟨#[]⟩ : ByteArray), false)) else (if 0 < (t205.length : Int) then (some ((rd_T45 t205 0).f0, (rd_T45 t205 0).f1, (rd_T45 t205 0).f2, true)) else (none)))) = some (r1, r2, r3, r4) := h
  clear h
  replace H := Option.bind_eq_some_iff.mp H
  obtain ⟨t205, A30, H⟩ := H
  replace H : (if (t205.length : Int) = 0 then (some ((⟨#[]⟩ : ByteArray), ([] : List (S77)), (⟨#[]⟩ : ByteArray), false)) else (if 0 < (t205.length : Int) then (some ((rd_T45 t205 0).f0, (rd_T45 t205 0).f1, (rd_T45 t205 0).f2, true)) else (none))) = some (r1, r2, r3, r4) := H
  have A3 := Aside0.mk A30
  clear A30
  by_cases c4 : (t205.length : Int) = 0
  · rw [if_pos c4] at H
    have c4b0 : ((t205.length : Int) == 0) = true := beq_iff_eq.mpr c4
    have c4b1 : ((t205.length : Int) != 0) = false := bne_eq_false_iff_eq.mpr c4
    clear c4
    simp only [Option.some.injEq, Prod.mk.injEq] at H
    obtain ⟨rfl, rfl, rfl, rfl⟩ := H
    go_enter Try.func44, Try.ntmps44
    go_wp2_with (first | ((with_reducible refine gate_dst (N := 2) rfl ?_); refine box_event ?hg (N := 2) ?hd (cs := #[.string a0_0, .slice A0_1 l0_1.length c0_1, .slice A0_2 l0_2.length c0_2]) (t := 25) ?hr ?_; (case hd => rfl); (case hg => rfl); (case hr => first | (go_simp; done) | (go_simp; rfl)); intro gb203 hg w5 hbox hb; have n0_ := Aside0.mk (Kd.V_below (Kd.V_elderB (by (with_reducible repeat (first | apply Kd.V_alloc | apply Kd.V_drewN | apply Kd.V_drew)); exact HO0_1.out) gb203 (Nat.le_of_eq hg.symm)) hb); have n1_ := Aside0.mk (below_step (by repeat (first | (with_reducible first | exact HB.out | apply below_alloc | apply pw_below_drewN | apply below_drew1) | exact HB.out)) hb); have n2_ := Aside0.mk (hbox); have n3_ := Aside0.mk ((by rw [hg]; exact (below_size (by repeat (first | (with_reducible first | exact HB.out | apply below_alloc | apply pw_below_drewN | apply below_drew1) | exact HB.out))) : w.heap.size ≤ gb203)); have n4_ := Aside0.mk ((by rw [hg]; exact (below_size (by repeat (first | (with_reducible first | exact HB.out | apply below_alloc | apply pw_below_drewN | apply below_drew1) | exact HB.out))) : w.heap.size ≤ gb203)); clear HO0_1; clear HB; have HO0_1 := n0_; have HB := n1_; have BK203 := n2_; have GW203 := n3_; have GE203 := n4_; clear n0_ n1_ n2_ n3_ n4_; clear hb hbox hg) | ((with_reducible refine gate_dst (N := 4) rfl ?_); refine box_event ?hg (N := 4) ?hd (cs := #[.string (⟨#[]⟩ : ByteArray), .slice none 0 0, .string (⟨#[]⟩ : ByteArray)]) (t := 45) ?hr ?_; (case hd => rfl); (case hg => rfl); (case hr => first | (go_simp; done) | (go_simp; rfl)); intro gb204 hg w6 hbox hb; have n0_ := Aside0.mk (Kd.V_below (Kd.V_elderB (by (with_reducible repeat (first | apply Kd.V_alloc | apply Kd.V_drewN | apply Kd.V_drew)); exact HO0_1.out) gb204 (Nat.le_of_eq hg.symm)) hb); have n1_ := Aside0.mk (blk_below (g := gb203) (o := .cells #[.string a0_0, .slice A0_1 l0_1.length c0_1, .slice A0_2 l0_2.length c0_2] 25 (0, 0)) (by (with_reducible repeat (first | refine blk_drewN ?_ _ | refine blk_drew ?_ | refine blk_alloc ?_ _)); exact BK203.out) hb); have n2_ := Aside0.mk (below_step (by repeat (first | (with_reducible first | exact HB.out | apply below_alloc | apply pw_below_drewN | apply below_drew1 | refine below_set ?_ GE203.out) | exact HB.out)) hb); have n3_ := Aside0.mk (hbox); have n4_ := Aside0.mk ((by rw [hg]; exact (below_size (by repeat (first | (with_reducible first | exact HB.out | apply below_alloc | apply pw_below_drewN | apply below_drew1 | refine below_set ?_ GE203.out) | exact HB.out))) : w.heap.size ≤ gb204)); have n5_ := Aside0.mk ((by rw [hg]; exact (below_size (by repeat (first | (with_reducible first | exact HB.out | apply below_alloc | apply pw_below_drewN | apply below_drew1 | refine below_set ?_ GE203.out) | exact HB.out))) : w.heap.size ≤ gb204)); have n6_ := Aside0.mk ((by rw [hg]; exact Nat.ne_of_lt (blk_lt (g := gb203) (o := .cells #[.string a0_0, .slice A0_1 l0_1.length c0_1, .slice A0_2 l0_2.length c0_2] 25 (0, 0)) (by (with_reducible repeat (first | refine blk_drewN ?_ _ | refine blk_drew ?_ | refine blk_alloc ?_ _)); exact BK203.out)) : gb203 ≠ gb204)); have n7_ := Aside0.mk ((by rw [hg]; exact Nat.ne_of_gt (blk_lt (g := gb203) (o := .cells #[.string a0_0, .slice A0_1 l0_1.length c0_1, .slice A0_2 l0_2.length c0_2] 25 (0, 0)) (by (with_reducible repeat (first | refine blk_drewN ?_ _ | refine blk_drew ?_ | refine blk_alloc ?_ _)); exact BK203.out)) : gb204 ≠ gb203)); clear HO0_1; clear BK203; clear HB; have HO0_1 := n0_; have BK203 := n1_; have HB := n2_; have BK204 := n3_; have GW204 := n4_; have GE204 := n5_; have NB203_204 := n6_; have NB204_203 := n7_; clear n0_ n1_ n2_ n3_ n4_ n5_ n6_ n7_; clear hb hbox hg; have hnb7 := NB203_204.out; have hnc7 := NB204_203.out; have hcz8_0 : w6.cell? ⟨gb203, 0, none⟩ = some (.string a0_0) := (blk_cell BK203.out 0).trans rfl; have hcz8_1 : w6.cell? ⟨gb203, 1, none⟩ = some (.slice A0_1 l0_1.length c0_1) := (blk_cell BK203.out 1).trans rfl; have hcz8_2 : w6.cell? ⟨gb203, 2, none⟩ = some (.slice A0_2 l0_2.length c0_2) := (blk_cell BK203.out 2).trans rfl; have hfz8_0 := blk_frozen BK203.out 0; have hfz8_1 := blk_frozen BK203.out 1; have hfz8_2 := blk_frozen BK203.out 2) | ((with_reducible refine gate_callee (f := 49) rfl ?_); refine goesL_ (some 9) rfl rfl Try.func49 (by kernel_rfl) rfl #[.agg #[.string a0_0, .slice A0_1 l0_1.length c0_1, .slice A0_2 l0_2.length c0_2], .string a1] rfl (by (try simp only [List.map_toArray, List.map_cons, List.map_nil]); first | done | rfl | (simp only [List.length_drop, List.length_take]; rfl)) ?_; (with_reducible refine (almanacref12_Props.calls k a0_0 (fun k_ => (((P0_1_ k_ ∨ w.heap.size ≤ k_) ∧ k_ ≠ gb203) ∧ k_ ≠ gb204)) _ _ l0_1 _ _ l0_2 a1 t205 _ ?side1 ?side2 ?side3 A3.out).mono ?_); (case side1 => exact HO0_1.out); (case side2 => repeat (first | exact (Kd.C_below HR0_2.out HB.out) | (with_reducible refine Kd.C_alloc ?_ _) | (with_reducible refine Kd.C_drewN ?_ _) | (with_reducible refine Kd.C_drew ?_))); (case side3 => exact HC0_2.out); rintro e w9 ⟨v206, rfl, ho0, hb⟩; refine ⟨_, rfl, ?_⟩; have n0_ := Aside0.mk (Kd.V_elder' (by (with_reducible repeat (first | apply Kd.V_alloc | apply Kd.V_drewN | apply Kd.V_drew)); exact HO0_1.out) (Kd.N_base ho0) hb); have n1_ := Aside0.mk (Kd.N_lower (Kd.N_mono (ok' := fun k_ => (P0_1_ k_ ∨ w.heap.size ≤ k_) ∧ k_ ≠ gb203 ∧ k_ ≠ gb204) ho0 (fun k_ hk_ => ⟨Or.elim hk_ (fun hs_ => hs_.1.1) (fun hn_ => (.inr (Nat.le_trans (below_size (by repeat (first | (with_reducible first | exact HB.out | apply below_alloc | apply pw_below_drewN | apply below_drew1 | refine below_set ?_ GE203.out | refine below_set ?_ GE204.out) | exact HB.out))) hn_))), Or.elim hk_ (fun hs_ => hs_.1.2) (fun hn_ => (Kd.freshB (g := gb203) (o := .cells #[.string a0_0, .slice A0_1 l0_1.length c0_1, .slice A0_2 l0_2.length c0_2] 25 (0, 0)) (by (with_reducible repeat (first | refine blk_drewN ?_ _ | refine blk_drew ?_ | refine blk_alloc ?_ _)); exact BK203.out) k_ hn_)), Or.elim hk_ (fun hs_ => hs_.2) (fun hn_ => (Kd.freshB (g := gb204) (o := .cells #[.string (⟨#[]⟩ : ByteArray), .slice none 0 0, .string (⟨#[]⟩ : ByteArray)] 45 (0, 0)) (by (with_reducible repeat (first | refine blk_drewN ?_ _ | refine blk_drew ?_ | refine blk_alloc ?_ _)); exact BK204.out) k_ hn_))⟩)) (below_size (by repeat (first | (with_reducible first | exact HB.out | apply below_alloc | apply pw_below_drewN | apply below_drew1 | refine below_set ?_ GE203.out | refine below_set ?_ GE204.out) | exact HB.out)))); have n2_ := Aside0.mk (blk_below (g := gb203) (o := .cells #[.string a0_0, .slice A0_1 l0_1.length c0_1, .slice A0_2 l0_2.length c0_2] 25 (0, 0)) (by (with_reducible repeat (first | refine blk_drewN ?_ _ | refine blk_drew ?_ | refine blk_alloc ?_ _)); exact BK203.out) hb); have n3_ := Aside0.mk (blk_below (g := gb204) (o := .cells #[.string (⟨#[]⟩ : ByteArray), .slice none 0 0, .string (⟨#[]⟩ : ByteArray)] 45 (0, 0)) (by (with_reducible repeat (first | refine blk_drewN ?_ _ | refine blk_drew ?_ | refine blk_alloc ?_ _)); exact BK204.out) hb); have n4_ := Aside0.mk (below_step (by repeat (first | (with_reducible first | exact HB.out | apply below_alloc | apply pw_below_drewN | apply below_drew1 | refine below_set ?_ GE203.out | refine below_set ?_ GE204.out) | exact HB.out)) hb); clear HO0_1; clear BK203; clear BK204; clear HB; have HO0_1 := n0_; have HO207 := n1_; have BK203 := n2_; have BK204 := n3_; have HB := n4_; clear n0_ n1_ n2_ n3_ n4_; (try clear hb); (try clear hb2); (try clear hk); (try clear hi); (try clear ho0); obtain ⟨Ao10, co10, eo10⟩ := Kd.N_slice HO207.out; subst eo10; have hcz11_0 : w9.cell? ⟨gb204, 0, none⟩ = some (.string (⟨#[]⟩ : ByteArray)) := (blk_cell BK204.out 0).trans rfl; have hcz11_1 : w9.cell? ⟨gb204, 1, none⟩ = some (.slice none 0 0) := (blk_cell BK204.out 1).trans rfl; have hcz11_2 : w9.cell? ⟨gb204, 2, none⟩ = some (.string (⟨#[]⟩ : ByteArray)) := (blk_cell BK204.out 2).trans rfl; have hfz11_0 := blk_frozen BK204.out 0; have hfz11_1 := blk_frozen BK204.out 1; have hfz11_2 := blk_frozen BK204.out 2))
    refine bodyPost_ret (results_ct rfl _ _ gb204 45 #[.string (⟨#[]⟩ : ByteArray), .slice none 0 0, .string (⟨#[]⟩ : ByteArray)] (0, 0) _ rfl (by (with_reducible repeat (first | refine blk_drewN ?_ _ | refine blk_drew ?_ | refine blk_alloc ?_ _)); refine blk_put (cs := #[.string (⟨#[]⟩ : ByteArray), .slice none 0 0, .string (⟨#[]⟩ : ByteArray)]) ?_ 2 _ rfl; (with_reducible repeat (first | refine blk_drewN ?_ _ | refine blk_drew ?_ | refine blk_alloc ?_ _)); refine blk_put (cs := #[.string (⟨#[]⟩ : ByteArray), .slice none 0 0, .string (⟨#[]⟩ : ByteArray)]) ?_ 1 _ rfl; (with_reducible repeat (first | refine blk_drewN ?_ _ | refine blk_drew ?_ | refine blk_alloc ?_ _)); refine blk_put (cs := #[.string (⟨#[]⟩ : ByteArray), .slice none 0 0, .string (⟨#[]⟩ : ByteArray)]) ?_ 0 _ rfl; (with_reducible repeat (first | refine blk_drewN ?_ _ | refine blk_drew ?_ | refine blk_alloc ?_ _)); exact BK204.out) Try.underlying45 rfl (by kernel_rfl)) rfl ?_
    exact ⟨_, by first | rfl | (simp [errW_none, errW_some] <;> rfl) | (simp [*, errW_none, errW_some] <;> rfl), Kd.V_nil _ _ _ _ _, by repeat (first | (with_reducible first | exact HB.out | apply below_alloc | apply pw_below_drewN | apply below_drew1 | refine below_set ?_ GE203.out | refine below_set ?_ GE204.out) | exact HB.out)⟩
  · rw [if_neg c4] at H
    have c4b0 : ((t205.length : Int) == 0) = false := beq_eq_false_iff_ne.mpr c4
    have c4b1 : ((t205.length : Int) != 0) = true := bne_iff_ne.mpr c4
    have c4b2 : ¬ (t205 = []) := fun h_ => c4 (by rw [h_]; rfl)
    by_cases c12 : 0 < (t205.length : Int)
    · rw [if_pos c12] at H
      have c12b0 : decide (0 < (t205.length : Int)) = true := decide_eq_true c12
      have c12b1 : decide (0 < t205.length) = true := decide_eq_true (by omega)
      clear c12
      simp only [Option.some.injEq, Prod.mk.injEq] at H
      obtain ⟨rfl, rfl, rfl, rfl⟩ := H
      go_enter Try.func44, Try.ntmps44
      go_wp2_with (first | ((with_reducible refine gate_dst (N := 2) rfl ?_); refine box_event ?hg (N := 2) ?hd (cs := #[.string a0_0, .slice A0_1 l0_1.length c0_1, .slice A0_2 l0_2.length c0_2]) (t := 25) ?hr ?_; (case hd => rfl); (case hg => rfl); (case hr => first | (go_simp; done) | (go_simp; rfl)); intro gb203 hg w13 hbox hb; have n0_ := Aside0.mk (Kd.V_below (Kd.V_elderB (by (with_reducible repeat (first | apply Kd.V_alloc | apply Kd.V_drewN | apply Kd.V_drew)); exact HO0_1.out) gb203 (Nat.le_of_eq hg.symm)) hb); have n1_ := Aside0.mk (below_step (by repeat (first | (with_reducible first | exact HB.out | apply below_alloc | apply pw_below_drewN | apply below_drew1) | exact HB.out)) hb); have n2_ := Aside0.mk (hbox); have n3_ := Aside0.mk ((by rw [hg]; exact (below_size (by repeat (first | (with_reducible first | exact HB.out | apply below_alloc | apply pw_below_drewN | apply below_drew1) | exact HB.out))) : w.heap.size ≤ gb203)); have n4_ := Aside0.mk ((by rw [hg]; exact (below_size (by repeat (first | (with_reducible first | exact HB.out | apply below_alloc | apply pw_below_drewN | apply below_drew1) | exact HB.out))) : w.heap.size ≤ gb203)); clear HO0_1; clear HB; have HO0_1 := n0_; have HB := n1_; have BK203 := n2_; have GW203 := n3_; have GE203 := n4_; clear n0_ n1_ n2_ n3_ n4_; clear hb hbox hg) | ((with_reducible refine gate_dst (N := 4) rfl ?_); refine box_event ?hg (N := 4) ?hd (cs := #[.string (⟨#[]⟩ : ByteArray), .slice none 0 0, .string (⟨#[]⟩ : ByteArray)]) (t := 45) ?hr ?_; (case hd => rfl); (case hg => rfl); (case hr => first | (go_simp; done) | (go_simp; rfl)); intro gb204 hg w14 hbox hb; have n0_ := Aside0.mk (Kd.V_below (Kd.V_elderB (by (with_reducible repeat (first | apply Kd.V_alloc | apply Kd.V_drewN | apply Kd.V_drew)); exact HO0_1.out) gb204 (Nat.le_of_eq hg.symm)) hb); have n1_ := Aside0.mk (blk_below (g := gb203) (o := .cells #[.string a0_0, .slice A0_1 l0_1.length c0_1, .slice A0_2 l0_2.length c0_2] 25 (0, 0)) (by (with_reducible repeat (first | refine blk_drewN ?_ _ | refine blk_drew ?_ | refine blk_alloc ?_ _)); exact BK203.out) hb); have n2_ := Aside0.mk (below_step (by repeat (first | (with_reducible first | exact HB.out | apply below_alloc | apply pw_below_drewN | apply below_drew1 | refine below_set ?_ GE203.out) | exact HB.out)) hb); have n3_ := Aside0.mk (hbox); have n4_ := Aside0.mk ((by rw [hg]; exact (below_size (by repeat (first | (with_reducible first | exact HB.out | apply below_alloc | apply pw_below_drewN | apply below_drew1 | refine below_set ?_ GE203.out) | exact HB.out))) : w.heap.size ≤ gb204)); have n5_ := Aside0.mk ((by rw [hg]; exact (below_size (by repeat (first | (with_reducible first | exact HB.out | apply below_alloc | apply pw_below_drewN | apply below_drew1 | refine below_set ?_ GE203.out) | exact HB.out))) : w.heap.size ≤ gb204)); have n6_ := Aside0.mk ((by rw [hg]; exact Nat.ne_of_lt (blk_lt (g := gb203) (o := .cells #[.string a0_0, .slice A0_1 l0_1.length c0_1, .slice A0_2 l0_2.length c0_2] 25 (0, 0)) (by (with_reducible repeat (first | refine blk_drewN ?_ _ | refine blk_drew ?_ | refine blk_alloc ?_ _)); exact BK203.out)) : gb203 ≠ gb204)); have n7_ := Aside0.mk ((by rw [hg]; exact Nat.ne_of_gt (blk_lt (g := gb203) (o := .cells #[.string a0_0, .slice A0_1 l0_1.length c0_1, .slice A0_2 l0_2.length c0_2] 25 (0, 0)) (by (with_reducible repeat (first | refine blk_drewN ?_ _ | refine blk_drew ?_ | refine blk_alloc ?_ _)); exact BK203.out)) : gb204 ≠ gb203)); clear HO0_1; clear BK203; clear HB; have HO0_1 := n0_; have BK203 := n1_; have HB := n2_; have BK204 := n3_; have GW204 := n4_; have GE204 := n5_; have NB203_204 := n6_; have NB204_203 := n7_; clear n0_ n1_ n2_ n3_ n4_ n5_ n6_ n7_; clear hb hbox hg; have hnb15 := NB203_204.out; have hnc15 := NB204_203.out; have hcz16_0 : w14.cell? ⟨gb203, 0, none⟩ = some (.string a0_0) := (blk_cell BK203.out 0).trans rfl; have hcz16_1 : w14.cell? ⟨gb203, 1, none⟩ = some (.slice A0_1 l0_1.length c0_1) := (blk_cell BK203.out 1).trans rfl; have hcz16_2 : w14.cell? ⟨gb203, 2, none⟩ = some (.slice A0_2 l0_2.length c0_2) := (blk_cell BK203.out 2).trans rfl; have hfz16_0 := blk_frozen BK203.out 0; have hfz16_1 := blk_frozen BK203.out 1; have hfz16_2 := blk_frozen BK203.out 2) | ((with_reducible refine gate_callee (f := 49) rfl ?_); refine goesL_ (some 9) rfl rfl Try.func49 (by kernel_rfl) rfl #[.agg #[.string a0_0, .slice A0_1 l0_1.length c0_1, .slice A0_2 l0_2.length c0_2], .string a1] rfl (by (try simp only [List.map_toArray, List.map_cons, List.map_nil]); first | done | rfl | (simp only [List.length_drop, List.length_take]; rfl)) ?_; (with_reducible refine (almanacref12_Props.calls k a0_0 (fun k_ => (((P0_1_ k_ ∨ w.heap.size ≤ k_) ∧ k_ ≠ gb203) ∧ k_ ≠ gb204)) _ _ l0_1 _ _ l0_2 a1 t205 _ ?side1 ?side2 ?side3 A3.out).mono ?_); (case side1 => exact HO0_1.out); (case side2 => repeat (first | exact (Kd.C_below HR0_2.out HB.out) | (with_reducible refine Kd.C_alloc ?_ _) | (with_reducible refine Kd.C_drewN ?_ _) | (with_reducible refine Kd.C_drew ?_))); (case side3 => exact HC0_2.out); rintro e w17 ⟨v206, rfl, ho0, hb⟩; refine ⟨_, rfl, ?_⟩; have n0_ := Aside0.mk (Kd.V_elder' (by (with_reducible repeat (first | apply Kd.V_alloc | apply Kd.V_drewN | apply Kd.V_drew)); exact HO0_1.out) (Kd.N_base ho0) hb); have n1_ := Aside0.mk (Kd.N_lower (Kd.N_mono (ok' := fun k_ => (P0_1_ k_ ∨ w.heap.size ≤ k_) ∧ k_ ≠ gb203 ∧ k_ ≠ gb204) ho0 (fun k_ hk_ => ⟨Or.elim hk_ (fun hs_ => hs_.1.1) (fun hn_ => (.inr (Nat.le_trans (below_size (by repeat (first | (with_reducible first | exact HB.out | apply below_alloc | apply pw_below_drewN | apply below_drew1 | refine below_set ?_ GE203.out | refine below_set ?_ GE204.out) | exact HB.out))) hn_))), Or.elim hk_ (fun hs_ => hs_.1.2) (fun hn_ => (Kd.freshB (g := gb203) (o := .cells #[.string a0_0, .slice A0_1 l0_1.length c0_1, .slice A0_2 l0_2.length c0_2] 25 (0, 0)) (by (with_reducible repeat (first | refine blk_drewN ?_ _ | refine blk_drew ?_ | refine blk_alloc ?_ _)); exact BK203.out) k_ hn_)), Or.elim hk_ (fun hs_ => hs_.2) (fun hn_ => (Kd.freshB (g := gb204) (o := .cells #[.string (⟨#[]⟩ : ByteArray), .slice none 0 0, .string (⟨#[]⟩ : ByteArray)] 45 (0, 0)) (by (with_reducible repeat (first | refine blk_drewN ?_ _ | refine blk_drew ?_ | refine blk_alloc ?_ _)); exact BK204.out) k_ hn_))⟩)) (below_size (by repeat (first | (with_reducible first | exact HB.out | apply below_alloc | apply pw_below_drewN | apply below_drew1 | refine below_set ?_ GE203.out | refine below_set ?_ GE204.out) | exact HB.out)))); have n2_ := Aside0.mk (blk_below (g := gb203) (o := .cells #[.string a0_0, .slice A0_1 l0_1.length c0_1, .slice A0_2 l0_2.length c0_2] 25 (0, 0)) (by (with_reducible repeat (first | refine blk_drewN ?_ _ | refine blk_drew ?_ | refine blk_alloc ?_ _)); exact BK203.out) hb); have n3_ := Aside0.mk (blk_below (g := gb204) (o := .cells #[.string (⟨#[]⟩ : ByteArray), .slice none 0 0, .string (⟨#[]⟩ : ByteArray)] 45 (0, 0)) (by (with_reducible repeat (first | refine blk_drewN ?_ _ | refine blk_drew ?_ | refine blk_alloc ?_ _)); exact BK204.out) hb); have n4_ := Aside0.mk (below_step (by repeat (first | (with_reducible first | exact HB.out | apply below_alloc | apply pw_below_drewN | apply below_drew1 | refine below_set ?_ GE203.out | refine below_set ?_ GE204.out) | exact HB.out)) hb); clear HO0_1; clear BK203; clear BK204; clear HB; have HO0_1 := n0_; have HO207 := n1_; have BK203 := n2_; have BK204 := n3_; have HB := n4_; clear n0_ n1_ n2_ n3_ n4_; (try clear hb); (try clear hb2); (try clear hk); (try clear hi); (try clear ho0); obtain ⟨Ao18, co18, eo18⟩ := Kd.N_slice HO207.out; subst eo18; have p208 : 0 ≤ (0 : Int) := (by omega); have q208 : 0 < (t205.length : Int) := of_decide_eq_true (by first | (with_reducible assumption) | assumption); obtain ⟨ad208, A208_1, c208_1, e208, hx208_0, hx208_1, hx208_2, hl208_1, hi208_1⟩ := at_T45 (Kd.N_reads' HO207.out).2.2 0 p208 q208; cases e208; obtain ⟨ce208, hce208, hMe208, hcc208⟩ := Kd.N_get HO207.out z45 0 p208 (by first | exact q208 | exact of_decide_eq_true (by first | (with_reducible assumption) | assumption) | (have e_ := (Kd.N_reads' HO207.out).1; omega)); obtain ⟨ua208_1, uc208_1, rfl, ul208_1, ge208_1⟩ := k45_openF hMe208; have hv208_1 := hcc208 1 _ rfl; rw [add_field _ _ 1 (by omega)] at hv208_1; replace hv208_1 := Option.some.inj (hv208_1.symm.trans hx208_1); injection hv208_1 with hva_ hvn_ hvc_; rw [hva_] at ge208_1; rw [hvc_] at ul208_1; have HL208_1 := Aside0.mk (show Kd.V k77 77 _ w.heap.size _ _ ((rd_T45 t205 0).f1) from Kd.V_mk ul208_1 ge208_1); clear hva_ hvn_ hvc_ ge208_1 ul208_1; clear hcc208 hce208; have qi208 : (0 < t205.length) = True := eq_true (by omega); (try rw [show ((0 : Int)).toNat = 0 from rfl] at hx208_0); (try rw [show 0 * 3 = 0 from rfl] at hx208_0); (try rw [Addr.add_zero'] at hx208_0); (try rw [show ((0 : Int)).toNat = 0 from rfl] at hx208_1); (try rw [show 0 * 3 = 0 from rfl] at hx208_1); (try rw [Addr.add_zero'] at hx208_1); (try rw [show ((0 : Int)).toNat = 0 from rfl] at hx208_2); (try rw [show 0 * 3 = 0 from rfl] at hx208_2); (try rw [Addr.add_zero'] at hx208_2); have HR208_1 := Aside0.mk hi208_1; have HC208_1 := Aside0.mk hl208_1; clear hi208_1 hl208_1; replace p208 := eq_true p208; replace q208 := eq_true q208; have hcz19_0 : w17.cell? ⟨gb204, 0, none⟩ = some (.string (⟨#[]⟩ : ByteArray)) := (blk_cell BK204.out 0).trans rfl; have hcz19_1 : w17.cell? ⟨gb204, 1, none⟩ = some (.slice none 0 0) := (blk_cell BK204.out 1).trans rfl; have hcz19_2 : w17.cell? ⟨gb204, 2, none⟩ = some (.string (⟨#[]⟩ : ByteArray)) := (blk_cell BK204.out 2).trans rfl; have hfz19_0 := blk_frozen BK204.out 0; have hfz19_1 := blk_frozen BK204.out 1; have hfz19_2 := blk_frozen BK204.out 2))
      refine bodyPost_ret (results_ct rfl _ _ gb204 45 #[.string ((rd_T45 t205 0).f0), .slice A208_1 ((rd_T45 t205 0).f1).length c208_1, .string ((rd_T45 t205 0).f2)] (0, 0) _ rfl (by (with_reducible repeat (first | refine blk_drewN ?_ _ | refine blk_drew ?_ | refine blk_alloc ?_ _)); refine blk_put (cs := #[.string ((rd_T45 t205 0).f0), .slice A208_1 ((rd_T45 t205 0).f1).length c208_1, .string (⟨#[]⟩ : ByteArray)]) ?_ 2 _ rfl; (with_reducible repeat (first | refine blk_drewN ?_ _ | refine blk_drew ?_ | refine blk_alloc ?_ _)); refine blk_put (cs := #[.string ((rd_T45 t205 0).f0), .slice none 0 0, .string (⟨#[]⟩ : ByteArray)]) ?_ 1 _ rfl; (with_reducible repeat (first | refine blk_drewN ?_ _ | refine blk_drew ?_ | refine blk_alloc ?_ _)); refine blk_put (cs := #[.string (⟨#[]⟩ : ByteArray), .slice none 0 0, .string (⟨#[]⟩ : ByteArray)]) ?_ 0 _ rfl; (with_reducible repeat (first | refine blk_drewN ?_ _ | refine blk_drew ?_ | refine blk_alloc ?_ _)); exact BK204.out) Try.underlying45 rfl (by kernel_rfl)) rfl ?_
      exact ⟨_, by first | rfl | (simp [errW_none, errW_some] <;> rfl) | (simp [*, errW_none, errW_some] <;> rfl), by (with_reducible repeat (first | apply Kd.V_alloc | apply Kd.V_drewN | apply Kd.V_drew)); exact Kd.V_mono (Kd.V_far (p := ⟨gb204, 2, none⟩) (Kd.V_far (p := ⟨gb204, 1, none⟩) (Kd.V_far (p := ⟨gb204, 0, none⟩) (Kd.V_mono HL208_1.out (fun k_ hk => (⟨hk, hk.1.2.2⟩ : _ ∧ k_ ≠ gb204))) (fun _ hk => hk.2) (.string ((rd_T45 t205 0).f0))) (fun _ hk => hk.2) (.slice A208_1 ((rd_T45 t205 0).f1).length c208_1)) (fun _ hk => hk.2) (.string ((rd_T45 t205 0).f2))) (fun _ hk => hk.1.1.1), by repeat (first | (with_reducible first | exact HB.out | apply below_alloc | apply pw_below_drewN | apply below_drew1 | refine below_set ?_ GE203.out | refine below_set ?_ GE204.out) | exact HB.out)⟩
    · rw [if_neg c12] at H
      exact absurd H (by simp)
end Go.Proofs.Ytebmbfobmakheaa.PD
namespace Go.Proofs.Ytebmbfobmakheaa.PD
open Go.RowKit Go.Proofs.YtebmbfobmakheaaW.PrintWords Go.Proofs.YtebmbfobmakheaaW.PrintLast Go.Proofs.YtebmbfobmakheaaW.PrintMore
attribute [local go_sem] isSome_setCell max2_int min2_int max_two min_two max_three min_three max_four min_four
set_option linter.unusedVariables false
set_option linter.unusedSimpArgs false
def almanacref26_Organizer.l0 : Nat → List (S25) → Int → Option (ByteArray)
  | 0, _, _ => none
  | k + 1, x3, x4 => if x4 < (x3.length : Int) then (if 0 ≤ x4 then ((almanacref12_Prop.f k ((rd_T25 x3 x4).f0) ((rd_T25 x3 x4).f1) ((rd_T25 x3 x4).f2) (⟨#[79, 82, 71, 65, 78, 73, 90, 69, 82]⟩ : ByteArray)).bind fun bt214 => (if bt214.2.2.2 = true then (some bt214.2.2.1) else (almanacref26_Organizer.l0 k x3 (wrap64 (x4 + 1))))) else (none)) else (some (⟨#[]⟩ : ByteArray))
def almanacref26_Organizer.f (k : Nat) (a0_0 : ByteArray) (l0_1 : List (S45)) (l0_2 : List (S25)) : Option (ByteArray) := (almanacref17_Others.f k a0_0 l0_1 l0_2).bind fun t210 => (almanacref26_Organizer.l0 k t210 0)
set_option maxHeartbeats 8000000 in
set_option maxRecDepth 100000 in
theorem almanacref26_Organizer.calls (k : Nat) (a0_0 : ByteArray) (A0_1 : Option Addr) (c0_1 : Nat) (l0_1 : List (S45)) (A0_2 : Option Addr) (c0_2 : Nat) (l0_2 : List (S25)) (r : ByteArray) (w : World) (hr0_1 : Kd.C k45 w A0_1 l0_1.length l0_1) (hc0_1 : l0_1.length ≤ c0_1) (hr0_2 : Kd.C k25 w A0_2 l0_2.length l0_2) (hc0_2 : l0_2.length ≤ c0_2) (h : almanacref26_Organizer.f k a0_0 l0_1 l0_2 = some r) :
    Calls Try.prog 13 #[.agg #[.string a0_0, .slice A0_1 l0_1.length c0_1, .slice A0_2 l0_2.length c0_2]] w fun e w' => e = .returned (.string r) ∧ Below w.heap.size w w' := by
  have hu25 := Try.underlying25
  have hu45 := Try.underlying45
  have HR0_1 := Aside0.mk hr0_1
  have HC0_1 := Aside0.mk hc0_1
  clear hr0_1 hc0_1
  have HR0_2 := Aside0.mk hr0_2
  have HC0_2 := Aside0.mk hc0_2
  clear hr0_2 hc0_2
  have HB := Aside0.mk (Below.refl w.heap.size w)
  have H : ((almanacref17_Others.f k a0_0 l0_1 l0_2).bind fun t210 => (almanacref26_Organizer.l0 k t210 0)) = some r := h
  clear h
  replace H := Option.bind_eq_some_iff.mp H
  obtain ⟨t210, A20, H⟩ := H
  replace H : (almanacref26_Organizer.l0 k t210 0) = some r := H
  have A2 := Aside0.mk A20
  clear A20
  have H' := Aside0.mk H
  clear H
  go_enter Try.func13, Try.ntmps13
  go_wp2_with (first | ((with_reducible refine gate_dst (N := 1) rfl ?_); refine box_event ?hg (N := 1) ?hd (cs := #[.string a0_0, .slice A0_1 l0_1.length c0_1, .slice A0_2 l0_2.length c0_2]) (t := 25) ?hr ?_; (case hd => rfl); (case hg => rfl); (case hr => first | (go_simp; done) | (go_simp; rfl)); intro gb209 hg w3 hbox hb; have n0_ := Aside0.mk (below_step (by repeat (first | (with_reducible first | exact HB.out | apply below_alloc | apply pw_below_drewN | apply below_drew1) | exact HB.out)) hb); have n1_ := Aside0.mk (hbox); have n2_ := Aside0.mk ((by rw [hg]; exact (below_size (by repeat (first | (with_reducible first | exact HB.out | apply below_alloc | apply pw_below_drewN | apply below_drew1) | exact HB.out))) : w.heap.size ≤ gb209)); have n3_ := Aside0.mk ((by rw [hg]; exact (below_size (by repeat (first | (with_reducible first | exact HB.out | apply below_alloc | apply pw_below_drewN | apply below_drew1) | exact HB.out))) : w.heap.size ≤ gb209)); clear HB; have HB := n0_; have BK209 := n1_; have GW209 := n2_; have GE209 := n3_; clear n0_ n1_ n2_ n3_; clear hb hbox hg; have hcz4_0 : w3.cell? ⟨gb209, 0, none⟩ = some (.string a0_0) := (blk_cell BK209.out 0).trans rfl; have hcz4_1 : w3.cell? ⟨gb209, 1, none⟩ = some (.slice A0_1 l0_1.length c0_1) := (blk_cell BK209.out 1).trans rfl; have hcz4_2 : w3.cell? ⟨gb209, 2, none⟩ = some (.slice A0_2 l0_2.length c0_2) := (blk_cell BK209.out 2).trans rfl; have hfz4_0 := blk_frozen BK209.out 0; have hfz4_1 := blk_frozen BK209.out 1; have hfz4_2 := blk_frozen BK209.out 2) | ((with_reducible refine gate_callee (f := 43) rfl ?_); refine goesL_ (some 8) rfl rfl Try.func43 (by kernel_rfl) rfl #[.agg #[.string a0_0, .slice A0_1 l0_1.length c0_1, .slice A0_2 l0_2.length c0_2]] rfl (by (try simp only [List.map_toArray, List.map_cons, List.map_nil]); first | done | rfl | (simp only [List.length_drop, List.length_take]; rfl)) ?_; (with_reducible refine (almanacref17_Others.calls k a0_0 _ _ l0_1 (fun k_ => k_ < w.heap.size) _ _ l0_2 t210 _ ?side1 ?side2 ?side3 A2.out).mono ?_); (case side1 => repeat (first | exact (Kd.C_below HR0_1.out HB.out) | (with_reducible refine Kd.C_alloc ?_ _) | (with_reducible refine Kd.C_drewN ?_ _) | (with_reducible refine Kd.C_drew ?_))); (case side2 => exact HC0_1.out); (case side3 => exact Kd.V_mk HC0_2.out (Kd.F_below (Kd.C_F k25_heap HR0_2.out) (by repeat (first | (with_reducible first | exact HB.out | apply below_alloc | apply pw_below_drewN | apply below_drew1 | refine below_set ?_ GE209.out) | exact HB.out)))); rintro e w5 ⟨v211, rfl, ho0, hb⟩; refine ⟨_, rfl, ?_⟩; have n0_ := Aside0.mk (Kd.N_lower (Kd.N_mono (ok' := fun k_ => k_ ≠ gb209) ho0 (fun k_ hk_ => Or.elim hk_ (fun hs_ => fun e_ => Nat.not_le.2 hs_ (by rw [e_]; exact GW209.out)) (fun hn_ => (Kd.freshB (g := gb209) (o := .cells #[.string a0_0, .slice A0_1 l0_1.length c0_1, .slice A0_2 l0_2.length c0_2] 25 (0, 0)) (by (with_reducible repeat (first | refine blk_drewN ?_ _ | refine blk_drew ?_ | refine blk_alloc ?_ _)); exact BK209.out) k_ hn_)))) (below_size (by repeat (first | (with_reducible first | exact HB.out | apply below_alloc | apply pw_below_drewN | apply below_drew1 | refine below_set ?_ GE209.out) | exact HB.out)))); have n1_ := Aside0.mk (blk_below (g := gb209) (o := .cells #[.string a0_0, .slice A0_1 l0_1.length c0_1, .slice A0_2 l0_2.length c0_2] 25 (0, 0)) (by (with_reducible repeat (first | refine blk_drewN ?_ _ | refine blk_drew ?_ | refine blk_alloc ?_ _)); exact BK209.out) hb); have n2_ := Aside0.mk (below_step (by repeat (first | (with_reducible first | exact HB.out | apply below_alloc | apply pw_below_drewN | apply below_drew1 | refine below_set ?_ GE209.out) | exact HB.out)) hb); clear BK209; clear HB; have HO212 := n0_; have BK209 := n1_; have HB := n2_; clear n0_ n1_ n2_; (try clear hb); (try clear hb2); (try clear hk); (try clear hi); (try clear ho0)))
  go_loopg [4] k (fun kq v4 w' => ∃ (x4_1 : Int), v4 = .int .i64 x4_1 ∧ Aside0 (almanacref26_Organizer.l0 kq t210 x4_1 = some r) ∧ Aside0 (kq ≤ k) ∧ Aside0 (Kd.N k25 25 w' w.heap.size (fun k_ => k_ ≠ gb209) v211 t210) ∧ Aside0 (w'.heap[gb209]? = some (.cells #[.string a0_0, (.slice A0_1 l0_1.length c0_1), (.slice A0_2 l0_2.length c0_2)] 25 (0, 0))) ∧ Aside0 (Below w.heap.size w w'))
  case atStart => exact ⟨(0), (by first | rfl | (simp; done) | (simp [*]; done)), H', ⟨Nat.le_refl _⟩, ⟨by (with_reducible repeat (first | apply Kd.N_alloc | apply Kd.N_drewN | apply Kd.N_drew)); exact HO212.out⟩, ⟨by (with_reducible repeat (first | refine blk_drewN ?_ _ | refine blk_drew ?_ | refine blk_alloc ?_ _)); exact BK209.out⟩, ⟨by repeat (first | (with_reducible first | exact HB.out | apply below_alloc | apply pw_below_drewN | apply below_drew1 | refine below_set ?_ GE209.out) | exact HB.out)⟩⟩
  case round =>
    clear H'
    try clear c1
    try clear p2
    try clear c4
    try clear hcz4_0
    try clear hcz4_1
    try clear hcz4_2
    try clear hfz4_0
    try clear hfz4_1
    try clear hfz4_2
    obtain ⟨x4_1, rfl, HA, HK1, HO_3, BK209, HB⟩ := hrel
    cases gk with
    | zero => exact absurd HA.out (by simp [almanacref26_Organizer.l0])
    | succ k1 =>
      have H := HA.out
      clear HA
      simp only [almanacref26_Organizer.l0] at H
      by_cases c6 : x4_1 < (t210.length : Int)
      · rw [if_pos c6] at H
        have c6b0 : decide (x4_1 < (t210.length : Int)) = true := decide_eq_true c6
        clear c6
        by_cases c7 : 0 ≤ x4_1
        · rw [if_pos c7] at H
          have c7b0 : decide (0 ≤ x4_1) = true := decide_eq_true c7
          clear c7
          replace H := Option.bind_eq_some_iff.mp H
          obtain ⟨⟨t214, t215, t218, t219⟩, A80, H⟩ := H
          replace H : (if t219 = true then (some t218) else (almanacref26_Organizer.l0 k1 t210 (wrap64 (x4_1 + 1)))) = some r := H
          have A8 := Aside0.mk A80
          clear A80
          by_cases c9 : t219 = true
          · subst c9
            have H1 : (some t218) = some r := by rw [if_pos rfl] at H; exact H
            clear H
            have H := H1
            clear H1
            obtain rfl := Option.some.inj H
            obtain ⟨Ao10, co10, eo10⟩ := Kd.N_slice HO_3.out
            subst eo10
            have p213 : 0 ≤ (x4_1 : Int) := of_decide_eq_true (by first | (with_reducible assumption) | assumption)
            have q213 : x4_1 < (t210.length : Int) := of_decide_eq_true (by first | (with_reducible assumption) | assumption)
            obtain ⟨ad213, A213_1, c213_1, A213_2, c213_2, e213, hx213_0, hx213_1, hx213_2, hl213_1, hi213_1, hl213_2, hi213_2⟩ := at_T25 (Kd.N_reads' HO_3.out).2.2 x4_1 p213 q213
            cases e213
            obtain ⟨ce213, hce213, hMe213, hcc213⟩ := Kd.N_get HO_3.out z25 x4_1 p213 (by first | exact q213 | exact of_decide_eq_true (by first | (with_reducible assumption) | assumption) | (have e_ := (Kd.N_reads' HO_3.out).1; omega))
            obtain ⟨ua213_1, uc213_1, ua213_2, uc213_2, rfl, ul213_1, ge213_1, ul213_2, ge213_2⟩ := k25_openF hMe213
            have hv213_1 := hcc213 1 _ rfl
            rw [add_field _ _ 1 (by omega)] at hv213_1
            replace hv213_1 := Option.some.inj (hv213_1.symm.trans hx213_1)
            injection hv213_1 with hva_ hvn_ hvc_
            rw [hva_] at ge213_1
            rw [hvc_] at ul213_1
            have HL213_1 := Aside0.mk (show Kd.V k45 45 _ w.heap.size _ _ ((rd_T25 t210 x4_1).f1) from Kd.V_mk ul213_1 ge213_1)
            clear hva_ hvn_ hvc_ ge213_1 ul213_1
            have hv213_2 := hcc213 2 _ rfl
            rw [add_field _ _ 2 (by omega)] at hv213_2
            replace hv213_2 := Option.some.inj (hv213_2.symm.trans hx213_2)
            injection hv213_2 with hva_ hvn_ hvc_
            rw [hva_] at ge213_2
            rw [hvc_] at ul213_2
            have HL213_2 := Aside0.mk (show Kd.V k25 25 _ w.heap.size _ _ ((rd_T25 t210 x4_1).f2) from Kd.V_mk ul213_2 ge213_2)
            clear hva_ hvn_ hvc_ ge213_2 ul213_2
            clear hcc213 hce213
            have HR213_1 := Aside0.mk hi213_1
            have HC213_1 := Aside0.mk hl213_1
            clear hi213_1 hl213_1
            have HR213_2 := Aside0.mk hi213_2
            have HC213_2 := Aside0.mk hl213_2
            clear hi213_2 hl213_2
            replace p213 := eq_true p213
            replace q213 := eq_true q213
            go_wp2_with (first | ((with_reducible refine gate_callee (f := 44) rfl ?_); refine goesL_ (some 20) rfl rfl Try.func44 (by kernel_rfl) rfl #[.agg #[.string ((rd_T25 t210 x4_1).f0), .slice A213_1 ((rd_T25 t210 x4_1).f1).length c213_1, .slice A213_2 ((rd_T25 t210 x4_1).f2).length c213_2], .string (⟨#[79, 82, 71, 65, 78, 73, 90, 69, 82]⟩ : ByteArray)] rfl (by (try simp only [List.map_toArray, List.map_cons, List.map_nil]); first | done | rfl | (simp only [List.length_drop, List.length_take]; rfl)) ?_; (with_reducible refine (almanacref12_Prop.calls k1 ((rd_T25 t210 x4_1).f0) (fun k_ => (k_ ≠ gb209 ∧ some k_ ≠ (.slice (some ad213) t210.length co10 : Value).ownBlock)) _ _ ((rd_T25 t210 x4_1).f1) _ _ ((rd_T25 t210 x4_1).f2) (⟨#[79, 82, 71, 65, 78, 73, 90, 69, 82]⟩ : ByteArray) t214 t215 t218 true _ ?side1 ?side2 ?side3 A8.out).mono ?_); (case side1 => exact HL213_1.out); (case side2 => repeat (first | exact (by repeat (first | (with_reducible exact HR213_2.out) | (with_reducible refine Kd.C_alloc ?_ _) | (with_reducible refine Kd.C_drewN ?_ _) | (with_reducible refine Kd.C_drew ?_) | exact HR213_2.out)) | (with_reducible refine Kd.C_alloc ?_ _) | (with_reducible refine Kd.C_drewN ?_ _) | (with_reducible refine Kd.C_drew ?_))); (case side3 => exact HC213_2.out); rintro e w11 ⟨v216, rfl, ho0, hb⟩; refine ⟨_, rfl, ?_⟩; have n0_ := Aside0.mk (Kd.N_below (by (with_reducible repeat (first | apply Kd.N_alloc | apply Kd.N_drewN | apply Kd.N_drew)); exact HO_3.out) hb); have n1_ := Aside0.mk (Kd.V_below (by (with_reducible repeat (first | apply Kd.V_alloc | apply Kd.V_drewN | apply Kd.V_drew)); exact HL213_1.out) hb); have n2_ := Aside0.mk (Kd.V_below (by (with_reducible repeat (first | apply Kd.V_alloc | apply Kd.V_drewN | apply Kd.V_drew)); exact HL213_2.out) hb); have n3_ := Aside0.mk (Kd.V_lower (Kd.V_mono (ok' := fun k_ => some k_ ≠ (.slice (some ad213) t210.length co10 : Value).ownBlock ∧ k_ ≠ gb209) ho0 (fun k_ hk_ => ⟨Or.elim hk_ (fun hs_ => hs_.2) (fun hn_ => (Kd.fresh' (Kd.N_lt (by (with_reducible repeat (first | apply Kd.N_alloc | apply Kd.N_drewN | apply Kd.N_drew)); exact HO_3.out)) k_ hn_)), Or.elim hk_ (fun hs_ => hs_.1) (fun hn_ => (Kd.freshB (g := gb209) (o := .cells #[.string a0_0, .slice A0_1 l0_1.length c0_1, .slice A0_2 l0_2.length c0_2] 25 (0, 0)) (by (with_reducible repeat (first | refine blk_drewN ?_ _ | refine blk_drew ?_ | refine blk_alloc ?_ _)); exact BK209.out) k_ hn_))⟩)) (below_size (by repeat (first | (with_reducible first | exact HB.out | apply below_alloc | apply pw_below_drewN | apply below_drew1 | refine below_set ?_ GE209.out) | exact HB.out)))); have n4_ := Aside0.mk (blk_below (g := gb209) (o := .cells #[.string a0_0, .slice A0_1 l0_1.length c0_1, .slice A0_2 l0_2.length c0_2] 25 (0, 0)) (by (with_reducible repeat (first | refine blk_drewN ?_ _ | refine blk_drew ?_ | refine blk_alloc ?_ _)); exact BK209.out) hb); have n5_ := Aside0.mk (Kd.C_below (by repeat (first | (with_reducible exact HR213_1.out) | (with_reducible refine Kd.C_alloc ?_ _) | (with_reducible refine Kd.C_drewN ?_ _) | (with_reducible refine Kd.C_drew ?_) | exact HR213_1.out)) hb); have n6_ := Aside0.mk (Kd.C_below (by repeat (first | (with_reducible exact HR213_2.out) | (with_reducible refine Kd.C_alloc ?_ _) | (with_reducible refine Kd.C_drewN ?_ _) | (with_reducible refine Kd.C_drew ?_) | exact HR213_2.out)) hb); have n7_ := Aside0.mk (below_step (by repeat (first | (with_reducible first | exact HB.out | apply below_alloc | apply pw_below_drewN | apply below_drew1 | refine below_set ?_ GE209.out) | exact HB.out)) hb); clear HO_3; clear HL213_1; clear HL213_2; clear BK209; clear HR213_1; clear HR213_2; clear HB; have HO_3 := n0_; have HL213_1 := n1_; have HL213_2 := n2_; have HO217 := n3_; have BK209 := n4_; have HR213_1 := n5_; have HR213_2 := n6_; have HB := n7_; clear n0_ n1_ n2_ n3_ n4_ n5_ n6_ n7_; (try clear hb); (try clear hb2); (try clear hk); (try clear hi); (try clear ho0)) | ((with_reducible refine gate_dst (N := 5) rfl ?_); refine box_event ?hg (N := 5) ?hd (cs := #[.string (⟨#[]⟩ : ByteArray), .slice none 0 0, .string (⟨#[]⟩ : ByteArray)]) (t := 45) ?hr ?_; (case hd => rfl); (case hg => rfl); (case hr => first | (go_simp; done) | (go_simp; rfl)); intro gb220 hg w12 hbox hb; have n0_ := Aside0.mk (Kd.N_below (Kd.N_elderB (by (with_reducible repeat (first | apply Kd.N_alloc | apply Kd.N_drewN | apply Kd.N_drew)); exact HO_3.out) gb220 (Nat.le_of_eq hg.symm)) hb); have n1_ := Aside0.mk (Kd.V_below (Kd.V_elderB (by (with_reducible repeat (first | apply Kd.V_alloc | apply Kd.V_drewN | apply Kd.V_drew)); exact HL213_1.out) gb220 (Nat.le_of_eq hg.symm)) hb); have n2_ := Aside0.mk (Kd.V_below (Kd.V_elderB (by (with_reducible repeat (first | apply Kd.V_alloc | apply Kd.V_drewN | apply Kd.V_drew)); exact HL213_2.out) gb220 (Nat.le_of_eq hg.symm)) hb); have n3_ := Aside0.mk (Kd.V_below (Kd.V_elderB (by (with_reducible repeat (first | apply Kd.V_alloc | apply Kd.V_drewN | apply Kd.V_drew)); exact HO217.out) gb220 (Nat.le_of_eq hg.symm)) hb); have n4_ := Aside0.mk (blk_below (g := gb209) (o := .cells #[.string a0_0, .slice A0_1 l0_1.length c0_1, .slice A0_2 l0_2.length c0_2] 25 (0, 0)) (by (with_reducible repeat (first | refine blk_drewN ?_ _ | refine blk_drew ?_ | refine blk_alloc ?_ _)); exact BK209.out) hb); have n5_ := Aside0.mk (Kd.C_below (by repeat (first | (with_reducible exact HR213_1.out) | (with_reducible refine Kd.C_alloc ?_ _) | (with_reducible refine Kd.C_drewN ?_ _) | (with_reducible refine Kd.C_drew ?_) | exact HR213_1.out)) hb); have n6_ := Aside0.mk (Kd.C_below (by repeat (first | (with_reducible exact HR213_2.out) | (with_reducible refine Kd.C_alloc ?_ _) | (with_reducible refine Kd.C_drewN ?_ _) | (with_reducible refine Kd.C_drew ?_) | exact HR213_2.out)) hb); have n7_ := Aside0.mk (below_step (by repeat (first | (with_reducible first | exact HB.out | apply below_alloc | apply pw_below_drewN | apply below_drew1 | refine below_set ?_ GE209.out) | exact HB.out)) hb); have n8_ := Aside0.mk (hbox); have n9_ := Aside0.mk ((by rw [hg]; exact (below_size (by repeat (first | (with_reducible first | exact HB.out | apply below_alloc | apply pw_below_drewN | apply below_drew1 | refine below_set ?_ GE209.out) | exact HB.out))) : w.heap.size ≤ gb220)); have n10_ := Aside0.mk ((by rw [hg]; exact (below_size (by repeat (first | (with_reducible first | exact HB.out | apply below_alloc | apply pw_below_drewN | apply below_drew1 | refine below_set ?_ GE209.out) | exact HB.out))) : w.heap.size ≤ gb220)); have n11_ := Aside0.mk ((by rw [hg]; exact Nat.ne_of_lt (blk_lt (g := gb209) (o := .cells #[.string a0_0, .slice A0_1 l0_1.length c0_1, .slice A0_2 l0_2.length c0_2] 25 (0, 0)) (by (with_reducible repeat (first | refine blk_drewN ?_ _ | refine blk_drew ?_ | refine blk_alloc ?_ _)); exact BK209.out)) : gb209 ≠ gb220)); have n12_ := Aside0.mk ((by rw [hg]; exact Nat.ne_of_gt (blk_lt (g := gb209) (o := .cells #[.string a0_0, .slice A0_1 l0_1.length c0_1, .slice A0_2 l0_2.length c0_2] 25 (0, 0)) (by (with_reducible repeat (first | refine blk_drewN ?_ _ | refine blk_drew ?_ | refine blk_alloc ?_ _)); exact BK209.out)) : gb220 ≠ gb209)); clear HO_3; clear HL213_1; clear HL213_2; clear HO217; clear BK209; clear HR213_1; clear HR213_2; clear HB; have HO_3 := n0_; have HL213_1 := n1_; have HL213_2 := n2_; have HO217 := n3_; have BK209 := n4_; have HR213_1 := n5_; have HR213_2 := n6_; have HB := n7_; have BK220 := n8_; have GW220 := n9_; have GE220 := n10_; have NB209_220 := n11_; have NB220_209 := n12_; clear n0_ n1_ n2_ n3_ n4_ n5_ n6_ n7_ n8_ n9_ n10_ n11_ n12_; clear hb hbox hg; have hnb13 := NB220_209.out; have hnc13 := NB209_220.out; have hcz14_0 : w12.cell? ⟨gb220, 0, none⟩ = some (.string (⟨#[]⟩ : ByteArray)) := (blk_cell BK220.out 0).trans rfl; have hcz14_1 : w12.cell? ⟨gb220, 1, none⟩ = some (.slice none 0 0) := (blk_cell BK220.out 1).trans rfl; have hcz14_2 : w12.cell? ⟨gb220, 2, none⟩ = some (.string (⟨#[]⟩ : ByteArray)) := (blk_cell BK220.out 2).trans rfl; have hfz14_0 := blk_frozen BK220.out 0; have hfz14_1 := blk_frozen BK220.out 1; have hfz14_2 := blk_frozen BK220.out 2; obtain ⟨Ao15, co15, eo15⟩ := Kd.V_slice HO217.out; subst eo15))
            go_ret
            exact ⟨by first | rfl | (simp [errW_none, errW_some] <;> rfl) | (simp [*, errW_none, errW_some] <;> rfl), by repeat (first | (with_reducible first | exact HB.out | apply below_alloc | apply pw_below_drewN | apply below_drew1 | refine below_set ?_ GE209.out | refine below_set ?_ GE220.out) | exact HB.out)⟩
          · replace c9 := Bool.eq_false_iff.mpr c9
            subst c9
            have H1 : (almanacref26_Organizer.l0 k1 t210 (wrap64 (x4_1 + 1))) = some r := by rw [if_neg (show ¬ (false = true) by decide)] at H; exact H
            clear H
            have H := H1
            clear H1
            have H' := Aside0.mk H
            clear H
            obtain ⟨Ao16, co16, eo16⟩ := Kd.N_slice HO_3.out
            subst eo16
            have p213 : 0 ≤ (x4_1 : Int) := of_decide_eq_true (by first | (with_reducible assumption) | assumption)
            have q213 : x4_1 < (t210.length : Int) := of_decide_eq_true (by first | (with_reducible assumption) | assumption)
            obtain ⟨ad213, A213_1, c213_1, A213_2, c213_2, e213, hx213_0, hx213_1, hx213_2, hl213_1, hi213_1, hl213_2, hi213_2⟩ := at_T25 (Kd.N_reads' HO_3.out).2.2 x4_1 p213 q213
            cases e213
            obtain ⟨ce213, hce213, hMe213, hcc213⟩ := Kd.N_get HO_3.out z25 x4_1 p213 (by first | exact q213 | exact of_decide_eq_true (by first | (with_reducible assumption) | assumption) | (have e_ := (Kd.N_reads' HO_3.out).1; omega))
            obtain ⟨ua213_1, uc213_1, ua213_2, uc213_2, rfl, ul213_1, ge213_1, ul213_2, ge213_2⟩ := k25_openF hMe213
            have hv213_1 := hcc213 1 _ rfl
            rw [add_field _ _ 1 (by omega)] at hv213_1
            replace hv213_1 := Option.some.inj (hv213_1.symm.trans hx213_1)
            injection hv213_1 with hva_ hvn_ hvc_
            rw [hva_] at ge213_1
            rw [hvc_] at ul213_1
            have HL213_1 := Aside0.mk (show Kd.V k45 45 _ w.heap.size _ _ ((rd_T25 t210 x4_1).f1) from Kd.V_mk ul213_1 ge213_1)
            clear hva_ hvn_ hvc_ ge213_1 ul213_1
            have hv213_2 := hcc213 2 _ rfl
            rw [add_field _ _ 2 (by omega)] at hv213_2
            replace hv213_2 := Option.some.inj (hv213_2.symm.trans hx213_2)
            injection hv213_2 with hva_ hvn_ hvc_
            rw [hva_] at ge213_2
            rw [hvc_] at ul213_2
            have HL213_2 := Aside0.mk (show Kd.V k25 25 _ w.heap.size _ _ ((rd_T25 t210 x4_1).f2) from Kd.V_mk ul213_2 ge213_2)
            clear hva_ hvn_ hvc_ ge213_2 ul213_2
            clear hcc213 hce213
            have HR213_1 := Aside0.mk hi213_1
            have HC213_1 := Aside0.mk hl213_1
            clear hi213_1 hl213_1
            have HR213_2 := Aside0.mk hi213_2
            have HC213_2 := Aside0.mk hl213_2
            clear hi213_2 hl213_2
            replace p213 := eq_true p213
            replace q213 := eq_true q213
            go_wp2_with (first | ((with_reducible refine gate_callee (f := 44) rfl ?_); refine goesL_ (some 20) rfl rfl Try.func44 (by kernel_rfl) rfl #[.agg #[.string ((rd_T25 t210 x4_1).f0), .slice A213_1 ((rd_T25 t210 x4_1).f1).length c213_1, .slice A213_2 ((rd_T25 t210 x4_1).f2).length c213_2], .string (⟨#[79, 82, 71, 65, 78, 73, 90, 69, 82]⟩ : ByteArray)] rfl (by (try simp only [List.map_toArray, List.map_cons, List.map_nil]); first | done | rfl | (simp only [List.length_drop, List.length_take]; rfl)) ?_; (with_reducible refine (almanacref12_Prop.calls k1 ((rd_T25 t210 x4_1).f0) (fun k_ => (k_ ≠ gb209 ∧ some k_ ≠ (.slice (some ad213) t210.length co16 : Value).ownBlock)) _ _ ((rd_T25 t210 x4_1).f1) _ _ ((rd_T25 t210 x4_1).f2) (⟨#[79, 82, 71, 65, 78, 73, 90, 69, 82]⟩ : ByteArray) t214 t215 t218 false _ ?side1 ?side2 ?side3 A8.out).mono ?_); (case side1 => exact HL213_1.out); (case side2 => repeat (first | exact (by repeat (first | (with_reducible exact HR213_2.out) | (with_reducible refine Kd.C_alloc ?_ _) | (with_reducible refine Kd.C_drewN ?_ _) | (with_reducible refine Kd.C_drew ?_) | exact HR213_2.out)) | (with_reducible refine Kd.C_alloc ?_ _) | (with_reducible refine Kd.C_drewN ?_ _) | (with_reducible refine Kd.C_drew ?_))); (case side3 => exact HC213_2.out); rintro e w17 ⟨v216, rfl, ho0, hb⟩; refine ⟨_, rfl, ?_⟩; have n0_ := Aside0.mk (Kd.N_below (by (with_reducible repeat (first | apply Kd.N_alloc | apply Kd.N_drewN | apply Kd.N_drew)); exact HO_3.out) hb); have n1_ := Aside0.mk (Kd.V_below (by (with_reducible repeat (first | apply Kd.V_alloc | apply Kd.V_drewN | apply Kd.V_drew)); exact HL213_1.out) hb); have n2_ := Aside0.mk (Kd.V_below (by (with_reducible repeat (first | apply Kd.V_alloc | apply Kd.V_drewN | apply Kd.V_drew)); exact HL213_2.out) hb); have n3_ := Aside0.mk (Kd.V_lower (Kd.V_mono (ok' := fun k_ => some k_ ≠ (.slice (some ad213) t210.length co16 : Value).ownBlock ∧ k_ ≠ gb209) ho0 (fun k_ hk_ => ⟨Or.elim hk_ (fun hs_ => hs_.2) (fun hn_ => (Kd.fresh' (Kd.N_lt (by (with_reducible repeat (first | apply Kd.N_alloc | apply Kd.N_drewN | apply Kd.N_drew)); exact HO_3.out)) k_ hn_)), Or.elim hk_ (fun hs_ => hs_.1) (fun hn_ => (Kd.freshB (g := gb209) (o := .cells #[.string a0_0, .slice A0_1 l0_1.length c0_1, .slice A0_2 l0_2.length c0_2] 25 (0, 0)) (by (with_reducible repeat (first | refine blk_drewN ?_ _ | refine blk_drew ?_ | refine blk_alloc ?_ _)); exact BK209.out) k_ hn_))⟩)) (below_size (by repeat (first | (with_reducible first | exact HB.out | apply below_alloc | apply pw_below_drewN | apply below_drew1 | refine below_set ?_ GE209.out) | exact HB.out)))); have n4_ := Aside0.mk (blk_below (g := gb209) (o := .cells #[.string a0_0, .slice A0_1 l0_1.length c0_1, .slice A0_2 l0_2.length c0_2] 25 (0, 0)) (by (with_reducible repeat (first | refine blk_drewN ?_ _ | refine blk_drew ?_ | refine blk_alloc ?_ _)); exact BK209.out) hb); have n5_ := Aside0.mk (Kd.C_below (by repeat (first | (with_reducible exact HR213_1.out) | (with_reducible refine Kd.C_alloc ?_ _) | (with_reducible refine Kd.C_drewN ?_ _) | (with_reducible refine Kd.C_drew ?_) | exact HR213_1.out)) hb); have n6_ := Aside0.mk (Kd.C_below (by repeat (first | (with_reducible exact HR213_2.out) | (with_reducible refine Kd.C_alloc ?_ _) | (with_reducible refine Kd.C_drewN ?_ _) | (with_reducible refine Kd.C_drew ?_) | exact HR213_2.out)) hb); have n7_ := Aside0.mk (below_step (by repeat (first | (with_reducible first | exact HB.out | apply below_alloc | apply pw_below_drewN | apply below_drew1 | refine below_set ?_ GE209.out) | exact HB.out)) hb); clear HO_3; clear HL213_1; clear HL213_2; clear BK209; clear HR213_1; clear HR213_2; clear HB; have HO_3 := n0_; have HL213_1 := n1_; have HL213_2 := n2_; have HO217 := n3_; have BK209 := n4_; have HR213_1 := n5_; have HR213_2 := n6_; have HB := n7_; clear n0_ n1_ n2_ n3_ n4_ n5_ n6_ n7_; (try clear hb); (try clear hb2); (try clear hk); (try clear hi); (try clear ho0)) | ((with_reducible refine gate_dst (N := 5) rfl ?_); refine box_event ?hg (N := 5) ?hd (cs := #[.string (⟨#[]⟩ : ByteArray), .slice none 0 0, .string (⟨#[]⟩ : ByteArray)]) (t := 45) ?hr ?_; (case hd => rfl); (case hg => rfl); (case hr => first | (go_simp; done) | (go_simp; rfl)); intro gb220 hg w18 hbox hb; have n0_ := Aside0.mk (Kd.N_below (Kd.N_elderB (by (with_reducible repeat (first | apply Kd.N_alloc | apply Kd.N_drewN | apply Kd.N_drew)); exact HO_3.out) gb220 (Nat.le_of_eq hg.symm)) hb); have n1_ := Aside0.mk (Kd.V_below (Kd.V_elderB (by (with_reducible repeat (first | apply Kd.V_alloc | apply Kd.V_drewN | apply Kd.V_drew)); exact HL213_1.out) gb220 (Nat.le_of_eq hg.symm)) hb); have n2_ := Aside0.mk (Kd.V_below (Kd.V_elderB (by (with_reducible repeat (first | apply Kd.V_alloc | apply Kd.V_drewN | apply Kd.V_drew)); exact HL213_2.out) gb220 (Nat.le_of_eq hg.symm)) hb); have n3_ := Aside0.mk (Kd.V_below (Kd.V_elderB (by (with_reducible repeat (first | apply Kd.V_alloc | apply Kd.V_drewN | apply Kd.V_drew)); exact HO217.out) gb220 (Nat.le_of_eq hg.symm)) hb); have n4_ := Aside0.mk (blk_below (g := gb209) (o := .cells #[.string a0_0, .slice A0_1 l0_1.length c0_1, .slice A0_2 l0_2.length c0_2] 25 (0, 0)) (by (with_reducible repeat (first | refine blk_drewN ?_ _ | refine blk_drew ?_ | refine blk_alloc ?_ _)); exact BK209.out) hb); have n5_ := Aside0.mk (Kd.C_below (by repeat (first | (with_reducible exact HR213_1.out) | (with_reducible refine Kd.C_alloc ?_ _) | (with_reducible refine Kd.C_drewN ?_ _) | (with_reducible refine Kd.C_drew ?_) | exact HR213_1.out)) hb); have n6_ := Aside0.mk (Kd.C_below (by repeat (first | (with_reducible exact HR213_2.out) | (with_reducible refine Kd.C_alloc ?_ _) | (with_reducible refine Kd.C_drewN ?_ _) | (with_reducible refine Kd.C_drew ?_) | exact HR213_2.out)) hb); have n7_ := Aside0.mk (below_step (by repeat (first | (with_reducible first | exact HB.out | apply below_alloc | apply pw_below_drewN | apply below_drew1 | refine below_set ?_ GE209.out) | exact HB.out)) hb); have n8_ := Aside0.mk (hbox); have n9_ := Aside0.mk ((by rw [hg]; exact (below_size (by repeat (first | (with_reducible first | exact HB.out | apply below_alloc | apply pw_below_drewN | apply below_drew1 | refine below_set ?_ GE209.out) | exact HB.out))) : w.heap.size ≤ gb220)); have n10_ := Aside0.mk ((by rw [hg]; exact (below_size (by repeat (first | (with_reducible first | exact HB.out | apply below_alloc | apply pw_below_drewN | apply below_drew1 | refine below_set ?_ GE209.out) | exact HB.out))) : w.heap.size ≤ gb220)); have n11_ := Aside0.mk ((by rw [hg]; exact Nat.ne_of_lt (blk_lt (g := gb209) (o := .cells #[.string a0_0, .slice A0_1 l0_1.length c0_1, .slice A0_2 l0_2.length c0_2] 25 (0, 0)) (by (with_reducible repeat (first | refine blk_drewN ?_ _ | refine blk_drew ?_ | refine blk_alloc ?_ _)); exact BK209.out)) : gb209 ≠ gb220)); have n12_ := Aside0.mk ((by rw [hg]; exact Nat.ne_of_gt (blk_lt (g := gb209) (o := .cells #[.string a0_0, .slice A0_1 l0_1.length c0_1, .slice A0_2 l0_2.length c0_2] 25 (0, 0)) (by (with_reducible repeat (first | refine blk_drewN ?_ _ | refine blk_drew ?_ | refine blk_alloc ?_ _)); exact BK209.out)) : gb220 ≠ gb209)); clear HO_3; clear HL213_1; clear HL213_2; clear HO217; clear BK209; clear HR213_1; clear HR213_2; clear HB; have HO_3 := n0_; have HL213_1 := n1_; have HL213_2 := n2_; have HO217 := n3_; have BK209 := n4_; have HR213_1 := n5_; have HR213_2 := n6_; have HB := n7_; have BK220 := n8_; have GW220 := n9_; have GE220 := n10_; have NB209_220 := n11_; have NB220_209 := n12_; clear n0_ n1_ n2_ n3_ n4_ n5_ n6_ n7_ n8_ n9_ n10_ n11_ n12_; clear hb hbox hg; have hnb19 := NB220_209.out; have hnc19 := NB209_220.out; have hcz20_0 : w18.cell? ⟨gb220, 0, none⟩ = some (.string (⟨#[]⟩ : ByteArray)) := (blk_cell BK220.out 0).trans rfl; have hcz20_1 : w18.cell? ⟨gb220, 1, none⟩ = some (.slice none 0 0) := (blk_cell BK220.out 1).trans rfl; have hcz20_2 : w18.cell? ⟨gb220, 2, none⟩ = some (.string (⟨#[]⟩ : ByteArray)) := (blk_cell BK220.out 2).trans rfl; have hfz20_0 := blk_frozen BK220.out 0; have hfz20_1 := blk_frozen BK220.out 1; have hfz20_2 := blk_frozen BK220.out 2; obtain ⟨Ao21, co21, eo21⟩ := Kd.V_slice HO217.out; subst eo21))
            go_roundg k1
            case measure => have := HK1.out; omega
            case rel => exact ⟨(wrap64 (x4_1 + 1)), (by first | rfl | (simp; done) | (simp [*]; done)), H', ⟨by have := HK1.out; omega⟩, ⟨by (with_reducible repeat (first | apply Kd.N_alloc | apply Kd.N_drewN | apply Kd.N_drew)); exact Kd.N_mono (Kd.N_far (p := ⟨gb220, 2, none⟩) (Kd.N_far (p := ⟨gb220, 1, none⟩) (Kd.N_far (p := ⟨gb220, 0, none⟩) (Kd.N_mono HO_3.out (fun k_ hk => (⟨hk, hk.2⟩ : _ ∧ k_ ≠ gb220))) (fun _ hk => hk.2) (.string t214)) (fun _ hk => hk.2) (.slice Ao21 t215.length co21)) (fun _ hk => hk.2) (.string t218)) (fun _ hk => hk.1.1)⟩, ⟨by (with_reducible repeat (first | refine blk_drewN ?_ _ | refine blk_drew ?_ | refine blk_alloc ?_ _)); refine blk_far ?_ NB209_220.out _; (with_reducible repeat (first | refine blk_drewN ?_ _ | refine blk_drew ?_ | refine blk_alloc ?_ _)); refine blk_far ?_ NB209_220.out _; (with_reducible repeat (first | refine blk_drewN ?_ _ | refine blk_drew ?_ | refine blk_alloc ?_ _)); refine blk_far ?_ NB209_220.out _; (with_reducible repeat (first | refine blk_drewN ?_ _ | refine blk_drew ?_ | refine blk_alloc ?_ _)); exact BK209.out⟩, ⟨by repeat (first | (with_reducible first | exact HB.out | apply below_alloc | apply pw_below_drewN | apply below_drew1 | refine below_set ?_ GE209.out | refine below_set ?_ GE220.out) | exact HB.out)⟩⟩
        · rw [if_neg c7] at H
          exact absurd H (by simp)
      · rw [if_neg c6] at H
        have c6b0 : decide (x4_1 < (t210.length : Int)) = false := decide_eq_false c6
        clear c6
        obtain rfl := Option.some.inj H
        obtain ⟨Ao22, co22, eo22⟩ := Kd.N_slice HO_3.out
        subst eo22
        go_wp2
        go_ret
        exact ⟨by first | rfl | (simp [errW_none, errW_some] <;> rfl) | (simp [*, errW_none, errW_some] <;> rfl), by repeat (first | (with_reducible first | exact HB.out | apply below_alloc | apply pw_below_drewN | apply below_drew1 | refine below_set ?_ GE209.out) | exact HB.out)⟩
end Go.Proofs.Ytebmbfobmakheaa.PD
namespace Go.Proofs.Ytebmbfobmakheaa.PD
open Go.RowKit Go.Proofs.YtebmbfobmakheaaW.PrintWords Go.Proofs.YtebmbfobmakheaaW.PrintLast Go.Proofs.YtebmbfobmakheaaW.PrintMore
attribute [local go_sem] isSome_setCell max2_int min2_int max_two min_two max_three min_three max_four min_four
set_option linter.unusedVariables false
set_option linter.unusedSimpArgs false
def almanacref26_In.l0 : Nat → List ByteArray → ByteArray → Int → Option (Bool)
  | 0, _, _, _ => none
  | k + 1, x0, x1, x5 => if x5 < (x0.length : Int) then (if 0 ≤ x5 then ((almanacref26_Alike.f k (rdOf ByteArray.empty x0 x5) x1).bind fun t226 => (if t226 = true then (some true) else (almanacref26_In.l0 k x0 x1 (wrap64 (x5 + 1))))) else (none)) else (some false)
def almanacref26_In.f (k : Nat) (l0 : List ByteArray) (a1 : ByteArray) : Option (Bool) := almanacref26_In.l0 k l0 a1 0
set_option maxHeartbeats 8000000 in
set_option maxRecDepth 100000 in
theorem almanacref26_In.calls (k : Nat) (A0 : Option Addr) (c0 : Nat) (l0 : List ByteArray) (a1 : ByteArray) (r : Bool) (w : World) (hr0 : Kd.C Kd.string w A0 l0.length l0) (hc0 : l0.length ≤ c0) (h : almanacref26_In.f k l0 a1 = some r) :
    Calls Try.prog 50 #[.slice A0 l0.length c0, .string a1] w fun e w' => e = .returned (.bool r) ∧ Below w.heap.size w w' := by
  have HR0 := Aside0.mk hr0
  have HC0 := Aside0.mk hc0
  clear hr0 hc0
  have HB := Aside0.mk (Below.refl w.heap.size w)
  have H : (almanacref26_In.l0 k l0 a1 0) = some r := h
  clear h
  have H' := Aside0.mk H
  clear H
  go_enter Try.func50, Try.ntmps50
  go_wp2
  go_loopg [5] k (fun kq v5 w' => ∃ (x5_1 : Int), v5 = .int .i64 x5_1 ∧ Aside0 (almanacref26_In.l0 kq l0 a1 x5_1 = some r) ∧ Aside0 (kq ≤ k) ∧ Aside0 (Below w.heap.size w w'))
  case atStart => exact ⟨(0), (by first | rfl | (simp; done) | (simp [*]; done)), H', ⟨Nat.le_refl _⟩, ⟨by repeat (first | (with_reducible first | exact HB.out | apply below_alloc | apply pw_below_drewN | apply below_drew1) | exact HB.out)⟩⟩
  case round =>
    clear H'
    try clear p2
    obtain ⟨x5_1, rfl, HA, HK1, HB⟩ := hrel
    cases gk with
    | zero => exact absurd HA.out (by simp [almanacref26_In.l0])
    | succ k1 =>
      have H := HA.out
      clear HA
      simp only [almanacref26_In.l0] at H
      by_cases c3 : x5_1 < (l0.length : Int)
      · rw [if_pos c3] at H
        have c3b0 : decide (x5_1 < (l0.length : Int)) = true := decide_eq_true c3
        clear c3
        by_cases c4 : 0 ≤ x5_1
        · rw [if_pos c4] at H
          have c4b0 : decide (0 ≤ x5_1) = true := decide_eq_true c4
          clear c4
          replace H := Option.bind_eq_some_iff.mp H
          obtain ⟨t226, A50, H⟩ := H
          replace H : (if t226 = true then (some true) else (almanacref26_In.l0 k1 l0 a1 (wrap64 (x5_1 + 1)))) = some r := H
          have A5 := Aside0.mk A50
          clear A50
          by_cases c6 : t226 = true
          · subst c6
            have H1 : (some true) = some r := by rw [if_pos rfl] at H; exact H
            clear H
            have H := H1
            clear H1
            obtain rfl := Option.some.inj H
            have p225 : 0 ≤ (x5_1 : Int) := of_decide_eq_true (by first | (with_reducible assumption) | assumption)
            have q225 : x5_1 < (l0.length : Int) := of_decide_eq_true (by first | (with_reducible assumption) | assumption)
            obtain ⟨ad225, e225, hx225_0⟩ := Kd.at_string HR0.out x5_1 p225 q225
            cases e225
            replace hx225_0 := (HB.out.cell (World.block_lt_of_cell? w _ hx225_0)).trans hx225_0
            replace p225 := eq_true p225
            replace q225 := eq_true q225
            go_wp2_with (first | ((with_reducible refine gate_callee (f := 69) rfl ?_); refine goesL_ (some 17) rfl rfl Try.func69 (by kernel_rfl) rfl #[.string (rdOf ByteArray.empty l0 x5_1), .string a1] rfl (by (try simp only [List.map_toArray, List.map_cons, List.map_nil]); first | done | rfl | (simp only [List.length_drop, List.length_take]; rfl)) ?_; (with_reducible refine (almanacref26_Alike.calls k1 (rdOf ByteArray.empty l0 x5_1) a1 true _ A5.out).mono ?_); rintro e w7 ⟨rfl, hb⟩; refine ⟨_, rfl, ?_⟩; have n0_ := Aside0.mk (below_step (by repeat (first | (with_reducible first | exact HB.out | apply below_alloc | apply pw_below_drewN | apply below_drew1) | exact HB.out)) hb); clear HB; have HB := n0_; clear n0_; (try clear hb); (try clear hb2); (try clear hk); (try clear hi)))
            go_ret
            exact ⟨by first | rfl | (simp [errW_none, errW_some] <;> rfl) | (simp [*, errW_none, errW_some] <;> rfl), by repeat (first | (with_reducible first | exact HB.out | apply below_alloc | apply pw_below_drewN | apply below_drew1) | exact HB.out)⟩
          · replace c6 := Bool.eq_false_iff.mpr c6
            subst c6
            have H1 : (almanacref26_In.l0 k1 l0 a1 (wrap64 (x5_1 + 1))) = some r := by rw [if_neg (show ¬ (false = true) by decide)] at H; exact H
            clear H
            have H := H1
            clear H1
            have H' := Aside0.mk H
            clear H
            have p225 : 0 ≤ (x5_1 : Int) := of_decide_eq_true (by first | (with_reducible assumption) | assumption)
            have q225 : x5_1 < (l0.length : Int) := of_decide_eq_true (by first | (with_reducible assumption) | assumption)
            obtain ⟨ad225, e225, hx225_0⟩ := Kd.at_string HR0.out x5_1 p225 q225
            cases e225
            replace hx225_0 := (HB.out.cell (World.block_lt_of_cell? w _ hx225_0)).trans hx225_0
            replace p225 := eq_true p225
            replace q225 := eq_true q225
            go_wp2_with (first | ((with_reducible refine gate_callee (f := 69) rfl ?_); refine goesL_ (some 17) rfl rfl Try.func69 (by kernel_rfl) rfl #[.string (rdOf ByteArray.empty l0 x5_1), .string a1] rfl (by (try simp only [List.map_toArray, List.map_cons, List.map_nil]); first | done | rfl | (simp only [List.length_drop, List.length_take]; rfl)) ?_; (with_reducible refine (almanacref26_Alike.calls k1 (rdOf ByteArray.empty l0 x5_1) a1 false _ A5.out).mono ?_); rintro e w8 ⟨rfl, hb⟩; refine ⟨_, rfl, ?_⟩; have n0_ := Aside0.mk (below_step (by repeat (first | (with_reducible first | exact HB.out | apply below_alloc | apply pw_below_drewN | apply below_drew1) | exact HB.out)) hb); clear HB; have HB := n0_; clear n0_; (try clear hb); (try clear hb2); (try clear hk); (try clear hi)))
            go_roundg k1
            case measure => have := HK1.out; omega
            case rel => exact ⟨(wrap64 (x5_1 + 1)), (by first | rfl | (simp; done) | (simp [*]; done)), H', ⟨by have := HK1.out; omega⟩, ⟨by repeat (first | (with_reducible first | exact HB.out | apply below_alloc | apply pw_below_drewN | apply below_drew1) | exact HB.out)⟩⟩
        · rw [if_neg c4] at H
          exact absurd H (by simp)
      · rw [if_neg c3] at H
        have c3b0 : decide (x5_1 < (l0.length : Int)) = false := decide_eq_false c3
        clear c3
        obtain rfl := Option.some.inj H
        go_wp2
        go_ret
        exact ⟨by first | rfl | (simp [errW_none, errW_some] <;> rfl) | (simp [*, errW_none, errW_some] <;> rfl), by repeat (first | (with_reducible first | exact HB.out | apply below_alloc | apply pw_below_drewN | apply below_drew1) | exact HB.out)⟩
end Go.Proofs.Ytebmbfobmakheaa.PD
namespace Go.Proofs.Ytebmbfobmakheaa.PD
open Go.RowKit Go.Proofs.YtebmbfobmakheaaW.PrintWords Go.Proofs.YtebmbfobmakheaaW.PrintLast Go.Proofs.YtebmbfobmakheaaW.PrintMore
attribute [local go_sem] isSome_setCell max2_int min2_int max_two min_two max_three min_three max_four min_four
set_option linter.unusedVariables false
set_option linter.unusedSimpArgs false
mutual
def almanacref26_Attendees.l0 : Nat → List ByteArray → List (S25) → Int → Option (List ByteArray)
  | 0, _, _, _ => none
  | k + 1, x3, x4, x5 => if x5 < (x4.length : Int) then (if 0 ≤ x5 then ((almanacref12_Props.f k ((rd_T25 x4 x5).f0) ((rd_T25 x4 x5).f1) ((rd_T25 x4 x5).f2) (⟨#[65, 84, 84, 69, 78, 68, 69, 69]⟩ : ByteArray)).bind fun t232 => (almanacref26_Attendees.l1 k x3 x4 x5 t232 0)) else (none)) else (some x3)
def almanacref26_Attendees.l1 : Nat → List ByteArray → List (S25) → Int → List (S45) → Int → Option (List ByteArray)
  | 0, _, _, _, _, _ => none
  | k + 1, x3, x4, x5, x6, x7 => if x7 < (x6.length : Int) then (if 0 ≤ x7 then ((almanacref26_In.f k x3 ((rd_T45 x6 x7).f2)).bind fun t236 => (if t236 = true then (almanacref26_Attendees.l1 k x3 x4 x5 x6 (wrap64 (x7 + 1))) else (if x3.length < 8796093022208 then (almanacref26_Attendees.l1 k (x3 ++ [(rd_T45 x6 x7).f2]) x4 x5 x6 (wrap64 (x7 + 1))) else (none)))) else (none)) else (almanacref26_Attendees.l0 k x3 x4 (wrap64 (x5 + 1)))
end
def almanacref26_Attendees.f (k : Nat) (a0_0 : ByteArray) (l0_1 : List (S45)) (l0_2 : List (S25)) : Option (List ByteArray) := (almanacref17_Others.f k a0_0 l0_1 l0_2).bind fun t228 => (almanacref26_Attendees.l0 k ([] : List ByteArray) t228 0)
set_option maxHeartbeats 8000000 in
set_option maxRecDepth 100000 in
theorem almanacref26_Attendees.calls (k : Nat) (a0_0 : ByteArray) (A0_1 : Option Addr) (c0_1 : Nat) (l0_1 : List (S45)) (A0_2 : Option Addr) (c0_2 : Nat) (l0_2 : List (S25)) (r : List ByteArray) (w : World) (hr0_1 : Kd.C k45 w A0_1 l0_1.length l0_1) (hc0_1 : l0_1.length ≤ c0_1) (hr0_2 : Kd.C k25 w A0_2 l0_2.length l0_2) (hc0_2 : l0_2.length ≤ c0_2) (h : almanacref26_Attendees.f k a0_0 l0_1 l0_2 = some r) :
    Calls Try.prog 16 #[.agg #[.string a0_0, .slice A0_1 l0_1.length c0_1, .slice A0_2 l0_2.length c0_2]] w fun e w' => ∃ v0_ : Value, e = .returned (v0_) ∧ Kd.R Kd.string 9 w' w.heap.size (fun _ => True) v0_ r ∧ Below w.heap.size w w' := by
  have hu25 := Try.underlying25
  have HR0_1 := Aside0.mk hr0_1
  have HC0_1 := Aside0.mk hc0_1
  clear hr0_1 hc0_1
  have HR0_2 := Aside0.mk hr0_2
  have HC0_2 := Aside0.mk hc0_2
  clear hr0_2 hc0_2
  have HB := Aside0.mk (Below.refl w.heap.size w)
  have H : ((almanacref17_Others.f k a0_0 l0_1 l0_2).bind fun t228 => (almanacref26_Attendees.l0 k ([] : List ByteArray) t228 0)) = some r := h
  clear h
  replace H := Option.bind_eq_some_iff.mp H
  obtain ⟨t228, A20, H⟩ := H
  replace H : (almanacref26_Attendees.l0 k ([] : List ByteArray) t228 0) = some r := H
  have A2 := Aside0.mk A20
  clear A20
  have H' := Aside0.mk H
  clear H
  go_enter Try.func16, Try.ntmps16
  go_wp2_with (first | ((with_reducible refine gate_dst (N := 1) rfl ?_); refine box_event ?hg (N := 1) ?hd (cs := #[.string a0_0, .slice A0_1 l0_1.length c0_1, .slice A0_2 l0_2.length c0_2]) (t := 25) ?hr ?_; (case hd => rfl); (case hg => rfl); (case hr => first | (go_simp; done) | (go_simp; rfl)); intro gb227 hg w3 hbox hb; have n0_ := Aside0.mk (below_step (by repeat (first | (with_reducible first | exact HB.out | apply below_alloc | apply pw_below_drewN | apply below_drew1) | exact HB.out)) hb); have n1_ := Aside0.mk (hbox); have n2_ := Aside0.mk ((by rw [hg]; exact (below_size (by repeat (first | (with_reducible first | exact HB.out | apply below_alloc | apply pw_below_drewN | apply below_drew1) | exact HB.out))) : w.heap.size ≤ gb227)); have n3_ := Aside0.mk ((by rw [hg]; exact (below_size (by repeat (first | (with_reducible first | exact HB.out | apply below_alloc | apply pw_below_drewN | apply below_drew1) | exact HB.out))) : w.heap.size ≤ gb227)); clear HB; have HB := n0_; have BK227 := n1_; have GW227 := n2_; have GE227 := n3_; clear n0_ n1_ n2_ n3_; clear hb hbox hg; have hcz4_0 : w3.cell? ⟨gb227, 0, none⟩ = some (.string a0_0) := (blk_cell BK227.out 0).trans rfl; have hcz4_1 : w3.cell? ⟨gb227, 1, none⟩ = some (.slice A0_1 l0_1.length c0_1) := (blk_cell BK227.out 1).trans rfl; have hcz4_2 : w3.cell? ⟨gb227, 2, none⟩ = some (.slice A0_2 l0_2.length c0_2) := (blk_cell BK227.out 2).trans rfl; have hfz4_0 := blk_frozen BK227.out 0; have hfz4_1 := blk_frozen BK227.out 1; have hfz4_2 := blk_frozen BK227.out 2) | ((with_reducible refine gate_callee (f := 43) rfl ?_); refine goesL_ (some 9) rfl rfl Try.func43 (by kernel_rfl) rfl #[.agg #[.string a0_0, .slice A0_1 l0_1.length c0_1, .slice A0_2 l0_2.length c0_2]] rfl (by (try simp only [List.map_toArray, List.map_cons, List.map_nil]); first | done | rfl | (simp only [List.length_drop, List.length_take]; rfl)) ?_; (with_reducible refine (almanacref17_Others.calls k a0_0 _ _ l0_1 (fun k_ => k_ < w.heap.size) _ _ l0_2 t228 _ ?side1 ?side2 ?side3 A2.out).mono ?_); (case side1 => repeat (first | exact (Kd.C_below HR0_1.out HB.out) | (with_reducible refine Kd.C_alloc ?_ _) | (with_reducible refine Kd.C_drewN ?_ _) | (with_reducible refine Kd.C_drew ?_))); (case side2 => exact HC0_1.out); (case side3 => exact Kd.V_mk HC0_2.out (Kd.F_below (Kd.C_F k25_heap HR0_2.out) (by repeat (first | (with_reducible first | exact HB.out | apply below_alloc | apply pw_below_drewN | apply below_drew1 | refine below_set ?_ GE227.out) | exact HB.out)))); rintro e w5 ⟨v229, rfl, ho0, hb⟩; refine ⟨_, rfl, ?_⟩; have n0_ := Aside0.mk (Kd.N_lower (Kd.N_mono (ok' := fun k_ => k_ ≠ gb227) ho0 (fun k_ hk_ => Or.elim hk_ (fun hs_ => fun e_ => Nat.not_le.2 hs_ (by rw [e_]; exact GW227.out)) (fun hn_ => (Kd.freshB (g := gb227) (o := .cells #[.string a0_0, .slice A0_1 l0_1.length c0_1, .slice A0_2 l0_2.length c0_2] 25 (0, 0)) (by (with_reducible repeat (first | refine blk_drewN ?_ _ | refine blk_drew ?_ | refine blk_alloc ?_ _)); exact BK227.out) k_ hn_)))) (below_size (by repeat (first | (with_reducible first | exact HB.out | apply below_alloc | apply pw_below_drewN | apply below_drew1 | refine below_set ?_ GE227.out) | exact HB.out)))); have n1_ := Aside0.mk (blk_below (g := gb227) (o := .cells #[.string a0_0, .slice A0_1 l0_1.length c0_1, .slice A0_2 l0_2.length c0_2] 25 (0, 0)) (by (with_reducible repeat (first | refine blk_drewN ?_ _ | refine blk_drew ?_ | refine blk_alloc ?_ _)); exact BK227.out) hb); have n2_ := Aside0.mk (below_step (by repeat (first | (with_reducible first | exact HB.out | apply below_alloc | apply pw_below_drewN | apply below_drew1 | refine below_set ?_ GE227.out) | exact HB.out)) hb); clear BK227; clear HB; have HO230 := n0_; have BK227 := n1_; have HB := n2_; clear n0_ n1_ n2_; (try clear hb); (try clear hb2); (try clear hk); (try clear hi); (try clear ho0)))
  go_loopg [3, 5] k (fun kq v3 v5 w' => ∃ (x3_1 : List ByteArray) (x5_1 : Int), v5 = .int .i64 x5_1 ∧ Aside0 (almanacref26_Attendees.l0 kq x3_1 t228 x5_1 = some r) ∧ Aside0 (kq ≤ k) ∧ Aside0 (Kd.R Kd.string 9 w' w.heap.size (fun _ => True) v3 x3_1) ∧ Aside0 (Kd.N k25 25 w' w.heap.size (fun k_ => some k_ ≠ (v3 : Value).ownBlock ∧ k_ ≠ gb227) v229 t228) ∧ Aside0 (w'.heap[gb227]? = some (.cells #[.string a0_0, (.slice A0_1 l0_1.length c0_1), (.slice A0_2 l0_2.length c0_2)] 25 (0, 0))) ∧ Aside0 (Below w.heap.size w w'))
  case atStart => exact ⟨(([] : List ByteArray)), (0), (by first | rfl | (simp; done) | (simp [*]; done)), H', ⟨Nat.le_refl _⟩, ⟨by first | exact Kd.R_nil _ _ _ _ _ | exact Kd.N_nil _ _ _ _ _ | exact Kd.V_nil _ _ _ _ _ | exact Kd.Q_nil _ _ _ _ _ | exact Kd.S_nil _ _ _ _ _⟩, ⟨by (with_reducible repeat (first | apply Kd.N_alloc | apply Kd.N_drewN | apply Kd.N_drew)); exact Kd.N_mono HO230.out (fun _ hk => ⟨(by simp [Value.ownBlock]), hk⟩)⟩, ⟨by (with_reducible repeat (first | refine blk_drewN ?_ _ | refine blk_drew ?_ | refine blk_alloc ?_ _)); exact BK227.out⟩, ⟨by repeat (first | (with_reducible first | exact HB.out | apply below_alloc | apply pw_below_drewN | apply below_drew1 | refine below_set ?_ GE227.out) | exact HB.out)⟩⟩
  case round =>
    clear H'
    try clear c1
    try clear p2
    try clear c4
    try clear hcz4_0
    try clear hcz4_1
    try clear hcz4_2
    try clear hfz4_0
    try clear hfz4_1
    try clear hfz4_2
    obtain ⟨x3_1, x5_1, rfl, HA, HK1, HO_3, HO_4, BK227, HB⟩ := hrel
    cases gk with
    | zero => exact absurd HA.out (by simp [almanacref26_Attendees.l0])
    | succ k1 =>
      have H := HA.out
      clear HA
      simp only [almanacref26_Attendees.l0] at H
      by_cases c6 : x5_1 < (t228.length : Int)
      · rw [if_pos c6] at H
        have c6b0 : decide (x5_1 < (t228.length : Int)) = true := decide_eq_true c6
        clear c6
        by_cases c7 : 0 ≤ x5_1
        · rw [if_pos c7] at H
          have c7b0 : decide (0 ≤ x5_1) = true := decide_eq_true c7
          clear c7
          replace H := Option.bind_eq_some_iff.mp H
          obtain ⟨t232, A80, H⟩ := H
          replace H : (almanacref26_Attendees.l1 k1 x3_1 t228 x5_1 t232 0) = some r := H
          have A8 := Aside0.mk A80
          clear A80
          have H' := Aside0.mk H
          clear H
          obtain ⟨Ao9, co9, eo9⟩ := Kd.N_slice HO_4.out
          subst eo9
          have p231 : 0 ≤ (x5_1 : Int) := of_decide_eq_true (by first | (with_reducible assumption) | assumption)
          have q231 : x5_1 < (t228.length : Int) := of_decide_eq_true (by first | (with_reducible assumption) | assumption)
          obtain ⟨ad231, A231_1, c231_1, A231_2, c231_2, e231, hx231_0, hx231_1, hx231_2, hl231_1, hi231_1, hl231_2, hi231_2⟩ := at_T25 (Kd.N_reads' HO_4.out).2.2 x5_1 p231 q231
          cases e231
          obtain ⟨ce231, hce231, hMe231, hcc231⟩ := Kd.N_get HO_4.out z25 x5_1 p231 (by first | exact q231 | exact of_decide_eq_true (by first | (with_reducible assumption) | assumption) | (have e_ := (Kd.N_reads' HO_4.out).1; omega))
          obtain ⟨ua231_1, uc231_1, ua231_2, uc231_2, rfl, ul231_1, ge231_1, ul231_2, ge231_2⟩ := k25_openF hMe231
          have hv231_1 := hcc231 1 _ rfl
          rw [add_field _ _ 1 (by omega)] at hv231_1
          replace hv231_1 := Option.some.inj (hv231_1.symm.trans hx231_1)
          injection hv231_1 with hva_ hvn_ hvc_
          rw [hva_] at ge231_1
          rw [hvc_] at ul231_1
          have HL231_1 := Aside0.mk (show Kd.V k45 45 _ w.heap.size _ _ ((rd_T25 t228 x5_1).f1) from Kd.V_mk ul231_1 ge231_1)
          clear hva_ hvn_ hvc_ ge231_1 ul231_1
          have hv231_2 := hcc231 2 _ rfl
          rw [add_field _ _ 2 (by omega)] at hv231_2
          replace hv231_2 := Option.some.inj (hv231_2.symm.trans hx231_2)
          injection hv231_2 with hva_ hvn_ hvc_
          rw [hva_] at ge231_2
          rw [hvc_] at ul231_2
          have HL231_2 := Aside0.mk (show Kd.V k25 25 _ w.heap.size _ _ ((rd_T25 t228 x5_1).f2) from Kd.V_mk ul231_2 ge231_2)
          clear hva_ hvn_ hvc_ ge231_2 ul231_2
          clear hcc231 hce231
          have HR231_1 := Aside0.mk hi231_1
          have HC231_1 := Aside0.mk hl231_1
          clear hi231_1 hl231_1
          have HR231_2 := Aside0.mk hi231_2
          have HC231_2 := Aside0.mk hl231_2
          clear hi231_2 hl231_2
          replace p231 := eq_true p231
          replace q231 := eq_true q231
          go_wp2_with (first | ((with_reducible refine gate_callee (f := 49) rfl ?_); refine goesL_ (some 20) rfl rfl Try.func49 (by kernel_rfl) rfl #[.agg #[.string ((rd_T25 t228 x5_1).f0), .slice A231_1 ((rd_T25 t228 x5_1).f1).length c231_1, .slice A231_2 ((rd_T25 t228 x5_1).f2).length c231_2], .string (⟨#[65, 84, 84, 69, 78, 68, 69, 69]⟩ : ByteArray)] rfl (by (try simp only [List.map_toArray, List.map_cons, List.map_nil]); first | done | rfl | (simp only [List.length_drop, List.length_take]; rfl)) ?_; (with_reducible refine (almanacref12_Props.calls k1 ((rd_T25 t228 x5_1).f0) (fun k_ => ((some k_ ≠ (u3 : Value).ownBlock ∧ k_ ≠ gb227) ∧ some k_ ≠ (.slice (some ad231) t228.length co9 : Value).ownBlock)) _ _ ((rd_T25 t228 x5_1).f1) _ _ ((rd_T25 t228 x5_1).f2) (⟨#[65, 84, 84, 69, 78, 68, 69, 69]⟩ : ByteArray) t232 _ ?side1 ?side2 ?side3 A8.out).mono ?_); (case side1 => exact HL231_1.out); (case side2 => repeat (first | exact (by repeat (first | (with_reducible exact HR231_2.out) | (with_reducible refine Kd.C_alloc ?_ _) | (with_reducible refine Kd.C_drewN ?_ _) | (with_reducible refine Kd.C_drew ?_) | exact HR231_2.out)) | (with_reducible refine Kd.C_alloc ?_ _) | (with_reducible refine Kd.C_drewN ?_ _) | (with_reducible refine Kd.C_drew ?_))); (case side3 => exact HC231_2.out); rintro e w10 ⟨v233, rfl, ho0, hb⟩; refine ⟨_, rfl, ?_⟩; have n0_ := Aside0.mk (Kd.R_below (by (with_reducible repeat (first | apply Kd.R_alloc | apply Kd.R_drewN | apply Kd.R_drew)); exact HO_3.out) hb); have n1_ := Aside0.mk (Kd.N_elder' (by (with_reducible repeat (first | apply Kd.N_alloc | apply Kd.N_drewN | apply Kd.N_drew)); exact HO_4.out) (Kd.N_base ho0) hb); have n2_ := Aside0.mk (Kd.V_elder' (by (with_reducible repeat (first | apply Kd.V_alloc | apply Kd.V_drewN | apply Kd.V_drew)); exact HL231_1.out) (Kd.N_base ho0) hb); have n3_ := Aside0.mk (Kd.V_elder' (by (with_reducible repeat (first | apply Kd.V_alloc | apply Kd.V_drewN | apply Kd.V_drew)); exact HL231_2.out) (Kd.N_base ho0) hb); have n4_ := Aside0.mk (Kd.N_lower (Kd.N_mono (ok' := fun k_ => some k_ ≠ (u3 : Value).ownBlock ∧ some k_ ≠ (.slice (some ad231) t228.length co9 : Value).ownBlock ∧ k_ ≠ gb227) ho0 (fun k_ hk_ => ⟨Or.elim hk_ (fun hs_ => hs_.1.1) (fun hn_ => (Kd.fresh' (Kd.R_lt (by (with_reducible repeat (first | apply Kd.R_alloc | apply Kd.R_drewN | apply Kd.R_drew)); exact HO_3.out)) k_ hn_)), Or.elim hk_ (fun hs_ => hs_.2) (fun hn_ => (Kd.fresh' (Kd.N_lt (by (with_reducible repeat (first | apply Kd.N_alloc | apply Kd.N_drewN | apply Kd.N_drew)); exact HO_4.out)) k_ hn_)), Or.elim hk_ (fun hs_ => hs_.1.2) (fun hn_ => (Kd.freshB (g := gb227) (o := .cells #[.string a0_0, .slice A0_1 l0_1.length c0_1, .slice A0_2 l0_2.length c0_2] 25 (0, 0)) (by (with_reducible repeat (first | refine blk_drewN ?_ _ | refine blk_drew ?_ | refine blk_alloc ?_ _)); exact BK227.out) k_ hn_))⟩)) (below_size (by repeat (first | (with_reducible first | exact HB.out | apply below_alloc | apply pw_below_drewN | apply below_drew1 | refine below_set ?_ GE227.out) | exact HB.out)))); have n5_ := Aside0.mk (blk_below (g := gb227) (o := .cells #[.string a0_0, .slice A0_1 l0_1.length c0_1, .slice A0_2 l0_2.length c0_2] 25 (0, 0)) (by (with_reducible repeat (first | refine blk_drewN ?_ _ | refine blk_drew ?_ | refine blk_alloc ?_ _)); exact BK227.out) hb); have n6_ := Aside0.mk (Kd.C_below (by repeat (first | (with_reducible exact HR231_1.out) | (with_reducible refine Kd.C_alloc ?_ _) | (with_reducible refine Kd.C_drewN ?_ _) | (with_reducible refine Kd.C_drew ?_) | exact HR231_1.out)) hb); have n7_ := Aside0.mk (Kd.C_below (by repeat (first | (with_reducible exact HR231_2.out) | (with_reducible refine Kd.C_alloc ?_ _) | (with_reducible refine Kd.C_drewN ?_ _) | (with_reducible refine Kd.C_drew ?_) | exact HR231_2.out)) hb); have n8_ := Aside0.mk (below_step (by repeat (first | (with_reducible first | exact HB.out | apply below_alloc | apply pw_below_drewN | apply below_drew1 | refine below_set ?_ GE227.out) | exact HB.out)) hb); clear HO_3; clear HO_4; clear HL231_1; clear HL231_2; clear BK227; clear HR231_1; clear HR231_2; clear HB; have HO_3 := n0_; have HO_4 := n1_; have HL231_1 := n2_; have HL231_2 := n3_; have HO234 := n4_; have BK227 := n5_; have HR231_1 := n6_; have HR231_2 := n7_; have HB := n8_; clear n0_ n1_ n2_ n3_ n4_ n5_ n6_ n7_ n8_; (try clear hb); (try clear hb2); (try clear hk); (try clear hi); (try clear ho0)))
          go_loopg [3, 7] k1 (fun kq v3 v7 w' => ∃ (x3_2 : List ByteArray) (x7_2 : Int), v7 = .int .i64 x7_2 ∧ Aside0 (almanacref26_Attendees.l1 kq x3_2 t228 x5_1 t232 x7_2 = some r) ∧ Aside0 (kq ≤ k1) ∧ Aside0 (Kd.R Kd.string 9 w' w.heap.size (fun _ => True) v3 x3_2) ∧ Aside0 (Kd.N k25 25 w' w.heap.size (fun k_ => some k_ ≠ (v3 : Value).ownBlock ∧ some k_ ≠ (v233 : Value).ownBlock ∧ k_ ≠ gb227) (.slice (some ad231) t228.length co9) t228) ∧ Aside0 (Kd.N k45 45 w' w.heap.size (fun k_ => some k_ ≠ (v3 : Value).ownBlock ∧ some k_ ≠ ((.slice (some ad231) t228.length co9) : Value).ownBlock ∧ k_ ≠ gb227) v233 t232) ∧ Aside0 (w'.heap[gb227]? = some (.cells #[.string a0_0, (.slice A0_1 l0_1.length c0_1), (.slice A0_2 l0_2.length c0_2)] 25 (0, 0))) ∧ Aside0 (Below w.heap.size w w'))
          case atStart => exact ⟨(x3_1), (0), (by first | rfl | (simp; done) | (simp [*]; done)), H', ⟨Nat.le_refl _⟩, ⟨by (with_reducible repeat (first | apply Kd.R_alloc | apply Kd.R_drewN | apply Kd.R_drew)); exact HO_3.out⟩, ⟨by (with_reducible repeat (first | apply Kd.N_alloc | apply Kd.N_drewN | apply Kd.N_drew)); exact Kd.N_mono HO_4.out (fun _ hk => ⟨hk.1.1, ⟨hk.2, hk.1.2⟩⟩)⟩, ⟨by (with_reducible repeat (first | apply Kd.N_alloc | apply Kd.N_drewN | apply Kd.N_drew)); exact HO234.out⟩, ⟨by (with_reducible repeat (first | refine blk_drewN ?_ _ | refine blk_drew ?_ | refine blk_alloc ?_ _)); exact BK227.out⟩, ⟨by repeat (first | (with_reducible first | exact HB.out | apply below_alloc | apply pw_below_drewN | apply below_drew1 | refine below_set ?_ GE227.out) | exact HB.out)⟩⟩
          case round =>
            clear H'
            try clear c1
            try clear c2
            try clear p2
            try clear q2
            try clear hx2
            try clear c4
            try clear c6
            try clear c6b0
            try clear c7
            try clear c7b0
            try clear hcz4_0
            try clear hcz4_1
            try clear hcz4_2
            try clear hfz4_0
            try clear hfz4_1
            try clear hfz4_2
            try clear hx231_0
            try clear hx231_1
            try clear hx231_2
            try clear p2
            try clear p231
            try clear q231
            obtain ⟨x3_2, x7_2, rfl, HA, HK2, HO_3, HO_4, HO_6, BK227, HB⟩ := hrel
            cases gk with
            | zero => exact absurd HA.out (by simp [almanacref26_Attendees.l1])
            | succ k2 =>
              have H := HA.out
              clear HA
              simp only [almanacref26_Attendees.l1] at H
              by_cases c11 : x7_2 < (t232.length : Int)
              · rw [if_pos c11] at H
                have c11b0 : decide (x7_2 < (t232.length : Int)) = true := decide_eq_true c11
                clear c11
                by_cases c12 : 0 ≤ x7_2
                · rw [if_pos c12] at H
                  have c12b0 : decide (0 ≤ x7_2) = true := decide_eq_true c12
                  clear c12
                  replace H := Option.bind_eq_some_iff.mp H
                  obtain ⟨t236, A130, H⟩ := H
                  replace H : (if t236 = true then (almanacref26_Attendees.l1 k2 x3_2 t228 x5_1 t232 (wrap64 (x7_2 + 1))) else (if x3_2.length < 8796093022208 then (almanacref26_Attendees.l1 k2 (x3_2 ++ [(rd_T45 t232 x7_2).f2]) t228 x5_1 t232 (wrap64 (x7_2 + 1))) else (none))) = some r := H
                  have A13 := Aside0.mk A130
                  clear A130
                  by_cases c14 : t236 = true
                  · subst c14
                    have H1 : (almanacref26_Attendees.l1 k2 x3_2 t228 x5_1 t232 (wrap64 (x7_2 + 1))) = some r := by rw [if_pos rfl] at H; exact H
                    clear H
                    have H := H1
                    clear H1
                    have H' := Aside0.mk H
                    clear H
                    obtain ⟨Ao15, co15, eo15⟩ := Kd.N_slice HO_6.out
                    subst eo15
                    have p235 : 0 ≤ (x7_2 : Int) := of_decide_eq_true (by first | (with_reducible assumption) | assumption)
                    have q235 : x7_2 < (t232.length : Int) := of_decide_eq_true (by first | (with_reducible assumption) | assumption)
                    obtain ⟨ad235, A235_1, c235_1, e235, hx235_0, hx235_1, hx235_2, hl235_1, hi235_1⟩ := at_T45 (Kd.N_reads' HO_6.out).2.2 x7_2 p235 q235
                    cases e235
                    obtain ⟨ce235, hce235, hMe235, hcc235⟩ := Kd.N_get HO_6.out z45 x7_2 p235 (by first | exact q235 | exact of_decide_eq_true (by first | (with_reducible assumption) | assumption) | (have e_ := (Kd.N_reads' HO_6.out).1; omega))
                    obtain ⟨ua235_1, uc235_1, rfl, ul235_1, ge235_1⟩ := k45_openF hMe235
                    have hv235_1 := hcc235 1 _ rfl
                    rw [add_field _ _ 1 (by omega)] at hv235_1
                    replace hv235_1 := Option.some.inj (hv235_1.symm.trans hx235_1)
                    injection hv235_1 with hva_ hvn_ hvc_
                    rw [hva_] at ge235_1
                    rw [hvc_] at ul235_1
                    have HL235_1 := Aside0.mk (show Kd.V k77 77 _ w.heap.size _ _ ((rd_T45 t232 x7_2).f1) from Kd.V_mk ul235_1 ge235_1)
                    clear hva_ hvn_ hvc_ ge235_1 ul235_1
                    clear hcc235 hce235
                    have HR235_1 := Aside0.mk hi235_1
                    have HC235_1 := Aside0.mk hl235_1
                    clear hi235_1 hl235_1
                    replace p235 := eq_true p235
                    replace q235 := eq_true q235
                    obtain ⟨Ao16, co16, eo16⟩ := Kd.R_slice HO_3.out
                    subst eo16
                    go_wp2_with (first | ((with_reducible refine gate_callee (f := 50) rfl ?_); refine goesL_ (some 33) rfl rfl Try.func50 (by kernel_rfl) rfl #[.slice Ao16 x3_2.length co16, .string ((rd_T45 t232 x7_2).f2)] rfl (by (try simp only [List.map_toArray, List.map_cons, List.map_nil]); first | done | rfl | (simp only [List.length_drop, List.length_take]; rfl)) ?_; (with_reducible refine (almanacref26_In.calls k2 _ _ x3_2 ((rd_T45 t232 x7_2).f2) true _ ?side1 ?side2 A13.out).mono ?_); (case side1 => repeat (first | exact (Kd.R_reads' HO_3.out).2.2 | (with_reducible refine Kd.C_alloc ?_ _) | (with_reducible refine Kd.C_drewN ?_ _) | (with_reducible refine Kd.C_drew ?_))); (case side2 => exact (Kd.R_reads' HO_3.out).2.1); rintro e w17 ⟨rfl, hb⟩; refine ⟨_, rfl, ?_⟩; have n0_ := Aside0.mk (Kd.R_below (by (with_reducible repeat (first | apply Kd.R_alloc | apply Kd.R_drewN | apply Kd.R_drew)); exact HO_3.out) hb); have n1_ := Aside0.mk (Kd.N_below (by (with_reducible repeat (first | apply Kd.N_alloc | apply Kd.N_drewN | apply Kd.N_drew)); exact HO_4.out) hb); have n2_ := Aside0.mk (Kd.N_below (by (with_reducible repeat (first | apply Kd.N_alloc | apply Kd.N_drewN | apply Kd.N_drew)); exact HO_6.out) hb); have n3_ := Aside0.mk (Kd.V_below (by (with_reducible repeat (first | apply Kd.V_alloc | apply Kd.V_drewN | apply Kd.V_drew)); exact HL235_1.out) hb); have n4_ := Aside0.mk (blk_below (g := gb227) (o := .cells #[.string a0_0, .slice A0_1 l0_1.length c0_1, .slice A0_2 l0_2.length c0_2] 25 (0, 0)) (by (with_reducible repeat (first | refine blk_drewN ?_ _ | refine blk_drew ?_ | refine blk_alloc ?_ _)); exact BK227.out) hb); have n5_ := Aside0.mk (Kd.C_below (by repeat (first | (with_reducible exact HR235_1.out) | (with_reducible refine Kd.C_alloc ?_ _) | (with_reducible refine Kd.C_drewN ?_ _) | (with_reducible refine Kd.C_drew ?_) | exact HR235_1.out)) hb); have n6_ := Aside0.mk (below_step (by repeat (first | (with_reducible first | exact HB.out | apply below_alloc | apply pw_below_drewN | apply below_drew1 | refine below_set ?_ GE227.out) | exact HB.out)) hb); clear HO_3; clear HO_4; clear HO_6; clear HL235_1; clear BK227; clear HR235_1; clear HB; have HO_3 := n0_; have HO_4 := n1_; have HO_6 := n2_; have HL235_1 := n3_; have BK227 := n4_; have HR235_1 := n5_; have HB := n6_; clear n0_ n1_ n2_ n3_ n4_ n5_ n6_; (try clear hb); (try clear hb2); (try clear hk); (try clear hi)))
                    go_roundg k2
                    case measure => have := HK1.out; have := HK2.out; omega
                    case rel => exact ⟨(x3_2), (wrap64 (x7_2 + 1)), (by first | rfl | (simp; done) | (simp [*]; done)), H', ⟨by have := HK1.out; have := HK2.out; omega⟩, ⟨by (with_reducible repeat (first | apply Kd.R_alloc | apply Kd.R_drewN | apply Kd.R_drew)); exact HO_3.out⟩, ⟨by (with_reducible repeat (first | apply Kd.N_alloc | apply Kd.N_drewN | apply Kd.N_drew)); exact HO_4.out⟩, ⟨by (with_reducible repeat (first | apply Kd.N_alloc | apply Kd.N_drewN | apply Kd.N_drew)); exact HO_6.out⟩, ⟨by (with_reducible repeat (first | refine blk_drewN ?_ _ | refine blk_drew ?_ | refine blk_alloc ?_ _)); exact BK227.out⟩, ⟨by repeat (first | (with_reducible first | exact HB.out | apply below_alloc | apply pw_below_drewN | apply below_drew1 | refine below_set ?_ GE227.out) | exact HB.out)⟩⟩
                  · replace c14 := Bool.eq_false_iff.mpr c14
                    subst c14
                    have H1 : (if x3_2.length < 8796093022208 then (almanacref26_Attendees.l1 k2 (x3_2 ++ [(rd_T45 t232 x7_2).f2]) t228 x5_1 t232 (wrap64 (x7_2 + 1))) else (none)) = some r := by rw [if_neg (show ¬ (false = true) by decide)] at H; exact H
                    clear H
                    have H := H1
                    clear H1
                    by_cases c18 : x3_2.length < 8796093022208
                    · rw [if_pos c18] at H
                      have LMc18 := Aside0.mk c18
                      clear c18
                      obtain ⟨y238, hy238⟩ : ∃ y_ : List ByteArray, y_ = (x3_2 ++ [(rd_T45 t232 x7_2).f2]) := ⟨_, rfl⟩
                      replace H : (almanacref26_Attendees.l1 k2 y238 t228 x5_1 t232 (wrap64 (x7_2 + 1))) = some r := by first | (rw [hy238]; with_reducible exact H) | (have H2_ := (Option.bind_some _ _).symm.trans H; rw [hy238]; with_reducible exact H2_) | (have H2_ := (Option.bind_some _ _).symm.trans H; with_reducible exact H2_) | with_reducible exact H | (rw [hy238]; exact H) | exact H
                      have Ny238 := Aside0.mk hy238
                      clear hy238
                      have H' := Aside0.mk H
                      clear H
                      obtain ⟨Ao19, co19, eo19⟩ := Kd.N_slice HO_6.out
                      subst eo19
                      have p235 : 0 ≤ (x7_2 : Int) := of_decide_eq_true (by first | (with_reducible assumption) | assumption)
                      have q235 : x7_2 < (t232.length : Int) := of_decide_eq_true (by first | (with_reducible assumption) | assumption)
                      obtain ⟨ad235, A235_1, c235_1, e235, hx235_0, hx235_1, hx235_2, hl235_1, hi235_1⟩ := at_T45 (Kd.N_reads' HO_6.out).2.2 x7_2 p235 q235
                      cases e235
                      obtain ⟨ce235, hce235, hMe235, hcc235⟩ := Kd.N_get HO_6.out z45 x7_2 p235 (by first | exact q235 | exact of_decide_eq_true (by first | (with_reducible assumption) | assumption) | (have e_ := (Kd.N_reads' HO_6.out).1; omega))
                      obtain ⟨ua235_1, uc235_1, rfl, ul235_1, ge235_1⟩ := k45_openF hMe235
                      have hv235_1 := hcc235 1 _ rfl
                      rw [add_field _ _ 1 (by omega)] at hv235_1
                      replace hv235_1 := Option.some.inj (hv235_1.symm.trans hx235_1)
                      injection hv235_1 with hva_ hvn_ hvc_
                      rw [hva_] at ge235_1
                      rw [hvc_] at ul235_1
                      have HL235_1 := Aside0.mk (show Kd.V k77 77 _ w.heap.size _ _ ((rd_T45 t232 x7_2).f1) from Kd.V_mk ul235_1 ge235_1)
                      clear hva_ hvn_ hvc_ ge235_1 ul235_1
                      clear hcc235 hce235
                      have HR235_1 := Aside0.mk hi235_1
                      have HC235_1 := Aside0.mk hl235_1
                      clear hi235_1 hl235_1
                      replace p235 := eq_true p235
                      replace q235 := eq_true q235
                      obtain ⟨Ao20, co20, eo20⟩ := Kd.R_slice HO_3.out
                      subst eo20
                      go_wp2_with (first | ((with_reducible refine gate_callee (f := 50) rfl ?_); refine goesL_ (some 33) rfl rfl Try.func50 (by kernel_rfl) rfl #[.slice Ao20 x3_2.length co20, .string ((rd_T45 t232 x7_2).f2)] rfl (by (try simp only [List.map_toArray, List.map_cons, List.map_nil]); first | done | rfl | (simp only [List.length_drop, List.length_take]; rfl)) ?_; (with_reducible refine (almanacref26_In.calls k2 _ _ x3_2 ((rd_T45 t232 x7_2).f2) false _ ?side1 ?side2 A13.out).mono ?_); (case side1 => repeat (first | exact (Kd.R_reads' HO_3.out).2.2 | (with_reducible refine Kd.C_alloc ?_ _) | (with_reducible refine Kd.C_drewN ?_ _) | (with_reducible refine Kd.C_drew ?_))); (case side2 => exact (Kd.R_reads' HO_3.out).2.1); rintro e w21 ⟨rfl, hb⟩; refine ⟨_, rfl, ?_⟩; have n0_ := Aside0.mk (Kd.R_below (by (with_reducible repeat (first | apply Kd.R_alloc | apply Kd.R_drewN | apply Kd.R_drew)); exact HO_3.out) hb); have n1_ := Aside0.mk (Kd.N_below (by (with_reducible repeat (first | apply Kd.N_alloc | apply Kd.N_drewN | apply Kd.N_drew)); exact HO_4.out) hb); have n2_ := Aside0.mk (Kd.N_below (by (with_reducible repeat (first | apply Kd.N_alloc | apply Kd.N_drewN | apply Kd.N_drew)); exact HO_6.out) hb); have n3_ := Aside0.mk (Kd.V_below (by (with_reducible repeat (first | apply Kd.V_alloc | apply Kd.V_drewN | apply Kd.V_drew)); exact HL235_1.out) hb); have n4_ := Aside0.mk (blk_below (g := gb227) (o := .cells #[.string a0_0, .slice A0_1 l0_1.length c0_1, .slice A0_2 l0_2.length c0_2] 25 (0, 0)) (by (with_reducible repeat (first | refine blk_drewN ?_ _ | refine blk_drew ?_ | refine blk_alloc ?_ _)); exact BK227.out) hb); have n5_ := Aside0.mk (Kd.C_below (by repeat (first | (with_reducible exact HR235_1.out) | (with_reducible refine Kd.C_alloc ?_ _) | (with_reducible refine Kd.C_drewN ?_ _) | (with_reducible refine Kd.C_drew ?_) | exact HR235_1.out)) hb); have n6_ := Aside0.mk (below_step (by repeat (first | (with_reducible first | exact HB.out | apply below_alloc | apply pw_below_drewN | apply below_drew1 | refine below_set ?_ GE227.out) | exact HB.out)) hb); clear HO_3; clear HO_4; clear HO_6; clear HL235_1; clear BK227; clear HR235_1; clear HB; have HO_3 := n0_; have HO_4 := n1_; have HO_6 := n2_; have HL235_1 := n3_; have BK227 := n4_; have HR235_1 := n5_; have HB := n6_; clear n0_ n1_ n2_ n3_ n4_ n5_ n6_; (try clear hb); (try clear hb2); (try clear hk); (try clear hi); have p237 : 0 ≤ (x7_2 : Int) := of_decide_eq_true (by first | (with_reducible assumption) | assumption); have q237 : x7_2 < (t232.length : Int) := of_decide_eq_true (by first | (with_reducible assumption) | assumption); obtain ⟨ad237, A237_1, c237_1, e237, hx237_0, hx237_1, hx237_2, hl237_1, hi237_1⟩ := at_T45 (Kd.N_reads' HO_6.out).2.2 x7_2 p237 q237; obtain rfl : ad235 = ad237 := (by injection e237); obtain ⟨ce237, hce237, hMe237, hcc237⟩ := Kd.N_get HO_6.out z45 x7_2 p237 (by first | exact q237 | exact of_decide_eq_true (by first | (with_reducible assumption) | assumption) | (have e_ := (Kd.N_reads' HO_6.out).1; omega)); obtain ⟨ua237_1, uc237_1, rfl, ul237_1, ge237_1⟩ := k45_openF hMe237; have hv237_1 := hcc237 1 _ rfl; rw [add_field _ _ 1 (by omega)] at hv237_1; replace hv237_1 := Option.some.inj (hv237_1.symm.trans hx237_1); injection hv237_1 with hva_ hvn_ hvc_; rw [hva_] at ge237_1; rw [hvc_] at ul237_1; have HL237_1 := Aside0.mk (show Kd.V k77 77 _ w.heap.size _ _ ((rd_T45 t232 x7_2).f1) from Kd.V_mk ul237_1 ge237_1); clear hva_ hvn_ hvc_ ge237_1 ul237_1; clear hcc237 hce237; have HR237_1 := Aside0.mk hi237_1; have HC237_1 := Aside0.mk hl237_1; clear hi237_1 hl237_1; replace p237 := eq_true p237; replace q237 := eq_true q237) | ((with_reducible refine gate_builtin (b := .append) (xs := #[.tmp 35, .tmp 41]) rfl ?_); at_builtin; refine Kd.R_append Kd.string (w0 := w) w.heap.size rfl (.tmp 35) (.tmp 41) 33 9 (.string ⟨#[]⟩) 16 rfl Try.underlying33 info9 rfl (by decide) (by omega) (.slice Ao20 x3_2.length co20) x3_2 ((rd_T45 t232 x7_2).f2) [.string ((rd_T45 t232 x7_2).f2)] (fun _ => True) (fun _ => False) rfl rfl ?aP (fun _ hk => hk.elim) ?aF ?aO ?aB ?aS ?aL ?_; (case aP => exact rfl); (case aB => exact (by repeat (first | (with_reducible first | exact HB.out | apply below_alloc | apply pw_below_drewN | apply below_drew1 | refine below_set ?_ GE227.out) | exact HB.out))); (case aF => exact (fun _ _ => trivial)); (case aO => exact (by (with_reducible repeat (first | apply Kd.R_alloc | apply Kd.R_drewN | apply Kd.R_drew)); exact HO_3.out)); (case aS => exact (below_size (by repeat (first | (with_reducible first | exact HB.out | apply below_alloc | apply pw_below_drewN | apply below_drew1 | refine below_set ?_ GE227.out) | exact HB.out)))); (case aL => have := LMc18.out; omega); intro v239 w22 ho hb hg hat; rw [← Ny238.out] at ho; have n0_ := Aside0.mk (Kd.N_afterv (ok := (fun k_ => some k_ ≠ (.slice (some ad235) t232.length co19 : Value).ownBlock ∧ k_ ≠ gb227)) (by (with_reducible repeat (first | apply Kd.N_alloc | apply Kd.N_drewN | apply Kd.N_drew)); exact Kd.N_mono HO_4.out (fun _ hk => ⟨⟨hk.2.1, hk.2.2⟩, hk.1⟩)) hg hat); have n1_ := Aside0.mk (Kd.N_afterv (ok := (fun k_ => some k_ ≠ (.slice (some ad231) t228.length co9 : Value).ownBlock ∧ k_ ≠ gb227)) (by (with_reducible repeat (first | apply Kd.N_alloc | apply Kd.N_drewN | apply Kd.N_drew)); exact Kd.N_mono HO_6.out (fun _ hk => ⟨⟨hk.2.1, hk.2.2⟩, hk.1⟩)) hg hat); have n2_ := Aside0.mk (blk_grown (g := gb227) (o := .cells #[.string a0_0, .slice A0_1 l0_1.length c0_1, .slice A0_2 l0_2.length c0_2] 25 (0, 0)) (by (with_reducible repeat (first | refine blk_drewN ?_ _ | refine blk_drew ?_ | refine blk_alloc ?_ _)); exact BK227.out) hg (Kd.R_ne HO_3.out BK227.out (by decide))); have n3_ := Aside0.mk (Kd.V_afterv (ok := (fun k_ => some k_ ≠ (.slice (some ad231) t228.length co9 : Value).ownBlock ∧ some k_ ≠ (.slice (some ad235) t232.length co19 : Value).ownBlock ∧ k_ ≠ gb227)) (by (with_reducible repeat (first | apply Kd.V_alloc | apply Kd.V_drewN | apply Kd.V_drew)); exact Kd.V_mono HL235_1.out (fun _ hk => ⟨⟨hk.1.2.1, ⟨hk.2, hk.1.2.2⟩⟩, hk.1.1⟩)) hg hat); have n4_ := Aside0.mk (Kd.V_afterv (ok := (fun k_ => some k_ ≠ (.slice (some ad231) t228.length co9 : Value).ownBlock ∧ some k_ ≠ (.slice (some ad235) t232.length co19 : Value).ownBlock ∧ k_ ≠ gb227)) (by (with_reducible repeat (first | apply Kd.V_alloc | apply Kd.V_drewN | apply Kd.V_drew)); exact Kd.V_mono HL237_1.out (fun _ hk => ⟨⟨hk.1.2.1, ⟨hk.2, hk.1.2.2⟩⟩, hk.1.1⟩)) hg hat); have n5_ := Aside0.mk (hb); have n6_ := Aside0.mk (ho); clear HO_4; clear HO_6; clear BK227; clear HL235_1; clear HL237_1; clear HB; clear HO_3; have HO_4 := n0_; have HO_6 := n1_; have BK227 := n2_; have HL235_1 := n3_; have HL237_1 := n4_; have HB := n5_; have HO240 := n6_; clear n0_ n1_ n2_ n3_ n4_ n5_ n6_; clear ho hb hg hat))
                      go_roundg k2
                      case measure => have := HK1.out; have := HK2.out; omega
                      case rel => exact ⟨(y238), (wrap64 (x7_2 + 1)), (by first | rfl | (simp; done) | (simp [*]; done)), H', ⟨by have := HK1.out; have := HK2.out; omega⟩, ⟨by (with_reducible repeat (first | apply Kd.R_alloc | apply Kd.R_drewN | apply Kd.R_drew)); exact HO240.out⟩, ⟨by (with_reducible repeat (first | apply Kd.N_alloc | apply Kd.N_drewN | apply Kd.N_drew)); exact Kd.N_mono HO_4.out (fun _ hk => ⟨hk.2, ⟨hk.1.1, hk.1.2⟩⟩)⟩, ⟨by (with_reducible repeat (first | apply Kd.N_alloc | apply Kd.N_drewN | apply Kd.N_drew)); exact Kd.N_mono HO_6.out (fun _ hk => ⟨hk.2, ⟨hk.1.1, hk.1.2⟩⟩)⟩, ⟨by (with_reducible repeat (first | refine blk_drewN ?_ _ | refine blk_drew ?_ | refine blk_alloc ?_ _)); exact BK227.out⟩, ⟨by repeat (first | (with_reducible first | exact HB.out | apply below_alloc | apply pw_below_drewN | apply below_drew1 | refine below_set ?_ GE227.out) | exact HB.out)⟩⟩
                    · rw [if_neg c18] at H
                      exact absurd H (by simp)
                · rw [if_neg c12] at H
                  exact absurd H (by simp)
              · rw [if_neg c11] at H
                have c11b0 : decide (x7_2 < (t232.length : Int)) = false := decide_eq_false c11
                clear c11
                have H' := Aside0.mk H
                clear H
                obtain ⟨Ao23, co23, eo23⟩ := Kd.N_slice HO_6.out
                subst eo23
                go_wp2
                go_roundg k2
                case measure => have := HK1.out; have := HK2.out; omega
                case rel => exact ⟨(x3_2), (wrap64 (x5_1 + 1)), (by first | rfl | (simp; done) | (simp [*]; done)), H', ⟨by have := HK1.out; have := HK2.out; omega⟩, ⟨by (with_reducible repeat (first | apply Kd.R_alloc | apply Kd.R_drewN | apply Kd.R_drew)); exact HO_3.out⟩, ⟨by (with_reducible repeat (first | apply Kd.N_alloc | apply Kd.N_drewN | apply Kd.N_drew)); exact Kd.N_mono HO_4.out (fun _ hk => ⟨hk.1, hk.2.2⟩)⟩, ⟨by (with_reducible repeat (first | refine blk_drewN ?_ _ | refine blk_drew ?_ | refine blk_alloc ?_ _)); exact BK227.out⟩, ⟨by repeat (first | (with_reducible first | exact HB.out | apply below_alloc | apply pw_below_drewN | apply below_drew1 | refine below_set ?_ GE227.out) | exact HB.out)⟩⟩
        · rw [if_neg c7] at H
          exact absurd H (by simp)
      · rw [if_neg c6] at H
        have c6b0 : decide (x5_1 < (t228.length : Int)) = false := decide_eq_false c6
        clear c6
        obtain rfl := Option.some.inj H
        obtain ⟨Ao24, co24, eo24⟩ := Kd.N_slice HO_4.out
        subst eo24
        go_wp2
        go_ret
        exact ⟨_, by first | rfl | (simp [errW_none, errW_some] <;> rfl) | (simp [*, errW_none, errW_some] <;> rfl), by (with_reducible repeat (first | apply Kd.R_alloc | apply Kd.R_drewN | apply Kd.R_drew)); exact HO_3.out, by repeat (first | (with_reducible first | exact HB.out | apply below_alloc | apply pw_below_drewN | apply below_drew1 | refine below_set ?_ GE227.out) | exact HB.out)⟩
end Go.Proofs.Ytebmbfobmakheaa.PD
namespace Go.Proofs.Ytebmbfobmakheaa.PD
open Go.RowKit Go.Proofs.YtebmbfobmakheaaW.PrintWords Go.Proofs.YtebmbfobmakheaaW.PrintLast Go.Proofs.YtebmbfobmakheaaW.PrintMore
set_option linter.unusedVariables false
set_option linter.unusedSimpArgs false
theorem rd25_at (l : List S25) (i : Nat) (h : i < l.length) : rd_T25 l (i : Int) = l[i] := by simp [rd_T25, h]
theorem rd77_at (l : List S77) (i : Nat) (h : i < l.length) : rd_T77 l (i : Int) = l[i] := by simp [rd_T77, h]
theorem rdB_at (l : List ByteArray) (i : Nat) (h : i < l.length) : rdOf ByteArray.empty l (i : Int) = l[i] := by simp [rdOf, h]
def oth (l : List S25) : List S25 := l.filter fun x => !isTz x.f0
theorem isTz_iff (s : ByteArray) : isTz s = true ↔ s.toList = ([86, 84, 73, 77, 69, 90, 79, 78, 69] : List UInt8) := by unfold isTz; exact beq_iff_eq
theorem eta25 (x : S25) : (⟨x.f0, x.f1, x.f2⟩ : S25) = x := by cases x; rfl
theorem oth_tz {x : S25} {r : List S25} (h : isTz x.f0 = true) : oth (x :: r) = oth r := by unfold oth; rw [List.filter_cons, if_neg (by rw [h]; simp)]
theorem oth_no {x : S25} {r : List S25} (h : isTz x.f0 = false) : oth (x :: r) = x :: oth r := by unfold oth; rw [List.filter_cons, if_pos (by rw [h]; rfl)]
theorem byN_hit {x : S45} {r : List S45} {n : ByteArray} (h : x.f0.toList = n.toList) : byN (x :: r) n = x :: byN r n := by unfold byN; rw [List.filter_cons, if_pos (beq_iff_eq.2 h)]
theorem byN_miss {x : S45} {r : List S45} {n : ByteArray} (h : ¬ x.f0.toList = n.toList) : byN (x :: r) n = byN r n := by unfold byN; rw [List.filter_cons, if_neg (by simpa using h)]
theorem rothers_l0 (a : ByteArray) (l1 : List S45) (l : List S25) (hl : l.length ≤ 1000000000) : ∀ (d k i : Nat) (out : List S25), l.length - i = d → i ≤ l.length → d < k → out.length ≤ i →
    almanacref17_Others.l0 k out i a l1 l = some (out ++ oth (l.drop i))
  | d, 0, _, _, _, _, hk, _ => absurd hk (Nat.not_lt_zero _)
  | d, k + 1, i, out, hd, hi, hk, ho => by
    simp only [almanacref17_Others.l0]
    by_cases hlt : i < l.length
    · rw [if_pos (by omega), if_pos (by omega), wrap_next hlt (by omega), rd25_at l i hlt, List.drop_eq_getElem_cons hlt]
      by_cases hc : l[i].f0.toList = ([86, 84, 73, 77, 69, 90, 79, 78, 69] : List UInt8)
      · rw [if_pos hc, rothers_l0 a l1 l hl (d - 1) k (i + 1) out (by omega) (by omega) (by omega) (by omega), oth_tz ((isTz_iff _).2 hc)]
      · rw [if_neg hc, if_pos (by omega), rothers_l0 a l1 l hl (d - 1) k (i + 1) _ (by omega) (by omega) (by omega) (by simp; omega), oth_no (by cases h : isTz l[i].f0 with | false => rfl | true => exact absurd ((isTz_iff _).1 h) hc), List.append_assoc, eta25]
        rfl
    · rw [if_neg (by omega), List.drop_eq_nil_of_le (by omega)]
      simp [oth]
theorem rothers (a : ByteArray) (l1 : List S45) (l : List S25) (hl : l.length ≤ 1000000000) : Ev (fun k => almanacref17_Others.f k a l1 l) (oth l) := ⟨l.length + 1, fun k hk => by
  have := rothers_l0 a l1 l hl l.length k 0 [] (by omega) (by omega) (by omega) (Nat.le_refl _)
  unfold almanacref17_Others.f
  exact this⟩
theorem rprops_l0 (a : ByteArray) (l : List S45) (l2 : List S25) (n : ByteArray) (hl : l.length ≤ 2513169434916) : ∀ (d k i : Nat) (out : List S45), l.length - i = d → i ≤ l.length → d < k → out.length ≤ i →
    almanacref12_Props.l0 k n out i a l l2 = some (out ++ byN (l.drop i) n)
  | d, 0, _, _, _, _, hk, _ => absurd hk (Nat.not_lt_zero _)
  | d, k + 1, i, out, hd, hi, hk, ho => by
    simp only [almanacref12_Props.l0]
    by_cases hlt : i < l.length
    · rw [if_pos (by omega), if_pos (by omega), wrap_next hlt (by omega), rd45_at l i hlt, List.drop_eq_getElem_cons hlt]
      by_cases hc : l[i].f0.toList = n.toList
      · rw [if_pos hc, if_pos (by omega), rprops_l0 a l l2 n hl (d - 1) k (i + 1) _ (by omega) (by omega) (by omega) (by simp; omega), byN_hit hc, List.append_assoc]
        rfl
      · rw [if_neg hc, rprops_l0 a l l2 n hl (d - 1) k (i + 1) out (by omega) (by omega) (by omega) (by omega), byN_miss hc]
    · rw [if_neg (by omega), List.drop_eq_nil_of_le (by omega)]
      simp [byN]
theorem rprops (a : ByteArray) (l : List S45) (l2 : List S25) (n : ByteArray) (hl : l.length ≤ 2513169434916) : Ev (fun k => almanacref12_Props.f k a l l2 n) (byN l n) := ⟨l.length + 1, fun k hk => by
  have := rprops_l0 a l l2 n hl l.length k 0 [] (by omega) (by omega) (by omega) (Nat.le_refl _)
  unfold almanacref12_Props.f
  exact this⟩
theorem rprop (a : ByteArray) (l : List S45) (l2 : List S25) (n : ByteArray) (hl : l.length ≤ 2513169434916) : ∃ ps, Ev (fun k => almanacref12_Prop.f k a l l2 n) (match (byN l n)[0]? with | some x => (x.f0, x.f1, x.f2, true) | none => ((⟨#[]⟩ : ByteArray), ([] : List S77), (⟨#[]⟩ : ByteArray), false)) ∧ ps = () := by
  refine ⟨(), ?_, rfl⟩
  unfold almanacref12_Prop.f
  refine Ev.bind (rprops a l l2 n hl) ?_
  cases h : byN l n with
  | nil => exact ⟨0, fun k _ => by simp⟩
  | cons x r =>
    refine ⟨0, fun k _ => ?_⟩
    have e : rd_T45 (x :: r) 0 = x := by simp [rd_T45]
    rw [if_neg (by simp; omega), if_pos (by simp), e]
    simp
theorem othI_map : ∀ (l m : List S25) (i : Nat), m.drop i = l → (othI i l).map (fun j => m.getD j z25) = oth l
  | [], _, _, _ => rfl
  | x :: r, m, i, h => by
    have hx : m.getD i z25 = x := by
      have : m[i]? = some x := by rw [← List.head?_drop, h]; rfl
      rw [List.getD_eq_getElem?_getD, this]; rfl
    have hr : m.drop (i + 1) = r := by rw [← List.drop_drop, h]; rfl
    have ih := othI_map r m (i + 1) hr
    unfold othI oth
    rw [List.filter_cons]
    split
    · rename_i ht
      rw [if_neg (by rw [ht]; simp)]
      exact ih
    · rename_i ht
      rw [if_pos (by simpa using ht), List.map_cons, hx, ih]
      rfl
theorem oth_map0 (l : List S25) : (othI 0 l).map (fun j => l.getD j z25) = oth l := othI_map l l 0 rfl
theorem attP_oth (l : List S25) : attP l = (oth l).flatMap fun x => byN x.f1 attN := by
  unfold attP
  rw [← oth_map0, List.flatMap_map]
  rfl
theorem othF_len (l : List S25) : (oth l).length ≤ l.length := List.length_filter_le _ _
theorem oth_mem_l {l : List S25} {x : S25} (h : x ∈ oth l) : x ∈ l := (List.mem_filter.1 h).1
def orgOf : List S25 → ByteArray
  | [] => ⟨#[]⟩
  | x :: r => match (byN x.f1 orgN)[0]? with | some p => p.f2 | none => orgOf r
theorem find_head {α : Type} (p : α → Bool) (l : List α) : (l.filter p)[0]? = l.find? p := by
  induction l with
  | nil => rfl
  | cons x r ih =>
    rw [List.filter_cons, List.find?_cons]
    cases h : p x with
    | true => rw [if_pos rfl]; rfl
    | false => rw [if_neg (by simp)]; exact ih
theorem propP_byN (l : List S45) (n : ByteArray) : propP l n = match (byN l n)[0]? with | some x => (x.f2, true) | none => ((⟨#[]⟩ : ByteArray), false) := by
  unfold propP byN
  rw [find_head]
  cases l.find? (fun x => x.f0.toList == n.toList) <;> rfl
theorem organizer_org (l : List S25) : organizerP l = orgOf (oth l) := by
  unfold organizerP
  have h : ∀ is : List Nat, (match is.find? (fun i => (propP (l.getD i z25).f1 orgN).2) with | some i => (propP (l.getD i z25).f1 orgN).1 | none => (⟨#[]⟩ : ByteArray)) = orgOf (is.map fun j => l.getD j z25) := by
    intro is
    induction is with
    | nil => rfl
    | cons i r ih =>
      rw [List.map_cons, List.find?_cons]
      show _ = (match (byN (l.getD i z25).f1 orgN)[0]? with | some p => p.f2 | none => orgOf (r.map fun j => l.getD j z25))
      have hp := propP_byN (l.getD i z25).f1 orgN
      cases hb : (byN (l.getD i z25).f1 orgN)[0]? with
      | some x => rw [hb] at hp; simp only [hp]
      | none => rw [hb] at hp; simp only [hp]; exact ih
  exact (h (othI 0 l)).trans (by rw [oth_map0])
def LimL (l : List S25) : Prop := l.length ≤ 1000000000 ∧ ∀ x ∈ l, x.f1.length ≤ 1000000000
theorem rorg_l0 (l : List S25) (hl : LimL l) : ∀ (d i : Nat), l.length - i = d → i ≤ l.length → Ev (fun k => almanacref26_Organizer.l0 k l i) (orgOf (l.drop i)) := by
  intro d
  induction d with
  | zero =>
    intro i hd hi
    refine ⟨1, fun k hk => ?_⟩
    obtain ⟨k, rfl⟩ : ∃ m, k = m + 1 := ⟨k - 1, by omega⟩
    simp only [almanacref26_Organizer.l0]
    rw [if_neg (by omega), List.drop_eq_nil_of_le (by omega)]
    rfl
  | succ d ih =>
    intro i hd hi
    have hlt : i < l.length := by omega
    have hln := hl.1
    obtain ⟨_, hp, _⟩ := rprop l[i].f0 l[i].f1 l[i].f2 orgN (by have := hl.2 l[i] (List.getElem_mem hlt); omega)
    rw [List.drop_eq_getElem_cons hlt]
    refine Ev.step (f := fun k => (almanacref12_Prop.f k l[i].f0 l[i].f1 l[i].f2 orgN).bind fun bt214 => (if bt214.2.2.2 = true then (some bt214.2.2.1) else (almanacref26_Organizer.l0 k l ((i + 1 : Nat) : Int)))) (fun k => ?_) ?_
    · simp only [almanacref26_Organizer.l0]
      rw [if_pos (by omega), if_pos (by omega), wrap_next hlt (by omega), rd25_at l i hlt]
    · refine Ev.bind hp ?_
      show Ev _ (match (byN l[i].f1 orgN)[0]? with | some p => p.f2 | none => orgOf (l.drop (i + 1)))
      cases hb : (byN l[i].f1 orgN)[0]? with
      | some x => exact ⟨0, fun k _ => by simp⟩
      | none =>
        refine Ev.congr (fun k => ?_) (ih (i + 1) (by omega) (by omega))
        simp
theorem LimL.oth {l : List S25} (h : LimL l) : LimL (oth l) := ⟨Nat.le_trans (othF_len l) h.1, fun x hx => h.2 x (oth_mem_l hx)⟩
theorem rorg (a : ByteArray) (l1 : List S45) (l : List S25) (h : LimL l) : Ev (fun k => almanacref26_Organizer.f k a l1 l) (organizerP l) := by
  unfold almanacref26_Organizer.f
  refine Ev.bind (rothers a l1 l h.1) ?_
  rw [organizer_org]
  exact rorg_l0 (oth l) h.oth _ 0 rfl (Nat.zero_le _)
end Go.Proofs.Ytebmbfobmakheaa.PD
namespace Go.Proofs.Ytebmbfobmakheaa.PD
open Go.RowKit Go.Proofs.YtebmbfobmakheaaW.PrintWords Go.Proofs.YtebmbfobmakheaaW.PrintLast Go.Proofs.YtebmbfobmakheaaW.PrintMore
attribute [local go_sem] isSome_setCell max2_int min2_int max_two min_two max_three min_three max_four min_four
set_option linter.unusedVariables false
set_option linter.unusedSimpArgs false
def almanacref08_Texts.l0 : Nat → List ByteArray → List ByteArray → Int → Option (Bool)
  | 0, _, _, _ => none
  | k + 1, x0, x1, x5 => if x5 < (x0.length : Int) then (if 0 ≤ x5 then (if x5 < (x1.length : Int) then (if (rdOf ByteArray.empty x0 x5).toList = (rdOf ByteArray.empty x1 x5).toList then (almanacref08_Texts.l0 k x0 x1 (wrap64 (x5 + 1))) else (some false)) else (none)) else (none)) else (some true)
def almanacref08_Texts.f (k : Nat) (l0 : List ByteArray) (l1 : List ByteArray) : Option (Bool) := if (l0.length : Int) = (l1.length : Int) then (almanacref08_Texts.l0 k l0 l1 0) else (some false)
set_option maxHeartbeats 8000000 in
set_option maxRecDepth 100000 in
theorem almanacref08_Texts.calls (k : Nat) (A0 : Option Addr) (c0 : Nat) (l0 : List ByteArray) (A1 : Option Addr) (c1 : Nat) (l1 : List ByteArray) (r : Bool) (w : World) (hr0 : Kd.C Kd.string w A0 l0.length l0) (hc0 : l0.length ≤ c0) (hr1 : Kd.C Kd.string w A1 l1.length l1) (hc1 : l1.length ≤ c1) (h : almanacref08_Texts.f k l0 l1 = some r) :
    Calls Try.prog 14 #[.slice A0 l0.length c0, .slice A1 l1.length c1] w fun e w' => e = .returned (.bool r) ∧ Drawn0 w w' := by
  have HR0 := Aside0.mk hr0
  have HC0 := Aside0.mk hc0
  clear hr0 hc0
  have HR1 := Aside0.mk hr1
  have HC1 := Aside0.mk hc1
  clear hr1 hc1
  have H : (if (l0.length : Int) = (l1.length : Int) then (almanacref08_Texts.l0 k l0 l1 0) else (some false)) = some r := h
  clear h
  by_cases c3 : (l0.length : Int) = (l1.length : Int)
  · rw [if_pos c3] at H
    have c3b0 : ((l0.length : Int) == (l1.length : Int)) = true := beq_iff_eq.mpr c3
    have c3b1 : ((l0.length : Int) != (l1.length : Int)) = false := bne_eq_false_iff_eq.mpr c3
    have c3b2 : (l0.length == l1.length) = true := by first | simpa using c3 | (simp at c3 ⊢; omega)
    clear c3
    have H' := Aside0.mk H
    clear H
    go_enter Try.func14, Try.ntmps14
    go_wp2
    repeat (go_quiet (fail); try go_wp2)
    go_loopg [5] k (fun kq v5 w' => ∃ (x5_1 : Int), v5 = .int .i64 x5_1 ∧ Aside0 (almanacref08_Texts.l0 kq l0 l1 x5_1 = some r) ∧ Aside0 (kq ≤ k) ∧ Drawn0 w w')
    case atStart => exact ⟨(0), (by first | rfl | (simp; done) | (simp [*]; done)), H', ⟨Nat.le_refl _⟩, by repeat (first | exact Drawn0.refl _ | apply Drawn0.step)⟩
    case round =>
      clear H'
      try clear c1
      try clear p2
      try clear c3
      try clear c3b0
      try clear c3b1
      try clear c3b2
      obtain ⟨x5_1, rfl, HA, HK1, ⟨m1, rfl⟩⟩ := hrel
      cases gk with
      | zero => exact absurd HA.out (by simp [almanacref08_Texts.l0])
      | succ k1 =>
        have H := HA.out
        clear HA
        simp only [almanacref08_Texts.l0] at H
        by_cases c4 : x5_1 < (l0.length : Int)
        · rw [if_pos c4] at H
          have c4b0 : decide (x5_1 < (l0.length : Int)) = true := decide_eq_true c4
          clear c4
          by_cases c5 : 0 ≤ x5_1
          · rw [if_pos c5] at H
            have c5b0 : decide (0 ≤ x5_1) = true := decide_eq_true c5
            clear c5
            by_cases c6 : x5_1 < (l1.length : Int)
            · rw [if_pos c6] at H
              have c6b0 : decide (x5_1 < (l1.length : Int)) = true := decide_eq_true c6
              clear c6
              by_cases c7 : (rdOf ByteArray.empty l0 x5_1).toList = (rdOf ByteArray.empty l1 x5_1).toList
              · rw [if_pos c7] at H
                have c7b0 : ((rdOf ByteArray.empty l0 x5_1).toList == (rdOf ByteArray.empty l1 x5_1).toList) = true := beq_iff_eq.mpr c7
                have c7b1 : ((rdOf ByteArray.empty l0 x5_1).toList != (rdOf ByteArray.empty l1 x5_1).toList) = false := bne_eq_false_iff_eq.mpr c7
                clear c7
                have H' := Aside0.mk H
                clear H
                have p128 : 0 ≤ (x5_1 : Int) := of_decide_eq_true (by first | (with_reducible assumption) | assumption)
                have q128 : x5_1 < (l0.length : Int) := of_decide_eq_true (by first | (with_reducible assumption) | assumption)
                obtain ⟨ad128, e128, hx128_0⟩ := Kd.at_string HR0.out x5_1 p128 q128
                cases e128
                replace p128 := eq_true p128
                replace q128 := eq_true q128
                have p129 : 0 ≤ (x5_1 : Int) := of_decide_eq_true (by first | (with_reducible assumption) | assumption)
                have q129 : x5_1 < (l1.length : Int) := of_decide_eq_true (by first | (with_reducible assumption) | assumption)
                obtain ⟨ad129, e129, hx129_0⟩ := Kd.at_string HR1.out x5_1 p129 q129
                cases e129
                replace p129 := eq_true p129
                replace q129 := eq_true q129
                go_wp2
                repeat (go_quiet (fail); try go_wp2)
                go_roundg k1
                case measure => have := HK1.out; omega
                case rel => exact ⟨(wrap64 (x5_1 + 1)), (by first | rfl | (simp; done) | (simp [*]; done)), H', ⟨by have := HK1.out; omega⟩, by repeat (first | exact Drawn0.refl _ | apply Drawn0.step)⟩
              · rw [if_neg c7] at H
                have c7b0 : ((rdOf ByteArray.empty l0 x5_1).toList == (rdOf ByteArray.empty l1 x5_1).toList) = false := beq_eq_false_iff_ne.mpr c7
                have c7b1 : ((rdOf ByteArray.empty l0 x5_1).toList != (rdOf ByteArray.empty l1 x5_1).toList) = true := bne_iff_ne.mpr c7
                obtain rfl := Option.some.inj H
                have p128 : 0 ≤ (x5_1 : Int) := of_decide_eq_true (by first | (with_reducible assumption) | assumption)
                have q128 : x5_1 < (l0.length : Int) := of_decide_eq_true (by first | (with_reducible assumption) | assumption)
                obtain ⟨ad128, e128, hx128_0⟩ := Kd.at_string HR0.out x5_1 p128 q128
                cases e128
                replace p128 := eq_true p128
                replace q128 := eq_true q128
                have p129 : 0 ≤ (x5_1 : Int) := of_decide_eq_true (by first | (with_reducible assumption) | assumption)
                have q129 : x5_1 < (l1.length : Int) := of_decide_eq_true (by first | (with_reducible assumption) | assumption)
                obtain ⟨ad129, e129, hx129_0⟩ := Kd.at_string HR1.out x5_1 p129 q129
                cases e129
                replace p129 := eq_true p129
                replace q129 := eq_true q129
                go_wp2
                repeat (go_quiet (fail); try go_wp2)
                go_ret
                exact ⟨by first | rfl | (simp; done) | (simp [*]; done), by repeat (first | exact Drawn0.refl _ | apply Drawn0.step)⟩
            · rw [if_neg c6] at H
              exact absurd H (by simp)
          · rw [if_neg c5] at H
            exact absurd H (by simp)
        · rw [if_neg c4] at H
          have c4b0 : decide (x5_1 < (l0.length : Int)) = false := decide_eq_false c4
          clear c4
          obtain rfl := Option.some.inj H
          go_wp2
          repeat (go_quiet (fail); try go_wp2)
          go_ret
          exact ⟨by first | rfl | (simp; done) | (simp [*]; done), by repeat (first | exact Drawn0.refl _ | apply Drawn0.step)⟩
  · rw [if_neg c3] at H
    have c3b0 : ((l0.length : Int) == (l1.length : Int)) = false := beq_eq_false_iff_ne.mpr c3
    have c3b1 : ((l0.length : Int) != (l1.length : Int)) = true := bne_iff_ne.mpr c3
    have c3b2 : (l0.length == l1.length) = false := by first | simpa using c3 | (simp at c3 ⊢; omega)
    obtain rfl := Option.some.inj H
    go_enter Try.func14, Try.ntmps14
    go_wp2
    repeat (go_quiet (fail); try go_wp2)
    go_ret
    exact ⟨by first | rfl | (simp; done) | (simp [*]; done), by repeat (first | exact Drawn0.refl _ | apply Drawn0.step)⟩
end Go.Proofs.Ytebmbfobmakheaa.PD
namespace Go.Proofs.Ytebmbfobmakheaa.PD
open Go.RowKit Go.Proofs.YtebmbfobmakheaaW.PrintWords Go.Proofs.YtebmbfobmakheaaW.PrintLast Go.Proofs.YtebmbfobmakheaaW.PrintMore
set_option linter.unusedVariables false
set_option linter.unusedSimpArgs false
theorem ralike (a b : ByteArray) (ha : shortB a = true) (hb : shortB b = true) : Ev (fun k => almanacref26_Alike.f k a b) (alikeB a b) := ⟨a.size + b.size + 2, fun k hk => by
  obtain ⟨k, rfl⟩ : ∃ m, k = m + 1 := ⟨k - 1, by omega⟩
  exact ralike_val k a b ha hb (by omega) (by omega)⟩
theorem rin_l0 (l : List ByteArray) (a : ByteArray) (hl : ∀ y ∈ l, shortB y = true) (ha : shortB a = true) (hm : l.length ≤ 9223372036854775807) : ∀ (d i : Nat), l.length - i = d → i ≤ l.length → Ev (fun k => almanacref26_In.l0 k l a i) ((l.drop i).any fun y => alikeB y a) := by
  intro d
  induction d with
  | zero =>
    intro i hd hi
    refine ⟨1, fun k hk => ?_⟩
    obtain ⟨k, rfl⟩ : ∃ m, k = m + 1 := ⟨k - 1, by omega⟩
    simp only [almanacref26_In.l0]
    rw [if_neg (by omega), List.drop_eq_nil_of_le (by omega)]
    rfl
  | succ d ih =>
    intro i hd hi
    have hlt : i < l.length := by omega
    rw [List.drop_eq_getElem_cons hlt, List.any_cons]
    refine Ev.step (f := fun k => (almanacref26_Alike.f k l[i] a).bind fun t226 => (if t226 = true then (some true) else (almanacref26_In.l0 k l a ((i + 1 : Nat) : Int)))) (fun k => ?_) ?_
    · simp only [almanacref26_In.l0]
      rw [if_pos (by omega), if_pos (by omega), wrap_next hlt (by omega), rdB_at l i hlt]
    · refine Ev.bind (ralike l[i] a (hl _ (List.getElem_mem hlt)) ha) ?_
      cases hb : alikeB l[i] a with
      | true => exact ⟨0, fun k _ => rfl⟩
      | false =>
        rw [Bool.false_or]
        refine Ev.congr (fun k => ?_) (ih (i + 1) (by omega) (by omega))
        rw [if_neg (by simp)]
theorem rin (l : List ByteArray) (a : ByteArray) (hl : ∀ y ∈ l, shortB y = true) (ha : shortB a = true) (hm : l.length ≤ 9223372036854775807) : Ev (fun k => almanacref26_In.f k l a) (l.any fun y => alikeB y a) := rin_l0 l a hl ha hm _ 0 rfl (Nat.zero_le _)
theorem addA_len (out : List ByteArray) (x : S45) : (addA out x).length ≤ out.length + 1 := by unfold addA; split <;> simp
theorem addA_short {out : List ByteArray} {x : S45} (h : ∀ y ∈ out, shortB y = true) (hx : shortB x.f2 = true) : ∀ y ∈ addA out x, shortB y = true := by
  unfold addA
  split
  · exact h
  · intro y hy
    rcases List.mem_append.1 hy with hy | hy
    · exact h y hy
    · rw [List.mem_singleton.1 hy]; exact hx
def attL (l : List S25) : List S45 := l.flatMap fun x => byN x.f1 attN
theorem rat_l1 (l : List S25) (i : Nat) (hi : i < l.length) (hll : l.length ≤ 1000000000) (ps : List S45) (r : List ByteArray) (hps : ∀ p ∈ ps, shortB p.f2 = true) (hpm : ps.length ≤ 1000000000) (rest : Nat) : ∀ (d j : Nat) (out : List ByteArray), ps.length - j = d → j ≤ ps.length → (∀ y ∈ out, shortB y = true) → out.length + (ps.length - j) + rest ≤ 1000000 →
    (∀ out' : List ByteArray, (∀ y ∈ out', shortB y = true) → out'.length + rest ≤ 1000000 → out' = (ps.drop j).foldl addA out → Ev (fun k => almanacref26_Attendees.l0 k out' l ((i + 1 : Nat) : Int)) r) → Ev (fun k => almanacref26_Attendees.l1 k out l i ps j) r := by
  intro d
  induction d with
  | zero =>
    intro j out hd hj ho hn h
    have h1 := h out ho (by omega) (by rw [List.drop_eq_nil_of_le (by omega)]; rfl)
    refine Ev.step (f := fun k => almanacref26_Attendees.l0 k out l ((i + 1 : Nat) : Int)) (fun k => ?_) h1
    simp only [almanacref26_Attendees.l1]
    rw [if_neg (by omega), wrap_next hi (by omega)]
  | succ d ih =>
    intro j out hd hj ho hn h
    have hlt : j < ps.length := by omega
    have hs := hps ps[j] (List.getElem_mem hlt)
    refine Ev.step (f := fun k => (almanacref26_In.f k out ps[j].f2).bind fun t236 => (if t236 = true then (almanacref26_Attendees.l1 k out l i ps ((j + 1 : Nat) : Int)) else (almanacref26_Attendees.l1 k (out ++ [ps[j].f2]) l i ps ((j + 1 : Nat) : Int)))) (fun k => ?_) ?_
    · simp only [almanacref26_Attendees.l1]
      rw [if_pos (by omega), if_pos (by omega), wrap_next hlt (by have := hn; omega), rd45_at ps j hlt, if_pos (show out.length < 8796093022208 by omega)]
    · refine Ev.bind (rin out ps[j].f2 ho hs (by omega)) ?_
      have hnx := ih (j + 1) (addA out ps[j]) (by omega) (by omega) (addA_short ho hs) (by have := addA_len out ps[j]; omega) (fun out' h1 h2 h3 => h out' h1 h2 (by rw [h3, List.drop_eq_getElem_cons hlt]; rfl))
      unfold addA at hnx
      cases hb : (out.any fun y => alikeB y ps[j].f2) with
      | true =>
        rw [hb, if_pos rfl] at hnx
        refine Ev.congr (fun k => ?_) hnx
        rw [if_pos rfl]
      | false =>
        rw [hb, if_neg (by simp)] at hnx
        refine Ev.congr (fun k => ?_) hnx
        rw [if_neg (by simp)]
theorem rat_l0 (l : List S25) (hl : LimL l) (hs : ∀ p ∈ attL l, shortB p.f2 = true) : ∀ (d i : Nat) (out : List ByteArray), l.length - i = d → i ≤ l.length → (∀ y ∈ out, shortB y = true) → out.length + (attL (l.drop i)).length ≤ 1000000 →
    Ev (fun k => almanacref26_Attendees.l0 k out l i) ((attL (l.drop i)).foldl addA out) := by
  intro d
  induction d with
  | zero =>
    intro i out hd hi ho hn
    refine ⟨1, fun k hk => ?_⟩
    obtain ⟨k, rfl⟩ : ∃ m, k = m + 1 := ⟨k - 1, by omega⟩
    simp only [almanacref26_Attendees.l0]
    rw [if_neg (by omega), List.drop_eq_nil_of_le (by omega)]
    rfl
  | succ d ih =>
    intro i out hd hi ho hn
    have hlt : i < l.length := by omega
    have hln := hl.1
    rw [List.drop_eq_getElem_cons hlt] at hn ⊢
    have hc : attL (l[i] :: l.drop (i + 1)) = byN l[i].f1 attN ++ attL (l.drop (i + 1)) := rfl
    rw [hc, List.length_append] at hn
    rw [hc, List.foldl_append]
    refine Ev.step (f := fun k => (almanacref12_Props.f k l[i].f0 l[i].f1 l[i].f2 attN).bind fun t232 => (almanacref26_Attendees.l1 k out l i t232 0)) (fun k => ?_) ?_
    · simp only [almanacref26_Attendees.l0]
      rw [if_pos (by omega), if_pos (by omega), rd25_at l i hlt]
    · refine Ev.bind (rprops l[i].f0 l[i].f1 l[i].f2 attN (by have := hl.2 l[i] (List.getElem_mem hlt); omega)) ?_
      refine rat_l1 l i hlt hl.1 (byN l[i].f1 attN) _ (fun p hp => hs p (List.mem_flatMap.2 ⟨l[i], List.getElem_mem hlt, hp⟩)) (Nat.le_trans (List.length_filter_le _ _) (hl.2 l[i] (List.getElem_mem hlt))) (attL (l.drop (i + 1))).length _ 0 out rfl (Nat.zero_le _) ho (by omega) (fun out' h1 h2 h3 => ?_)
      rw [List.drop_zero] at h3
      subst h3
      exact ih (i + 1) _ (by omega) (by omega) h1 (by omega)
theorem ratt (a : ByteArray) (l1 : List S45) (l : List S25) (h : LimL l) (hs : ∀ p ∈ attP l, shortB p.f2 = true) (hn : (attP l).length ≤ 1000000) : Ev (fun k => almanacref26_Attendees.f k a l1 l) (attendeesP l) := by
  unfold almanacref26_Attendees.f
  refine Ev.bind (rothers a l1 l h.1) ?_
  unfold attendeesP
  rw [attP_oth] at hs hn ⊢
  have := rat_l0 (oth l) h.oth hs _ 0 [] rfl (Nat.zero_le _) (fun y hy => by cases hy) (by rw [List.drop_zero, List.length_nil, Nat.zero_add]; exact hn)
  rw [List.drop_zero] at this
  exact this
theorem rtexts_same_l0 (l : List ByteArray) (hm : l.length ≤ 9223372036854775807) : ∀ (d k i : Nat), l.length - i = d → i ≤ l.length → d < k → almanacref08_Texts.l0 k l l i = some true
  | d, 0, _, _, _, hk => absurd hk (Nat.not_lt_zero _)
  | d, k + 1, i, hd, hi, hk => by
    simp only [almanacref08_Texts.l0]
    by_cases hlt : i < l.length
    · rw [if_pos (by omega), if_pos (by omega), if_pos (by omega), if_pos trivial, wrap_next hlt (by omega)]
      exact rtexts_same_l0 l hm (d - 1) k (i + 1) (by omega) (by omega) (by omega)
    · rw [if_neg (by omega)]
theorem rtexts_same (l : List ByteArray) (hm : l.length ≤ 9223372036854775807) : Ev (fun k => almanacref08_Texts.f k l l) true := ⟨l.length + 1, fun k hk => by
  show almanacref08_Texts.f k l l = some true
  unfold almanacref08_Texts.f
  rw [if_pos rfl]
  exact rtexts_same_l0 l hm _ k 0 rfl (Nat.zero_le _) (by omega)⟩
end Go.Proofs.Ytebmbfobmakheaa.PD
namespace Go.Proofs.Ytebmbfobmakheaa.PD
open Go.RowKit Go.Proofs.YtebmbfobmakheaaW.PrintWords Go.Proofs.YtebmbfobmakheaaW.PrintLast Go.Proofs.YtebmbfobmakheaaW.PrintMore
attribute [local go_sem] isSome_setCell max2_int min2_int max_two min_two max_three min_three max_four min_four
set_option linter.unusedVariables false
set_option linter.unusedSimpArgs false
def slices_Equal_string_string.l0 : Nat → List ByteArray → List ByteArray → Int → Int → Option (Bool)
  | 0, _, _, _, _ => none
  | k + 1, x0, x1, x12, x13 => if x13 < x12 then (if 0 ≤ x13 then (if x13 < (x0.length : Int) then (if x13 < (x1.length : Int) then (if (rdOf ByteArray.empty x0 x13).toList = (rdOf ByteArray.empty x1 x13).toList then (slices_Equal_string_string.l0 k x0 x1 x12 (wrap64 (x13 + 1))) else (some false)) else (none)) else (none)) else (none)) else (some true)
def slices_Equal_string_string.f (k : Nat) (l0 : List ByteArray) (l1 : List ByteArray) : Option (Bool) := if (l0.length : Int) = (l1.length : Int) then (slices_Equal_string_string.l0 k l0 l1 (l0.length : Int) 0) else (some false)
set_option maxHeartbeats 8000000 in
set_option maxRecDepth 100000 in
theorem slices_Equal_string_string.calls (k : Nat) (A0 : Option Addr) (c0 : Nat) (l0 : List ByteArray) (A1 : Option Addr) (c1 : Nat) (l1 : List ByteArray) (r : Bool) (w : World) (hr0 : Kd.C Kd.string w A0 l0.length l0) (hc0 : l0.length ≤ c0) (hr1 : Kd.C Kd.string w A1 l1.length l1) (hc1 : l1.length ≤ c1) (h : slices_Equal_string_string.f k l0 l1 = some r) :
    Calls Try.prog 87 #[.slice A0 l0.length c0, .slice A1 l1.length c1] w fun e w' => e = .returned (.bool r) ∧ Drawn0 w w' := by
  have HR0 := Aside0.mk hr0
  have HC0 := Aside0.mk hc0
  clear hr0 hc0
  have HR1 := Aside0.mk hr1
  have HC1 := Aside0.mk hc1
  clear hr1 hc1
  have H : (if (l0.length : Int) = (l1.length : Int) then (slices_Equal_string_string.l0 k l0 l1 (l0.length : Int) 0) else (some false)) = some r := h
  clear h
  by_cases c3 : (l0.length : Int) = (l1.length : Int)
  · rw [if_pos c3] at H
    have c3b0 : ((l0.length : Int) == (l1.length : Int)) = true := beq_iff_eq.mpr c3
    have c3b1 : ((l0.length : Int) != (l1.length : Int)) = false := bne_eq_false_iff_eq.mpr c3
    have c3b2 : (l0.length == l1.length) = true := by first | simpa using c3 | (simp at c3 ⊢; omega)
    clear c3
    have H' := Aside0.mk H
    clear H
    go_enter Try.func87, Try.ntmps87
    go_wp2
    repeat (go_quiet (fail); try go_wp2)
    go_loopg [13] k (fun kq v13 w' => ∃ (x13_1 : Int), v13 = .int .i64 x13_1 ∧ Aside0 (slices_Equal_string_string.l0 kq l0 l1 (l0.length : Int) x13_1 = some r) ∧ Aside0 (kq ≤ k) ∧ Drawn0 w w')
    case atStart => exact ⟨(0), (by first | rfl | (simp; done) | (simp [*]; done)), H', ⟨Nat.le_refl _⟩, by repeat (first | exact Drawn0.refl _ | apply Drawn0.step)⟩
    case round =>
      clear H'
      try clear c1
      try clear p2
      try clear c3
      try clear c3b0
      try clear c3b1
      try clear c3b2
      obtain ⟨x13_1, rfl, HA, HK1, ⟨m1, rfl⟩⟩ := hrel
      cases gk with
      | zero => exact absurd HA.out (by simp [slices_Equal_string_string.l0])
      | succ k1 =>
        have H := HA.out
        clear HA
        simp only [slices_Equal_string_string.l0] at H
        by_cases c4 : x13_1 < (l0.length : Int)
        · rw [if_pos c4] at H
          have c4b0 : decide (x13_1 < (l0.length : Int)) = true := decide_eq_true c4
          clear c4
          by_cases c5 : 0 ≤ x13_1
          · rw [if_pos c5] at H
            have c5b0 : decide (0 ≤ x13_1) = true := decide_eq_true c5
            clear c5
            by_cases c6 : x13_1 < (l0.length : Int)
            · rw [if_pos c6] at H
              have c6b0 : decide (x13_1 < (l0.length : Int)) = true := decide_eq_true c6
              clear c6
              by_cases c7 : x13_1 < (l1.length : Int)
              · rw [if_pos c7] at H
                have c7b0 : decide (x13_1 < (l1.length : Int)) = true := decide_eq_true c7
                clear c7
                by_cases c8 : (rdOf ByteArray.empty l0 x13_1).toList = (rdOf ByteArray.empty l1 x13_1).toList
                · rw [if_pos c8] at H
                  have c8b0 : ((rdOf ByteArray.empty l0 x13_1).toList == (rdOf ByteArray.empty l1 x13_1).toList) = true := beq_iff_eq.mpr c8
                  have c8b1 : ((rdOf ByteArray.empty l0 x13_1).toList != (rdOf ByteArray.empty l1 x13_1).toList) = false := bne_eq_false_iff_eq.mpr c8
                  clear c8
                  have H' := Aside0.mk H
                  clear H
                  have p602 : 0 ≤ (x13_1 : Int) := of_decide_eq_true (by first | (with_reducible assumption) | assumption)
                  have q602 : x13_1 < (l0.length : Int) := of_decide_eq_true (by first | (with_reducible assumption) | assumption)
                  obtain ⟨ad602, e602, hx602_0⟩ := Kd.at_string HR0.out x13_1 p602 q602
                  cases e602
                  replace p602 := eq_true p602
                  replace q602 := eq_true q602
                  have p603 : 0 ≤ (x13_1 : Int) := of_decide_eq_true (by first | (with_reducible assumption) | assumption)
                  have q603 : x13_1 < (l1.length : Int) := of_decide_eq_true (by first | (with_reducible assumption) | assumption)
                  obtain ⟨ad603, e603, hx603_0⟩ := Kd.at_string HR1.out x13_1 p603 q603
                  cases e603
                  replace p603 := eq_true p603
                  replace q603 := eq_true q603
                  go_wp2
                  repeat (go_quiet (fail); try go_wp2)
                  go_roundg k1
                  case measure => have := HK1.out; omega
                  case rel => exact ⟨(wrap64 (x13_1 + 1)), (by first | rfl | (simp; done) | (simp [*]; done)), H', ⟨by have := HK1.out; omega⟩, by repeat (first | exact Drawn0.refl _ | apply Drawn0.step)⟩
                · rw [if_neg c8] at H
                  have c8b0 : ((rdOf ByteArray.empty l0 x13_1).toList == (rdOf ByteArray.empty l1 x13_1).toList) = false := beq_eq_false_iff_ne.mpr c8
                  have c8b1 : ((rdOf ByteArray.empty l0 x13_1).toList != (rdOf ByteArray.empty l1 x13_1).toList) = true := bne_iff_ne.mpr c8
                  obtain rfl := Option.some.inj H
                  have p602 : 0 ≤ (x13_1 : Int) := of_decide_eq_true (by first | (with_reducible assumption) | assumption)
                  have q602 : x13_1 < (l0.length : Int) := of_decide_eq_true (by first | (with_reducible assumption) | assumption)
                  obtain ⟨ad602, e602, hx602_0⟩ := Kd.at_string HR0.out x13_1 p602 q602
                  cases e602
                  replace p602 := eq_true p602
                  replace q602 := eq_true q602
                  have p603 : 0 ≤ (x13_1 : Int) := of_decide_eq_true (by first | (with_reducible assumption) | assumption)
                  have q603 : x13_1 < (l1.length : Int) := of_decide_eq_true (by first | (with_reducible assumption) | assumption)
                  obtain ⟨ad603, e603, hx603_0⟩ := Kd.at_string HR1.out x13_1 p603 q603
                  cases e603
                  replace p603 := eq_true p603
                  replace q603 := eq_true q603
                  go_wp2
                  repeat (go_quiet (fail); try go_wp2)
                  go_ret
                  exact ⟨by first | rfl | (simp; done) | (simp [*]; done), by repeat (first | exact Drawn0.refl _ | apply Drawn0.step)⟩
              · rw [if_neg c7] at H
                exact absurd H (by simp)
            · rw [if_neg c6] at H
              exact absurd H (by simp)
          · rw [if_neg c5] at H
            exact absurd H (by simp)
        · rw [if_neg c4] at H
          have c4b0 : decide (x13_1 < (l0.length : Int)) = false := decide_eq_false c4
          clear c4
          obtain rfl := Option.some.inj H
          go_wp2
          repeat (go_quiet (fail); try go_wp2)
          go_ret
          exact ⟨by first | rfl | (simp; done) | (simp [*]; done), by repeat (first | exact Drawn0.refl _ | apply Drawn0.step)⟩
  · rw [if_neg c3] at H
    have c3b0 : ((l0.length : Int) == (l1.length : Int)) = false := beq_eq_false_iff_ne.mpr c3
    have c3b1 : ((l0.length : Int) != (l1.length : Int)) = true := bne_iff_ne.mpr c3
    have c3b2 : (l0.length == l1.length) = false := by first | simpa using c3 | (simp at c3 ⊢; omega)
    obtain rfl := Option.some.inj H
    go_enter Try.func87, Try.ntmps87
    go_wp2
    repeat (go_quiet (fail); try go_wp2)
    go_ret
    exact ⟨by first | rfl | (simp; done) | (simp [*]; done), by repeat (first | exact Drawn0.refl _ | apply Drawn0.step)⟩
end Go.Proofs.Ytebmbfobmakheaa.PD
namespace Go.Proofs.Ytebmbfobmakheaa.PD
open Go.RowKit Go.Shelf Go.Proofs.YtebmbfobmakheaaW.PrintWords Go.Proofs.YtebmbfobmakheaaW.PrintLast Go.Proofs.YtebmbfobmakheaaW.PrintMore
attribute [local go_sem] isSome_setCell Oper.semAt_some wide_fn wide_depth
set_option linter.unusedVariables false
set_option linter.unusedSimpArgs false
def eqL {α : Type} (p : α → α → Bool) (l m : List α) : Bool := decide (l.length = m.length) && (l.zip m).all fun q => p q.1 q.2
theorem eqL_true {α : Type} (p : α → α → Bool) (l m : List α) (h : l.length = m.length) (hp : ∀ j (hj : j < l.length), p l[j] (m[j]'(by omega)) = true) : eqL p l m = true := by
  unfold eqL
  rw [decide_eq_true h, Bool.true_and, List.all_eq_true]
  intro q hq
  obtain ⟨j, hj, rfl⟩ := List.getElem_of_mem hq
  rw [List.length_zip] at hj
  rw [List.getElem_zip]
  exact hp j (by omega)
theorem eqL_false {α : Type} (p : α → α → Bool) (l m : List α) (h : l.length = m.length) (j : Nat) (hj : j < l.length) (hp : p l[j] (m[j]'(by omega)) = false) : eqL p l m = false := by
  unfold eqL
  rw [decide_eq_true h, Bool.true_and]
  rw [List.all_eq_false]
  refine ⟨(l.zip m)[j]'(by rw [List.length_zip]; omega), List.getElem_mem _, ?_⟩
  rw [List.getElem_zip]
  simp [hp]
set_option maxRecDepth 100000 in
set_option maxHeartbeats 4000000 in
theorem eqF77 (p : S77 → S77 → Bool) (A0 : Option Addr) (c0 : Nat) (l : List S77) (A1 : Option Addr) (c1 : Nat) (m : List S77) (w : World) (hr0 : Kd.C k77 w A0 l.length l) (hr1 : Kd.C k77 w A1 m.length m)
    (hp : ∀ x ∈ l, ∀ y ∈ m, ∀ A2 c2 A3 c3 W, Below w.heap.size w W → x.f1.length ≤ c2 ∧ Kd.C Kd.string W A2 x.f1.length x.f1 ∧ y.f1.length ≤ c3 ∧ Kd.C Kd.string W A3 y.f1.length y.f1 → Calls Try.prog 86 #[.agg #[.string x.f0, .slice A2 x.f1.length c2], .agg #[.string y.f0, .slice A3 y.f1.length c3]] W fun e W' => e = .returned (.bool (p x y)) ∧ Below W.heap.size W W') :
    Calls Try.prog 85 #[.slice A0 l.length c0, .slice A1 m.length c1, .func (.func 86) #[] #[]] w fun e w' => e = .returned (.bool (eqL p l m)) ∧ Below w.heap.size w w' := by
  have HR0 := Aside0.mk hr0
  have HR1 := Aside0.mk hr1
  have hml : l.length ≤ 9223372036854775807 := by have := hr0.2.1; unfold maxLen at this; omega
  have hmm : m.length ≤ 9223372036854775807 := by have := hr1.2.1; unfold maxLen at this; omega
  have HP := Aside0.mk hp
  have HB := Aside0.mk (Below.refl w.heap.size w)
  clear hr0 hr1 hp
  refine (callsIn_wide (n := 51)).1 ?_
  refine callsIn_of_wp Try.func85 rfl trivial ?_ rfl
  simp only [Try.ntmps85, List.size_toArray, List.length_cons, List.length_nil, Nat.reduceAdd, Nat.reduceSub, Array.replicate_succ, Array.replicate_zero, List.push_toArray, List.append_toArray, List.nil_append, List.cons_append]
  by_cases hlen : l.length = m.length
  · have e1 : ((l.length : Int) == (m.length : Int)) = true := beq_iff_eq.2 (by omega)
    have e2 : ((l.length : Int) != (m.length : Int)) = false := by simp [hlen]
    have e3 : ((l.length : Int) = (m.length : Int)) = True := eq_true (by omega)
    have HL := Aside0.mk hlen
    have hl1 : ∀ j, j < l.length → j < m.length := fun j h => by omega
    have HL1 := Aside0.mk hl1
    clear hlen hl1
    gi_wp2
    gi_loopw [17] (fun v wr => ∃ k : Nat, v = .int .i64 k ∧ k ≤ l.length ∧ Aside0 (∀ j, (hj : j < l.length) → j < k → p l[j] (m[j]'(HL1.out j hj)) = true) ∧ Aside0 (Below w.heap.size w wr)) (fun v _ => l.length - (intOf v).toNat)
    case atStart => exact ⟨0, rfl, Nat.zero_le _, ⟨fun j _ hj => absurd hj (Nat.not_lt_zero _)⟩, HB⟩
    case round =>
      obtain ⟨k, rfl, hk, hyes, hb⟩ := hrel
      by_cases hlt : k < l.length
      · have hlt0 : decide ((k : Int) < (l.length : Int)) = true := decide_eq_true (by omega)
        have hltm : k < m.length := HL1.out k hlt
        have q1 : ((k : Int) < (m.length : Int)) = True := eq_true (by omega)
        obtain ⟨ad, A2, c2, e, hx0, hx1, h2x, h3x⟩ := at_T77 HR0.out (k : Int) (by omega) (by omega)
        obtain ⟨ad', A3, c3, e', hy0, hy1, h2y, h3y⟩ := at_T77 HR1.out (k : Int) (by omega) (by omega)
        subst e
        subst e'
        replace hx0 := (hb.out.cell (World.block_lt_of_cell? w _ hx0)).trans hx0
        replace hx1 := (hb.out.cell (World.block_lt_of_cell? w _ hx1)).trans hx1
        replace hy0 := (hb.out.cell (World.block_lt_of_cell? w _ hy0)).trans hy0
        replace hy1 := (hb.out.cell (World.block_lt_of_cell? w _ hy1)).trans hy1
        have hget : rd_T77 l (k : Int) = l[k] := by simp only [rd_T77, Int.toNat_natCast]; simp [hlt]
        have hget' : rd_T77 m (k : Int) = m[k] := by simp only [rd_T77, Int.toNat_natCast]; simp [hltm]
        rw [hget] at hx0 hx1 h2x h3x
        rw [hget'] at hy0 hy1 h2y h3y
        simp only [Int.toNat_natCast] at hx0 hx1 hy0 hy1
        have hbb : Below w.heap.size w ((wr.alloc (.cells #[.string l[k].f0, .slice A2 l[k].f1.length c2] 77)).alloc (.cells #[.string m[k].f0, .slice A3 m[k].f1.length c3] 77)) := hb.out.trans ((below_alloc (below_alloc (Below.refl wr.heap.size wr) _) _).mono hb.out.size)
        have HC := Aside0.mk (HP.out l[k] (List.getElem_mem hlt) m[k] (List.getElem_mem hltm) A2 c2 A3 c3 _ hbb ⟨h2x, Kd.C_below h3x hbb, h2y, Kd.C_below h3y hbb⟩)
        have hw0 := ((below_alloc (Below.refl wr.heap.size wr) (.cells #[.string l[k].f0, .slice A2 l[k].f1.length c2] 77)).cell (World.block_lt_of_cell? wr _ hy0)).trans hy0
        have hw1 := ((below_alloc (Below.refl wr.heap.size wr) (.cells #[.string l[k].f0, .slice A2 l[k].f1.length c2] 77)).cell (World.block_lt_of_cell? wr _ hy1)).trans hy1
        have HG := Aside0.mk (And.intro hget hget')
        clear hget hget'
        gi_wp2
        gi_at_call 86
        refine (callsIn_wide.2 HC.out).mono ?_
        rintro e W' ⟨rfl, hb'⟩
        have HB' := Aside0.mk (hbb.trans (hb'.mono (hbb).size))
        clear hb'
        cases hpk : p l[k] m[k] with
        | true =>
          have HPK := Aside0.mk hpk
          clear hpk
          gi_wp2
          go_roundw
          case rel =>
            refine ⟨k + 1, by simp, hlt, ⟨fun j hj hjk => ?_⟩, HB'⟩
            rcases Nat.lt_or_ge j k with h | h
            · exact hyes.out j hj h
            · obtain rfl : j = k := by omega
              exact HPK.out
          case measure =>
            show l.length - ((k : Int) + 1).toNat < l.length - (k : Int).toNat
            omega
        | false =>
          have HPK := Aside0.mk hpk
          clear hpk
          gi_wp2
          go_ret
          refine ⟨?_, HB'.out⟩
          rw [eqL_false p l m HL.out k hlt HPK.out]
          rfl
      · have hlt0 : decide ((k : Int) < (l.length : Int)) = false := decide_eq_false (by omega)
        gi_wp2
        go_ret
        refine ⟨?_, hb.out⟩
        rw [eqL_true p l m HL.out (fun j hj => hyes.out j hj (by omega))]
        rfl
  · have e1 : ((l.length : Int) == (m.length : Int)) = false := beq_eq_false_iff_ne.2 (by omega)
    have e2 : ((l.length : Int) != (m.length : Int)) = true := bne_iff_ne.2 (by omega)
    have e3 : ((l.length : Int) = (m.length : Int)) = False := eq_false (by omega)
    gi_wp2
    go_ret
    refine ⟨?_, HB.out⟩
    rw [show eqL p l m = false by unfold eqL; rw [decide_eq_false hlen]; rfl]
    rfl
set_option maxRecDepth 100000 in
set_option maxHeartbeats 4000000 in
theorem eqF45 (p : S45 → S45 → Bool) (A0 : Option Addr) (c0 : Nat) (l : List S45) (A1 : Option Addr) (c1 : Nat) (m : List S45) (w : World) (hr0 : Kd.C k45 w A0 l.length l) (hr1 : Kd.C k45 w A1 m.length m)
    (hp : ∀ x ∈ l, ∀ y ∈ m, ∀ A2 c2 A3 c3 W, Below w.heap.size w W → x.f1.length ≤ c2 ∧ Kd.C k77 W A2 x.f1.length x.f1 ∧ y.f1.length ≤ c3 ∧ Kd.C k77 W A3 y.f1.length y.f1 → Calls Try.prog 56 #[.agg #[.string x.f0, .slice A2 x.f1.length c2, .string x.f2], .agg #[.string y.f0, .slice A3 y.f1.length c3, .string y.f2]] W fun e W' => e = .returned (.bool (p x y)) ∧ Below W.heap.size W W') :
    Calls Try.prog 55 #[.slice A0 l.length c0, .slice A1 m.length c1, .func (.func 56) #[] #[]] w fun e w' => e = .returned (.bool (eqL p l m)) ∧ Below w.heap.size w w' := by
  have HR0 := Aside0.mk hr0
  have HR1 := Aside0.mk hr1
  have hml : l.length ≤ 9223372036854775807 := by have := hr0.2.1; unfold maxLen at this; omega
  have hmm : m.length ≤ 9223372036854775807 := by have := hr1.2.1; unfold maxLen at this; omega
  have HP := Aside0.mk hp
  have HB := Aside0.mk (Below.refl w.heap.size w)
  clear hr0 hr1 hp
  refine (callsIn_wide (n := 51)).1 ?_
  refine callsIn_of_wp Try.func55 rfl trivial ?_ rfl
  simp only [Try.ntmps55, List.size_toArray, List.length_cons, List.length_nil, Nat.reduceAdd, Nat.reduceSub, Array.replicate_succ, Array.replicate_zero, List.push_toArray, List.append_toArray, List.nil_append, List.cons_append]
  by_cases hlen : l.length = m.length
  · have e1 : ((l.length : Int) == (m.length : Int)) = true := beq_iff_eq.2 (by omega)
    have e2 : ((l.length : Int) != (m.length : Int)) = false := by simp [hlen]
    have e3 : ((l.length : Int) = (m.length : Int)) = True := eq_true (by omega)
    have HL := Aside0.mk hlen
    have hl1 : ∀ j, j < l.length → j < m.length := fun j h => by omega
    have HL1 := Aside0.mk hl1
    clear hlen hl1
    gi_wp2
    gi_loopw [17] (fun v wr => ∃ k : Nat, v = .int .i64 k ∧ k ≤ l.length ∧ Aside0 (∀ j, (hj : j < l.length) → j < k → p l[j] (m[j]'(HL1.out j hj)) = true) ∧ Aside0 (Below w.heap.size w wr)) (fun v _ => l.length - (intOf v).toNat)
    case atStart => exact ⟨0, rfl, Nat.zero_le _, ⟨fun j _ hj => absurd hj (Nat.not_lt_zero _)⟩, HB⟩
    case round =>
      obtain ⟨k, rfl, hk, hyes, hb⟩ := hrel
      by_cases hlt : k < l.length
      · have hlt0 : decide ((k : Int) < (l.length : Int)) = true := decide_eq_true (by omega)
        have hltm : k < m.length := HL1.out k hlt
        have q1 : ((k : Int) < (m.length : Int)) = True := eq_true (by omega)
        obtain ⟨ad, A2, c2, e, hx0, hx1, hx2, h2x, h3x⟩ := at_T45 HR0.out (k : Int) (by omega) (by omega)
        obtain ⟨ad', A3, c3, e', hy0, hy1, hy2, h2y, h3y⟩ := at_T45 HR1.out (k : Int) (by omega) (by omega)
        subst e
        subst e'
        replace hx0 := (hb.out.cell (World.block_lt_of_cell? w _ hx0)).trans hx0
        replace hx1 := (hb.out.cell (World.block_lt_of_cell? w _ hx1)).trans hx1
        replace hx2 := (hb.out.cell (World.block_lt_of_cell? w _ hx2)).trans hx2
        replace hy0 := (hb.out.cell (World.block_lt_of_cell? w _ hy0)).trans hy0
        replace hy1 := (hb.out.cell (World.block_lt_of_cell? w _ hy1)).trans hy1
        replace hy2 := (hb.out.cell (World.block_lt_of_cell? w _ hy2)).trans hy2
        have hget : rd_T45 l (k : Int) = l[k] := by simp only [rd_T45, Int.toNat_natCast]; simp [hlt]
        have hget' : rd_T45 m (k : Int) = m[k] := by simp only [rd_T45, Int.toNat_natCast]; simp [hltm]
        rw [hget] at hx0 hx1 hx2 h2x h3x
        rw [hget'] at hy0 hy1 hy2 h2y h3y
        simp only [Int.toNat_natCast] at hx0 hx1 hx2 hy0 hy1 hy2
        have hbb : Below w.heap.size w ((wr.alloc (.cells #[.string l[k].f0, .slice A2 l[k].f1.length c2, .string l[k].f2] 45)).alloc (.cells #[.string m[k].f0, .slice A3 m[k].f1.length c3, .string m[k].f2] 45)) := hb.out.trans ((below_alloc (below_alloc (Below.refl wr.heap.size wr) _) _).mono hb.out.size)
        have HC := Aside0.mk (HP.out l[k] (List.getElem_mem hlt) m[k] (List.getElem_mem hltm) A2 c2 A3 c3 _ hbb ⟨h2x, Kd.C_below h3x hbb, h2y, Kd.C_below h3y hbb⟩)
        have hw0 := ((below_alloc (Below.refl wr.heap.size wr) (.cells #[.string l[k].f0, .slice A2 l[k].f1.length c2, .string l[k].f2] 45)).cell (World.block_lt_of_cell? wr _ hy0)).trans hy0
        have hw1 := ((below_alloc (Below.refl wr.heap.size wr) (.cells #[.string l[k].f0, .slice A2 l[k].f1.length c2, .string l[k].f2] 45)).cell (World.block_lt_of_cell? wr _ hy1)).trans hy1
        have hw2 := ((below_alloc (Below.refl wr.heap.size wr) (.cells #[.string l[k].f0, .slice A2 l[k].f1.length c2, .string l[k].f2] 45)).cell (World.block_lt_of_cell? wr _ hy2)).trans hy2
        have HG := Aside0.mk (And.intro hget hget')
        clear hget hget'
        gi_wp2
        gi_at_call 56
        refine (callsIn_wide.2 HC.out).mono ?_
        rintro e W' ⟨rfl, hb'⟩
        have HB' := Aside0.mk (hbb.trans (hb'.mono (hbb).size))
        clear hb'
        cases hpk : p l[k] m[k] with
        | true =>
          have HPK := Aside0.mk hpk
          clear hpk
          gi_wp2
          go_roundw
          case rel =>
            refine ⟨k + 1, by simp, hlt, ⟨fun j hj hjk => ?_⟩, HB'⟩
            rcases Nat.lt_or_ge j k with h | h
            · exact hyes.out j hj h
            · obtain rfl : j = k := by omega
              exact HPK.out
          case measure =>
            show l.length - ((k : Int) + 1).toNat < l.length - (k : Int).toNat
            omega
        | false =>
          have HPK := Aside0.mk hpk
          clear hpk
          gi_wp2
          go_ret
          refine ⟨?_, HB'.out⟩
          rw [eqL_false p l m HL.out k hlt HPK.out]
          rfl
      · have hlt0 : decide ((k : Int) < (l.length : Int)) = false := decide_eq_false (by omega)
        gi_wp2
        go_ret
        refine ⟨?_, hb.out⟩
        rw [eqL_true p l m HL.out (fun j hj => hyes.out j hj (by omega))]
        rfl
  · have e1 : ((l.length : Int) == (m.length : Int)) = false := beq_eq_false_iff_ne.2 (by omega)
    have e2 : ((l.length : Int) != (m.length : Int)) = true := bne_iff_ne.2 (by omega)
    have e3 : ((l.length : Int) = (m.length : Int)) = False := eq_false (by omega)
    gi_wp2
    go_ret
    refine ⟨?_, HB.out⟩
    rw [show eqL p l m = false by unfold eqL; rw [decide_eq_false hlen]; rfl]
    rfl
end Go.Proofs.Ytebmbfobmakheaa.PD
namespace Go.Proofs.Ytebmbfobmakheaa.PD
open Go.RowKit Go.Shelf Go.Proofs.YtebmbfobmakheaaW.PrintWords Go.Proofs.YtebmbfobmakheaaW.PrintLast Go.Proofs.YtebmbfobmakheaaW.PrintMore
attribute [local go_sem] isSome_setCell Oper.semAt_some wide_fn wide_depth
set_option linter.unusedVariables false
set_option linter.unusedSimpArgs false
def sameB (a b : ByteArray) : Bool := a.toList == b.toList
theorem w64n {i : Nat} (h : i < 9223372036854775807) : wrap64 ((i : Int) + 1) = ((i + 1 : Nat) : Int) := by unfold wrap64; omega
theorem str_l0 (l m : List ByteArray) (h : l.length = m.length) (hb : l.length ≤ 9223372036854775807) : ∀ (d j : Nat), l.length - j = d → j ≤ l.length → slices_Equal_string_string.l0 (d + 1) l m (l.length : Int) (j : Int) = some ((l.drop j).zip (m.drop j) |>.all fun q => sameB q.1 q.2)
  | 0, j, hd, hj => by
    unfold slices_Equal_string_string.l0
    rw [if_neg (by omega), List.drop_eq_nil_of_le (by omega)]
    rfl
  | d + 1, j, hd, hj => by
    unfold slices_Equal_string_string.l0
    have hjl : j < l.length := by omega
    have hjm : j < m.length := by omega
    rw [if_pos (by omega), if_pos (by omega), if_pos (by omega), if_pos (by omega), List.drop_eq_getElem_cons hjl, List.drop_eq_getElem_cons hjm, List.zip_cons_cons, List.all_cons]
    have e0 : rdOf ByteArray.empty l (j : Int) = l[j] := by simp [rdOf, hjl]
    have e1 : rdOf ByteArray.empty m (j : Int) = m[j] := by simp [rdOf, hjm]
    rw [e0, e1, w64n (by omega), str_l0 l m h hb d (j + 1) (by omega) (by omega)]
    by_cases hs : l[j].toList = m[j].toList
    · rw [if_pos hs]; simp [sameB, hs]
    · rw [if_neg hs]; simp [sameB, hs]
theorem equal_str (l m : List ByteArray) (hb : l.length ≤ 9223372036854775807) : slices_Equal_string_string.f (l.length + 1) l m = some (eqL sameB l m) := by
  unfold slices_Equal_string_string.f eqL
  by_cases h : l.length = m.length
  · rw [if_pos (by omega), decide_eq_true h, Bool.true_and]
    exact str_l0 l m h hb l.length 0 (by omega) (by omega)
  · rw [if_neg (by omega), decide_eq_false h, Bool.false_and]
def sameV (x y : S77) : Bool := sameB x.f0 y.f0 && eqL sameB x.f1 y.f1
def sameP (x y : S45) : Bool := (sameB x.f0 y.f0 && sameB x.f2 y.f2) && eqL sameV x.f1 y.f1
set_option maxRecDepth 100000 in
set_option maxHeartbeats 1600000 in
theorem same1_walk (x y : S77) (A2 : Option Addr) (c2 : Nat) (A3 : Option Addr) (c3 : Nat) (w : World) (hx : x.f1.length ≤ c2) (hxc : Kd.C Kd.string w A2 x.f1.length x.f1) (hy : y.f1.length ≤ c3) (hyc : Kd.C Kd.string w A3 y.f1.length y.f1) :
    Calls Try.prog 86 #[.agg #[.string x.f0, .slice A2 x.f1.length c2], .agg #[.string y.f0, .slice A3 y.f1.length c3]] w fun e w' => e = .returned (.bool (sameV x y)) ∧ Below w.heap.size w w' := by
  have hl : x.f1.length ≤ 9223372036854775807 := by have := hxc.2.1; unfold maxLen at this; omega
  have hb : Below w.heap.size w ((w.alloc (.cells #[.string x.f0, .slice A2 x.f1.length c2] 77)).alloc (.cells #[.string y.f0, .slice A3 y.f1.length c3] 77)) := below_alloc (below_alloc (Below.refl _ _) _) _
  have HB := Aside0.mk hb
  have HC := Aside0.mk (slices_Equal_string_string.calls (x.f1.length + 1) A2 c2 x.f1 A3 c3 y.f1 _ _ (Kd.C_below hxc hb) hx (Kd.C_below hyc hb) hy (equal_str x.f1 y.f1 hl))
  clear hb hxc hyc hl hx hy
  refine (callsIn_wide (n := 51)).1 ?_
  refine callsIn_of_wp Try.func86 rfl trivial ?_ rfl
  simp only [Try.ntmps86, List.size_toArray, List.length_cons, List.length_nil, Nat.reduceAdd, Nat.reduceSub, Array.replicate_succ, Array.replicate_zero, List.push_toArray, List.append_toArray, List.nil_append, List.cons_append]
  cases hn : sameB x.f0 y.f0 with
  | false =>
    have e1 : (x.f0.toList == y.f0.toList) = false := hn
    have e2 : (x.f0.toList = y.f0.toList) = False := eq_false (by simpa [sameB] using hn)
    rw [show sameV x y = false by unfold sameV; rw [hn]; rfl]
    clear hn
    gi_wp2
    go_ret
    exact ⟨rfl, HB.out⟩
  | true =>
    have e1 : (x.f0.toList == y.f0.toList) = true := hn
    have e2 : (x.f0.toList = y.f0.toList) = True := eq_true (by simpa [sameB] using hn)
    rw [show sameV x y = eqL sameB x.f1 y.f1 by unfold sameV; rw [hn]; rfl]
    clear hn
    gi_wp2
    gi_at_call 87
    refine (callsIn_wide.2 HC.out).mono ?_
    rintro e W' ⟨rfl, hd⟩
    have HD := Aside0.mk hd
    clear hd
    gi_wp2
    go_ret
    exact ⟨rfl, HB.out.trans (HD.out.below.mono HB.out.size)⟩
set_option maxRecDepth 100000 in
set_option maxHeartbeats 3200000 in
theorem same_walk (x y : S45) (A2 : Option Addr) (c2 : Nat) (A3 : Option Addr) (c3 : Nat) (w : World) (hx : x.f1.length ≤ c2) (hxc : Kd.C k77 w A2 x.f1.length x.f1) (hy : y.f1.length ≤ c3) (hyc : Kd.C k77 w A3 y.f1.length y.f1) :
    Calls Try.prog 56 #[.agg #[.string x.f0, .slice A2 x.f1.length c2, .string x.f2], .agg #[.string y.f0, .slice A3 y.f1.length c3, .string y.f2]] w fun e w' => e = .returned (.bool (sameP x y)) ∧ Below w.heap.size w w' := by
  have hb : Below w.heap.size w ((w.alloc (.cells #[.string x.f0, .slice A2 x.f1.length c2, .string x.f2] 45)).alloc (.cells #[.string y.f0, .slice A3 y.f1.length c3, .string y.f2] 45)) := below_alloc (below_alloc (Below.refl _ _) _) _
  have HB := Aside0.mk hb
  have HC := Aside0.mk (eqF77 sameV A2 c2 x.f1 A3 c3 y.f1 _ (Kd.C_below hxc hb) (Kd.C_below hyc hb) (fun a _ b _ B2 d2 B3 d3 W _ h => same1_walk a b B2 d2 B3 d3 W h.1 h.2.1 h.2.2.1 h.2.2.2))
  clear hb hxc hyc hx hy
  refine (callsIn_wide (n := 51)).1 ?_
  refine callsIn_of_wp Try.func56 rfl trivial ?_ rfl
  simp only [Try.ntmps56, List.size_toArray, List.length_cons, List.length_nil, Nat.reduceAdd, Nat.reduceSub, Array.replicate_succ, Array.replicate_zero, List.push_toArray, List.append_toArray, List.nil_append, List.cons_append]
  cases hn : sameB x.f0 y.f0 with
  | false =>
    have e1 : (x.f0.toList == y.f0.toList) = false := hn
    have e2 : (x.f0.toList = y.f0.toList) = False := eq_false (by simpa [sameB] using hn)
    rw [show sameP x y = false by unfold sameP; rw [hn]; rfl]
    clear hn
    gi_wp2
    go_ret
    exact ⟨rfl, HB.out⟩
  | true =>
    have e1 : (x.f0.toList == y.f0.toList) = true := hn
    have e2 : (x.f0.toList = y.f0.toList) = True := eq_true (by simpa [sameB] using hn)
    cases hv : sameB x.f2 y.f2 with
    | false =>
      have e3 : (x.f2.toList == y.f2.toList) = false := hv
      have e4 : (x.f2.toList = y.f2.toList) = False := eq_false (by simpa [sameB] using hv)
      rw [show sameP x y = false by unfold sameP; rw [hn, hv]; rfl]
      clear hn hv
      gi_wp2
      go_ret
      exact ⟨rfl, HB.out⟩
    | true =>
      have e3 : (x.f2.toList == y.f2.toList) = true := hv
      have e4 : (x.f2.toList = y.f2.toList) = True := eq_true (by simpa [sameB] using hv)
      rw [show sameP x y = eqL sameV x.f1 y.f1 by unfold sameP; rw [hn, hv]; rfl]
      clear hn hv
      gi_wp2
      gi_at_call 85
      refine (callsIn_wide.2 HC.out).mono ?_
      rintro e W' ⟨rfl, hd⟩
      have HD := Aside0.mk hd
      clear hd
      gi_wp2
      go_ret
      exact ⟨rfl, HB.out.trans (HD.out.mono HB.out.size)⟩
set_option maxRecDepth 100000 in
set_option maxHeartbeats 1600000 in
theorem sig2_walk (A : Option Addr) (c : Nat) (l : List S45) (B : Option Addr) (d : Nat) (m : List S45) (w : World) (hl : Kd.C k45 w A l.length l) (hm : Kd.C k45 w B m.length m) :
    Calls Try.prog 54 #[.slice A l.length c, .slice B m.length d] w fun e w' => e = .returned (.bool (eqL sameP l m)) ∧ Below w.heap.size w w' := by
  have HC := Aside0.mk (eqF45 sameP A c l B d m w hl hm (fun a _ b _ B2 d2 B3 d3 W _ h => same_walk a b B2 d2 B3 d3 W h.1 h.2.1 h.2.2.1 h.2.2.2))
  clear hl hm
  refine (callsIn_wide (n := 51)).1 ?_
  refine callsIn_of_wp Try.func54 rfl trivial ?_ rfl
  simp only [Try.ntmps54, List.size_toArray, List.length_cons, List.length_nil, Nat.reduceAdd, Nat.reduceSub, Array.replicate_succ, Array.replicate_zero, List.push_toArray, List.append_toArray, List.nil_append, List.cons_append]
  gi_wp2
  gi_at_call 55
  refine (callsIn_wide.2 HC.out).mono ?_
  rintro e W' ⟨rfl, hd⟩
  have HD := Aside0.mk hd
  clear hd
  gi_wp2
  go_ret
  exact ⟨rfl, HD.out⟩
end Go.Proofs.Ytebmbfobmakheaa.PD
namespace Go.Proofs.Ytebmbfobmakheaa.PD
open Go.RowKit Go.Shelf Go.Proofs.YtebmbfobmakheaaW.PrintWords Go.Proofs.YtebmbfobmakheaaW.PrintLast Go.Proofs.YtebmbfobmakheaaW.PrintMore
attribute [local go_sem] isSome_setCell Oper.semAt_some wide_fn wide_depth
set_option linter.unusedVariables false
set_option linter.unusedSimpArgs false
theorem C45_cells {X Y : World} {A : Option Addr} {n : Nat} {xs : List S45} (h : Kd.C k45 X A n xs) (hc : ∀ p u, X.cell? p = some u → Y.cell? p = some u) : Kd.C k45 Y A n xs :=
  rows_cells h hc (fun x cs hk => by
    obtain ⟨A1, c1, rfl, hl, hC⟩ := k45_open hk
    exact k45_mk Y x hl (C77_cells hC hc))
def CL (W : World) (ok : Nat → Prop) (A : Option Addr) (x : List S45) : Prop := ∀ Y : World, (∀ p u, W.cell? p = some u → ok p.block → Y.cell? p = some u) → Kd.C k45 Y A x.length x
open Classical in
theorem CL_of_F {W : World} {ok : Nat → Prop} {A : Option Addr} {x : List S45} (h : Kd.F k45 W ok A x.length x) : CL W ok A x := fun Y hY => by
  obtain ⟨V, hV⟩ : ∃ V : World, ({ W with heap := W.heap.mapIdx fun i o => if ok i then o else Obj.deferred none } : World) = V := ⟨_, rfl⟩
  have hh : ∀ k : Nat, V.heap[k]? = (W.heap[k]?).map fun o => if ok k then o else Obj.deferred none := fun k => by rw [← hV]; simp [Array.getElem?_mapIdx]
  refine C45_cells (h V (fun k hk _ => ?_)) (fun p u hp => ?_)
  · rw [hh]; simp [hk]
  · by_cases hk : ok p.block
    · refine hY p u ?_ hk
      rw [← hp]
      refine (World.cell?_of_block ?_).symm
      rw [hh]; simp [hk]
    · exfalso
      unfold World.cell? at hp
      rw [hh] at hp
      cases hw : W.heap[p.block]? with
      | none => rw [hw] at hp; simp at hp
      | some o => rw [hw] at hp; simp [hk] at hp
theorem CL.step {X Y : World} {ok ok' : Nat → Prop} {A : Option Addr} {x : List S45} (h : CL X ok A x) (hc : ∀ p u, X.cell? p = some u → ok p.block → Y.cell? p = some u ∧ ok' p.block) : CL Y ok' A x :=
  fun Z hZ => h Z (fun p u hp hk => hZ p u (hc p u hp hk).1 (hc p u hp hk).2)
theorem CL.now {W : World} {ok : Nat → Prop} {A : Option Addr} {x : List S45} (h : CL W ok A x) : Kd.C k45 W A x.length x := h W (fun _ _ h _ => h)
def okR (w : World) (v : Value) (k : Nat) : Prop := k < w.heap.size ∨ (w.heap.size + 2 ≤ k ∧ some k ≠ v.ownBlock)
def AccR (w : World) (xs : List (List S45)) (W : World) : Prop := ∃ (v : Value) (cs : List Value), (W.heap[w.heap.size + 1]? = some (.cells #[v] 61 (0, 0)) ∧ v.ownBlock ≠ some (w.heap.size + 1)) ∧ W.ownsRow (w.heap.size + 2) 22 1 v cs.length cs ∧ Below w.heap.size w W ∧ cs.length = xs.length ∧ ∀ (j : Nat) (x : List S45), xs[j]? = some x → ∃ A cap, cs[j]? = some (.slice A x.length cap) ∧ CL W (okR w v) A x
def OwR (w : World) (X : World) (k : Nat) : Prop := ∃ v : Value, X.heap[w.heap.size + 1]? = some (.cells #[v] 61 (0, 0)) ∧ v.ownBlock = some k
theorem accR_own (w : World) (B : Nat) (hB : w.heap.size + 2 ≤ B) : OwnZ NoZ B (fun (xs : List (List S45)) W => AccR w xs W) := by
  rintro s X Y row ⟨v, cs, ⟨h1, h2⟩, h3, h4, h5, h6⟩ hg hr
  refine ⟨v, cs, ⟨cell_own h1 hg hr, h2⟩, h3.kept hg ?_, below_own h4 (by omega) hg hr, h5, fun j x hx => ?_⟩
  · cases hv : v.ownBlock with
    | none => exact .inl rfl
    | some g =>
      refine .inr (fun e => ?_)
      obtain ⟨_, _, cells, hcl⟩ := owns_typed h3 hv
      rcases hr g e.symm with h | ⟨_, o, ho, hoc⟩
      · exact h
      · rw [hcl] at ho; cases ho; cases hoc
  · obtain ⟨A, cap, e, hC⟩ := h6 j x hx
    exact ⟨A, cap, e, hC.step (fun p u hp hk => ⟨cells_own hg hr p u hp, hk⟩)⟩
theorem one_cell {X : World} {S : Nat} {v v' : Value} {t : TypeId} (h : X.heap[S]? = some (.cells #[v] t (0, 0))) (h' : X.heap[S]? = some (.cells #[v'] t (0, 0))) : v = v' := by
  rw [h] at h'
  injection h' with h; injection h with h; simpa using h
theorem accR_ownS {β : Type} (w : World) (B : Nat) (p : β → List (List S45)) : OwnS NoZ (OwR w) B (fun (s : β) W => AccR w (p s) W) := by
  refine ⟨?_, ?_⟩
  · rintro s X Y row ⟨v, cs, ⟨h1, h2⟩, h3, h4, _⟩ hg hr k ⟨v', hv', hk⟩
    exact ⟨v, h1, by rw [one_cell (cell_own h1 hg hr) hv']; exact hk⟩
  · rintro s X ⟨v, cs, ⟨h1, h2⟩, h3, h4, _⟩ k ⟨v', hv', hk⟩
    exact (owns_typed h3 (by rw [one_cell h1 hv']; exact hk)).2.1
theorem accR_at {W w1 : World} {S : Nat} {v u : Value} {t t' : TypeId} (h1 : W.heap[S]? = some (.cells #[v] t' (0, 0))) (h2 : v.ownBlock ≠ some S) (hg : (W.alloc (.cells #[u] t)).grownBy w1 v.ownBlock) :
    w1.heap[S]? = some (.cells #[v] t' (0, 0)) ∧ w1.cell? ⟨S, 0, none⟩ = some v ∧ w1.frozen? ⟨S, 0, none⟩ = false := by
  have h := blk_grown (blk_alloc h1 (.cells #[u] t)) hg (fun e => h2 e.symm)
  exact ⟨h, (blk_cell h 0).trans rfl, blk_frozen h 0⟩
theorem accR_step {w W W0 w1 : World} {B : Nat} {v : Value} {cs : List Value} {xs : List (List S45)} {x : List S45} {A5 : Option Addr} {c5 g cap : Nat} (hb0 : Below W0.heap.size W0 W) (h10 : W0.heap[w.heap.size + 1]? = some (.cells #[v] 61 (0, 0))) (h2 : v.ownBlock ≠ some (w.heap.size + 1)) (h30 : W0.ownsRow (w.heap.size + 2) 22 1 v cs.length cs) (h40 : Below w.heap.size w W0)
    (h5 : cs.length = xs.length) (h6 : ∀ (j : Nat) (x : List S45), xs[j]? = some x → ∃ A cap, cs[j]? = some (.slice A x.length cap) ∧ CL W0 (okR w v) A x)
    (hx : CL W (fun k => k < w.heap.size ∨ (W0.heap.size ≤ k ∧ k < W.heap.size)) A5 x)
    (hg : (W.alloc (.cells #[.slice A5 x.length c5] 22)).grownBy w1 v.ownBlock) (ho : w1.ownsRow (w.heap.size + 2) 22 1 (.slice (some ⟨g, 0, none⟩) (cs.length + 1) cap) (cs.length + 1) (cs ++ [.slice A5 x.length c5])) (hat : some g = v.ownBlock ∨ some g = some (W.alloc (.cells #[.slice A5 x.length c5] 22)).heap.size) (hB : w.heap.size + 2 ≤ B) :
    KO (OwR w) B W0 (w1.setCell ⟨w.heap.size + 1, 0, none⟩ (.slice (some ⟨g, 0, none⟩) (cs.length + 1) cap)) ∧ Below w.heap.size W0 (w1.setCell ⟨w.heap.size + 1, 0, none⟩ (.slice (some ⟨g, 0, none⟩) (cs.length + 1) cap)) ∧ AccR w (xs ++ [x]) (w1.setCell ⟨w.heap.size + 1, 0, none⟩ (.slice (some ⟨g, 0, none⟩) (cs.length + 1) cap)) := by
  have h1 := blk_below h10 hb0
  have h3 : W.ownsRow (w.heap.size + 2) 22 1 v cs.length cs := h30.kept (row := none) (gb_below hb0) (by cases hv : v.ownBlock with | none => exact .inl rfl | some g => exact .inr (by simp))
  have h4 := h40.trans (hb0.mono h40.size)
  have hlt0 : ∀ k, v.ownBlock = some k → k < W0.heap.size := fun k e => (owns_typed h30 e).2.1
  clear h30
  obtain ⟨S, hS⟩ : ∃ S, w.heap.size + 1 = S := ⟨_, rfl⟩
  have hS2 : w.heap.size + 2 = S + 1 := by omega
  have hok : ∀ k (v : Value), okR w v k = (k < w.heap.size ∨ (S + 1 ≤ k ∧ some k ≠ v.ownBlock)) := fun k v => by unfold okR; rw [hS2]
  unfold AccR OwR
  rw [hS2] at h3 ho hB
  rw [hS2]
  rw [hS] at h1 h10 h2 ⊢
  obtain ⟨X, hX⟩ : ∃ X, w1.setCell ⟨S, 0, none⟩ (.slice (some ⟨g, 0, none⟩) (cs.length + 1) cap) = X := ⟨_, rfl⟩
  have hsz : w1.heap.size = X.heap.size := by rw [← hX]; simp [World.setCell]
  have hsw : W.heap.size + 1 ≤ w1.heap.size := by have := hg.size; rw [World.size_alloc] at this; omega
  have hs0 := hb0.size
  have far : ∀ k, k ≠ S → X.heap[k]? = w1.heap[k]? := fun k hk => by rw [← hX]; exact Below.heap_setCell _ _ _ k hk
  have hv : ∀ k, v.ownBlock = some k → S + 1 ≤ k := fun k e => (owns_typed h3 e).1
  have old : ∀ k, k < W.heap.size → some k ≠ v.ownBlock → w1.heap[k]? = W.heap[k]? := fun k hk hne => (hg.block k (by rw [World.size_alloc]; omega) hne).trans (Below.heap_alloc _ _ _ hk)
  have hgS : g ≠ S := by have := (owns_typed ho (k := g) (by simp [Value.ownBlock])).1; omega
  have hbl : Below w.heap.size W X := ⟨by rw [← hX]; exact hg.os, by rw [← hX]; exact hg.tape, by rw [← hX]; exact hg.output, by omega, fun k hk => (far k (by omega)).trans (old k (by have := h4.size; omega) (fun e => by have := hv k e.symm; omega))⟩
  have hb1 := (accR_at h1 h2 hg).1
  have hXS : X.heap[S]? = some (.cells #[.slice (some ⟨g, 0, none⟩) (cs.length + 1) cap] 61 (0, 0)) := by rw [← hX]; exact blk_set hb1 0 _
  have hS0 := (Array.getElem?_eq_some_iff.1 h10).1
  have hw0 : w.heap.size ≤ W0.heap.size := by omega
  have hgat : some g = v.ownBlock ∨ g = W.heap.size + 1 := hat.imp id (fun h => by injection h with h; rw [World.size_alloc] at h; exact h)
  have same : ∀ k, k < W.heap.size → k ≠ S → some k ≠ v.ownBlock → X.heap[k]? = W.heap[k]? := fun k hk h1 h2 => (far k h1).trans (old k hk h2)
  rw [hX]
  refine ⟨⟨by omega, fun i o hi ho' hc => ?_, fun k hk => ?_⟩, (hb0.mono hw0).trans hbl, ⟨_, cs ++ [.slice A5 x.length c5], ⟨hXS, by simpa [Value.ownBlock] using hgS⟩, ?_, h4.trans hbl, by simp [h5], fun j y hj => ?_⟩⟩
  · have hil := (Array.getElem?_eq_some_iff.1 ho').1
    rw [far i (by omega), old i (by omega) (fun e => ?_)]
    · exact (hb0.block i hil).trans ho'
    · obtain ⟨_, _, cells, hcl⟩ := owns_typed h3 e.symm
      rw [hb0.block i hil, ho'] at hcl
      injection hcl with hcl
      exact hc (by rw [hcl]; rfl) ⟨v, h10, e.symm⟩
  · obtain ⟨v', hv', hk'⟩ := hk
    have hvv := one_cell hXS hv'
    rw [← hvv] at hk'
    have hgk : g = k := by simpa [Value.ownBlock] using hk'
    subst hgk
    rcases hgat with h | h
    · exact .inl ⟨v, h10, h.symm⟩
    · exact .inr (by omega)
  · rw [List.length_append, List.length_singleton]
    refine ho.kept (row := some S) ⟨by rw [← hX]; rfl, by rw [← hX]; rfl, by rw [← hX]; rfl, by omega, fun k _ hk => far k (fun e => hk (by rw [e]))⟩ (.inr (by simpa [Value.ownBlock] using hgS))
  · have hgv : (Value.slice (some ⟨g, 0, none⟩) (cs.length + 1) cap).ownBlock = some g := rfl
    rcases Nat.lt_or_ge j xs.length with hjl | hjl
    · rw [List.getElem?_append_left hjl] at hj
      obtain ⟨A, cp, e, hC⟩ := h6 j y hj
      refine ⟨A, cp, by rw [List.getElem?_append_left (by omega)]; exact e, hC.step (fun p u hp hk => ?_)⟩
      have hpl := World.block_lt_of_cell? _ _ hp
      rw [hok] at hk ⊢
      rw [hgv]
      have hne : some p.block ≠ v.ownBlock := fun e => by
        rcases hk with h | h
        · have := hv p.block e.symm; omega
        · exact h.2 e
      have hnS : p.block ≠ S := by omega
      have hp' : W.cell? p = some u := (World.cell?_of_block (hb0.block p.block hpl)).trans hp
      refine ⟨(World.cell?_of_block (same p.block (by omega) hnS hne)).trans hp', hk.imp id (fun h => ⟨h.1, fun e => ?_⟩)⟩
      injection e with e
      rcases hgat with h' | h'
      · exact hne (by rw [e, h'])
      · omega
    · rw [List.getElem?_append_right hjl] at hj
      have hj0 : j - xs.length = 0 := by
        rcases Nat.eq_zero_or_pos (j - xs.length) with h | h
        · exact h
        · rw [List.getElem?_eq_none (by simp; omega)] at hj; cases hj
      rw [hj0] at hj
      obtain rfl : x = y := by simpa using hj
      refine ⟨A5, c5, by rw [List.getElem?_append_right (by omega), show j - cs.length = 0 by omega]; rfl, hx.step (fun p u hp hk => ?_)⟩
      rw [hok, hgv]
      have hpl := World.block_lt_of_cell? _ _ hp
      have hne : some p.block ≠ v.ownBlock := fun e => by
        rcases hk with h | h
        · have := hv p.block e.symm; omega
        · have := hlt0 p.block e.symm; omega
      refine ⟨(World.cell?_of_block (same p.block hpl (by omega) hne)).trans hp, hk.imp id (fun h => ⟨by omega, fun e => ?_⟩)⟩
      injection e with e
      rcases hgat with h' | h'
      · exact hne (by rw [e, h'])
      · omega
theorem info22 : (Try.prog.info? 22).map (fun i => (i.zero, i.size, i.bytes)) = some (some (.slice none 0 0), 1, 24) := by kernel_rfl
theorem oper_append_at {F : Fence} {n : Nat} {P : Program} (w : World) {o : Oper} {a : Act} {K : Act → World → Prop} {Q : Exit → Act → World → Prop}
    (s x : Operand) (t : TypeId) (hop : o.op = Op.call { callee := Callee.builtin Builtin.append, args := #[s, x], argTypes := #[t, t] })
    (base : Nat) (e : TypeId) (i : TypeInfo) (z : Value) (size bytes : Nat) (h1 : P.underlying t = some (.slice e)) (h2 : P.info? e = some i) (h3 : i.zero = some z) (h4 : i.size = size) (h5 : i.bytes = bytes) (h6 : z.cells.size = size) (h7 : 0 < size)
    (v : Value) (k : Nat) (xs : List Value) (hs : a.eval s = v) (hown : w.ownsRow base e size v k xs) (ad : Addr) (m c : Nat) (news : List Value) (hx : a.eval x = .slice (some ad) m c) (hn : news.length = m * size)
    (hc : ∀ j u, news[j]? = some u → w.cell? (ad.add j) = some u) (h1c : ∀ u ∈ news, u.oneCell' = true) (b1 : k + m ≤ maxLen) (b2 : (k + m) * bytes ≤ 140737488355328) (b3 : base ≤ w.heap.size)
    (hK : ∀ v' w', w'.ownsRow base e size v' (k + m) (xs ++ news) → w.grownBy w' v.ownBlock → (v'.ownBlock = v.ownBlock ∨ v'.ownBlock = some w.heap.size) → K (a.put o.dst v') w') :
    Oper.wpIn F n P o a w K Q := by
  obtain ⟨v', w', hrun, r1, r2, r3, r4⟩ := run_append_own_at (P := P) w base t o.type e i z size bytes h1 h2 h3 h4 h5 h6 h7 v k xs hown ad m c news hn hc h1c b1 b2 b3
  unfold Oper.wpIn
  refine ⟨?_, ?_⟩
  · simp [Oper.about, hop, resolve, Target.leads, Sem.run_pure]
  · rw [Oper.semAt_plain F _ _ (by rw [hop]; intro c hc'; cases hc')]
    simp [execOp, hop, resolve, invoke, builtin, hs, hx, hrun, Result.andThen]
    exact hK _ _ r1 r2 r4
def rowsP (l : List S25) : List (List S45) := (othI 0 l).map fun i => toldP (l.getD i z25).f1
end Go.Proofs.Ytebmbfobmakheaa.PD
namespace Go.Proofs.Ytebmbfobmakheaa.PD
open Go.RowKit Go.Shelf Go.Proofs.YtebmbfobmakheaaW.PrintWords Go.Proofs.YtebmbfobmakheaaW.PrintLast Go.Proofs.YtebmbfobmakheaaW.PrintMore
attribute [local go_sem] isSome_setCell Oper.semAt_some wide_fn wide_depth
set_option linter.unusedVariables false
set_option linter.unusedSimpArgs false
theorem oth_len : ∀ (i : Nat) (l : List S25), (othI i l).length ≤ l.length
  | _, [] => Nat.le_refl _
  | i, x :: r => by
    unfold othI
    split
    · exact Nat.le_trans (oth_len (i + 1) r) (by simp)
    · simpa using oth_len (i + 1) r
def RowsC (W : World) (A : Option Addr) (n : Nat) (xs : List (List S45)) : Prop := xs.length ≤ 9223372036854775807 ∧ ∀ (j : Nat) (hj : j < xs.length), ∃ ad A2 c2, A = some ad ∧ W.cell? (ad.add j) = some (.slice A2 (xs[j]'hj).length c2) ∧ Kd.C k45 W A2 (xs[j]'hj).length (xs[j]'hj)
theorem RowsC.below {W W' : World} {A : Option Addr} {n : Nat} {xs : List (List S45)} (h : RowsC W A n xs) (hb : Below W.heap.size W W') : RowsC W' A n xs := ⟨h.1, fun j hj => by
  obtain ⟨ad, A2, c2, e, h1, h2⟩ := h.2 j hj
  exact ⟨ad, A2, c2, e, (hb.cell (World.block_lt_of_cell? W _ h1)).trans h1, Kd.C_below h2 hb⟩⟩
theorem acc_rows {w W : World} {xs : List (List S45)} {D : Nat} (o : Obj) (h : AccR w xs W) (hl : xs.length ≤ 9223372036854775807) (hD : W.heap[D]? = some (.deferred (some []))) (hDw : w.heap.size ≤ D) : ∃ A c, W.cell? ⟨w.heap.size + 1, 0, none⟩ = some (.slice A xs.length c) ∧ RowsC (W.putObj D o) A xs.length xs ∧ Below w.heap.size w W := by
  obtain ⟨v, cs, ⟨h1, h2⟩, h3, h4, h5, h6⟩ := h
  obtain ⟨A, c, ev⟩ : ∃ A c, v = .slice A xs.length c := by
    rcases h3.2 with ⟨rfl, h0⟩ | ⟨g, cap, cur, rfl, _⟩
    · exact ⟨none, 0, by rw [← h5, h0]⟩
    · exact ⟨_, cap, by rw [← h5]⟩
  refine ⟨A, c, by rw [← ev]; exact (blk_cell h1 0).trans rfl, ⟨hl, fun j hj => ?_⟩, h4⟩
  obtain ⟨A2, c2, e2, hC⟩ := h6 j _ (List.getElem?_eq_getElem hj)
  have hput : ∀ p u, W.cell? p = some u → (W.putObj D o).cell? p = some u := fun p u hp => by
    refine (World.cell?_of_block (World.putObj_heap_other (fun e => ?_))).trans hp
    unfold World.cell? at hp
    rw [e, hD] at hp
    cases hp
  rcases h3.2 with ⟨rfl, h0⟩ | ⟨g, cap, cur, hv, hb, hg, _⟩
  · omega
  · rw [hv] at ev
    injection ev with eA _ _
    refine ⟨⟨g, 0, none⟩, A2, c2, eA.symm, hput _ _ (h3.cells (g := g) (by rw [hv]; rfl) j _ e2), C45_cells hC.now hput⟩
theorem own_drew_below {W w5 : World} {v : Value} {cs : List Value} {b : Nat} (h : W.ownsRow b 22 1 v cs.length cs) (hb : Below W.drew.heap.size W.drew w5) : w5.ownsRow b 22 1 v cs.length cs :=
  (World.ownsRow.drew h).kept (row := none) (gb_below hb) (by cases hv : v.ownBlock with | none => exact .inl rfl | some g => exact .inr (by simp))
theorem rows_end {w W0 w5 w1 : World} {B : Nat} {v : Value} {cs : List Value} (l : List S25) (x : CC × Nat) (pre : List (CC × Nat)) (hpl : pre.length ≤ l.length) {m : List S45} {A5 : Option Addr} {c5 g cap : Nat} (hG : toldP (l.getD x.2 z25).f1 = m)
    (hn : Kd.N k45 45 w5 W0.drew.heap.size (fun k_ => k_ < w.heap.size ∨ W0.drew.heap.size ≤ k_) (.slice A5 m.length c5) m) (hb : Below W0.drew.heap.size W0.drew w5)
    (h1 : W0.heap[w.heap.size + 1]? = some (.cells #[v] 61 (0, 0))) (h2 : v.ownBlock ≠ some (w.heap.size + 1)) (h3 : W0.ownsRow (w.heap.size + 2) 22 1 v cs.length cs) (h4 : Below w.heap.size w W0)
    (h5 : cs.length = (pre.map fun p => toldP (l.getD p.2 z25).f1).length) (h6 : ∀ (j : Nat) (x : List S45), (pre.map fun p => toldP (l.getD p.2 z25).f1)[j]? = some x → ∃ A cap, cs[j]? = some (.slice A x.length cap) ∧ CL W0 (okR w v) A x)
    (hg : (w5.alloc (.cells #[.slice A5 m.length c5] 22)).grownBy w1 v.ownBlock) (ho : w1.ownsRow (w.heap.size + 2) 22 1 (.slice (some ⟨g, 0, none⟩) (cs.length + 1) cap) (cs.length + 1) (cs ++ [.slice A5 m.length c5])) (hat : some g = v.ownBlock ∨ some g = some (w5.alloc (.cells #[.slice A5 m.length c5] 22)).heap.size) (hB : w.heap.size + 2 ≤ B) :
    KO (OwR w) B W0 (w1.setCell ⟨w.heap.size + 1, 0, none⟩ (.slice (some ⟨g, 0, none⟩) (cs.length + 1) cap)) ∧ Below w.heap.size W0 (w1.setCell ⟨w.heap.size + 1, 0, none⟩ (.slice (some ⟨g, 0, none⟩) (cs.length + 1) cap)) ∧ SameZ NoZ W0 (w1.setCell ⟨w.heap.size + 1, 0, none⟩ (.slice (some ⟨g, 0, none⟩) (cs.length + 1) cap)) ∧ AccR w ((pre ++ [x]).map fun p => toldP (l.getD p.2 z25).f1) (w1.setCell ⟨w.heap.size + 1, 0, none⟩ (.slice (some ⟨g, 0, none⟩) (cs.length + 1) cap)) := by
  have hb0 : Below W0.heap.size W0 w5 := (below_drew (Below.refl W0.heap.size W0)).trans hb
  have hcl : CL w5 (fun k => k < w.heap.size ∨ (W0.heap.size ≤ k ∧ k < w5.heap.size)) A5 m := CL_of_F (Kd.N_F (Kd.N_mono (Kd.N_bound hn) (fun k hk => hk.1.imp id (fun h => ⟨h, hk.2⟩))))
  obtain ⟨k1, k2, k3⟩ := accR_step hb0 h1 h2 h3 h4 h5 h6 hcl hg ho hat hB
  exact ⟨k1, k2, fun _ h => h.elim, by rw [List.map_append, List.map_cons, List.map_nil, hG]; exact k3⟩
set_option maxRecDepth 100000 in
set_option maxHeartbeats 8000000 in
theorem rows_walk (nm : ByteArray) (A1 : Option Addr) (n1 c1 : Nat) (A : Option Addr) (c : Nat) (l : List S25) (w : World) (hr : Kd.C k25 w A l.length l) (hlim : ∀ x ∈ l, x.f1.length < 2513169434917) (hlt : ∀ x ∈ l, (toldP x.f1).length < 2513169434916) (hll : l.length ≤ 1000000000) :
    Calls Try.prog 51 #[.agg #[.string nm, .slice A1 n1 c1, .slice A l.length c]] w fun e w' => ∃ A' c', e = .returned (.slice A' (rowsP l).length c') ∧ RowsC w' A' (rowsP l).length (rowsP l) ∧ Below w.heap.size w w' := by
  obtain ⟨L, hLl, hOk, hRd⟩ := cc_of hr
  have HOK := Aside0.mk hOk
  have HRD := Aside0.mk hRd
  have hmap := oth_map L l 0 hLl (fun j hi hj => (hOk j hi hj).1)
  have HMAP := Aside0.mk hmap
  have HLIM := Aside0.mk hlim
  have HLT := Aside0.mk hlt
  clear hr hOk hRd hmap hlim hlt
  have HV : Aside0 (AccR w [] ((w.alloc (.cells #[.string nm, .slice A1 n1 c1, .slice A l.length c] 25)).alloc (.cells #[.slice none 0 0] 61))) := ⟨.slice none 0 0, [], ⟨by
      have := heap_alloc_new (w.alloc (.cells #[.string nm, .slice A1 n1 c1, .slice A l.length c] 25)) (.cells #[.slice none 0 0] 61)
      rw [World.size_alloc] at this
      exact this, by simp [Value.ownBlock]⟩, World.ownsRow_nil _ _ _ _, below_alloc (below_alloc (Below.refl _ _) _) _, rfl, fun j x h => by simp at h⟩
  refine (callsIn_wide (n := 51)).1 ?_
  refine callsIn_of_wp_marks Try.func51 rfl trivial ?_ rfl
  simp only [Try.ntmps51, List.size_toArray, List.length_cons, List.length_nil, Nat.reduceAdd, Nat.reduceSub, Array.replicate_succ, Array.replicate_zero, List.push_toArray, List.append_toArray, List.nil_append, List.cons_append]
  gi_wp2
  gi_at_call 41
  refine (callsIn_wide.2 (comps_made nm A1 n1 c1 A l.length c _)).mono ?_
  rintro e w4 ⟨rfl, rfl⟩
  gi_wp2
  obtain ⟨V, hVe⟩ : ∃ V, ((w.alloc (.cells #[.string nm, .slice A1 n1 c1, .slice A l.length c] 25)).alloc (.cells #[.slice none 0 0] 61)).alloc (.cells #[.string nm, .slice A1 n1 c1, .slice A l.length c] 25) = V := ⟨_, rfl⟩
  have hz : V.heap.size = w.heap.size + 3 := by rw [← hVe]; simp
  have q1 : V.heap[w.heap.size + 1 + 1]? = some (.cells #[.string nm, .slice A1 n1 c1, .slice A L.length c] 25 (0, 0)) := by
    have := heap_alloc_new ((w.alloc (.cells #[.string nm, .slice A1 n1 c1, .slice A l.length c] 25)).alloc (.cells #[.slice none 0 0] 61)) (.cells #[.string nm, .slice A1 n1 c1, .slice A l.length c] 25)
    rw [World.size_alloc, World.size_alloc, hVe] at this
    rw [hLl]
    exact this
  have HOG := Aside0.mk (show AccR w [] V from by
    obtain ⟨v, cs, ⟨a1, a2⟩, a3, a4, a5, a6⟩ := HV.out
    rw [← hVe]
    exact ⟨v, cs, ⟨blk_alloc a1 _, a2⟩, a3.alloc _, below_alloc a4 _, a5, fun j x h => by simp at h⟩)
  rw [hVe]
  clear hVe HV
  have hLm : L.length ≤ 9223372036854775807 := by omega
  refine range_z (n₀ := w.heap.size) (Z := NoZ) (gf := 79) (lb := #[.pointer (some ⟨w.heap.size + 1 + 1, 0, none⟩)]) (En := fun x ar _ => ar = encC x) (xs := othersF 0 L) (Rd := fun pre W => RdAt A L (nextI pre) W) (Own := OwR w) rfl (enters_of Try.func79 (by kernel_rfl) rfl) (by omega) (fun b hb => hb.elim)
    (fun l' J Jx W hW hJ hJx hRd _ _ hY h0 => (callsIn_wide (n := 51)).1 (comps_in A c L hLm nm A1 n1 c1 l' (w.heap.size + 1 + 1) w.heap.size J Jx W hJ hRd (fun pre x W1 h1 h2 => hY pre x _ W1 h1 h2 rfl) ((hW.block (w.heap.size + 1 + 1) (by omega)).trans q1) h0)) (fun x ar _ e => by rw [e]; rfl)
    (fun pre W => AccR w (pre.map fun p => toldP (l.getD p.2 z25).f1) W)
    (fun pre W h => by obtain ⟨_, _, _, _, h, _⟩ := h; exact HRD.out.below h (Nat.zero_le _))
    (fun cd pre W => False)
    (fun s X Y row hs hg hr => accR_own w V.heap.size (by omega) (s.map fun p => toldP (l.getD p.2 z25).f1) X Y row hs hg hr) (fun cd => fun s X Y row h hg hr => h) (accR_ownS w _ (fun pre : List (CC × Nat) => pre.map fun p => toldP (l.getD p.2 z25).f1)) (fun cd => ⟨fun _ _ _ _ h => h.elim, fun _ _ h => h.elim⟩) HOG.out
    (fun x a' W => ∃ G, w.heap.size + 3 ≤ G ∧ a' = { tmps := #[.agg #[.string nm, .slice A1 n1 c1, .slice A l.length c], .pointer (some ⟨w.heap.size, 0, none⟩), .slice none 0 0, .pointer (some ⟨w.heap.size + 1, 0, none⟩), undef, .pointer (some ⟨G, 0, none⟩), .agg #[.string nm, .slice A1 n1 c1, .slice A l.length c], .func (.func 79) #[] #[.pointer (some ⟨w.heap.size + 1 + 1, 0, none⟩)], .int .i64 x.2, x.1.enc, undef, undef, undef, undef, undef, undef], defers := [] } ∧ W.heap[G]? = some (.cells x.1.cells 25 (0, 0)))
    (fun x a' _ X Y row h hg hr => by
      obtain ⟨G, hG, e, hb⟩ := h
      exact ⟨G, hG, e, cell_own hb hg hr⟩) ?assign ?body ?done ?stop
  case assign =>
    rintro l' pre x ar W K hI hpx rfl hW hK
    gi_wp2
    have hb : Below W.heap.size W (W.alloc (.cells x.1.cells 25)) := below_alloc (Below.refl _ _) _
    have hst := (accR_ownS w V.heap.size (fun pre : List (CC × Nat) => pre.map fun p => toldP (l.getD p.2 z25).f1)).below (s := pre) hI hb
    refine hK _ _ ((kf_below hb).koS hst) (hb.mono (by obtain ⟨_, _, _, _, h, _⟩ := hI; exact h.size)) (fun _ h => h.elim) ((accR_own w V.heap.size (by omega)).below hI hb) ⟨W.heap.size, by omega, by simp, heap_alloc_new W _⟩
  case body =>
    rintro l' pre x a' W ⟨v, cs, ⟨h1, h2⟩, h3, h4, h5, h6⟩ hpx hWs ⟨G, hG, rfl, hb⟩
    obtain ⟨hxi, hxe⟩ := oth_at (p := x) (hpx.subset (List.mem_append_right _ List.mem_cons_self))
    have hxl : x.2 < l.length := by omega
    have hok := HOK.out x.2 hxi hxl
    rw [hxe] at hok
    obtain ⟨hk1, hk2, hk3, hk4, hk5, hk6, _⟩ := hok
    rw [hk2] at hk3
    have hgd : l.getD x.2 z25 = l[x.2] := by simp [hxl]
    have HG := Aside0.mk hgd
    have hpl : pre.length ≤ l.length := by
      have q1 := hpx.length_le
      have q2 := congrArg List.length HMAP.out
      have q3 : (othI 0 l).length ≤ l.length := oth_len 0 l
      rw [List.length_map] at q2
      rw [List.length_append, List.length_singleton] at q1
      omega
    obtain ⟨hts, hls⟩ := And.intro (HLT.out l[x.2] (List.getElem_mem hxl)) (HLIM.out l[x.2] (List.getElem_mem hxl))
    have HVp := Aside0.mk (show Kd.V k45 45 W.drew W.heap.size (fun k_ => k_ < w.heap.size) (.slice x.1.a1 l[x.2].f1.length x.1.c1) l[x.2].f1 from Kd.V_drew (Kd.V_mk hk3 (Foot.step (Kd.C_F k45_heap hk4) (fun k hk _ => h4.block k hk))))
    have HTC := Aside0.mk (told_walk x.1.s (fun k_ => k_ < w.heap.size) x.1.a1 x.1.c1 l[x.2].f1 x.1.a2 l[x.2].f2.length x.1.c2 W.drew HVp.out hls hts)
    have H1 := Aside0.mk h1
    have H2 := Aside0.mk h2
    have H3 := Aside0.mk h3
    have H4 := Aside0.mk h4
    have H5 := Aside0.mk h5
    have H6 := Aside0.mk h6
    have cS : W.drew.cell? ⟨w.heap.size + 1, 0, none⟩ = some v := (blk_cell h1 0).trans rfl
    have g0 : W.drew.cell? ⟨G, 0, none⟩ = some (.string x.1.s) := (blk_cell hb 0).trans rfl
    have g1 : W.drew.cell? ⟨G, 1, none⟩ = some (.slice x.1.a1 x.1.n1 x.1.c1) := (blk_cell hb 1).trans rfl
    have g2 : W.drew.cell? ⟨G, 2, none⟩ = some (.slice x.1.a2 x.1.n2 x.1.c2) := (blk_cell hb 2).trans rfl
    rw [hk2] at g1
    rw [hk5] at g2
    rw [List.length_map] at h5
    have hcl : cs.length ≤ 1000000000 := by omega
    clear h5
    obtain ⟨m, hm⟩ : ∃ m, toldP l[x.2].f1 = m := ⟨_, rfl⟩
    have HM := Aside0.mk (show toldP (l.getD x.2 z25).f1 = m by rw [hgd]; exact hm)
    rw [hm] at HTC
    clear h1 h2 h3 h4 hk1 hk2 hk3 hk4 hk5 hk6 hxe h6 hb hgd hpx hm hts hls HG
    gi_wp2
    obtain ⟨i0, hi, hzz⟩ := Option.map_eq_some_iff.1 info22
    simp only [Prod.mk.injEq] at hzz
    obtain ⟨hz0, hz1, hz2⟩ := hzz
    refine wpIn_region_any (by kernel_rfl) ?_
    change wpAnyIn _ _ _ _ _ _ _ _ _ (World.drew _)
    refine wpAnyIn_ready (rs := [0, 1]) (by kernel_rfl) (by simp) (AllReadyIn.cons rfl (fun K hK => ?_) (AllReadyIn.cons rfl (fun K hK => ?_) AllReadyIn.nil))
    · go_simp
      refine hK _ _ ?_
      clear hK K
      refine wpAnyIn_ready (rs := [1]) (by kernel_rfl) (by simp) (AllReadyIn.cons rfl (fun K hK => ?_) AllReadyIn.nil)
      go_simp
      refine hK _ _ ?_
      clear hK K
      refine wpAnyIn_ready (rs := [2]) (by kernel_rfl) (by simp) (AllReadyIn.cons rfl (fun K hK => ?_) AllReadyIn.nil)
      go_simp
      (refine (CallsIn.inRound l' (callsIn_wide.2 HTC.out)).mono ?_; rintro e w5 ⟨v5, rfl, hn5, hb5⟩; obtain ⟨A5, c5, e5⟩ := Kd.N_slice hn5; subst e5; have HN5 := Aside0.mk hn5; have HB5 := Aside0.mk hb5; have cS5 : w5.cell? ⟨w.heap.size + 1, 0, none⟩ = some v := (blk_cell (blk_below (w := W.drew) H1.out hb5) 0).trans rfl; clear hn5 hb5)
      refine hK _ _ ?_
      clear hK K
      refine wpAnyIn_ready (rs := [3]) (by kernel_rfl) (by simp) (AllReadyIn.cons rfl (fun K hK => ?_) AllReadyIn.nil)
      go_simp
      refine hK _ _ ?_
      clear hK K
      refine wpAnyIn_ready (rs := [4]) (by kernel_rfl) (by simp) (AllReadyIn.cons rfl (fun K hK => ?_) AllReadyIn.nil)
      try rw [if_pos (by rfl)]
      refine oper_append_at _ _ _ 61 rfl (w.heap.size + 2) 22 i0 (.slice none 0 0) 1 24 Try.underlying61 hi hz0 hz1 hz2 rfl (by decide) v cs.length cs rfl ((own_drew_below H3.out HB5.out).alloc _) ⟨w5.heap.size, 0, none⟩ 1 1 [.slice A5 m.length c5] rfl rfl (cell_one_new _ _ _) (by simp [Value.oneCell']) (by unfold maxLen; omega) (by omega) (by have := HB5.out.size; have hdr : W.drew.heap.size = W.heap.size := rfl; rw [World.size_alloc]; omega) ?_
      intro v' w1 hown hgrow hat
      obtain ⟨g', cap', rfl⟩ := own_succ hown
      obtain ⟨HS1, hc1, hf1⟩ := accR_at (blk_below (w := W.drew) H1.out HB5.out) H2.out hgrow
      have HO := Aside0.mk hown
      have HGR := Aside0.mk hgrow
      have HAT := Aside0.mk hat
      clear hown hgrow hat
      refine hK _ _ ?_
      clear hK K
      refine wpAnyIn_ready (rs := [5]) (by kernel_rfl) (by simp) (AllReadyIn.cons rfl (fun K hK => ?_) AllReadyIn.nil)
      go_simp
      refine hK _ _ ?_
      clear hK K
      refine wpAnyIn_done (by kernel_rfl) ?_ _
      gi_wp2
      exact rows_end (B := V.heap.size) l x pre hpl HM.out HN5.out HB5.out H1.out H2.out H3.out H4.out H5.out H6.out HGR.out HO.out HAT.out (by omega)
    · go_simp
      refine hK _ _ ?_
      clear hK K
      refine wpAnyIn_ready (rs := [0, 2]) (by kernel_rfl) (by simp) (AllReadyIn.cons rfl (fun K hK => ?_) (AllReadyIn.cons rfl (fun K hK => ?_) AllReadyIn.nil))
      · go_simp
        refine hK _ _ ?_
        clear hK K
        refine wpAnyIn_ready (rs := [2]) (by kernel_rfl) (by simp) (AllReadyIn.cons rfl (fun K hK => ?_) AllReadyIn.nil)
        go_simp
        (refine (CallsIn.inRound l' (callsIn_wide.2 HTC.out)).mono ?_; rintro e w5 ⟨v5, rfl, hn5, hb5⟩; obtain ⟨A5, c5, e5⟩ := Kd.N_slice hn5; subst e5; have HN5 := Aside0.mk hn5; have HB5 := Aside0.mk hb5; have cS5 : w5.cell? ⟨w.heap.size + 1, 0, none⟩ = some v := (blk_cell (blk_below (w := W.drew) H1.out hb5) 0).trans rfl; clear hn5 hb5)
        refine hK _ _ ?_
        clear hK K
        refine wpAnyIn_ready (rs := [3]) (by kernel_rfl) (by simp) (AllReadyIn.cons rfl (fun K hK => ?_) AllReadyIn.nil)
        go_simp
        refine hK _ _ ?_
        clear hK K
        refine wpAnyIn_ready (rs := [4]) (by kernel_rfl) (by simp) (AllReadyIn.cons rfl (fun K hK => ?_) AllReadyIn.nil)
        try rw [if_pos (by rfl)]
        refine oper_append_at _ _ _ 61 rfl (w.heap.size + 2) 22 i0 (.slice none 0 0) 1 24 Try.underlying61 hi hz0 hz1 hz2 rfl (by decide) v cs.length cs rfl ((own_drew_below H3.out HB5.out).alloc _) ⟨w5.heap.size, 0, none⟩ 1 1 [.slice A5 m.length c5] rfl rfl (cell_one_new _ _ _) (by simp [Value.oneCell']) (by unfold maxLen; omega) (by omega) (by have := HB5.out.size; have hdr : W.drew.heap.size = W.heap.size := rfl; rw [World.size_alloc]; omega) ?_
        intro v' w1 hown hgrow hat
        obtain ⟨g', cap', rfl⟩ := own_succ hown
        obtain ⟨HS1, hc1, hf1⟩ := accR_at (blk_below (w := W.drew) H1.out HB5.out) H2.out hgrow
        have HO := Aside0.mk hown
        have HGR := Aside0.mk hgrow
        have HAT := Aside0.mk hat
        clear hown hgrow hat
        refine hK _ _ ?_
        clear hK K
        refine wpAnyIn_ready (rs := [5]) (by kernel_rfl) (by simp) (AllReadyIn.cons rfl (fun K hK => ?_) AllReadyIn.nil)
        go_simp
        refine hK _ _ ?_
        clear hK K
        refine wpAnyIn_done (by kernel_rfl) ?_ _
        gi_wp2
        exact rows_end (B := V.heap.size) l x pre hpl HM.out HN5.out HB5.out H1.out H2.out H3.out H4.out H5.out H6.out HGR.out HO.out HAT.out (by omega)
      · go_simp
        (refine (CallsIn.inRound l' (callsIn_wide.2 HTC.out)).mono ?_; rintro e w5 ⟨v5, rfl, hn5, hb5⟩; obtain ⟨A5, c5, e5⟩ := Kd.N_slice hn5; subst e5; have HN5 := Aside0.mk hn5; have HB5 := Aside0.mk hb5; have cS5 : w5.cell? ⟨w.heap.size + 1, 0, none⟩ = some v := (blk_cell (blk_below (w := W.drew) H1.out hb5) 0).trans rfl; clear hn5 hb5)
        refine hK _ _ ?_
        clear hK K
        refine wpAnyIn_ready (rs := [0, 3]) (by kernel_rfl) (by simp) (AllReadyIn.cons rfl (fun K hK => ?_) (AllReadyIn.cons rfl (fun K hK => ?_) AllReadyIn.nil))
        · go_simp
          refine hK _ _ ?_
          clear hK K
          refine wpAnyIn_ready (rs := [3]) (by kernel_rfl) (by simp) (AllReadyIn.cons rfl (fun K hK => ?_) AllReadyIn.nil)
          go_simp
          refine hK _ _ ?_
          clear hK K
          refine wpAnyIn_ready (rs := [4]) (by kernel_rfl) (by simp) (AllReadyIn.cons rfl (fun K hK => ?_) AllReadyIn.nil)
          try rw [if_pos (by rfl)]
          refine oper_append_at _ _ _ 61 rfl (w.heap.size + 2) 22 i0 (.slice none 0 0) 1 24 Try.underlying61 hi hz0 hz1 hz2 rfl (by decide) v cs.length cs rfl ((own_drew_below H3.out HB5.out).alloc _) ⟨w5.heap.size, 0, none⟩ 1 1 [.slice A5 m.length c5] rfl rfl (cell_one_new _ _ _) (by simp [Value.oneCell']) (by unfold maxLen; omega) (by omega) (by have := HB5.out.size; have hdr : W.drew.heap.size = W.heap.size := rfl; rw [World.size_alloc]; omega) ?_
          intro v' w1 hown hgrow hat
          obtain ⟨g', cap', rfl⟩ := own_succ hown
          obtain ⟨HS1, hc1, hf1⟩ := accR_at (blk_below (w := W.drew) H1.out HB5.out) H2.out hgrow
          have HO := Aside0.mk hown
          have HGR := Aside0.mk hgrow
          have HAT := Aside0.mk hat
          clear hown hgrow hat
          refine hK _ _ ?_
          clear hK K
          refine wpAnyIn_ready (rs := [5]) (by kernel_rfl) (by simp) (AllReadyIn.cons rfl (fun K hK => ?_) AllReadyIn.nil)
          go_simp
          refine hK _ _ ?_
          clear hK K
          refine wpAnyIn_done (by kernel_rfl) ?_ _
          gi_wp2
          exact rows_end (B := V.heap.size) l x pre hpl HM.out HN5.out HB5.out H1.out H2.out H3.out H4.out H5.out H6.out HGR.out HO.out HAT.out (by omega)
        · go_simp
          refine hK _ _ ?_
          clear hK K
          have cS6 : (w5.alloc (.cells #[.slice A5 m.length c5] 22)).cell? ⟨w.heap.size + 1, 0, none⟩ = some v := (blk_cell (blk_alloc (blk_below (w := W.drew) H1.out HB5.out) _) 0).trans rfl
          refine wpAnyIn_ready (rs := [0]) (by kernel_rfl) (by simp) (AllReadyIn.cons rfl (fun K hK => ?_) AllReadyIn.nil)
          go_simp
          refine hK _ _ ?_
          clear hK K
          refine wpAnyIn_ready (rs := [4]) (by kernel_rfl) (by simp) (AllReadyIn.cons rfl (fun K hK => ?_) AllReadyIn.nil)
          try rw [if_pos (by rfl)]
          refine oper_append_at _ _ _ 61 rfl (w.heap.size + 2) 22 i0 (.slice none 0 0) 1 24 Try.underlying61 hi hz0 hz1 hz2 rfl (by decide) v cs.length cs rfl ((own_drew_below H3.out HB5.out).alloc _) ⟨w5.heap.size, 0, none⟩ 1 1 [.slice A5 m.length c5] rfl rfl (cell_one_new _ _ _) (by simp [Value.oneCell']) (by unfold maxLen; omega) (by omega) (by have := HB5.out.size; have hdr : W.drew.heap.size = W.heap.size := rfl; rw [World.size_alloc]; omega) ?_
          intro v' w1 hown hgrow hat
          obtain ⟨g', cap', rfl⟩ := own_succ hown
          obtain ⟨HS1, hc1, hf1⟩ := accR_at (blk_below (w := W.drew) H1.out HB5.out) H2.out hgrow
          have HO := Aside0.mk hown
          have HGR := Aside0.mk hgrow
          have HAT := Aside0.mk hat
          clear hown hgrow hat
          refine hK _ _ ?_
          clear hK K
          refine wpAnyIn_ready (rs := [5]) (by kernel_rfl) (by simp) (AllReadyIn.cons rfl (fun K hK => ?_) AllReadyIn.nil)
          go_simp
          refine hK _ _ ?_
          clear hK K
          refine wpAnyIn_done (by kernel_rfl) ?_ _
          gi_wp2
          exact rows_end (B := V.heap.size) l x pre hpl HM.out HN5.out HB5.out H1.out H2.out H3.out H4.out H5.out H6.out HGR.out HO.out HAT.out (by omega)
  case done =>
    rintro D2 W hD2 hI hK
    have hrl : (rowsP l).length ≤ 9223372036854775807 := by
      have := oth_len 0 l
      unfold rowsP
      rw [List.length_map]
      omega
    have hRe : (othersF 0 L).map (fun p => toldP (l.getD p.2 z25).f1) = rowsP l := by
      unfold rowsP
      rw [← HMAP.out, List.map_map]
      rfl
    rw [hRe] at hI
    obtain ⟨A', c', e1, e2, e3⟩ := acc_rows (.deferred none) hI hrl hK (by omega)
    have E2 := Aside0.mk e2
    have E3 := Aside0.mk e3
    clear hI hRe e2 e3
    gi_wp2
    refine ⟨by simp, .inl ⟨_, _, rfl, run_takeDeferred hK, ?_⟩⟩
    refine ⟨_, results_tmp rfl _ _ _, A', c', rfl, E2.out, E3.out.trans (below_put _ (by omega))⟩
  case stop =>
    rintro D2 cd pre W hD2 hpre h hK
    exact h.elim
end Go.Proofs.Ytebmbfobmakheaa.PD
