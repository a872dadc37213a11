/- Part 3 of the texts that the claim leans on: the functions' walks, and what they compute. -/
import Derived.Test.YtebmbfobmakheaaItipMakes2
import Derived.Scope
import Derived.Shelf.Abstract
import Derived.Maps.AppendAt
import Derived.Test.YtebmbfobmakheaaItipMakes1
import Derived.Shelf.RegionOpen
namespace Go.Proofs.Ytebmbfobmakheaa.PD
open Go.RowKit Go.Shelf Go.Proofs.YtebmbfobmakheaaW.PrintWords Go.Proofs.YtebmbfobmakheaaW.PrintLast Go.Proofs.YtebmbfobmakheaaW.PrintMore
attribute [local go_sem] isSome_setCell Oper.semAt_some wide_fn wide_depth
set_option linter.unusedVariables false
set_option linter.unusedSimpArgs false
set_option maxRecDepth 100000 in
set_option maxHeartbeats 1600000 in
theorem index9 (fk : Nat) (fn : Func) (hfn : Try.prog.funcs[fk]? = some fn) (hname : (fn.name == "runtime.NumGoroutine") = false) (hbody : fn.body.isSome = true) (lb : Array Value) (p : ByteArray → Bool)
    (A0 : Option Addr) (c0 : Nat) (l0 : List ByteArray) (w : World) (hr0 : Kd.C Kd.string w A0 l0.length l0)
    (hp : ∀ x ∈ l0, ∀ W, Below w.heap.size w W → Calls Try.prog fk (#[.string x] ++ lb) W fun e W' => e = .returned (.bool (p x)) ∧ Below W.heap.size W W') :
    Calls Try.prog 84 #[.slice A0 l0.length c0, .func (.func fk) #[] lb] w fun e w' => e = .returned (.int .i64 (idxP p l0)) ∧ Below w.heap.size w w' := by
  have HR0 := Aside0.mk hr0
  have hml : l0.length ≤ 9223372036854775807 := by have := hr0.2.1; unfold maxLen at this; omega
  clear hr0
  have HP := Aside0.mk hp
  clear hp
  have HB := Aside0.mk (Below.refl w.heap.size w)
  go_enter Try.func84, Try.ntmps84
  go_wp2
  go_loopw [8] (fun v wr => ∃ k : Nat, v = .int .i64 k ∧ k ≤ l0.length ∧ Aside0 (∀ j, (hj : j < l0.length) → j < k → p l0[j] = false) ∧ Aside0 (Below w.heap.size w wr)) (fun v _ => l0.length - (intOf v).toNat)
  case atStart => exact ⟨0, rfl, Nat.zero_le _, ⟨fun j _ hj => absurd hj (Nat.not_lt_zero _)⟩, HB⟩
  case round =>
    obtain ⟨k, rfl, hk, hno, hb⟩ := hrel
    by_cases hlt : k < l0.length
    · have hlt0 : decide ((k : Int) < (l0.length : Int)) = true := decide_eq_true (by omega)
      obtain ⟨ad, e, hx0⟩ := Kd.at_string HR0.out (k : Int) (by omega) (by omega)
      subst e
      replace hx0 := (hb.out.cell (World.block_lt_of_cell? w _ hx0)).trans hx0
      have hget : rdOf ByteArray.empty l0 (k : Int) = l0[k] := by simp only [rdOf, Int.toNat_natCast]; simp [hlt]
      rw [hget] at hx0
      have hc := HP.out l0[k] (List.getElem_mem hlt) wr hb.out
      simp only [Int.toNat_natCast] at hx0
      cases hpk : p l0[k] with
      | true =>
        rw [hpk] at hc
        have HC := Aside0.mk hc
        clear hc
        go_wp2_with ((with_reducible refine gate_tmp (t := 11) rfl ?_); refine goesF_ (some 16) rfl rfl hfn hname hbody (args := #[.string l0[k]] ++ lb) rfl rfl (by (try simp only [List.map_toArray, List.map_cons, List.map_nil]); first | done | rfl) ?_; refine HC.out.mono ?_; rintro e W' ⟨rfl, hb'⟩; refine ⟨_, rfl, ?_⟩)
        go_ret
        refine ⟨?_, hb.out.trans (hb'.mono hb.out.size)⟩
        rw [idxP_at p l0 k hlt hpk (fun j hj => hno.out j (by omega) hj)]
        rfl
      | false =>
        rw [hpk] at hc
        have HC := Aside0.mk hc
        clear hc
        go_wp2_with ((with_reducible refine gate_tmp (t := 11) rfl ?_); refine goesF_ (some 16) rfl rfl hfn hname hbody (args := #[.string l0[k]] ++ lb) rfl rfl (by (try simp only [List.map_toArray, List.map_cons, List.map_nil]); first | done | rfl) ?_; refine HC.out.mono ?_; rintro e W' ⟨rfl, hb'⟩; refine ⟨_, rfl, ?_⟩)
        go_roundw
        case rel =>
          refine ⟨k + 1, by simp, hlt, ⟨fun j hj hjk => ?_⟩, ⟨hb.out.trans (hb'.mono hb.out.size)⟩⟩
          rcases Nat.lt_or_ge j k with h | h
          · exact hno.out j hj h
          · obtain rfl : j = k := by omega
            exact hpk
        case measure => show l0.length - (((k : Int) + 1)).toNat < l0.length - ((k : Int)).toNat; omega
    · have hlt0 : decide ((k : Int) < (l0.length : Int)) = false := decide_eq_false (by omega)
      go_wp2
      go_ret
      refine ⟨?_, hb.out⟩
      rw [idxP_none p l0 (fun j hj => hno.out j hj (by omega))]
      rfl
set_option maxRecDepth 100000 in
set_option maxHeartbeats 1600000 in
theorem attN1_calls (v : ByteArray) (G : Nat) (a : ByteArray) (ha : shortB a = true) (hv : shortB v = true) (W : World) (hG : W.cell? ⟨G, 2, none⟩ = some (.string v)) :
    Calls Try.prog 47 (#[.string a] ++ #[.pointer (some ⟨G, 0, none⟩)]) W fun e W' => e = .returned (.bool (alikeB a v)) ∧ Below W.heap.size W W' := by
  go_enter Try.func47, Try.ntmps47
  go_wp2_with (go_at_call 48; refine (alike_calls a v ha hv W).mono ?_; rintro e w1 ⟨rfl, hb⟩; have HB := Aside0.mk hb; clear hb)
  go_ret
  exact ⟨rfl, HB.out⟩
set_option maxRecDepth 100000 in
set_option maxHeartbeats 1600000 in
theorem contains_walk (v : ByteArray) (G : Nat) (A0 : Option Addr) (c0 : Nat) (l0 : List ByteArray) (hl : ∀ a ∈ l0, shortB a = true) (hv : shortB v = true) (w : World) (hr0 : Kd.C Kd.string w A0 l0.length l0) (hG : w.cell? ⟨G, 2, none⟩ = some (.string v)) :
    Calls Try.prog 46 #[.slice A0 l0.length c0, .func (.func 47) #[] #[.pointer (some ⟨G, 0, none⟩)]] w fun e w' => e = .returned (.bool (l0.any fun a => alikeB a v)) ∧ Below w.heap.size w w' := by
  have HI := Aside0.mk (index9 47 _ Try.func47 (by kernel_rfl) rfl #[.pointer (some ⟨G, 0, none⟩)] (fun a => alikeB a v) A0 c0 l0 w hr0 (fun x hx W hW => attN1_calls v G x (hl x hx) hv W ((hW.cell (World.block_lt_of_cell? w _ hG)).trans hG)))
  rw [← idxP_any]
  obtain ⟨i, hi⟩ : ∃ i, idxP (fun a => alikeB a v) l0 = i := ⟨_, rfl⟩
  rw [hi] at HI ⊢
  clear hr0 hi
  go_enter Try.func46, Try.ntmps46
  go_wp2_with (go_at_call 84; refine HI.out.mono ?_; rintro e w1 ⟨rfl, hb1⟩; have HB1 := Aside0.mk hb1; clear hb1)
  go_ret
  exact ⟨rfl, HB1.out⟩
theorem wpListIn_append_at {F : Fence} {n : Nat} {P : Program} (w : World) {ops : Array Oper} {rest : List Oper} {o : Oper} {a : Act} {Q : Exit → Act → World → Prop}
    (hg : o.guard = none) (s x : Operand) (t : TypeId) (hop : o.op = Op.call { callee := Callee.builtin Builtin.append, args := #[s, x], argTypes := #[t, t] })
    (base : Nat) (e : TypeId) (i : TypeInfo) (z : Value) (size bytes : Nat) (h1 : P.underlying t = some (.slice e)) (h2 : P.info? e = some i) (h3 : i.zero = some z) (h4 : i.size = size) (h5 : i.bytes = bytes) (h6 : z.cells.size = size) (h7 : 0 < size)
    (v : Value) (k : Nat) (xs : List Value) (hs : a.eval s = v) (hown : w.ownsRow base e size v k xs) (ad : Addr) (m c : Nat) (news : List Value) (hx : a.eval x = .slice (some ad) m c) (hn : news.length = m * size)
    (hc : ∀ j u, news[j]? = some u → w.cell? (ad.add j) = some u) (h1c : ∀ u ∈ news, u.oneCell' = true) (b1 : k + m ≤ maxLen) (b2 : (k + m) * bytes ≤ 140737488355328) (b3 : base ≤ w.heap.size)
    (hK : ∀ v' w', w'.ownsRow base e size v' (k + m) (xs ++ news) → w.grownBy w' v.ownBlock → (v'.ownBlock = v.ownBlock ∨ v'.ownBlock = some w.heap.size) → wpListIn F n P ops Q rest (a.put o.dst v') w') :
    wpListIn F n P ops Q (o :: rest) a w := by
  refine wpListIn_plain hg fun K hK' => ?_
  obtain ⟨v', w', hrun, r1, r2, r3, r4⟩ := run_append_own_at (P := P) w base t o.type e i z size bytes h1 h2 h3 h4 h5 h6 h7 v k xs hown ad m c news hn hc h1c b1 b2 b3
  unfold Oper.wpIn
  refine ⟨?_, ?_⟩
  · simp [Oper.about, hop, resolve, Target.leads, Sem.run_pure]
  · rw [Oper.semAt_plain F _ _ (by rw [hop]; intro c hc'; cases hc')]
    simp [execOp, hop, resolve, invoke, builtin, hs, hx, hrun, Result.andThen]
    exact hK' _ _ (hK v' w' r1 r2 r4)
def addA (acc : List ByteArray) (x : S45) : List ByteArray := if (acc.any fun a => alikeB a x.f2) = true then acc else acc ++ [x.f2]
def attendeesP (l : List S25) : List ByteArray := (attP l).foldl addA []
theorem addA_mem (pre : List S45) : ∀ acc : List ByteArray, (∀ a ∈ acc, shortB a = true) → (∀ x ∈ pre, shortB x.f2 = true) → (∀ a ∈ pre.foldl addA acc, shortB a = true) ∧ (pre.foldl addA acc).length ≤ acc.length + pre.length := by
  induction pre with
  | nil => intro acc h _; exact ⟨h, by simp⟩
  | cons x pre ih =>
    intro acc h hx
    have h1 : ∀ a ∈ addA acc x, shortB a = true := by
      unfold addA
      split
      · exact h
      · intro a ha
        rcases List.mem_append.1 ha with ha | ha
        · exact h a ha
        · rw [List.mem_singleton.1 ha]; exact hx x List.mem_cons_self
    have h2 : (addA acc x).length ≤ acc.length + 1 := by unfold addA; split <;> simp
    obtain ⟨h3, h4⟩ := ih _ h1 (fun y hy => hx y (List.mem_cons_of_mem _ hy))
    exact ⟨h3, by rw [List.foldl_cons, List.length_cons]; omega⟩
def Acc (w : World) (xs : List ByteArray) (W : World) : Prop := ∃ v : Value, (W.heap[w.heap.size + 1]? = some (.cells #[v] 33 (0, 0)) ∧ v.ownBlock ≠ some (w.heap.size + 1)) ∧ W.ownsRow (w.heap.size + 2) 9 1 v xs.length (xs.map Value.string) ∧ Below w.heap.size w W
def OwA (w : World) (X : World) (k : Nat) : Prop := ∃ v : Value, X.heap[w.heap.size + 1]? = some (.cells #[v] 33 (0, 0)) ∧ v.ownBlock = some k
theorem owns_typed {W : World} {base : Nat} {e : TypeId} {size n k : Nat} {v : Value} {xs : List Value} (h : W.ownsRow base e size v n xs) (hv : v.ownBlock = some k) : base ≤ k ∧ k < W.heap.size ∧ ∃ cells, W.heap[k]? = some (.cells cells e (0, 0)) := by
  rcases h.2 with ⟨rfl, _⟩ | ⟨g, cap, cur, rfl, hb, hg, _⟩
  · simp [Value.ownBlock] at hv
  · have : g = k := by simpa [Value.ownBlock] using hv
    subst this
    exact ⟨hb, (Array.getElem?_eq_some_iff.1 hg).1, _, hg⟩
theorem acc_own (w : World) (B : Nat) (hB : w.heap.size + 2 ≤ B) : OwnZ NoZ B (fun (xs : List ByteArray) W => Acc w xs W) := by
  rintro s X Y row ⟨v, ⟨h1, h2⟩, h3, h4⟩ hg hr
  refine ⟨v, ⟨cell_own h1 hg hr, h2⟩, h3.kept hg ?_, below_own h4 (by omega) hg hr⟩
  cases hv : v.ownBlock with
  | none => exact .inl rfl
  | some g =>
    refine .inr (fun e => ?_)
    obtain ⟨_, _, cells, hcl⟩ := owns_typed h3 hv
    rcases hr g e.symm with h | ⟨_, o, ho, hoc⟩
    · exact h
    · rw [hcl] at ho; cases ho; cases hoc
theorem acc_ownS (w : World) (B : Nat) (p : List S45 → List ByteArray) : OwnS NoZ (OwA w) B (fun (pre : List S45) W => Acc w (p pre) W) := by
  refine ⟨?_, ?_⟩
  · rintro s X Y row ⟨v, ⟨h1, h2⟩, h3, h4⟩ hg hr k ⟨v', hv', hk⟩
    rw [cell_own h1 hg hr] at hv'
    have : v = v' := by injection hv' with h; injection h with h; simpa using h
    exact ⟨v, h1, by rw [this]; exact hk⟩
  · rintro s X ⟨v, ⟨h1, h2⟩, h3, h4⟩ k ⟨v', hv', hk⟩
    rw [h1] at hv'
    have : v = v' := by injection hv' with h; injection h with h; simpa using h
    exact (owns_typed h3 (by rw [this]; exact hk)).2.1
theorem acc_at {W w1 : World} {S : Nat} {v u : Value} {t : TypeId} (h1 : W.heap[S]? = some (.cells #[v] 33 (0, 0))) (h2 : v.ownBlock ≠ some S) (hg : (W.alloc (.cells #[u] t)).grownBy w1 v.ownBlock) :
    w1.heap[S]? = some (.cells #[v] 33 (0, 0)) ∧ w1.cell? ⟨S, 0, none⟩ = some v ∧ w1.frozen? ⟨S, 0, none⟩ = false := by
  have h := blk_grown (blk_alloc h1 (.cells #[u] t)) hg (fun e => h2 e.symm)
  exact ⟨h, (blk_cell h 0).trans rfl, blk_frozen h 0⟩
theorem own_succ {w : World} {base : Nat} {e : TypeId} {size n : Nat} {v : Value} {xs : List Value} (h : w.ownsRow base e size v (n + 1) xs) : ∃ g cap, v = .slice (some ⟨g, 0, none⟩) (n + 1) cap := by
  rcases h.2 with ⟨_, h0⟩ | ⟨g, cap, cur, rfl, _⟩
  · omega
  · exact ⟨g, cap, rfl⟩
theorem own_put {W : World} {base : Nat} {e : TypeId} {size n D : Nat} {v : Value} {xs : List Value} {o : Obj} (h : W.ownsRow base e size v n xs) (hD : W.heap[D]? = some (.deferred (some []))) : (W.putObj D o).ownsRow base e size v n xs := by
  refine h.kept (row := some D) (grownBy_putObj' W D o) ?_
  cases hv : v.ownBlock with
  | none => exact .inl rfl
  | some g =>
    refine .inr (fun e => ?_)
    obtain ⟨_, _, cells, hcl⟩ := owns_typed h hv
    injection e with e
    rw [e, hD] at hcl
    cases hcl
theorem acc_step {w W W0 w1 : World} {B : Nat} {v : Value} {acc : List ByteArray} {x : ByteArray} {g cap : Nat} (hb0 : Below W0.heap.size W0 W) (h1 : W.heap[w.heap.size + 1]? = some (.cells #[v] 33 (0, 0))) (h10 : W0.heap[w.heap.size + 1]? = some (.cells #[v] 33 (0, 0))) (h2 : v.ownBlock ≠ some (w.heap.size + 1)) (h3 : W.ownsRow (w.heap.size + 2) 9 1 v acc.length (acc.map Value.string)) (h4 : Below w.heap.size w W)
    (hg : (W.alloc (.cells #[.string x] 9)).grownBy w1 v.ownBlock) (ho : w1.ownsRow (w.heap.size + 2) 9 1 (.slice (some ⟨g, 0, none⟩) (acc.length + 1) cap) (acc.length + 1) (acc.map Value.string ++ [.string x])) (hat : some g = v.ownBlock ∨ some g = some (W.alloc (.cells #[.string x] 9)).heap.size) (hB : w.heap.size + 2 ≤ B) :
    KO (OwA w) B W0 (w1.setCell ⟨w.heap.size + 1, 0, none⟩ (.slice (some ⟨g, 0, none⟩) (acc.length + 1) cap)) ∧ Below w.heap.size W0 (w1.setCell ⟨w.heap.size + 1, 0, none⟩ (.slice (some ⟨g, 0, none⟩) (acc.length + 1) cap)) ∧ Acc w (acc ++ [x]) (w1.setCell ⟨w.heap.size + 1, 0, none⟩ (.slice (some ⟨g, 0, none⟩) (acc.length + 1) cap)) := by
  obtain ⟨S, hS⟩ : ∃ S, w.heap.size + 1 = S := ⟨_, rfl⟩
  have hS2 : w.heap.size + 2 = S + 1 := by omega
  rw [hS2] at h3 ho hB
  unfold Acc OwA
  rw [hS2]
  rw [hS] at h1 h10 h2 ⊢
  obtain ⟨X, hX⟩ : ∃ X, w1.setCell ⟨S, 0, none⟩ (.slice (some ⟨g, 0, none⟩) (acc.length + 1) cap) = X := ⟨_, rfl⟩
  have hsz : w1.heap.size = X.heap.size := by rw [← hX]; simp [World.setCell]
  have hsw : W.heap.size + 1 ≤ w1.heap.size := by have := hg.size; rw [World.size_alloc] at this; omega
  have hs0 := hb0.size
  have far : ∀ k, k ≠ S → X.heap[k]? = w1.heap[k]? := fun k hk => by rw [← hX]; exact Below.heap_setCell _ _ _ k hk
  have hv : ∀ k, v.ownBlock = some k → S + 1 ≤ k := fun k e => (owns_typed h3 e).1
  have old : ∀ k, k < W.heap.size → some k ≠ v.ownBlock → w1.heap[k]? = W.heap[k]? := fun k hk hne => (hg.block k (by rw [World.size_alloc]; omega) hne).trans (Below.heap_alloc _ _ _ hk)
  have hgS : g ≠ S := by have := (owns_typed ho (k := g) (by simp [Value.ownBlock])).1; omega
  have hbl : Below w.heap.size W X := ⟨by rw [← hX]; exact hg.os, by rw [← hX]; exact hg.tape, by rw [← hX]; exact hg.output, by omega, fun k hk => (far k (by omega)).trans (old k (by have := h4.size; omega) (fun e => by have := hv k e.symm; omega))⟩
  have hb1 := (acc_at h1 h2 hg).1
  have hXS : X.heap[S]? = some (.cells #[.slice (some ⟨g, 0, none⟩) (acc.length + 1) cap] 33 (0, 0)) := by rw [← hX]; exact blk_set hb1 0 _
  have hw0 : w.heap.size ≤ W0.heap.size := by have := (Array.getElem?_eq_some_iff.1 h10).1; omega
  rw [hX]
  refine ⟨⟨by omega, fun i o hi ho' hc => ?_, fun k hk => ?_⟩, (hb0.mono hw0).trans hbl, ⟨_, ⟨hXS, by simpa [Value.ownBlock] using hgS⟩, ?_, h4.trans hbl⟩⟩
  · have hil := (Array.getElem?_eq_some_iff.1 ho').1
    rw [far i (by omega), old i (by omega) (fun e => ?_)]
    · exact (hb0.block i hil).trans ho'
    · obtain ⟨_, _, cells, hcl⟩ := owns_typed h3 e.symm
      rw [hb0.block i hil, ho'] at hcl
      injection hcl with hcl
      exact hc (by rw [hcl]; rfl) ⟨v, h10, e.symm⟩
  · obtain ⟨v', hv', hk'⟩ := hk
    rw [hXS] at hv'
    have : Value.slice (some ⟨g, 0, none⟩) (acc.length + 1) cap = v' := by injection hv' with h; injection h with h; simpa using h
    rw [← this] at hk'
    have hgk : g = k := by simpa [Value.ownBlock] using hk'
    subst hgk
    rcases hat with h | h
    · exact .inl ⟨v, h10, h.symm⟩
    · injection h with h
      rw [World.size_alloc] at h
      exact .inr (by omega)
  · rw [List.length_append, List.length_singleton, List.map_append]
    refine ho.kept (row := some S) ⟨by rw [← hX]; rfl, by rw [← hX]; rfl, by rw [← hX]; rfl, by omega, fun k _ hk => far k (fun e => hk (by rw [e]))⟩ (.inr (by simpa [Value.ownBlock] using hgS))
theorem strs_R {W : World} {base : Nat} {v : Value} {xs : List ByteArray} (h : W.ownsRow base 9 1 v xs.length (xs.map Value.string)) : Kd.R Kd.string 9 W base (fun _ => True) v xs := by
  refine ⟨fun _ _ => trivial, _, h, ?_⟩
  refine ⟨by show _ = xs.length * 1; simp, fun j x hj => ?_⟩
  obtain ⟨hjl, hjx⟩ := List.getElem?_eq_some_iff.1 hj
  show (List.map Value.string xs |>.drop (j * 1) |>.take 1) = [.string x]
  rw [Nat.mul_one, List.drop_eq_getElem_cons (by simpa using hjl), List.take_succ_cons, List.take_zero]
  simp [hjx]
set_option maxRecDepth 100000 in
set_option maxHeartbeats 8000000 in
theorem attendees_walk (nm : ByteArray) (A1 : Option Addr) (n1 c1 : Nat) (A : Option Addr) (c : Nat) (l : List S25) (w : World) (hr : Kd.C k25 w A l.length l) (hlim : ∀ x ∈ l, x.f1.length < 2513169434917) (hok : ∀ x ∈ attP l, shortB x.f2 = true) (hln : (attP l).length ≤ 1000000) :
    Calls Try.prog 15 #[.agg #[.string nm, .slice A1 n1 c1, .slice A l.length c]] w fun e w' => ∃ v, e = .returned v ∧ Kd.R Kd.string 9 w' w.heap.size (fun _ => True) v (attendeesP l) ∧ Below w.heap.size w w' := by
  have HR := Aside0.mk hr
  have HLIM := Aside0.mk hlim
  have HOK := Aside0.mk hok
  clear hr hlim hok
  have HV : Aside0 (Acc w [] ((w.alloc (.cells #[.string nm, .slice A1 n1 c1, .slice A l.length c] 25)).alloc (.cells #[.slice none 0 0] 33))) := ⟨.slice none 0 0, ⟨by
      have := heap_alloc_new (w.alloc (.cells #[.string nm, .slice A1 n1 c1, .slice A l.length c] 25)) (.cells #[.slice none 0 0] 33)
      rw [World.size_alloc] at this
      exact this, by simp [Value.ownBlock]⟩, World.ownsRow_nil _ _ _ _, below_alloc (below_alloc (Below.refl _ _) _) _⟩
  refine (callsIn_wide (n := 51)).1 ?_
  refine callsIn_of_wp_marks Try.func15 rfl trivial ?_ rfl
  simp only [Try.ntmps15, List.size_toArray, List.length_cons, List.length_nil, Nat.reduceAdd, Nat.reduceSub, Array.replicate_succ, Array.replicate_zero, List.push_toArray, List.append_toArray, List.nil_append, List.cons_append]
  gi_wp2
  gi_at_call 45
  refine (callsIn_wide.2 (atts_made nm A1 n1 c1 A l.length c _)).mono ?_
  rintro e w4 ⟨rfl, rfl⟩
  gi_wp2
  obtain ⟨V, hVe⟩ : ∃ V, ((w.alloc (.cells #[.string nm, .slice A1 n1 c1, .slice A l.length c] 25)).alloc (.cells #[.slice none 0 0] 33)).alloc (.cells #[.string nm, .slice A1 n1 c1, .slice A l.length c] 25) = V := ⟨_, rfl⟩
  have hz : V.heap.size = w.heap.size + 3 := by rw [← hVe]; simp
  have q1 : V.heap[w.heap.size + 2]? = some (.cells #[.string nm, .slice A1 n1 c1, .slice A l.length c] 25 (0, 0)) := by
    have := heap_alloc_new ((w.alloc (.cells #[.string nm, .slice A1 n1 c1, .slice A l.length c] 25)).alloc (.cells #[.slice none 0 0] 33)) (.cells #[.string nm, .slice A1 n1 c1, .slice A l.length c] 25)
    rw [World.size_alloc, World.size_alloc, hVe] at this
    exact this
  have HOG := Aside0.mk (show Acc w [] V from by
    obtain ⟨v, ⟨a1, a2⟩, a3, a4⟩ := HV.out
    rw [← hVe]
    exact ⟨v, ⟨blk_alloc a1 _, a2⟩, a3.alloc _, below_alloc a4 _⟩)
  try rw [show w.heap.size + 1 + 1 = w.heap.size + 2 from rfl]
  rw [hVe]
  clear hVe HV
  refine range_z (n₀ := w.heap.size) (Z := NoZ) (gf := 82) (lb := #[.pointer (some ⟨w.heap.size + 2, 0, none⟩)]) (En := EnP) (xs := attP l) (Rd := fun _ W => Below w.heap.size w W) (Own := OwA w) rfl (enters_of Try.func82 (by kernel_rfl) rfl) (by omega) (fun b hb => hb.elim)
    (fun l' J Jx W hW hJ hJx hRd hSa hSb hY h0 => (callsIn_wide (n := 51)).1 (att_in A c l w HR.out HLIM.out nm A1 n1 c1 l' (w.heap.size + 2) J Jx W hJ hJx hRd hSa hSb hY ((hW.block (w.heap.size + 2) (by omega)).trans q1) h0)) (fun x ar _ e => by obtain ⟨_, _, e, _⟩ := e; rw [e]; rfl)
    (fun pre W => Acc w (pre.foldl addA []) W)
    (fun pre W h => by obtain ⟨_, _, _, h⟩ := h; exact h)
    (fun cd pre W => False)
    (fun s X Y row hs hg hr => acc_own w V.heap.size (by omega) _ X Y row hs hg hr) (fun cd => fun s X Y row h hg hr => h) (acc_ownS w _ (fun pre => pre.foldl addA [])) (fun cd => ⟨fun _ _ _ _ h => h.elim, fun _ _ h => h.elim⟩) HOG.out
    (fun x a' W => ∃ G Ax cx, w.heap.size + 3 ≤ G ∧ a' = { tmps := #[.agg #[.string nm, .slice A1 n1 c1, .slice A l.length c], .pointer (some ⟨w.heap.size, 0, none⟩), .slice none 0 0, .pointer (some ⟨w.heap.size + 1, 0, none⟩), .pointer (some ⟨G, 0, none⟩), .agg #[.string nm, .slice A1 n1 c1, .slice A l.length c], .func (.func 82) #[] #[.pointer (some ⟨w.heap.size + 2, 0, none⟩)], .agg #[.string x.f0, .slice Ax x.f1.length cx, .string x.f2], undef, undef, undef, undef, undef, undef, undef, undef, undef, undef], defers := [] } ∧ W.heap[G]? = some (.cells #[.string x.f0, .slice Ax x.f1.length cx, .string x.f2] 45 (0, 0)))
    (fun x a' _ X Y row h hg hr => by
      obtain ⟨G, Ax, cx, hG, e, hb⟩ := h
      exact ⟨G, Ax, cx, hG, e, cell_own hb hg hr⟩) ?assign ?body ?done ?stop
  case assign =>
    rintro l' pre x ar W K hI hpx ⟨Ax, cx, rfl, hcx, hCx⟩ hW hK
    gi_wp2
    have hb : Below W.heap.size W (W.alloc (.cells #[.string x.f0, .slice Ax x.f1.length cx, .string x.f2] 45)) := below_alloc (Below.refl _ _) _
    have hst := (acc_ownS w V.heap.size (fun pre => pre.foldl addA [])).below (s := pre) hI hb
    refine hK _ _ ((kf_below hb).koS hst) (hb.mono (by obtain ⟨_, _, _, h⟩ := hI; exact h.size)) (fun _ h => h.elim) ((acc_own w V.heap.size (by omega)).below hI hb) ⟨W.heap.size, Ax, cx, by omega, by simp, heap_alloc_new W _⟩
  case body =>
    rintro l' pre x a' W ⟨v, ⟨h1, h2⟩, h3, h4⟩ hpx hWs ⟨G, Ax, cx, hG, rfl, hb⟩
    have hmem : x ∈ attP l := hpx.subset (List.mem_append_right _ List.mem_cons_self)
    have hsx := HOK.out x hmem
    have hpl := hpx.length_le
    rw [List.length_append, List.length_singleton] at hpl
    obtain ⟨acc, hacc⟩ : ∃ acc, pre.foldl addA [] = acc := ⟨_, rfl⟩
    obtain ⟨hm1, hm2⟩ := addA_mem pre [] (fun a h => by cases h) (fun y hy => HOK.out y (hpx.subset (List.mem_append_left _ hy)))
    rw [hacc] at hm1 hm2 h3
    simp only [List.length_nil] at hm2
    have hRs := strs_R h3
    obtain ⟨Av, cv, ev⟩ := Kd.R_slice hRs
    subst ev
    have hCs := (Kd.R_reads' hRs).2.2
    have HM1 := Aside0.mk hm1
    have HA := Aside0.mk hacc
    have H1 := Aside0.mk h1
    have H2 := Aside0.mk h2
    have H3 := Aside0.mk h3
    have H4 := Aside0.mk h4
    have HCS := Aside0.mk hCs
    have HBX := Aside0.mk hb
    have cS : W.cell? ⟨w.heap.size + 1, 0, none⟩ = some (.slice Av acc.length cv) := (blk_cell h1 0).trans rfl
    have g2 : W.cell? ⟨G, 2, none⟩ = some (.string x.f2) := (blk_cell hb 2).trans rfl
    clear h1 h2 h3 h4 hb hmem hRs hCs hm1 hacc hpx
    gi_wp2
    gi_at_call 46
    refine (CallsIn.inRound l' (callsIn_wide.2 (contains_walk x.f2 G Av cv acc HM1.out hsx W HCS.out g2))).mono ?_
    rintro e w5 ⟨rfl, hb5⟩
    have HB5 := Aside0.mk hb5
    have H15 := Aside0.mk (blk_below H1.out hb5)
    have HX5 := Aside0.mk (blk_below HBX.out hb5)
    clear hb5 cS g2
    cases hq : (acc.any fun a => alikeB a x.f2) with
    | true =>
      have HQ := Aside0.mk hq
      clear hq
      gi_wp2
      have hst := (acc_ownS w V.heap.size (fun pre => pre.foldl addA [])).below (s := pre) ⟨_, ⟨H1.out, H2.out⟩, by rw [HA.out]; exact H3.out, H4.out⟩ HB5.out
      refine ⟨(kf_below HB5.out).koS hst, HB5.out.mono H4.out.size, fun _ h => h.elim, ?_⟩
      show Acc w ((pre ++ [x]).foldl addA []) _
      rw [List.foldl_append, HA.out]
      show Acc w (addA acc x) w5
      unfold addA
      rw [if_pos HQ.out]
      exact (acc_own w V.heap.size (by omega)).below ⟨_, ⟨H1.out, H2.out⟩, H3.out, H4.out⟩ HB5.out
    | false =>
      have HQ := Aside0.mk hq
      clear hq
      have cS : w5.cell? ⟨w.heap.size + 1, 0, none⟩ = some (.slice Av acc.length cv) := (blk_cell H15.out 0).trans rfl
      have g2 : w5.cell? ⟨G, 2, none⟩ = some (.string x.f2) := (blk_cell HX5.out 2).trans rfl
      have h35 : w5.ownsRow (w.heap.size + 2) 9 1 (.slice Av acc.length cv) acc.length (acc.map Value.string) := H3.out.kept (row := none) (gb_below HB5.out) (by cases hv : (Value.slice Av acc.length cv).ownBlock with | none => exact .inl rfl | some g => exact .inr (by simp))
      obtain ⟨i0, hi, hzz⟩ := Option.map_eq_some_iff.1 info9
      simp only [Prod.mk.injEq] at hzz
      obtain ⟨hz0, hz1, hz2⟩ := hzz
      have hWS : w.heap.size + 2 ≤ w5.heap.size := by have := HB5.out.size; omega
      have hvl : (acc.map Value.string).length = acc.length := by simp
      gi_wp2_with (gi_at_builtin; refine wpListIn_append_at _ rfl _ _ 33 rfl (w.heap.size + 2) 9 i0 (.string ⟨#[]⟩) 1 16 Try.underlying33 hi hz0 hz1 hz2 rfl (by decide) _ _ _ rfl (h35.alloc _) ⟨w5.heap.size, 0, none⟩ 1 1 [.string x.f2] rfl rfl (cell_one_new _ _ _) (by simp [Value.oneCell']) (by unfold maxLen; omega) (by omega) (by simp; omega) ?_; intro v' w1 hown' hgrow hat; obtain ⟨g', cap', rfl⟩ := own_succ hown'; obtain ⟨HS1, hc1, hf1⟩ := acc_at H15.out H2.out hgrow; have HO := Aside0.mk hown'; have HG := Aside0.mk hgrow; have HAT := Aside0.mk hat; clear hown' hgrow hat cS)
      obtain ⟨k1, k2, k3⟩ := acc_step (B := V.heap.size) HB5.out H15.out H1.out H2.out h35 (H4.out.trans (HB5.out.mono H4.out.size)) HG.out HO.out (by exact HAT.out) (by omega)
      refine ⟨k1, k2, fun _ h => h.elim, ?_⟩
      show Acc w ((pre ++ [x]).foldl addA []) _
      rw [List.foldl_append, HA.out]
      show Acc w (addA acc x) _
      unfold addA
      rw [if_neg (by rw [HQ.out]; decide)]
      exact k3
  case done =>
    rintro D2 W hD2 ⟨v, ⟨h1, h2⟩, h3, h4⟩ hK
    have cS : W.cell? ⟨w.heap.size + 1, 0, none⟩ = some v := (blk_cell h1 0).trans rfl
    have H3 := Aside0.mk h3
    have H4 := Aside0.mk h4
    clear h1 h2 h3 h4
    gi_wp2
    refine ⟨by simp, .inl ⟨_, _, rfl, run_takeDeferred hK, ?_⟩⟩
    refine ⟨_, results_tmp rfl _ _ _, v, rfl, ?_, H4.out.trans (below_put _ (by omega))⟩
    exact Kd.R_lower (strs_R (own_put H3.out hK)) (Nat.le_add_right _ _)
  case stop =>
    rintro D2 cd pre W hD2 hpre h hK
    exact h.elim
def okF (l : List S25) : Bool := (attP l).all fun x => shortB x.f2
def itip_Attendees.f (k : Nat) (a0_0 : ByteArray) (l0_1 : List (S45)) (l0_2 : List (S25)) : Option (List ByteArray) := if (limB l0_2 && (okF l0_2 && decide ((attP l0_2).length ≤ 1000000))) = true then some (attendeesP l0_2) else none
theorem itip_Attendees.calls (k : Nat) (a0_0 : ByteArray) (A0_1 : Option Addr) (c0_1 : Nat) (l0_1 : List (S45)) (A0_2 : Option Addr) (c0_2 : Nat) (l0_2 : List (S25)) (r : List ByteArray) (w : World) (hr0_1 : Kd.C k45 w A0_1 l0_1.length l0_1) (hc0_1 : l0_1.length ≤ c0_1) (hr0_2 : Kd.C k25 w A0_2 l0_2.length l0_2) (hc0_2 : l0_2.length ≤ c0_2) (h : itip_Attendees.f k a0_0 l0_1 l0_2 = some r) :
    Calls Try.prog 15 #[.agg #[.string a0_0, .slice A0_1 l0_1.length c0_1, .slice A0_2 l0_2.length c0_2]] w fun e w' => ∃ v0_ : Value, e = .returned (v0_) ∧ Kd.R Kd.string 9 w' w.heap.size (fun _ => True) v0_ r ∧ Below w.heap.size w w' := by
  unfold itip_Attendees.f at h
  split at h
  case isFalse => cases h
  rename_i hc
  simp only [Bool.and_eq_true, decide_eq_true_eq] at hc
  obtain rfl := Option.some.inj h
  exact attendees_walk a0_0 A0_1 _ c0_1 A0_2 c0_2 l0_2 w hr0_2 ((limB_iff _).1 hc.1) (List.all_eq_true.1 hc.2.1) hc.2.2
end Go.Proofs.Ytebmbfobmakheaa.PD
namespace Go.Proofs.Ytebmbfobmakheaa.PD
open Go.RowKit Go.Proofs.YtebmbfobmakheaaW.PrintWords Go.Proofs.YtebmbfobmakheaaW.PrintLast Go.Proofs.YtebmbfobmakheaaW.PrintMore
attribute [local go_sem] isSome_setCell max2_int min2_int max_two min_two
set_option linter.unusedVariables false
set_option linter.unusedSimpArgs false
def toldN : List ByteArray := [(⟨#[82, 69, 67, 85, 82, 82, 69, 78, 67, 69, 45, 73, 68]⟩ : ByteArray), (⟨#[68, 84, 83, 84, 65, 82, 84]⟩ : ByteArray), (⟨#[68, 84, 69, 78, 68]⟩ : ByteArray), (⟨#[68, 85, 69]⟩ : ByteArray), (⟨#[68, 85, 82, 65, 84, 73, 79, 78]⟩ : ByteArray), (⟨#[82, 82, 85, 76, 69]⟩ : ByteArray), (⟨#[82, 68, 65, 84, 69]⟩ : ByteArray), (⟨#[69, 88, 68, 65, 84, 69]⟩ : ByteArray)]
def byN (l : List S45) (n : ByteArray) : List S45 := l.filter fun x => x.f0.toList == n.toList
def toldP (l : List S45) : List S45 := toldN.flatMap (byN l)
theorem told_at (W : World) (G : Nat) (hG : W.heap[G]? = some (.cells #[.string (⟨#[82, 69, 67, 85, 82, 82, 69, 78, 67, 69, 45, 73, 68]⟩ : ByteArray), .string (⟨#[68, 84, 83, 84, 65, 82, 84]⟩ : ByteArray), .string (⟨#[68, 84, 69, 78, 68]⟩ : ByteArray), .string (⟨#[68, 85, 69]⟩ : ByteArray), .string (⟨#[68, 85, 82, 65, 84, 73, 79, 78]⟩ : ByteArray), .string (⟨#[82, 82, 85, 76, 69]⟩ : ByteArray), .string (⟨#[82, 68, 65, 84, 69]⟩ : ByteArray), .string (⟨#[69, 88, 68, 65, 84, 69]⟩ : ByteArray)] 9 (0, 0))) (j : Nat) (hj : j < 8) : W.cell? ⟨G, j, none⟩ = some (.string (toldN[j]'hj)) := by
  refine (blk_cell hG j).trans ?_
  match j, hj with
  | 0, _ | 1, _ | 2, _ | 3, _ | 4, _ | 5, _ | 6, _ | 7, _ => rfl
set_option maxRecDepth 100000 in
set_option maxHeartbeats 8000000 in
theorem told_walk (nm : ByteArray) (P : Nat → Prop) (A : Option Addr) (c : Nat) (l : List S45) (A2 : Option Addr) (n2 c2 : Nat) (w : World) (hs : Kd.V k45 45 w w.heap.size P (.slice A l.length c) l) (hlim : l.length < 2513169434917) (hlt : (toldP l).length < 2513169434916) :
    Calls Try.prog 52 #[.agg #[.string nm, .slice A l.length c, .slice A2 n2 c2]] w fun e w' => ∃ v : Value, e = .returned v ∧ Kd.N k45 45 w' w.heap.size (fun k_ => P k_ ∨ w.heap.size ≤ k_) v (toldP l) ∧ Below w.heap.size w w' := by
  have HV := Aside0.mk (show Kd.V k45 45 w w.heap.size (fun k_ => P k_ ∧ k_ < w.heap.size) (.slice A l.length c) l from Kd.V_bound hs)
  clear hs
  have hb0 : Below w.heap.size w (w.alloc (.cells #[.string nm, .slice A l.length c, .slice A2 n2 c2] 25)) := below_alloc (Below.refl _ _) _
  have HLT := Aside0.mk hlt
  obtain ⟨w1, hw1⟩ : ∃ w1, w.alloc (.cells #[.string nm, .slice A l.length c, .slice A2 n2 c2] 25) = w1 := ⟨_, rfl⟩
  obtain ⟨w2, hw2⟩ : ∃ w2, w1.alloc (.cells #[.string (⟨#[82, 69, 67, 85, 82, 82, 69, 78, 67, 69, 45, 73, 68]⟩ : ByteArray), .string (⟨#[68, 84, 83, 84, 65, 82, 84]⟩ : ByteArray), .string (⟨#[68, 84, 69, 78, 68]⟩ : ByteArray), .string (⟨#[68, 85, 69]⟩ : ByteArray), .string (⟨#[68, 85, 82, 65, 84, 73, 79, 78]⟩ : ByteArray), .string (⟨#[82, 82, 85, 76, 69]⟩ : ByteArray), .string (⟨#[82, 68, 65, 84, 69]⟩ : ByteArray), .string (⟨#[69, 88, 68, 65, 84, 69]⟩ : ByteArray)] 9) = w2 := ⟨_, rfl⟩
  have hs1 : w1.heap.size = w.heap.size + 1 := by rw [← hw1]; simp
  have hs2 : w2.heap.size = w.heap.size + 2 := by rw [← hw2]; simp [hs1]
  have hB2 : Below w.heap.size w w2 := by rw [← hw2, ← hw1]; exact below_alloc hb0 _
  have hK1 : w2.heap[w.heap.size]? = some (.cells #[.string nm, .slice A l.length c, .slice A2 n2 c2] 25 (0, 0)) := by rw [← hw2, ← hw1]; exact blk_alloc (heap_alloc_new w _) _
  have hK2 : w2.heap[w.heap.size + 1]? = some (.cells #[.string (⟨#[82, 69, 67, 85, 82, 82, 69, 78, 67, 69, 45, 73, 68]⟩ : ByteArray), .string (⟨#[68, 84, 83, 84, 65, 82, 84]⟩ : ByteArray), .string (⟨#[68, 84, 69, 78, 68]⟩ : ByteArray), .string (⟨#[68, 85, 69]⟩ : ByteArray), .string (⟨#[68, 85, 82, 65, 84, 73, 79, 78]⟩ : ByteArray), .string (⟨#[82, 82, 85, 76, 69]⟩ : ByteArray), .string (⟨#[82, 68, 65, 84, 69]⟩ : ByteArray), .string (⟨#[69, 88, 68, 65, 84, 69]⟩ : ByteArray)] 9 (0, 0)) := by rw [← hw2, ← hs1]; exact heap_alloc_new w1 _
  have HB2 := Aside0.mk hB2
  have HK1 := Aside0.mk hK1
  have HK2 := Aside0.mk hK2
  clear hB2 hK1 hK2 hb0 hlt
  go_enter Try.func52, Try.ntmps52
  go_wp2
  clear hw1 hw2 hs1 hs2
  go_loopw [3, 8] (fun v3 v8 wr => ∃ j : Nat, v8 = .int .i64 j ∧ j ≤ 8 ∧ Aside0 (Kd.N k45 45 wr w.heap.size (fun k_ => P k_ ∨ w.heap.size ≤ k_) v3 ((toldN.take j).flatMap (byN l))) ∧ Aside0 (wr.heap[w.heap.size]? = some (.cells #[.string nm, .slice A l.length c, .slice A2 n2 c2] 25 (0, 0))) ∧ Aside0 (wr.heap[w.heap.size + 1]? = some (.cells #[.string (⟨#[82, 69, 67, 85, 82, 82, 69, 78, 67, 69, 45, 73, 68]⟩ : ByteArray), .string (⟨#[68, 84, 83, 84, 65, 82, 84]⟩ : ByteArray), .string (⟨#[68, 84, 69, 78, 68]⟩ : ByteArray), .string (⟨#[68, 85, 69]⟩ : ByteArray), .string (⟨#[68, 85, 82, 65, 84, 73, 79, 78]⟩ : ByteArray), .string (⟨#[82, 82, 85, 76, 69]⟩ : ByteArray), .string (⟨#[82, 68, 65, 84, 69]⟩ : ByteArray), .string (⟨#[69, 88, 68, 65, 84, 69]⟩ : ByteArray)] 9 (0, 0))) ∧ Aside0 (Below w.heap.size w wr)) (fun _ v8 _ => 8 - (intOf v8).toNat)
  case atStart => exact ⟨0, rfl, by omega, ⟨by rw [List.take_zero]; exact Kd.N_nil _ _ _ _ _⟩, HK1, HK2, HB2⟩
  case round =>
    clear HK1 HK2 HB2
    obtain ⟨j, rfl, hj, HN, HK1, HK2, HB⟩ := hrel
    by_cases hlt : j < 8
    · have hlt0 : decide ((j : Int) < 8) = true := decide_eq_true (by omega)
      have p1 : (0 ≤ (j : Int)) = True := eq_true (by omega)
      have q1 : ((j : Int) < 8) = True := eq_true (by omega)
      have x0 : wr.cell? ⟨w.heap.size, 0, none⟩ = some (.string nm) := (blk_cell HK1.out 0).trans rfl
      have x1 : wr.cell? ⟨w.heap.size, 1, none⟩ = some (.slice A l.length c) := (blk_cell HK1.out 1).trans rfl
      have x2 : wr.cell? ⟨w.heap.size, 2, none⟩ = some (.slice A2 n2 c2) := (blk_cell HK1.out 2).trans rfl
      have xj := told_at wr _ HK2.out j hlt
      have HC := Aside0.mk (comp_Props_walk nm (fun k_ => P k_ ∧ k_ < w.heap.size) A c l A2 n2 c2 (toldN[j]'hlt) wr (Kd.V_below HV.out HB.out) hlim)
      have htk : (toldN.take (j + 1)).flatMap (byN l) = (toldN.take j).flatMap (byN l) ++ byN l (toldN[j]'hlt) := by rw [List.take_add_one, List.getElem?_eq_getElem (show j < toldN.length from hlt), Option.toList_some, List.flatMap_append, List.flatMap_cons, List.flatMap_nil, List.append_nil]; rfl
      have HTK := Aside0.mk htk
      have hle : ((toldN.take (j + 1)).flatMap (byN l)).length ≤ (toldP l).length := by
        unfold toldP
        conv => rhs; rw [← List.take_append_drop (j + 1) toldN, List.flatMap_append, List.length_append]
        exact Nat.le_add_right _ _
      rw [htk, List.length_append] at hle
      have HLE := Aside0.mk hle
      clear htk hle
      obtain ⟨nj, hnj⟩ : ∃ nj, toldN[j]'hlt = nj := ⟨_, rfl⟩
      rw [hnj] at HC HTK HLE xj
      obtain ⟨row, hrow⟩ : ∃ row, byN l nj = row := ⟨_, rfl⟩
      rw [hrow] at HTK HLE
      replace HC : Aside0 (Calls Try.prog 83 #[.agg #[.string nm, .slice A l.length c, .slice A2 n2 c2], .string nj] wr fun e w' => ∃ v : Value, e = .returned v ∧ Kd.N k45 45 w' wr.heap.size (fun k_ => (P k_ ∧ k_ < w.heap.size) ∨ wr.heap.size ≤ k_) v row ∧ Below wr.heap.size wr w') := by rw [← hrow]; exact HC
      obtain ⟨acc, hacc⟩ : ∃ acc, (toldN.take j).flatMap (byN l) = acc := ⟨_, rfl⟩
      rw [hacc] at HN HTK HLE
      clear hacc hrow hnj
      obtain ⟨Av, cv, ev⟩ := Kd.N_slice HN.out
      subst ev
      go_wp2_with (first | (go_at_call 83; refine HC.out.mono ?_; rintro e w5 ⟨v5, rfl, hn5, hb5⟩; obtain ⟨A5, c5, e5⟩ := Kd.N_slice hn5; subst e5; have HN5 := Aside0.mk hn5; have HB5 := Aside0.mk hb5; clear hn5 hb5 x0 x1 x2 xj) | ((with_reducible refine gate_builtin (b := .append) (xs := #[.tmp 12, .tmp 15]) rfl ?_); at_builtin; refine Kd.N_append_rows k45 (w0 := w) w.heap.size rfl (.tmp 12) (.tmp 15) 22 45 (.agg #[(.string ⟨#[]⟩), (.slice none 0 0), (.string ⟨#[]⟩)]) 56 rfl Try.underlying22 info45 rfl (by decide) (by omega) (.slice Av acc.length cv) acc row _ _ _ (fun k_ => P k_ ∨ w.heap.size ≤ k_) (fun k_ => (P k_ ∧ k_ < w.heap.size) ∨ wr.heap.size ≤ k_) rfl rfl ?aO ?aR ?aP ?aF ?aB ?aS ?aL ?_; (case aO => exact Kd.N_below HN.out HB5.out); (case aR => exact Kd.N_F HN5.out); (case aP => exact fun k_ hk => ⟨hk.elim (fun h => .inl h.1) (fun h => .inr (Nat.le_trans HB.out.size h)), fun e_ => hk.elim (fun h => by have := Kd.N_base HN.out k_ e_.symm; have := h.2; omega) (fun h => by have := Kd.N_lt HN.out k_ e_.symm; omega)⟩); (case aF => exact fun k_ hk => .inr (Nat.le_trans (HB.out.trans (HB5.out.mono HB.out.size)).size hk)); (case aB => exact HB.out.trans (HB5.out.mono HB.out.size)); (case aS => exact (HB.out.trans (HB5.out.mono HB.out.size)).size); (case aL => have h1 := HLE.out; have h2 := HLT.out; omega); intro v6 w6 ho hb hg hat; have HO6 := Aside0.mk ho; have HB6 := Aside0.mk hb; have HK16 := Aside0.mk (blk_grown (blk_below HK1.out HB5.out) hg (Kd.N_ne HN.out HK1.out (by decide))); have HK26 := Aside0.mk (blk_grown (blk_below HK2.out HB5.out) hg (Kd.N_ne HN.out HK2.out (by decide))); clear ho hb hg hat))
      go_roundw
      case rel => exact ⟨j + 1, by simp, hlt, ⟨by rw [HTK.out]; exact HO6.out⟩, HK16, HK26, HB6⟩
      case measure => show 8 - ((j : Int) + 1).toNat < 8 - (j : Int).toNat; omega
    · have hlt0 : decide ((j : Int) < 8) = false := decide_eq_false (by omega)
      obtain rfl : j = 8 := by omega
      go_wp2
      go_ret
      exact ⟨_, rfl, HN.out, HB.out⟩
end Go.Proofs.Ytebmbfobmakheaa.PD
namespace Go.Proofs.Ytebmbfobmakheaa.PD
open Go.RowKit Go.Proofs.YtebmbfobmakheaaW.PrintWords Go.Proofs.YtebmbfobmakheaaW.PrintLast Go.Proofs.YtebmbfobmakheaaW.PrintMore
attribute [local go_sem] isSome_setCell max2_int min2_int max_two min_two max_three min_three max_four min_four
set_option linter.unusedVariables false
set_option linter.unusedSimpArgs false
def almanacref17_Others.l0 : Nat → List (S25) → Int → ByteArray → List (S45) → List (S25) → Option ((List (S25)))
 | 0, _, _, _, _, _ => none
 | k + 1, x3, x4, x192000, x192001, x192002 => if x4 < (x192002.length : Int) then (if 0 ≤ x4 then (if ((rd_T25 x192002 x4).f0).toList = ([86, 84, 73, 77, 69, 90, 79, 78, 69] : List UInt8) then (almanacref17_Others.l0 k x3 (wrap64 (x4 + 1)) x192000 x192001 x192002) else (if x3.length < 2199023255552 then (almanacref17_Others.l0 k (x3 ++ [(⟨(rd_T25 x192002 x4).f0, (rd_T25 x192002 x4).f1, (rd_T25 x192002 x4).f2⟩ : S25)]) (wrap64 (x4 + 1)) x192000 x192001 x192002) else (none))) else (none)) else (some x3)
def almanacref17_Others.f (k : Nat) (a0_0 : ByteArray) (l0_1 : List (S45)) (l0_2 : List (S25)) : Option ((List (S25))) := almanacref17_Others.l0 k ([] : List (S25)) 0 a0_0 l0_1 l0_2
set_option maxHeartbeats 8000000 in
set_option maxRecDepth 100000 in
theorem almanacref17_Others.calls (k : Nat) (a0_0 : ByteArray) (A0_1 : Option Addr) (c0_1 : Nat) (l0_1 : List (S45)) (P0_2_ : Nat → Prop) (A0_2 : Option Addr) (c0_2 : Nat) (l0_2 : List (S25)) (r : List (S25)) (w : World) (hr0_1 : Kd.C k45 w A0_1 l0_1.length l0_1) (hc0_1 : l0_1.length ≤ c0_1) (hs0_2 : Kd.V k25 25 w w.heap.size (fun k_ => P0_2_ k_) (.slice A0_2 l0_2.length c0_2) l0_2) (h : almanacref17_Others.f k a0_0 l0_1 l0_2 = some r) :
  Calls Try.prog 43 #[.agg #[.string a0_0, .slice A0_1 l0_1.length c0_1, .slice A0_2 l0_2.length c0_2]] w fun e w' => ∃ v0_ : Value, e = .returned (v0_) ∧ Kd.N k25 25 w' w.heap.size (fun k_ => (P0_2_ k_ ∨ w.heap.size ≤ k_)) v0_ r ∧ Below w.heap.size w w' := by
 have hu25 := Try.underlying25
 have HR0_1 := Aside0.mk hr0_1
 have HC0_1 := Aside0.mk hc0_1
 clear hr0_1 hc0_1
 have HO0_2 := Aside0.mk (show Kd.V k25 25 w w.heap.size (fun k_ => (P0_2_ k_ ∨ w.heap.size ≤ k_)) (.slice A0_2 l0_2.length c0_2) l0_2 from Kd.V_mono hs0_2 (fun k_ hk => .inl hk))
 have HB := Aside0.mk (Below.refl w.heap.size w)
 have H : (almanacref17_Others.l0 k ([] : List (S25)) 0 a0_0 l0_1 l0_2) = some r := h
 clear h
 have H' := Aside0.mk H
 clear H
 go_enter Try.func43, Try.ntmps43
 go_wp2_with (first | ((with_reducible refine gate_dst (N := 1) rfl ?_); refine box_event ?hg (N := 1) ?hd (cs := #[.string a0_0, .slice A0_1 l0_1.length c0_1, .slice A0_2 l0_2.length c0_2]) (t := 25) ?hr ?_; (case hd => rfl); (case hg => rfl); (case hr => first | (go_simp; done) | (go_simp; rfl)); intro gb191 hg w2 hbox hb; have n0_ := Aside0.mk (Kd.V_below (Kd.V_elderB (by (with_reducible repeat (first | apply Kd.V_alloc | apply Kd.V_drewN | apply Kd.V_drew)); exact HO0_2.out) gb191 (Nat.le_of_eq hg.symm)) hb); have n1_ := Aside0.mk (below_step (bU HB) hb); have n2_ := Aside0.mk (hbox); have n3_ := Aside0.mk ((by rw [hg]; exact (below_size (bU HB)) : w.heap.size ≤ gb191)); have n4_ := Aside0.mk ((by rw [hg]; exact (below_size (bU HB)) : w.heap.size ≤ gb191)); clear HO0_2; clear HB; have HO0_2 := n0_; have HB := n1_; have BK191 := n2_; have GW191 := n3_; have GE191 := n4_; clear n0_ n1_ n2_ n3_ n4_; clear hb hbox hg))
 go_loopg [3, 4] k (fun kq v3 v4 w' => ∃ (x3_1 : List (S25)) (x4_1 : Int), v4 = .int .i64 x4_1 ∧ Aside0 (almanacref17_Others.l0 kq x3_1 x4_1 a0_0 l0_1 l0_2 = some r) ∧ Aside0 (kq ≤ k) ∧ Aside0 (Kd.N k25 25 w' w.heap.size (fun k_ => (P0_2_ k_ ∨ w.heap.size ≤ k_) ∧ k_ ≠ gb191) v3 x3_1) ∧ Aside0 (Kd.V k25 25 w' w.heap.size (fun k_ => (P0_2_ k_ ∨ w.heap.size ≤ k_) ∧ some k_ ≠ (v3 : Value).ownBlock ∧ k_ ≠ gb191) (.slice A0_2 l0_2.length c0_2) l0_2) ∧ Aside0 (w'.heap[gb191]? = some (.cells #[.string a0_0, (.slice A0_1 l0_1.length c0_1), (.slice A0_2 l0_2.length c0_2)] 25 (0, 0))) ∧ Aside0 (Below w.heap.size w w'))
 case atStart => exact ⟨(([] : List (S25))), (0), (by first | rfl | (simp; done) | (simp [*]; done)), H', ⟨Nat.le_refl _⟩, ⟨by first | exact Kd.R_nil _ _ _ _ _ | exact Kd.N_nil _ _ _ _ _ | exact Kd.V_nil _ _ _ _ _ | exact Kd.Q_nil _ _ _ _ _ | exact Kd.S_nil _ _ _ _ _⟩, ⟨by (with_reducible repeat (first | apply Kd.V_alloc | apply Kd.V_drewN | apply Kd.V_drew)); exact Kd.V_mono HO0_2.out (fun _ hk => ⟨hk.1, ⟨(by simp [Value.ownBlock]), hk.2⟩⟩)⟩, ⟨kU BK191⟩, ⟨bU HB⟩⟩
 case round =>
  clear H'
  try clear p2
  obtain ⟨x3_1, x4_1, rfl, HA, HK1, HO_3, HO_192002, BK191, HB⟩ := hrel
  cases gk with
  | zero => exact absurd HA.out (by simp [almanacref17_Others.l0])
  | succ k1 =>
   have H := HA.out
   clear HA
   simp only [almanacref17_Others.l0] at H
   by_cases c3 : x4_1 < (l0_2.length : Int)
   ·rw [if_pos c3] at H
    have c3b0 : decide (x4_1 < (l0_2.length : Int)) = true := decide_eq_true c3
    clear c3
    by_cases c4 : 0 ≤ x4_1
    ·rw [if_pos c4] at H
     have c4b0 : decide (0 ≤ x4_1) = true := decide_eq_true c4
     clear c4
     by_cases c5 : ((rd_T25 l0_2 x4_1).f0).toList = ([86, 84, 73, 77, 69, 90, 79, 78, 69] : List UInt8)
     ·rw [if_pos c5] at H
      have c5b0 : (((rd_T25 l0_2 x4_1).f0).toList == ([86, 84, 73, 77, 69, 90, 79, 78, 69] : List UInt8)) = true := beq_iff_eq.mpr c5
      have c5b1 : (((rd_T25 l0_2 x4_1).f0).toList != ([86, 84, 73, 77, 69, 90, 79, 78, 69] : List UInt8)) = false := bne_eq_false_iff_eq.mpr c5
      clear c5
      have H' := Aside0.mk H
      clear H
      have hcz6_0 : wr.cell? ⟨gb191, 0, none⟩ = some (.string a0_0) := (blk_cell BK191.out 0).trans rfl
      have hcz6_1 : wr.cell? ⟨gb191, 1, none⟩ = some (.slice A0_1 l0_1.length c0_1) := (blk_cell BK191.out 1).trans rfl
      have hcz6_2 : wr.cell? ⟨gb191, 2, none⟩ = some (.slice A0_2 l0_2.length c0_2) := (blk_cell BK191.out 2).trans rfl
      have hfz6_0 := blk_frozen BK191.out 0
      have hfz6_1 := blk_frozen BK191.out 1
      have hfz6_2 := blk_frozen BK191.out 2
      have p192 : 0 ≤ (x4_1 : Int) := of_decide_eq_true (by first | (with_reducible assumption) | assumption)
      have q192 : x4_1 < (l0_2.length : Int) := of_decide_eq_true (by first | (with_reducible assumption) | assumption)
      obtain ⟨ad192, A192_1, c192_1, A192_2, c192_2, e192, hx192_0, hx192_1, hx192_2, hl192_1, hi192_1, hl192_2, hi192_2⟩ := at_T25 (Kd.V_reads' HO_192002.out).2.2 x4_1 p192 q192
      cases e192
      obtain ⟨ce192, hce192, hMe192, hcc192⟩ := Kd.V_get HO_192002.out z25 x4_1 p192 (by first | exact q192 | exact of_decide_eq_true (by first | (with_reducible assumption) | assumption) | (have e_ := (Kd.V_reads' HO_192002.out).1; omega))
      obtain ⟨ua192_1, uc192_1, ua192_2, uc192_2, rfl, ul192_1, ge192_1, ul192_2, ge192_2⟩ := k25_openF hMe192
      have hv192_1 := hcc192 1 _ rfl
      rw [add_field _ _ 1 (by omega)] at hv192_1
      replace hv192_1 := Option.some.inj (hv192_1.symm.trans hx192_1)
      injection hv192_1 with hva_ hvn_ hvc_
      rw [hva_] at ge192_1
      rw [hvc_] at ul192_1
      have HL192_1 := Aside0.mk (show Kd.V k45 45 _ w.heap.size _ _ ((rd_T25 l0_2 x4_1).f1) from Kd.V_mk ul192_1 ge192_1)
      clear hva_ hvn_ hvc_ ge192_1 ul192_1
      have hv192_2 := hcc192 2 _ rfl
      rw [add_field _ _ 2 (by omega)] at hv192_2
      replace hv192_2 := Option.some.inj (hv192_2.symm.trans hx192_2)
      injection hv192_2 with hva_ hvn_ hvc_
      rw [hva_] at ge192_2
      rw [hvc_] at ul192_2
      have HL192_2 := Aside0.mk (show Kd.V k25 25 _ w.heap.size _ _ ((rd_T25 l0_2 x4_1).f2) from Kd.V_mk ul192_2 ge192_2)
      clear hva_ hvn_ hvc_ ge192_2 ul192_2
      clear hcc192 hce192
      have HR192_1 := Aside0.mk hi192_1
      have HC192_1 := Aside0.mk hl192_1
      clear hi192_1 hl192_1
      have HR192_2 := Aside0.mk hi192_2
      have HC192_2 := Aside0.mk hl192_2
      clear hi192_2 hl192_2
      replace p192 := eq_true p192
      replace q192 := eq_true q192
      go_wp2
      go_roundg k1
      case measure => have := HK1.out; omega
      case rel => exact ⟨(x3_1), (wrap64 (x4_1 + 1)), (by first | rfl | (simp; done) | (simp [*]; done)), H', ⟨by have := HK1.out; omega⟩, ⟨by (with_reducible repeat (first | apply Kd.N_alloc | apply Kd.N_drewN | apply Kd.N_drew)); exact HO_3.out⟩, ⟨by (with_reducible repeat (first | apply Kd.V_alloc | apply Kd.V_drewN | apply Kd.V_drew)); exact HO_192002.out⟩, ⟨kU BK191⟩, ⟨bU HB⟩⟩
     ·rw [if_neg c5] at H
      have c5b0 : (((rd_T25 l0_2 x4_1).f0).toList == ([86, 84, 73, 77, 69, 90, 79, 78, 69] : List UInt8)) = false := beq_eq_false_iff_ne.mpr c5
      have c5b1 : (((rd_T25 l0_2 x4_1).f0).toList != ([86, 84, 73, 77, 69, 90, 79, 78, 69] : List UInt8)) = true := bne_iff_ne.mpr c5
      by_cases c7 : x3_1.length < 2199023255552
      ·rw [if_pos c7] at H
       have LMc7 := Aside0.mk c7
       clear c7
       obtain ⟨y194, hy194⟩ : ∃ y_ : List (S25), y_ = (x3_1 ++ [(⟨(rd_T25 l0_2 x4_1).f0, (rd_T25 l0_2 x4_1).f1, (rd_T25 l0_2 x4_1).f2⟩ : S25)]) := ⟨_, rfl⟩
       replace H : (almanacref17_Others.l0 k1 y194 (wrap64 (x4_1 + 1)) a0_0 l0_1 l0_2) = some r := by first | (rw [hy194]; with_reducible exact H) | (have H2_ := (Option.bind_some _ _).symm.trans H; rw [hy194]; with_reducible exact H2_) | (have H2_ := (Option.bind_some _ _).symm.trans H; with_reducible exact H2_) | with_reducible exact H | (rw [hy194]; exact H) | exact H
       have Ny194 := Aside0.mk hy194
       clear hy194
       have H' := Aside0.mk H
       clear H
       have hcz8_0 : wr.cell? ⟨gb191, 0, none⟩ = some (.string a0_0) := (blk_cell BK191.out 0).trans rfl
       have hcz8_1 : wr.cell? ⟨gb191, 1, none⟩ = some (.slice A0_1 l0_1.length c0_1) := (blk_cell BK191.out 1).trans rfl
       have hcz8_2 : wr.cell? ⟨gb191, 2, none⟩ = some (.slice A0_2 l0_2.length c0_2) := (blk_cell BK191.out 2).trans rfl
       have hfz8_0 := blk_frozen BK191.out 0
       have hfz8_1 := blk_frozen BK191.out 1
       have hfz8_2 := blk_frozen BK191.out 2
       have p192 : 0 ≤ (x4_1 : Int) := of_decide_eq_true (by first | (with_reducible assumption) | assumption)
       have q192 : x4_1 < (l0_2.length : Int) := of_decide_eq_true (by first | (with_reducible assumption) | assumption)
       obtain ⟨ad192, A192_1, c192_1, A192_2, c192_2, e192, hx192_0, hx192_1, hx192_2, hl192_1, hi192_1, hl192_2, hi192_2⟩ := at_T25 (Kd.V_reads' HO_192002.out).2.2 x4_1 p192 q192
       cases e192
       obtain ⟨ce192, hce192, hMe192, hcc192⟩ := Kd.V_get HO_192002.out z25 x4_1 p192 (by first | exact q192 | exact of_decide_eq_true (by first | (with_reducible assumption) | assumption) | (have e_ := (Kd.V_reads' HO_192002.out).1; omega))
       obtain ⟨ua192_1, uc192_1, ua192_2, uc192_2, rfl, ul192_1, ge192_1, ul192_2, ge192_2⟩ := k25_openF hMe192
       have hv192_1 := hcc192 1 _ rfl
       rw [add_field _ _ 1 (by omega)] at hv192_1
       replace hv192_1 := Option.some.inj (hv192_1.symm.trans hx192_1)
       injection hv192_1 with hva_ hvn_ hvc_
       rw [hva_] at ge192_1
       rw [hvc_] at ul192_1
       have HL192_1 := Aside0.mk (show Kd.V k45 45 _ w.heap.size _ _ ((rd_T25 l0_2 x4_1).f1) from Kd.V_mk ul192_1 ge192_1)
       clear hva_ hvn_ hvc_ ge192_1 ul192_1
       have hv192_2 := hcc192 2 _ rfl
       rw [add_field _ _ 2 (by omega)] at hv192_2
       replace hv192_2 := Option.some.inj (hv192_2.symm.trans hx192_2)
       injection hv192_2 with hva_ hvn_ hvc_
       rw [hva_] at ge192_2
       rw [hvc_] at ul192_2
       have HL192_2 := Aside0.mk (show Kd.V k25 25 _ w.heap.size _ _ ((rd_T25 l0_2 x4_1).f2) from Kd.V_mk ul192_2 ge192_2)
       clear hva_ hvn_ hvc_ ge192_2 ul192_2
       clear hcc192 hce192
       have HR192_1 := Aside0.mk hi192_1
       have HC192_1 := Aside0.mk hl192_1
       clear hi192_1 hl192_1
       have HR192_2 := Aside0.mk hi192_2
       have HC192_2 := Aside0.mk hl192_2
       clear hi192_2 hl192_2
       replace p192 := eq_true p192
       replace q192 := eq_true q192
       have p193 : 0 ≤ (x4_1 : Int) := of_decide_eq_true (by first | (with_reducible assumption) | assumption)
       have q193 : x4_1 < (l0_2.length : Int) := of_decide_eq_true (by first | (with_reducible assumption) | assumption)
       obtain ⟨ad193, A193_1, c193_1, A193_2, c193_2, e193, hx193_0, hx193_1, hx193_2, hl193_1, hi193_1, hl193_2, hi193_2⟩ := at_T25 (Kd.V_reads' HO_192002.out).2.2 x4_1 p193 q193
       obtain rfl : ad192 = ad193 := (by injection e193)
       obtain ⟨ce193, hce193, hMe193, hcc193⟩ := Kd.V_get HO_192002.out z25 x4_1 p193 (by first | exact q193 | exact of_decide_eq_true (by first | (with_reducible assumption) | assumption) | (have e_ := (Kd.V_reads' HO_192002.out).1; omega))
       obtain ⟨ua193_1, uc193_1, ua193_2, uc193_2, rfl, ul193_1, ge193_1, ul193_2, ge193_2⟩ := k25_openF hMe193
       have hv193_1 := hcc193 1 _ rfl
       rw [add_field _ _ 1 (by omega)] at hv193_1
       replace hv193_1 := Option.some.inj (hv193_1.symm.trans hx193_1)
       injection hv193_1 with hva_ hvn_ hvc_
       rw [hva_] at ge193_1
       rw [hvc_] at ul193_1
       have HL193_1 := Aside0.mk (show Kd.V k45 45 _ w.heap.size _ _ ((rd_T25 l0_2 x4_1).f1) from Kd.V_mk ul193_1 ge193_1)
       clear hva_ hvn_ hvc_ ge193_1 ul193_1
       have hv193_2 := hcc193 2 _ rfl
       rw [add_field _ _ 2 (by omega)] at hv193_2
       replace hv193_2 := Option.some.inj (hv193_2.symm.trans hx193_2)
       injection hv193_2 with hva_ hvn_ hvc_
       rw [hva_] at ge193_2
       rw [hvc_] at ul193_2
       have HL193_2 := Aside0.mk (show Kd.V k25 25 _ w.heap.size _ _ ((rd_T25 l0_2 x4_1).f2) from Kd.V_mk ul193_2 ge193_2)
       clear hva_ hvn_ hvc_ ge193_2 ul193_2
       clear hcc193 hce193
       have HR193_1 := Aside0.mk hi193_1
       have HC193_1 := Aside0.mk hl193_1
       clear hi193_1 hl193_1
       have HR193_2 := Aside0.mk hi193_2
       have HC193_2 := Aside0.mk hl193_2
       clear hi193_2 hl193_2
       replace p193 := eq_true p193
       replace q193 := eq_true q193
       have ea_ := Option.some.inj (hx192_1.symm.trans hx193_1)
       injection ea_ with ea_ en_ ec_
       subst ea_
       subst ec_
       clear en_
       have ea_ := Option.some.inj (hx192_2.symm.trans hx193_2)
       injection ea_ with ea_ en_ ec_
       subst ea_
       subst ec_
       clear en_
       go_wp2_with (first | ((with_reducible refine gate_builtin (b := .append) (xs := #[.tmp 19, .tmp 25]) rfl ?_); at_builtin; refine Kd.N_append k25 (w0 := w) w.heap.size rfl (.tmp 19) (.tmp 25) 23 25 (.agg #[(.string ⟨#[]⟩), (.slice none 0 0), (.slice none 0 0)]) 64 rfl Try.underlying23 info25 rfl (by decide) (by omega) u3 x3_1 (⟨(rd_T25 l0_2 x4_1).f0, (rd_T25 l0_2 x4_1).f1, (rd_T25 l0_2 x4_1).f2⟩ : S25) [.string ((rd_T25 l0_2 x4_1).f0), .slice A192_1 ((rd_T25 l0_2 x4_1).f1).length c192_1, .slice A192_2 ((rd_T25 l0_2 x4_1).f2).length c192_2] (fun k_ => (P0_2_ k_ ∨ w.heap.size ≤ k_) ∧ k_ ≠ gb191) (fun k_ => ((fun k_ => (P0_2_ k_ ∨ w.heap.size ≤ k_) ∧ k_ ≠ gb191)) k_ ∧ some k_ ≠ (u3 : Value).ownBlock) rfl rfl ?aP (fun _ hk => hk) ?aF ?aO ?aB ?aS ?aL ?_; (case aP => exact (k25_mkF _ _ (⟨(rd_T25 l0_2 x4_1).f0, (rd_T25 l0_2 x4_1).f1, (rd_T25 l0_2 x4_1).f2⟩ : S25) (Kd.V_reads' (Kd.V_mono (ok' := (fun k_ => ((fun k_ => (P0_2_ k_ ∨ w.heap.size ≤ k_) ∧ k_ ≠ gb191)) k_ ∧ some k_ ≠ (u3 : Value).ownBlock)) (HL193_1.out) (fun k_ hk => ⟨⟨hk.1, hk.2.2⟩, hk.2.1⟩))).2.1 (Kd.V_F (Kd.V_mono (ok' := (fun k_ => ((fun k_ => (P0_2_ k_ ∨ w.heap.size ≤ k_) ∧ k_ ≠ gb191)) k_ ∧ some k_ ≠ (u3 : Value).ownBlock)) (HL193_1.out) (fun k_ hk => ⟨⟨hk.1, hk.2.2⟩, hk.2.1⟩))) (Kd.V_reads' (Kd.V_mono (ok' := (fun k_ => ((fun k_ => (P0_2_ k_ ∨ w.heap.size ≤ k_) ∧ k_ ≠ gb191)) k_ ∧ some k_ ≠ (u3 : Value).ownBlock)) (HL193_2.out) (fun k_ hk => ⟨⟨hk.1, hk.2.2⟩, hk.2.1⟩))).2.1 (Kd.V_F (Kd.V_mono (ok' := (fun k_ => ((fun k_ => (P0_2_ k_ ∨ w.heap.size ≤ k_) ∧ k_ ≠ gb191)) k_ ∧ some k_ ≠ (u3 : Value).ownBlock)) (HL193_2.out) (fun k_ hk => ⟨⟨hk.1, hk.2.2⟩, hk.2.1⟩))))); (case aB => exact (bU HB)); (case aF => exact (fun k_ hk => ⟨(.inr (Nat.le_trans (below_size (bU HB)) hk)), Kd.freshB (g := gb191) (o := .cells #[.string a0_0, .slice A0_1 l0_1.length c0_1, .slice (some ad192) l0_2.length c0_2] 25 (0, 0)) (kU BK191) k_ hk⟩)); (case aO => exact (by (with_reducible repeat (first | apply Kd.N_alloc | apply Kd.N_drewN | apply Kd.N_drew)); exact HO_3.out)); (case aS => exact (below_size (bU HB))); (case aL => have := LMc7.out; omega); intro v195 w9 ho hb hg hat; rw [← Ny194.out] at ho; have n0_ := Aside0.mk (Kd.V_afterv (ok := (fun k_ => (P0_2_ k_ ∨ w.heap.size ≤ k_) ∧ k_ ≠ gb191)) (by (with_reducible repeat (first | apply Kd.V_alloc | apply Kd.V_drewN | apply Kd.V_drew)); exact Kd.V_mono HO_192002.out (fun _ hk => ⟨⟨hk.1, hk.2.2⟩, hk.2.1⟩)) hg hat); have n1_ := Aside0.mk (blk_grown (g := gb191) (o := .cells #[.string a0_0, .slice A0_1 l0_1.length c0_1, .slice (some ad192) l0_2.length c0_2] 25 (0, 0)) (kU BK191) hg (Kd.N_away HO_3.out (fun _ hk => hk.2))); have n2_ := Aside0.mk (Kd.V_afterv (ok := (fun k_ => (P0_2_ k_ ∨ w.heap.size ≤ k_) ∧ k_ ≠ gb191)) (by (with_reducible repeat (first | apply Kd.V_alloc | apply Kd.V_drewN | apply Kd.V_drew)); exact Kd.V_mono HL192_1.out (fun _ hk => ⟨⟨hk.1, hk.2.2⟩, hk.2.1⟩)) hg hat); have n3_ := Aside0.mk (Kd.V_afterv (ok := (fun k_ => (P0_2_ k_ ∨ w.heap.size ≤ k_) ∧ k_ ≠ gb191)) (by (with_reducible repeat (first | apply Kd.V_alloc | apply Kd.V_drewN | apply Kd.V_drew)); exact Kd.V_mono HL192_2.out (fun _ hk => ⟨⟨hk.1, hk.2.2⟩, hk.2.1⟩)) hg hat); have n4_ := Aside0.mk (Kd.V_afterv (ok := (fun k_ => (P0_2_ k_ ∨ w.heap.size ≤ k_) ∧ k_ ≠ gb191)) (by (with_reducible repeat (first | apply Kd.V_alloc | apply Kd.V_drewN | apply Kd.V_drew)); exact Kd.V_mono HL193_1.out (fun _ hk => ⟨⟨hk.1, hk.2.2⟩, hk.2.1⟩)) hg hat); have n5_ := Aside0.mk (Kd.V_afterv (ok := (fun k_ => (P0_2_ k_ ∨ w.heap.size ≤ k_) ∧ k_ ≠ gb191)) (by (with_reducible repeat (first | apply Kd.V_alloc | apply Kd.V_drewN | apply Kd.V_drew)); exact Kd.V_mono HL193_2.out (fun _ hk => ⟨⟨hk.1, hk.2.2⟩, hk.2.1⟩)) hg hat); have n6_ := Aside0.mk (hb); have n7_ := Aside0.mk (ho); clear HO_192002; clear BK191; clear HL192_1; clear HL192_2; clear HL193_1; clear HL193_2; clear HB; clear HO_3; have HO_192002 := n0_; have BK191 := n1_; have HL192_1 := n2_; have HL192_2 := n3_; have HL193_1 := n4_; have HL193_2 := n5_; have HB := n6_; have HO196 := n7_; clear n0_ n1_ n2_ n3_ n4_ n5_ n6_ n7_; clear ho hb hg hat))
       go_roundg k1
       case measure => have := HK1.out; omega
       case rel => exact ⟨(y194), (wrap64 (x4_1 + 1)), (by first | rfl | (simp; done) | (simp [*]; done)), H', ⟨by have := HK1.out; omega⟩, ⟨by (with_reducible repeat (first | apply Kd.N_alloc | apply Kd.N_drewN | apply Kd.N_drew)); exact HO196.out⟩, ⟨by (with_reducible repeat (first | apply Kd.V_alloc | apply Kd.V_drewN | apply Kd.V_drew)); exact Kd.V_mono HO_192002.out (fun _ hk => ⟨hk.1.1, ⟨hk.2, hk.1.2⟩⟩)⟩, ⟨kU BK191⟩, ⟨bU HB⟩⟩
      ·rw [if_neg c7] at H
       exact absurd H (by simp)
    ·rw [if_neg c4] at H
     exact absurd H (by simp)
   ·rw [if_neg c3] at H
    have c3b0 : decide (x4_1 < (l0_2.length : Int)) = false := decide_eq_false c3
    clear c3
    obtain rfl := Option.some.inj H
    have hcz10_0 : wr.cell? ⟨gb191, 0, none⟩ = some (.string a0_0) := (blk_cell BK191.out 0).trans rfl
    have hcz10_1 : wr.cell? ⟨gb191, 1, none⟩ = some (.slice A0_1 l0_1.length c0_1) := (blk_cell BK191.out 1).trans rfl
    have hcz10_2 : wr.cell? ⟨gb191, 2, none⟩ = some (.slice A0_2 l0_2.length c0_2) := (blk_cell BK191.out 2).trans rfl
    have hfz10_0 := blk_frozen BK191.out 0
    have hfz10_1 := blk_frozen BK191.out 1
    have hfz10_2 := blk_frozen BK191.out 2
    go_wp2
    go_ret
    exact ⟨_, eqU, by (with_reducible repeat (first | apply Kd.N_alloc | apply Kd.N_drewN | apply Kd.N_drew)); exact Kd.N_mono HO_3.out (fun _ hk => hk.1), bU HB⟩
end Go.Proofs.Ytebmbfobmakheaa.PD
namespace Go.Proofs.Ytebmbfobmakheaa.PD
open Go.RowKit Go.Proofs.YtebmbfobmakheaaW.PrintWords Go.Proofs.YtebmbfobmakheaaW.PrintLast Go.Proofs.YtebmbfobmakheaaW.PrintMore
attribute [local go_sem] isSome_setCell max2_int min2_int max_two min_two max_three min_three max_four min_four
set_option linter.unusedVariables false
set_option linter.unusedSimpArgs false
def almanacref12_Props.l0 : Nat → ByteArray → List (S45) → Int → ByteArray → List (S45) → List (S25) → Option ((List (S45)))
 | 0, _, _, _, _, _, _ => none
 | k + 1, x1, x5, x6, x198000, x198001, x198002 => if x6 < (x198001.length : Int) then (if 0 ≤ x6 then (if ((rd_T45 x198001 x6).f0).toList = x1.toList then (if x5.length < 2513169434916 then (almanacref12_Props.l0 k x1 (x5 ++ [(⟨(rd_T45 x198001 x6).f0, (rd_T45 x198001 x6).f1, (rd_T45 x198001 x6).f2⟩ : S45)]) (wrap64 (x6 + 1)) x198000 x198001 x198002) else (none)) else (almanacref12_Props.l0 k x1 x5 (wrap64 (x6 + 1)) x198000 x198001 x198002)) else (none)) else (some x5)
def almanacref12_Props.f (k : Nat) (a0_0 : ByteArray) (l0_1 : List (S45)) (l0_2 : List (S25)) (a1 : ByteArray) : Option ((List (S45))) := almanacref12_Props.l0 k a1 ([] : List (S45)) 0 a0_0 l0_1 l0_2
set_option maxHeartbeats 8000000 in
set_option maxRecDepth 100000 in
theorem almanacref12_Props.calls (k : Nat) (a0_0 : ByteArray) (P0_1_ : Nat → Prop) (A0_1 : Option Addr) (c0_1 : Nat) (l0_1 : List (S45)) (A0_2 : Option Addr) (c0_2 : Nat) (l0_2 : List (S25)) (a1 : ByteArray) (r : List (S45)) (w : World) (hs0_1 : Kd.V k45 45 w w.heap.size (fun k_ => P0_1_ k_) (.slice A0_1 l0_1.length c0_1) l0_1) (hr0_2 : Kd.C k25 w A0_2 l0_2.length l0_2) (hc0_2 : l0_2.length ≤ c0_2) (h : almanacref12_Props.f k a0_0 l0_1 l0_2 a1 = some r) :
  Calls Try.prog 49 #[.agg #[.string a0_0, .slice A0_1 l0_1.length c0_1, .slice A0_2 l0_2.length c0_2], .string a1] w fun e w' => ∃ v0_ : Value, e = .returned (v0_) ∧ Kd.N k45 45 w' w.heap.size (fun k_ => (P0_1_ k_ ∨ w.heap.size ≤ k_)) v0_ r ∧ Below w.heap.size w w' := by
 have hu25 := Try.underlying25
 have hu45 := Try.underlying45
 have HO0_1 := Aside0.mk (show Kd.V k45 45 w w.heap.size (fun k_ => (P0_1_ k_ ∨ w.heap.size ≤ k_)) (.slice A0_1 l0_1.length c0_1) l0_1 from Kd.V_mono hs0_1 (fun k_ hk => .inl hk))
 have HR0_2 := Aside0.mk hr0_2
 have HC0_2 := Aside0.mk hc0_2
 clear hr0_2 hc0_2
 have HB := Aside0.mk (Below.refl w.heap.size w)
 have H : (almanacref12_Props.l0 k a1 ([] : List (S45)) 0 a0_0 l0_1 l0_2) = some r := h
 clear h
 have H' := Aside0.mk H
 clear H
 go_enter Try.func49, Try.ntmps49
 go_wp2_with (first | ((with_reducible refine gate_dst (N := 2) rfl ?_); refine box_event ?hg (N := 2) ?hd (cs := #[.string a0_0, .slice A0_1 l0_1.length c0_1, .slice A0_2 l0_2.length c0_2]) (t := 25) ?hr ?_; (case hd => rfl); (case hg => rfl); (case hr => first | (go_simp; done) | (go_simp; rfl)); intro gb197 hg w3 hbox hb; have n0_ := Aside0.mk (Kd.V_below (Kd.V_elderB (by (with_reducible repeat (first | apply Kd.V_alloc | apply Kd.V_drewN | apply Kd.V_drew)); exact HO0_1.out) gb197 (Nat.le_of_eq hg.symm)) hb); have n1_ := Aside0.mk (below_step (bU HB) hb); have n2_ := Aside0.mk (hbox); have n3_ := Aside0.mk ((by rw [hg]; exact (below_size (bU HB)) : w.heap.size ≤ gb197)); have n4_ := Aside0.mk ((by rw [hg]; exact (below_size (bU HB)) : w.heap.size ≤ gb197)); clear HO0_1; clear HB; have HO0_1 := n0_; have HB := n1_; have BK197 := n2_; have GW197 := n3_; have GE197 := n4_; clear n0_ n1_ n2_ n3_ n4_; clear hb hbox hg))
 go_loopg [5, 6] k (fun kq v5 v6 w' => ∃ (x5_1 : List (S45)) (x6_1 : Int), v6 = .int .i64 x6_1 ∧ Aside0 (almanacref12_Props.l0 kq a1 x5_1 x6_1 a0_0 l0_1 l0_2 = some r) ∧ Aside0 (kq ≤ k) ∧ Aside0 (Kd.N k45 45 w' w.heap.size (fun k_ => (P0_1_ k_ ∨ w.heap.size ≤ k_) ∧ k_ ≠ gb197) v5 x5_1) ∧ Aside0 (Kd.V k45 45 w' w.heap.size (fun k_ => (P0_1_ k_ ∨ w.heap.size ≤ k_) ∧ some k_ ≠ (v5 : Value).ownBlock ∧ k_ ≠ gb197) (.slice A0_1 l0_1.length c0_1) l0_1) ∧ Aside0 (w'.heap[gb197]? = some (.cells #[.string a0_0, (.slice A0_1 l0_1.length c0_1), (.slice A0_2 l0_2.length c0_2)] 25 (0, 0))) ∧ Aside0 (Below w.heap.size w w'))
 case atStart => exact ⟨(([] : List (S45))), (0), (by first | rfl | (simp; done) | (simp [*]; done)), H', ⟨Nat.le_refl _⟩, ⟨by first | exact Kd.R_nil _ _ _ _ _ | exact Kd.N_nil _ _ _ _ _ | exact Kd.V_nil _ _ _ _ _ | exact Kd.Q_nil _ _ _ _ _ | exact Kd.S_nil _ _ _ _ _⟩, ⟨by (with_reducible repeat (first | apply Kd.V_alloc | apply Kd.V_drewN | apply Kd.V_drew)); exact Kd.V_mono HO0_1.out (fun _ hk => ⟨hk.1, ⟨(by simp [Value.ownBlock]), hk.2⟩⟩)⟩, ⟨kU BK197⟩, ⟨bU HB⟩⟩
 case round =>
  clear H'
  try clear p2
  obtain ⟨x5_1, x6_1, rfl, HA, HK1, HO_5, HO_198001, BK197, HB⟩ := hrel
  cases gk with
  | zero => exact absurd HA.out (by simp [almanacref12_Props.l0])
  | succ k1 =>
   have H := HA.out
   clear HA
   simp only [almanacref12_Props.l0] at H
   by_cases c4 : x6_1 < (l0_1.length : Int)
   ·rw [if_pos c4] at H
    have c4b0 : decide (x6_1 < (l0_1.length : Int)) = true := decide_eq_true c4
    clear c4
    by_cases c5 : 0 ≤ x6_1
    ·rw [if_pos c5] at H
     have c5b0 : decide (0 ≤ x6_1) = true := decide_eq_true c5
     clear c5
     by_cases c6 : ((rd_T45 l0_1 x6_1).f0).toList = a1.toList
     ·rw [if_pos c6] at H
      have c6b0 : (((rd_T45 l0_1 x6_1).f0).toList == a1.toList) = true := beq_iff_eq.mpr c6
      have c6b1 : (((rd_T45 l0_1 x6_1).f0).toList != a1.toList) = false := bne_eq_false_iff_eq.mpr c6
      clear c6
      by_cases c7 : x5_1.length < 2513169434916
      ·rw [if_pos c7] at H
       have LMc7 := Aside0.mk c7
       clear c7
       obtain ⟨y200, hy200⟩ : ∃ y_ : List (S45), y_ = (x5_1 ++ [(⟨(rd_T45 l0_1 x6_1).f0, (rd_T45 l0_1 x6_1).f1, (rd_T45 l0_1 x6_1).f2⟩ : S45)]) := ⟨_, rfl⟩
       replace H : (almanacref12_Props.l0 k1 a1 y200 (wrap64 (x6_1 + 1)) a0_0 l0_1 l0_2) = some r := by first | (rw [hy200]; with_reducible exact H) | (have H2_ := (Option.bind_some _ _).symm.trans H; rw [hy200]; with_reducible exact H2_) | (have H2_ := (Option.bind_some _ _).symm.trans H; with_reducible exact H2_) | with_reducible exact H | (rw [hy200]; exact H) | exact H
       have Ny200 := Aside0.mk hy200
       clear hy200
       have H' := Aside0.mk H
       clear H
       have hcz8_0 : wr.cell? ⟨gb197, 0, none⟩ = some (.string a0_0) := (blk_cell BK197.out 0).trans rfl
       have hcz8_1 : wr.cell? ⟨gb197, 1, none⟩ = some (.slice A0_1 l0_1.length c0_1) := (blk_cell BK197.out 1).trans rfl
       have hcz8_2 : wr.cell? ⟨gb197, 2, none⟩ = some (.slice A0_2 l0_2.length c0_2) := (blk_cell BK197.out 2).trans rfl
       have hfz8_0 := blk_frozen BK197.out 0
       have hfz8_1 := blk_frozen BK197.out 1
       have hfz8_2 := blk_frozen BK197.out 2
       have p198 : 0 ≤ (x6_1 : Int) := of_decide_eq_true (by first | (with_reducible assumption) | assumption)
       have q198 : x6_1 < (l0_1.length : Int) := of_decide_eq_true (by first | (with_reducible assumption) | assumption)
       obtain ⟨ad198, A198_1, c198_1, e198, hx198_0, hx198_1, hx198_2, hl198_1, hi198_1⟩ := at_T45 (Kd.V_reads' HO_198001.out).2.2 x6_1 p198 q198
       cases e198
       obtain ⟨ce198, hce198, hMe198, hcc198⟩ := Kd.V_get HO_198001.out z45 x6_1 p198 (by first | exact q198 | exact of_decide_eq_true (by first | (with_reducible assumption) | assumption) | (have e_ := (Kd.V_reads' HO_198001.out).1; omega))
       obtain ⟨ua198_1, uc198_1, rfl, ul198_1, ge198_1⟩ := k45_openF hMe198
       have hv198_1 := hcc198 1 _ rfl
       rw [add_field _ _ 1 (by omega)] at hv198_1
       replace hv198_1 := Option.some.inj (hv198_1.symm.trans hx198_1)
       injection hv198_1 with hva_ hvn_ hvc_
       rw [hva_] at ge198_1
       rw [hvc_] at ul198_1
       have HL198_1 := Aside0.mk (show Kd.V k77 77 _ w.heap.size _ _ ((rd_T45 l0_1 x6_1).f1) from Kd.V_mk ul198_1 ge198_1)
       clear hva_ hvn_ hvc_ ge198_1 ul198_1
       clear hcc198 hce198
       have HR198_1 := Aside0.mk hi198_1
       have HC198_1 := Aside0.mk hl198_1
       clear hi198_1 hl198_1
       replace p198 := eq_true p198
       replace q198 := eq_true q198
       have p199 : 0 ≤ (x6_1 : Int) := of_decide_eq_true (by first | (with_reducible assumption) | assumption)
       have q199 : x6_1 < (l0_1.length : Int) := of_decide_eq_true (by first | (with_reducible assumption) | assumption)
       obtain ⟨ad199, A199_1, c199_1, e199, hx199_0, hx199_1, hx199_2, hl199_1, hi199_1⟩ := at_T45 (Kd.V_reads' HO_198001.out).2.2 x6_1 p199 q199
       obtain rfl : ad198 = ad199 := (by injection e199)
       obtain ⟨ce199, hce199, hMe199, hcc199⟩ := Kd.V_get HO_198001.out z45 x6_1 p199 (by first | exact q199 | exact of_decide_eq_true (by first | (with_reducible assumption) | assumption) | (have e_ := (Kd.V_reads' HO_198001.out).1; omega))
       obtain ⟨ua199_1, uc199_1, rfl, ul199_1, ge199_1⟩ := k45_openF hMe199
       have hv199_1 := hcc199 1 _ rfl
       rw [add_field _ _ 1 (by omega)] at hv199_1
       replace hv199_1 := Option.some.inj (hv199_1.symm.trans hx199_1)
       injection hv199_1 with hva_ hvn_ hvc_
       rw [hva_] at ge199_1
       rw [hvc_] at ul199_1
       have HL199_1 := Aside0.mk (show Kd.V k77 77 _ w.heap.size _ _ ((rd_T45 l0_1 x6_1).f1) from Kd.V_mk ul199_1 ge199_1)
       clear hva_ hvn_ hvc_ ge199_1 ul199_1
       clear hcc199 hce199
       have HR199_1 := Aside0.mk hi199_1
       have HC199_1 := Aside0.mk hl199_1
       clear hi199_1 hl199_1
       replace p199 := eq_true p199
       replace q199 := eq_true q199
       have ea_ := Option.some.inj (hx198_1.symm.trans hx199_1)
       injection ea_ with ea_ en_ ec_
       subst ea_
       subst ec_
       clear en_
       go_wp2_with (first | ((with_reducible refine gate_builtin (b := .append) (xs := #[.tmp 22, .tmp 28]) rfl ?_); at_builtin; refine Kd.N_append k45 (w0 := w) w.heap.size rfl (.tmp 22) (.tmp 28) 22 45 (.agg #[(.string ⟨#[]⟩), (.slice none 0 0), (.string ⟨#[]⟩)]) 56 rfl Try.underlying22 info45 rfl (by decide) (by omega) u5 x5_1 (⟨(rd_T45 l0_1 x6_1).f0, (rd_T45 l0_1 x6_1).f1, (rd_T45 l0_1 x6_1).f2⟩ : S45) [.string ((rd_T45 l0_1 x6_1).f0), .slice A198_1 ((rd_T45 l0_1 x6_1).f1).length c198_1, .string ((rd_T45 l0_1 x6_1).f2)] (fun k_ => (P0_1_ k_ ∨ w.heap.size ≤ k_) ∧ k_ ≠ gb197) (fun k_ => ((fun k_ => (P0_1_ k_ ∨ w.heap.size ≤ k_) ∧ k_ ≠ gb197)) k_ ∧ some k_ ≠ (u5 : Value).ownBlock) rfl rfl ?aP (fun _ hk => hk) ?aF ?aO ?aB ?aS ?aL ?_; (case aP => exact (k45_mkF _ _ (⟨(rd_T45 l0_1 x6_1).f0, (rd_T45 l0_1 x6_1).f1, (rd_T45 l0_1 x6_1).f2⟩ : S45) (Kd.V_reads' (Kd.V_mono (ok' := (fun k_ => ((fun k_ => (P0_1_ k_ ∨ w.heap.size ≤ k_) ∧ k_ ≠ gb197)) k_ ∧ some k_ ≠ (u5 : Value).ownBlock)) (HL199_1.out) (fun k_ hk => ⟨⟨hk.1, hk.2.2⟩, hk.2.1⟩))).2.1 (Kd.V_F (Kd.V_mono (ok' := (fun k_ => ((fun k_ => (P0_1_ k_ ∨ w.heap.size ≤ k_) ∧ k_ ≠ gb197)) k_ ∧ some k_ ≠ (u5 : Value).ownBlock)) (HL199_1.out) (fun k_ hk => ⟨⟨hk.1, hk.2.2⟩, hk.2.1⟩))))); (case aB => exact (bU HB)); (case aF => exact (fun k_ hk => ⟨(.inr (Nat.le_trans (below_size (bU HB)) hk)), Kd.freshB (g := gb197) (o := .cells #[.string a0_0, .slice (some ad198) l0_1.length c0_1, .slice A0_2 l0_2.length c0_2] 25 (0, 0)) (kU BK197) k_ hk⟩)); (case aO => exact (by (with_reducible repeat (first | apply Kd.N_alloc | apply Kd.N_drewN | apply Kd.N_drew)); exact HO_5.out)); (case aS => exact (below_size (bU HB))); (case aL => have := LMc7.out; omega); intro v201 w9 ho hb hg hat; rw [← Ny200.out] at ho; have n0_ := Aside0.mk (Kd.V_afterv (ok := (fun k_ => (P0_1_ k_ ∨ w.heap.size ≤ k_) ∧ k_ ≠ gb197)) (by (with_reducible repeat (first | apply Kd.V_alloc | apply Kd.V_drewN | apply Kd.V_drew)); exact Kd.V_mono HO_198001.out (fun _ hk => ⟨⟨hk.1, hk.2.2⟩, hk.2.1⟩)) hg hat); have n1_ := Aside0.mk (blk_grown (g := gb197) (o := .cells #[.string a0_0, .slice (some ad198) l0_1.length c0_1, .slice A0_2 l0_2.length c0_2] 25 (0, 0)) (kU BK197) hg (Kd.N_ne HO_5.out BK197.out (by decide))); have n2_ := Aside0.mk (Kd.V_afterv (ok := (fun k_ => (P0_1_ k_ ∨ w.heap.size ≤ k_) ∧ k_ ≠ gb197)) (by (with_reducible repeat (first | apply Kd.V_alloc | apply Kd.V_drewN | apply Kd.V_drew)); exact Kd.V_mono HL198_1.out (fun _ hk => ⟨⟨hk.1, hk.2.2⟩, hk.2.1⟩)) hg hat); have n3_ := Aside0.mk (Kd.V_afterv (ok := (fun k_ => (P0_1_ k_ ∨ w.heap.size ≤ k_) ∧ k_ ≠ gb197)) (by (with_reducible repeat (first | apply Kd.V_alloc | apply Kd.V_drewN | apply Kd.V_drew)); exact Kd.V_mono HL199_1.out (fun _ hk => ⟨⟨hk.1, hk.2.2⟩, hk.2.1⟩)) hg hat); have n4_ := Aside0.mk (hb); have n5_ := Aside0.mk (ho); clear HO_198001; clear BK197; clear HL198_1; clear HL199_1; clear HB; clear HO_5; have HO_198001 := n0_; have BK197 := n1_; have HL198_1 := n2_; have HL199_1 := n3_; have HB := n4_; have HO202 := n5_; clear n0_ n1_ n2_ n3_ n4_ n5_; clear ho hb hg hat))
       go_roundg k1
       case measure => have := HK1.out; omega
       case rel => exact ⟨(y200), (wrap64 (x6_1 + 1)), (by first | rfl | (simp; done) | (simp [*]; done)), H', ⟨by have := HK1.out; omega⟩, ⟨by (with_reducible repeat (first | apply Kd.N_alloc | apply Kd.N_drewN | apply Kd.N_drew)); exact HO202.out⟩, ⟨by (with_reducible repeat (first | apply Kd.V_alloc | apply Kd.V_drewN | apply Kd.V_drew)); exact Kd.V_mono HO_198001.out (fun _ hk => ⟨hk.1.1, ⟨hk.2, hk.1.2⟩⟩)⟩, ⟨kU BK197⟩, ⟨bU HB⟩⟩
      ·rw [if_neg c7] at H
       exact absurd H (by simp)
     ·rw [if_neg c6] at H
      have c6b0 : (((rd_T45 l0_1 x6_1).f0).toList == a1.toList) = false := beq_eq_false_iff_ne.mpr c6
      have c6b1 : (((rd_T45 l0_1 x6_1).f0).toList != a1.toList) = true := bne_iff_ne.mpr c6
      have H' := Aside0.mk H
      clear H
      have hcz10_0 : wr.cell? ⟨gb197, 0, none⟩ = some (.string a0_0) := (blk_cell BK197.out 0).trans rfl
      have hcz10_1 : wr.cell? ⟨gb197, 1, none⟩ = some (.slice A0_1 l0_1.length c0_1) := (blk_cell BK197.out 1).trans rfl
      have hcz10_2 : wr.cell? ⟨gb197, 2, none⟩ = some (.slice A0_2 l0_2.length c0_2) := (blk_cell BK197.out 2).trans rfl
      have hfz10_0 := blk_frozen BK197.out 0
      have hfz10_1 := blk_frozen BK197.out 1
      have hfz10_2 := blk_frozen BK197.out 2
      have p198 : 0 ≤ (x6_1 : Int) := of_decide_eq_true (by first | (with_reducible assumption) | assumption)
      have q198 : x6_1 < (l0_1.length : Int) := of_decide_eq_true (by first | (with_reducible assumption) | assumption)
      obtain ⟨ad198, A198_1, c198_1, e198, hx198_0, hx198_1, hx198_2, hl198_1, hi198_1⟩ := at_T45 (Kd.V_reads' HO_198001.out).2.2 x6_1 p198 q198
      cases e198
      obtain ⟨ce198, hce198, hMe198, hcc198⟩ := Kd.V_get HO_198001.out z45 x6_1 p198 (by first | exact q198 | exact of_decide_eq_true (by first | (with_reducible assumption) | assumption) | (have e_ := (Kd.V_reads' HO_198001.out).1; omega))
      obtain ⟨ua198_1, uc198_1, rfl, ul198_1, ge198_1⟩ := k45_openF hMe198
      have hv198_1 := hcc198 1 _ rfl
      rw [add_field _ _ 1 (by omega)] at hv198_1
      replace hv198_1 := Option.some.inj (hv198_1.symm.trans hx198_1)
      injection hv198_1 with hva_ hvn_ hvc_
      rw [hva_] at ge198_1
      rw [hvc_] at ul198_1
      have HL198_1 := Aside0.mk (show Kd.V k77 77 _ w.heap.size _ _ ((rd_T45 l0_1 x6_1).f1) from Kd.V_mk ul198_1 ge198_1)
      clear hva_ hvn_ hvc_ ge198_1 ul198_1
      clear hcc198 hce198
      have HR198_1 := Aside0.mk hi198_1
      have HC198_1 := Aside0.mk hl198_1
      clear hi198_1 hl198_1
      replace p198 := eq_true p198
      replace q198 := eq_true q198
      go_wp2
      go_roundg k1
      case measure => have := HK1.out; omega
      case rel => exact ⟨(x5_1), (wrap64 (x6_1 + 1)), (by first | rfl | (simp; done) | (simp [*]; done)), H', ⟨by have := HK1.out; omega⟩, ⟨by (with_reducible repeat (first | apply Kd.N_alloc | apply Kd.N_drewN | apply Kd.N_drew)); exact HO_5.out⟩, ⟨by (with_reducible repeat (first | apply Kd.V_alloc | apply Kd.V_drewN | apply Kd.V_drew)); exact HO_198001.out⟩, ⟨kU BK197⟩, ⟨bU HB⟩⟩
    ·rw [if_neg c5] at H
     exact absurd H (by simp)
   ·rw [if_neg c4] at H
    have c4b0 : decide (x6_1 < (l0_1.length : Int)) = false := decide_eq_false c4
    clear c4
    obtain rfl := Option.some.inj H
    have hcz11_0 : wr.cell? ⟨gb197, 0, none⟩ = some (.string a0_0) := (blk_cell BK197.out 0).trans rfl
    have hcz11_1 : wr.cell? ⟨gb197, 1, none⟩ = some (.slice A0_1 l0_1.length c0_1) := (blk_cell BK197.out 1).trans rfl
    have hcz11_2 : wr.cell? ⟨gb197, 2, none⟩ = some (.slice A0_2 l0_2.length c0_2) := (blk_cell BK197.out 2).trans rfl
    have hfz11_0 := blk_frozen BK197.out 0
    have hfz11_1 := blk_frozen BK197.out 1
    have hfz11_2 := blk_frozen BK197.out 2
    go_wp2
    go_ret
    exact ⟨_, eqU, by (with_reducible repeat (first | apply Kd.N_alloc | apply Kd.N_drewN | apply Kd.N_drew)); exact Kd.N_mono HO_5.out (fun _ hk => hk.1), bU HB⟩
end Go.Proofs.Ytebmbfobmakheaa.PD
namespace Go.Proofs.Ytebmbfobmakheaa.PD
open Go.RowKit Go.Proofs.YtebmbfobmakheaaW.PrintWords Go.Proofs.YtebmbfobmakheaaW.PrintLast Go.Proofs.YtebmbfobmakheaaW.PrintMore
set_option linter.unusedVariables false
set_option linter.unusedSimpArgs false
theorem rd25_at (l : List S25) (i : Nat) (h : i < l.length) : rd_T25 l (i : Int) = l[i] := by simp [rd_T25, h]
theorem rd77_at (l : List S77) (i : Nat) (h : i < l.length) : rd_T77 l (i : Int) = l[i] := by simp [rd_T77, h]
theorem rdB_at (l : List ByteArray) (i : Nat) (h : i < l.length) : rdOf ByteArray.empty l (i : Int) = l[i] := by simp [rdOf, h]
def oth (l : List S25) : List S25 := l.filter fun x => !isTz x.f0
theorem isTz_iff (s : ByteArray) : isTz s = true ↔ s.toList = ([86, 84, 73, 77, 69, 90, 79, 78, 69] : List UInt8) := by unfold isTz; exact beq_iff_eq
theorem eta25 (x : S25) : (⟨x.f0, x.f1, x.f2⟩ : S25) = x := by cases x; rfl
theorem oth_tz {x : S25} {r : List S25} (h : isTz x.f0 = true) : oth (x :: r) = oth r := by unfold oth; rw [List.filter_cons, if_neg (by rw [h]; simp)]
theorem oth_no {x : S25} {r : List S25} (h : isTz x.f0 = false) : oth (x :: r) = x :: oth r := by unfold oth; rw [List.filter_cons, if_pos (by rw [h]; rfl)]
theorem byN_hit {x : S45} {r : List S45} {n : ByteArray} (h : x.f0.toList = n.toList) : byN (x :: r) n = x :: byN r n := by unfold byN; rw [List.filter_cons, if_pos (beq_iff_eq.2 h)]
theorem byN_miss {x : S45} {r : List S45} {n : ByteArray} (h : ¬ x.f0.toList = n.toList) : byN (x :: r) n = byN r n := by unfold byN; rw [List.filter_cons, if_neg (by simpa using h)]
theorem rothers_l0 (a : ByteArray) (l1 : List S45) (l : List S25) (hl : l.length ≤ 1000000000) : ∀ (d k i : Nat) (out : List S25), l.length - i = d → i ≤ l.length → d < k → out.length ≤ i →
    almanacref17_Others.l0 k out i a l1 l = some (out ++ oth (l.drop i))
  | d, 0, _, _, _, _, hk, _ => absurd hk (Nat.not_lt_zero _)
  | d, k + 1, i, out, hd, hi, hk, ho => by
    simp only [almanacref17_Others.l0]
    by_cases hlt : i < l.length
    · rw [if_pos (by omega), if_pos (by omega), wrap_next hlt (by omega), rd25_at l i hlt, List.drop_eq_getElem_cons hlt]
      by_cases hc : l[i].f0.toList = ([86, 84, 73, 77, 69, 90, 79, 78, 69] : List UInt8)
      · rw [if_pos hc, rothers_l0 a l1 l hl (d - 1) k (i + 1) out (by omega) (by omega) (by omega) (by omega), oth_tz ((isTz_iff _).2 hc)]
      · rw [if_neg hc, if_pos (by omega), rothers_l0 a l1 l hl (d - 1) k (i + 1) _ (by omega) (by omega) (by omega) (by simp; omega), oth_no (by cases h : isTz l[i].f0 with | false => rfl | true => exact absurd ((isTz_iff _).1 h) hc), List.append_assoc, eta25]
        rfl
    · rw [if_neg (by omega), List.drop_eq_nil_of_le (by omega)]
      simp [oth]
theorem rothers (a : ByteArray) (l1 : List S45) (l : List S25) (hl : l.length ≤ 1000000000) : Ev (fun k => almanacref17_Others.f k a l1 l) (oth l) := ⟨l.length + 1, fun k hk => by
  have := rothers_l0 a l1 l hl l.length k 0 [] (by omega) (by omega) (by omega) (Nat.le_refl _)
  unfold almanacref17_Others.f
  exact this⟩
theorem rprops_l0 (a : ByteArray) (l : List S45) (l2 : List S25) (n : ByteArray) (hl : l.length ≤ 2513169434916) : ∀ (d k i : Nat) (out : List S45), l.length - i = d → i ≤ l.length → d < k → out.length ≤ i →
    almanacref12_Props.l0 k n out i a l l2 = some (out ++ byN (l.drop i) n)
  | d, 0, _, _, _, _, hk, _ => absurd hk (Nat.not_lt_zero _)
  | d, k + 1, i, out, hd, hi, hk, ho => by
    simp only [almanacref12_Props.l0]
    by_cases hlt : i < l.length
    · rw [if_pos (by omega), if_pos (by omega), wrap_next hlt (by omega), rd45_at l i hlt, List.drop_eq_getElem_cons hlt]
      by_cases hc : l[i].f0.toList = n.toList
      · rw [if_pos hc, if_pos (by omega), rprops_l0 a l l2 n hl (d - 1) k (i + 1) _ (by omega) (by omega) (by omega) (by simp; omega), byN_hit hc, List.append_assoc]
        rfl
      · rw [if_neg hc, rprops_l0 a l l2 n hl (d - 1) k (i + 1) out (by omega) (by omega) (by omega) (by omega), byN_miss hc]
    · rw [if_neg (by omega), List.drop_eq_nil_of_le (by omega)]
      simp [byN]
theorem rprops (a : ByteArray) (l : List S45) (l2 : List S25) (n : ByteArray) (hl : l.length ≤ 2513169434916) : Ev (fun k => almanacref12_Props.f k a l l2 n) (byN l n) := ⟨l.length + 1, fun k hk => by
  have := rprops_l0 a l l2 n hl l.length k 0 [] (by omega) (by omega) (by omega) (Nat.le_refl _)
  unfold almanacref12_Props.f
  exact this⟩
theorem othI_map : ∀ (l m : List S25) (i : Nat), m.drop i = l → (othI i l).map (fun j => m.getD j z25) = oth l
  | [], _, _, _ => rfl
  | x :: r, m, i, h => by
    have hx : m.getD i z25 = x := by
      have : m[i]? = some x := by rw [← List.head?_drop, h]; rfl
      rw [List.getD_eq_getElem?_getD, this]; rfl
    have hr : m.drop (i + 1) = r := by rw [← List.drop_drop, h]; rfl
    have ih := othI_map r m (i + 1) hr
    unfold othI oth
    rw [List.filter_cons]
    split
    · rename_i ht
      rw [if_neg (by rw [ht]; simp)]
      exact ih
    · rename_i ht
      rw [if_pos (by simpa using ht), List.map_cons, hx, ih]
      rfl
theorem oth_map0 (l : List S25) : (othI 0 l).map (fun j => l.getD j z25) = oth l := othI_map l l 0 rfl
theorem attP_oth (l : List S25) : attP l = (oth l).flatMap fun x => byN x.f1 attN := by
  unfold attP
  rw [← oth_map0, List.flatMap_map]
  rfl
theorem othF_len (l : List S25) : (oth l).length ≤ l.length := List.length_filter_le _ _
theorem oth_mem_l {l : List S25} {x : S25} (h : x ∈ oth l) : x ∈ l := (List.mem_filter.1 h).1
def LimL (l : List S25) : Prop := l.length ≤ 1000000000 ∧ ∀ x ∈ l, x.f1.length ≤ 1000000000
theorem LimL.oth {l : List S25} (h : LimL l) : LimL (oth l) := ⟨Nat.le_trans (othF_len l) h.1, fun x hx => h.2 x (oth_mem_l hx)⟩
end Go.Proofs.Ytebmbfobmakheaa.PD
namespace Go.Proofs.Ytebmbfobmakheaa.PD
open Go.RowKit Go.Proofs.YtebmbfobmakheaaW.PrintWords Go.Proofs.YtebmbfobmakheaaW.PrintLast Go.Proofs.YtebmbfobmakheaaW.PrintMore
attribute [local go_sem] isSome_setCell max2_int min2_int max_two min_two max_three min_three max_four min_four
set_option linter.unusedVariables false
set_option linter.unusedSimpArgs false
def almanacref08_Texts.l0 : Nat → List ByteArray → List ByteArray → Int → Option (Bool)
 | 0, _, _, _ => none
 | k + 1, x0, x1, x5 => if x5 < (x0.length : Int) then (if 0 ≤ x5 then (if x5 < (x1.length : Int) then (if (rdOf ByteArray.empty x0 x5).toList = (rdOf ByteArray.empty x1 x5).toList then (almanacref08_Texts.l0 k x0 x1 (wrap64 (x5 + 1))) else (some false)) else (none)) else (none)) else (some true)
def almanacref08_Texts.f (k : Nat) (l0 : List ByteArray) (l1 : List ByteArray) : Option (Bool) := if (l0.length : Int) = (l1.length : Int) then (almanacref08_Texts.l0 k l0 l1 0) else (some false)
set_option maxHeartbeats 8000000 in
set_option maxRecDepth 100000 in
theorem almanacref08_Texts.calls (k : Nat) (A0 : Option Addr) (c0 : Nat) (l0 : List ByteArray) (A1 : Option Addr) (c1 : Nat) (l1 : List ByteArray) (r : Bool) (w : World) (hr0 : Kd.C Kd.string w A0 l0.length l0) (hc0 : l0.length ≤ c0) (hr1 : Kd.C Kd.string w A1 l1.length l1) (hc1 : l1.length ≤ c1) (h : almanacref08_Texts.f k l0 l1 = some r) :
  Calls Try.prog 14 #[.slice A0 l0.length c0, .slice A1 l1.length c1] w fun e w' => e = .returned (.bool r) ∧ Drawn0 w w' := by
 have HR0 := Aside0.mk hr0
 have HC0 := Aside0.mk hc0
 clear hr0 hc0
 have HR1 := Aside0.mk hr1
 have HC1 := Aside0.mk hc1
 clear hr1 hc1
 have H : (if (l0.length : Int) = (l1.length : Int) then (almanacref08_Texts.l0 k l0 l1 0) else (some false)) = some r := h
 clear h
 by_cases c3 : (l0.length : Int) = (l1.length : Int)
 ·rw [if_pos c3] at H
  have c3b0 : ((l0.length : Int) == (l1.length : Int)) = true := beq_iff_eq.mpr c3
  have c3b1 : ((l0.length : Int) != (l1.length : Int)) = false := bne_eq_false_iff_eq.mpr c3
  have c3b2 : (l0.length == l1.length) = true := by first | simpa using c3 | (simp at c3 ⊢; omega)
  clear c3
  have H' := Aside0.mk H
  clear H
  go_enter Try.func14, Try.ntmps14
  go_wp2
  repeat (go_quiet (fail); try go_wp2)
  go_loopg [5] k (fun kq v5 w' => ∃ (x5_1 : Int), v5 = .int .i64 x5_1 ∧ Aside0 (almanacref08_Texts.l0 kq l0 l1 x5_1 = some r) ∧ Aside0 (kq ≤ k) ∧ Drawn0 w w')
  case atStart => exact ⟨(0), (by first | rfl | (simp; done) | (simp [*]; done)), H', ⟨Nat.le_refl _⟩, by repeat (first | exact Drawn0.refl _ | apply Drawn0.step)⟩
  case round =>
   clear H'
   try clear c1
   try clear p2
   try clear c3
   try clear c3b0
   try clear c3b1
   try clear c3b2
   obtain ⟨x5_1, rfl, HA, HK1, ⟨m1, rfl⟩⟩ := hrel
   cases gk with
   | zero => exact absurd HA.out (by simp [almanacref08_Texts.l0])
   | succ k1 =>
    have H := HA.out
    clear HA
    simp only [almanacref08_Texts.l0] at H
    by_cases c4 : x5_1 < (l0.length : Int)
    ·rw [if_pos c4] at H
     have c4b0 : decide (x5_1 < (l0.length : Int)) = true := decide_eq_true c4
     clear c4
     by_cases c5 : 0 ≤ x5_1
     ·rw [if_pos c5] at H
      have c5b0 : decide (0 ≤ x5_1) = true := decide_eq_true c5
      clear c5
      by_cases c6 : x5_1 < (l1.length : Int)
      ·rw [if_pos c6] at H
       have c6b0 : decide (x5_1 < (l1.length : Int)) = true := decide_eq_true c6
       clear c6
       by_cases c7 : (rdOf ByteArray.empty l0 x5_1).toList = (rdOf ByteArray.empty l1 x5_1).toList
       ·rw [if_pos c7] at H
        have c7b0 : ((rdOf ByteArray.empty l0 x5_1).toList == (rdOf ByteArray.empty l1 x5_1).toList) = true := beq_iff_eq.mpr c7
        have c7b1 : ((rdOf ByteArray.empty l0 x5_1).toList != (rdOf ByteArray.empty l1 x5_1).toList) = false := bne_eq_false_iff_eq.mpr c7
        clear c7
        have H' := Aside0.mk H
        clear H
        have p128 : 0 ≤ (x5_1 : Int) := of_decide_eq_true (by first | (with_reducible assumption) | assumption)
        have q128 : x5_1 < (l0.length : Int) := of_decide_eq_true (by first | (with_reducible assumption) | assumption)
        obtain ⟨ad128, e128, hx128_0⟩ := Kd.at_string HR0.out x5_1 p128 q128
        cases e128
        replace p128 := eq_true p128
        replace q128 := eq_true q128
        have p129 : 0 ≤ (x5_1 : Int) := of_decide_eq_true (by first | (with_reducible assumption) | assumption)
        have q129 : x5_1 < (l1.length : Int) := of_decide_eq_true (by first | (with_reducible assumption) | assumption)
        obtain ⟨ad129, e129, hx129_0⟩ := Kd.at_string HR1.out x5_1 p129 q129
        cases e129
        replace p129 := eq_true p129
        replace q129 := eq_true q129
        go_wp2
        repeat (go_quiet (fail); try go_wp2)
        go_roundg k1
        case measure => have := HK1.out; omega
        case rel => exact ⟨(wrap64 (x5_1 + 1)), (by first | rfl | (simp; done) | (simp [*]; done)), H', ⟨by have := HK1.out; omega⟩, by repeat (first | exact Drawn0.refl _ | apply Drawn0.step)⟩
       ·rw [if_neg c7] at H
        have c7b0 : ((rdOf ByteArray.empty l0 x5_1).toList == (rdOf ByteArray.empty l1 x5_1).toList) = false := beq_eq_false_iff_ne.mpr c7
        have c7b1 : ((rdOf ByteArray.empty l0 x5_1).toList != (rdOf ByteArray.empty l1 x5_1).toList) = true := bne_iff_ne.mpr c7
        obtain rfl := Option.some.inj H
        have p128 : 0 ≤ (x5_1 : Int) := of_decide_eq_true (by first | (with_reducible assumption) | assumption)
        have q128 : x5_1 < (l0.length : Int) := of_decide_eq_true (by first | (with_reducible assumption) | assumption)
        obtain ⟨ad128, e128, hx128_0⟩ := Kd.at_string HR0.out x5_1 p128 q128
        cases e128
        replace p128 := eq_true p128
        replace q128 := eq_true q128
        have p129 : 0 ≤ (x5_1 : Int) := of_decide_eq_true (by first | (with_reducible assumption) | assumption)
        have q129 : x5_1 < (l1.length : Int) := of_decide_eq_true (by first | (with_reducible assumption) | assumption)
        obtain ⟨ad129, e129, hx129_0⟩ := Kd.at_string HR1.out x5_1 p129 q129
        cases e129
        replace p129 := eq_true p129
        replace q129 := eq_true q129
        go_wp2
        repeat (go_quiet (fail); try go_wp2)
        go_ret
        exact ⟨by first | rfl | (simp; done) | (simp [*]; done), by repeat (first | exact Drawn0.refl _ | apply Drawn0.step)⟩
      ·rw [if_neg c6] at H
       exact absurd H (by simp)
     ·rw [if_neg c5] at H
      exact absurd H (by simp)
    ·rw [if_neg c4] at H
     have c4b0 : decide (x5_1 < (l0.length : Int)) = false := decide_eq_false c4
     clear c4
     obtain rfl := Option.some.inj H
     go_wp2
     repeat (go_quiet (fail); try go_wp2)
     go_ret
     exact ⟨by first | rfl | (simp; done) | (simp [*]; done), by repeat (first | exact Drawn0.refl _ | apply Drawn0.step)⟩
 ·rw [if_neg c3] at H
  have c3b0 : ((l0.length : Int) == (l1.length : Int)) = false := beq_eq_false_iff_ne.mpr c3
  have c3b1 : ((l0.length : Int) != (l1.length : Int)) = true := bne_iff_ne.mpr c3
  have c3b2 : (l0.length == l1.length) = false := by first | simpa using c3 | (simp at c3 ⊢; omega)
  obtain rfl := Option.some.inj H
  go_enter Try.func14, Try.ntmps14
  go_wp2
  repeat (go_quiet (fail); try go_wp2)
  go_ret
  exact ⟨by first | rfl | (simp; done) | (simp [*]; done), by repeat (first | exact Drawn0.refl _ | apply Drawn0.step)⟩
end Go.Proofs.Ytebmbfobmakheaa.PD
namespace Go.Proofs.Ytebmbfobmakheaa.PD
open Go.RowKit Go.Proofs.YtebmbfobmakheaaW.PrintWords Go.Proofs.YtebmbfobmakheaaW.PrintLast Go.Proofs.YtebmbfobmakheaaW.PrintMore
set_option linter.unusedVariables false
set_option linter.unusedSimpArgs false
theorem ralike (a b : ByteArray) (ha : shortB a = true) (hb : shortB b = true) : Ev (fun k => almanacref26_Alike.f k a b) (alikeB a b) := ⟨a.size + b.size + 2, fun k hk => by
  obtain ⟨k, rfl⟩ : ∃ m, k = m + 1 := ⟨k - 1, by omega⟩
  exact ralike_val k a b ha hb (by omega) (by omega)⟩
def attL (l : List S25) : List S45 := l.flatMap fun x => byN x.f1 attN
end Go.Proofs.Ytebmbfobmakheaa.PD
namespace Go.Proofs.Ytebmbfobmakheaa.PD
open Go.RowKit Go.Proofs.YtebmbfobmakheaaW.PrintWords Go.Proofs.YtebmbfobmakheaaW.PrintLast Go.Proofs.YtebmbfobmakheaaW.PrintMore
attribute [local go_sem] isSome_setCell max2_int min2_int max_two min_two max_three min_three max_four min_four
set_option linter.unusedVariables false
set_option linter.unusedSimpArgs false
def slices_Equal_string_string.l0 : Nat → List ByteArray → List ByteArray → Int → Int → Option (Bool)
 | 0, _, _, _, _ => none
 | k + 1, x0, x1, x12, x13 => if x13 < x12 then (if 0 ≤ x13 then (if x13 < (x0.length : Int) then (if x13 < (x1.length : Int) then (if (rdOf ByteArray.empty x0 x13).toList = (rdOf ByteArray.empty x1 x13).toList then (slices_Equal_string_string.l0 k x0 x1 x12 (wrap64 (x13 + 1))) else (some false)) else (none)) else (none)) else (none)) else (some true)
def slices_Equal_string_string.f (k : Nat) (l0 : List ByteArray) (l1 : List ByteArray) : Option (Bool) := if (l0.length : Int) = (l1.length : Int) then (slices_Equal_string_string.l0 k l0 l1 (l0.length : Int) 0) else (some false)
set_option maxHeartbeats 8000000 in
set_option maxRecDepth 100000 in
theorem slices_Equal_string_string.calls (k : Nat) (A0 : Option Addr) (c0 : Nat) (l0 : List ByteArray) (A1 : Option Addr) (c1 : Nat) (l1 : List ByteArray) (r : Bool) (w : World) (hr0 : Kd.C Kd.string w A0 l0.length l0) (hc0 : l0.length ≤ c0) (hr1 : Kd.C Kd.string w A1 l1.length l1) (hc1 : l1.length ≤ c1) (h : slices_Equal_string_string.f k l0 l1 = some r) :
  Calls Try.prog 87 #[.slice A0 l0.length c0, .slice A1 l1.length c1] w fun e w' => e = .returned (.bool r) ∧ Drawn0 w w' := by
 have HR0 := Aside0.mk hr0
 have HC0 := Aside0.mk hc0
 clear hr0 hc0
 have HR1 := Aside0.mk hr1
 have HC1 := Aside0.mk hc1
 clear hr1 hc1
 have H : (if (l0.length : Int) = (l1.length : Int) then (slices_Equal_string_string.l0 k l0 l1 (l0.length : Int) 0) else (some false)) = some r := h
 clear h
 by_cases c3 : (l0.length : Int) = (l1.length : Int)
 ·rw [if_pos c3] at H
  have c3b0 : ((l0.length : Int) == (l1.length : Int)) = true := beq_iff_eq.mpr c3
  have c3b1 : ((l0.length : Int) != (l1.length : Int)) = false := bne_eq_false_iff_eq.mpr c3
  have c3b2 : (l0.length == l1.length) = true := by first | simpa using c3 | (simp at c3 ⊢; omega)
  clear c3
  have H' := Aside0.mk H
  clear H
  go_enter Try.func87, Try.ntmps87
  go_wp2
  repeat (go_quiet (fail); try go_wp2)
  go_loopg [13] k (fun kq v13 w' => ∃ (x13_1 : Int), v13 = .int .i64 x13_1 ∧ Aside0 (slices_Equal_string_string.l0 kq l0 l1 (l0.length : Int) x13_1 = some r) ∧ Aside0 (kq ≤ k) ∧ Drawn0 w w')
  case atStart => exact ⟨(0), (by first | rfl | (simp; done) | (simp [*]; done)), H', ⟨Nat.le_refl _⟩, by repeat (first | exact Drawn0.refl _ | apply Drawn0.step)⟩
  case round =>
   clear H'
   try clear c1
   try clear p2
   try clear c3
   try clear c3b0
   try clear c3b1
   try clear c3b2
   obtain ⟨x13_1, rfl, HA, HK1, ⟨m1, rfl⟩⟩ := hrel
   cases gk with
   | zero => exact absurd HA.out (by simp [slices_Equal_string_string.l0])
   | succ k1 =>
    have H := HA.out
    clear HA
    simp only [slices_Equal_string_string.l0] at H
    by_cases c4 : x13_1 < (l0.length : Int)
    ·rw [if_pos c4] at H
     have c4b0 : decide (x13_1 < (l0.length : Int)) = true := decide_eq_true c4
     clear c4
     by_cases c5 : 0 ≤ x13_1
     ·rw [if_pos c5] at H
      have c5b0 : decide (0 ≤ x13_1) = true := decide_eq_true c5
      clear c5
      by_cases c6 : x13_1 < (l0.length : Int)
      ·rw [if_pos c6] at H
       have c6b0 : decide (x13_1 < (l0.length : Int)) = true := decide_eq_true c6
       clear c6
       by_cases c7 : x13_1 < (l1.length : Int)
       ·rw [if_pos c7] at H
        have c7b0 : decide (x13_1 < (l1.length : Int)) = true := decide_eq_true c7
        clear c7
        by_cases c8 : (rdOf ByteArray.empty l0 x13_1).toList = (rdOf ByteArray.empty l1 x13_1).toList
        ·rw [if_pos c8] at H
         have c8b0 : ((rdOf ByteArray.empty l0 x13_1).toList == (rdOf ByteArray.empty l1 x13_1).toList) = true := beq_iff_eq.mpr c8
         have c8b1 : ((rdOf ByteArray.empty l0 x13_1).toList != (rdOf ByteArray.empty l1 x13_1).toList) = false := bne_eq_false_iff_eq.mpr c8
         clear c8
         have H' := Aside0.mk H
         clear H
         have p602 : 0 ≤ (x13_1 : Int) := of_decide_eq_true (by first | (with_reducible assumption) | assumption)
         have q602 : x13_1 < (l0.length : Int) := of_decide_eq_true (by first | (with_reducible assumption) | assumption)
         obtain ⟨ad602, e602, hx602_0⟩ := Kd.at_string HR0.out x13_1 p602 q602
         cases e602
         replace p602 := eq_true p602
         replace q602 := eq_true q602
         have p603 : 0 ≤ (x13_1 : Int) := of_decide_eq_true (by first | (with_reducible assumption) | assumption)
         have q603 : x13_1 < (l1.length : Int) := of_decide_eq_true (by first | (with_reducible assumption) | assumption)
         obtain ⟨ad603, e603, hx603_0⟩ := Kd.at_string HR1.out x13_1 p603 q603
         cases e603
         replace p603 := eq_true p603
         replace q603 := eq_true q603
         go_wp2
         repeat (go_quiet (fail); try go_wp2)
         go_roundg k1
         case measure => have := HK1.out; omega
         case rel => exact ⟨(wrap64 (x13_1 + 1)), (by first | rfl | (simp; done) | (simp [*]; done)), H', ⟨by have := HK1.out; omega⟩, by repeat (first | exact Drawn0.refl _ | apply Drawn0.step)⟩
        ·rw [if_neg c8] at H
         have c8b0 : ((rdOf ByteArray.empty l0 x13_1).toList == (rdOf ByteArray.empty l1 x13_1).toList) = false := beq_eq_false_iff_ne.mpr c8
         have c8b1 : ((rdOf ByteArray.empty l0 x13_1).toList != (rdOf ByteArray.empty l1 x13_1).toList) = true := bne_iff_ne.mpr c8
         obtain rfl := Option.some.inj H
         have p602 : 0 ≤ (x13_1 : Int) := of_decide_eq_true (by first | (with_reducible assumption) | assumption)
         have q602 : x13_1 < (l0.length : Int) := of_decide_eq_true (by first | (with_reducible assumption) | assumption)
         obtain ⟨ad602, e602, hx602_0⟩ := Kd.at_string HR0.out x13_1 p602 q602
         cases e602
         replace p602 := eq_true p602
         replace q602 := eq_true q602
         have p603 : 0 ≤ (x13_1 : Int) := of_decide_eq_true (by first | (with_reducible assumption) | assumption)
         have q603 : x13_1 < (l1.length : Int) := of_decide_eq_true (by first | (with_reducible assumption) | assumption)
         obtain ⟨ad603, e603, hx603_0⟩ := Kd.at_string HR1.out x13_1 p603 q603
         cases e603
         replace p603 := eq_true p603
         replace q603 := eq_true q603
         go_wp2
         repeat (go_quiet (fail); try go_wp2)
         go_ret
         exact ⟨by first | rfl | (simp; done) | (simp [*]; done), by repeat (first | exact Drawn0.refl _ | apply Drawn0.step)⟩
       ·rw [if_neg c7] at H
        exact absurd H (by simp)
      ·rw [if_neg c6] at H
       exact absurd H (by simp)
     ·rw [if_neg c5] at H
      exact absurd H (by simp)
    ·rw [if_neg c4] at H
     have c4b0 : decide (x13_1 < (l0.length : Int)) = false := decide_eq_false c4
     clear c4
     obtain rfl := Option.some.inj H
     go_wp2
     repeat (go_quiet (fail); try go_wp2)
     go_ret
     exact ⟨by first | rfl | (simp; done) | (simp [*]; done), by repeat (first | exact Drawn0.refl _ | apply Drawn0.step)⟩
 ·rw [if_neg c3] at H
  have c3b0 : ((l0.length : Int) == (l1.length : Int)) = false := beq_eq_false_iff_ne.mpr c3
  have c3b1 : ((l0.length : Int) != (l1.length : Int)) = true := bne_iff_ne.mpr c3
  have c3b2 : (l0.length == l1.length) = false := by first | simpa using c3 | (simp at c3 ⊢; omega)
  obtain rfl := Option.some.inj H
  go_enter Try.func87, Try.ntmps87
  go_wp2
  repeat (go_quiet (fail); try go_wp2)
  go_ret
  exact ⟨by first | rfl | (simp; done) | (simp [*]; done), by repeat (first | exact Drawn0.refl _ | apply Drawn0.step)⟩
end Go.Proofs.Ytebmbfobmakheaa.PD
namespace Go.Proofs.Ytebmbfobmakheaa.PD
open Go.RowKit Go.Shelf Go.Proofs.YtebmbfobmakheaaW.PrintWords Go.Proofs.YtebmbfobmakheaaW.PrintLast Go.Proofs.YtebmbfobmakheaaW.PrintMore
attribute [local go_sem] isSome_setCell Oper.semAt_some wide_fn wide_depth
set_option linter.unusedVariables false
set_option linter.unusedSimpArgs false
def eqL {α : Type} (p : α → α → Bool) (l m : List α) : Bool := decide (l.length = m.length) && (l.zip m).all fun q => p q.1 q.2
theorem eqL_true {α : Type} (p : α → α → Bool) (l m : List α) (h : l.length = m.length) (hp : ∀ j (hj : j < l.length), p l[j] (m[j]'(by omega)) = true) : eqL p l m = true := by
  unfold eqL
  rw [decide_eq_true h, Bool.true_and, List.all_eq_true]
  intro q hq
  obtain ⟨j, hj, rfl⟩ := List.getElem_of_mem hq
  rw [List.length_zip] at hj
  rw [List.getElem_zip]
  exact hp j (by omega)
theorem eqL_false {α : Type} (p : α → α → Bool) (l m : List α) (h : l.length = m.length) (j : Nat) (hj : j < l.length) (hp : p l[j] (m[j]'(by omega)) = false) : eqL p l m = false := by
  unfold eqL
  rw [decide_eq_true h, Bool.true_and]
  rw [List.all_eq_false]
  refine ⟨(l.zip m)[j]'(by rw [List.length_zip]; omega), List.getElem_mem _, ?_⟩
  rw [List.getElem_zip]
  simp [hp]
set_option maxRecDepth 100000 in
set_option maxHeartbeats 4000000 in
theorem eqF77 (p : S77 → S77 → Bool) (A0 : Option Addr) (c0 : Nat) (l : List S77) (A1 : Option Addr) (c1 : Nat) (m : List S77) (w : World) (hr0 : Kd.C k77 w A0 l.length l) (hr1 : Kd.C k77 w A1 m.length m)
    (hp : ∀ x ∈ l, ∀ y ∈ m, ∀ A2 c2 A3 c3 W, Below w.heap.size w W → x.f1.length ≤ c2 ∧ Kd.C Kd.string W A2 x.f1.length x.f1 ∧ y.f1.length ≤ c3 ∧ Kd.C Kd.string W A3 y.f1.length y.f1 → Calls Try.prog 86 #[.agg #[.string x.f0, .slice A2 x.f1.length c2], .agg #[.string y.f0, .slice A3 y.f1.length c3]] W fun e W' => e = .returned (.bool (p x y)) ∧ Below W.heap.size W W') :
    Calls Try.prog 85 #[.slice A0 l.length c0, .slice A1 m.length c1, .func (.func 86) #[] #[]] w fun e w' => e = .returned (.bool (eqL p l m)) ∧ Below w.heap.size w w' := by
  have HR0 := Aside0.mk hr0
  have HR1 := Aside0.mk hr1
  have hml : l.length ≤ 9223372036854775807 := by have := hr0.2.1; unfold maxLen at this; omega
  have hmm : m.length ≤ 9223372036854775807 := by have := hr1.2.1; unfold maxLen at this; omega
  have HP := Aside0.mk hp
  have HB := Aside0.mk (Below.refl w.heap.size w)
  clear hr0 hr1 hp
  refine (callsIn_wide (n := 51)).1 ?_
  refine callsIn_of_wp Try.func85 rfl trivial ?_ rfl
  simp only [Try.ntmps85, List.size_toArray, List.length_cons, List.length_nil, Nat.reduceAdd, Nat.reduceSub, Array.replicate_succ, Array.replicate_zero, List.push_toArray, List.append_toArray, List.nil_append, List.cons_append]
  by_cases hlen : l.length = m.length
  · have e1 : ((l.length : Int) == (m.length : Int)) = true := beq_iff_eq.2 (by omega)
    have e2 : ((l.length : Int) != (m.length : Int)) = false := by simp [hlen]
    have e3 : ((l.length : Int) = (m.length : Int)) = True := eq_true (by omega)
    have HL := Aside0.mk hlen
    have hl1 : ∀ j, j < l.length → j < m.length := fun j h => by omega
    have HL1 := Aside0.mk hl1
    clear hlen hl1
    gi_wp2
    gi_loopw [17] (fun v wr => ∃ k : Nat, v = .int .i64 k ∧ k ≤ l.length ∧ Aside0 (∀ j, (hj : j < l.length) → j < k → p l[j] (m[j]'(HL1.out j hj)) = true) ∧ Aside0 (Below w.heap.size w wr)) (fun v _ => l.length - (intOf v).toNat)
    case atStart => exact ⟨0, rfl, Nat.zero_le _, ⟨fun j _ hj => absurd hj (Nat.not_lt_zero _)⟩, HB⟩
    case round =>
      obtain ⟨k, rfl, hk, hyes, hb⟩ := hrel
      by_cases hlt : k < l.length
      · have hlt0 : decide ((k : Int) < (l.length : Int)) = true := decide_eq_true (by omega)
        have hltm : k < m.length := HL1.out k hlt
        have q1 : ((k : Int) < (m.length : Int)) = True := eq_true (by omega)
        obtain ⟨ad, A2, c2, e, hx0, hx1, h2x, h3x⟩ := at_T77 HR0.out (k : Int) (by omega) (by omega)
        obtain ⟨ad', A3, c3, e', hy0, hy1, h2y, h3y⟩ := at_T77 HR1.out (k : Int) (by omega) (by omega)
        subst e
        subst e'
        replace hx0 := (hb.out.cell (World.block_lt_of_cell? w _ hx0)).trans hx0
        replace hx1 := (hb.out.cell (World.block_lt_of_cell? w _ hx1)).trans hx1
        replace hy0 := (hb.out.cell (World.block_lt_of_cell? w _ hy0)).trans hy0
        replace hy1 := (hb.out.cell (World.block_lt_of_cell? w _ hy1)).trans hy1
        have hget : rd_T77 l (k : Int) = l[k] := by simp only [rd_T77, Int.toNat_natCast]; simp [hlt]
        have hget' : rd_T77 m (k : Int) = m[k] := by simp only [rd_T77, Int.toNat_natCast]; simp [hltm]
        rw [hget] at hx0 hx1 h2x h3x
        rw [hget'] at hy0 hy1 h2y h3y
        simp only [Int.toNat_natCast] at hx0 hx1 hy0 hy1
        have hbb : Below w.heap.size w ((wr.alloc (.cells #[.string l[k].f0, .slice A2 l[k].f1.length c2] 77)).alloc (.cells #[.string m[k].f0, .slice A3 m[k].f1.length c3] 77)) := hb.out.trans ((below_alloc (below_alloc (Below.refl wr.heap.size wr) _) _).mono hb.out.size)
        have HC := Aside0.mk (HP.out l[k] (List.getElem_mem hlt) m[k] (List.getElem_mem hltm) A2 c2 A3 c3 _ hbb ⟨h2x, Kd.C_below h3x hbb, h2y, Kd.C_below h3y hbb⟩)
        have hw0 := ((below_alloc (Below.refl wr.heap.size wr) (.cells #[.string l[k].f0, .slice A2 l[k].f1.length c2] 77)).cell (World.block_lt_of_cell? wr _ hy0)).trans hy0
        have hw1 := ((below_alloc (Below.refl wr.heap.size wr) (.cells #[.string l[k].f0, .slice A2 l[k].f1.length c2] 77)).cell (World.block_lt_of_cell? wr _ hy1)).trans hy1
        have HG := Aside0.mk (And.intro hget hget')
        clear hget hget'
        gi_wp2
        gi_at_call 86
        refine (callsIn_wide.2 HC.out).mono ?_
        rintro e W' ⟨rfl, hb'⟩
        have HB' := Aside0.mk (hbb.trans (hb'.mono (hbb).size))
        clear hb'
        cases hpk : p l[k] m[k] with
        | true =>
          have HPK := Aside0.mk hpk
          clear hpk
          gi_wp2
          go_roundw
          case rel =>
            refine ⟨k + 1, by simp, hlt, ⟨fun j hj hjk => ?_⟩, HB'⟩
            rcases Nat.lt_or_ge j k with h | h
            · exact hyes.out j hj h
            · obtain rfl : j = k := by omega
              exact HPK.out
          case measure =>
            show l.length - ((k : Int) + 1).toNat < l.length - (k : Int).toNat
            omega
        | false =>
          have HPK := Aside0.mk hpk
          clear hpk
          gi_wp2
          go_ret
          refine ⟨?_, HB'.out⟩
          rw [eqL_false p l m HL.out k hlt HPK.out]
          rfl
      · have hlt0 : decide ((k : Int) < (l.length : Int)) = false := decide_eq_false (by omega)
        gi_wp2
        go_ret
        refine ⟨?_, hb.out⟩
        rw [eqL_true p l m HL.out (fun j hj => hyes.out j hj (by omega))]
        rfl
  · have e1 : ((l.length : Int) == (m.length : Int)) = false := beq_eq_false_iff_ne.2 (by omega)
    have e2 : ((l.length : Int) != (m.length : Int)) = true := bne_iff_ne.2 (by omega)
    have e3 : ((l.length : Int) = (m.length : Int)) = False := eq_false (by omega)
    gi_wp2
    go_ret
    refine ⟨?_, HB.out⟩
    rw [show eqL p l m = false by unfold eqL; rw [decide_eq_false hlen]; rfl]
    rfl
set_option maxRecDepth 100000 in
set_option maxHeartbeats 4000000 in
theorem eqF45 (p : S45 → S45 → Bool) (A0 : Option Addr) (c0 : Nat) (l : List S45) (A1 : Option Addr) (c1 : Nat) (m : List S45) (w : World) (hr0 : Kd.C k45 w A0 l.length l) (hr1 : Kd.C k45 w A1 m.length m)
    (hp : ∀ x ∈ l, ∀ y ∈ m, ∀ A2 c2 A3 c3 W, Below w.heap.size w W → x.f1.length ≤ c2 ∧ Kd.C k77 W A2 x.f1.length x.f1 ∧ y.f1.length ≤ c3 ∧ Kd.C k77 W A3 y.f1.length y.f1 → Calls Try.prog 56 #[.agg #[.string x.f0, .slice A2 x.f1.length c2, .string x.f2], .agg #[.string y.f0, .slice A3 y.f1.length c3, .string y.f2]] W fun e W' => e = .returned (.bool (p x y)) ∧ Below W.heap.size W W') :
    Calls Try.prog 55 #[.slice A0 l.length c0, .slice A1 m.length c1, .func (.func 56) #[] #[]] w fun e w' => e = .returned (.bool (eqL p l m)) ∧ Below w.heap.size w w' := by
  have HR0 := Aside0.mk hr0
  have HR1 := Aside0.mk hr1
  have hml : l.length ≤ 9223372036854775807 := by have := hr0.2.1; unfold maxLen at this; omega
  have hmm : m.length ≤ 9223372036854775807 := by have := hr1.2.1; unfold maxLen at this; omega
  have HP := Aside0.mk hp
  have HB := Aside0.mk (Below.refl w.heap.size w)
  clear hr0 hr1 hp
  refine (callsIn_wide (n := 51)).1 ?_
  refine callsIn_of_wp Try.func55 rfl trivial ?_ rfl
  simp only [Try.ntmps55, List.size_toArray, List.length_cons, List.length_nil, Nat.reduceAdd, Nat.reduceSub, Array.replicate_succ, Array.replicate_zero, List.push_toArray, List.append_toArray, List.nil_append, List.cons_append]
  by_cases hlen : l.length = m.length
  · have e1 : ((l.length : Int) == (m.length : Int)) = true := beq_iff_eq.2 (by omega)
    have e2 : ((l.length : Int) != (m.length : Int)) = false := by simp [hlen]
    have e3 : ((l.length : Int) = (m.length : Int)) = True := eq_true (by omega)
    have HL := Aside0.mk hlen
    have hl1 : ∀ j, j < l.length → j < m.length := fun j h => by omega
    have HL1 := Aside0.mk hl1
    clear hlen hl1
    gi_wp2
    gi_loopw [17] (fun v wr => ∃ k : Nat, v = .int .i64 k ∧ k ≤ l.length ∧ Aside0 (∀ j, (hj : j < l.length) → j < k → p l[j] (m[j]'(HL1.out j hj)) = true) ∧ Aside0 (Below w.heap.size w wr)) (fun v _ => l.length - (intOf v).toNat)
    case atStart => exact ⟨0, rfl, Nat.zero_le _, ⟨fun j _ hj => absurd hj (Nat.not_lt_zero _)⟩, HB⟩
    case round =>
      obtain ⟨k, rfl, hk, hyes, hb⟩ := hrel
      by_cases hlt : k < l.length
      · have hlt0 : decide ((k : Int) < (l.length : Int)) = true := decide_eq_true (by omega)
        have hltm : k < m.length := HL1.out k hlt
        have q1 : ((k : Int) < (m.length : Int)) = True := eq_true (by omega)
        obtain ⟨ad, A2, c2, e, hx0, hx1, hx2, h2x, h3x⟩ := at_T45 HR0.out (k : Int) (by omega) (by omega)
        obtain ⟨ad', A3, c3, e', hy0, hy1, hy2, h2y, h3y⟩ := at_T45 HR1.out (k : Int) (by omega) (by omega)
        subst e
        subst e'
        replace hx0 := (hb.out.cell (World.block_lt_of_cell? w _ hx0)).trans hx0
        replace hx1 := (hb.out.cell (World.block_lt_of_cell? w _ hx1)).trans hx1
        replace hx2 := (hb.out.cell (World.block_lt_of_cell? w _ hx2)).trans hx2
        replace hy0 := (hb.out.cell (World.block_lt_of_cell? w _ hy0)).trans hy0
        replace hy1 := (hb.out.cell (World.block_lt_of_cell? w _ hy1)).trans hy1
        replace hy2 := (hb.out.cell (World.block_lt_of_cell? w _ hy2)).trans hy2
        have hget : rd_T45 l (k : Int) = l[k] := by simp only [rd_T45, Int.toNat_natCast]; simp [hlt]
        have hget' : rd_T45 m (k : Int) = m[k] := by simp only [rd_T45, Int.toNat_natCast]; simp [hltm]
        rw [hget] at hx0 hx1 hx2 h2x h3x
        rw [hget'] at hy0 hy1 hy2 h2y h3y
        simp only [Int.toNat_natCast] at hx0 hx1 hx2 hy0 hy1 hy2
        have hbb : Below w.heap.size w ((wr.alloc (.cells #[.string l[k].f0, .slice A2 l[k].f1.length c2, .string l[k].f2] 45)).alloc (.cells #[.string m[k].f0, .slice A3 m[k].f1.length c3, .string m[k].f2] 45)) := hb.out.trans ((below_alloc (below_alloc (Below.refl wr.heap.size wr) _) _).mono hb.out.size)
        have HC := Aside0.mk (HP.out l[k] (List.getElem_mem hlt) m[k] (List.getElem_mem hltm) A2 c2 A3 c3 _ hbb ⟨h2x, Kd.C_below h3x hbb, h2y, Kd.C_below h3y hbb⟩)
        have hw0 := ((below_alloc (Below.refl wr.heap.size wr) (.cells #[.string l[k].f0, .slice A2 l[k].f1.length c2, .string l[k].f2] 45)).cell (World.block_lt_of_cell? wr _ hy0)).trans hy0
        have hw1 := ((below_alloc (Below.refl wr.heap.size wr) (.cells #[.string l[k].f0, .slice A2 l[k].f1.length c2, .string l[k].f2] 45)).cell (World.block_lt_of_cell? wr _ hy1)).trans hy1
        have hw2 := ((below_alloc (Below.refl wr.heap.size wr) (.cells #[.string l[k].f0, .slice A2 l[k].f1.length c2, .string l[k].f2] 45)).cell (World.block_lt_of_cell? wr _ hy2)).trans hy2
        have HG := Aside0.mk (And.intro hget hget')
        clear hget hget'
        gi_wp2
        gi_at_call 56
        refine (callsIn_wide.2 HC.out).mono ?_
        rintro e W' ⟨rfl, hb'⟩
        have HB' := Aside0.mk (hbb.trans (hb'.mono (hbb).size))
        clear hb'
        cases hpk : p l[k] m[k] with
        | true =>
          have HPK := Aside0.mk hpk
          clear hpk
          gi_wp2
          go_roundw
          case rel =>
            refine ⟨k + 1, by simp, hlt, ⟨fun j hj hjk => ?_⟩, HB'⟩
            rcases Nat.lt_or_ge j k with h | h
            · exact hyes.out j hj h
            · obtain rfl : j = k := by omega
              exact HPK.out
          case measure =>
            show l.length - ((k : Int) + 1).toNat < l.length - (k : Int).toNat
            omega
        | false =>
          have HPK := Aside0.mk hpk
          clear hpk
          gi_wp2
          go_ret
          refine ⟨?_, HB'.out⟩
          rw [eqL_false p l m HL.out k hlt HPK.out]
          rfl
      · have hlt0 : decide ((k : Int) < (l.length : Int)) = false := decide_eq_false (by omega)
        gi_wp2
        go_ret
        refine ⟨?_, hb.out⟩
        rw [eqL_true p l m HL.out (fun j hj => hyes.out j hj (by omega))]
        rfl
  · have e1 : ((l.length : Int) == (m.length : Int)) = false := beq_eq_false_iff_ne.2 (by omega)
    have e2 : ((l.length : Int) != (m.length : Int)) = true := bne_iff_ne.2 (by omega)
    have e3 : ((l.length : Int) = (m.length : Int)) = False := eq_false (by omega)
    gi_wp2
    go_ret
    refine ⟨?_, HB.out⟩
    rw [show eqL p l m = false by unfold eqL; rw [decide_eq_false hlen]; rfl]
    rfl
end Go.Proofs.Ytebmbfobmakheaa.PD
namespace Go.Proofs.Ytebmbfobmakheaa.PD
open Go.RowKit Go.Shelf Go.Proofs.YtebmbfobmakheaaW.PrintWords Go.Proofs.YtebmbfobmakheaaW.PrintLast Go.Proofs.YtebmbfobmakheaaW.PrintMore
attribute [local go_sem] isSome_setCell Oper.semAt_some wide_fn wide_depth
set_option linter.unusedVariables false
set_option linter.unusedSimpArgs false
def sameB (a b : ByteArray) : Bool := a.toList == b.toList
theorem w64n {i : Nat} (h : i < 9223372036854775807) : wrap64 ((i : Int) + 1) = ((i + 1 : Nat) : Int) := by unfold wrap64; omega
theorem str_l0 (l m : List ByteArray) (h : l.length = m.length) (hb : l.length ≤ 9223372036854775807) : ∀ (d j : Nat), l.length - j = d → j ≤ l.length → slices_Equal_string_string.l0 (d + 1) l m (l.length : Int) (j : Int) = some ((l.drop j).zip (m.drop j) |>.all fun q => sameB q.1 q.2)
  | 0, j, hd, hj => by
    unfold slices_Equal_string_string.l0
    rw [if_neg (by omega), List.drop_eq_nil_of_le (by omega)]
    rfl
  | d + 1, j, hd, hj => by
    unfold slices_Equal_string_string.l0
    have hjl : j < l.length := by omega
    have hjm : j < m.length := by omega
    rw [if_pos (by omega), if_pos (by omega), if_pos (by omega), if_pos (by omega), List.drop_eq_getElem_cons hjl, List.drop_eq_getElem_cons hjm, List.zip_cons_cons, List.all_cons]
    have e0 : rdOf ByteArray.empty l (j : Int) = l[j] := by simp [rdOf, hjl]
    have e1 : rdOf ByteArray.empty m (j : Int) = m[j] := by simp [rdOf, hjm]
    rw [e0, e1, w64n (by omega), str_l0 l m h hb d (j + 1) (by omega) (by omega)]
    by_cases hs : l[j].toList = m[j].toList
    · rw [if_pos hs]; simp [sameB, hs]
    · rw [if_neg hs]; simp [sameB, hs]
theorem equal_str (l m : List ByteArray) (hb : l.length ≤ 9223372036854775807) : slices_Equal_string_string.f (l.length + 1) l m = some (eqL sameB l m) := by
  unfold slices_Equal_string_string.f eqL
  by_cases h : l.length = m.length
  · rw [if_pos (by omega), decide_eq_true h, Bool.true_and]
    exact str_l0 l m h hb l.length 0 (by omega) (by omega)
  · rw [if_neg (by omega), decide_eq_false h, Bool.false_and]
def sameV (x y : S77) : Bool := sameB x.f0 y.f0 && eqL sameB x.f1 y.f1
def sameP (x y : S45) : Bool := (sameB x.f0 y.f0 && sameB x.f2 y.f2) && eqL sameV x.f1 y.f1
set_option maxRecDepth 100000 in
set_option maxHeartbeats 1600000 in
theorem same1_walk (x y : S77) (A2 : Option Addr) (c2 : Nat) (A3 : Option Addr) (c3 : Nat) (w : World) (hx : x.f1.length ≤ c2) (hxc : Kd.C Kd.string w A2 x.f1.length x.f1) (hy : y.f1.length ≤ c3) (hyc : Kd.C Kd.string w A3 y.f1.length y.f1) :
    Calls Try.prog 86 #[.agg #[.string x.f0, .slice A2 x.f1.length c2], .agg #[.string y.f0, .slice A3 y.f1.length c3]] w fun e w' => e = .returned (.bool (sameV x y)) ∧ Below w.heap.size w w' := by
  have hl : x.f1.length ≤ 9223372036854775807 := by have := hxc.2.1; unfold maxLen at this; omega
  have hb : Below w.heap.size w ((w.alloc (.cells #[.string x.f0, .slice A2 x.f1.length c2] 77)).alloc (.cells #[.string y.f0, .slice A3 y.f1.length c3] 77)) := below_alloc (below_alloc (Below.refl _ _) _) _
  have HB := Aside0.mk hb
  have HC := Aside0.mk (slices_Equal_string_string.calls (x.f1.length + 1) A2 c2 x.f1 A3 c3 y.f1 _ _ (Kd.C_below hxc hb) hx (Kd.C_below hyc hb) hy (equal_str x.f1 y.f1 hl))
  clear hb hxc hyc hl hx hy
  refine (callsIn_wide (n := 51)).1 ?_
  refine callsIn_of_wp Try.func86 rfl trivial ?_ rfl
  simp only [Try.ntmps86, List.size_toArray, List.length_cons, List.length_nil, Nat.reduceAdd, Nat.reduceSub, Array.replicate_succ, Array.replicate_zero, List.push_toArray, List.append_toArray, List.nil_append, List.cons_append]
  cases hn : sameB x.f0 y.f0 with
  | false =>
    have e1 : (x.f0.toList == y.f0.toList) = false := hn
    have e2 : (x.f0.toList = y.f0.toList) = False := eq_false (by simpa [sameB] using hn)
    rw [show sameV x y = false by unfold sameV; rw [hn]; rfl]
    clear hn
    gi_wp2
    go_ret
    exact ⟨rfl, HB.out⟩
  | true =>
    have e1 : (x.f0.toList == y.f0.toList) = true := hn
    have e2 : (x.f0.toList = y.f0.toList) = True := eq_true (by simpa [sameB] using hn)
    rw [show sameV x y = eqL sameB x.f1 y.f1 by unfold sameV; rw [hn]; rfl]
    clear hn
    gi_wp2
    gi_at_call 87
    refine (callsIn_wide.2 HC.out).mono ?_
    rintro e W' ⟨rfl, hd⟩
    have HD := Aside0.mk hd
    clear hd
    gi_wp2
    go_ret
    exact ⟨rfl, HB.out.trans (HD.out.below.mono HB.out.size)⟩
set_option maxRecDepth 100000 in
set_option maxHeartbeats 3200000 in
theorem same_walk (x y : S45) (A2 : Option Addr) (c2 : Nat) (A3 : Option Addr) (c3 : Nat) (w : World) (hx : x.f1.length ≤ c2) (hxc : Kd.C k77 w A2 x.f1.length x.f1) (hy : y.f1.length ≤ c3) (hyc : Kd.C k77 w A3 y.f1.length y.f1) :
    Calls Try.prog 56 #[.agg #[.string x.f0, .slice A2 x.f1.length c2, .string x.f2], .agg #[.string y.f0, .slice A3 y.f1.length c3, .string y.f2]] w fun e w' => e = .returned (.bool (sameP x y)) ∧ Below w.heap.size w w' := by
  have hb : Below w.heap.size w ((w.alloc (.cells #[.string x.f0, .slice A2 x.f1.length c2, .string x.f2] 45)).alloc (.cells #[.string y.f0, .slice A3 y.f1.length c3, .string y.f2] 45)) := below_alloc (below_alloc (Below.refl _ _) _) _
  have HB := Aside0.mk hb
  have HC := Aside0.mk (eqF77 sameV A2 c2 x.f1 A3 c3 y.f1 _ (Kd.C_below hxc hb) (Kd.C_below hyc hb) (fun a _ b _ B2 d2 B3 d3 W _ h => same1_walk a b B2 d2 B3 d3 W h.1 h.2.1 h.2.2.1 h.2.2.2))
  clear hb hxc hyc hx hy
  refine (callsIn_wide (n := 51)).1 ?_
  refine callsIn_of_wp Try.func56 rfl trivial ?_ rfl
  simp only [Try.ntmps56, List.size_toArray, List.length_cons, List.length_nil, Nat.reduceAdd, Nat.reduceSub, Array.replicate_succ, Array.replicate_zero, List.push_toArray, List.append_toArray, List.nil_append, List.cons_append]
  cases hn : sameB x.f0 y.f0 with
  | false =>
    have e1 : (x.f0.toList == y.f0.toList) = false := hn
    have e2 : (x.f0.toList = y.f0.toList) = False := eq_false (by simpa [sameB] using hn)
    rw [show sameP x y = false by unfold sameP; rw [hn]; rfl]
    clear hn
    gi_wp2
    go_ret
    exact ⟨rfl, HB.out⟩
  | true =>
    have e1 : (x.f0.toList == y.f0.toList) = true := hn
    have e2 : (x.f0.toList = y.f0.toList) = True := eq_true (by simpa [sameB] using hn)
    cases hv : sameB x.f2 y.f2 with
    | false =>
      have e3 : (x.f2.toList == y.f2.toList) = false := hv
      have e4 : (x.f2.toList = y.f2.toList) = False := eq_false (by simpa [sameB] using hv)
      rw [show sameP x y = false by unfold sameP; rw [hn, hv]; rfl]
      clear hn hv
      gi_wp2
      go_ret
      exact ⟨rfl, HB.out⟩
    | true =>
      have e3 : (x.f2.toList == y.f2.toList) = true := hv
      have e4 : (x.f2.toList = y.f2.toList) = True := eq_true (by simpa [sameB] using hv)
      rw [show sameP x y = eqL sameV x.f1 y.f1 by unfold sameP; rw [hn, hv]; rfl]
      clear hn hv
      gi_wp2
      gi_at_call 85
      refine (callsIn_wide.2 HC.out).mono ?_
      rintro e W' ⟨rfl, hd⟩
      have HD := Aside0.mk hd
      clear hd
      gi_wp2
      go_ret
      exact ⟨rfl, HB.out.trans (HD.out.mono HB.out.size)⟩
set_option maxRecDepth 100000 in
set_option maxHeartbeats 1600000 in
theorem sig2_walk (A : Option Addr) (c : Nat) (l : List S45) (B : Option Addr) (d : Nat) (m : List S45) (w : World) (hl : Kd.C k45 w A l.length l) (hm : Kd.C k45 w B m.length m) :
    Calls Try.prog 54 #[.slice A l.length c, .slice B m.length d] w fun e w' => e = .returned (.bool (eqL sameP l m)) ∧ Below w.heap.size w w' := by
  have HC := Aside0.mk (eqF45 sameP A c l B d m w hl hm (fun a _ b _ B2 d2 B3 d3 W _ h => same_walk a b B2 d2 B3 d3 W h.1 h.2.1 h.2.2.1 h.2.2.2))
  clear hl hm
  refine (callsIn_wide (n := 51)).1 ?_
  refine callsIn_of_wp Try.func54 rfl trivial ?_ rfl
  simp only [Try.ntmps54, List.size_toArray, List.length_cons, List.length_nil, Nat.reduceAdd, Nat.reduceSub, Array.replicate_succ, Array.replicate_zero, List.push_toArray, List.append_toArray, List.nil_append, List.cons_append]
  gi_wp2
  gi_at_call 55
  refine (callsIn_wide.2 HC.out).mono ?_
  rintro e W' ⟨rfl, hd⟩
  have HD := Aside0.mk hd
  clear hd
  gi_wp2
  go_ret
  exact ⟨rfl, HD.out⟩
end Go.Proofs.Ytebmbfobmakheaa.PD
namespace Go.Proofs.Ytebmbfobmakheaa.PD
open Go.RowKit Go.Shelf Go.Proofs.YtebmbfobmakheaaW.PrintWords Go.Proofs.YtebmbfobmakheaaW.PrintLast Go.Proofs.YtebmbfobmakheaaW.PrintMore
attribute [local go_sem] isSome_setCell Oper.semAt_some wide_fn wide_depth
set_option linter.unusedVariables false
set_option linter.unusedSimpArgs false
theorem C45_cells {X Y : World} {A : Option Addr} {n : Nat} {xs : List S45} (h : Kd.C k45 X A n xs) (hc : ∀ p u, X.cell? p = some u → Y.cell? p = some u) : Kd.C k45 Y A n xs :=
  rows_cells h hc (fun x cs hk => by
    obtain ⟨A1, c1, rfl, hl, hC⟩ := k45_open hk
    exact k45_mk Y x hl (C77_cells hC hc))
def CL (W : World) (ok : Nat → Prop) (A : Option Addr) (x : List S45) : Prop := ∀ Y : World, (∀ p u, W.cell? p = some u → ok p.block → Y.cell? p = some u) → Kd.C k45 Y A x.length x
open Classical in
theorem CL_of_F {W : World} {ok : Nat → Prop} {A : Option Addr} {x : List S45} (h : Kd.F k45 W ok A x.length x) : CL W ok A x := fun Y hY => by
  obtain ⟨V, hV⟩ : ∃ V : World, ({ W with heap := W.heap.mapIdx fun i o => if ok i then o else Obj.deferred none } : World) = V := ⟨_, rfl⟩
  have hh : ∀ k : Nat, V.heap[k]? = (W.heap[k]?).map fun o => if ok k then o else Obj.deferred none := fun k => by rw [← hV]; simp [Array.getElem?_mapIdx]
  refine C45_cells (h V (fun k hk _ => ?_)) (fun p u hp => ?_)
  · rw [hh]; simp [hk]
  · by_cases hk : ok p.block
    · refine hY p u ?_ hk
      rw [← hp]
      refine (World.cell?_of_block ?_).symm
      rw [hh]; simp [hk]
    · exfalso
      unfold World.cell? at hp
      rw [hh] at hp
      cases hw : W.heap[p.block]? with
      | none => rw [hw] at hp; simp at hp
      | some o => rw [hw] at hp; simp [hk] at hp
theorem CL.step {X Y : World} {ok ok' : Nat → Prop} {A : Option Addr} {x : List S45} (h : CL X ok A x) (hc : ∀ p u, X.cell? p = some u → ok p.block → Y.cell? p = some u ∧ ok' p.block) : CL Y ok' A x :=
  fun Z hZ => h Z (fun p u hp hk => hZ p u (hc p u hp hk).1 (hc p u hp hk).2)
theorem CL.now {W : World} {ok : Nat → Prop} {A : Option Addr} {x : List S45} (h : CL W ok A x) : Kd.C k45 W A x.length x := h W (fun _ _ h _ => h)
def okR (w : World) (v : Value) (k : Nat) : Prop := k < w.heap.size ∨ (w.heap.size + 2 ≤ k ∧ some k ≠ v.ownBlock)
def AccR (w : World) (xs : List (List S45)) (W : World) : Prop := ∃ (v : Value) (cs : List Value), (W.heap[w.heap.size + 1]? = some (.cells #[v] 61 (0, 0)) ∧ v.ownBlock ≠ some (w.heap.size + 1)) ∧ W.ownsRow (w.heap.size + 2) 22 1 v cs.length cs ∧ Below w.heap.size w W ∧ cs.length = xs.length ∧ ∀ (j : Nat) (x : List S45), xs[j]? = some x → ∃ A cap, cs[j]? = some (.slice A x.length cap) ∧ CL W (okR w v) A x
def OwR (w : World) (X : World) (k : Nat) : Prop := ∃ v : Value, X.heap[w.heap.size + 1]? = some (.cells #[v] 61 (0, 0)) ∧ v.ownBlock = some k
theorem accR_own (w : World) (B : Nat) (hB : w.heap.size + 2 ≤ B) : OwnZ NoZ B (fun (xs : List (List S45)) W => AccR w xs W) := by
  rintro s X Y row ⟨v, cs, ⟨h1, h2⟩, h3, h4, h5, h6⟩ hg hr
  refine ⟨v, cs, ⟨cell_own h1 hg hr, h2⟩, h3.kept hg ?_, below_own h4 (by omega) hg hr, h5, fun j x hx => ?_⟩
  · cases hv : v.ownBlock with
    | none => exact .inl rfl
    | some g =>
      refine .inr (fun e => ?_)
      obtain ⟨_, _, cells, hcl⟩ := owns_typed h3 hv
      rcases hr g e.symm with h | ⟨_, o, ho, hoc⟩
      · exact h
      · rw [hcl] at ho; cases ho; cases hoc
  · obtain ⟨A, cap, e, hC⟩ := h6 j x hx
    exact ⟨A, cap, e, hC.step (fun p u hp hk => ⟨cells_own hg hr p u hp, hk⟩)⟩
theorem one_cell {X : World} {S : Nat} {v v' : Value} {t : TypeId} (h : X.heap[S]? = some (.cells #[v] t (0, 0))) (h' : X.heap[S]? = some (.cells #[v'] t (0, 0))) : v = v' := by
  rw [h] at h'
  injection h' with h; injection h with h; simpa using h
theorem accR_ownS {β : Type} (w : World) (B : Nat) (p : β → List (List S45)) : OwnS NoZ (OwR w) B (fun (s : β) W => AccR w (p s) W) := by
  refine ⟨?_, ?_⟩
  · rintro s X Y row ⟨v, cs, ⟨h1, h2⟩, h3, h4, _⟩ hg hr k ⟨v', hv', hk⟩
    exact ⟨v, h1, by rw [one_cell (cell_own h1 hg hr) hv']; exact hk⟩
  · rintro s X ⟨v, cs, ⟨h1, h2⟩, h3, h4, _⟩ k ⟨v', hv', hk⟩
    exact (owns_typed h3 (by rw [one_cell h1 hv']; exact hk)).2.1
theorem accR_at {W w1 : World} {S : Nat} {v u : Value} {t t' : TypeId} (h1 : W.heap[S]? = some (.cells #[v] t' (0, 0))) (h2 : v.ownBlock ≠ some S) (hg : (W.alloc (.cells #[u] t)).grownBy w1 v.ownBlock) :
    w1.heap[S]? = some (.cells #[v] t' (0, 0)) ∧ w1.cell? ⟨S, 0, none⟩ = some v ∧ w1.frozen? ⟨S, 0, none⟩ = false := by
  have h := blk_grown (blk_alloc h1 (.cells #[u] t)) hg (fun e => h2 e.symm)
  exact ⟨h, (blk_cell h 0).trans rfl, blk_frozen h 0⟩
theorem accR_step {w W W0 w1 : World} {B : Nat} {v : Value} {cs : List Value} {xs : List (List S45)} {x : List S45} {A5 : Option Addr} {c5 g cap : Nat} (hb0 : Below W0.heap.size W0 W) (h10 : W0.heap[w.heap.size + 1]? = some (.cells #[v] 61 (0, 0))) (h2 : v.ownBlock ≠ some (w.heap.size + 1)) (h30 : W0.ownsRow (w.heap.size + 2) 22 1 v cs.length cs) (h40 : Below w.heap.size w W0)
    (h5 : cs.length = xs.length) (h6 : ∀ (j : Nat) (x : List S45), xs[j]? = some x → ∃ A cap, cs[j]? = some (.slice A x.length cap) ∧ CL W0 (okR w v) A x)
    (hx : CL W (fun k => k < w.heap.size ∨ (W0.heap.size ≤ k ∧ k < W.heap.size)) A5 x)
    (hg : (W.alloc (.cells #[.slice A5 x.length c5] 22)).grownBy w1 v.ownBlock) (ho : w1.ownsRow (w.heap.size + 2) 22 1 (.slice (some ⟨g, 0, none⟩) (cs.length + 1) cap) (cs.length + 1) (cs ++ [.slice A5 x.length c5])) (hat : some g = v.ownBlock ∨ some g = some (W.alloc (.cells #[.slice A5 x.length c5] 22)).heap.size) (hB : w.heap.size + 2 ≤ B) :
    KO (OwR w) B W0 (w1.setCell ⟨w.heap.size + 1, 0, none⟩ (.slice (some ⟨g, 0, none⟩) (cs.length + 1) cap)) ∧ Below w.heap.size W0 (w1.setCell ⟨w.heap.size + 1, 0, none⟩ (.slice (some ⟨g, 0, none⟩) (cs.length + 1) cap)) ∧ AccR w (xs ++ [x]) (w1.setCell ⟨w.heap.size + 1, 0, none⟩ (.slice (some ⟨g, 0, none⟩) (cs.length + 1) cap)) := by
  have h1 := blk_below h10 hb0
  have h3 : W.ownsRow (w.heap.size + 2) 22 1 v cs.length cs := h30.kept (row := none) (gb_below hb0) (by cases hv : v.ownBlock with | none => exact .inl rfl | some g => exact .inr (by simp))
  have h4 := h40.trans (hb0.mono h40.size)
  have hlt0 : ∀ k, v.ownBlock = some k → k < W0.heap.size := fun k e => (owns_typed h30 e).2.1
  clear h30
  obtain ⟨S, hS⟩ : ∃ S, w.heap.size + 1 = S := ⟨_, rfl⟩
  have hS2 : w.heap.size + 2 = S + 1 := by omega
  have hok : ∀ k (v : Value), okR w v k = (k < w.heap.size ∨ (S + 1 ≤ k ∧ some k ≠ v.ownBlock)) := fun k v => by unfold okR; rw [hS2]
  unfold AccR OwR
  rw [hS2] at h3 ho hB
  rw [hS2]
  rw [hS] at h1 h10 h2 ⊢
  obtain ⟨X, hX⟩ : ∃ X, w1.setCell ⟨S, 0, none⟩ (.slice (some ⟨g, 0, none⟩) (cs.length + 1) cap) = X := ⟨_, rfl⟩
  have hsz : w1.heap.size = X.heap.size := by rw [← hX]; simp [World.setCell]
  have hsw : W.heap.size + 1 ≤ w1.heap.size := by have := hg.size; rw [World.size_alloc] at this; omega
  have hs0 := hb0.size
  have far : ∀ k, k ≠ S → X.heap[k]? = w1.heap[k]? := fun k hk => by rw [← hX]; exact Below.heap_setCell _ _ _ k hk
  have hv : ∀ k, v.ownBlock = some k → S + 1 ≤ k := fun k e => (owns_typed h3 e).1
  have old : ∀ k, k < W.heap.size → some k ≠ v.ownBlock → w1.heap[k]? = W.heap[k]? := fun k hk hne => (hg.block k (by rw [World.size_alloc]; omega) hne).trans (Below.heap_alloc _ _ _ hk)
  have hgS : g ≠ S := by have := (owns_typed ho (k := g) (by simp [Value.ownBlock])).1; omega
  have hbl : Below w.heap.size W X := ⟨by rw [← hX]; exact hg.os, by rw [← hX]; exact hg.tape, by rw [← hX]; exact hg.output, by omega, fun k hk => (far k (by omega)).trans (old k (by have := h4.size; omega) (fun e => by have := hv k e.symm; omega))⟩
  have hb1 := (accR_at h1 h2 hg).1
  have hXS : X.heap[S]? = some (.cells #[.slice (some ⟨g, 0, none⟩) (cs.length + 1) cap] 61 (0, 0)) := by rw [← hX]; exact blk_set hb1 0 _
  have hS0 := (Array.getElem?_eq_some_iff.1 h10).1
  have hw0 : w.heap.size ≤ W0.heap.size := by omega
  have hgat : some g = v.ownBlock ∨ g = W.heap.size + 1 := hat.imp id (fun h => by injection h with h; rw [World.size_alloc] at h; exact h)
  have same : ∀ k, k < W.heap.size → k ≠ S → some k ≠ v.ownBlock → X.heap[k]? = W.heap[k]? := fun k hk h1 h2 => (far k h1).trans (old k hk h2)
  rw [hX]
  refine ⟨⟨by omega, fun i o hi ho' hc => ?_, fun k hk => ?_⟩, (hb0.mono hw0).trans hbl, ⟨_, cs ++ [.slice A5 x.length c5], ⟨hXS, by simpa [Value.ownBlock] using hgS⟩, ?_, h4.trans hbl, by simp [h5], fun j y hj => ?_⟩⟩
  · have hil := (Array.getElem?_eq_some_iff.1 ho').1
    rw [far i (by omega), old i (by omega) (fun e => ?_)]
    · exact (hb0.block i hil).trans ho'
    · obtain ⟨_, _, cells, hcl⟩ := owns_typed h3 e.symm
      rw [hb0.block i hil, ho'] at hcl
      injection hcl with hcl
      exact hc (by rw [hcl]; rfl) ⟨v, h10, e.symm⟩
  · obtain ⟨v', hv', hk'⟩ := hk
    have hvv := one_cell hXS hv'
    rw [← hvv] at hk'
    have hgk : g = k := by simpa [Value.ownBlock] using hk'
    subst hgk
    rcases hgat with h | h
    · exact .inl ⟨v, h10, h.symm⟩
    · exact .inr (by omega)
  · rw [List.length_append, List.length_singleton]
    refine ho.kept (row := some S) ⟨by rw [← hX]; rfl, by rw [← hX]; rfl, by rw [← hX]; rfl, by omega, fun k _ hk => far k (fun e => hk (by rw [e]))⟩ (.inr (by simpa [Value.ownBlock] using hgS))
  · have hgv : (Value.slice (some ⟨g, 0, none⟩) (cs.length + 1) cap).ownBlock = some g := rfl
    rcases Nat.lt_or_ge j xs.length with hjl | hjl
    · rw [List.getElem?_append_left hjl] at hj
      obtain ⟨A, cp, e, hC⟩ := h6 j y hj
      refine ⟨A, cp, by rw [List.getElem?_append_left (by omega)]; exact e, hC.step (fun p u hp hk => ?_)⟩
      have hpl := World.block_lt_of_cell? _ _ hp
      rw [hok] at hk ⊢
      rw [hgv]
      have hne : some p.block ≠ v.ownBlock := fun e => by
        rcases hk with h | h
        · have := hv p.block e.symm; omega
        · exact h.2 e
      have hnS : p.block ≠ S := by omega
      have hp' : W.cell? p = some u := (World.cell?_of_block (hb0.block p.block hpl)).trans hp
      refine ⟨(World.cell?_of_block (same p.block (by omega) hnS hne)).trans hp', hk.imp id (fun h => ⟨h.1, fun e => ?_⟩)⟩
      injection e with e
      rcases hgat with h' | h'
      · exact hne (by rw [e, h'])
      · omega
    · rw [List.getElem?_append_right hjl] at hj
      have hj0 : j - xs.length = 0 := by
        rcases Nat.eq_zero_or_pos (j - xs.length) with h | h
        · exact h
        · rw [List.getElem?_eq_none (by simp; omega)] at hj; cases hj
      rw [hj0] at hj
      obtain rfl : x = y := by simpa using hj
      refine ⟨A5, c5, by rw [List.getElem?_append_right (by omega), show j - cs.length = 0 by omega]; rfl, hx.step (fun p u hp hk => ?_)⟩
      rw [hok, hgv]
      have hpl := World.block_lt_of_cell? _ _ hp
      have hne : some p.block ≠ v.ownBlock := fun e => by
        rcases hk with h | h
        · have := hv p.block e.symm; omega
        · have := hlt0 p.block e.symm; omega
      refine ⟨(World.cell?_of_block (same p.block hpl (by omega) hne)).trans hp, hk.imp id (fun h => ⟨by omega, fun e => ?_⟩)⟩
      injection e with e
      rcases hgat with h' | h'
      · exact hne (by rw [e, h'])
      · omega
theorem info22 : (Try.prog.info? 22).map (fun i => (i.zero, i.size, i.bytes)) = some (some (.slice none 0 0), 1, 24) := by kernel_rfl
theorem oper_append_at {F : Fence} {n : Nat} {P : Program} (w : World) {o : Oper} {a : Act} {K : Act → World → Prop} {Q : Exit → Act → World → Prop}
    (s x : Operand) (t : TypeId) (hop : o.op = Op.call { callee := Callee.builtin Builtin.append, args := #[s, x], argTypes := #[t, t] })
    (base : Nat) (e : TypeId) (i : TypeInfo) (z : Value) (size bytes : Nat) (h1 : P.underlying t = some (.slice e)) (h2 : P.info? e = some i) (h3 : i.zero = some z) (h4 : i.size = size) (h5 : i.bytes = bytes) (h6 : z.cells.size = size) (h7 : 0 < size)
    (v : Value) (k : Nat) (xs : List Value) (hs : a.eval s = v) (hown : w.ownsRow base e size v k xs) (ad : Addr) (m c : Nat) (news : List Value) (hx : a.eval x = .slice (some ad) m c) (hn : news.length = m * size)
    (hc : ∀ j u, news[j]? = some u → w.cell? (ad.add j) = some u) (h1c : ∀ u ∈ news, u.oneCell' = true) (b1 : k + m ≤ maxLen) (b2 : (k + m) * bytes ≤ 140737488355328) (b3 : base ≤ w.heap.size)
    (hK : ∀ v' w', w'.ownsRow base e size v' (k + m) (xs ++ news) → w.grownBy w' v.ownBlock → (v'.ownBlock = v.ownBlock ∨ v'.ownBlock = some w.heap.size) → K (a.put o.dst v') w') :
    Oper.wpIn F n P o a w K Q := by
  obtain ⟨v', w', hrun, r1, r2, r3, r4⟩ := run_append_own_at (P := P) w base t o.type e i z size bytes h1 h2 h3 h4 h5 h6 h7 v k xs hown ad m c news hn hc h1c b1 b2 b3
  unfold Oper.wpIn
  refine ⟨?_, ?_⟩
  · simp [Oper.about, hop, resolve, Target.leads, Sem.run_pure]
  · rw [Oper.semAt_plain F _ _ (by rw [hop]; intro c hc'; cases hc')]
    simp [execOp, hop, resolve, invoke, builtin, hs, hx, hrun, Result.andThen]
    exact hK _ _ r1 r2 r4
def rowsP (l : List S25) : List (List S45) := (othI 0 l).map fun i => toldP (l.getD i z25).f1
end Go.Proofs.Ytebmbfobmakheaa.PD
namespace Go.Proofs.Ytebmbfobmakheaa.PD
open Go.RowKit Go.Shelf Go.Proofs.YtebmbfobmakheaaW.PrintWords Go.Proofs.YtebmbfobmakheaaW.PrintLast Go.Proofs.YtebmbfobmakheaaW.PrintMore
attribute [local go_sem] isSome_setCell Oper.semAt_some wide_fn wide_depth
set_option linter.unusedVariables false
set_option linter.unusedSimpArgs false
theorem oth_len : ∀ (i : Nat) (l : List S25), (othI i l).length ≤ l.length
  | _, [] => Nat.le_refl _
  | i, x :: r => by
    unfold othI
    split
    · exact Nat.le_trans (oth_len (i + 1) r) (by simp)
    · simpa using oth_len (i + 1) r
def RowsC (W : World) (A : Option Addr) (n : Nat) (xs : List (List S45)) : Prop := xs.length ≤ 9223372036854775807 ∧ ∀ (j : Nat) (hj : j < xs.length), ∃ ad A2 c2, A = some ad ∧ W.cell? (ad.add j) = some (.slice A2 (xs[j]'hj).length c2) ∧ Kd.C k45 W A2 (xs[j]'hj).length (xs[j]'hj)
theorem RowsC.below {W W' : World} {A : Option Addr} {n : Nat} {xs : List (List S45)} (h : RowsC W A n xs) (hb : Below W.heap.size W W') : RowsC W' A n xs := ⟨h.1, fun j hj => by
  obtain ⟨ad, A2, c2, e, h1, h2⟩ := h.2 j hj
  exact ⟨ad, A2, c2, e, (hb.cell (World.block_lt_of_cell? W _ h1)).trans h1, Kd.C_below h2 hb⟩⟩
theorem acc_rows {w W : World} {xs : List (List S45)} {D : Nat} (o : Obj) (h : AccR w xs W) (hl : xs.length ≤ 9223372036854775807) (hD : W.heap[D]? = some (.deferred (some []))) (hDw : w.heap.size ≤ D) : ∃ A c, W.cell? ⟨w.heap.size + 1, 0, none⟩ = some (.slice A xs.length c) ∧ RowsC (W.putObj D o) A xs.length xs ∧ Below w.heap.size w W := by
  obtain ⟨v, cs, ⟨h1, h2⟩, h3, h4, h5, h6⟩ := h
  obtain ⟨A, c, ev⟩ : ∃ A c, v = .slice A xs.length c := by
    rcases h3.2 with ⟨rfl, h0⟩ | ⟨g, cap, cur, rfl, _⟩
    · exact ⟨none, 0, by rw [← h5, h0]⟩
    · exact ⟨_, cap, by rw [← h5]⟩
  refine ⟨A, c, by rw [← ev]; exact (blk_cell h1 0).trans rfl, ⟨hl, fun j hj => ?_⟩, h4⟩
  obtain ⟨A2, c2, e2, hC⟩ := h6 j _ (List.getElem?_eq_getElem hj)
  have hput : ∀ p u, W.cell? p = some u → (W.putObj D o).cell? p = some u := fun p u hp => by
    refine (World.cell?_of_block (World.putObj_heap_other (fun e => ?_))).trans hp
    unfold World.cell? at hp
    rw [e, hD] at hp
    cases hp
  rcases h3.2 with ⟨rfl, h0⟩ | ⟨g, cap, cur, hv, hb, hg, _⟩
  · omega
  · rw [hv] at ev
    injection ev with eA _ _
    refine ⟨⟨g, 0, none⟩, A2, c2, eA.symm, hput _ _ (h3.cells (g := g) (by rw [hv]; rfl) j _ e2), C45_cells hC.now hput⟩
theorem own_drew_below {W w5 : World} {v : Value} {cs : List Value} {b : Nat} (h : W.ownsRow b 22 1 v cs.length cs) (hb : Below W.drew.heap.size W.drew w5) : w5.ownsRow b 22 1 v cs.length cs :=
  (World.ownsRow.drew h).kept (row := none) (gb_below hb) (by cases hv : v.ownBlock with | none => exact .inl rfl | some g => exact .inr (by simp))
theorem rows_end {w W0 w5 w1 : World} {B : Nat} {v : Value} {cs : List Value} (l : List S25) (x : CC × Nat) (pre : List (CC × Nat)) (hpl : pre.length ≤ l.length) {m : List S45} {A5 : Option Addr} {c5 g cap : Nat} (hG : toldP (l.getD x.2 z25).f1 = m)
    (hn : Kd.N k45 45 w5 W0.drew.heap.size (fun k_ => k_ < w.heap.size ∨ W0.drew.heap.size ≤ k_) (.slice A5 m.length c5) m) (hb : Below W0.drew.heap.size W0.drew w5)
    (h1 : W0.heap[w.heap.size + 1]? = some (.cells #[v] 61 (0, 0))) (h2 : v.ownBlock ≠ some (w.heap.size + 1)) (h3 : W0.ownsRow (w.heap.size + 2) 22 1 v cs.length cs) (h4 : Below w.heap.size w W0)
    (h5 : cs.length = (pre.map fun p => toldP (l.getD p.2 z25).f1).length) (h6 : ∀ (j : Nat) (x : List S45), (pre.map fun p => toldP (l.getD p.2 z25).f1)[j]? = some x → ∃ A cap, cs[j]? = some (.slice A x.length cap) ∧ CL W0 (okR w v) A x)
    (hg : (w5.alloc (.cells #[.slice A5 m.length c5] 22)).grownBy w1 v.ownBlock) (ho : w1.ownsRow (w.heap.size + 2) 22 1 (.slice (some ⟨g, 0, none⟩) (cs.length + 1) cap) (cs.length + 1) (cs ++ [.slice A5 m.length c5])) (hat : some g = v.ownBlock ∨ some g = some (w5.alloc (.cells #[.slice A5 m.length c5] 22)).heap.size) (hB : w.heap.size + 2 ≤ B) :
    KO (OwR w) B W0 (w1.setCell ⟨w.heap.size + 1, 0, none⟩ (.slice (some ⟨g, 0, none⟩) (cs.length + 1) cap)) ∧ Below w.heap.size W0 (w1.setCell ⟨w.heap.size + 1, 0, none⟩ (.slice (some ⟨g, 0, none⟩) (cs.length + 1) cap)) ∧ SameZ NoZ W0 (w1.setCell ⟨w.heap.size + 1, 0, none⟩ (.slice (some ⟨g, 0, none⟩) (cs.length + 1) cap)) ∧ AccR w ((pre ++ [x]).map fun p => toldP (l.getD p.2 z25).f1) (w1.setCell ⟨w.heap.size + 1, 0, none⟩ (.slice (some ⟨g, 0, none⟩) (cs.length + 1) cap)) := by
  have hb0 : Below W0.heap.size W0 w5 := (below_drew (Below.refl W0.heap.size W0)).trans hb
  have hcl : CL w5 (fun k => k < w.heap.size ∨ (W0.heap.size ≤ k ∧ k < w5.heap.size)) A5 m := CL_of_F (Kd.N_F (Kd.N_mono (Kd.N_bound hn) (fun k hk => hk.1.imp id (fun h => ⟨h, hk.2⟩))))
  obtain ⟨k1, k2, k3⟩ := accR_step hb0 h1 h2 h3 h4 h5 h6 hcl hg ho hat hB
  exact ⟨k1, k2, fun _ h => h.elim, by rw [List.map_append, List.map_cons, List.map_nil, hG]; exact k3⟩
set_option maxRecDepth 100000 in
set_option maxHeartbeats 8000000 in
theorem rows_walk (nm : ByteArray) (A1 : Option Addr) (n1 c1 : Nat) (A : Option Addr) (c : Nat) (l : List S25) (w : World) (hr : Kd.C k25 w A l.length l) (hlim : ∀ x ∈ l, x.f1.length < 2513169434917) (hlt : ∀ x ∈ l, (toldP x.f1).length < 2513169434916) (hll : l.length ≤ 1000000000) :
    Calls Try.prog 51 #[.agg #[.string nm, .slice A1 n1 c1, .slice A l.length c]] w fun e w' => ∃ A' c', e = .returned (.slice A' (rowsP l).length c') ∧ RowsC w' A' (rowsP l).length (rowsP l) ∧ Below w.heap.size w w' := by
  obtain ⟨L, hLl, hOk, hRd⟩ := cc_of hr
  have HOK := Aside0.mk hOk
  have HRD := Aside0.mk hRd
  have hmap := oth_map L l 0 hLl (fun j hi hj => (hOk j hi hj).1)
  have HMAP := Aside0.mk hmap
  have HLIM := Aside0.mk hlim
  have HLT := Aside0.mk hlt
  clear hr hOk hRd hmap hlim hlt
  have HV : Aside0 (AccR w [] ((w.alloc (.cells #[.string nm, .slice A1 n1 c1, .slice A l.length c] 25)).alloc (.cells #[.slice none 0 0] 61))) := ⟨.slice none 0 0, [], ⟨by
      have := heap_alloc_new (w.alloc (.cells #[.string nm, .slice A1 n1 c1, .slice A l.length c] 25)) (.cells #[.slice none 0 0] 61)
      rw [World.size_alloc] at this
      exact this, by simp [Value.ownBlock]⟩, World.ownsRow_nil _ _ _ _, below_alloc (below_alloc (Below.refl _ _) _) _, rfl, fun j x h => by simp at h⟩
  refine (callsIn_wide (n := 51)).1 ?_
  refine callsIn_of_wp_marks Try.func51 rfl trivial ?_ rfl
  simp only [Try.ntmps51, List.size_toArray, List.length_cons, List.length_nil, Nat.reduceAdd, Nat.reduceSub, Array.replicate_succ, Array.replicate_zero, List.push_toArray, List.append_toArray, List.nil_append, List.cons_append]
  gi_wp2
  gi_at_call 41
  refine (callsIn_wide.2 (comps_made nm A1 n1 c1 A l.length c _)).mono ?_
  rintro e w4 ⟨rfl, rfl⟩
  gi_wp2
  obtain ⟨V, hVe⟩ : ∃ V, ((w.alloc (.cells #[.string nm, .slice A1 n1 c1, .slice A l.length c] 25)).alloc (.cells #[.slice none 0 0] 61)).alloc (.cells #[.string nm, .slice A1 n1 c1, .slice A l.length c] 25) = V := ⟨_, rfl⟩
  have hz : V.heap.size = w.heap.size + 3 := by rw [← hVe]; simp
  have q1 : V.heap[w.heap.size + 1 + 1]? = some (.cells #[.string nm, .slice A1 n1 c1, .slice A L.length c] 25 (0, 0)) := by
    have := heap_alloc_new ((w.alloc (.cells #[.string nm, .slice A1 n1 c1, .slice A l.length c] 25)).alloc (.cells #[.slice none 0 0] 61)) (.cells #[.string nm, .slice A1 n1 c1, .slice A l.length c] 25)
    rw [World.size_alloc, World.size_alloc, hVe] at this
    rw [hLl]
    exact this
  have HOG := Aside0.mk (show AccR w [] V from by
    obtain ⟨v, cs, ⟨a1, a2⟩, a3, a4, a5, a6⟩ := HV.out
    rw [← hVe]
    exact ⟨v, cs, ⟨blk_alloc a1 _, a2⟩, a3.alloc _, below_alloc a4 _, a5, fun j x h => by simp at h⟩)
  rw [hVe]
  clear hVe HV
  have hLm : L.length ≤ 9223372036854775807 := by omega
  refine range_z (n₀ := w.heap.size) (Z := NoZ) (gf := 79) (lb := #[.pointer (some ⟨w.heap.size + 1 + 1, 0, none⟩)]) (En := fun x ar _ => ar = encC x) (xs := othersF 0 L) (Rd := fun pre W => RdAt A L (nextI pre) W) (Own := OwR w) rfl (enters_of Try.func79 (by kernel_rfl) rfl) (by omega) (fun b hb => hb.elim)
    (fun l' J Jx W hW hJ hJx hRd _ _ hY h0 => (callsIn_wide (n := 51)).1 (comps_in A c L hLm nm A1 n1 c1 l' (w.heap.size + 1 + 1) w.heap.size J Jx W hJ hRd (fun pre x W1 h1 h2 => hY pre x _ W1 h1 h2 rfl) ((hW.block (w.heap.size + 1 + 1) (by omega)).trans q1) h0)) (fun x ar _ e => by rw [e]; rfl)
    (fun pre W => AccR w (pre.map fun p => toldP (l.getD p.2 z25).f1) W)
    (fun pre W h => by obtain ⟨_, _, _, _, h, _⟩ := h; exact HRD.out.below h (Nat.zero_le _))
    (fun cd pre W => False)
    (fun s X Y row hs hg hr => accR_own w V.heap.size (by omega) (s.map fun p => toldP (l.getD p.2 z25).f1) X Y row hs hg hr) (fun cd => fun s X Y row h hg hr => h) (accR_ownS w _ (fun pre : List (CC × Nat) => pre.map fun p => toldP (l.getD p.2 z25).f1)) (fun cd => ⟨fun _ _ _ _ h => h.elim, fun _ _ h => h.elim⟩) HOG.out
    (fun x a' W => ∃ G, w.heap.size + 3 ≤ G ∧ a' = { tmps := #[.agg #[.string nm, .slice A1 n1 c1, .slice A l.length c], .pointer (some ⟨w.heap.size, 0, none⟩), .slice none 0 0, .pointer (some ⟨w.heap.size + 1, 0, none⟩), undef, .pointer (some ⟨G, 0, none⟩), .agg #[.string nm, .slice A1 n1 c1, .slice A l.length c], .func (.func 79) #[] #[.pointer (some ⟨w.heap.size + 1 + 1, 0, none⟩)], .int .i64 x.2, x.1.enc, undef, undef, undef, undef, undef, undef], defers := [] } ∧ W.heap[G]? = some (.cells x.1.cells 25 (0, 0)))
    (fun x a' _ X Y row h hg hr => by
      obtain ⟨G, hG, e, hb⟩ := h
      exact ⟨G, hG, e, cell_own hb hg hr⟩) ?assign ?body ?done ?stop
  case assign =>
    rintro l' pre x ar W K hI hpx rfl hW hK
    gi_wp2
    have hb : Below W.heap.size W (W.alloc (.cells x.1.cells 25)) := below_alloc (Below.refl _ _) _
    have hst := (accR_ownS w V.heap.size (fun pre : List (CC × Nat) => pre.map fun p => toldP (l.getD p.2 z25).f1)).below (s := pre) hI hb
    refine hK _ _ ((kf_below hb).koS hst) (hb.mono (by obtain ⟨_, _, _, _, h, _⟩ := hI; exact h.size)) (fun _ h => h.elim) ((accR_own w V.heap.size (by omega)).below hI hb) ⟨W.heap.size, by omega, by simp, heap_alloc_new W _⟩
  case body =>
    rintro l' pre x a' W ⟨v, cs, ⟨h1, h2⟩, h3, h4, h5, h6⟩ hpx hWs ⟨G, hG, rfl, hb⟩
    obtain ⟨hxi, hxe⟩ := oth_at (p := x) (hpx.subset (List.mem_append_right _ List.mem_cons_self))
    have hxl : x.2 < l.length := by omega
    have hok := HOK.out x.2 hxi hxl
    rw [hxe] at hok
    obtain ⟨hk1, hk2, hk3, hk4, hk5, hk6, _⟩ := hok
    rw [hk2] at hk3
    have hgd : l.getD x.2 z25 = l[x.2] := by simp [hxl]
    have HG := Aside0.mk hgd
    have hpl : pre.length ≤ l.length := by
      have q1 := hpx.length_le
      have q2 := congrArg List.length HMAP.out
      have q3 : (othI 0 l).length ≤ l.length := oth_len 0 l
      rw [List.length_map] at q2
      rw [List.length_append, List.length_singleton] at q1
      omega
    obtain ⟨hts, hls⟩ := And.intro (HLT.out l[x.2] (List.getElem_mem hxl)) (HLIM.out l[x.2] (List.getElem_mem hxl))
    have HVp := Aside0.mk (show Kd.V k45 45 W.drew W.heap.size (fun k_ => k_ < w.heap.size) (.slice x.1.a1 l[x.2].f1.length x.1.c1) l[x.2].f1 from Kd.V_drew (Kd.V_mk hk3 (Foot.step (Kd.C_F k45_heap hk4) (fun k hk _ => h4.block k hk))))
    have HTC := Aside0.mk (told_walk x.1.s (fun k_ => k_ < w.heap.size) x.1.a1 x.1.c1 l[x.2].f1 x.1.a2 l[x.2].f2.length x.1.c2 W.drew HVp.out hls hts)
    have H1 := Aside0.mk h1
    have H2 := Aside0.mk h2
    have H3 := Aside0.mk h3
    have H4 := Aside0.mk h4
    have H5 := Aside0.mk h5
    have H6 := Aside0.mk h6
    have cS : W.drew.cell? ⟨w.heap.size + 1, 0, none⟩ = some v := (blk_cell h1 0).trans rfl
    have g0 : W.drew.cell? ⟨G, 0, none⟩ = some (.string x.1.s) := (blk_cell hb 0).trans rfl
    have g1 : W.drew.cell? ⟨G, 1, none⟩ = some (.slice x.1.a1 x.1.n1 x.1.c1) := (blk_cell hb 1).trans rfl
    have g2 : W.drew.cell? ⟨G, 2, none⟩ = some (.slice x.1.a2 x.1.n2 x.1.c2) := (blk_cell hb 2).trans rfl
    rw [hk2] at g1
    rw [hk5] at g2
    rw [List.length_map] at h5
    have hcl : cs.length ≤ 1000000000 := by omega
    clear h5
    obtain ⟨m, hm⟩ : ∃ m, toldP l[x.2].f1 = m := ⟨_, rfl⟩
    have HM := Aside0.mk (show toldP (l.getD x.2 z25).f1 = m by rw [hgd]; exact hm)
    rw [hm] at HTC
    clear h1 h2 h3 h4 hk1 hk2 hk3 hk4 hk5 hk6 hxe h6 hb hgd hpx hm hts hls HG
    gi_wp2
    obtain ⟨i0, hi, hzz⟩ := Option.map_eq_some_iff.1 info22
    simp only [Prod.mk.injEq] at hzz
    obtain ⟨hz0, hz1, hz2⟩ := hzz
    refine wpIn_region_any (by kernel_rfl) ?_
    change wpAnyIn _ _ _ _ _ _ _ _ _ (World.drew _)
    refine wpAnyIn_ready (rs := [0, 1]) (by kernel_rfl) (by simp) (AllReadyIn.cons rfl (fun K hK => ?_) (AllReadyIn.cons rfl (fun K hK => ?_) AllReadyIn.nil))
    · go_simp
      refine hK _ _ ?_
      clear hK K
      refine wpAnyIn_ready (rs := [1]) (by kernel_rfl) (by simp) (AllReadyIn.cons rfl (fun K hK => ?_) AllReadyIn.nil)
      go_simp
      refine hK _ _ ?_
      clear hK K
      refine wpAnyIn_ready (rs := [2]) (by kernel_rfl) (by simp) (AllReadyIn.cons rfl (fun K hK => ?_) AllReadyIn.nil)
      go_simp
      (refine (CallsIn.inRound l' (callsIn_wide.2 HTC.out)).mono ?_; rintro e w5 ⟨v5, rfl, hn5, hb5⟩; obtain ⟨A5, c5, e5⟩ := Kd.N_slice hn5; subst e5; have HN5 := Aside0.mk hn5; have HB5 := Aside0.mk hb5; have cS5 : w5.cell? ⟨w.heap.size + 1, 0, none⟩ = some v := (blk_cell (blk_below (w := W.drew) H1.out hb5) 0).trans rfl; clear hn5 hb5)
      refine hK _ _ ?_
      clear hK K
      refine wpAnyIn_ready (rs := [3]) (by kernel_rfl) (by simp) (AllReadyIn.cons rfl (fun K hK => ?_) AllReadyIn.nil)
      go_simp
      refine hK _ _ ?_
      clear hK K
      refine wpAnyIn_ready (rs := [4]) (by kernel_rfl) (by simp) (AllReadyIn.cons rfl (fun K hK => ?_) AllReadyIn.nil)
      try rw [if_pos (by rfl)]
      refine oper_append_at _ _ _ 61 rfl (w.heap.size + 2) 22 i0 (.slice none 0 0) 1 24 Try.underlying61 hi hz0 hz1 hz2 rfl (by decide) v cs.length cs rfl ((own_drew_below H3.out HB5.out).alloc _) ⟨w5.heap.size, 0, none⟩ 1 1 [.slice A5 m.length c5] rfl rfl (cell_one_new _ _ _) (by simp [Value.oneCell']) (by unfold maxLen; omega) (by omega) (by have := HB5.out.size; have hdr : W.drew.heap.size = W.heap.size := rfl; rw [World.size_alloc]; omega) ?_
      intro v' w1 hown hgrow hat
      obtain ⟨g', cap', rfl⟩ := own_succ hown
      obtain ⟨HS1, hc1, hf1⟩ := accR_at (blk_below (w := W.drew) H1.out HB5.out) H2.out hgrow
      have HO := Aside0.mk hown
      have HGR := Aside0.mk hgrow
      have HAT := Aside0.mk hat
      clear hown hgrow hat
      refine hK _ _ ?_
      clear hK K
      refine wpAnyIn_ready (rs := [5]) (by kernel_rfl) (by simp) (AllReadyIn.cons rfl (fun K hK => ?_) AllReadyIn.nil)
      go_simp
      refine hK _ _ ?_
      clear hK K
      refine wpAnyIn_done (by kernel_rfl) ?_ _
      gi_wp2
      exact rows_end (B := V.heap.size) l x pre hpl HM.out HN5.out HB5.out H1.out H2.out H3.out H4.out H5.out H6.out HGR.out HO.out HAT.out (by omega)
    · go_simp
      refine hK _ _ ?_
      clear hK K
      refine wpAnyIn_ready (rs := [0, 2]) (by kernel_rfl) (by simp) (AllReadyIn.cons rfl (fun K hK => ?_) (AllReadyIn.cons rfl (fun K hK => ?_) AllReadyIn.nil))
      · go_simp
        refine hK _ _ ?_
        clear hK K
        refine wpAnyIn_ready (rs := [2]) (by kernel_rfl) (by simp) (AllReadyIn.cons rfl (fun K hK => ?_) AllReadyIn.nil)
        go_simp
        (refine (CallsIn.inRound l' (callsIn_wide.2 HTC.out)).mono ?_; rintro e w5 ⟨v5, rfl, hn5, hb5⟩; obtain ⟨A5, c5, e5⟩ := Kd.N_slice hn5; subst e5; have HN5 := Aside0.mk hn5; have HB5 := Aside0.mk hb5; have cS5 : w5.cell? ⟨w.heap.size + 1, 0, none⟩ = some v := (blk_cell (blk_below (w := W.drew) H1.out hb5) 0).trans rfl; clear hn5 hb5)
        refine hK _ _ ?_
        clear hK K
        refine wpAnyIn_ready (rs := [3]) (by kernel_rfl) (by simp) (AllReadyIn.cons rfl (fun K hK => ?_) AllReadyIn.nil)
        go_simp
        refine hK _ _ ?_
        clear hK K
        refine wpAnyIn_ready (rs := [4]) (by kernel_rfl) (by simp) (AllReadyIn.cons rfl (fun K hK => ?_) AllReadyIn.nil)
        try rw [if_pos (by rfl)]
        refine oper_append_at _ _ _ 61 rfl (w.heap.size + 2) 22 i0 (.slice none 0 0) 1 24 Try.underlying61 hi hz0 hz1 hz2 rfl (by decide) v cs.length cs rfl ((own_drew_below H3.out HB5.out).alloc _) ⟨w5.heap.size, 0, none⟩ 1 1 [.slice A5 m.length c5] rfl rfl (cell_one_new _ _ _) (by simp [Value.oneCell']) (by unfold maxLen; omega) (by omega) (by have := HB5.out.size; have hdr : W.drew.heap.size = W.heap.size := rfl; rw [World.size_alloc]; omega) ?_
        intro v' w1 hown hgrow hat
        obtain ⟨g', cap', rfl⟩ := own_succ hown
        obtain ⟨HS1, hc1, hf1⟩ := accR_at (blk_below (w := W.drew) H1.out HB5.out) H2.out hgrow
        have HO := Aside0.mk hown
        have HGR := Aside0.mk hgrow
        have HAT := Aside0.mk hat
        clear hown hgrow hat
        refine hK _ _ ?_
        clear hK K
        refine wpAnyIn_ready (rs := [5]) (by kernel_rfl) (by simp) (AllReadyIn.cons rfl (fun K hK => ?_) AllReadyIn.nil)
        go_simp
        refine hK _ _ ?_
        clear hK K
        refine wpAnyIn_done (by kernel_rfl) ?_ _
        gi_wp2
        exact rows_end (B := V.heap.size) l x pre hpl HM.out HN5.out HB5.out H1.out H2.out H3.out H4.out H5.out H6.out HGR.out HO.out HAT.out (by omega)
      · go_simp
        (refine (CallsIn.inRound l' (callsIn_wide.2 HTC.out)).mono ?_; rintro e w5 ⟨v5, rfl, hn5, hb5⟩; obtain ⟨A5, c5, e5⟩ := Kd.N_slice hn5; subst e5; have HN5 := Aside0.mk hn5; have HB5 := Aside0.mk hb5; have cS5 : w5.cell? ⟨w.heap.size + 1, 0, none⟩ = some v := (blk_cell (blk_below (w := W.drew) H1.out hb5) 0).trans rfl; clear hn5 hb5)
        refine hK _ _ ?_
        clear hK K
        refine wpAnyIn_ready (rs := [0, 3]) (by kernel_rfl) (by simp) (AllReadyIn.cons rfl (fun K hK => ?_) (AllReadyIn.cons rfl (fun K hK => ?_) AllReadyIn.nil))
        · go_simp
          refine hK _ _ ?_
          clear hK K
          refine wpAnyIn_ready (rs := [3]) (by kernel_rfl) (by simp) (AllReadyIn.cons rfl (fun K hK => ?_) AllReadyIn.nil)
          go_simp
          refine hK _ _ ?_
          clear hK K
          refine wpAnyIn_ready (rs := [4]) (by kernel_rfl) (by simp) (AllReadyIn.cons rfl (fun K hK => ?_) AllReadyIn.nil)
          try rw [if_pos (by rfl)]
          refine oper_append_at _ _ _ 61 rfl (w.heap.size + 2) 22 i0 (.slice none 0 0) 1 24 Try.underlying61 hi hz0 hz1 hz2 rfl (by decide) v cs.length cs rfl ((own_drew_below H3.out HB5.out).alloc _) ⟨w5.heap.size, 0, none⟩ 1 1 [.slice A5 m.length c5] rfl rfl (cell_one_new _ _ _) (by simp [Value.oneCell']) (by unfold maxLen; omega) (by omega) (by have := HB5.out.size; have hdr : W.drew.heap.size = W.heap.size := rfl; rw [World.size_alloc]; omega) ?_
          intro v' w1 hown hgrow hat
          obtain ⟨g', cap', rfl⟩ := own_succ hown
          obtain ⟨HS1, hc1, hf1⟩ := accR_at (blk_below (w := W.drew) H1.out HB5.out) H2.out hgrow
          have HO := Aside0.mk hown
          have HGR := Aside0.mk hgrow
          have HAT := Aside0.mk hat
          clear hown hgrow hat
          refine hK _ _ ?_
          clear hK K
          refine wpAnyIn_ready (rs := [5]) (by kernel_rfl) (by simp) (AllReadyIn.cons rfl (fun K hK => ?_) AllReadyIn.nil)
          go_simp
          refine hK _ _ ?_
          clear hK K
          refine wpAnyIn_done (by kernel_rfl) ?_ _
          gi_wp2
          exact rows_end (B := V.heap.size) l x pre hpl HM.out HN5.out HB5.out H1.out H2.out H3.out H4.out H5.out H6.out HGR.out HO.out HAT.out (by omega)
        · go_simp
          refine hK _ _ ?_
          clear hK K
          have cS6 : (w5.alloc (.cells #[.slice A5 m.length c5] 22)).cell? ⟨w.heap.size + 1, 0, none⟩ = some v := (blk_cell (blk_alloc (blk_below (w := W.drew) H1.out HB5.out) _) 0).trans rfl
          refine wpAnyIn_ready (rs := [0]) (by kernel_rfl) (by simp) (AllReadyIn.cons rfl (fun K hK => ?_) AllReadyIn.nil)
          go_simp
          refine hK _ _ ?_
          clear hK K
          refine wpAnyIn_ready (rs := [4]) (by kernel_rfl) (by simp) (AllReadyIn.cons rfl (fun K hK => ?_) AllReadyIn.nil)
          try rw [if_pos (by rfl)]
          refine oper_append_at _ _ _ 61 rfl (w.heap.size + 2) 22 i0 (.slice none 0 0) 1 24 Try.underlying61 hi hz0 hz1 hz2 rfl (by decide) v cs.length cs rfl ((own_drew_below H3.out HB5.out).alloc _) ⟨w5.heap.size, 0, none⟩ 1 1 [.slice A5 m.length c5] rfl rfl (cell_one_new _ _ _) (by simp [Value.oneCell']) (by unfold maxLen; omega) (by omega) (by have := HB5.out.size; have hdr : W.drew.heap.size = W.heap.size := rfl; rw [World.size_alloc]; omega) ?_
          intro v' w1 hown hgrow hat
          obtain ⟨g', cap', rfl⟩ := own_succ hown
          obtain ⟨HS1, hc1, hf1⟩ := accR_at (blk_below (w := W.drew) H1.out HB5.out) H2.out hgrow
          have HO := Aside0.mk hown
          have HGR := Aside0.mk hgrow
          have HAT := Aside0.mk hat
          clear hown hgrow hat
          refine hK _ _ ?_
          clear hK K
          refine wpAnyIn_ready (rs := [5]) (by kernel_rfl) (by simp) (AllReadyIn.cons rfl (fun K hK => ?_) AllReadyIn.nil)
          go_simp
          refine hK _ _ ?_
          clear hK K
          refine wpAnyIn_done (by kernel_rfl) ?_ _
          gi_wp2
          exact rows_end (B := V.heap.size) l x pre hpl HM.out HN5.out HB5.out H1.out H2.out H3.out H4.out H5.out H6.out HGR.out HO.out HAT.out (by omega)
  case done =>
    rintro D2 W hD2 hI hK
    have hrl : (rowsP l).length ≤ 9223372036854775807 := by
      have := oth_len 0 l
      unfold rowsP
      rw [List.length_map]
      omega
    have hRe : (othersF 0 L).map (fun p => toldP (l.getD p.2 z25).f1) = rowsP l := by
      unfold rowsP
      rw [← HMAP.out, List.map_map]
      rfl
    rw [hRe] at hI
    obtain ⟨A', c', e1, e2, e3⟩ := acc_rows (.deferred none) hI hrl hK (by omega)
    have E2 := Aside0.mk e2
    have E3 := Aside0.mk e3
    clear hI hRe e2 e3
    gi_wp2
    refine ⟨by simp, .inl ⟨_, _, rfl, run_takeDeferred hK, ?_⟩⟩
    refine ⟨_, results_tmp rfl _ _ _, A', c', rfl, E2.out, E3.out.trans (below_put _ (by omega))⟩
  case stop =>
    rintro D2 cd pre W hD2 hpre h hK
    exact h.elim
end Go.Proofs.Ytebmbfobmakheaa.PD
namespace Go.Proofs.Ytebmbfobmakheaa.PD
open Go.RowKit Go.Shelf Go.Proofs.YtebmbfobmakheaaW.PrintWords Go.Proofs.YtebmbfobmakheaaW.PrintLast Go.Proofs.YtebmbfobmakheaaW.PrintMore
attribute [local go_sem] isSome_setCell Oper.semAt_some wide_fn wide_depth
set_option linter.unusedVariables false
set_option linter.unusedSimpArgs false
set_option maxRecDepth 100000 in
set_option maxHeartbeats 4000000 in
theorem eqF22 (A0 : Option Addr) (c0 : Nat) (l : List (List S45)) (A1 : Option Addr) (c1 : Nat) (m : List (List S45)) (w : World) (hr0 : RowsC w A0 l.length l) (hr1 : RowsC w A1 m.length m) :
    Calls Try.prog 53 #[.slice A0 l.length c0, .slice A1 m.length c1, .func (.func 54) #[] #[]] w fun e w' => e = .returned (.bool (eqL (eqL sameP) l m)) ∧ Below w.heap.size w w' := by
  have HR0 := Aside0.mk hr0
  have HR1 := Aside0.mk hr1
  have hml : l.length ≤ 9223372036854775807 := hr0.1
  have hmm : m.length ≤ 9223372036854775807 := hr1.1
  have HB := Aside0.mk (Below.refl w.heap.size w)
  clear hr0 hr1
  refine (callsIn_wide (n := 51)).1 ?_
  refine callsIn_of_wp Try.func53 rfl trivial ?_ rfl
  simp only [Try.ntmps53, List.size_toArray, List.length_cons, List.length_nil, Nat.reduceAdd, Nat.reduceSub, Array.replicate_succ, Array.replicate_zero, List.push_toArray, List.append_toArray, List.nil_append, List.cons_append]
  by_cases hlen : l.length = m.length
  · have e1 : ((l.length : Int) == (m.length : Int)) = true := beq_iff_eq.2 (by omega)
    have e2 : ((l.length : Int) != (m.length : Int)) = false := by simp [hlen]
    have e3 : ((l.length : Int) = (m.length : Int)) = True := eq_true (by omega)
    have HL := Aside0.mk hlen
    have hl1 : ∀ j, j < l.length → j < m.length := fun j h => by omega
    have HL1 := Aside0.mk hl1
    clear hlen hl1
    gi_wp2
    gi_loopw [17] (fun v wr => ∃ k : Nat, v = .int .i64 k ∧ k ≤ l.length ∧ Aside0 (∀ j, (hj : j < l.length) → j < k → eqL sameP l[j] (m[j]'(HL1.out j hj)) = true) ∧ Aside0 (Below w.heap.size w wr)) (fun v _ => l.length - (intOf v).toNat)
    case atStart => exact ⟨0, rfl, Nat.zero_le _, ⟨fun j _ hj => absurd hj (Nat.not_lt_zero _)⟩, HB⟩
    case round =>
      obtain ⟨k, rfl, hk, hyes, hb⟩ := hrel
      by_cases hlt : k < l.length
      · have hlt0 : decide ((k : Int) < (l.length : Int)) = true := decide_eq_true (by omega)
        have hltm : k < m.length := HL1.out k hlt
        have q1 : ((k : Int) < (m.length : Int)) = True := eq_true (by omega)
        obtain ⟨ad, A2, c2, e, hx0, h3x⟩ := HR0.out.2 k hlt
        obtain ⟨ad', A3, c3, e', hy0, h3y⟩ := HR1.out.2 k hltm
        subst e
        subst e'
        replace hx0 := (hb.out.cell (World.block_lt_of_cell? w _ hx0)).trans hx0
        replace hy0 := (hb.out.cell (World.block_lt_of_cell? w _ hy0)).trans hy0
        obtain ⟨x, hx⟩ : ∃ x, l[k] = x := ⟨_, rfl⟩
        obtain ⟨y, hy⟩ : ∃ y, m[k] = y := ⟨_, rfl⟩
        rw [hx] at hx0 h3x
        rw [hy] at hy0 h3y
        have HX := Aside0.mk hx
        have HY := Aside0.mk hy
        have HC := Aside0.mk (sig2_walk A2 c2 x A3 c3 y wr (Kd.C_below h3x hb.out) (Kd.C_below h3y hb.out))
        clear hx hy h3x h3y
        gi_wp2
        gi_at_call 54
        refine (callsIn_wide.2 HC.out).mono ?_
        rintro e W' ⟨rfl, hb'⟩
        have HB' := Aside0.mk (hb.out.trans (hb'.mono hb.out.size))
        clear hb'
        cases hpk : eqL sameP x y with
        | true =>
          have HPK := Aside0.mk hpk
          clear hpk
          gi_wp2
          go_roundw
          case rel =>
            refine ⟨k + 1, by simp, hlt, ⟨fun j hj hjk => ?_⟩, HB'⟩
            rcases Nat.lt_or_ge j k with h | h
            · exact hyes.out j hj h
            · obtain rfl : j = k := by omega
              rw [HX.out, HY.out]
              exact HPK.out
          case measure =>
            show l.length - ((k : Int) + 1).toNat < l.length - (k : Int).toNat
            omega
        | false =>
          have HPK := Aside0.mk hpk
          clear hpk
          gi_wp2
          go_ret
          refine ⟨?_, HB'.out⟩
          rw [eqL_false (eqL sameP) l m HL.out k hlt (by rw [HX.out, HY.out]; exact HPK.out)]
          rfl
      · have hlt0 : decide ((k : Int) < (l.length : Int)) = false := decide_eq_false (by omega)
        gi_wp2
        go_ret
        refine ⟨?_, hb.out⟩
        rw [eqL_true (eqL sameP) l m HL.out (fun j hj => hyes.out j hj (by omega))]
        rfl
  · have e1 : ((l.length : Int) == (m.length : Int)) = false := beq_eq_false_iff_ne.2 (by omega)
    have e2 : ((l.length : Int) != (m.length : Int)) = true := bne_iff_ne.2 (by omega)
    have e3 : ((l.length : Int) = (m.length : Int)) = False := eq_false (by omega)
    gi_wp2
    go_ret
    refine ⟨?_, HB.out⟩
    rw [show eqL (eqL sameP) l m = false by unfold eqL; rw [decide_eq_false hlen]; rfl]
    rfl
def significantP (l m : List S25) : Bool := !(eqL (eqL sameP) (rowsP l) (rowsP m))
def okT (l : List S25) : Bool := (l.all fun x => decide (x.f1.length < 2513169434917) && decide ((toldP x.f1).length < 2513169434916)) && decide (l.length ≤ 1000000000)
theorem okT_iff {l : List S25} (h : okT l = true) : (∀ x ∈ l, x.f1.length < 2513169434917) ∧ (∀ x ∈ l, (toldP x.f1).length < 2513169434916) ∧ l.length ≤ 1000000000 := by
  unfold okT at h
  simp only [Bool.and_eq_true, decide_eq_true_eq, List.all_eq_true] at h
  exact ⟨fun x hx => (h.1 x hx).1, fun x hx => (h.1 x hx).2, h.2⟩
set_option maxRecDepth 100000 in
set_option maxHeartbeats 8000000 in
theorem significant_walk (n0 : ByteArray) (A0 : Option Addr) (m0 c0 : Nat) (A : Option Addr) (c : Nat) (l : List S25) (n1 : ByteArray) (A1 : Option Addr) (m1 c1 : Nat) (B : Option Addr) (d : Nat) (m : List S25) (w : World) (hl : Kd.C k25 w A l.length l) (hm : Kd.C k25 w B m.length m) (okl : okT l = true) (okm : okT m = true) :
    Calls Try.prog 17 #[.agg #[.string n0, .slice A0 m0 c0, .slice A l.length c], .agg #[.string n1, .slice A1 m1 c1, .slice B m.length d]] w fun e w' => e = .returned (.bool (significantP l m)) ∧ Below w.heap.size w w' := by
  obtain ⟨W0, hW0⟩ : ∃ W0, (w.alloc (.cells #[.string n0, .slice A0 m0 c0, .slice A l.length c] 25)).alloc (.cells #[.string n1, .slice A1 m1 c1, .slice B m.length d] 25) = W0 := ⟨_, rfl⟩
  have hb0 : Below w.heap.size w W0 := by rw [← hW0]; exact below_alloc (below_alloc (Below.refl _ _) _) _
  have k0 : W0.heap[w.heap.size]? = some (.cells #[.string n0, .slice A0 m0 c0, .slice A l.length c] 25 (0, 0)) := by rw [← hW0]; exact blk_alloc (heap_alloc_new w _) _
  have k1 : W0.heap[w.heap.size + 1]? = some (.cells #[.string n1, .slice A1 m1 c1, .slice B m.length d] 25 (0, 0)) := by
    have := heap_alloc_new (w.alloc (.cells #[.string n0, .slice A0 m0 c0, .slice A l.length c] 25)) (.cells #[.string n1, .slice A1 m1 c1, .slice B m.length d] 25)
    rw [World.size_alloc, hW0] at this
    exact this
  obtain ⟨a1, a2, a3⟩ := okT_iff okl
  obtain ⟨b1, b2, b3⟩ := okT_iff okm
  have HA := Aside0.mk (fun (W : World) (h : Below w.heap.size w W) => rows_walk n0 A0 m0 c0 A c l W (Kd.C_below hl h) a1 a2 a3)
  have HC := Aside0.mk (fun (W : World) (h : Below w.heap.size w W) => rows_walk n1 A1 m1 c1 B d m W (Kd.C_below hm h) b1 b2 b3)
  have HB0 := Aside0.mk hb0
  have K0 := Aside0.mk k0
  have K1 := Aside0.mk k1
  have x0 : W0.drew.cell? ⟨w.heap.size, 0, none⟩ = some (.string n0) := (blk_cell (w := W0) k0 0).trans rfl
  have x1 : W0.drew.cell? ⟨w.heap.size, 1, none⟩ = some (.slice A0 m0 c0) := (blk_cell (w := W0) k0 1).trans rfl
  have x2 : W0.drew.cell? ⟨w.heap.size, 2, none⟩ = some (.slice A l.length c) := (blk_cell (w := W0) k0 2).trans rfl
  have y0 : W0.drew.cell? ⟨w.heap.size + 1, 0, none⟩ = some (.string n1) := (blk_cell (w := W0) k1 0).trans rfl
  have y1 : W0.drew.cell? ⟨w.heap.size + 1, 1, none⟩ = some (.slice A1 m1 c1) := (blk_cell (w := W0) k1 1).trans rfl
  have y2 : W0.drew.cell? ⟨w.heap.size + 1, 2, none⟩ = some (.slice B m.length d) := (blk_cell (w := W0) k1 2).trans rfl
  have hbd : Below w.heap.size w W0.drew := below_drew hb0
  have HBD := Aside0.mk hbd
  unfold significantP
  obtain ⟨rl, hrl⟩ : ∃ rl, rowsP l = rl := ⟨_, rfl⟩
  obtain ⟨rm, hrm⟩ : ∃ rm, rowsP m = rm := ⟨_, rfl⟩
  rw [hrl] at HA ⊢
  rw [hrm] at HC ⊢
  clear hl hm okl okm a1 a2 a3 b1 b2 b3 hb0 k0 k1 hbd hrl hrm
  go_enter Try.func17, Try.ntmps17
  go_wp2
  try rw [hW0]
  clear hW0
  go_region_with (first | (go_at_call 51; refine (HA.out _ HBD.out).mono ?_; rintro e w5 ⟨A5, c5, rfl, hr5, hb5⟩; clear HA; have HR5 := Aside0.mk hr5; have HB5 := Aside0.mk (HBD.out.trans (hb5.mono HBD.out.size)); have z0 : w5.cell? ⟨w.heap.size + 1, 0, none⟩ = some (.string n1) := (blk_cell (blk_below (w := W0.drew) K1.out hb5) 0).trans rfl; have z1 : w5.cell? ⟨w.heap.size + 1, 1, none⟩ = some (.slice A1 m1 c1) := (blk_cell (blk_below (w := W0.drew) K1.out hb5) 1).trans rfl; have z2 : w5.cell? ⟨w.heap.size + 1, 2, none⟩ = some (.slice B m.length d) := (blk_cell (blk_below (w := W0.drew) K1.out hb5) 2).trans rfl; clear hr5 hb5) | (go_at_call 51; refine (HC.out _ HB5.out).mono ?_; rintro e w6 ⟨A6, c6, rfl, hr6, hb6⟩; clear HC; have HR6 := Aside0.mk hr6; have HR56 := Aside0.mk (HR5.out.below hb6); have HB6 := Aside0.mk (HB5.out.trans (hb6.mono HB5.out.size)); clear hr6 hb6) | (go_at_call 53; refine (eqF22 A5 c5 rl A6 c6 rm _ HR56.out HR6.out).mono ?_; rintro e w7 ⟨rfl, hb7⟩; have HB7 := Aside0.mk (HB6.out.trans (hb7.mono HB6.out.size)); clear hb7))
  all_goals go_wp2
  all_goals go_ret
  all_goals exact ⟨rfl, HB7.out⟩
def itip_Significant.f (a0_0 : ByteArray) (l0_1 : List (S45)) (l0_2 : List (S25)) (a1_0 : ByteArray) (l1_1 : List (S45)) (l1_2 : List (S25)) : Option (Bool) := if (okT l0_2 && okT l1_2) = true then some (significantP l0_2 l1_2) else none
theorem itip_Significant.calls (a0_0 : ByteArray) (A0_1 : Option Addr) (c0_1 : Nat) (l0_1 : List (S45)) (A0_2 : Option Addr) (c0_2 : Nat) (l0_2 : List (S25)) (a1_0 : ByteArray) (A1_1 : Option Addr) (c1_1 : Nat) (l1_1 : List (S45)) (A1_2 : Option Addr) (c1_2 : Nat) (l1_2 : List (S25)) (r : Bool) (w : World) (hr0_1 : Kd.C k45 w A0_1 l0_1.length l0_1) (hc0_1 : l0_1.length ≤ c0_1) (hr0_2 : Kd.C k25 w A0_2 l0_2.length l0_2) (hc0_2 : l0_2.length ≤ c0_2) (hr1_1 : Kd.C k45 w A1_1 l1_1.length l1_1) (hc1_1 : l1_1.length ≤ c1_1) (hr1_2 : Kd.C k25 w A1_2 l1_2.length l1_2) (hc1_2 : l1_2.length ≤ c1_2) (h : itip_Significant.f a0_0 l0_1 l0_2 a1_0 l1_1 l1_2 = some r) :
    Calls Try.prog 17 #[.agg #[.string a0_0, .slice A0_1 l0_1.length c0_1, .slice A0_2 l0_2.length c0_2], .agg #[.string a1_0, .slice A1_1 l1_1.length c1_1, .slice A1_2 l1_2.length c1_2]] w fun e w' => e = .returned (.bool r) ∧ Below w.heap.size w w' := by
  unfold itip_Significant.f at h
  split at h
  case isFalse => cases h
  rename_i hc
  simp only [Bool.and_eq_true] at hc
  obtain rfl := Option.some.inj h
  exact significant_walk a0_0 A0_1 _ c0_1 A0_2 c0_2 l0_2 a1_0 A1_1 _ c1_1 A1_2 c1_2 l1_2 w hr0_2 hr1_2 hc.1 hc.2
end Go.Proofs.Ytebmbfobmakheaa.PD
namespace Go.Proofs.Ytebmbfobmakheaa.PD
open Go.RowKit Go.Proofs.YtebmbfobmakheaaW.PrintWords Go.Proofs.YtebmbfobmakheaaW.PrintLast Go.Proofs.YtebmbfobmakheaaW.PrintMore
attribute [local go_sem] isSome_setCell max2_int min2_int max_two min_two max_three min_three max_four min_four
set_option linter.unusedVariables false
set_option linter.unusedSimpArgs false
mutual
def almanacref11_Same.j0 : Nat → Bool → ByteArray → List (S77) → ByteArray → ByteArray → List (S77) → ByteArray → Option (Bool)
 | 0, _, _, _, _, _, _, _ => none
 | k + 1, x26, x242000, x242001, x242002, x243000, x243001, x243002 => if x26 = true then (some false) else (almanacref11_Same.l0 k 0 x242000 x242001 x242002 x243000 x243001 x243002)
def almanacref11_Same.l0 : Nat → Int → ByteArray → List (S77) → ByteArray → ByteArray → List (S77) → ByteArray → Option (Bool)
 | 0, _, _, _, _, _, _, _ => none
 | k + 1, x5, x242000, x242001, x242002, x243000, x243001, x243002 => if x5 < (x242001.length : Int) then (if 0 ≤ x5 then (if x5 < (x243001.length : Int) then (if ((rd_T77 x242001 x5).f0).toList = ((rd_T77 x243001 x5).f0).toList then ((almanacref08_Texts.f k ((rd_T77 x242001 x5).f1) ((rd_T77 x243001 x5).f1)).bind fun t247 => (if t247 = true then (almanacref11_Same.l0 k (wrap64 (x5 + 1)) x242000 x242001 x242002 x243000 x243001 x243002) else (some false))) else (some false)) else (none)) else (none)) else (some true)
end
def almanacref11_Same.f (k : Nat) (a0_0 : ByteArray) (l0_1 : List (S77)) (a0_2 : ByteArray) (a1_0 : ByteArray) (l1_1 : List (S77)) (a1_2 : ByteArray) : Option (Bool) := if a0_0.toList = a1_0.toList then (if a0_2.toList = a1_2.toList then (almanacref11_Same.j0 k ((l0_1.length : Int) != (l1_1.length : Int)) a0_0 l0_1 a0_2 a1_0 l1_1 a1_2) else (almanacref11_Same.j0 k true a0_0 l0_1 a0_2 a1_0 l1_1 a1_2)) else (almanacref11_Same.j0 k true a0_0 l0_1 a0_2 a1_0 l1_1 a1_2)
set_option maxHeartbeats 8000000 in
set_option maxRecDepth 100000 in
theorem almanacref11_Same.calls (k : Nat) (a0_0 : ByteArray) (A0_1 : Option Addr) (c0_1 : Nat) (l0_1 : List (S77)) (a0_2 : ByteArray) (a1_0 : ByteArray) (A1_1 : Option Addr) (c1_1 : Nat) (l1_1 : List (S77)) (a1_2 : ByteArray) (r : Bool) (w : World) (hr0_1 : Kd.C k77 w A0_1 l0_1.length l0_1) (hc0_1 : l0_1.length ≤ c0_1) (hr1_1 : Kd.C k77 w A1_1 l1_1.length l1_1) (hc1_1 : l1_1.length ≤ c1_1) (h : almanacref11_Same.f k a0_0 l0_1 a0_2 a1_0 l1_1 a1_2 = some r) :
  Calls Try.prog 88 #[.agg #[.string a0_0, .slice A0_1 l0_1.length c0_1, .string a0_2], .agg #[.string a1_0, .slice A1_1 l1_1.length c1_1, .string a1_2]] w fun e w' => e = .returned (.bool r) ∧ Below w.heap.size w w' := by
 have hu45 := Try.underlying45
 have HR0_1 := Aside0.mk hr0_1
 have HC0_1 := Aside0.mk hc0_1
 clear hr0_1 hc0_1
 have HR1_1 := Aside0.mk hr1_1
 have HC1_1 := Aside0.mk hc1_1
 clear hr1_1 hc1_1
 have HB := Aside0.mk (Below.refl w.heap.size w)
 have H : (if a0_0.toList = a1_0.toList then (if a0_2.toList = a1_2.toList then (almanacref11_Same.j0 k ((l0_1.length : Int) != (l1_1.length : Int)) a0_0 l0_1 a0_2 a1_0 l1_1 a1_2) else (almanacref11_Same.j0 k true a0_0 l0_1 a0_2 a1_0 l1_1 a1_2)) else (almanacref11_Same.j0 k true a0_0 l0_1 a0_2 a1_0 l1_1 a1_2)) = some r := h
 clear h
 have HC3 := Aside0.mk H
 clear H
 go_enter Try.func88, Try.ntmps88
 go_upto_region 1 with (first | ((with_reducible refine gate_dst (N := 2) rfl ?_); (try (refine gate_guard (by rfl) ?_; dsimp only)); refine box_event ?hg (N := 2) ?hd (cs := #[.string a0_0, .slice A0_1 l0_1.length c0_1, .string a0_2]) (t := 45) ?hr ?_; (case hd => rfl); (case hg => rfl); (case hr => first | (go_simp; done) | (go_simp; rfl)); intro gb241 hg w4 hbox hb; have n0_ := Aside0.mk (below_step (bU HB) hb); have n1_ := Aside0.mk (hbox); have n2_ := Aside0.mk ((by rw [hg]; exact (below_size (bU HB)) : w.heap.size ≤ gb241)); have n3_ := Aside0.mk ((by rw [hg]; exact (below_size (bU HB)) : w.heap.size ≤ gb241)); clear HB; have HB := n0_; have BK241 := n1_; have GW241 := n2_; have GE241 := n3_; clear n0_ n1_ n2_ n3_; clear hb hbox hg) | ((with_reducible refine gate_dst (N := 3) rfl ?_); (try (refine gate_guard (by rfl) ?_; dsimp only)); refine box_event ?hg (N := 3) ?hd (cs := #[.string a1_0, .slice A1_1 l1_1.length c1_1, .string a1_2]) (t := 45) ?hr ?_; (case hd => rfl); (case hg => rfl); (case hr => first | (go_simp; done) | (go_simp; rfl)); intro gb242 hg w5 hbox hb; have n0_ := Aside0.mk (blk_below (kU BK241) hb); have n1_ := Aside0.mk (below_step (bU HB) hb); have n2_ := Aside0.mk (hbox); have n3_ := Aside0.mk ((by rw [hg]; exact (below_size (bU HB)) : w.heap.size ≤ gb242)); have n4_ := Aside0.mk ((by rw [hg]; exact (below_size (bU HB)) : w.heap.size ≤ gb242)); have n5_ := Aside0.mk ((by rw [hg]; exact Nat.ne_of_lt (blk_lt (g := gb241) (o := .cells #[.string a0_0, .slice A0_1 l0_1.length c0_1, .string a0_2] 45 (0, 0)) (kU BK241)) : gb241 ≠ gb242)); have n6_ := Aside0.mk ((by rw [hg]; exact Nat.ne_of_gt (blk_lt (g := gb241) (o := .cells #[.string a0_0, .slice A0_1 l0_1.length c0_1, .string a0_2] 45 (0, 0)) (kU BK241)) : gb242 ≠ gb241)); clear BK241; clear HB; have BK241 := n0_; have HB := n1_; have BK242 := n2_; have GW242 := n3_; have GE242 := n4_; have NB241_242 := n5_; have NB242_241 := n6_; clear n0_ n1_ n2_ n3_ n4_ n5_ n6_; clear hb hbox hg))
 repeat (go_quiet (first | ((with_reducible refine gate_dst (N := 2) rfl ?_); (try (refine gate_guard (by rfl) ?_; dsimp only)); refine box_event ?hg (N := 2) ?hd (cs := #[.string a0_0, .slice A0_1 l0_1.length c0_1, .string a0_2]) (t := 45) ?hr ?_; (case hd => rfl); (case hg => rfl); (case hr => first | (go_simp; done) | (go_simp; rfl)); intro gb241 hg w4 hbox hb; have n0_ := Aside0.mk (below_step (bU HB) hb); have n1_ := Aside0.mk (hbox); have n2_ := Aside0.mk ((by rw [hg]; exact (below_size (bU HB)) : w.heap.size ≤ gb241)); have n3_ := Aside0.mk ((by rw [hg]; exact (below_size (bU HB)) : w.heap.size ≤ gb241)); clear HB; have HB := n0_; have BK241 := n1_; have GW241 := n2_; have GE241 := n3_; clear n0_ n1_ n2_ n3_; clear hb hbox hg) | ((with_reducible refine gate_dst (N := 3) rfl ?_); (try (refine gate_guard (by rfl) ?_; dsimp only)); refine box_event ?hg (N := 3) ?hd (cs := #[.string a1_0, .slice A1_1 l1_1.length c1_1, .string a1_2]) (t := 45) ?hr ?_; (case hd => rfl); (case hg => rfl); (case hr => first | (go_simp; done) | (go_simp; rfl)); intro gb242 hg w5 hbox hb; have n0_ := Aside0.mk (blk_below (kU BK241) hb); have n1_ := Aside0.mk (below_step (bU HB) hb); have n2_ := Aside0.mk (hbox); have n3_ := Aside0.mk ((by rw [hg]; exact (below_size (bU HB)) : w.heap.size ≤ gb242)); have n4_ := Aside0.mk ((by rw [hg]; exact (below_size (bU HB)) : w.heap.size ≤ gb242)); have n5_ := Aside0.mk ((by rw [hg]; exact Nat.ne_of_lt (blk_lt (g := gb241) (o := .cells #[.string a0_0, .slice A0_1 l0_1.length c0_1, .string a0_2] 45 (0, 0)) (kU BK241)) : gb241 ≠ gb242)); have n6_ := Aside0.mk ((by rw [hg]; exact Nat.ne_of_gt (blk_lt (g := gb241) (o := .cells #[.string a0_0, .slice A0_1 l0_1.length c0_1, .string a0_2] 45 (0, 0)) (kU BK241)) : gb242 ≠ gb241)); clear BK241; clear HB; have BK241 := n0_; have HB := n1_; have BK242 := n2_; have GW242 := n3_; have GE242 := n4_; have NB241_242 := n5_; have NB242_241 := n6_; clear n0_ n1_ n2_ n3_ n4_ n5_ n6_; clear hb hbox hg)); go_upto_region 1 with (first | ((with_reducible refine gate_dst (N := 2) rfl ?_); (try (refine gate_guard (by rfl) ?_; dsimp only)); refine box_event ?hg (N := 2) ?hd (cs := #[.string a0_0, .slice A0_1 l0_1.length c0_1, .string a0_2]) (t := 45) ?hr ?_; (case hd => rfl); (case hg => rfl); (case hr => first | (go_simp; done) | (go_simp; rfl)); intro gb241 hg w4 hbox hb; have n0_ := Aside0.mk (below_step (bU HB) hb); have n1_ := Aside0.mk (hbox); have n2_ := Aside0.mk ((by rw [hg]; exact (below_size (bU HB)) : w.heap.size ≤ gb241)); have n3_ := Aside0.mk ((by rw [hg]; exact (below_size (bU HB)) : w.heap.size ≤ gb241)); clear HB; have HB := n0_; have BK241 := n1_; have GW241 := n2_; have GE241 := n3_; clear n0_ n1_ n2_ n3_; clear hb hbox hg) | ((with_reducible refine gate_dst (N := 3) rfl ?_); (try (refine gate_guard (by rfl) ?_; dsimp only)); refine box_event ?hg (N := 3) ?hd (cs := #[.string a1_0, .slice A1_1 l1_1.length c1_1, .string a1_2]) (t := 45) ?hr ?_; (case hd => rfl); (case hg => rfl); (case hr => first | (go_simp; done) | (go_simp; rfl)); intro gb242 hg w5 hbox hb; have n0_ := Aside0.mk (blk_below (kU BK241) hb); have n1_ := Aside0.mk (below_step (bU HB) hb); have n2_ := Aside0.mk (hbox); have n3_ := Aside0.mk ((by rw [hg]; exact (below_size (bU HB)) : w.heap.size ≤ gb242)); have n4_ := Aside0.mk ((by rw [hg]; exact (below_size (bU HB)) : w.heap.size ≤ gb242)); have n5_ := Aside0.mk ((by rw [hg]; exact Nat.ne_of_lt (blk_lt (g := gb241) (o := .cells #[.string a0_0, .slice A0_1 l0_1.length c0_1, .string a0_2] 45 (0, 0)) (kU BK241)) : gb241 ≠ gb242)); have n6_ := Aside0.mk ((by rw [hg]; exact Nat.ne_of_gt (blk_lt (g := gb241) (o := .cells #[.string a0_0, .slice A0_1 l0_1.length c0_1, .string a0_2] 45 (0, 0)) (kU BK241)) : gb242 ≠ gb241)); clear BK241; clear HB; have BK241 := n0_; have HB := n1_; have BK242 := n2_; have GW242 := n3_; have GE242 := n4_; have NB241_242 := n5_; have NB242_241 := n6_; clear n0_ n1_ n2_ n3_ n4_ n5_ n6_; clear hb hbox hg)))
 (try simp only [Act.put, List.setIfInBounds_toArray, List.set_cons_zero, List.set_cons_succ])
 go_cut [26] (fun v26 wc => ∃ (kq : Nat) (x26_2 : Bool), v26 = .bool x26_2 ∧ Aside0 (almanacref11_Same.j0 kq x26_2 a0_0 l0_1 a0_2 a1_0 l1_1 a1_2 = some r) ∧ Aside0 (kq ≤ k) ∧ Aside0 (wc.heap[gb241]? = some (.cells #[.string a0_0, (.slice A0_1 l0_1.length c0_1), .string a0_2] 45 (0, 0))) ∧ Aside0 (wc.heap[gb242]? = some (.cells #[.string a1_0, (.slice A1_1 l1_1.length c1_1), .string a1_2] 45 (0, 0))) ∧ Aside0 (Below w.heap.size w wc))
 case first =>
  have H := HC3.out
  clear HC3
  by_cases c6 : a0_0.toList = a1_0.toList
  ·rw [if_pos c6] at H
   have c6b0 : (a0_0.toList == a1_0.toList) = true := beq_iff_eq.mpr c6
   have c6b1 : (a0_0.toList != a1_0.toList) = false := bne_eq_false_iff_eq.mpr c6
   clear c6
   (first | rw [c6b0] | (simp only [i64_w, i32_w]; rw [c6b0]) | skip)
   by_cases c7 : a0_2.toList = a1_2.toList
   ·rw [if_pos c7] at H
    have c7b0 : (a0_2.toList == a1_2.toList) = true := beq_iff_eq.mpr c7
    have c7b1 : (a0_2.toList != a1_2.toList) = false := bne_eq_false_iff_eq.mpr c7
    clear c7
    have H' := Aside0.mk H
    clear H
    have hnb8 := NB241_242.out
    have hnc8 := NB242_241.out
    have hcz9_0 : w5.cell? ⟨gb241, 0, none⟩ = some (.string a0_0) := (blk_cell BK241.out 0).trans rfl
    have hcz9_1 : w5.cell? ⟨gb241, 1, none⟩ = some (.slice A0_1 l0_1.length c0_1) := (blk_cell BK241.out 1).trans rfl
    have hcz9_2 : w5.cell? ⟨gb241, 2, none⟩ = some (.string a0_2) := (blk_cell BK241.out 2).trans rfl
    have hfz9_0 := blk_frozen BK241.out 0
    have hfz9_1 := blk_frozen BK241.out 1
    have hfz9_2 := blk_frozen BK241.out 2
    have hcz10_0 : w5.cell? ⟨gb242, 0, none⟩ = some (.string a1_0) := (blk_cell BK242.out 0).trans rfl
    have hcz10_1 : w5.cell? ⟨gb242, 1, none⟩ = some (.slice A1_1 l1_1.length c1_1) := (blk_cell BK242.out 1).trans rfl
    have hcz10_2 : w5.cell? ⟨gb242, 2, none⟩ = some (.string a1_2) := (blk_cell BK242.out 2).trans rfl
    have hfz10_0 := blk_frozen BK242.out 0
    have hfz10_1 := blk_frozen BK242.out 1
    have hfz10_2 := blk_frozen BK242.out 2
    go_wp2
    repeat (go_quiet (fail); try go_wp2)
    go_meet
    case rel => exact ⟨_, (((l0_1.length : Int) != (l1_1.length : Int))), (by first | rfl | (simp; done) | (simp [*]; done)), H', ⟨by first | omega | exact Nat.le_refl _⟩, ⟨kU BK241⟩, ⟨kU BK242⟩, ⟨bU HB⟩⟩
   ·rw [if_neg c7] at H
    have c7b0 : (a0_2.toList == a1_2.toList) = false := beq_eq_false_iff_ne.mpr c7
    have c7b1 : (a0_2.toList != a1_2.toList) = true := bne_iff_ne.mpr c7
    have H' := Aside0.mk H
    clear H
    have hnb11 := NB241_242.out
    have hnc11 := NB242_241.out
    have hcz12_0 : w5.cell? ⟨gb241, 0, none⟩ = some (.string a0_0) := (blk_cell BK241.out 0).trans rfl
    have hcz12_1 : w5.cell? ⟨gb241, 1, none⟩ = some (.slice A0_1 l0_1.length c0_1) := (blk_cell BK241.out 1).trans rfl
    have hcz12_2 : w5.cell? ⟨gb241, 2, none⟩ = some (.string a0_2) := (blk_cell BK241.out 2).trans rfl
    have hfz12_0 := blk_frozen BK241.out 0
    have hfz12_1 := blk_frozen BK241.out 1
    have hfz12_2 := blk_frozen BK241.out 2
    have hcz13_0 : w5.cell? ⟨gb242, 0, none⟩ = some (.string a1_0) := (blk_cell BK242.out 0).trans rfl
    have hcz13_1 : w5.cell? ⟨gb242, 1, none⟩ = some (.slice A1_1 l1_1.length c1_1) := (blk_cell BK242.out 1).trans rfl
    have hcz13_2 : w5.cell? ⟨gb242, 2, none⟩ = some (.string a1_2) := (blk_cell BK242.out 2).trans rfl
    have hfz13_0 := blk_frozen BK242.out 0
    have hfz13_1 := blk_frozen BK242.out 1
    have hfz13_2 := blk_frozen BK242.out 2
    go_wp2
    repeat (go_quiet (fail); try go_wp2)
    go_meet
    case rel => exact ⟨_, (true), (by first | rfl | (simp; done) | (simp [*]; done)), H', ⟨by first | omega | exact Nat.le_refl _⟩, ⟨kU BK241⟩, ⟨kU BK242⟩, ⟨bU HB⟩⟩
  ·rw [if_neg c6] at H
   have c6b0 : (a0_0.toList == a1_0.toList) = false := beq_eq_false_iff_ne.mpr c6
   have c6b1 : (a0_0.toList != a1_0.toList) = true := bne_iff_ne.mpr c6
   (first | rw [c6b0] | (simp only [i64_w, i32_w]; rw [c6b0]) | skip)
   have H' := Aside0.mk H
   clear H
   have hnb14 := NB241_242.out
   have hnc14 := NB242_241.out
   have hcz15_0 : w5.cell? ⟨gb241, 0, none⟩ = some (.string a0_0) := (blk_cell BK241.out 0).trans rfl
   have hcz15_1 : w5.cell? ⟨gb241, 1, none⟩ = some (.slice A0_1 l0_1.length c0_1) := (blk_cell BK241.out 1).trans rfl
   have hcz15_2 : w5.cell? ⟨gb241, 2, none⟩ = some (.string a0_2) := (blk_cell BK241.out 2).trans rfl
   have hfz15_0 := blk_frozen BK241.out 0
   have hfz15_1 := blk_frozen BK241.out 1
   have hfz15_2 := blk_frozen BK241.out 2
   have hcz16_0 : w5.cell? ⟨gb242, 0, none⟩ = some (.string a1_0) := (blk_cell BK242.out 0).trans rfl
   have hcz16_1 : w5.cell? ⟨gb242, 1, none⟩ = some (.slice A1_1 l1_1.length c1_1) := (blk_cell BK242.out 1).trans rfl
   have hcz16_2 : w5.cell? ⟨gb242, 2, none⟩ = some (.string a1_2) := (blk_cell BK242.out 2).trans rfl
   have hfz16_0 := blk_frozen BK242.out 0
   have hfz16_1 := blk_frozen BK242.out 1
   have hfz16_2 := blk_frozen BK242.out 2
   go_wp2
   repeat (go_quiet (fail); try go_wp2)
   go_meet
   case rel => exact ⟨_, (true), (by first | rfl | (simp; done) | (simp [*]; done)), H', ⟨by first | omega | exact Nat.le_refl _⟩, ⟨kU BK241⟩, ⟨kU BK242⟩, ⟨bU HB⟩⟩
 case rest =>
  clear HC3
  try clear c1
  try clear p2
  try clear c6
  try clear c6b0
  try clear c6b1
  try clear c7
  try clear c7b0
  try clear c7b1
  try clear c8
  try clear c11
  try clear c14
  try clear hcz10_0 hcz10_1 hcz10_2 hfz10_0 hfz10_1 hfz10_2
  try clear hcz12_0 hcz12_1 hcz12_2 hfz12_0 hfz12_1 hfz12_2
  try clear hcz13_0 hcz13_1 hcz13_2 hfz13_0 hfz13_1 hfz13_2
  try clear hcz15_0 hcz15_1 hcz15_2 hfz15_0 hfz15_1 hfz15_2
  try clear hcz16_0 hcz16_1 hcz16_2 hfz16_0 hfz16_1 hfz16_2
  try clear hcz9_0 hcz9_1 hcz9_2 hfz9_0 hfz9_1 hfz9_2
  obtain ⟨kq, x26_2, rfl, HA, HJ2, BK241, BK242, HB⟩ := hcut
  cases kq with
  | zero => exact absurd HA.out (by simp [almanacref11_Same.j0])
  | succ kj2 =>
   have H := HA.out
   clear HA
   simp only [almanacref11_Same.j0] at H
   by_cases c17 : x26_2 = true
   ·subst c17
    have H1 : (some false) = some r := by rw [if_pos rfl] at H; exact H
    clear H
    have H := H1
    clear H1
    obtain rfl := Option.some.inj H
    go_wp2
    repeat (go_quiet (fail); try go_wp2)
    go_ret
    exact ⟨eqU, bU HB⟩
   ·replace c17 := Bool.eq_false_iff.mpr c17
    subst c17
    have H1 : (almanacref11_Same.l0 kj2 0 a0_0 l0_1 a0_2 a1_0 l1_1 a1_2) = some r := by rw [if_neg (show ¬ (false = true) by decide)] at H; exact H
    clear H
    have H := H1
    clear H1
    have H' := Aside0.mk H
    clear H
    go_wp2
    repeat (go_quiet (fail); try go_wp2)
    go_loopg [5] kj2 (fun kq v5 w' => ∃ (x5_2 : Int), v5 = .int .i64 x5_2 ∧ Aside0 (almanacref11_Same.l0 kq x5_2 a0_0 l0_1 a0_2 a1_0 l1_1 a1_2 = some r) ∧ Aside0 (kq ≤ kj2) ∧ Aside0 (w'.heap[gb241]? = some (.cells #[.string a0_0, (.slice A0_1 l0_1.length c0_1), .string a0_2] 45 (0, 0))) ∧ Aside0 (w'.heap[gb242]? = some (.cells #[.string a1_0, (.slice A1_1 l1_1.length c1_1), .string a1_2] 45 (0, 0))) ∧ Aside0 (Below w.heap.size w w'))
    case atStart => exact ⟨(0), (by first | rfl | (simp; done) | (simp [*]; done)), H', ⟨Nat.le_refl _⟩, ⟨kU BK241⟩, ⟨kU BK242⟩, ⟨bU HB⟩⟩
    case round =>
     clear H'
     try clear c1
     try clear p2
     try clear c6
     try clear c6b0
     try clear c6b1
     try clear c7
     try clear c7b0
     try clear c7b1
     try clear c8
     try clear c11
     try clear c14
     try clear c17
     try clear hcz10_0 hcz10_1 hcz10_2 hfz10_0 hfz10_1 hfz10_2
     try clear hcz12_0 hcz12_1 hcz12_2 hfz12_0 hfz12_1 hfz12_2
     try clear hcz13_0 hcz13_1 hcz13_2 hfz13_0 hfz13_1 hfz13_2
     try clear hcz15_0 hcz15_1 hcz15_2 hfz15_0 hfz15_1 hfz15_2
     try clear hcz16_0 hcz16_1 hcz16_2 hfz16_0 hfz16_1 hfz16_2
     try clear hcz9_0 hcz9_1 hcz9_2 hfz9_0 hfz9_1 hfz9_2
     try clear p2
     obtain ⟨x5_2, rfl, HA, HK2, BK241, BK242, HB⟩ := hrel
     cases gk with
     | zero => exact absurd HA.out (by simp [almanacref11_Same.l0])
     | succ k2 =>
      have H := HA.out
      clear HA
      simp only [almanacref11_Same.l0] at H
      by_cases c18 : x5_2 < (l0_1.length : Int)
      ·rw [if_pos c18] at H
       have c18b0 : decide (x5_2 < (l0_1.length : Int)) = true := decide_eq_true c18
       clear c18
       by_cases c19 : 0 ≤ x5_2
       ·rw [if_pos c19] at H
        have c19b0 : decide (0 ≤ x5_2) = true := decide_eq_true c19
        clear c19
        by_cases c20 : x5_2 < (l1_1.length : Int)
        ·rw [if_pos c20] at H
         have c20b0 : decide (x5_2 < (l1_1.length : Int)) = true := decide_eq_true c20
         clear c20
         by_cases c21 : ((rd_T77 l0_1 x5_2).f0).toList = ((rd_T77 l1_1 x5_2).f0).toList
         ·rw [if_pos c21] at H
          have c21b0 : (((rd_T77 l0_1 x5_2).f0).toList == ((rd_T77 l1_1 x5_2).f0).toList) = true := beq_iff_eq.mpr c21
          have c21b1 : (((rd_T77 l0_1 x5_2).f0).toList != ((rd_T77 l1_1 x5_2).f0).toList) = false := bne_eq_false_iff_eq.mpr c21
          clear c21
          replace H := Option.bind_eq_some_iff.mp H
          obtain ⟨t247, A220, H⟩ := H
          replace H : (if t247 = true then (almanacref11_Same.l0 k2 (wrap64 (x5_2 + 1)) a0_0 l0_1 a0_2 a1_0 l1_1 a1_2) else (some false)) = some r := H
          have A22 := Aside0.mk A220
          clear A220
          by_cases c23 : t247 = true
          ·subst c23
           have H1 : (almanacref11_Same.l0 k2 (wrap64 (x5_2 + 1)) a0_0 l0_1 a0_2 a1_0 l1_1 a1_2) = some r := by rw [if_pos rfl] at H; exact H
           clear H
           have H := H1
           clear H1
           have H' := Aside0.mk H
           clear H
           have hnb24 := NB241_242.out
           have hnc24 := NB242_241.out
           have hcz25_0 : wr.cell? ⟨gb241, 0, none⟩ = some (.string a0_0) := (blk_cell BK241.out 0).trans rfl
           have hcz25_1 : wr.cell? ⟨gb241, 1, none⟩ = some (.slice A0_1 l0_1.length c0_1) := (blk_cell BK241.out 1).trans rfl
           have hcz25_2 : wr.cell? ⟨gb241, 2, none⟩ = some (.string a0_2) := (blk_cell BK241.out 2).trans rfl
           have hfz25_0 := blk_frozen BK241.out 0
           have hfz25_1 := blk_frozen BK241.out 1
           have hfz25_2 := blk_frozen BK241.out 2
           have p243 : 0 ≤ (x5_2 : Int) := of_decide_eq_true (by first | (with_reducible assumption) | assumption)
           have q243 : x5_2 < (l0_1.length : Int) := of_decide_eq_true (by first | (with_reducible assumption) | assumption)
           obtain ⟨ad243, A243_1, c243_1, e243, hx243_0, hx243_1, hl243_1, hi243_1⟩ := at_T77 HR0_1.out x5_2 p243 q243
           cases e243
           replace hx243_0 := (HB.out.cell (World.block_lt_of_cell? w _ hx243_0)).trans hx243_0
           replace hx243_1 := (HB.out.cell (World.block_lt_of_cell? w _ hx243_1)).trans hx243_1
           have HR243_1 := Aside0.mk hi243_1
           have HC243_1 := Aside0.mk hl243_1
           clear hi243_1 hl243_1
           replace p243 := eq_true p243
           replace q243 := eq_true q243
           have hcz26_0 : wr.cell? ⟨gb242, 0, none⟩ = some (.string a1_0) := (blk_cell BK242.out 0).trans rfl
           have hcz26_1 : wr.cell? ⟨gb242, 1, none⟩ = some (.slice A1_1 l1_1.length c1_1) := (blk_cell BK242.out 1).trans rfl
           have hcz26_2 : wr.cell? ⟨gb242, 2, none⟩ = some (.string a1_2) := (blk_cell BK242.out 2).trans rfl
           have hfz26_0 := blk_frozen BK242.out 0
           have hfz26_1 := blk_frozen BK242.out 1
           have hfz26_2 := blk_frozen BK242.out 2
           have p244 : 0 ≤ (x5_2 : Int) := of_decide_eq_true (by first | (with_reducible assumption) | assumption)
           have q244 : x5_2 < (l1_1.length : Int) := of_decide_eq_true (by first | (with_reducible assumption) | assumption)
           obtain ⟨ad244, A244_1, c244_1, e244, hx244_0, hx244_1, hl244_1, hi244_1⟩ := at_T77 HR1_1.out x5_2 p244 q244
           cases e244
           replace hx244_0 := (HB.out.cell (World.block_lt_of_cell? w _ hx244_0)).trans hx244_0
           replace hx244_1 := (HB.out.cell (World.block_lt_of_cell? w _ hx244_1)).trans hx244_1
           have HR244_1 := Aside0.mk hi244_1
           have HC244_1 := Aside0.mk hl244_1
           clear hi244_1 hl244_1
           replace p244 := eq_true p244
           replace q244 := eq_true q244
           have p245 : 0 ≤ (x5_2 : Int) := of_decide_eq_true (by first | (with_reducible assumption) | assumption)
           have q245 : x5_2 < (l0_1.length : Int) := of_decide_eq_true (by first | (with_reducible assumption) | assumption)
           obtain ⟨ad245, A245_1, c245_1, e245, hx245_0, hx245_1, hl245_1, hi245_1⟩ := at_T77 HR0_1.out x5_2 p245 q245
           obtain rfl : ad243 = ad245 := (by injection e245)
           replace hx245_0 := (HB.out.cell (World.block_lt_of_cell? w _ hx245_0)).trans hx245_0
           replace hx245_1 := (HB.out.cell (World.block_lt_of_cell? w _ hx245_1)).trans hx245_1
           have HR245_1 := Aside0.mk hi245_1
           have HC245_1 := Aside0.mk hl245_1
           clear hi245_1 hl245_1
           replace p245 := eq_true p245
           replace q245 := eq_true q245
           have ea_ := Option.some.inj (hx243_1.symm.trans hx245_1)
           injection ea_ with ea_ en_ ec_
           subst ea_
           subst ec_
           clear en_
           have p246 : 0 ≤ (x5_2 : Int) := of_decide_eq_true (by first | (with_reducible assumption) | assumption)
           have q246 : x5_2 < (l1_1.length : Int) := of_decide_eq_true (by first | (with_reducible assumption) | assumption)
           obtain ⟨ad246, A246_1, c246_1, e246, hx246_0, hx246_1, hl246_1, hi246_1⟩ := at_T77 HR1_1.out x5_2 p246 q246
           obtain rfl : ad244 = ad246 := (by injection e246)
           replace hx246_0 := (HB.out.cell (World.block_lt_of_cell? w _ hx246_0)).trans hx246_0
           replace hx246_1 := (HB.out.cell (World.block_lt_of_cell? w _ hx246_1)).trans hx246_1
           have HR246_1 := Aside0.mk hi246_1
           have HC246_1 := Aside0.mk hl246_1
           clear hi246_1 hl246_1
           replace p246 := eq_true p246
           replace q246 := eq_true q246
           have ea_ := Option.some.inj (hx244_1.symm.trans hx246_1)
           injection ea_ with ea_ en_ ec_
           subst ea_
           subst ec_
           clear en_
           go_wp2_with (first | (go_at_call 14; (with_reducible refine (almanacref08_Texts.calls k2 _ _ ((rd_T77 l0_1 x5_2).f1) _ _ ((rd_T77 l1_1 x5_2).f1) true _ ?side1 ?side2 ?side3 ?side4 A22.out).mono ?_); (case side1 => exact cU (Kd.C_below HR245_1.out HB.out)); (case side2 => exact HC245_1.out); (case side3 => exact cU (Kd.C_below HR246_1.out HB.out)); (case side4 => exact HC246_1.out); rintro e w' ⟨rfl, ⟨nd, rfl⟩⟩; (try first | exact ⟨rfl, _, World.drewN_drewN _ _ _⟩ | exact ⟨rfl, _, Eq.trans (World.drewN_drewN _ _ _) (congrArg (World.drewN _) (Nat.add_assoc _ _ _))⟩)))
           repeat (go_quiet (first | (go_at_call 14; (with_reducible refine (almanacref08_Texts.calls k2 _ _ ((rd_T77 l0_1 x5_2).f1) _ _ ((rd_T77 l1_1 x5_2).f1) true _ ?side1 ?side2 ?side3 ?side4 A22.out).mono ?_); (case side1 => exact cU (Kd.C_below HR245_1.out HB.out)); (case side2 => exact HC245_1.out); (case side3 => exact cU (Kd.C_below HR246_1.out HB.out)); (case side4 => exact HC246_1.out); rintro e w' ⟨rfl, ⟨nd, rfl⟩⟩; (try first | exact ⟨rfl, _, World.drewN_drewN _ _ _⟩ | exact ⟨rfl, _, Eq.trans (World.drewN_drewN _ _ _) (congrArg (World.drewN _) (Nat.add_assoc _ _ _))⟩))); try go_wp2_with (first | (go_at_call 14; (with_reducible refine (almanacref08_Texts.calls k2 _ _ ((rd_T77 l0_1 x5_2).f1) _ _ ((rd_T77 l1_1 x5_2).f1) true _ ?side1 ?side2 ?side3 ?side4 A22.out).mono ?_); (case side1 => exact cU (Kd.C_below HR245_1.out HB.out)); (case side2 => exact HC245_1.out); (case side3 => exact cU (Kd.C_below HR246_1.out HB.out)); (case side4 => exact HC246_1.out); rintro e w' ⟨rfl, ⟨nd, rfl⟩⟩; (try first | exact ⟨rfl, _, World.drewN_drewN _ _ _⟩ | exact ⟨rfl, _, Eq.trans (World.drewN_drewN _ _ _) (congrArg (World.drewN _) (Nat.add_assoc _ _ _))⟩))))
           go_roundg k2
           case measure => have := HJ2.out; have := HK2.out; omega
           case rel => exact ⟨(wrap64 (x5_2 + 1)), (by first | rfl | (simp; done) | (simp [*]; done)), H', ⟨by have := HJ2.out; have := HK2.out; omega⟩, ⟨kU BK241⟩, ⟨kU BK242⟩, ⟨bU HB⟩⟩
          ·replace c23 := Bool.eq_false_iff.mpr c23
           subst c23
           have H1 : (some false) = some r := by rw [if_neg (show ¬ (false = true) by decide)] at H; exact H
           clear H
           have H := H1
           clear H1
           obtain rfl := Option.some.inj H
           have hnb27 := NB241_242.out
           have hnc27 := NB242_241.out
           have hcz28_0 : wr.cell? ⟨gb241, 0, none⟩ = some (.string a0_0) := (blk_cell BK241.out 0).trans rfl
           have hcz28_1 : wr.cell? ⟨gb241, 1, none⟩ = some (.slice A0_1 l0_1.length c0_1) := (blk_cell BK241.out 1).trans rfl
           have hcz28_2 : wr.cell? ⟨gb241, 2, none⟩ = some (.string a0_2) := (blk_cell BK241.out 2).trans rfl
           have hfz28_0 := blk_frozen BK241.out 0
           have hfz28_1 := blk_frozen BK241.out 1
           have hfz28_2 := blk_frozen BK241.out 2
           have p243 : 0 ≤ (x5_2 : Int) := of_decide_eq_true (by first | (with_reducible assumption) | assumption)
           have q243 : x5_2 < (l0_1.length : Int) := of_decide_eq_true (by first | (with_reducible assumption) | assumption)
           obtain ⟨ad243, A243_1, c243_1, e243, hx243_0, hx243_1, hl243_1, hi243_1⟩ := at_T77 HR0_1.out x5_2 p243 q243
           cases e243
           replace hx243_0 := (HB.out.cell (World.block_lt_of_cell? w _ hx243_0)).trans hx243_0
           replace hx243_1 := (HB.out.cell (World.block_lt_of_cell? w _ hx243_1)).trans hx243_1
           have HR243_1 := Aside0.mk hi243_1
           have HC243_1 := Aside0.mk hl243_1
           clear hi243_1 hl243_1
           replace p243 := eq_true p243
           replace q243 := eq_true q243
           have hcz29_0 : wr.cell? ⟨gb242, 0, none⟩ = some (.string a1_0) := (blk_cell BK242.out 0).trans rfl
           have hcz29_1 : wr.cell? ⟨gb242, 1, none⟩ = some (.slice A1_1 l1_1.length c1_1) := (blk_cell BK242.out 1).trans rfl
           have hcz29_2 : wr.cell? ⟨gb242, 2, none⟩ = some (.string a1_2) := (blk_cell BK242.out 2).trans rfl
           have hfz29_0 := blk_frozen BK242.out 0
           have hfz29_1 := blk_frozen BK242.out 1
           have hfz29_2 := blk_frozen BK242.out 2
           have p244 : 0 ≤ (x5_2 : Int) := of_decide_eq_true (by first | (with_reducible assumption) | assumption)
           have q244 : x5_2 < (l1_1.length : Int) := of_decide_eq_true (by first | (with_reducible assumption) | assumption)
           obtain ⟨ad244, A244_1, c244_1, e244, hx244_0, hx244_1, hl244_1, hi244_1⟩ := at_T77 HR1_1.out x5_2 p244 q244
           cases e244
           replace hx244_0 := (HB.out.cell (World.block_lt_of_cell? w _ hx244_0)).trans hx244_0
           replace hx244_1 := (HB.out.cell (World.block_lt_of_cell? w _ hx244_1)).trans hx244_1
           have HR244_1 := Aside0.mk hi244_1
           have HC244_1 := Aside0.mk hl244_1
           clear hi244_1 hl244_1
           replace p244 := eq_true p244
           replace q244 := eq_true q244
           have p245 : 0 ≤ (x5_2 : Int) := of_decide_eq_true (by first | (with_reducible assumption) | assumption)
           have q245 : x5_2 < (l0_1.length : Int) := of_decide_eq_true (by first | (with_reducible assumption) | assumption)
           obtain ⟨ad245, A245_1, c245_1, e245, hx245_0, hx245_1, hl245_1, hi245_1⟩ := at_T77 HR0_1.out x5_2 p245 q245
           obtain rfl : ad243 = ad245 := (by injection e245)
           replace hx245_0 := (HB.out.cell (World.block_lt_of_cell? w _ hx245_0)).trans hx245_0
           replace hx245_1 := (HB.out.cell (World.block_lt_of_cell? w _ hx245_1)).trans hx245_1
           have HR245_1 := Aside0.mk hi245_1
           have HC245_1 := Aside0.mk hl245_1
           clear hi245_1 hl245_1
           replace p245 := eq_true p245
           replace q245 := eq_true q245
           have ea_ := Option.some.inj (hx243_1.symm.trans hx245_1)
           injection ea_ with ea_ en_ ec_
           subst ea_
           subst ec_
           clear en_
           have p246 : 0 ≤ (x5_2 : Int) := of_decide_eq_true (by first | (with_reducible assumption) | assumption)
           have q246 : x5_2 < (l1_1.length : Int) := of_decide_eq_true (by first | (with_reducible assumption) | assumption)
           obtain ⟨ad246, A246_1, c246_1, e246, hx246_0, hx246_1, hl246_1, hi246_1⟩ := at_T77 HR1_1.out x5_2 p246 q246
           obtain rfl : ad244 = ad246 := (by injection e246)
           replace hx246_0 := (HB.out.cell (World.block_lt_of_cell? w _ hx246_0)).trans hx246_0
           replace hx246_1 := (HB.out.cell (World.block_lt_of_cell? w _ hx246_1)).trans hx246_1
           have HR246_1 := Aside0.mk hi246_1
           have HC246_1 := Aside0.mk hl246_1
           clear hi246_1 hl246_1
           replace p246 := eq_true p246
           replace q246 := eq_true q246
           have ea_ := Option.some.inj (hx244_1.symm.trans hx246_1)
           injection ea_ with ea_ en_ ec_
           subst ea_
           subst ec_
           clear en_
           go_wp2_with (first | (go_at_call 14; (with_reducible refine (almanacref08_Texts.calls k2 _ _ ((rd_T77 l0_1 x5_2).f1) _ _ ((rd_T77 l1_1 x5_2).f1) false _ ?side1 ?side2 ?side3 ?side4 A22.out).mono ?_); (case side1 => exact cU (Kd.C_below HR245_1.out HB.out)); (case side2 => exact HC245_1.out); (case side3 => exact cU (Kd.C_below HR246_1.out HB.out)); (case side4 => exact HC246_1.out); rintro e w' ⟨rfl, ⟨nd, rfl⟩⟩; (try first | exact ⟨rfl, _, World.drewN_drewN _ _ _⟩ | exact ⟨rfl, _, Eq.trans (World.drewN_drewN _ _ _) (congrArg (World.drewN _) (Nat.add_assoc _ _ _))⟩)))
           repeat (go_quiet (first | (go_at_call 14; (with_reducible refine (almanacref08_Texts.calls k2 _ _ ((rd_T77 l0_1 x5_2).f1) _ _ ((rd_T77 l1_1 x5_2).f1) false _ ?side1 ?side2 ?side3 ?side4 A22.out).mono ?_); (case side1 => exact cU (Kd.C_below HR245_1.out HB.out)); (case side2 => exact HC245_1.out); (case side3 => exact cU (Kd.C_below HR246_1.out HB.out)); (case side4 => exact HC246_1.out); rintro e w' ⟨rfl, ⟨nd, rfl⟩⟩; (try first | exact ⟨rfl, _, World.drewN_drewN _ _ _⟩ | exact ⟨rfl, _, Eq.trans (World.drewN_drewN _ _ _) (congrArg (World.drewN _) (Nat.add_assoc _ _ _))⟩))); try go_wp2_with (first | (go_at_call 14; (with_reducible refine (almanacref08_Texts.calls k2 _ _ ((rd_T77 l0_1 x5_2).f1) _ _ ((rd_T77 l1_1 x5_2).f1) false _ ?side1 ?side2 ?side3 ?side4 A22.out).mono ?_); (case side1 => exact cU (Kd.C_below HR245_1.out HB.out)); (case side2 => exact HC245_1.out); (case side3 => exact cU (Kd.C_below HR246_1.out HB.out)); (case side4 => exact HC246_1.out); rintro e w' ⟨rfl, ⟨nd, rfl⟩⟩; (try first | exact ⟨rfl, _, World.drewN_drewN _ _ _⟩ | exact ⟨rfl, _, Eq.trans (World.drewN_drewN _ _ _) (congrArg (World.drewN _) (Nat.add_assoc _ _ _))⟩))))
           go_ret
           exact ⟨eqU, bU HB⟩
         ·rw [if_neg c21] at H
          have c21b0 : (((rd_T77 l0_1 x5_2).f0).toList == ((rd_T77 l1_1 x5_2).f0).toList) = false := beq_eq_false_iff_ne.mpr c21
          have c21b1 : (((rd_T77 l0_1 x5_2).f0).toList != ((rd_T77 l1_1 x5_2).f0).toList) = true := bne_iff_ne.mpr c21
          obtain rfl := Option.some.inj H
          have hnb30 := NB241_242.out
          have hnc30 := NB242_241.out
          have hcz31_0 : wr.cell? ⟨gb241, 0, none⟩ = some (.string a0_0) := (blk_cell BK241.out 0).trans rfl
          have hcz31_1 : wr.cell? ⟨gb241, 1, none⟩ = some (.slice A0_1 l0_1.length c0_1) := (blk_cell BK241.out 1).trans rfl
          have hcz31_2 : wr.cell? ⟨gb241, 2, none⟩ = some (.string a0_2) := (blk_cell BK241.out 2).trans rfl
          have hfz31_0 := blk_frozen BK241.out 0
          have hfz31_1 := blk_frozen BK241.out 1
          have hfz31_2 := blk_frozen BK241.out 2
          have p243 : 0 ≤ (x5_2 : Int) := of_decide_eq_true (by first | (with_reducible assumption) | assumption)
          have q243 : x5_2 < (l0_1.length : Int) := of_decide_eq_true (by first | (with_reducible assumption) | assumption)
          obtain ⟨ad243, A243_1, c243_1, e243, hx243_0, hx243_1, hl243_1, hi243_1⟩ := at_T77 HR0_1.out x5_2 p243 q243
          cases e243
          replace hx243_0 := (HB.out.cell (World.block_lt_of_cell? w _ hx243_0)).trans hx243_0
          replace hx243_1 := (HB.out.cell (World.block_lt_of_cell? w _ hx243_1)).trans hx243_1
          have HR243_1 := Aside0.mk hi243_1
          have HC243_1 := Aside0.mk hl243_1
          clear hi243_1 hl243_1
          replace p243 := eq_true p243
          replace q243 := eq_true q243
          have hcz32_0 : wr.cell? ⟨gb242, 0, none⟩ = some (.string a1_0) := (blk_cell BK242.out 0).trans rfl
          have hcz32_1 : wr.cell? ⟨gb242, 1, none⟩ = some (.slice A1_1 l1_1.length c1_1) := (blk_cell BK242.out 1).trans rfl
          have hcz32_2 : wr.cell? ⟨gb242, 2, none⟩ = some (.string a1_2) := (blk_cell BK242.out 2).trans rfl
          have hfz32_0 := blk_frozen BK242.out 0
          have hfz32_1 := blk_frozen BK242.out 1
          have hfz32_2 := blk_frozen BK242.out 2
          have p244 : 0 ≤ (x5_2 : Int) := of_decide_eq_true (by first | (with_reducible assumption) | assumption)
          have q244 : x5_2 < (l1_1.length : Int) := of_decide_eq_true (by first | (with_reducible assumption) | assumption)
          obtain ⟨ad244, A244_1, c244_1, e244, hx244_0, hx244_1, hl244_1, hi244_1⟩ := at_T77 HR1_1.out x5_2 p244 q244
          cases e244
          replace hx244_0 := (HB.out.cell (World.block_lt_of_cell? w _ hx244_0)).trans hx244_0
          replace hx244_1 := (HB.out.cell (World.block_lt_of_cell? w _ hx244_1)).trans hx244_1
          have HR244_1 := Aside0.mk hi244_1
          have HC244_1 := Aside0.mk hl244_1
          clear hi244_1 hl244_1
          replace p244 := eq_true p244
          replace q244 := eq_true q244
          go_wp2
          repeat (go_quiet (fail); try go_wp2)
          go_ret
          exact ⟨eqU, bU HB⟩
        ·rw [if_neg c20] at H
         exact absurd H (by simp)
       ·rw [if_neg c19] at H
        exact absurd H (by simp)
      ·rw [if_neg c18] at H
       have c18b0 : decide (x5_2 < (l0_1.length : Int)) = false := decide_eq_false c18
       clear c18
       obtain rfl := Option.some.inj H
       have hnb33 := NB241_242.out
       have hnc33 := NB242_241.out
       have hcz34_0 : wr.cell? ⟨gb241, 0, none⟩ = some (.string a0_0) := (blk_cell BK241.out 0).trans rfl
       have hcz34_1 : wr.cell? ⟨gb241, 1, none⟩ = some (.slice A0_1 l0_1.length c0_1) := (blk_cell BK241.out 1).trans rfl
       have hcz34_2 : wr.cell? ⟨gb241, 2, none⟩ = some (.string a0_2) := (blk_cell BK241.out 2).trans rfl
       have hfz34_0 := blk_frozen BK241.out 0
       have hfz34_1 := blk_frozen BK241.out 1
       have hfz34_2 := blk_frozen BK241.out 2
       go_wp2
       repeat (go_quiet (fail); try go_wp2)
       go_ret
       exact ⟨eqU, bU HB⟩
end Go.Proofs.Ytebmbfobmakheaa.PD
namespace Go.Proofs.Ytebmbfobmakheaa.PD
open Go.RowKit Go.Proofs.YtebmbfobmakheaaW.PrintWords Go.Proofs.YtebmbfobmakheaaW.PrintLast Go.Proofs.YtebmbfobmakheaaW.PrintMore
attribute [local go_sem] isSome_setCell max2_int min2_int max_two min_two max_three min_three max_four min_four
set_option linter.unusedVariables false
set_option linter.unusedSimpArgs false
def almanacref12_Rows.l0 : Nat → List (S45) → List (S45) → Int → Option (Bool)
 | 0, _, _, _ => none
 | k + 1, x0, x1, x5 => if x5 < (x0.length : Int) then (if 0 ≤ x5 then (if x5 < (x1.length : Int) then ((almanacref11_Same.f k ((rd_T45 x0 x5).f0) ((rd_T45 x0 x5).f1) ((rd_T45 x0 x5).f2) ((rd_T45 x1 x5).f0) ((rd_T45 x1 x5).f1) ((rd_T45 x1 x5).f2)).bind fun t250 => (if t250 = true then (almanacref12_Rows.l0 k x0 x1 (wrap64 (x5 + 1))) else (some false))) else (none)) else (none)) else (some true)
def almanacref12_Rows.f (k : Nat) (l0 : List (S45)) (l1 : List (S45)) : Option (Bool) := if (l0.length : Int) = (l1.length : Int) then (almanacref12_Rows.l0 k l0 l1 0) else (some false)
def almanacref12_Rows.T6 : Bool × List (List Nat × List Nat) := (true, [([], []), ([], []), ([0, 1], [0, 1]), ([2], [2]), ([], []), ([], []), ([4, 5], [4, 5]), ([6], [6]), ([3, 7], [3, 7]), ([8], [8])])
def almanacref12_Rows.B6 : List Nat := [0, 0, 3, 7, 0, 0, 48, 112, 255, 511]
theorem almanacref12_Rows.tab6 : rtab .any (opsOf Try.f57 6) = almanacref12_Rows.T6 := by kernel_rfl
theorem almanacref12_Rows.bits6 : waitsOk almanacref12_Rows.T6.2 almanacref12_Rows.B6 = true := by kernel_rfl
set_option maxHeartbeats 8000000 in
set_option maxRecDepth 100000 in
theorem almanacref12_Rows.calls (k : Nat) (A0 : Option Addr) (c0 : Nat) (l0 : List (S45)) (A1 : Option Addr) (c1 : Nat) (l1 : List (S45)) (r : Bool) (w : World) (hr0 : Kd.C k45 w A0 l0.length l0) (hc0 : l0.length ≤ c0) (hr1 : Kd.C k45 w A1 l1.length l1) (hc1 : l1.length ≤ c1) (h : almanacref12_Rows.f k l0 l1 = some r) :
  Calls Try.prog 57 #[.slice A0 l0.length c0, .slice A1 l1.length c1] w fun e w' => e = .returned (.bool r) ∧ Below w.heap.size w w' := by
 have hu45 := Try.underlying45
 have HR0 := Aside0.mk hr0
 have HC0 := Aside0.mk hc0
 clear hr0 hc0
 have HR1 := Aside0.mk hr1
 have HC1 := Aside0.mk hc1
 clear hr1 hc1
 have HB := Aside0.mk (Below.refl w.heap.size w)
 have H : (if (l0.length : Int) = (l1.length : Int) then (almanacref12_Rows.l0 k l0 l1 0) else (some false)) = some r := h
 clear h
 by_cases c3 : (l0.length : Int) = (l1.length : Int)
 ·rw [if_pos c3] at H
  have c3b0 : ((l0.length : Int) == (l1.length : Int)) = true := beq_iff_eq.mpr c3
  have c3b1 : ((l0.length : Int) != (l1.length : Int)) = false := bne_eq_false_iff_eq.mpr c3
  have c3b2 : (l0.length == l1.length) = true := by first | simpa using c3 | (simp at c3 ⊢; omega)
  clear c3
  have H' := Aside0.mk H
  clear H
  go_enter Try.func57, Try.ntmps57
  go_wp2
  go_loopg [5] k (fun kq v5 w' => ∃ (x5_1 : Int), v5 = .int .i64 x5_1 ∧ Aside0 (almanacref12_Rows.l0 kq l0 l1 x5_1 = some r) ∧ Aside0 (kq ≤ k) ∧ Aside0 (Below w.heap.size w w'))
  case atStart => exact ⟨(0), (by first | rfl | (simp; done) | (simp [*]; done)), H', ⟨Nat.le_refl _⟩, ⟨bU HB⟩⟩
  case round =>
   clear H'
   try clear c1
   try clear p2
   try clear c3
   try clear c3b0
   try clear c3b1
   try clear c3b2
   obtain ⟨x5_1, rfl, HA, HK1, HB⟩ := hrel
   cases gk with
   | zero => exact absurd HA.out (by simp [almanacref12_Rows.l0])
   | succ k1 =>
    have H := HA.out
    clear HA
    simp only [almanacref12_Rows.l0] at H
    by_cases c4 : x5_1 < (l0.length : Int)
    ·rw [if_pos c4] at H
     have c4b0 : decide (x5_1 < (l0.length : Int)) = true := decide_eq_true c4
     clear c4
     by_cases c5 : 0 ≤ x5_1
     ·rw [if_pos c5] at H
      have c5b0 : decide (0 ≤ x5_1) = true := decide_eq_true c5
      clear c5
      by_cases c6 : x5_1 < (l1.length : Int)
      ·rw [if_pos c6] at H
       have c6b0 : decide (x5_1 < (l1.length : Int)) = true := decide_eq_true c6
       clear c6
       replace H := Option.bind_eq_some_iff.mp H
       obtain ⟨t250, A70, H⟩ := H
       replace H : (if t250 = true then (almanacref12_Rows.l0 k1 l0 l1 (wrap64 (x5_1 + 1))) else (some false)) = some r := H
       have A7 := Aside0.mk A70
       clear A70
       by_cases c8 : t250 = true
       ·subst c8
        have H1 : (almanacref12_Rows.l0 k1 l0 l1 (wrap64 (x5_1 + 1))) = some r := by rw [if_pos rfl] at H; exact H
        clear H
        have H := H1
        clear H1
        have H' := Aside0.mk H
        clear H
        try go_wp2
        have n0_ := Aside0.mk (below_drew1 HB.out)
        clear HB
        have HB := n0_
        clear n0_
        have p248 : 0 ≤ (x5_1 : Int) := of_decide_eq_true (by first | (with_reducible assumption) | assumption)
        have q248 : x5_1 < (l0.length : Int) := of_decide_eq_true (by first | (with_reducible assumption) | assumption)
        obtain ⟨ad248, A248_1, c248_1, e248, hx248_0, hx248_1, hx248_2, hl248_1, hi248_1⟩ := at_T45 HR0.out x5_1 p248 q248
        have hw248_2 := hx248_2
        have hw248_1 := hx248_1
        have hw248_0 := hx248_0
        cases e248
        replace hx248_0 := (HB.out.cell (World.block_lt_of_cell? w _ hx248_0)).trans hx248_0
        replace hx248_1 := (HB.out.cell (World.block_lt_of_cell? w _ hx248_1)).trans hx248_1
        replace hx248_2 := (HB.out.cell (World.block_lt_of_cell? w _ hx248_2)).trans hx248_2
        have HR248_1 := Aside0.mk hi248_1
        have HC248_1 := Aside0.mk hl248_1
        clear hi248_1 hl248_1
        replace p248 := eq_true p248
        replace q248 := eq_true q248
        have p249 : 0 ≤ (x5_1 : Int) := of_decide_eq_true (by first | (with_reducible assumption) | assumption)
        have q249 : x5_1 < (l1.length : Int) := of_decide_eq_true (by first | (with_reducible assumption) | assumption)
        obtain ⟨ad249, A249_1, c249_1, e249, hx249_0, hx249_1, hx249_2, hl249_1, hi249_1⟩ := at_T45 HR1.out x5_1 p249 q249
        have hw249_2 := hx249_2
        have hw249_1 := hx249_1
        have hw249_0 := hx249_0
        cases e249
        replace hx249_0 := (HB.out.cell (World.block_lt_of_cell? w _ hx249_0)).trans hx249_0
        replace hx249_1 := (HB.out.cell (World.block_lt_of_cell? w _ hx249_1)).trans hx249_1
        replace hx249_2 := (HB.out.cell (World.block_lt_of_cell? w _ hx249_2)).trans hx249_2
        have HR249_1 := Aside0.mk hi249_1
        have HC249_1 := Aside0.mk hl249_1
        clear hi249_1 hl249_1
        replace p249 := eq_true p249
        replace q249 := eq_true q249
        refine start_ (n := 10) (S := fun w' => w'.cell? (ad248.add ((x5_1).toNat * 3)) = some (.string ((rd_T45 l0 x5_1).f0)) ∧ w'.cell? ⟨(ad248.add ((x5_1).toNat * 3)).block, (ad248.add ((x5_1).toNat * 3)).off + 1, none⟩ = some (.slice A248_1 ((rd_T45 l0 x5_1).f1).length c248_1) ∧ w'.cell? ⟨(ad248.add ((x5_1).toNat * 3)).block, (ad248.add ((x5_1).toNat * 3)).off + 2, none⟩ = some (.string ((rd_T45 l0 x5_1).f2)) ∧ w'.cell? (ad249.add ((x5_1).toNat * 3)) = some (.string ((rd_T45 l1 x5_1).f0)) ∧ w'.cell? ⟨(ad249.add ((x5_1).toNat * 3)).block, (ad249.add ((x5_1).toNat * 3)).off + 1, none⟩ = some (.slice A249_1 ((rd_T45 l1 x5_1).f1).length c249_1) ∧ w'.cell? ⟨(ad249.add ((x5_1).toNat * 3)).block, (ad249.add ((x5_1).toNat * 3)).off + 2, none⟩ = some (.string ((rd_T45 l1 x5_1).f2))) (ds := []) #[false, false, false, false, false, false, false, false, false, false] (by kernel_rfl) rfl rfl ⟨((HB.out.cell (World.block_lt_of_cell? w _ hw248_0)).trans hw248_0), ((HB.out.cell (World.block_lt_of_cell? w _ hw248_1)).trans hw248_1), ((HB.out.cell (World.block_lt_of_cell? w _ hw248_2)).trans hw248_2), ((HB.out.cell (World.block_lt_of_cell? w _ hw249_0)).trans hw249_0), ((HB.out.cell (World.block_lt_of_cell? w _ hw249_1)).trans hw249_1), ((HB.out.cell (World.block_lt_of_cell? w _ hw249_2)).trans hw249_2)⟩ (fun hHeld => ?_); refine with_tabW almanacref12_Rows.tab6 almanacref12_Rows.bits6 (fun HT_ HW_ => ?_)
        generalize wr.drew = w9 at HB HR248_1 HR249_1 hx248_0 hx248_1 hx248_2 hx249_0 hx249_1 hx249_2 hHeld ⊢
        refine pure_ (i := 0) (N := some 17) (v := ?_) (a' := ?_) #[true, false, false, false, false, false, false, false, false, false] rfl rfl (any_of HT_.out (by kernel_rfl)) (fun _ _ _ h => h) (Or.inl ⟨by rfl, ?_⟩) ?_ ?_
        rotate_left
        ·intro w'
         go_simp
         with_reducible rfl
        rotate_left
        ·simp only [Act.put, List.setIfInBounds_toArray, List.set_cons_zero, List.set_cons_succ, i64_w, i32_w]
         rfl
        refine pure_ (i := 1) (N := some 18) (v := ?_) (a' := ?_) #[true, true, false, false, false, false, false, false, false, false] rfl rfl (any_of HT_.out (by kernel_rfl)) (fun _ _ _ h => h) (Or.inl ⟨by rfl, ?_⟩) ?_ ?_
        rotate_left
        ·intro w'
         go_simp
         with_reducible rfl
        rotate_left
        ·simp only [Act.put, List.setIfInBounds_toArray, List.set_cons_zero, List.set_cons_succ, i64_w, i32_w]
         rfl
        refine pure_ (i := 2) (N := some 19) (v := ?_) (a' := ?_) #[true, true, true, false, false, false, false, false, false, false] rfl rfl (any_of HT_.out (by kernel_rfl)) (fun _ _ _ h => h) (Or.inl ⟨by rfl, ?_⟩) ?_ ?_
        rotate_left
        ·intro w'
         go_simp
         with_reducible rfl
        rotate_left
        ·simp only [Act.put, List.setIfInBounds_toArray, List.set_cons_zero, List.set_cons_succ, i64_w, i32_w]
         rfl
        refine pure_ (i := 4) (N := some 21) (v := ?_) (a' := ?_) #[true, true, true, false, true, false, false, false, false, false] rfl rfl (any_of HT_.out (by kernel_rfl)) (fun _ _ _ h => h) (Or.inl ⟨by rfl, ?_⟩) ?_ ?_
        rotate_left
        ·intro w'
         go_simp
         with_reducible rfl
        rotate_left
        ·simp only [Act.put, List.setIfInBounds_toArray, List.set_cons_zero, List.set_cons_succ, i64_w, i32_w]
         rfl
        refine pure_ (i := 5) (N := some 22) (v := ?_) (a' := ?_) #[true, true, true, false, true, true, false, false, false, false] rfl rfl (any_of HT_.out (by kernel_rfl)) (fun _ _ _ h => h) (Or.inl ⟨by rfl, ?_⟩) ?_ ?_
        rotate_left
        ·intro w'
         go_simp
         with_reducible rfl
        rotate_left
        ·simp only [Act.put, List.setIfInBounds_toArray, List.set_cons_zero, List.set_cons_succ, i64_w, i32_w]
         rfl
        refine pure_ (i := 6) (N := some 23) (v := ?_) (a' := ?_) #[true, true, true, false, true, true, true, false, false, false] rfl rfl (any_of HT_.out (by kernel_rfl)) (fun _ _ _ h => h) (Or.inl ⟨by rfl, ?_⟩) ?_ ?_
        rotate_left
        ·intro w'
         go_simp
         with_reducible rfl
        rotate_left
        ·simp only [Act.put, List.setIfInBounds_toArray, List.set_cons_zero, List.set_cons_succ, i64_w, i32_w]
         rfl
        refine take_ (i := 3) (N := some 20) (v := ?_) (a' := ?_) #[true, true, true, true, true, true, true, false, false, false] rfl rfl (take_ofW HT_.out HW_.out (by kernel_rfl)) (fun _ _ _ h => h) (Or.inl ⟨by rfl, ?_⟩) hHeld ?_ ?_
        rotate_left
        ·rintro w' ⟨s0, s1, s2, s3, s4, s5⟩
         go_simp
         with_reducible rfl
        rotate_left
        ·simp only [Act.put, List.setIfInBounds_toArray, List.set_cons_zero, List.set_cons_succ, i64_w, i32_w]
         rfl
        refine take_ (i := 7) (N := some 24) (v := ?_) (a' := ?_) #[true, true, true, true, true, true, true, true, false, false] rfl rfl (take_ofW HT_.out HW_.out (by kernel_rfl)) (fun _ _ _ h => h) (Or.inl ⟨by rfl, ?_⟩) hHeld ?_ ?_
        rotate_left
        ·rintro w' ⟨s0, s1, s2, s3, s4, s5⟩
         go_simp
         with_reducible rfl
        rotate_left
        ·simp only [Act.put, List.setIfInBounds_toArray, List.set_cons_zero, List.set_cons_succ, i64_w, i32_w]
         rfl
        refine one_ (i := 8) (N := some 25) #[true, true, true, true, true, true, true, true, true, false] rfl rfl (one_of HT_.out (by kernel_rfl)) (by decide) (fun K hK => ?_)
        refine goes_ Try.func88 (by kernel_rfl) rfl #[.agg #[.string ((rd_T45 l0 x5_1).f0), .slice A248_1 ((rd_T45 l0 x5_1).f1).length c248_1, .string ((rd_T45 l0 x5_1).f2)], .agg #[.string ((rd_T45 l1 x5_1).f0), .slice A249_1 ((rd_T45 l1 x5_1).f1).length c249_1, .string ((rd_T45 l1 x5_1).f2)]] (by rfl) rfl rfl (by (try simp only [List.map_toArray, List.map_cons, List.map_nil]); first | done | rfl | (simp only [List.length_drop, List.length_take]; rfl)) ?_
        with_reducible refine (almanacref11_Same.calls k1 ((rd_T45 l0 x5_1).f0) _ _ ((rd_T45 l0 x5_1).f1) ((rd_T45 l0 x5_1).f2) ((rd_T45 l1 x5_1).f0) _ _ ((rd_T45 l1 x5_1).f1) ((rd_T45 l1 x5_1).f2) true _ ?side1 ?side2 ?side3 ?side4 A7.out).mono ?_
        (case side1 => exact cU (Kd.C_below HR248_1.out HB.out))
        (case side2 => exact HC248_1.out)
        (case side3 => exact cU (Kd.C_below HR249_1.out HB.out))
        (case side4 => exact HC249_1.out)
        rintro e w10 ⟨rfl, hb⟩
        refine ⟨_, rfl, ?_⟩
        have n0_ := Aside0.mk (below_step (bU HB) hb)
        clear HB
        have HB := n0_
        clear n0_
        (try clear hb)
        (try clear hb2)
        (try clear hk)
        (try clear hi)
        refine hK.out _ _ ⟨((HB.out.cell (World.block_lt_of_cell? w _ hw248_0)).trans hw248_0), ((HB.out.cell (World.block_lt_of_cell? w _ hw248_1)).trans hw248_1), ((HB.out.cell (World.block_lt_of_cell? w _ hw248_2)).trans hw248_2), ((HB.out.cell (World.block_lt_of_cell? w _ hw249_0)).trans hw249_0), ((HB.out.cell (World.block_lt_of_cell? w _ hw249_1)).trans hw249_1), ((HB.out.cell (World.block_lt_of_cell? w _ hw249_2)).trans hw249_2)⟩ (fun hHeld => ?_)
        clear hK K
        refine norm_ (a' := ?_) ?_ ?_
        rotate_left
        ·show Act.put _ (some 25) _ = _
         simp only [Act.put, List.setIfInBounds_toArray, List.set_cons_zero, List.set_cons_succ, i64_w, i32_w]
         rfl
        refine pure_ (i := 9) (N := some 26) (v := ?_) (a' := ?_) #[true, true, true, true, true, true, true, true, true, true] rfl rfl (any_of HT_.out (by kernel_rfl)) (fun _ _ _ h => h) (Or.inl ⟨by rfl, ?_⟩) ?_ ?_
        rotate_left
        ·intro w'
         go_simp
         with_reducible rfl
        rotate_left
        ·simp only [Act.put, List.setIfInBounds_toArray, List.set_cons_zero, List.set_cons_succ, i64_w, i32_w]
         rfl
        refine done_ (done_of HT_.out (by kernel_rfl)) ?_
        try go_wp2
        go_roundg k1
        case measure => have := HK1.out; omega
        case rel => exact ⟨(wrap64 (x5_1 + 1)), (by first | rfl | (simp; done) | (simp [*]; done)), H', ⟨by have := HK1.out; omega⟩, ⟨bU HB⟩⟩
       ·replace c8 := Bool.eq_false_iff.mpr c8
        subst c8
        have H1 : (some false) = some r := by rw [if_neg (show ¬ (false = true) by decide)] at H; exact H
        clear H
        have H := H1
        clear H1
        obtain rfl := Option.some.inj H
        try go_wp2
        have n0_ := Aside0.mk (below_drew1 HB.out)
        clear HB
        have HB := n0_
        clear n0_
        have p248 : 0 ≤ (x5_1 : Int) := of_decide_eq_true (by first | (with_reducible assumption) | assumption)
        have q248 : x5_1 < (l0.length : Int) := of_decide_eq_true (by first | (with_reducible assumption) | assumption)
        obtain ⟨ad248, A248_1, c248_1, e248, hx248_0, hx248_1, hx248_2, hl248_1, hi248_1⟩ := at_T45 HR0.out x5_1 p248 q248
        have hw248_2 := hx248_2
        have hw248_1 := hx248_1
        have hw248_0 := hx248_0
        cases e248
        replace hx248_0 := (HB.out.cell (World.block_lt_of_cell? w _ hx248_0)).trans hx248_0
        replace hx248_1 := (HB.out.cell (World.block_lt_of_cell? w _ hx248_1)).trans hx248_1
        replace hx248_2 := (HB.out.cell (World.block_lt_of_cell? w _ hx248_2)).trans hx248_2
        have HR248_1 := Aside0.mk hi248_1
        have HC248_1 := Aside0.mk hl248_1
        clear hi248_1 hl248_1
        replace p248 := eq_true p248
        replace q248 := eq_true q248
        have p249 : 0 ≤ (x5_1 : Int) := of_decide_eq_true (by first | (with_reducible assumption) | assumption)
        have q249 : x5_1 < (l1.length : Int) := of_decide_eq_true (by first | (with_reducible assumption) | assumption)
        obtain ⟨ad249, A249_1, c249_1, e249, hx249_0, hx249_1, hx249_2, hl249_1, hi249_1⟩ := at_T45 HR1.out x5_1 p249 q249
        have hw249_2 := hx249_2
        have hw249_1 := hx249_1
        have hw249_0 := hx249_0
        cases e249
        replace hx249_0 := (HB.out.cell (World.block_lt_of_cell? w _ hx249_0)).trans hx249_0
        replace hx249_1 := (HB.out.cell (World.block_lt_of_cell? w _ hx249_1)).trans hx249_1
        replace hx249_2 := (HB.out.cell (World.block_lt_of_cell? w _ hx249_2)).trans hx249_2
        have HR249_1 := Aside0.mk hi249_1
        have HC249_1 := Aside0.mk hl249_1
        clear hi249_1 hl249_1
        replace p249 := eq_true p249
        replace q249 := eq_true q249
        refine start_ (n := 10) (S := fun w' => w'.cell? (ad248.add ((x5_1).toNat * 3)) = some (.string ((rd_T45 l0 x5_1).f0)) ∧ w'.cell? ⟨(ad248.add ((x5_1).toNat * 3)).block, (ad248.add ((x5_1).toNat * 3)).off + 1, none⟩ = some (.slice A248_1 ((rd_T45 l0 x5_1).f1).length c248_1) ∧ w'.cell? ⟨(ad248.add ((x5_1).toNat * 3)).block, (ad248.add ((x5_1).toNat * 3)).off + 2, none⟩ = some (.string ((rd_T45 l0 x5_1).f2)) ∧ w'.cell? (ad249.add ((x5_1).toNat * 3)) = some (.string ((rd_T45 l1 x5_1).f0)) ∧ w'.cell? ⟨(ad249.add ((x5_1).toNat * 3)).block, (ad249.add ((x5_1).toNat * 3)).off + 1, none⟩ = some (.slice A249_1 ((rd_T45 l1 x5_1).f1).length c249_1) ∧ w'.cell? ⟨(ad249.add ((x5_1).toNat * 3)).block, (ad249.add ((x5_1).toNat * 3)).off + 2, none⟩ = some (.string ((rd_T45 l1 x5_1).f2))) (ds := []) #[false, false, false, false, false, false, false, false, false, false] (by kernel_rfl) rfl rfl ⟨((HB.out.cell (World.block_lt_of_cell? w _ hw248_0)).trans hw248_0), ((HB.out.cell (World.block_lt_of_cell? w _ hw248_1)).trans hw248_1), ((HB.out.cell (World.block_lt_of_cell? w _ hw248_2)).trans hw248_2), ((HB.out.cell (World.block_lt_of_cell? w _ hw249_0)).trans hw249_0), ((HB.out.cell (World.block_lt_of_cell? w _ hw249_1)).trans hw249_1), ((HB.out.cell (World.block_lt_of_cell? w _ hw249_2)).trans hw249_2)⟩ (fun hHeld => ?_); refine with_tabW almanacref12_Rows.tab6 almanacref12_Rows.bits6 (fun HT_ HW_ => ?_)
        generalize wr.drew = w11 at HB HR248_1 HR249_1 hx248_0 hx248_1 hx248_2 hx249_0 hx249_1 hx249_2 hHeld ⊢
        refine pure_ (i := 0) (N := some 17) (v := ?_) (a' := ?_) #[true, false, false, false, false, false, false, false, false, false] rfl rfl (any_of HT_.out (by kernel_rfl)) (fun _ _ _ h => h) (Or.inl ⟨by rfl, ?_⟩) ?_ ?_
        rotate_left
        ·intro w'
         go_simp
         with_reducible rfl
        rotate_left
        ·simp only [Act.put, List.setIfInBounds_toArray, List.set_cons_zero, List.set_cons_succ, i64_w, i32_w]
         rfl
        refine pure_ (i := 1) (N := some 18) (v := ?_) (a' := ?_) #[true, true, false, false, false, false, false, false, false, false] rfl rfl (any_of HT_.out (by kernel_rfl)) (fun _ _ _ h => h) (Or.inl ⟨by rfl, ?_⟩) ?_ ?_
        rotate_left
        ·intro w'
         go_simp
         with_reducible rfl
        rotate_left
        ·simp only [Act.put, List.setIfInBounds_toArray, List.set_cons_zero, List.set_cons_succ, i64_w, i32_w]
         rfl
        refine pure_ (i := 2) (N := some 19) (v := ?_) (a' := ?_) #[true, true, true, false, false, false, false, false, false, false] rfl rfl (any_of HT_.out (by kernel_rfl)) (fun _ _ _ h => h) (Or.inl ⟨by rfl, ?_⟩) ?_ ?_
        rotate_left
        ·intro w'
         go_simp
         with_reducible rfl
        rotate_left
        ·simp only [Act.put, List.setIfInBounds_toArray, List.set_cons_zero, List.set_cons_succ, i64_w, i32_w]
         rfl
        refine pure_ (i := 4) (N := some 21) (v := ?_) (a' := ?_) #[true, true, true, false, true, false, false, false, false, false] rfl rfl (any_of HT_.out (by kernel_rfl)) (fun _ _ _ h => h) (Or.inl ⟨by rfl, ?_⟩) ?_ ?_
        rotate_left
        ·intro w'
         go_simp
         with_reducible rfl
        rotate_left
        ·simp only [Act.put, List.setIfInBounds_toArray, List.set_cons_zero, List.set_cons_succ, i64_w, i32_w]
         rfl
        refine pure_ (i := 5) (N := some 22) (v := ?_) (a' := ?_) #[true, true, true, false, true, true, false, false, false, false] rfl rfl (any_of HT_.out (by kernel_rfl)) (fun _ _ _ h => h) (Or.inl ⟨by rfl, ?_⟩) ?_ ?_
        rotate_left
        ·intro w'
         go_simp
         with_reducible rfl
        rotate_left
        ·simp only [Act.put, List.setIfInBounds_toArray, List.set_cons_zero, List.set_cons_succ, i64_w, i32_w]
         rfl
        refine pure_ (i := 6) (N := some 23) (v := ?_) (a' := ?_) #[true, true, true, false, true, true, true, false, false, false] rfl rfl (any_of HT_.out (by kernel_rfl)) (fun _ _ _ h => h) (Or.inl ⟨by rfl, ?_⟩) ?_ ?_
        rotate_left
        ·intro w'
         go_simp
         with_reducible rfl
        rotate_left
        ·simp only [Act.put, List.setIfInBounds_toArray, List.set_cons_zero, List.set_cons_succ, i64_w, i32_w]
         rfl
        refine take_ (i := 3) (N := some 20) (v := ?_) (a' := ?_) #[true, true, true, true, true, true, true, false, false, false] rfl rfl (take_ofW HT_.out HW_.out (by kernel_rfl)) (fun _ _ _ h => h) (Or.inl ⟨by rfl, ?_⟩) hHeld ?_ ?_
        rotate_left
        ·rintro w' ⟨s0, s1, s2, s3, s4, s5⟩
         go_simp
         with_reducible rfl
        rotate_left
        ·simp only [Act.put, List.setIfInBounds_toArray, List.set_cons_zero, List.set_cons_succ, i64_w, i32_w]
         rfl
        refine take_ (i := 7) (N := some 24) (v := ?_) (a' := ?_) #[true, true, true, true, true, true, true, true, false, false] rfl rfl (take_ofW HT_.out HW_.out (by kernel_rfl)) (fun _ _ _ h => h) (Or.inl ⟨by rfl, ?_⟩) hHeld ?_ ?_
        rotate_left
        ·rintro w' ⟨s0, s1, s2, s3, s4, s5⟩
         go_simp
         with_reducible rfl
        rotate_left
        ·simp only [Act.put, List.setIfInBounds_toArray, List.set_cons_zero, List.set_cons_succ, i64_w, i32_w]
         rfl
        refine one_ (i := 8) (N := some 25) #[true, true, true, true, true, true, true, true, true, false] rfl rfl (one_of HT_.out (by kernel_rfl)) (by decide) (fun K hK => ?_)
        refine goes_ Try.func88 (by kernel_rfl) rfl #[.agg #[.string ((rd_T45 l0 x5_1).f0), .slice A248_1 ((rd_T45 l0 x5_1).f1).length c248_1, .string ((rd_T45 l0 x5_1).f2)], .agg #[.string ((rd_T45 l1 x5_1).f0), .slice A249_1 ((rd_T45 l1 x5_1).f1).length c249_1, .string ((rd_T45 l1 x5_1).f2)]] (by rfl) rfl rfl (by (try simp only [List.map_toArray, List.map_cons, List.map_nil]); first | done | rfl | (simp only [List.length_drop, List.length_take]; rfl)) ?_
        with_reducible refine (almanacref11_Same.calls k1 ((rd_T45 l0 x5_1).f0) _ _ ((rd_T45 l0 x5_1).f1) ((rd_T45 l0 x5_1).f2) ((rd_T45 l1 x5_1).f0) _ _ ((rd_T45 l1 x5_1).f1) ((rd_T45 l1 x5_1).f2) false _ ?side1 ?side2 ?side3 ?side4 A7.out).mono ?_
        (case side1 => exact cU (Kd.C_below HR248_1.out HB.out))
        (case side2 => exact HC248_1.out)
        (case side3 => exact cU (Kd.C_below HR249_1.out HB.out))
        (case side4 => exact HC249_1.out)
        rintro e w12 ⟨rfl, hb⟩
        refine ⟨_, rfl, ?_⟩
        have n0_ := Aside0.mk (below_step (bU HB) hb)
        clear HB
        have HB := n0_
        clear n0_
        (try clear hb)
        (try clear hb2)
        (try clear hk)
        (try clear hi)
        refine hK.out _ _ ⟨((HB.out.cell (World.block_lt_of_cell? w _ hw248_0)).trans hw248_0), ((HB.out.cell (World.block_lt_of_cell? w _ hw248_1)).trans hw248_1), ((HB.out.cell (World.block_lt_of_cell? w _ hw248_2)).trans hw248_2), ((HB.out.cell (World.block_lt_of_cell? w _ hw249_0)).trans hw249_0), ((HB.out.cell (World.block_lt_of_cell? w _ hw249_1)).trans hw249_1), ((HB.out.cell (World.block_lt_of_cell? w _ hw249_2)).trans hw249_2)⟩ (fun hHeld => ?_)
        clear hK K
        refine norm_ (a' := ?_) ?_ ?_
        rotate_left
        ·show Act.put _ (some 25) _ = _
         simp only [Act.put, List.setIfInBounds_toArray, List.set_cons_zero, List.set_cons_succ, i64_w, i32_w]
         rfl
        refine pure_ (i := 9) (N := some 26) (v := ?_) (a' := ?_) #[true, true, true, true, true, true, true, true, true, true] rfl rfl (any_of HT_.out (by kernel_rfl)) (fun _ _ _ h => h) (Or.inl ⟨by rfl, ?_⟩) ?_ ?_
        rotate_left
        ·intro w'
         go_simp
         with_reducible rfl
        rotate_left
        ·simp only [Act.put, List.setIfInBounds_toArray, List.set_cons_zero, List.set_cons_succ, i64_w, i32_w]
         rfl
        refine done_ (done_of HT_.out (by kernel_rfl)) ?_
        try go_wp2
        go_ret
        exact ⟨eqU, bU HB⟩
      ·rw [if_neg c6] at H
       exact absurd H (by simp)
     ·rw [if_neg c5] at H
      exact absurd H (by simp)
    ·rw [if_neg c4] at H
     have c4b0 : decide (x5_1 < (l0.length : Int)) = false := decide_eq_false c4
     clear c4
     obtain rfl := Option.some.inj H
     go_wp2
     go_ret
     exact ⟨eqU, bU HB⟩
 ·rw [if_neg c3] at H
  have c3b0 : ((l0.length : Int) == (l1.length : Int)) = false := beq_eq_false_iff_ne.mpr c3
  have c3b1 : ((l0.length : Int) != (l1.length : Int)) = true := bne_iff_ne.mpr c3
  have c3b2 : (l0.length == l1.length) = false := by first | simpa using c3 | (simp at c3 ⊢; omega)
  obtain rfl := Option.some.inj H
  go_enter Try.func57, Try.ntmps57
  go_wp2
  go_ret
  exact ⟨eqU, bU HB⟩
end Go.Proofs.Ytebmbfobmakheaa.PD
namespace Go.Proofs.Ytebmbfobmakheaa.PD
open Go.RowKit Go.Proofs.YtebmbfobmakheaaW.PrintWords Go.Proofs.YtebmbfobmakheaaW.PrintLast Go.Proofs.YtebmbfobmakheaaW.PrintMore
set_option linter.unusedVariables false
set_option linter.unusedSimpArgs false
theorem ev_eq {α : Type} (p : α → α → Bool) (l m : List α) (hlen : l.length = m.length) (g : Nat → Int → Option Bool) (hend : ∀ k, g (k + 1) (l.length : Int) = some true)
    (hstep : ∀ (i : Nat) (h : i < l.length) (h' : i < m.length) (r : Bool), (p l[i] m[i] = true → Ev (fun k => g k ((i + 1 : Nat) : Int)) r) → (p l[i] m[i] = false → r = false) → Ev (fun k => g k (i : Int)) r) : Ev (fun k => g k 0) (eqL p l m) := by
  have key : ∀ d i : Nat, l.length - i = d → i ≤ l.length → Ev (fun k => g k (i : Int)) (((l.drop i).zip (m.drop i)).all fun q => p q.1 q.2) := by
    intro d
    induction d with
    | zero =>
      intro i hd hi
      have : i = l.length := by omega
      subst this
      refine ⟨1, fun k hk => ?_⟩
      obtain ⟨k, rfl⟩ : ∃ m, k = m + 1 := ⟨k - 1, by omega⟩
      show g (k + 1) _ = _
      rw [hend, List.drop_length]
      rfl
    | succ d ih =>
      intro i hd hi
      have hlt : i < l.length := by omega
      have hlt' : i < m.length := by omega
      rw [List.drop_eq_getElem_cons hlt, List.drop_eq_getElem_cons hlt', List.zip_cons_cons, List.all_cons]
      refine hstep i hlt hlt' _ (fun hp => ?_) (fun hp => by simp [hp])
      simp only [hp, Bool.true_and]
      exact ih (i + 1) (by omega) (by omega)
  have h0 := key l.length 0 (by omega) (by omega)
  unfold eqL
  rw [decide_eq_true hlen, Bool.true_and]
  exact h0
theorem eqL_len {α : Type} (p : α → α → Bool) {l m : List α} (h : l.length ≠ m.length) : eqL p l m = false := by unfold eqL; rw [decide_eq_false h, Bool.false_and]
theorem rtexts (l m : List ByteArray) (hl : l.length ≤ 9223372036854775807) : Ev (fun k => almanacref08_Texts.f k l m) (eqL sameB l m) := by
  unfold almanacref08_Texts.f
  by_cases hlen : l.length = m.length
  · refine Ev.congr (fun k => if_pos (by omega)) ?_
    refine ev_eq sameB l m hlen (fun k i => almanacref08_Texts.l0 k l m i) (fun k => ?_) (fun i h h' r h1 h2 => ?_)
    · simp only [almanacref08_Texts.l0]
      rw [if_neg (by omega)]
    · refine Ev.step (f := fun k => if l[i].toList = m[i].toList then almanacref08_Texts.l0 k l m ((i + 1 : Nat) : Int) else some false) (fun k => ?_) ?_
      · simp only [almanacref08_Texts.l0]
        rw [if_pos (by omega), if_pos (by omega), if_pos (by omega), wrap_next h (by omega), rdB_at l i h, rdB_at m i h']
      · by_cases he : l[i].toList = m[i].toList
        · exact Ev.congr (fun k => if_pos he) (h1 (by unfold sameB; exact beq_iff_eq.2 he))
        · rw [h2 (by unfold sameB; simpa using he)]
          exact ⟨0, fun k _ => if_neg he⟩
  · rw [eqL_len sameB hlen]
    exact ⟨0, fun k _ => if_neg (by omega)⟩
def LimP (p : S45) : Prop := p.f1.length ≤ 9223372036854775807 ∧ ∀ q ∈ p.f1, q.f1.length ≤ 9223372036854775807
theorem rsame11 (x y : S45) (hx : LimP x) : Ev (fun k => almanacref11_Same.f k x.f0 x.f1 x.f2 y.f0 y.f1 y.f2) (sameP x y) := by
  have hxl := hx.1
  unfold almanacref11_Same.f sameP sameB
  have hj : ∀ b : Bool, Ev (fun k => almanacref11_Same.l0 k 0 x.f0 x.f1 x.f2 y.f0 y.f1 y.f2) (eqL sameV x.f1 y.f1) ∨ b = true → Ev (fun k => almanacref11_Same.j0 k b x.f0 x.f1 x.f2 y.f0 y.f1 y.f2) (if b = true then false else eqL sameV x.f1 y.f1) := by
    intro b hb
    cases b with
    | true =>
      refine ⟨1, fun k hk => ?_⟩
      obtain ⟨k, rfl⟩ : ∃ m, k = m + 1 := ⟨k - 1, by omega⟩
      simp only [almanacref11_Same.j0]
      rfl
    | false =>
      rw [if_neg (by simp)]
      refine Ev.step (f := fun k => almanacref11_Same.l0 k 0 x.f0 x.f1 x.f2 y.f0 y.f1 y.f2) (fun k => ?_) (hb.resolve_right (by simp))
      simp only [almanacref11_Same.j0]
      rw [if_neg (by simp)]
  by_cases h1 : x.f0.toList = y.f0.toList
  · refine Ev.congr (fun k => if_pos h1) ?_
    rw [beq_iff_eq.2 h1, Bool.true_and]
    by_cases h2 : x.f2.toList = y.f2.toList
    · refine Ev.congr (fun k => if_pos h2) ?_
      rw [beq_iff_eq.2 h2, Bool.true_and]
      by_cases hlen : x.f1.length = y.f1.length
      · have e : ((x.f1.length : Int) != (y.f1.length : Int)) = false := bne_eq_false_iff_eq.2 (by omega)
        rw [e]
        have := hj false (.inl ?_)
        · exact this
        · refine ev_eq sameV x.f1 y.f1 hlen (fun k i => almanacref11_Same.l0 k i x.f0 x.f1 x.f2 y.f0 y.f1 y.f2) (fun k => ?_) (fun i h h' r g1 g2 => ?_)
          · simp only [almanacref11_Same.l0]
            rw [if_neg (by omega)]
          · refine Ev.step (f := fun k => if x.f1[i].f0.toList = y.f1[i].f0.toList then ((almanacref08_Texts.f k x.f1[i].f1 y.f1[i].f1).bind fun t247 => (if t247 = true then (almanacref11_Same.l0 k ((i + 1 : Nat) : Int) x.f0 x.f1 x.f2 y.f0 y.f1 y.f2) else (some false))) else some false) (fun k => ?_) ?_
            · simp only [almanacref11_Same.l0]
              rw [if_pos (by omega), if_pos (by omega), if_pos (by omega), wrap_next h (by omega), rd77_at x.f1 i h, rd77_at y.f1 i h']
            · by_cases he : x.f1[i].f0.toList = y.f1[i].f0.toList
              · refine Ev.congr (fun k => if_pos he) ?_
                refine Ev.bind (rtexts x.f1[i].f1 y.f1[i].f1 (hx.2 _ (List.getElem_mem h))) ?_
                have hv : sameV x.f1[i] y.f1[i] = eqL sameB x.f1[i].f1 y.f1[i].f1 := by unfold sameV sameB; rw [beq_iff_eq.2 he, Bool.true_and]
                cases hb : eqL sameB x.f1[i].f1 y.f1[i].f1 with
                | true =>
                  refine Ev.congr (fun k => ?_) (g1 (by rw [hv, hb]))
                  rw [if_pos rfl]
                | false =>
                  rw [g2 (by rw [hv, hb])]
                  exact ⟨0, fun k _ => rfl⟩
              · rw [g2 (by unfold sameV sameB; rw [beq_eq_false_iff_ne.2 he, Bool.false_and])]
                exact ⟨0, fun k _ => if_neg he⟩
      · have e : ((x.f1.length : Int) != (y.f1.length : Int)) = true := bne_iff_ne.2 (by omega)
        rw [e, eqL_len sameV hlen]
        exact hj true (.inr rfl)
    · rw [beq_eq_false_iff_ne.2 h2, Bool.false_and]
      exact Ev.congr (fun k => if_neg h2) (hj true (.inr rfl))
  · rw [beq_eq_false_iff_ne.2 h1, Bool.false_and, Bool.false_and]
    exact Ev.congr (fun k => if_neg h1) (hj true (.inr rfl))
theorem rrows (l m : List S45) (hl : l.length ≤ 9223372036854775807) (hp : ∀ x ∈ l, LimP x) : Ev (fun k => almanacref12_Rows.f k l m) (eqL sameP l m) := by
  unfold almanacref12_Rows.f
  by_cases hlen : l.length = m.length
  · refine Ev.congr (fun k => if_pos (by omega)) ?_
    refine ev_eq sameP l m hlen (fun k i => almanacref12_Rows.l0 k l m i) (fun k => ?_) (fun i h h' r h1 h2 => ?_)
    · simp only [almanacref12_Rows.l0]
      rw [if_neg (by omega)]
    · refine Ev.step (f := fun k => (almanacref11_Same.f k l[i].f0 l[i].f1 l[i].f2 m[i].f0 m[i].f1 m[i].f2).bind fun t250 => (if t250 = true then (almanacref12_Rows.l0 k l m ((i + 1 : Nat) : Int)) else (some false))) (fun k => ?_) ?_
      · simp only [almanacref12_Rows.l0]
        rw [if_pos (by omega), if_pos (by omega), if_pos (by omega), wrap_next h (by omega), rd45_at l i h, rd45_at m i h']
      · refine Ev.bind (rsame11 l[i] m[i] (hp _ (List.getElem_mem h))) ?_
        cases hb : sameP l[i] m[i] with
        | true =>
          refine Ev.congr (fun k => ?_) (h1 hb)
          rw [if_pos rfl]
        | false =>
          rw [h2 hb]
          exact ⟨0, fun k _ => rfl⟩
  · rw [eqL_len sameP hlen]
    exact ⟨0, fun k _ => if_neg (by omega)⟩
theorem toldP_len (l : List S45) : (toldP l).length ≤ 8 * l.length := by
  have : ∀ ns : List ByteArray, (ns.flatMap (byN l)).length ≤ ns.length * l.length := by
    intro ns
    induction ns with
    | nil => simp
    | cons n r ih =>
      rw [List.flatMap_cons, List.length_append, List.length_cons, Nat.succ_mul]
      have h1 : (byN l n).length ≤ l.length := List.length_filter_le _ _
      omega
  exact this toldN
end Go.Proofs.Ytebmbfobmakheaa.PD
namespace Go.Proofs.Ytebmbfobmakheaa.PD
open Go.RowKit Go.Proofs.YtebmbfobmakheaaW.PrintWords Go.Proofs.YtebmbfobmakheaaW.PrintLast Go.Proofs.YtebmbfobmakheaaW.PrintMore
attribute [local go_sem] isSome_setCell max2_int min2_int max_two min_two max_three min_three max_four min_four
set_option linter.unusedVariables false
set_option linter.unusedSimpArgs false
mutual
def almanacref12_Small.l0 : Nat → Int → Int → ByteArray → List (S45) → List (S25) → Option (Int)
 | 0, _, _, _, _, _ => none
 | k + 1, x1, x5, x102000, x102001, x102002 => if x5 < (x102001.length : Int) then (almanacref12_Small.j1 k x1 x5 (decide (x1 ≥ 0)) x102000 x102001 x102002) else (almanacref12_Small.j1 k x1 x5 false x102000 x102001 x102002)
def almanacref12_Small.j1 : Nat → Int → Int → Bool → ByteArray → List (S45) → List (S25) → Option (Int)
 | 0, _, _, _, _, _, _ => none
 | k + 1, x1, x5, x18, x102000, x102001, x102002 => if x18 = true then (if 0 ≤ x5 then (if x5 < (x102001.length : Int) then (almanacref12_Small.l1 k (wrap64 ((wrap64 (x1 - 1)) - (((rd_T45 x102001 x5).f1).length : Int))) x5 0 x102000 x102001 x102002) else (none)) else (none)) else (almanacref12_Small.l2 k x1 0 x102000 x102001 x102002)
def almanacref12_Small.l1 : Nat → Int → Int → Int → ByteArray → List (S45) → List (S25) → Option (Int)
 | 0, _, _, _, _, _, _ => none
 | k + 1, x1, x5, x6, x102000, x102001, x102002 => if 0 ≤ x5 then (if x5 < (x102001.length : Int) then (if x6 < (((rd_T45 x102001 x5).f1).length : Int) then (if x1 ≥ 0 then (if 0 ≤ x6 then (almanacref12_Small.l1 k (wrap64 (x1 - (((rd_T77 ((rd_T45 x102001 x5).f1) x6).f1).length : Int))) x5 (wrap64 (x6 + 1)) x102000 x102001 x102002) else (none)) else (almanacref12_Small.l0 k x1 (wrap64 (x5 + 1)) x102000 x102001 x102002)) else (almanacref12_Small.l0 k x1 (wrap64 (x5 + 1)) x102000 x102001 x102002)) else (none)) else (none)
def almanacref12_Small.l2 : Nat → Int → Int → ByteArray → List (S45) → List (S25) → Option (Int)
 | 0, _, _, _, _, _ => none
 | k + 1, x1, x7, x102000, x102001, x102002 => if x7 < (x102002.length : Int) then (if x1 ≥ 0 then (if 0 ≤ x7 then ((almanacref12_Small.f k ((rd_T25 x102002 x7).f0) ((rd_T25 x102002 x7).f1) ((rd_T25 x102002 x7).f2) x1).bind fun t107 => (almanacref12_Small.l2 k t107 (wrap64 (x7 + 1)) x102000 x102001 x102002)) else (none)) else (some x1)) else (some x1)
def almanacref12_Small.f : Nat → ByteArray → List (S45) → List (S25) → Int → Option (Int)
 | 0, _, _, _, _ => none
 | k + 1, a0_0, l0_1, l0_2, a1 => almanacref12_Small.l0 k (wrap64 (a1 - 1)) 0 a0_0 l0_1 l0_2
end
set_option maxHeartbeats 8000000 in
set_option maxRecDepth 100000 in
theorem almanacref12_Small.calls (k : Nat) : ∀ (a0_0 : ByteArray) (A0_1 : Option Addr) (c0_1 : Nat) (l0_1 : List (S45)) (A0_2 : Option Addr) (c0_2 : Nat) (l0_2 : List (S25)) (a1 : Int) (r : Int) (w : World) (hr0_1 : Kd.C k45 w A0_1 l0_1.length l0_1) (hc0_1 : l0_1.length ≤ c0_1) (hr0_2 : Kd.C k25 w A0_2 l0_2.length l0_2) (hc0_2 : l0_2.length ≤ c0_2) (h : almanacref12_Small.f k a0_0 l0_1 l0_2 a1 = some r),
  Calls Try.prog 33 #[.agg #[.string a0_0, .slice A0_1 l0_1.length c0_1, .slice A0_2 l0_2.length c0_2], .int .i64 a1] w fun e w' => e = .returned (.int .i64 r) ∧ Below w.heap.size w w' := by
 induction k using Nat.strongRecOn with
 | _ k ih =>
 intro a0_0 A0_1 c0_1 l0_1 A0_2 c0_2 l0_2 a1 r w hr0_1 hc0_1 hr0_2 hc0_2 h
 cases k with
 | zero => exact absurd h (by simp [almanacref12_Small.f])
 | succ k =>
 simp only [almanacref12_Small.f] at h
 have hu25 := Try.underlying25
 have HR0_1 := Aside0.mk hr0_1
 have HC0_1 := Aside0.mk hc0_1
 clear hr0_1 hc0_1
 have HR0_2 := Aside0.mk hr0_2
 have HC0_2 := Aside0.mk hc0_2
 clear hr0_2 hc0_2
 have HB := Aside0.mk (Below.refl w.heap.size w)
 have H : (almanacref12_Small.l0 k (wrap64 (a1 - 1)) 0 a0_0 l0_1 l0_2) = some r := h
 clear h
 have H' := Aside0.mk H
 clear H
 go_enter Try.func33, Try.ntmps33
 go_wp2_with (first | ((with_reducible refine gate_dst (N := 2) rfl ?_); refine box_event ?hg (N := 2) ?hd (cs := #[.string a0_0, .slice A0_1 l0_1.length c0_1, .slice A0_2 l0_2.length c0_2]) (t := 25) ?hr ?_; (case hd => rfl); (case hg => rfl); (case hr => first | (go_simp; done) | (go_simp; rfl)); intro gb101 hg w3 hbox hb; have n0_ := Aside0.mk (below_step (bU HB) hb); have n1_ := Aside0.mk (hbox); have n2_ := Aside0.mk ((by rw [hg]; exact (below_size (bU HB)) : w.heap.size ≤ gb101)); have n3_ := Aside0.mk ((by rw [hg]; exact (below_size (bU HB)) : w.heap.size ≤ gb101)); clear HB; have HB := n0_; have BK101 := n1_; have GW101 := n2_; have GE101 := n3_; clear n0_ n1_ n2_ n3_; clear hb hbox hg))
 go_loopg [1, 5] k (fun kq v1 v5 w' => ∃ (x1_1 : Int) (x5_1 : Int), v1 = .int .i64 x1_1 ∧ v5 = .int .i64 x5_1 ∧ Aside0 (almanacref12_Small.l0 kq x1_1 x5_1 a0_0 l0_1 l0_2 = some r) ∧ Aside0 (kq ≤ k) ∧ Aside0 (w'.heap[gb101]? = some (.cells #[.string a0_0, (.slice A0_1 l0_1.length c0_1), (.slice A0_2 l0_2.length c0_2)] 25 (0, 0))) ∧ Aside0 (Below w.heap.size w w'))
 case atStart => exact ⟨(wrap64 (a1 - 1)), (0), (by first | rfl | (simp; done) | (simp [*]; done)), (by first | rfl | (simp; done) | (simp [*]; done)), H', ⟨Nat.le_refl _⟩, ⟨kU BK101⟩, ⟨bU HB⟩⟩
 case round =>
  clear H'
  try clear p2
  try clear c3
  obtain ⟨x1_1, x5_1, rfl, rfl, HA, HK1, BK101, HB⟩ := hrel
  cases gk with
  | zero => exact absurd HA.out (by simp [almanacref12_Small.l0])
  | succ k1 =>
   have H := HA.out
   clear HA
   simp only [almanacref12_Small.l0] at H
   have HC4 := Aside0.mk H
   clear H
   go_upto_region 3 with (fail)
   go_cut [18] (fun v18 wc => ∃ (kq : Nat) (x18_3 : Bool), v18 = .bool x18_3 ∧ Aside0 (almanacref12_Small.j1 kq x1_1 x5_1 x18_3 a0_0 l0_1 l0_2 = some r) ∧ Aside0 (kq ≤ k1) ∧ Aside0 (wc.heap[gb101]? = some (.cells #[.string a0_0, (.slice A0_1 l0_1.length c0_1), (.slice A0_2 l0_2.length c0_2)] 25 (0, 0))) ∧ Aside0 (Below w.heap.size w wc))
   case first =>
    have H := HC4.out
    clear HC4
    by_cases c5 : x5_1 < (l0_1.length : Int)
    ·rw [if_pos c5] at H
     have c5b0 : decide (x5_1 < (l0_1.length : Int)) = true := decide_eq_true c5
     clear c5
     (first | rw [c5b0] | (simp only [i64_w, i32_w]; rw [c5b0]) | skip)
     have H' := Aside0.mk H
     clear H
     have hcz6_0 : wr.cell? ⟨gb101, 0, none⟩ = some (.string a0_0) := (blk_cell BK101.out 0).trans rfl
     have hcz6_1 : wr.cell? ⟨gb101, 1, none⟩ = some (.slice A0_1 l0_1.length c0_1) := (blk_cell BK101.out 1).trans rfl
     have hcz6_2 : wr.cell? ⟨gb101, 2, none⟩ = some (.slice A0_2 l0_2.length c0_2) := (blk_cell BK101.out 2).trans rfl
     have hfz6_0 := blk_frozen BK101.out 0
     have hfz6_1 := blk_frozen BK101.out 1
     have hfz6_2 := blk_frozen BK101.out 2
     go_wp2
     go_meet
     case rel => exact ⟨_, (decide (x1_1 ≥ 0)), (by first | rfl | (simp; done) | (simp [*]; done)), H', ⟨by have := HK1.out; first | omega | exact Nat.le_refl _⟩, ⟨kU BK101⟩, ⟨bU HB⟩⟩
    ·rw [if_neg c5] at H
     have c5b0 : decide (x5_1 < (l0_1.length : Int)) = false := decide_eq_false c5
     clear c5
     (first | rw [c5b0] | (simp only [i64_w, i32_w]; rw [c5b0]) | skip)
     have H' := Aside0.mk H
     clear H
     have hcz7_0 : wr.cell? ⟨gb101, 0, none⟩ = some (.string a0_0) := (blk_cell BK101.out 0).trans rfl
     have hcz7_1 : wr.cell? ⟨gb101, 1, none⟩ = some (.slice A0_1 l0_1.length c0_1) := (blk_cell BK101.out 1).trans rfl
     have hcz7_2 : wr.cell? ⟨gb101, 2, none⟩ = some (.slice A0_2 l0_2.length c0_2) := (blk_cell BK101.out 2).trans rfl
     have hfz7_0 := blk_frozen BK101.out 0
     have hfz7_1 := blk_frozen BK101.out 1
     have hfz7_2 := blk_frozen BK101.out 2
     go_wp2
     go_meet
     case rel => exact ⟨_, (false), (by first | rfl | (simp; done) | (simp [*]; done)), H', ⟨by have := HK1.out; first | omega | exact Nat.le_refl _⟩, ⟨kU BK101⟩, ⟨bU HB⟩⟩
   case rest =>
    clear HC4
    try clear p2
    try clear c3
    try clear c5
    try clear c5b0
    try clear p6
    try clear hcz6_0 hcz6_1 hcz6_2 hfz6_0 hfz6_1 hfz6_2
    try clear hcz7_0 hcz7_1 hcz7_2 hfz7_0 hfz7_1 hfz7_2
    try clear p2
    obtain ⟨kq, x18_3, rfl, HA, HJ3, BK101, HB⟩ := hcut
    cases kq with
    | zero => exact absurd HA.out (by simp [almanacref12_Small.j1])
    | succ kj3 =>
     have H := HA.out
     clear HA
     simp only [almanacref12_Small.j1] at H
     by_cases c8 : x18_3 = true
     ·subst c8
      have H1 : (if 0 ≤ x5_1 then (if x5_1 < (l0_1.length : Int) then (almanacref12_Small.l1 kj3 (wrap64 ((wrap64 (x1_1 - 1)) - (((rd_T45 l0_1 x5_1).f1).length : Int))) x5_1 0 a0_0 l0_1 l0_2) else (none)) else (none)) = some r := by rw [if_pos rfl] at H; exact H
      clear H
      have H := H1
      clear H1
      by_cases c9 : 0 ≤ x5_1
      ·rw [if_pos c9] at H
       have c9b0 : decide (0 ≤ x5_1) = true := decide_eq_true c9
       clear c9
       by_cases c10 : x5_1 < (l0_1.length : Int)
       ·rw [if_pos c10] at H
        have c10b0 : decide (x5_1 < (l0_1.length : Int)) = true := decide_eq_true c10
        clear c10
        have H' := Aside0.mk H
        clear H
        have hcz11_0 : wc.cell? ⟨gb101, 0, none⟩ = some (.string a0_0) := (blk_cell BK101.out 0).trans rfl
        have hcz11_1 : wc.cell? ⟨gb101, 1, none⟩ = some (.slice A0_1 l0_1.length c0_1) := (blk_cell BK101.out 1).trans rfl
        have hcz11_2 : wc.cell? ⟨gb101, 2, none⟩ = some (.slice A0_2 l0_2.length c0_2) := (blk_cell BK101.out 2).trans rfl
        have hfz11_0 := blk_frozen BK101.out 0
        have hfz11_1 := blk_frozen BK101.out 1
        have hfz11_2 := blk_frozen BK101.out 2
        have p102 : 0 ≤ (x5_1 : Int) := of_decide_eq_true (by first | (with_reducible assumption) | assumption)
        have q102 : x5_1 < (l0_1.length : Int) := of_decide_eq_true (by first | (with_reducible assumption) | assumption)
        obtain ⟨ad102, A102_1, c102_1, e102, hx102_0, hx102_1, hx102_2, hl102_1, hi102_1⟩ := at_T45 HR0_1.out x5_1 p102 q102
        cases e102
        replace hx102_0 := (HB.out.cell (World.block_lt_of_cell? w _ hx102_0)).trans hx102_0
        replace hx102_1 := (HB.out.cell (World.block_lt_of_cell? w _ hx102_1)).trans hx102_1
        replace hx102_2 := (HB.out.cell (World.block_lt_of_cell? w _ hx102_2)).trans hx102_2
        have HR102_1 := Aside0.mk hi102_1
        have HC102_1 := Aside0.mk hl102_1
        clear hi102_1 hl102_1
        replace p102 := eq_true p102
        replace q102 := eq_true q102
        go_wp2
        go_loopg [1, 6] kj3 (fun kq v1 v6 w' => ∃ (x1_3 : Int) (x6_3 : Int), v1 = .int .i64 x1_3 ∧ v6 = .int .i64 x6_3 ∧ Aside0 (almanacref12_Small.l1 kq x1_3 x5_1 x6_3 a0_0 l0_1 l0_2 = some r) ∧ Aside0 (kq ≤ kj3) ∧ Aside0 (w'.heap[gb101]? = some (.cells #[.string a0_0, (.slice (some ad102) l0_1.length c0_1), (.slice A0_2 l0_2.length c0_2)] 25 (0, 0))) ∧ Aside0 (Below w.heap.size w w'))
        case atStart => exact ⟨(wrap64 ((wrap64 (x1_1 - 1)) - (((rd_T45 l0_1 x5_1).f1).length : Int))), (0), (by first | rfl | (simp; done) | (simp [*]; done)), (by first | rfl | (simp; done) | (simp [*]; done)), H', ⟨Nat.le_refl _⟩, ⟨kU BK101⟩, ⟨bU HB⟩⟩
        case round =>
         clear H'
         try clear c1
         try clear p1
         try clear q1
         try clear hx1
         try clear p2
         try clear c3
         try clear c5
         try clear c5b0
         try clear p6
         try clear c8
         try clear c9
         try clear c9b0
         try clear c10
         try clear c10b0
         try clear p10
         try clear q10
         try clear hx10
         try clear hcz11_0 hcz11_1 hcz11_2 hfz11_0 hfz11_1 hfz11_2
         try clear hcz6_0 hcz6_1 hcz6_2 hfz6_0 hfz6_1 hfz6_2
         try clear hcz7_0 hcz7_1 hcz7_2 hfz7_0 hfz7_1 hfz7_2
         try clear hx102_0
         try clear hx102_1
         try clear hx102_2
         try clear p102
         try clear p2
         try clear p6
         try clear q102
         obtain ⟨x1_3, x6_3, rfl, rfl, HA, HK3, BK101, HB⟩ := hrel
         cases gk with
         | zero => exact absurd HA.out (by simp [almanacref12_Small.l1])
         | succ k3 =>
          have H := HA.out
          clear HA
          simp only [almanacref12_Small.l1] at H
          by_cases c12 : 0 ≤ x5_1
          ·rw [if_pos c12] at H
           have c12b0 : decide (0 ≤ x5_1) = true := decide_eq_true c12
           clear c12
           by_cases c13 : x5_1 < (l0_1.length : Int)
           ·rw [if_pos c13] at H
            have c13b0 : decide (x5_1 < (l0_1.length : Int)) = true := decide_eq_true c13
            clear c13
            by_cases c14 : x6_3 < (((rd_T45 l0_1 x5_1).f1).length : Int)
            ·rw [if_pos c14] at H
             have c14b0 : decide (x6_3 < (((rd_T45 l0_1 x5_1).f1).length : Int)) = true := decide_eq_true c14
             clear c14
             by_cases c15 : x1_3 ≥ 0
             ·rw [if_pos c15] at H
              have c15b0 : decide (0 ≤ x1_3) = true := decide_eq_true c15
              clear c15
              by_cases c16 : 0 ≤ x6_3
              ·rw [if_pos c16] at H
               have c16b0 : decide (0 ≤ x6_3) = true := decide_eq_true c16
               clear c16
               have H' := Aside0.mk H
               clear H
               have hcz17_0 : wr.cell? ⟨gb101, 0, none⟩ = some (.string a0_0) := (blk_cell BK101.out 0).trans rfl
               have hcz17_1 : wr.cell? ⟨gb101, 1, none⟩ = some (.slice (some ad102) l0_1.length c0_1) := (blk_cell BK101.out 1).trans rfl
               have hcz17_2 : wr.cell? ⟨gb101, 2, none⟩ = some (.slice A0_2 l0_2.length c0_2) := (blk_cell BK101.out 2).trans rfl
               have hfz17_0 := blk_frozen BK101.out 0
               have hfz17_1 := blk_frozen BK101.out 1
               have hfz17_2 := blk_frozen BK101.out 2
               have p103 : 0 ≤ (x5_1 : Int) := of_decide_eq_true (by first | (with_reducible assumption) | assumption)
               have q103 : x5_1 < (l0_1.length : Int) := of_decide_eq_true (by first | (with_reducible assumption) | assumption)
               obtain ⟨ad103, A103_1, c103_1, e103, hx103_0, hx103_1, hx103_2, hl103_1, hi103_1⟩ := at_T45 HR0_1.out x5_1 p103 q103
               obtain rfl : ad102 = ad103 := (by injection e103)
               replace hx103_0 := (HB.out.cell (World.block_lt_of_cell? w _ hx103_0)).trans hx103_0
               replace hx103_1 := (HB.out.cell (World.block_lt_of_cell? w _ hx103_1)).trans hx103_1
               replace hx103_2 := (HB.out.cell (World.block_lt_of_cell? w _ hx103_2)).trans hx103_2
               have HR103_1 := Aside0.mk hi103_1
               have HC103_1 := Aside0.mk hl103_1
               clear hi103_1 hl103_1
               replace p103 := eq_true p103
               replace q103 := eq_true q103
               have p104 : 0 ≤ (x5_1 : Int) := of_decide_eq_true (by first | (with_reducible assumption) | assumption)
               have q104 : x5_1 < (l0_1.length : Int) := of_decide_eq_true (by first | (with_reducible assumption) | assumption)
               obtain ⟨ad104, A104_1, c104_1, e104, hx104_0, hx104_1, hx104_2, hl104_1, hi104_1⟩ := at_T45 HR0_1.out x5_1 p104 q104
               obtain rfl : ad102 = ad104 := (by injection e104)
               replace hx104_0 := (HB.out.cell (World.block_lt_of_cell? w _ hx104_0)).trans hx104_0
               replace hx104_1 := (HB.out.cell (World.block_lt_of_cell? w _ hx104_1)).trans hx104_1
               replace hx104_2 := (HB.out.cell (World.block_lt_of_cell? w _ hx104_2)).trans hx104_2
               have HR104_1 := Aside0.mk hi104_1
               have HC104_1 := Aside0.mk hl104_1
               clear hi104_1 hl104_1
               replace p104 := eq_true p104
               replace q104 := eq_true q104
               have ea_ := Option.some.inj (hx103_1.symm.trans hx104_1)
               injection ea_ with ea_ en_ ec_
               subst ea_
               subst ec_
               clear en_
               have p105 : 0 ≤ (x6_3 : Int) := of_decide_eq_true (by first | (with_reducible assumption) | assumption)
               have q105 : x6_3 < (((rd_T45 l0_1 x5_1).f1).length : Int) := of_decide_eq_true (by first | (with_reducible assumption) | assumption)
               obtain ⟨ad105, A105_1, c105_1, e105, hx105_0, hx105_1, hl105_1, hi105_1⟩ := at_T77 HR104_1.out x6_3 p105 q105
               cases e105
               replace hx105_0 := (HB.out.cell (World.block_lt_of_cell? w _ hx105_0)).trans hx105_0
               replace hx105_1 := (HB.out.cell (World.block_lt_of_cell? w _ hx105_1)).trans hx105_1
               have HR105_1 := Aside0.mk hi105_1
               have HC105_1 := Aside0.mk hl105_1
               clear hi105_1 hl105_1
               replace p105 := eq_true p105
               replace q105 := eq_true q105
               go_wp2
               go_roundg k3
               case measure => have := HK1.out; have := HJ3.out; have := HK3.out; omega
               case rel => exact ⟨(wrap64 (x1_3 - (((rd_T77 ((rd_T45 l0_1 x5_1).f1) x6_3).f1).length : Int))), (wrap64 (x6_3 + 1)), (by first | rfl | (simp; done) | (simp [*]; done)), (by first | rfl | (simp; done) | (simp [*]; done)), H', ⟨by have := HK1.out; have := HJ3.out; have := HK3.out; omega⟩, ⟨kU BK101⟩, ⟨bU HB⟩⟩
              ·rw [if_neg c16] at H
               exact absurd H (by simp)
             ·rw [if_neg c15] at H
              have c15b0 : decide (0 ≤ x1_3) = false := decide_eq_false c15
              clear c15
              have H' := Aside0.mk H
              clear H
              have hcz18_0 : wr.cell? ⟨gb101, 0, none⟩ = some (.string a0_0) := (blk_cell BK101.out 0).trans rfl
              have hcz18_1 : wr.cell? ⟨gb101, 1, none⟩ = some (.slice (some ad102) l0_1.length c0_1) := (blk_cell BK101.out 1).trans rfl
              have hcz18_2 : wr.cell? ⟨gb101, 2, none⟩ = some (.slice A0_2 l0_2.length c0_2) := (blk_cell BK101.out 2).trans rfl
              have hfz18_0 := blk_frozen BK101.out 0
              have hfz18_1 := blk_frozen BK101.out 1
              have hfz18_2 := blk_frozen BK101.out 2
              have p103 : 0 ≤ (x5_1 : Int) := of_decide_eq_true (by first | (with_reducible assumption) | assumption)
              have q103 : x5_1 < (l0_1.length : Int) := of_decide_eq_true (by first | (with_reducible assumption) | assumption)
              obtain ⟨ad103, A103_1, c103_1, e103, hx103_0, hx103_1, hx103_2, hl103_1, hi103_1⟩ := at_T45 HR0_1.out x5_1 p103 q103
              obtain rfl : ad102 = ad103 := (by injection e103)
              replace hx103_0 := (HB.out.cell (World.block_lt_of_cell? w _ hx103_0)).trans hx103_0
              replace hx103_1 := (HB.out.cell (World.block_lt_of_cell? w _ hx103_1)).trans hx103_1
              replace hx103_2 := (HB.out.cell (World.block_lt_of_cell? w _ hx103_2)).trans hx103_2
              have HR103_1 := Aside0.mk hi103_1
              have HC103_1 := Aside0.mk hl103_1
              clear hi103_1 hl103_1
              replace p103 := eq_true p103
              replace q103 := eq_true q103
              go_wp2
              go_roundg k3
              case measure => have := HK1.out; have := HJ3.out; have := HK3.out; omega
              case rel => exact ⟨(x1_3), (wrap64 (x5_1 + 1)), (by first | rfl | (simp; done) | (simp [*]; done)), (by first | rfl | (simp; done) | (simp [*]; done)), H', ⟨by have := HK1.out; have := HJ3.out; have := HK3.out; omega⟩, ⟨kU BK101⟩, ⟨bU HB⟩⟩
            ·rw [if_neg c14] at H
             have c14b0 : decide (x6_3 < (((rd_T45 l0_1 x5_1).f1).length : Int)) = false := decide_eq_false c14
             clear c14
             have H' := Aside0.mk H
             clear H
             have hcz19_0 : wr.cell? ⟨gb101, 0, none⟩ = some (.string a0_0) := (blk_cell BK101.out 0).trans rfl
             have hcz19_1 : wr.cell? ⟨gb101, 1, none⟩ = some (.slice (some ad102) l0_1.length c0_1) := (blk_cell BK101.out 1).trans rfl
             have hcz19_2 : wr.cell? ⟨gb101, 2, none⟩ = some (.slice A0_2 l0_2.length c0_2) := (blk_cell BK101.out 2).trans rfl
             have hfz19_0 := blk_frozen BK101.out 0
             have hfz19_1 := blk_frozen BK101.out 1
             have hfz19_2 := blk_frozen BK101.out 2
             have p103 : 0 ≤ (x5_1 : Int) := of_decide_eq_true (by first | (with_reducible assumption) | assumption)
             have q103 : x5_1 < (l0_1.length : Int) := of_decide_eq_true (by first | (with_reducible assumption) | assumption)
             obtain ⟨ad103, A103_1, c103_1, e103, hx103_0, hx103_1, hx103_2, hl103_1, hi103_1⟩ := at_T45 HR0_1.out x5_1 p103 q103
             obtain rfl : ad102 = ad103 := (by injection e103)
             replace hx103_0 := (HB.out.cell (World.block_lt_of_cell? w _ hx103_0)).trans hx103_0
             replace hx103_1 := (HB.out.cell (World.block_lt_of_cell? w _ hx103_1)).trans hx103_1
             replace hx103_2 := (HB.out.cell (World.block_lt_of_cell? w _ hx103_2)).trans hx103_2
             have HR103_1 := Aside0.mk hi103_1
             have HC103_1 := Aside0.mk hl103_1
             clear hi103_1 hl103_1
             replace p103 := eq_true p103
             replace q103 := eq_true q103
             go_wp2
             go_roundg k3
             case measure => have := HK1.out; have := HJ3.out; have := HK3.out; omega
             case rel => exact ⟨(x1_3), (wrap64 (x5_1 + 1)), (by first | rfl | (simp; done) | (simp [*]; done)), (by first | rfl | (simp; done) | (simp [*]; done)), H', ⟨by have := HK1.out; have := HJ3.out; have := HK3.out; omega⟩, ⟨kU BK101⟩, ⟨bU HB⟩⟩
           ·rw [if_neg c13] at H
            exact absurd H (by simp)
          ·rw [if_neg c12] at H
           exact absurd H (by simp)
       ·rw [if_neg c10] at H
        exact absurd H (by simp)
      ·rw [if_neg c9] at H
       exact absurd H (by simp)
     ·replace c8 := Bool.eq_false_iff.mpr c8
      subst c8
      have H1 : (almanacref12_Small.l2 kj3 x1_1 0 a0_0 l0_1 l0_2) = some r := by rw [if_neg (show ¬ (false = true) by decide)] at H; exact H
      clear H
      have H := H1
      clear H1
      have H' := Aside0.mk H
      clear H
      go_wp2
      go_loopg [1, 7] kj3 (fun kq v1 v7 w' => ∃ (x1_3 : Int) (x7_3 : Int), v1 = .int .i64 x1_3 ∧ v7 = .int .i64 x7_3 ∧ Aside0 (almanacref12_Small.l2 kq x1_3 x7_3 a0_0 l0_1 l0_2 = some r) ∧ Aside0 (kq ≤ kj3) ∧ Aside0 (w'.heap[gb101]? = some (.cells #[.string a0_0, (.slice A0_1 l0_1.length c0_1), (.slice A0_2 l0_2.length c0_2)] 25 (0, 0))) ∧ Aside0 (Below w.heap.size w w'))
      case atStart => exact ⟨(x1_1), (0), (by first | rfl | (simp; done) | (simp [*]; done)), (by first | rfl | (simp; done) | (simp [*]; done)), H', ⟨Nat.le_refl _⟩, ⟨kU BK101⟩, ⟨bU HB⟩⟩
      case round =>
       clear H'
       try clear c1
       try clear p1
       try clear q1
       try clear hx1
       try clear p2
       try clear c3
       try clear c5
       try clear c5b0
       try clear p6
       try clear c8
       try clear c9
       try clear c9b0
       try clear c10
       try clear c10b0
       try clear p10
       try clear q10
       try clear hx10
       try clear c12
       try clear c12b0
       try clear c13
       try clear c13b0
       try clear c14
       try clear c14b0
       try clear c15
       try clear c15b0
       try clear c16
       try clear c16b0
       try clear hcz11_0 hcz11_1 hcz11_2 hfz11_0 hfz11_1 hfz11_2
       try clear hcz17_0 hcz17_1 hcz17_2 hfz17_0 hfz17_1 hfz17_2
       try clear hcz18_0 hcz18_1 hcz18_2 hfz18_0 hfz18_1 hfz18_2
       try clear hcz19_0 hcz19_1 hcz19_2 hfz19_0 hfz19_1 hfz19_2
       try clear hcz6_0 hcz6_1 hcz6_2 hfz6_0 hfz6_1 hfz6_2
       try clear hcz7_0 hcz7_1 hcz7_2 hfz7_0 hfz7_1 hfz7_2
       try clear hx102_0
       try clear hx102_1
       try clear hx102_2
       try clear hx103_0
       try clear hx103_1
       try clear hx103_2
       try clear hx104_0
       try clear hx104_1
       try clear hx104_2
       try clear hx105_0
       try clear hx105_1
       try clear p1
       try clear p10
       try clear p102
       try clear p103
       try clear p104
       try clear p105
       try clear p2
       try clear p6
       try clear q1
       try clear q10
       try clear q102
       try clear q103
       try clear q104
       try clear q105
       obtain ⟨x1_3, x7_3, rfl, rfl, HA, HK3, BK101, HB⟩ := hrel
       cases gk with
       | zero => exact absurd HA.out (by simp [almanacref12_Small.l2])
       | succ k3 =>
        have H := HA.out
        clear HA
        simp only [almanacref12_Small.l2] at H
        by_cases c20 : x7_3 < (l0_2.length : Int)
        ·rw [if_pos c20] at H
         have c20b0 : decide (x7_3 < (l0_2.length : Int)) = true := decide_eq_true c20
         clear c20
         by_cases c21 : x1_3 ≥ 0
         ·rw [if_pos c21] at H
          have c21b0 : decide (0 ≤ x1_3) = true := decide_eq_true c21
          clear c21
          by_cases c22 : 0 ≤ x7_3
          ·rw [if_pos c22] at H
           have c22b0 : decide (0 ≤ x7_3) = true := decide_eq_true c22
           clear c22
           replace H := Option.bind_eq_some_iff.mp H
           obtain ⟨t107, A230, H⟩ := H
           replace H : (almanacref12_Small.l2 k3 t107 (wrap64 (x7_3 + 1)) a0_0 l0_1 l0_2) = some r := H
           have A23 := Aside0.mk A230
           clear A230
           have H' := Aside0.mk H
           clear H
           have hcz24_0 : wr.cell? ⟨gb101, 0, none⟩ = some (.string a0_0) := (blk_cell BK101.out 0).trans rfl
           have hcz24_1 : wr.cell? ⟨gb101, 1, none⟩ = some (.slice A0_1 l0_1.length c0_1) := (blk_cell BK101.out 1).trans rfl
           have hcz24_2 : wr.cell? ⟨gb101, 2, none⟩ = some (.slice A0_2 l0_2.length c0_2) := (blk_cell BK101.out 2).trans rfl
           have hfz24_0 := blk_frozen BK101.out 0
           have hfz24_1 := blk_frozen BK101.out 1
           have hfz24_2 := blk_frozen BK101.out 2
           have p106 : 0 ≤ (x7_3 : Int) := of_decide_eq_true (by first | (with_reducible assumption) | assumption)
           have q106 : x7_3 < (l0_2.length : Int) := of_decide_eq_true (by first | (with_reducible assumption) | assumption)
           obtain ⟨ad106, A106_1, c106_1, A106_2, c106_2, e106, hx106_0, hx106_1, hx106_2, hl106_1, hi106_1, hl106_2, hi106_2⟩ := at_T25 HR0_2.out x7_3 p106 q106
           cases e106
           replace hx106_0 := (HB.out.cell (World.block_lt_of_cell? w _ hx106_0)).trans hx106_0
           replace hx106_1 := (HB.out.cell (World.block_lt_of_cell? w _ hx106_1)).trans hx106_1
           replace hx106_2 := (HB.out.cell (World.block_lt_of_cell? w _ hx106_2)).trans hx106_2
           have HR106_1 := Aside0.mk hi106_1
           have HC106_1 := Aside0.mk hl106_1
           clear hi106_1 hl106_1
           have HR106_2 := Aside0.mk hi106_2
           have HC106_2 := Aside0.mk hl106_2
           clear hi106_2 hl106_2
           replace p106 := eq_true p106
           replace q106 := eq_true q106
           go_wp2_with (first | ((with_reducible refine gate_callee (f := 33) rfl ?_); refine goesL_ (some 76) rfl rfl Try.func33 (by kernel_rfl) rfl #[.agg #[.string ((rd_T25 l0_2 x7_3).f0), .slice A106_1 ((rd_T25 l0_2 x7_3).f1).length c106_1, .slice A106_2 ((rd_T25 l0_2 x7_3).f2).length c106_2], .int .i64 x1_3] rfl (by (try simp only [List.map_toArray, List.map_cons, List.map_nil]); first | done | rfl | (simp only [List.length_drop, List.length_take]; rfl)) ?_; (with_reducible refine (ih k3 (by have := HK1.out; have := HJ3.out; have := HK3.out; omega) ((rd_T25 l0_2 x7_3).f0) _ _ ((rd_T25 l0_2 x7_3).f1) _ _ ((rd_T25 l0_2 x7_3).f2) x1_3 t107 _ ?side1 ?side2 ?side3 ?side4 A23.out).mono ?_); (case side1 => exact cU (Kd.C_below HR106_1.out HB.out)); (case side2 => exact HC106_1.out); (case side3 => exact cU (Kd.C_below HR106_2.out HB.out)); (case side4 => exact HC106_2.out); rintro e w25 ⟨rfl, hb⟩; refine ⟨_, rfl, ?_⟩; have n0_ := Aside0.mk (blk_below (kU BK101) hb); have n1_ := Aside0.mk (below_step (bU HB) hb); clear BK101; clear HB; have BK101 := n0_; have HB := n1_; clear n0_ n1_; (try clear hb); (try clear hb2); (try clear hk); (try clear hi)))
           go_roundg k3
           case measure => have := HK1.out; have := HJ3.out; have := HK3.out; omega
           case rel => exact ⟨(t107), (wrap64 (x7_3 + 1)), (by first | rfl | (simp; done) | (simp [*]; done)), (by first | rfl | (simp; done) | (simp [*]; done)), H', ⟨by have := HK1.out; have := HJ3.out; have := HK3.out; omega⟩, ⟨kU BK101⟩, ⟨bU HB⟩⟩
          ·rw [if_neg c22] at H
           exact absurd H (by simp)
         ·rw [if_neg c21] at H
          have c21b0 : decide (0 ≤ x1_3) = false := decide_eq_false c21
          clear c21
          obtain rfl := Option.some.inj H
          have hcz26_0 : wr.cell? ⟨gb101, 0, none⟩ = some (.string a0_0) := (blk_cell BK101.out 0).trans rfl
          have hcz26_1 : wr.cell? ⟨gb101, 1, none⟩ = some (.slice A0_1 l0_1.length c0_1) := (blk_cell BK101.out 1).trans rfl
          have hcz26_2 : wr.cell? ⟨gb101, 2, none⟩ = some (.slice A0_2 l0_2.length c0_2) := (blk_cell BK101.out 2).trans rfl
          have hfz26_0 := blk_frozen BK101.out 0
          have hfz26_1 := blk_frozen BK101.out 1
          have hfz26_2 := blk_frozen BK101.out 2
          go_wp2
          go_ret
          exact ⟨eqU, bU HB⟩
        ·rw [if_neg c20] at H
         have c20b0 : decide (x7_3 < (l0_2.length : Int)) = false := decide_eq_false c20
         clear c20
         obtain rfl := Option.some.inj H
         have hcz27_0 : wr.cell? ⟨gb101, 0, none⟩ = some (.string a0_0) := (blk_cell BK101.out 0).trans rfl
         have hcz27_1 : wr.cell? ⟨gb101, 1, none⟩ = some (.slice A0_1 l0_1.length c0_1) := (blk_cell BK101.out 1).trans rfl
         have hcz27_2 : wr.cell? ⟨gb101, 2, none⟩ = some (.slice A0_2 l0_2.length c0_2) := (blk_cell BK101.out 2).trans rfl
         have hfz27_0 := blk_frozen BK101.out 0
         have hfz27_1 := blk_frozen BK101.out 1
         have hfz27_2 := blk_frozen BK101.out 2
         go_wp2
         go_ret
         exact ⟨eqU, bU HB⟩
end Go.Proofs.Ytebmbfobmakheaa.PD
namespace Go.Proofs.Ytebmbfobmakheaa.PD
open Go.RowKit Go.Proofs.YtebmbfobmakheaaW.PrintWords Go.Proofs.YtebmbfobmakheaaW.PrintLast Go.Proofs.YtebmbfobmakheaaW.PrintMore
attribute [local go_sem] isSome_setCell max2_int min2_int max_two min_two max_three min_three max_four min_four
set_option linter.unusedVariables false
set_option linter.unusedSimpArgs false
def almanacref12_Light.f (k : Nat) (a0_0 : ByteArray) (l0_1 : List (S45)) (l0_2 : List (S25)) : Option (Bool) := (almanacref12_Small.f k a0_0 l0_1 l0_2 5000).bind fun t109 => (some (decide (t109 ≥ 0)))
set_option maxHeartbeats 8000000 in
set_option maxRecDepth 100000 in
theorem almanacref12_Light.calls (k : Nat) (a0_0 : ByteArray) (A0_1 : Option Addr) (c0_1 : Nat) (l0_1 : List (S45)) (A0_2 : Option Addr) (c0_2 : Nat) (l0_2 : List (S25)) (r : Bool) (w : World) (hr0_1 : Kd.C k45 w A0_1 l0_1.length l0_1) (hc0_1 : l0_1.length ≤ c0_1) (hr0_2 : Kd.C k25 w A0_2 l0_2.length l0_2) (hc0_2 : l0_2.length ≤ c0_2) (h : almanacref12_Light.f k a0_0 l0_1 l0_2 = some r) :
  Calls Try.prog 6 #[.agg #[.string a0_0, .slice A0_1 l0_1.length c0_1, .slice A0_2 l0_2.length c0_2]] w fun e w' => e = .returned (.bool r) ∧ Below w.heap.size w w' := by
 have hu25 := Try.underlying25
 have HR0_1 := Aside0.mk hr0_1
 have HC0_1 := Aside0.mk hc0_1
 clear hr0_1 hc0_1
 have HR0_2 := Aside0.mk hr0_2
 have HC0_2 := Aside0.mk hc0_2
 clear hr0_2 hc0_2
 have HB := Aside0.mk (Below.refl w.heap.size w)
 have H : ((almanacref12_Small.f k a0_0 l0_1 l0_2 5000).bind fun t109 => (some (decide (t109 ≥ 0)))) = some r := h
 clear h
 replace H := Option.bind_eq_some_iff.mp H
 obtain ⟨t109, A20, H⟩ := H
 replace H : (some (decide (t109 ≥ 0))) = some r := H
 have A2 := Aside0.mk A20
 clear A20
 obtain rfl := Option.some.inj H
 go_enter Try.func6, Try.ntmps6
 go_wp2_with (first | ((with_reducible refine gate_dst (N := 1) rfl ?_); refine box_event ?hg (N := 1) ?hd (cs := #[.string a0_0, .slice A0_1 l0_1.length c0_1, .slice A0_2 l0_2.length c0_2]) (t := 25) ?hr ?_; (case hd => rfl); (case hg => rfl); (case hr => first | (go_simp; done) | (go_simp; rfl)); intro gb108 hg w3 hbox hb; have n0_ := Aside0.mk (below_step (bU HB) hb); have n1_ := Aside0.mk (hbox); have n2_ := Aside0.mk ((by rw [hg]; exact (below_size (bU HB)) : w.heap.size ≤ gb108)); have n3_ := Aside0.mk ((by rw [hg]; exact (below_size (bU HB)) : w.heap.size ≤ gb108)); clear HB; have HB := n0_; have BK108 := n1_; have GW108 := n2_; have GE108 := n3_; clear n0_ n1_ n2_ n3_; clear hb hbox hg; have hcz4_0 : w3.cell? ⟨gb108, 0, none⟩ = some (.string a0_0) := (blk_cell BK108.out 0).trans rfl; have hcz4_1 : w3.cell? ⟨gb108, 1, none⟩ = some (.slice A0_1 l0_1.length c0_1) := (blk_cell BK108.out 1).trans rfl; have hcz4_2 : w3.cell? ⟨gb108, 2, none⟩ = some (.slice A0_2 l0_2.length c0_2) := (blk_cell BK108.out 2).trans rfl; have hfz4_0 := blk_frozen BK108.out 0; have hfz4_1 := blk_frozen BK108.out 1; have hfz4_2 := blk_frozen BK108.out 2) | ((with_reducible refine gate_callee (f := 33) rfl ?_); refine goesL_ (some 4) rfl rfl Try.func33 (by kernel_rfl) rfl #[.agg #[.string a0_0, .slice A0_1 l0_1.length c0_1, .slice A0_2 l0_2.length c0_2], .int .i64 5000] rfl (by (try simp only [List.map_toArray, List.map_cons, List.map_nil]); first | done | rfl | (simp only [List.length_drop, List.length_take]; rfl)) ?_; (with_reducible refine (almanacref12_Small.calls k a0_0 _ _ l0_1 _ _ l0_2 5000 t109 _ ?side1 ?side2 ?side3 ?side4 A2.out).mono ?_); (case side1 => exact cU (Kd.C_below HR0_1.out HB.out)); (case side2 => exact HC0_1.out); (case side3 => exact cU (Kd.C_below HR0_2.out HB.out)); (case side4 => exact HC0_2.out); rintro e w5 ⟨rfl, hb⟩; refine ⟨_, rfl, ?_⟩; have n0_ := Aside0.mk (blk_below (kU BK108) hb); have n1_ := Aside0.mk (below_step (bU HB) hb); clear BK108; clear HB; have BK108 := n0_; have HB := n1_; clear n0_ n1_; (try clear hb); (try clear hb2); (try clear hk); (try clear hi)))
 go_ret
 exact ⟨eqU, bU HB⟩
end Go.Proofs.Ytebmbfobmakheaa.PD
namespace Go.Proofs.Ytebmbfobmakheaa.PD
open Go.RowKit Go.Proofs.YtebmbfobmakheaaW.PrintWords Go.Proofs.YtebmbfobmakheaaW.PrintLast Go.Proofs.YtebmbfobmakheaaW.PrintMore
set_option linter.unusedVariables false
set_option linter.unusedSimpArgs false
def SzP (p : S45) : Prop := p.f2.size ≤ 140737488351232 ∧ p.f1.length ≤ 140737488355328 ∧ ∀ q ∈ p.f1, q.f1.length ≤ 140737488355328 ∧ ∀ v ∈ q.f1, v.size ≤ 140737488351232
inductive Sz : S25 → Prop
  | mk (x : S25) : x.f1.length ≤ 140737488355328 → (∀ p ∈ x.f1, SzP p) → x.f2.length ≤ 140737488355328 → (∀ y ∈ x.f2, Sz y) → Sz x
theorem Sz.f1l {x : S25} (h : Sz x) : x.f1.length ≤ 140737488355328 := by cases h; assumption
theorem Sz.f1p {x : S25} (h : Sz x) : ∀ p ∈ x.f1, SzP p := by cases h; assumption
theorem Sz.f2l {x : S25} (h : Sz x) : x.f2.length ≤ 140737488355328 := by cases h; assumption
theorem Sz.f2p {x : S25} (h : Sz x) : ∀ y ∈ x.f2, Sz y := by cases h; assumption
def PB (n : Int) (l : List S45) : Prop := (l.length : Int) ≤ n ∧ ∀ p ∈ l, (p.f1.length : Int) ≤ n ∧ ∀ q ∈ p.f1, (q.f1.length : Int) ≤ n
def SL : List S25 → Nat
  | [] => 0
  | y :: r => y.f1.length + SL r
def CB (n : Int) (l : List S25) : Prop := (l.length : Int) ≤ n ∧ (∀ y ∈ l, PB n y.f1) ∧ (SL l : Int) ≤ n
theorem PB.mono {n m : Int} {l : List S45} (h : PB n l) (hn : n ≤ m) : PB m l := ⟨Int.le_trans h.1 hn, fun p hp => ⟨Int.le_trans (h.2 p hp).1 hn, fun q hq => Int.le_trans ((h.2 p hp).2 q hq) hn⟩⟩
theorem CB.mono {n m : Int} {l : List S25} (h : CB n l) (hn : n ≤ m) : CB m l := ⟨Int.le_trans h.1 hn, fun y hy => (h.2.1 y hy).mono hn, Int.le_trans h.2.2 hn⟩
def Told (left r : Int) (P : Prop) : Prop := r ≤ left ∧ -281474976710656 ≤ r ∧ (0 ≤ r → P)
theorem rsmall : ∀ (n : Nat) (a : ByteArray) (l1 : List S45) (l2 : List S25) (left : Int), left ≤ n → 0 ≤ left → (n : Int) ≤ 1000000 → l1.length ≤ 140737488355328 → (∀ p ∈ l1, SzP p) → l2.length ≤ 140737488355328 → (∀ y ∈ l2, Sz y) →
    ∃ r, Ev (fun k => almanacref12_Small.f k a l1 l2 left) r ∧ Told (left - 1) r (r + 1 + l1.length ≤ left ∧ PB (left - 1) l1 ∧ CB (left - 1) l2) := by
  intro n
  induction n with
  | zero =>
    intro a l1 l2 left hn h0 hm hl1 hp1 hl2 hp2
    have : left = 0 := by omega
    subst this
    refine ⟨-1, ?_, by omega, by omega, fun h => by omega⟩
    refine Ev.step (f := fun k => almanacref12_Small.l0 k (-1) 0 a l1 l2) (fun k => ?_) ?_
    · simp only [almanacref12_Small.f]
      rw [show wrap64 (0 - 1) = -1 by unfold wrap64; omega]
    · refine Ev.step (f := fun k => almanacref12_Small.j1 k (-1) 0 false a l1 l2) (fun k => ?_) ?_
      · simp only [almanacref12_Small.l0]
        split <;> rfl
      · refine Ev.step (f := fun k => almanacref12_Small.l2 k (-1) 0 a l1 l2) (fun k => ?_) ?_
        · simp only [almanacref12_Small.j1]
          rfl
        · refine Ev.step (f := fun k => some (-1)) (fun k => ?_) (Ev.now _)
          simp only [almanacref12_Small.l2]
          split
          · rfl
          · rfl
  | succ n ihn =>
    intro a l1 l2 left hn h0 hm hl1 hp1 hl2 hp2
    have s2 : ∀ (d i : Nat) (x : Int), l2.length - i = d → i ≤ l2.length → x ≤ n → -281474976710656 ≤ x → ∃ r, Ev (fun k => almanacref12_Small.l2 k x i a l1 l2) r ∧ Told x r (r + SL (l2.drop i) ≤ x ∧ CB x (l2.drop i)) := by
      intro d
      induction d with
      | zero =>
        intro i x hd hi hx hxl
        refine ⟨x, Ev.step (f := fun k => some x) (fun k => ?_) (Ev.now _), Int.le_refl _, hxl, fun h => ?_⟩
        · simp only [almanacref12_Small.l2]
          rw [if_neg (by omega)]
        · rw [List.drop_eq_nil_of_le (by omega)]
          exact ⟨by show x + 0 ≤ x; omega, h, fun y hy => (by cases hy), h⟩
      | succ d ih =>
        intro i x hd hi hx hxl
        have hlt : i < l2.length := by omega
        by_cases hx0 : x ≥ 0
        · have hsz := hp2 l2[i] (List.getElem_mem hlt)
          obtain ⟨r1, e1, t1, t2, t3⟩ := ihn l2[i].f0 l2[i].f1 l2[i].f2 x hx hx0 (by omega) hsz.f1l hsz.f1p hsz.f2l hsz.f2p
          obtain ⟨r, e, u1, u2, u3⟩ := ih (i + 1) r1 (by omega) (by omega) (by omega) t2
          refine ⟨r, ?_, by omega, u2, fun h => ?_⟩
          · refine Ev.step (f := fun k => (almanacref12_Small.f k l2[i].f0 l2[i].f1 l2[i].f2 x).bind fun t107 => almanacref12_Small.l2 k t107 ((i + 1 : Nat) : Int) a l1 l2) (fun k => ?_) (Ev.bind e1 e)
            simp only [almanacref12_Small.l2]
            rw [if_pos (by omega), if_pos hx0, if_pos (by omega), wrap_next hlt (by omega), rd25_at l2 i hlt]
          · obtain ⟨p0, p1, p2⟩ := t3 (by omega)
            obtain ⟨g0, g1⟩ := u3 h
            obtain ⟨c1, c2, c3⟩ := g1.mono (show r1 ≤ x - 1 by omega)
            rw [List.drop_eq_getElem_cons hlt]
            have hsl : (SL (l2[i] :: l2.drop (i + 1)) : Int) = (l2[i].f1.length : Int) + (SL (l2.drop (i + 1)) : Int) := by show (((l2[i].f1.length + SL (l2.drop (i + 1)) : Nat)) : Int) = _; omega
            refine ⟨by omega, by rw [List.length_cons]; omega, fun y hy => ?_, by omega⟩
            rcases List.mem_cons.1 hy with rfl | hy
            · exact p1.mono (by omega)
            · exact (c2 y hy).mono (by omega)
        · refine ⟨x, Ev.step (f := fun k => some x) (fun k => ?_) (Ev.now _), Int.le_refl _, hxl, fun h => by omega⟩
          simp only [almanacref12_Small.l2]
          rw [if_pos (by omega), if_neg hx0]
    have s0 : ∀ (d i : Nat) (x : Int), l1.length - i = d → i ≤ l1.length → x ≤ n → -281474976710656 ≤ x → ∃ r, Ev (fun k => almanacref12_Small.l0 k x i a l1 l2) r ∧ Told x r (r + ((l1.drop i).length : Int) ≤ x ∧ PB x (l1.drop i) ∧ CB x l2) := by
      intro d
      induction d with
      | zero =>
        intro i x hd hi hx hxl
        obtain ⟨r, e, u1, u2, u3⟩ := s2 l2.length 0 x (by omega) (by omega) hx hxl
        refine ⟨r, ?_, u1, u2, fun h => ⟨by rw [List.drop_eq_nil_of_le (by omega)]; show r + 0 ≤ x; omega, ?_, (u3 h).2⟩⟩
        · refine Ev.step (f := fun k => almanacref12_Small.j1 k x i false a l1 l2) (fun k => ?_) (Ev.step (f := fun k => almanacref12_Small.l2 k x 0 a l1 l2) (fun k => ?_) e)
          · simp only [almanacref12_Small.l0]
            rw [if_neg (by omega)]
          · simp only [almanacref12_Small.j1]
            rw [if_neg (by simp)]
        · rw [List.drop_eq_nil_of_le (by omega)]
          exact ⟨Int.le_trans h u1, fun p hp => by cases hp⟩
      | succ d ih =>
        intro i x hd hi hx hxl
        have hlt : i < l1.length := by omega
        by_cases hx0 : x ≥ 0
        · have hsz := hp1 l1[i] (List.getElem_mem hlt)
          have hpl := hsz.2.1
          have s1 : ∀ (e j : Nat) (y : Int), l1[i].f1.length - j = e → j ≤ l1[i].f1.length → y ≤ n → -281474976710656 ≤ y → ∃ r, Ev (fun k => almanacref12_Small.l1 k y i j a l1 l2) r ∧ Told y r (r + ((l1.drop (i + 1)).length : Int) ≤ y ∧ (∀ q ∈ l1[i].f1.drop j, (q.f1.length : Int) ≤ y) ∧ PB y (l1.drop (i + 1)) ∧ CB y l2) := by
            intro e
            induction e with
            | zero =>
              intro j y he hj hy hyl
              obtain ⟨r, ev, u1, u2, u3⟩ := ih (i + 1) y (by omega) (by omega) hy hyl
              refine ⟨r, Ev.step (f := fun k => almanacref12_Small.l0 k y ((i + 1 : Nat) : Int) a l1 l2) (fun k => ?_) ev, u1, u2, fun h => ⟨(u3 h).1, ?_, (u3 h).2⟩⟩
              · simp only [almanacref12_Small.l1]
                rw [if_pos (by omega), if_pos (by omega), rd45_at l1 i hlt, if_neg (by omega), wrap_next hlt (by omega)]
              · rw [List.drop_eq_nil_of_le (by omega)]
                intro q hq; cases hq
            | succ e ihe =>
              intro j y he hj hy hyl
              have hltj : j < l1[i].f1.length := by omega
              have hql := (hsz.2.2 _ (List.getElem_mem hltj)).1
              by_cases hy0 : y ≥ 0
              · obtain ⟨r, ev, u1, u2, u3⟩ := ihe (j + 1) (y - (l1[i].f1[j].f1.length : Int)) (by omega) (by omega) (by omega) (by omega)
                refine ⟨r, Ev.step (f := fun k => almanacref12_Small.l1 k (y - (l1[i].f1[j].f1.length : Int)) i ((j + 1 : Nat) : Int) a l1 l2) (fun k => ?_) ev, by omega, u2, fun h => ?_⟩
                · simp only [almanacref12_Small.l1]
                  rw [if_pos (by omega), if_pos (by omega), rd45_at l1 i hlt, if_pos (by omega), if_pos hy0, if_pos (by omega), rd77_at l1[i].f1 j hltj, wrap_next hltj (by omega), show wrap64 (y - (l1[i].f1[j].f1.length : Int)) = y - (l1[i].f1[j].f1.length : Int) by unfold wrap64; omega]
                · obtain ⟨v0, v1, v2, v3⟩ := u3 h
                  rw [List.drop_eq_getElem_cons hltj]
                  refine ⟨by omega, fun q hq => ?_, v2.mono (by omega), v3.mono (by omega)⟩
                  rcases List.mem_cons.1 hq with rfl | hq
                  · omega
                  · exact Int.le_trans (v1 q hq) (by omega)
              · obtain ⟨r, ev, u1, u2, u3⟩ := ih (i + 1) y (by omega) (by omega) hy hyl
                refine ⟨r, Ev.step (f := fun k => almanacref12_Small.l0 k y ((i + 1 : Nat) : Int) a l1 l2) (fun k => ?_) ev, u1, u2, fun h => by omega⟩
                simp only [almanacref12_Small.l1]
                rw [if_pos (by omega), if_pos (by omega), rd45_at l1 i hlt, if_pos (by omega), if_neg hy0, wrap_next hlt (by omega)]
          obtain ⟨r, ev, u1, u2, u3⟩ := s1 l1[i].f1.length 0 (x - 1 - (l1[i].f1.length : Int)) (by omega) (by omega) (by omega) (by omega)
          refine ⟨r, ?_, by omega, u2, fun h => ?_⟩
          · refine Ev.step (f := fun k => almanacref12_Small.j1 k x i true a l1 l2) (fun k => ?_) (Ev.step (f := fun k => almanacref12_Small.l1 k (x - 1 - (l1[i].f1.length : Int)) i 0 a l1 l2) (fun k => ?_) ev)
            · simp only [almanacref12_Small.l0]
              rw [if_pos (by omega), decide_eq_true hx0]
            · simp only [almanacref12_Small.j1]
              rw [if_pos trivial, if_pos (by omega), if_pos (by omega), rd45_at l1 i hlt, show wrap64 (x - 1) = x - 1 by unfold wrap64; omega, show wrap64 (x - 1 - (l1[i].f1.length : Int)) = x - 1 - (l1[i].f1.length : Int) by unfold wrap64; omega]
          · obtain ⟨v0, v1, v2, v3⟩ := u3 h
            rw [List.drop_zero] at v1
            have w2 := v2.mono (show x - 1 - (l1[i].f1.length : Int) ≤ x - 1 by omega)
            rw [List.drop_eq_getElem_cons hlt]
            refine ⟨by rw [List.length_cons]; omega, ⟨by rw [List.length_cons]; have := w2.1; omega, fun p hp => ?_⟩, v3.mono (by omega)⟩
            rcases List.mem_cons.1 hp with rfl | hp
            · exact ⟨by omega, fun q hq => Int.le_trans (v1 q hq) (by omega)⟩
            · exact (v2.mono (show x - 1 - (l1[i].f1.length : Int) ≤ x by omega)).2 p hp
        · obtain ⟨r, e, u1, u2, u3⟩ := s2 l2.length 0 x (by omega) (by omega) hx hxl
          refine ⟨r, ?_, u1, u2, fun h => by omega⟩
          refine Ev.step (f := fun k => almanacref12_Small.j1 k x i false a l1 l2) (fun k => ?_) (Ev.step (f := fun k => almanacref12_Small.l2 k x 0 a l1 l2) (fun k => ?_) e)
          · simp only [almanacref12_Small.l0]
            rw [if_pos (by omega), decide_eq_false hx0]
          · simp only [almanacref12_Small.j1]
            rw [if_neg (by simp)]
    obtain ⟨r, ev, u1, u2, u3⟩ := s0 l1.length 0 (left - 1) (by omega) (by omega) (by omega) (by omega)
    refine ⟨r, Ev.step (f := fun k => almanacref12_Small.l0 k (left - 1) 0 a l1 l2) (fun k => ?_) ev, u1, u2, fun h => ?_⟩
    · simp only [almanacref12_Small.f]
      rw [show wrap64 (left - 1) = left - 1 by unfold wrap64; omega]
    · have := u3 h
      rw [List.drop_zero] at this
      exact ⟨by have := this.1; omega, this.2⟩
theorem rlight (a : ByteArray) (l1 : List S45) (l2 : List S25) (hl1 : l1.length ≤ 140737488355328) (hp1 : ∀ p ∈ l1, SzP p) (hl2 : l2.length ≤ 140737488355328) (hp2 : ∀ y ∈ l2, Sz y) :
    ∃ b, Ev (fun k => almanacref12_Light.f k a l1 l2) b ∧ (b = true → PB 5000 l1 ∧ CB 5000 l2) := by
  obtain ⟨r, e, u1, u2, u3⟩ := rsmall 5000 a l1 l2 5000 (by omega) (by omega) (by omega) hl1 hp1 hl2 hp2
  refine ⟨decide (r ≥ 0), ?_, fun h => ?_⟩
  · unfold almanacref12_Light.f
    exact Ev.bind e (Ev.now _)
  · obtain ⟨_, h1, h2⟩ := u3 (of_decide_eq_true h)
    exact ⟨h1.mono (by omega), h2.mono (by omega)⟩
end Go.Proofs.Ytebmbfobmakheaa.PD
