/- Part 4 of the texts that the claim leans on: the functions' walks, and what they compute. -/
import Derived.Test.YtebmbfobmakheaaItipMakes3
import Derived.Test.YtebmbfobmakheaaItipMakes2
import Derived.Test.YtebmbfobmakheaaRows
import Derived.Test.YtebmbfobmakheaaItipMakes1
import Derived.WalkKit
import Derived.ProofKit
import Derived.OpenShut
import Derived.ShutString
import Derived.ChangeOld
import Derived.Below
import Derived.SizedLaws
namespace Go.Proofs.Ytebmbfobmakheaa.PD
open Go.ChangeShapes Go.WideShapes Go.ChangeAt Go.RowKit Go.Proofs.YtebmbfobmakheaaW.PrintWords
set_option linter.unusedVariables false
theorem op_param : Op Try.prog 77 k77 (fun x => x.f0.size ≤ reachBytes ∧ (x.f1.length * 16 ≤ reachBytes ∧ ∀ v ∈ x.f1, v.size ≤ reachBytes)) :=
  op_iso (fun x : S77 => (x.f0, x.f1)) (fun a => ⟨a.1, a.2⟩) (fun _ => rfl)
    (op_struct (L := [(0, 9), (1, 33)]) Try.underlying77 rfl (by kernel_rfl) (opF_cons (op_string Try.underlying9) (by kernel_rfl) (opF_one (op_slice Try.underlying33 (by kernel_rfl) (by kernel_rfl) (op_string Try.underlying9)) (by kernel_rfl))))
def PropOk (x : S45) : Prop := x.f0.size ≤ reachBytes ∧ (x.f1.length * 40 ≤ reachBytes ∧ ∀ q ∈ x.f1, q.f0.size ≤ reachBytes ∧ (q.f1.length * 16 ≤ reachBytes ∧ ∀ v ∈ q.f1, v.size ≤ reachBytes)) ∧ x.f2.size ≤ reachBytes
theorem op_prop : Op Try.prog 45 k45 PropOk :=
  op_iso (fun x : S45 => (x.f0, x.f1, x.f2)) (fun a => ⟨a.1, a.2.1, a.2.2⟩) (fun _ => rfl)
    (op_struct (L := [(0, 9), (1, 43), (2, 9)]) Try.underlying45 rfl (by kernel_rfl) (opF_cons (op_string Try.underlying9) (by kernel_rfl) (opF_cons (op_slice Try.underlying43 (by kernel_rfl) (by kernel_rfl) op_param) (by kernel_rfl) (opF_one (op_string Try.underlying9) (by kernel_rfl)))))
theorem szP_of {x : S45} (h : PropOk x) : SzP x := by
  obtain ⟨_, ⟨h1, h2⟩, h3⟩ := h
  unfold reachBytes at *
  exact ⟨h3, by omega, fun q hq => ⟨by have := (h2 q hq).2.1; omega, (h2 q hq).2.2⟩⟩
theorem ops_comp : ∀ N : Nat, OpS N Try.prog 25 k25 (fun x => x.f0.size ≤ reachBytes ∧ Sz x)
  | 0 => fun enc w base spare held fuel cs x hN _ _ => absurd hN (Nat.not_lt_zero _)
  | N + 1 => fun enc w base spare held fuel cs x hN h hs => by
    have h1 : OpS (N + 1) Try.prog 25 (Kd.pair Kd.string (Kd.pair (Kd.slice 45 k45) (Kd.slice 25 k25))) (fun x => x.1.size ≤ reachBytes ∧ ((x.2.1.length * 56 ≤ reachBytes ∧ ∀ p ∈ x.2.1, PropOk p) ∧ (x.2.2.length * 64 ≤ reachBytes ∧ ∀ y ∈ x.2.2, y.f0.size ≤ reachBytes ∧ Sz y))) :=
      ops_struct (L := [(0, 9), (1, 22), (2, 23)]) Try.underlying25 rfl (by kernel_rfl) (opfs_cons (op_s N (op_string Try.underlying9)) (by kernel_rfl) (opfs_cons (op_s N (op_slice Try.underlying22 (by kernel_rfl) (by kernel_rfl) op_prop)) (by kernel_rfl) (opfs_one (ops_slice Try.underlying23 (by kernel_rfl) (by kernel_rfl) (ops_comp N)) (by kernel_rfl))))
    obtain ⟨⟨s, p, c⟩, hK, h2, ⟨h3, h4⟩, h5, h6⟩ := h1 enc w base spare held fuel cs x hN h hs
    obtain ⟨_, _, rfl, rfl, ⟨_, _, rfl, ⟨A1, c1, rfl, l1, g1⟩, ⟨A2, c2, rfl, l2, g2⟩⟩⟩ := hK
    refine ⟨⟨s, p, c⟩, k25_mk w ⟨s, p, c⟩ l1 g1 l2 g2, h2, Sz.mk _ ?_ (fun q hq => szP_of (h4 q hq)) ?_ (fun y hy => (h6 y hy).2)⟩
    · show p.length ≤ 140737488355328
      have h3' : p.length * 56 ≤ reachBytes := h3
      unfold reachBytes at h3'
      omega
    · show c.length ≤ 140737488355328
      have h5' : c.length * 64 ≤ reachBytes := h5
      unfold reachBytes at h5'
      omega
set_option maxRecDepth 100000 in
theorem open_comp {H : Type} {enc : TypeId × Value → H} {w : World} {base : Nat} {spare : Nat → Bool} {held : Bool} {r : Reach} {b0 : Nat} {v : Value} {d : DataW H} {p : List MemPlace} (hv : Value.okWide Try.prog w r b0 25 v) (h : DataW.Trod enc Try.prog w base spare held 25 v d p)
    (hs : ∀ n ∈ d.weights Try.prog 25, n ≤ reachBytes) : ∃ (s : ByteArray) (A1 : Option Addr) (c1 : Nat) (l1 : List S45) (A2 : Option Addr) (c2 : Nat) (l2 : List S25), v = .agg #[.string s, .slice A1 l1.length c1, .slice A2 l2.length c2] ∧ Kd.C k45 w A1 l1.length l1 ∧ l1.length ≤ c1 ∧ Kd.C k25 w A2 l2.length l2 ∧ l2.length ≤ c2 ∧ l1.length ≤ 140737488355328 ∧ (∀ q ∈ l1, SzP q) ∧ l2.length ≤ 140737488355328 ∧ ∀ y ∈ l2, Sz y := by
  obtain ⟨cs, rfl, hsz⟩ := okWide_struct Try.underlying25 hv
  obtain ⟨fuel, hf⟩ := h
  obtain ⟨x, hK, _, hx⟩ := ops_comp _ enc w base spare held fuel _ _ (Nat.lt_succ_self _) hf hs
  obtain ⟨A1, c1, A2, c2, hcs, l1, g1, l2, g2⟩ := k25_open hK
  have hcs' : cs.toList = [.string x.f0, .slice A1 x.f1.length c1, .slice A2 x.f2.length c2] := by simpa [Value.cells] using hcs
  exact ⟨x.f0, A1, c1, x.f1, A2, c2, x.f2, by rw [show cs = cs.toList.toArray by simp, hcs'], g1, l1, g2, l2, hx.f1l, hx.f1p, hx.f2l, hx.f2p⟩
theorem own : ownKnob Try.prog.godebug = none := by kernel_rfl
theorem laidOut : laidOutB Try.prog = true := by kernel_rfl
theorem weighs {H : Type} {P : Program} {ts : List TypeId} {ds : List (DataW H)} (h : (DataW.weightsEach P ts ds).all (· ≤ reachBytes) = true) {j : Nat} {t : TypeId} {d : DataW H} (ht : ts[j]? = some t) (hd : ds[j]? = some d) : ∀ n ∈ d.weights P t, n ≤ reachBytes :=
  fun n hn => by simpa using List.all_eq_true.1 h n (DataW.weights_mem_each (j := j) ht hd n hn)
end Go.Proofs.Ytebmbfobmakheaa.PD
namespace Go.Proofs.Ytebmbfobmakheaa.PD
open Go.RowKit Go.Shelf Go.Proofs.YtebmbfobmakheaaW.PrintWords Go.Proofs.YtebmbfobmakheaaW.PrintLast Go.Proofs.YtebmbfobmakheaaW.PrintMore
set_option linter.unusedVariables false
set_option linter.unusedSimpArgs false
structure CellsK {α : Type} (d : Kd α) : Prop where
  K : ∀ {X Y : World} {x : α} {cs : List Value}, (∀ p u, X.cell? p = some u → Y.cell? p = some u) → d.K X x cs → d.K Y x cs
theorem CellsK.C {α : Type} {d : Kd α} (hd : CellsK d) {X Y : World} {A : Option Addr} {n : Nat} {xs : List α} (hc : ∀ p u, X.cell? p = some u → Y.cell? p = some u) (h : d.C X A n xs) : d.C Y A n xs := rows_cells h hc (fun _ _ hk => hd.K hc hk)
theorem ck_string : CellsK Kd.string := ⟨fun _ h => h⟩
theorem ck_slice {α : Type} {d : Kd α} (e : Nat) (hd : CellsK d) : CellsK (Kd.slice e d) := ⟨by
  rintro X Y x cs hc ⟨A, c, rfl, hl, hr⟩
  exact ⟨A, c, rfl, hl, hd.C hc hr⟩⟩
theorem ck_pair {α β : Type} {a : Kd α} {b : Kd β} (ha : CellsK a) (hb : CellsK b) : CellsK (Kd.pair a b) := ⟨by
  rintro X Y x cs hc ⟨c0, c1, rfl, h0, h1⟩
  exact ⟨c0, c1, rfl, ha.K hc h0, hb.K hc h1⟩⟩
theorem ck_iso {α β : Type} {d : Kd α} (f : β → α) (hd : CellsK d) : CellsK (Kd.iso d f) := ⟨fun hc h => hd.K hc h⟩
theorem ck_bot {α : Type} (sz : Nat) (E : List Nat) : CellsK (Kd.bot sz E : Kd α) := ⟨fun _ h => h⟩
theorem ck_upto {α : Type} {F : Kd α → Kd α} {sz : Nat} {E : List Nat} (hF : ∀ d, CellsK d → CellsK (F d)) : ∀ n, CellsK (Kd.upto F sz E n)
  | 0 => ck_bot sz E
  | n + 1 => hF _ (ck_upto hF n)
theorem ck_fix {α : Type} {F : Kd α → Kd α} {sz : Nat} {E : List Nat} {hs : ∀ n, (Kd.upto F sz E n).sz = sz} {hE : ∀ n q, q ∈ (Kd.upto F sz E n).E → q ∈ E} (hF : ∀ d, CellsK d → CellsK (F d)) : CellsK (Kd.fix F sz E hs hE) := ⟨by
  rintro X Y x cs hc ⟨n, h⟩
  exact ⟨n, (ck_upto hF n).K hc h⟩⟩
theorem ck77 : CellsK k77 := ck_iso _ (ck_pair ck_string (ck_slice 9 ck_string))
theorem ck45 : CellsK k45 := ck_iso _ (ck_pair ck_string (ck_pair (ck_slice 77 ck77) ck_string))
theorem ck25 : CellsK k25 := ck_fix (fun _ h => ck_iso _ (ck_pair ck_string (ck_pair (ck_slice 45 ck45) (ck_slice 25 h))))
open Classical in
theorem foot_cells {P : World → Prop} (hP : ∀ X Y : World, (∀ p u, X.cell? p = some u → Y.cell? p = some u) → P X → P Y) {W Y : World} {ok : Nat → Prop} (h : Foot P W ok) (hY : ∀ p u, W.cell? p = some u → ok p.block → Y.cell? p = some u) : P Y := by
  obtain ⟨V, hV⟩ : ∃ V : World, ({ W with heap := W.heap.mapIdx fun i o => if ok i then o else Obj.deferred none } : World) = V := ⟨_, rfl⟩
  have hh : ∀ k : Nat, V.heap[k]? = (W.heap[k]?).map fun o => if ok k then o else Obj.deferred none := fun k => by rw [← hV]; simp [Array.getElem?_mapIdx]
  refine hP V Y (fun p u hp => ?_) (h V (fun k hk _ => ?_))
  · by_cases hk : ok p.block
    · refine hY p u ?_ hk
      rw [← hp]
      refine (World.cell?_of_block ?_).symm
      rw [hh]; simp [hk]
    · exfalso
      unfold World.cell? at hp
      rw [hh] at hp
      cases hw : W.heap[p.block]? with
      | none => rw [hw] at hp; simp at hp
      | some o => rw [hw] at hp; simp [hk] at hp
  · rw [hh]; simp [hk]
theorem foot_move {P : World → Prop} (hP : ∀ X Y : World, (∀ p u, X.cell? p = some u → Y.cell? p = some u) → P X → P Y) {X Y : World} {ok : Nat → Prop} (h : Foot P X ok) (hc : ∀ p u, X.cell? p = some u → ok p.block → Y.cell? p = some u) : Foot P Y ok := fun W' hW =>
  foot_cells hP h (fun p u hp hk => by
    have h1 := hc p u hp hk
    exact (World.cell?_of_block (hW p.block hk (World.block_lt_of_cell? Y _ h1))).trans h1)
theorem FK_move {α : Type} {d : Kd α} (hd : CellsK d) {X Y : World} {ok : Nat → Prop} {x : α} {c : List Value} (h : Kd.FK d X ok x c) (hc : ∀ p u, X.cell? p = some u → ok p.block → Y.cell? p = some u) : Kd.FK d Y ok x c := foot_move (fun _ _ h k => hd.K h k) h hc
theorem N_own {α : Type} {d : Kd α} (hd : CellsK d) {e : Nat} {X Y : World} {base B : Nat} {ok : Nat → Prop} {v : Value} {xs : List α} {row : Option Nat} (h : Kd.N d e X base ok v xs) (hg : X.grownBy Y row) (hr : ∀ r, row = some r → NoZ r ∨ (B ≤ r ∧ ∃ o : Obj, X.heap[r]? = some o ∧ o.isCells = false)) : Kd.N d e Y base ok v xs := by
  have hty := Kd.N_typed h
  obtain ⟨h0, rows, hl, hR, hf⟩ := h
  refine ⟨h0, rows, hl, Kd.R_step hR (fun k hk hlt => hg.block k hlt (fun e => ?_)), fun j x c hx hc => FK_move hd (hf j x c hx hc) (fun p u hp _ => cells_own hg hr p u hp)⟩
  obtain ⟨cells, hcl⟩ := hty k hk.symm
  rcases hr k e.symm with h | ⟨_, o, ho, hoc⟩
  · exact h
  · rw [hcl] at ho; cases ho; cases hoc
theorem drop_take_set {α : Type} (l : List α) (sz i j f : Nat) (u : α) (hf : f < sz) (hij : i ≠ j) : ((l.set (i * sz + f) u).drop (j * sz)).take sz = (l.drop (j * sz)).take sz := by
  apply List.ext_getElem?
  intro k
  by_cases hk : k < sz
  · rw [List.getElem?_take_of_lt hk, List.getElem?_take_of_lt hk, List.getElem?_drop, List.getElem?_drop, List.getElem?_set_ne]
    intro e
    rcases Nat.lt_or_gt_of_ne hij with h | h
    · have : (i + 1) * sz ≤ j * sz := Nat.mul_le_mul_right sz h
      rw [Nat.succ_mul] at this; omega
    · have : (j + 1) * sz ≤ i * sz := Nat.mul_le_mul_right sz h
      rw [Nat.succ_mul] at this; omega
  · rw [List.getElem?_take_eq_none (by omega), List.getElem?_take_eq_none (by omega)]
theorem drop_take_set_same {α : Type} (l : List α) (sz i f : Nat) (u : α) (hf : f < sz) : ((l.set (i * sz + f) u).drop (i * sz)).take sz = ((l.drop (i * sz)).take sz).set f u := by
  rw [List.drop_set, if_neg (by omega), show i * sz + f - i * sz = f by omega, List.take_set]
theorem R_set {sz e g n cap base : Nat} {W : World} {ok : Nat → Prop} {rows : List (List Value)} (h : (Kd.raw sz).R e W base ok (.slice (some ⟨g, 0, none⟩) n cap) rows) (i f : Nat) (u : Value) (hf : f < sz) (hu : u.oneCell' = true) (c : List Value) (hc : rows[i]? = some c) :
    (Kd.raw sz).R e (W.setCell ⟨g, i * sz + f, none⟩ u) base ok (.slice (some ⟨g, 0, none⟩) n cap) (rows.set i (c.set f u)) ∧ W.grownBy (W.setCell ⟨g, i * sz + f, none⟩ u) (some g) := by
  obtain ⟨h0, inner, ho, hl, hr⟩ := h
  have hn : rows.length = n := by
    rcases ho.2 with ⟨h', _⟩ | ⟨g', cap', cur, h', _⟩
    · cases h'
    · injection h' with _ h2 _; exact h2.symm
  rw [hn] at ho
  obtain ⟨s1, s2⟩ := ho.stored (i * sz + f) u
  refine ⟨⟨h0, inner.set (i * sz + f) u, by rw [List.length_set, hn]; exact s1, by rw [List.length_set, List.length_set]; exact hl, fun j x hj => ?_⟩, s2⟩
  rw [List.getElem?_set] at hj
  by_cases hij : i = j
  · subst hij
    have hil : i < rows.length := (List.getElem?_eq_some_iff.1 hc).1
    rw [if_pos rfl, if_pos hil] at hj
    obtain rfl := Option.some.inj hj
    have k1 : (inner.drop (i * sz)).take sz = c := (hr i c hc).1
    have k23 := (hr i c hc).2
    rw [show List.take (Kd.raw sz).sz (List.drop (i * (Kd.raw sz).sz) inner) = c from k1] at k23
    have e : List.take (Kd.raw sz).sz (List.drop (i * (Kd.raw sz).sz) (inner.set (i * sz + f) u)) = c.set f u := (drop_take_set_same inner sz i f u hf).trans (by rw [k1])
    rw [e]
    refine ⟨rfl, by rw [List.length_set]; exact k23.1, fun y hy => ?_⟩
    rcases List.mem_or_eq_of_mem_set hy with h | h
    · exact k23.2 y h
    · rw [h]; exact hu
  · rw [if_neg hij] at hj
    have e : List.take (Kd.raw sz).sz (List.drop (j * (Kd.raw sz).sz) (inner.set (i * sz + f) u)) = List.take (Kd.raw sz).sz (List.drop (j * (Kd.raw sz).sz) inner) := drop_take_set inner sz i j f u hf hij
    rw [e]
    exact hr j x hj
theorem N_get25 {W : World} {base : Nat} {ok : Nat → Prop} {v : Value} {xs : List S25} (h : Kd.N k25 25 W base ok v xs) (i : Nat) (hi : i < xs.length) :
    ∃ g cap A1 c1 A2 c2, v = .slice (some ⟨g, 0, none⟩) xs.length cap ∧ W.cell? ⟨g, i * 3, none⟩ = some (.string xs[i].f0) ∧ W.cell? ⟨g, i * 3 + 1, none⟩ = some (.slice A1 xs[i].f1.length c1) ∧ W.cell? ⟨g, i * 3 + 2, none⟩ = some (.slice A2 xs[i].f2.length c2) ∧ (∀ j, W.frozen? ⟨g, j, none⟩ = false) ∧
      xs[i].f1.length ≤ c1 ∧ Kd.F k45 W (fun k => ok k ∧ k ≠ g) A1 xs[i].f1.length xs[i].f1 ∧ xs[i].f2.length ≤ c2 ∧ Kd.F k25 W (fun k => ok k ∧ k ≠ g) A2 xs[i].f2.length xs[i].f2 := by
  obtain ⟨h0, rows, hl, hR, hf⟩ := h
  obtain ⟨_, inner, ho, hll, hr⟩ := hR
  rw [hl] at ho
  obtain ⟨g, cap, ev⟩ : ∃ g cap, v = .slice (some ⟨g, 0, none⟩) xs.length cap := by
    rcases ho.2 with ⟨_, h'⟩ | ⟨g', cap', cur, h', _⟩
    · omega
    · exact ⟨g', cap', h'⟩
  subst ev
  obtain ⟨c, hc⟩ : ∃ c, rows[i]? = some c := ⟨_, List.getElem?_eq_getElem (by omega)⟩
  have hFK := hf i xs[i] c (List.getElem?_eq_getElem hi) hc
  have hgo : (fun k => ok k ∧ some k ≠ (Value.slice (some ⟨g, 0, none⟩) xs.length cap).ownBlock) = (fun k => ok k ∧ k ≠ g) := funext fun k => propext ⟨fun h => ⟨h.1, fun e => h.2 (by rw [e]; rfl)⟩, fun h => ⟨h.1, fun e => h.2 (by injection e)⟩⟩
  rw [hgo] at hFK
  obtain ⟨A1, c1, A2, c2, rfl, l1, f1, l2, f2⟩ := k25_openF hFK
  have hk1 : (inner.drop (i * 3)).take 3 = [.string xs[i].f0, .slice A1 xs[i].f1.length c1, .slice A2 xs[i].f2.length c2] := (hr i _ hc).1
  have hin : ∀ f, f < 3 → inner[i * 3 + f]? = [Value.string xs[i].f0, .slice A1 xs[i].f1.length c1, .slice A2 xs[i].f2.length c2][f]? := fun f hf => by
    rw [← hk1, List.getElem?_take_of_lt hf, List.getElem?_drop]
  have hat : ∀ f, f < 3 → W.cell? ⟨g, i * 3 + f, none⟩ = inner[i * 3 + f]? := fun f hf => ho.cellAt (i * 3 + f) (by show i * 3 + f < xs.length * 3; omega)
  exact ⟨g, cap, A1, c1, A2, c2, rfl, (hat 0 (by omega)).trans (hin 0 (by omega)), (hat 1 (by omega)).trans (hin 1 (by omega)), (hat 2 (by omega)).trans (hin 2 (by omega)), fun j => ho.frozenAt j, l1, f1, l2, f2⟩
theorem N_put25 {W : World} {base g cap : Nat} {ok : Nat → Prop} {xs : List S25} (h : Kd.N k25 25 W base ok (.slice (some ⟨g, 0, none⟩) xs.length cap) xs) (i : Nat) (hi : i < xs.length) (y : List S45) (A : Option Addr) (c : Nat) (hyc : y.length ≤ c) (hy : Kd.F k45 W (fun k => ok k ∧ k ≠ g) A y.length y) :
    Kd.N k25 25 (W.setCell ⟨g, i * 3 + 1, none⟩ (.slice A y.length c)) base ok (.slice (some ⟨g, 0, none⟩) xs.length cap) (xs.set i { xs[i] with f1 := y }) ∧ W.grownBy (W.setCell ⟨g, i * 3 + 1, none⟩ (.slice A y.length c)) (some g) := by
  obtain ⟨h0, rows, hl, hR, hf⟩ := h
  obtain ⟨cs, hc⟩ : ∃ c, rows[i]? = some c := ⟨_, List.getElem?_eq_getElem (by omega)⟩
  have hFK := hf i xs[i] cs (List.getElem?_eq_getElem hi) hc
  obtain ⟨A1, c1, A2, c2, rfl, l1, f1, l2, f2⟩ := k25_openF hFK
  have hgo : (fun k => ok k ∧ some k ≠ (Value.slice (some ⟨g, 0, none⟩) xs.length cap).ownBlock) = (fun k => ok k ∧ k ≠ g) := funext fun k => propext ⟨fun h => ⟨h.1, fun e => h.2 (by rw [e]; rfl)⟩, fun h => ⟨h.1, fun e => h.2 (by injection e)⟩⟩
  obtain ⟨s1, s2⟩ := R_set hR i 1 (.slice A y.length c) (by decide) rfl _ hc
  have hm : ∀ k, (ok k ∧ some k ≠ (Value.slice (some ⟨g, 0, none⟩) xs.length cap).ownBlock) → k < W.heap.size → (W.setCell ⟨g, i * 3 + 1, none⟩ (.slice A y.length c)).heap[k]? = W.heap[k]? := fun k hk hlt => s2.block k hlt hk.2
  refine ⟨⟨h0, _, by rw [List.length_set, List.length_set]; exact hl, s1, fun j x cj hx hj => ?_⟩, s2⟩
  rw [List.getElem?_set] at hx hj
  by_cases hij : i = j
  · subst hij
    rw [if_pos rfl, if_pos hi] at hx
    rw [if_pos rfl, if_pos (by omega)] at hj
    obtain rfl := Option.some.inj hx
    obtain rfl := Option.some.inj hj
    refine Kd.FK_step ?_ hm
    refine k25_mkF W _ { xs[i] with f1 := y } hyc ?_ l2 f2
    rw [hgo]
    exact hy
  · rw [if_neg hij] at hx hj
    exact Kd.FK_step (hf j x cj hx hj) hm
end Go.Proofs.Ytebmbfobmakheaa.PD
namespace Go.Proofs.Ytebmbfobmakheaa.PD
open Go.RowKit Go.Proofs.YtebmbfobmakheaaW.PrintWords Go.Proofs.YtebmbfobmakheaaW.PrintLast Go.Proofs.YtebmbfobmakheaaW.PrintMore
set_option linter.unusedVariables false
set_option linter.unusedSimpArgs false
def noDefer (ops : Array Oper) : Bool := ops.toList.all fun o => match o.op with | .defer _ => false | _ => true
theorem noDefer_at {ops : Array Oper} (h : noDefer ops = true) {i : Nat} {o : Oper} (ho : ops[i]? = some o) : ∀ c, o.op ≠ .defer c := fun c hc => by
  have := List.all_eq_true.1 h o (Array.mem_toList_iff.2 (Array.mem_of_getElem? ho))
  rw [hc] at this
  cases this
theorem oper_inRound {l n : Nat} {P : Program} {o : Oper} {a : Act} {w : World} {K K' : Act → World → Prop} {Q : Exit → Act → World → Prop} (hd : ∀ c, o.op ≠ .defer c) (hK : ∀ a w, K a w → K' a w) (h : Oper.wp P o a w K Q) : Oper.wpIn (Fence.wide.inRound l) n P o a w K' Q := by
  unfold Oper.wp at h
  unfold Oper.wpIn
  refine ⟨fun _ _ => trivial, ?_⟩
  rw [Oper.semAt_plain _ _ _ hd]
  cases hr : (execOp a.eval o).run P w with
  | ok nx w' =>
    rw [hr] at h
    cases nx with
    | value v => exact hK _ _ h
    | skip => exact hK _ _ h
    | defer d => exact hK _ _ h
    | enter f args =>
      refine ⟨fun hx => Bool.noConfusion hx, ?_⟩
      refine (CallsIn.inRound l (callsIn_wide.2 h)).mono fun e w'' hh => ?_
      cases e with
      | returned v => exact hK _ _ hh
      | panicked c => exact hh
      | outgrown => exact hh
    | row row args =>
      refine ⟨fun hx => Bool.noConfusion hx, fun c cs _ => ?_⟩
      obtain ⟨v, w'', r, s⟩ := h c cs
      exact ⟨v, w'', hK _ _ r, stepsIn_wide.2 s⟩
    | _ => exact h.elim
  | halt hl w' =>
    rw [hr] at h
    cases hl with
    | panic v => exact h
    | _ => exact h.elim
theorem wpAny_inRound {l n : Nat} {P : Program} {md : Region.Mode} {ops : Array Oper} {Q : Exit → Act → World → Prop} (hd : noDefer ops = true) (hQ : ¬ LetsOut Q) : ∀ (fuel : Nat) (listed : Array Bool) (a : Act) (w : World), wpAny P md ops Q fuel listed a w → wpAnyIn (Fence.wide.inRound l) n P md ops Q fuel listed a w
  | 0, _, _, _, h => h
  | fuel + 1, listed, a, w, h => ⟨h.1, fun i hi => by
    have h2 := h.2 i hi
    unfold wpOp at h2
    unfold wpOpIn
    cases ho : ops[i]? with
    | none => rw [ho] at h2; exact wpAny_inRound hd hQ fuel _ _ _ h2
    | some o =>
      rw [ho] at h2
      simp only at h2 ⊢
      split at h2
      · rename_i hw
        rw [if_pos hw]
        exact oper_inRound (noDefer_at hd ho) (wpAny_inRound hd hQ fuel _) (h2.resolve_right (fun h => hQ h.2))
      · rename_i hw
        rw [if_neg hw]
        exact ⟨fun _ _ => trivial, wpAny_inRound hd hQ fuel _ _ _ h2⟩⟩
theorem start_in {l' m : Nat} {P : Program} {ops : Array Oper} {Q : Exit → Act → World → Prop} {S : World → Prop} {ds : List Nat} {id n : Nat} {a : Act} {w : World} (hQ : ¬ LetsOut Q) (hd : noDefer ops = true) (l : Array Bool) (hm : P.follows .mixedOrders = true) (hn : ops.size = n) (hl : Array.replicate n false = l) (hS : S w.drew)
    (h : S w.drew → wpAnyLast P .any ops Q S ds n l a w.drew) : (Code.region id ops true).wpIn (Fence.wide.inRound l') m P Q a w := by
  subst hn
  subst hl
  exact wpIn_region_any hm (wpAny_inRound hd hQ _ _ _ _ (wpAny_of_last _ _ _ _ (h hS)))
end Go.Proofs.Ytebmbfobmakheaa.PD
namespace Go.Proofs.Ytebmbfobmakheaa.PD
open Go.RowKit Go.Shelf Go.Proofs.YtebmbfobmakheaaW.PrintWords Go.Proofs.YtebmbfobmakheaaW.PrintLast Go.Proofs.YtebmbfobmakheaaW.PrintMore
set_option linter.unusedVariables false
set_option linter.unusedSimpArgs false
theorem goesV_ {P : Program} {ops : Array Oper} {Q : Exit → Act → World → Prop} {oi : Oper} {N : Option Tmp} {a : Act} {w : World} {K : Act → World → Prop} {f : FuncId} {fn : Func} {xs : Array Operand} {ts : Array TypeId} {c : Operand} {lb : Array Value} (hf : P.funcs[f]? = some fn) (hname : (fn.name == "runtime.NumGoroutine") = false) (hb : fn.body.isSome = true) (args : Array Value)
    (hw : Region.wanted oi (yielded ops a.tmps) = true) (hN : oi.dst = N) (hop : oi.op = .call { callee := .value c, args := xs, argTypes := ts }) (hc : a.eval c = .func (.func f) #[] lb) (hargs : xs.map a.eval ++ lb = args)
    (h : Calls P f args w fun e w' => ∃ v, e = .returned v ∧ K (a.put N v) w') : if Region.wanted oi (yielded ops a.tmps) = true then Oper.wp P oi a w K Q else K (a.put N undef) w := by
  refine call_ f args hw hN ?_ h
  have he := enters_ hf hname hb args w
  unfold execOp
  simp [hop, resolve, Deferred.ofValue, invoke, hc, hargs, he]
structure Maker (w : World) (fid : Nat) (lb : Array Value) (S : Nat → Prop) (Ok : List S45 → Prop) (G : List S45 → List S45) : Prop where
  calls : ∀ (W : World) (b : Nat) (ok : Nat → Prop) (v : Value) (xs : List S45), Below w.heap.size w W → w.heap.size ≤ b → b ≤ W.heap.size → (∀ k, b ≤ k → ok k) → (∀ k, S k → ok k) → Ok xs → Kd.N k45 45 W b ok v xs →
    Calls Try.prog fid (#[v] ++ lb) W fun e W' => ∃ v', e = .returned v' ∧ Kd.N k45 45 W' b ok v' (G xs) ∧ Below b W W'
theorem Maker.below {w w1 : World} {fid : Nat} {lb : Array Value} {S : Nat → Prop} {Ok : List S45 → Prop} {G : List S45 → List S45} (h : Maker w fid lb S Ok G) (hb : Below w.heap.size w w1) : Maker w1 fid lb S Ok G :=
  ⟨fun W b ok v xs hW hb1 => h.calls W b ok v xs (hb.trans (hW.mono hb.size)) (Nat.le_trans hb.size hb1)⟩
def updP (G : List S45 → List S45) (is : List Nat) (l : List S25) : List S25 := l.mapIdx fun i x => if i ∈ is then { x with f1 := G x.f1 } else x
theorem updP_len (G : List S45 → List S45) (is : List Nat) (l : List S25) : (updP G is l).length = l.length := by unfold updP; simp
theorem updP_nil (G : List S45 → List S45) (l : List S25) : updP G [] l = l := by
  unfold updP
  apply List.ext_getElem?
  intro j
  rw [List.getElem?_mapIdx]
  cases l[j]? <;> simp
theorem updP_at (G : List S45 → List S45) (is : List Nat) (l : List S25) (j : Nat) (hj : j < (updP G is l).length) (hl : j < l.length) (h : j ∉ is) : (updP G is l)[j] = l[j] := by
  apply Option.some.inj
  rw [← List.getElem?_eq_getElem hj, ← List.getElem?_eq_getElem hl]
  unfold updP
  rw [List.getElem?_mapIdx, List.getElem?_eq_getElem hl]
  simp [h]
theorem updP_snoc (G : List S45 → List S45) (is : List Nat) (l : List S25) (i : Nat) (hl : i < l.length) (h : i ∉ is) : updP G (is ++ [i]) l = (updP G is l).set i { l[i] with f1 := G l[i].f1 } := by
  apply List.ext_getElem?
  intro j
  rw [List.getElem?_set, updP_len]
  unfold updP
  rw [List.getElem?_mapIdx, List.getElem?_mapIdx]
  by_cases hij : i = j
  · subst hij
    rw [if_pos rfl, if_pos hl, List.getElem?_eq_getElem hl]
    simp
  · rw [if_neg hij]
    have : (j ∈ is ++ [i]) = (j ∈ is) := by simp [Ne.symm hij]
    simp [this]
def chgP (G : List S45 → List S45) (l : List S25) : List S25 := l.map fun x => if isTz x.f0 = true then x else { x with f1 := G x.f1 }
theorem othI_ge : ∀ (l : List S25) (i j : Nat), j ∈ othI i l → i ≤ j
  | [], _, _, h => by simp [othI] at h
  | x :: r, i, j, h => by
    unfold othI at h
    split at h
    · have := othI_ge r (i + 1) j h; omega
    · rcases List.mem_cons.1 h with rfl | h
      · exact Nat.le_refl _
      · have := othI_ge r (i + 1) j h; omega
theorem othI_lt : ∀ (l : List S25) (i : Nat), (othI i l).Pairwise (· < ·)
  | [], _ => by simp [othI]
  | x :: r, i => by
    unfold othI
    split
    · exact othI_lt r (i + 1)
    · exact List.pairwise_cons.2 ⟨fun j hj => by have := othI_ge r (i + 1) j hj; omega, othI_lt r (i + 1)⟩
theorem othI_mem : ∀ (l : List S25) (i j : Nat) (hj : j < l.length), (i + j ∈ othI i l) ↔ isTz l[j].f0 = false
  | [], _, j, hj => by simp at hj
  | x :: r, i, 0, hj => by
    unfold othI
    simp only [List.getElem_cons_zero, Nat.add_zero]
    split
    · rename_i h
      constructor
      · intro hm; have := othI_ge r (i + 1) i hm; omega
      · intro hf; rw [h] at hf; cases hf
    · rename_i h
      simp at h
      simp [h]
  | x :: r, i, j + 1, hj => by
    have ih := othI_mem r (i + 1) j (by simpa using hj)
    have e : i + 1 + j = i + (j + 1) := by omega
    rw [e] at ih
    unfold othI
    simp only [List.getElem_cons_succ]
    split
    · exact ih
    · rw [List.mem_cons]
      constructor
      · rintro (h | h)
        · omega
        · exact ih.1 h
      · exact fun h => .inr (ih.2 h)
theorem updP_oth (G : List S45 → List S45) (l : List S25) : updP G (othI 0 l) l = chgP G l := by
  unfold updP chgP
  apply List.ext_getElem?
  intro j
  rw [List.getElem?_mapIdx, List.getElem?_map]
  by_cases hj : j < l.length
  · rw [List.getElem?_eq_getElem hj]
    have h := othI_mem l 0 j hj
    rw [Nat.zero_add] at h
    simp only [Option.map_some]
    by_cases ht : isTz l[j].f0 = true
    · rw [if_neg (fun hm => by rw [h.1 hm] at ht; cases ht), if_pos ht]
    · have : isTz l[j].f0 = false := by simpa using ht
      rw [if_pos (h.2 this), if_neg ht]
  · rw [List.getElem?_eq_none (by omega)]; rfl
theorem oth_new {L : List CC} {l : List S25} (hm : (othersF 0 L).map Prod.snd = othI 0 l) {pre : List (CC × Nat)} {x : CC × Nat} (h : pre ++ [x] <+: othersF 0 L) : x.2 ∉ pre.map Prod.snd ∧ nextI pre ≤ x.2 ∧ (∀ j ∈ pre.map Prod.snd, j < nextI pre) := by
  have hp := othI_lt l 0
  rw [← hm] at hp
  have h1 : (pre.map Prod.snd ++ [x.2]).Pairwise (· < ·) := by
    have := (h.map Prod.snd).sublist
    rw [List.map_append] at this
    exact hp.sublist this
  rw [List.pairwise_append] at h1
  obtain ⟨hpp, _, hx⟩ := h1
  have hlt : ∀ j ∈ pre.map Prod.snd, j < x.2 := fun j hj => hx j hj x.2 (by simp)
  refine ⟨fun hc => Nat.lt_irrefl _ (hlt _ hc), ?_, ?_⟩
  · unfold nextI
    cases hg : pre.getLast? with
    | none => exact Nat.zero_le _
    | some p =>
      have := hlt p.2 (List.mem_map.2 ⟨p, List.mem_of_getLast? hg, rfl⟩)
      show p.2 + 1 ≤ x.2
      omega
  · intro j hj
    unfold nextI
    rcases List.eq_nil_or_concat pre with rfl | ⟨q, p, rfl⟩
    · simp at hj
    · rw [List.concat_eq_append] at hpp hj ⊢
      rw [List.map_append, List.pairwise_append] at hpp
      simp only [List.getLast?_append, List.getLast?_singleton, Option.some_or]
      rw [List.map_append, List.mem_append] at hj
      rcases hj with hj | hj
      · have := hpp.2.2 j hj p.2 (by simp)
        omega
      · simp at hj; omega
end Go.Proofs.Ytebmbfobmakheaa.PD
namespace Go.Proofs.Ytebmbfobmakheaa.PD
open Go.RowKit Go.Shelf Go.Proofs.YtebmbfobmakheaaW.PrintWords Go.Proofs.YtebmbfobmakheaaW.PrintLast Go.Proofs.YtebmbfobmakheaaW.PrintMore
attribute [local go_sem] isSome_setCell Oper.semAt_some wide_fn wide_depth
set_option linter.unusedVariables false
set_option linter.unusedSimpArgs false
theorem box3_at {W : World} {S : Nat} {a b c : Value} {t : TypeId} (x y z : Value) (h : W.heap[S]? = some (.cells #[a, b, c] t (0, 0))) :
    (((W.setCell ⟨S, 0, none⟩ x).setCell ⟨S, 1, none⟩ y).setCell ⟨S, 2, none⟩ z).heap[S]? = some (.cells #[x, y, z] t (0, 0)) := by
  have h3 := blk_set (blk_set (blk_set h 0 x) 1 y) 2 z
  simpa using h3
theorem results_box25 (f : Func) (n : Nat) (hf : f.results = [ResultVar.cell n 25].toArray) (tmps : Array Value) (w : World) (S : Nat) (s : ByteArray) (A1 A2 : Option Addr) (n1 c1 n2 c2 : Nat) (h2 : tmps.getD n undef = .pointer (some ⟨S, 0, none⟩)) (q : w.heap[S]? = some (.cells #[.string s, .slice A1 n1 c1, .slice A2 n2 c2] 25 (0, 0))) :
    (results f tmps).run Try.prog w = .ok (.agg #[.string s, .slice A1 n1 c1, .slice A2 n2 c2]) w := by
  have d0 := (blk_cell q 0).trans rfl
  have d1 := (blk_cell q 1).trans rfl
  have d2 := (blk_cell q 2).trans rfl
  unfold results
  rw [hf, List.mapM_toArray]
  simp only [Sem.run_bind, Sem.run_map, List.mapM_cons, List.mapM_nil, h2]
  simp [asAddr, loadVar, go_sem, d0, d1, d2, Try.underlying25]
set_option maxRecDepth 100000 in
set_option maxHeartbeats 8000000 in
theorem changed_walk (fid : Nat) (fn : Func) (hfn : Try.prog.funcs[fid]? = some fn) (hname : (fn.name == "runtime.NumGoroutine") = false) (hbody : fn.body.isSome = true) (lb : Array Value) (Ok : List S45 → Prop) (G : List S45 → List S45) (S P : Nat → Prop)
    (nm : ByteArray) (A1 : Option Addr) (n1 c1 : Nat) (A : Option Addr) (c : Nat) (l : List S25) (w : World) (hmk : Maker w fid lb S Ok G) (hS : ∀ k, S k → P k ∧ k < w.heap.size) (hs : Kd.V k25 25 w w.heap.size P (.slice A l.length c) l) (hll : l.length ≤ 1000000000) (hlim : ∀ x ∈ l, x.f1.length < 2513169434917) (hok : ∀ x ∈ l, Ok x.f1) :
    Calls Try.prog 62 #[.agg #[.string nm, .slice A1 n1 c1, .slice A l.length c], .func (.func fid) #[] lb] w fun e w' => ∃ v : Value, e = .returned (.agg #[.string nm, .slice A1 n1 c1, v]) ∧ Kd.N k25 25 w' w.heap.size (fun k => P k ∨ w.heap.size ≤ k) v (chgP G l) ∧ Below w.heap.size w w' := by
  have HV := Aside0.mk hs
  have HMK := Aside0.mk hmk
  have HLIM := Aside0.mk hlim
  have HOK := Aside0.mk hok
  clear hs hmk hlim hok
  refine (callsIn_wide (n := 51)).1 ?_
  refine callsIn_of_wp_marks Try.func62 rfl trivial ?_ rfl
  simp only [Try.ntmps62, List.size_toArray, List.length_cons, List.length_nil, Nat.reduceAdd, Nat.reduceSub, Array.replicate_succ, Array.replicate_zero, List.push_toArray, List.append_toArray, List.nil_append, List.cons_append]
  gi_wp2
  gi_at_call 94
  obtain ⟨W3, hW3⟩ : ∃ W3, ((w.alloc (Obj.cells #[Value.string nm, Value.slice A1 n1 c1, Value.slice A l.length c] 25)).alloc (Obj.cells #[Value.func (Fn.func fid) #[] lb] 74)).alloc (Obj.cells #[Value.string { data := #[] }, Value.slice none 0 0, Value.slice none 0 0] 25) = W3 := ⟨_, rfl⟩
  have hz3 : W3.heap.size = w.heap.size + 3 := by rw [← hW3]; simp
  have hb3 : Below w.heap.size w W3 := by rw [← hW3]; exact below_alloc (below_alloc (below_alloc (Below.refl _ _) _) _) _
  have kC : W3.heap[w.heap.size]? = some (.cells #[.string nm, .slice A1 n1 c1, .slice A l.length c] 25 (0, 0)) := by
    rw [← hW3]; exact blk_alloc (blk_alloc (heap_alloc_new w _) _) _
  have kO : W3.heap[w.heap.size + 1]? = some (.cells #[.func (.func fid) #[] lb] 74 (0, 0)) := by
    rw [← hW3]; have := heap_alloc_new (w.alloc (.cells #[.string nm, .slice A1 n1 c1, .slice A l.length c] 25)) (.cells #[.func (.func fid) #[] lb] 74); rw [World.size_alloc] at this; exact blk_alloc this _
  have kR : W3.heap[w.heap.size + 1 + 1]? = some (.cells #[.string ⟨#[]⟩, .slice none 0 0, .slice none 0 0] 25 (0, 0)) := by
    rw [← hW3]; have := heap_alloc_new ((w.alloc (.cells #[.string nm, .slice A1 n1 c1, .slice A l.length c] 25)).alloc (.cells #[.func (.func fid) #[] lb] 74)) (.cells #[.string ⟨#[]⟩, .slice none 0 0, .slice none 0 0] 25); rw [World.size_alloc, World.size_alloc] at this; exact this
  rw [hW3]
  clear hW3
  refine (callsIn_wide.2 (clone25 (fun k => P k ∧ k < w.heap.size) A c l W3 (Kd.V_below (Kd.V_bound HV.out) hb3) (by omega))).mono ?_
  rintro e w4 ⟨v, rfl, hn, hb⟩
  obtain ⟨A', c', rfl⟩ := Kd.N_slice hn
  replace kC := blk_below kC hb
  replace kO := blk_below kO hb
  replace kR := blk_below kR hb
  have hz4 := hb.size
  have hb4 := hb3.trans (hb.mono (by omega))
  have cC2 : w4.cell? ⟨w.heap.size, 2, none⟩ = some (.slice A l.length c) := (blk_cell kC 2).trans rfl
  have fC : w4.frozen? ⟨w.heap.size, 2, none⟩ = false := blk_frozen kC 2
  have HN := Aside0.mk hn
  have HB4 := Aside0.mk hb4
  clear hn hb hb3 hb4
  obtain ⟨W5, hW5⟩ : ∃ W5, w4.setCell ⟨w.heap.size, 2, none⟩ (.slice A' l.length c') = W5 := ⟨_, rfl⟩
  have jC := blk_set kC 2 (.slice A' l.length c')
  have jO : W5.heap[w.heap.size + 1]? = some (.cells #[.func (.func fid) #[] lb] 74 (0, 0)) := by rw [← hW5]; exact (Below.heap_setCell _ _ _ _ (by simp)).trans kO
  have jR : W5.heap[w.heap.size + 1 + 1]? = some (.cells #[.string ⟨#[]⟩, .slice none 0 0, .slice none 0 0] 25 (0, 0)) := by rw [← hW5]; exact (Below.heap_setCell _ _ _ _ (by simp; omega)).trans kR
  have HW5 := Aside0.mk hW5
  clear hW5
  have c0 : w4.cell? ⟨w.heap.size, 0, none⟩ = some (.string nm) := (blk_cell kC 0).trans rfl
  have c1' : w4.cell? ⟨w.heap.size, 1, none⟩ = some (.slice A1 n1 c1) := (blk_cell kC 1).trans rfl
  have d0 : (w4.setCell ⟨w.heap.size, 2, none⟩ (.slice A' l.length c')).cell? ⟨w.heap.size, 0, none⟩ = some (.string nm) := (blk_cell jC 0).trans rfl
  have d1 : (w4.setCell ⟨w.heap.size, 2, none⟩ (.slice A' l.length c')).cell? ⟨w.heap.size, 1, none⟩ = some (.slice A1 n1 c1) := (blk_cell jC 1).trans rfl
  have d2 : (w4.setCell ⟨w.heap.size, 2, none⟩ (.slice A' l.length c')).cell? ⟨w.heap.size, 2, none⟩ = some (.slice A' l.length c') := (blk_cell jC 2).trans rfl
  gi_wp2
  rw [HW5.out] at jC ⊢
  gi_at_call 41
  refine (callsIn_wide.2 (comps_made nm A1 n1 c1 A' l.length c' _)).mono ?_
  rintro e w6 ⟨rfl, rfl⟩
  clear d0 d1 d2 cC2 fC c0 c1'
  gi_wp2
  obtain ⟨V, hVe⟩ : ∃ V, W5.alloc (.cells #[.string nm, .slice A1 n1 c1, .slice A' l.length c'] 25) = V := ⟨_, rfl⟩
  have hz5 : W5.heap.size = w4.heap.size := by rw [← HW5.out]; simp [World.setCell]
  have hVz : V.heap.size = w4.heap.size + 1 := by rw [← hVe, World.size_alloc, hz5]
  obtain ⟨okc, hokc⟩ : ∃ okc : Nat → Prop, okc = fun k => P k ∧ k < w.heap.size ∨ w.heap.size + 3 ≤ k := ⟨_, rfl⟩
  have hoks : ∀ k, S k → okc k := fun k hk => by rw [hokc]; exact .inl (hS k hk)
  have hokn : ∀ k, w.heap.size + 3 ≤ k → okc k := fun k hk => by rw [hokc]; exact .inr hk
  have HNV := Aside0.mk (show Kd.N k25 25 V w.heap.size okc (.slice A' l.length c') (updP G [] l) from by
    rw [updP_nil, ← hVe, ← HW5.out]
    refine Kd.N_alloc (Kd.N_mono (Kd.N_lower (Kd.N_far HN.out (p := ⟨w.heap.size, 2, none⟩) (fun k hk => ?_) _) (by omega)) (fun k hk => ?_)) _
    · show k ≠ w.heap.size
      rcases hk with hk | hk <;> omega
    · rw [hokc]; rcases hk with hk | hk
      · exact .inl hk
      · exact .inr (by omega))
  have hgb := Kd.N_base HN.out
  rw [hz3] at hgb
  have HBV := Aside0.mk (show Below w.heap.size w V from by
    rw [← hVe, ← HW5.out]; exact below_alloc (below_set HB4.out (Nat.le_refl _)) _)
  have q1 : V.heap[W5.heap.size]? = some (.cells #[.string nm, .slice A1 n1 c1, .slice A' l.length c'] 25 (0, 0)) := by
    rw [← hVe]; exact heap_alloc_new _ _
  have qC : V.heap[w.heap.size]? = some (.cells #[.string nm, .slice A1 n1 c1, .slice A' l.length c'] 25 (0, 0)) := by
    rw [← hVe]; exact blk_alloc jC _
  have qO : V.heap[w.heap.size + 1]? = some (.cells #[.func (.func fid) #[] lb] 74 (0, 0)) := by
    rw [← hVe]; exact blk_alloc jO _
  have qR : V.heap[w.heap.size + 1 + 1]? = some (.cells #[.string ⟨#[]⟩, .slice none 0 0, .slice none 0 0] 25 (0, 0)) := by
    rw [← hVe]; exact blk_alloc jR _
  rw [hVe]
  have HOC := Aside0.mk hokc
  clear hokc hVe HN HB4 jC jO jR kC kO kR HW5
  obtain ⟨L, hLl, hOk, hRd⟩ := cc_of (by have := (Kd.N_reads' HNV.out).2.2; rw [updP_nil] at this; exact this)
  have HOKC := Aside0.mk hOk
  have HMAP := Aside0.mk (oth_map L l 0 hLl (fun j hi hj => (hOk j hi hj).1))
  have HRD := Aside0.mk hRd
  clear hOk hRd
  have hLm : L.length ≤ 9223372036854775807 := by omega
  obtain ⟨I, hI⟩ : ∃ I : List (CC × Nat) → World → Prop, I = fun pre W => Kd.N k25 25 W w.heap.size okc (.slice A' l.length c') (updP G (pre.map Prod.snd) l) ∧ RdAt A' L (nextI pre) W ∧ W.heap[w.heap.size]? = some (.cells #[.string nm, .slice A1 n1 c1, .slice A' l.length c'] 25 (0, 0)) ∧ W.heap[w.heap.size + 1]? = some (.cells #[.func (.func fid) #[] lb] 74 (0, 0)) ∧ W.heap[w.heap.size + 1 + 1]? = some (.cells #[.string ⟨#[]⟩, .slice none 0 0, .slice none 0 0] 25 (0, 0)) ∧ Below w.heap.size w W := ⟨_, rfl⟩
  have HIV := Aside0.mk (show I [] V by rw [hI]; exact ⟨HNV.out, HRD.out, qC, qO, qR, HBV.out⟩)
  have HI0 := Aside0.mk (show OwnZ NoZ V.heap.size I by
    rw [hI]
    rintro s X Y row ⟨h1, h2, h3, h4, h5, h6⟩ hg hr
    refine ⟨N_own ck25 h1 hg hr, fun j hj hl => ?_, cell_own h3 hg hr, cell_own h4 hg hr, cell_own h5 hg hr, below_own h6 (by omega) hg hr⟩
    obtain ⟨ad, e, h0, h1, h2⟩ := h2 j hj hl
    exact ⟨ad, e, cells_own hg hr _ _ h0, cells_own hg hr _ _ h1, cells_own hg hr _ _ h2⟩)
  have hlr : (.slice A' L.length c' : Value) = .slice A' l.length c' := by rw [hLl]
  refine range_z (n₀ := w.heap.size) (Z := NoZ) (gf := 79) (lb := #[.pointer (some ⟨W5.heap.size, 0, none⟩)]) (En := fun x ar _ => ar = encC x) (xs := othersF 0 L) (Rd := fun pre W => RdAt A' L (nextI pre) W) (Own := fun _ _ => False) rfl (enters_of Try.func79 (by kernel_rfl) rfl) (by omega) (fun b hb => hb.elim)
    (fun l' J Jx W hW hJ hJx hRd _ _ hY h0 => (callsIn_wide (n := 51)).1 (comps_in A' c' L hLm nm A1 n1 c1 l' W5.heap.size w.heap.size J Jx W hJ hRd (fun pre x W1 h1 h2 => hY pre x _ W1 h1 h2 rfl) (by rw [hlr]; exact (hW.block W5.heap.size (by omega)).trans q1) h0)) (fun x ar _ e => by rw [e]; rfl)
    I (fun pre W h => by rw [hI] at h; exact h.2.1) (fun cd pre W => False) HI0.out (fun cd => fun s X Y row h hg hr => h) (OwnS.none _ _ _) (fun cd => OwnS.none _ _ _) HIV.out
    (fun x a' W => ∃ gk, V.heap.size ≤ gk ∧ a' = { tmps := #[.agg #[.string nm, .slice A1 n1 c1, .slice A l.length c], .func (.func fid) #[] lb, .pointer (some ⟨w.heap.size, 0, none⟩), .pointer (some ⟨w.heap.size + 1, 0, none⟩), .pointer (some ⟨w.heap.size + 1 + 1, 0, none⟩), .int .i64 x.2, .pointer (some ⟨gk, 0, none⟩), .pointer (some ⟨w.heap.size, 2, none⟩), .slice A l.length c, .slice A' l.length c', .pointer (some ⟨w.heap.size, 2, none⟩), .agg #[.string nm, .slice A1 n1 c1, .slice A' l.length c'], .func (.func 79) #[] #[.pointer (some ⟨W5.heap.size, 0, none⟩)], .int .i64 x.2, x.1.enc, undef, undef, undef, undef, undef, undef, undef, undef, undef, undef, undef], defers := [] } ∧ W.heap[gk]? = some (.cells x.1.cells 25 (0, 0)))
    (fun x a' _ X Y row h hg hr => by
      obtain ⟨gk, hG, e, hb⟩ := h
      exact ⟨gk, hG, e, cell_own hb hg hr⟩) ?assign ?body ?done ?stop
  case assign =>
    rintro l' pre x ar W K hI1 hpx rfl hW hK
    gi_wp2
    have hb : Below W.heap.size W (W.alloc (.cells x.1.cells 25)) := below_alloc (Below.refl _ _) _
    refine hK _ _ ((kf_below hb).koS (fun _ h => h)) (hb.mono (by omega)) (fun _ h => h.elim) (HI0.out.below hI1 hb) ⟨W.heap.size, by omega, by simp, heap_alloc_new W _⟩
  case body =>
    rintro l' pre x a' W hI1 hpx hWs ⟨gk, hG, rfl, hb⟩
    have HI1 := Aside0.mk hI1
    rw [hI] at hI1
    obtain ⟨h1, h2, hC, hO, hR, hBW0⟩ := hI1
    obtain ⟨hxi, hxe⟩ := oth_at (p := x) (hpx.subset (List.mem_append_right _ List.mem_cons_self))
    have hxl : x.2 < l.length := by omega
    obtain ⟨hnew, hnx, hpn⟩ := oth_new HMAP.out hpx
    have hxu : x.2 < (updP G (pre.map Prod.snd) l).length := by rw [updP_len]; exact hxl
    obtain ⟨g, cap, A1', c1', A2', c2', ev, e0, e1, e2, ef, le1, f1, le2, f2⟩ := N_get25 h1 x.2 hxu
    have hup := updP_at G (pre.map Prod.snd) l x.2 hxu hxl hnew
    rw [hup] at e0 e1 e2 le1 f1 le2 f2
    rw [updP_len] at ev
    have hgw := hgb g (by rw [ev]; rfl)
    have hgV := Kd.N_lt HNV.out g (by rw [ev]; rfl)
    injection ev with eA _ ecap
    subst eA
    subst ecap
    obtain ⟨ad, ead, r0, r1, r2⟩ := h2 x.2 hnx hxi
    injection ead with ead
    subst ead
    rw [add_at, hxe, Nat.zero_add] at r1
    have er : Value.slice A1' l[x.2].f1.length c1' = .slice x.1.a1 x.1.n1 x.1.c1 := Option.some.inj (e1.symm.trans r1)
    injection er with ea1 hk2 ec1
    subst ea1
    subst ec1
    have hlx := HLIM.out l[x.2] (List.getElem_mem hxl)
    have HVk := Aside0.mk (show Kd.V k45 45 W.drew W.drew.heap.size (fun k => okc k ∧ k ≠ g) (.slice x.1.a1 l[x.2].f1.length x.1.c1) l[x.2].f1 from Kd.V_drew (Kd.V_mk le1 f1))
    have hC6 : W.drew.heap[w.heap.size]? = some (.cells #[.string nm, .slice A1 n1 c1, .slice (some ⟨g, 0, none⟩) l.length c'] 25 (0, 0)) := hC
    have hO6 : W.drew.heap[w.heap.size + 1]? = some (.cells #[.func (.func fid) #[] lb] 74 (0, 0)) := hO
    have hG6 : W.drew.heap[gk]? = some (.cells x.1.cells 25 (0, 0)) := hb
    have hBW := Aside0.mk (show Below w.heap.size w W.drew from below_drew hBW0)
    have hWs0 : w.heap.size ≤ W.drew.heap.size := hBW0.size
    have hWd : W.drew.heap.size = W.heap.size := rfl
    have s0 : W.drew.cell? ⟨w.heap.size, 2, none⟩ = some (.slice (some ⟨g, 0, none⟩) l.length c') := (blk_cell hC6 2).trans rfl
    have s1 : W.drew.cell? ⟨w.heap.size + 1, 0, none⟩ = some (.func (.func fid) #[] lb) := (blk_cell hO6 0).trans rfl
    have s2 : W.drew.cell? ⟨gk, 1, none⟩ = some (.slice x.1.a1 l[x.2].f1.length x.1.c1) := (blk_cell hG6 1).trans (by rw [hk2]; rfl)
    have hgc0 := Aside0.mk (show ∀ W', Below W.drew.heap.size W.drew W' → W'.cell? ⟨g, x.2 * 3 + 1, none⟩ = some (.slice x.1.a1 l[x.2].f1.length x.1.c1) from fun W' hb => (hb.cell (World.block_lt_of_cell? W.drew _ e1)).trans e1)
    have hgf0 := Aside0.mk (show ∀ W', Below W.drew.heap.size W.drew W' → W'.frozen? ⟨g, x.2 * 3 + 1, none⟩ = false from fun W' hb => by
      obtain ⟨cells, hcl⟩ := Kd.N_typed h1 g rfl
      exact blk_frozen (blk_below (w := W.drew) hcl hb) _)
    have H1 := Aside0.mk h1
    have HK2 := Aside0.mk hk2
    clear hk2
    have H2 := Aside0.mk h2
    have hR6 := Aside0.mk hR
    clear h1 h2 e0 e1 e2 ef f1 f2 r0 r1 r2 hC hO hb hR le1 le2 hup
    gi_wp2
    refine start_in (n := 11) (S := fun w' => w'.cell? ⟨w.heap.size, 2, none⟩ = some (.slice (some ⟨g, 0, none⟩) l.length c') ∧ w'.cell? ⟨w.heap.size + 1, 0, none⟩ = some (.func (.func fid) #[] lb) ∧ w'.cell? ⟨gk, 1, none⟩ = some (.slice x.1.a1 l[x.2].f1.length x.1.c1)) (ds := [10]) (by rintro ⟨_, _, h_⟩; exact h_) (by kernel_rfl) #[false, false, false, false, false, false, false, false, false, false, false] (by kernel_rfl) rfl rfl ⟨s0, s1, s2⟩ (fun hHeld => ?_)
    clear s0 s1 s2
    refine pure_ (i := 0) (N := some 15) (v := ?_) (a' := ?_) #[true, false, false, false, false, false, false, false, false, false, false] rfl rfl (by kernel_rfl) (fun _ _ _ h => h) (Or.inl ⟨by rfl, ?_⟩) ?_ ?_
    rotate_left
    · intro w'
      go_simp
      with_reducible rfl
    rotate_left
    · simp only [Act.put, List.setIfInBounds_toArray, List.set_cons_zero, List.set_cons_succ, i64_w, i32_w]
      rfl
    refine take_ (i := 1) (N := some 16) (v := ?_) (a' := ?_) #[true, true, false, false, false, false, false, false, false, false, false] rfl rfl (by kernel_rfl) (fun _ _ _ h => h) (Or.inl ⟨by rfl, ?_⟩) hHeld ?_ ?_
    rotate_left
    · rintro w' ⟨s0, s1, s2⟩
      go_simp
      with_reducible rfl
    rotate_left
    · simp only [Act.put, List.setIfInBounds_toArray, List.set_cons_zero, List.set_cons_succ, i64_w, i32_w]
      rfl
    refine pure_ (i := 2) (N := some 17) (v := ?_) (a' := ?_) #[true, true, true, false, false, false, false, false, false, false, false] rfl rfl (by kernel_rfl) (fun _ _ _ h => h) (Or.inl ⟨by rfl, ?_⟩) ?_ ?_
    rotate_left
    · intro w'
      go_simp
      with_reducible rfl
    rotate_left
    · simp only [Act.put, List.setIfInBounds_toArray, List.set_cons_zero, List.set_cons_succ, i64_w, i32_w]
      rfl
    refine take_ (i := 3) (N := some 18) (v := ?_) (a' := ?_) #[true, true, true, true, false, false, false, false, false, false, false] rfl rfl (by kernel_rfl) (fun _ _ _ h => h) (Or.inl ⟨by rfl, ?_⟩) hHeld ?_ ?_
    rotate_left
    · rintro w' ⟨s0, s1, s2⟩
      go_simp
      with_reducible rfl
    rotate_left
    · simp only [Act.put, List.setIfInBounds_toArray, List.set_cons_zero, List.set_cons_succ, i64_w, i32_w]
      rfl
    refine pure_ (i := 4) (N := some 19) (v := ?_) (a' := ?_) #[true, true, true, true, true, false, false, false, false, false, false] rfl rfl (by kernel_rfl) (fun _ _ _ h => h) (Or.inl ⟨by rfl, ?_⟩) ?_ ?_
    rotate_left
    · intro w'
      go_simp
      with_reducible rfl
    rotate_left
    · simp only [Act.put, List.setIfInBounds_toArray, List.set_cons_zero, List.set_cons_succ, i64_w, i32_w]
      rfl
    refine take_ (i := 5) (N := some 20) (v := ?_) (a' := ?_) #[true, true, true, true, true, true, false, false, false, false, false] rfl rfl (by kernel_rfl) (fun _ _ _ h => h) (Or.inl ⟨by rfl, ?_⟩) hHeld ?_ ?_
    rotate_left
    · rintro w' ⟨s0, s1, s2⟩
      go_simp
      with_reducible rfl
    rotate_left
    · simp only [Act.put, List.setIfInBounds_toArray, List.set_cons_zero, List.set_cons_succ, i64_w, i32_w]
      rfl
    refine one_ (i := 6) (N := some 21) #[true, true, true, true, true, true, true, false, false, false, false] rfl rfl (by kernel_rfl) (by decide) (fun K hK => ?_)
    refine goes_ Try.func95 (by kernel_rfl) rfl #[.slice x.1.a1 l[x.2].f1.length x.1.c1] (by rfl) rfl rfl (by (try simp only [List.map_toArray, List.map_cons, List.map_nil]); first | done | rfl) ?_
    refine (clone45 _ _ _ l[x.2].f1 _ HVk.out hlx).mono ?_
    rintro e w7 ⟨v7, rfl, hn7, hb7⟩
    refine ⟨_, rfl, ?_⟩
    have hC7 := blk_below hC6 hb7
    have hO7 := blk_below hO6 hb7
    have hG7 := blk_below hG6 hb7
    have HN7 := Aside0.mk hn7
    have HB7 := Aside0.mk hb7
    clear hn7 hb7
    refine hK.out _ _ (⟨(blk_cell hC7 2).trans rfl, (blk_cell hO7 0).trans rfl, (blk_cell hG7 1).trans (by rw [HK2.out]; rfl)⟩) (fun hHeld => ?_)
    clear hK K
    refine norm_ (a' := ?_) ?_ ?_
    rotate_left
    · show Act.put _ (some 21) _ = _
      simp only [Act.put, List.setIfInBounds_toArray, List.set_cons_zero, List.set_cons_succ, i64_w, i32_w]
      rfl
    have HM7 := Aside0.mk (HMK.out.calls w7 W.drew.heap.size (fun k => okc k ∧ k ≠ g) v7 l[x.2].f1 (hBW.out.trans (HB7.out.mono hWs0)) hWs0 HB7.out.size (fun k hk => ⟨hokn _ (by omega), by omega⟩) (fun k hk => ⟨hoks k hk, by have := (hS k hk).2; omega⟩) (HOK.out _ (List.getElem_mem hxl)) (Kd.N_mono HN7.out (fun k hk => hk.elim id (fun hk => ⟨hokn _ (by omega), by omega⟩))))
    refine one_ (i := 7) (N := some 22) #[true, true, true, true, true, true, true, true, false, false, false] rfl rfl (by kernel_rfl) (by decide) (fun K hK => ?_)
    refine goesV_ hfn hname hbody (#[v7] ++ lb) (by rfl) rfl rfl (by rfl) (by (try simp only [List.map_toArray, List.map_cons, List.map_nil]); first | done | rfl) ?_
    refine HM7.out.mono ?_
    rintro e w8 ⟨v8, rfl, hn8, hb8⟩
    refine ⟨_, rfl, ?_⟩
    have hb8' : Below W.drew.heap.size W.drew w8 := HB7.out.trans hb8
    have hC8 := blk_below hC6 hb8'
    have hO8 := blk_below hO6 hb8'
    have hG8 := blk_below hG6 hb8'
    have HN8 := Aside0.mk hn8
    have HB8 := Aside0.mk hb8'
    clear hn8 hb8 hb8'
    refine hK.out _ _ (⟨(blk_cell hC8 2).trans rfl, (blk_cell hO8 0).trans rfl, (blk_cell hG8 1).trans (by rw [HK2.out]; rfl)⟩) (fun hHeld => ?_)
    clear hK K
    refine norm_ (a' := ?_) ?_ ?_
    rotate_left
    · show Act.put _ (some 22) _ = _
      simp only [Act.put, List.setIfInBounds_toArray, List.set_cons_zero, List.set_cons_succ, i64_w, i32_w]
      rfl
    refine pure_ (i := 8) (N := some 23) (v := ?_) (a' := ?_) #[true, true, true, true, true, true, true, true, true, false, false] rfl rfl (by kernel_rfl) (fun _ _ _ h => h) (Or.inl ⟨by rfl, ?_⟩) ?_ ?_
    rotate_left
    · intro w'
      go_simp
      with_reducible rfl
    rotate_left
    · simp only [Act.put, List.setIfInBounds_toArray, List.set_cons_zero, List.set_cons_succ, i64_w, i32_w]
      rfl
    refine pure_ (i := 9) (N := some 24) (v := ?_) (a' := ?_) #[true, true, true, true, true, true, true, true, true, true, false] rfl rfl (by kernel_rfl) (fun _ _ _ h => h) (Or.inl ⟨by rfl, ?_⟩) ?_ ?_
    rotate_left
    · intro w'
      go_simp
      with_reducible rfl
    rotate_left
    · simp only [Act.put, List.setIfInBounds_toArray, List.set_cons_zero, List.set_cons_succ, i64_w, i32_w]
      rfl
    obtain ⟨A8, c8, e8⟩ := Kd.N_slice HN8.out
    subst e8
    have hgc := hgc0.out _ (HB8.out)
    have hgf : w8.frozen? ⟨g, x.2 * 3 + 1, none⟩ = false := hgf0.out _ HB8.out
    refine last_ (i := 10) (N := none) #[true, true, true, true, true, true, true, true, true, true, true] rfl rfl (by kernel_rfl) (by decide) (fun K hKK => ?_)
    refine skip_ (w1 := ?_) (by rfl) rfl ?_ ?_
    rotate_left
    · go_simp
      rfl
    refine hKK.out _ _ ?_
    clear hKK K
    refine done_ (by kernel_rfl) ?_
    have hb8 := HB8.out
    have hz8 := hb8.size
    have hnb : Kd.N k25 25 w8 w.heap.size okc (.slice (some ⟨g, 0, none⟩) (updP G (pre.map Prod.snd) l).length c') (updP G (pre.map Prod.snd) l) := by
      rw [updP_len]; exact Kd.N_below (w := W.drew) (Kd.N_drew H1.out) hb8
    obtain ⟨hput, hgrow⟩ := N_put25 hnb x.2 hxu (G l[x.2].f1) A8 c8 (Kd.N_reads' HN8.out).2.1 (Kd.N_F HN8.out)
    rw [updP_at G (pre.map Prod.snd) l x.2 hxu hxl hnew, updP_len, ← updP_snoc G (pre.map Prod.snd) l x.2 hxl hnew] at hput
    have far : ∀ k, k ≠ g → (w8.setCell ⟨g, x.2 * 3 + 1, none⟩ (.slice A8 (G l[x.2].f1).length c8)).heap[k]? = w8.heap[k]? := fun k hk => Below.heap_setCell _ _ _ k hk
    have hblk : ∀ k, k < W.drew.heap.size → k ≠ g → (w8.setCell ⟨g, x.2 * 3 + 1, none⟩ (.slice A8 (G l[x.2].f1).length c8)).heap[k]? = W.heap[k]? := fun k hk hn => (far k hn).trans (hb8.block k hk)
    have hgw' : w.heap.size ≤ g := by omega
    have hbl : Below w.heap.size W (w8.setCell ⟨g, x.2 * 3 + 1, none⟩ (.slice A8 (G l[x.2].f1).length c8)) := ((below_drew (Below.refl W.heap.size W)).trans hb8).mono hBW0.size |>.trans (below_gb hgrow (by omega) hgw')
    refine ⟨⟨?_, fun i o hi ho _ => ?_, fun k h => h.elim⟩, hbl, fun _ h => h.elim, ?_⟩
    · have := hgrow.size; omega
    · have hil := (Array.getElem?_eq_some_iff.1 ho).1
      exact (hblk i (by omega) (by omega)).trans ho
    · rw [hI]
      refine ⟨?_, fun j hj hl => ?_, ?_, ?_, ?_, hBW0.trans hbl⟩
      · rw [List.map_append]; exact hput
      · rw [nextI_snoc] at hj
        obtain ⟨ad, e, h0, h1, h2⟩ := H2.out j (by omega) hl
        injection e with e
        subst e
        rw [add_at, Nat.zero_add] at h0 h1 h2
        have mv : ∀ (o : Nat) (u : Value), o ≠ x.2 * 3 + 1 → W.cell? ⟨g, o, none⟩ = some u → (w8.setCell ⟨g, x.2 * 3 + 1, none⟩ (.slice A8 (G l[x.2].f1).length c8)).cell? ⟨g, o, none⟩ = some u := fun o u ho hc => by
          have hne : (⟨g, x.2 * 3 + 1, none⟩ : Addr) ≠ ⟨g, o, none⟩ := fun e => ho (by injection e with _ e; exact e.symm)
          refine (World.cell?_setCell_other _ _ _ _ hne).trans ?_
          exact (hb8.cell (World.block_lt_of_cell? W.drew _ hc)).trans hc
        refine ⟨⟨g, 0, none⟩, rfl, ?_, ?_, ?_⟩
        · rw [add_at, Nat.zero_add]; exact mv (j * 3) _ (by omega) h0
        · rw [add_at, Nat.zero_add]; exact mv (j * 3 + 1) _ (by omega) h1
        · rw [add_at, Nat.zero_add]; exact mv (j * 3 + 2) _ (by omega) h2
      · exact (far _ (by omega)).trans hC8
      · exact (far _ (by omega)).trans hO8
      · exact (far _ (by omega)).trans ((hb8.block _ (by have := hBW0.size; omega)).trans hR6.out)
  case done =>
    rintro D2 W hD2 hI1 hK
    rw [hI] at hI1
    obtain ⟨h1, h2, hC, hO, hR, hBW⟩ := hI1
    rw [HMAP.out, updP_oth] at h1
    have H1 := Aside0.mk h1
    have HR := Aside0.mk hR
    have c0 : W.cell? ⟨w.heap.size, 0, none⟩ = some (.string nm) := (blk_cell hC 0).trans rfl
    have c1' : W.cell? ⟨w.heap.size, 1, none⟩ = some (.slice A1 n1 c1) := (blk_cell hC 1).trans rfl
    have c2' : W.cell? ⟨w.heap.size, 2, none⟩ = some (.slice A' l.length c') := (blk_cell hC 2).trans rfl
    have r0 : W.cell? ⟨w.heap.size + 1 + 1, 0, none⟩ = some (.string ⟨#[]⟩) := (blk_cell hR 0).trans rfl
    have r1 : W.cell? ⟨w.heap.size + 1 + 1, 1, none⟩ = some (.slice none 0 0) := (blk_cell hR 1).trans rfl
    have r2 : W.cell? ⟨w.heap.size + 1 + 1, 2, none⟩ = some (.slice none 0 0) := (blk_cell hR 2).trans rfl
    have t0 : W.frozen? ⟨w.heap.size + 1 + 1, 0, none⟩ = false := blk_frozen hR 0
    have t1 : W.frozen? ⟨w.heap.size + 1 + 1, 1, none⟩ = false := blk_frozen hR 1
    have t2 : W.frozen? ⟨w.heap.size + 1 + 1, 2, none⟩ = false := blk_frozen hR 2
    clear h1 h2 hC hO hR
    gi_wp2
    have hne : ∀ k, k ≠ w.heap.size + 1 + 1 → (((W.setCell ⟨w.heap.size + 1 + 1, 0, none⟩ (.string nm)).setCell ⟨w.heap.size + 1 + 1, 1, none⟩ (.slice A1 n1 c1)).setCell ⟨w.heap.size + 1 + 1, 2, none⟩ (.slice A' l.length c')).heap[k]? = W.heap[k]? := fun k hk =>
      ((Below.heap_setCell _ _ _ k hk).trans (Below.heap_setCell _ _ _ k hk)).trans (Below.heap_setCell _ _ _ k hk)
    refine ⟨by simp, .inl ⟨_, _, rfl, run_takeDeferred ((hne D2 (by omega)).trans hK), ?_⟩⟩
    refine ⟨_, results_box25 _ 4 rfl _ _ (w.heap.size + 1 + 1) nm A1 (A') n1 c1 l.length c' rfl ((World.putObj_heap_other (by omega)).trans (box3_at _ _ _ HR.out)), _, rfl, ?_, ?_⟩
    · refine Kd.N_mono (N_own ck25 (B := 0) (Kd.N_step H1.out (fun k hk hlt => ?_)) (grownBy_putObj' _ D2 _) (fun r e => ?_)) (fun k hk => ?_)
      · have hk' : P k ∧ k < w.heap.size ∨ w.heap.size + 3 ≤ k := by have h_ := hk; rw [HOC.out] at h_; exact h_
        exact hne k (by rcases hk' with hk' | hk' <;> omega)
      · cases e; exact .inr ⟨Nat.zero_le _, _, (hne D2 (by omega)).trans hK, rfl⟩
      · have hk' : P k ∧ k < w.heap.size ∨ w.heap.size + 3 ≤ k := by have h_ := hk; rw [HOC.out] at h_; exact h_
        rcases hk' with hk' | hk'
        · exact .inl hk'.1
        · exact .inr (by omega)
    · exact below_put _ (by omega) |> (below_set (below_set (below_set hBW (by show w.heap.size ≤ w.heap.size + 1 + 1; omega)) (by show w.heap.size ≤ w.heap.size + 1 + 1; omega)) (by show w.heap.size ≤ w.heap.size + 1 + 1; omega)).trans
  case stop =>
    rintro D2 cd pre W hD2 hpre h hK
    exact h.elim
end Go.Proofs.Ytebmbfobmakheaa.PD
namespace Go.Proofs.Ytebmbfobmakheaa.PD
open Go.RowKit Go.Proofs.YtebmbfobmakheaaW.PrintWords Go.Proofs.YtebmbfobmakheaaW.PrintLast Go.Proofs.YtebmbfobmakheaaW.PrintMore
attribute [local go_sem] isSome_setCell max2_int min2_int max_two min_two
set_option linter.unusedVariables false
set_option linter.unusedSimpArgs false
def isAtt (s : ByteArray) : Bool := s.toList == ([65, 84, 84, 69, 78, 68, 69, 69] : List UInt8)
set_option maxRecDepth 100000 in
set_option maxHeartbeats 1600000 in
theorem only11_calls (ab : Nat) (addr s : ByteArray) (A : Option Addr) (n c : Nat) (t : ByteArray) (W : World) (hG : W.heap[ab]? = some (.cells #[.string addr] 9 (0, 0))) (ha : shortB addr = true) (ht : isAtt s = true → shortB t = true) :
    Calls Try.prog 65 (#[.agg #[.string s, .slice A n c, .string t]] ++ #[.pointer (some ⟨ab, 0, none⟩)]) W fun e W' => e = .returned (.bool (isAtt s && !alikeB t addr)) ∧ Below W.heap.size W W' := by
  have hc : (W.alloc (.cells #[.string s, .slice A n c, .string t] 45)).cell? ⟨ab, 0, none⟩ = some (.string addr) := (blk_cell (blk_alloc hG _) 0).trans rfl
  have HB0 := Aside0.mk (below_alloc (Below.refl W.heap.size W) (.cells #[.string s, .slice A n c, .string t] 45))
  cases hn : isAtt s with
  | true =>
    have q3 : (s.toList == ([65, 84, 84, 69, 78, 68, 69, 69] : List UInt8)) = true := hn
    have q4 : (s.toList = ([65, 84, 84, 69, 78, 68, 69, 69] : List UInt8)) = True := eq_true (beq_iff_eq.1 hn)
    have HT := Aside0.mk (ht hn)
    clear ht hn
    go_enter Try.func65, Try.ntmps65
    go_wp2_with (go_at_call 48; refine (alike_calls t addr HT.out ha _).mono ?_; rintro e w5 ⟨rfl, hb5⟩; have HB5 := Aside0.mk (below_step HB0.out hb5); clear hb5)
    go_ret
    exact ⟨by simp, HB5.out⟩
  | false =>
    have q3 : (s.toList == ([65, 84, 84, 69, 78, 68, 69, 69] : List UInt8)) = false := hn
    have q4 : (s.toList = ([65, 84, 84, 69, 78, 68, 69, 69] : List UInt8)) = False := eq_false (beq_eq_false_iff_ne.1 hn)
    clear ht hn
    go_enter Try.func65, Try.ntmps65
    go_wp2
    go_ret
    exact ⟨by simp, HB0.out⟩
def onlyF (addr : ByteArray) (l : List S45) : List S45 := l.filter fun x => !(isAtt x.f0 && !alikeB x.f2 addr)
theorem base_far {W : World} {b k : Nat} {ok : Nat → Prop} {v : Value} {xs : List S45} (h : Kd.N k45 45 W b ok v xs) (hk : k < b) : some k ≠ v.ownBlock := fun e => by have := Kd.N_base h k e.symm; omega
set_option maxRecDepth 100000 in
set_option maxHeartbeats 1600000 in
theorem only1_maker (w : World) (ab : Nat) (addr : ByteArray) (hG : w.heap[ab]? = some (.cells #[.string addr] 9 (0, 0))) (ha : shortB addr = true) :
    Maker w 63 #[.pointer (some ⟨ab, 0, none⟩)] (fun _ => False) (fun l => ∀ x ∈ l, isAtt x.f0 = true → shortB x.f2 = true) (onlyF addr) := ⟨by
  intro W b ok v xs hW hb hbW hokb _ hok hn
  have hlt := (Array.getElem?_eq_some_iff.1 hG).1
  have hG1 := blk_below hG hW
  have HG := Aside0.mk hG1
  have HN := Aside0.mk hn
  have HOK := Aside0.mk hok
  have hne := base_far hn (show ab < b by omega)
  have HNE := Aside0.mk hne
  obtain ⟨Av, cv, rfl⟩ := Kd.N_slice hn
  clear hG hG1 hn hok hW hne
  go_enter Try.func63, Try.ntmps63
  go_wp2_with (go_at_call 64; refine (deleteN 65 _ Try.func65 (by kernel_rfl) rfl #[.pointer (some ⟨ab, 0, none⟩)] (fun s t => isAtt s && !alikeB t addr) b ok _ xs _ HN.out hbW (fun x hx A n c W1 hW1 => only11_calls ab addr x.f0 A n c x.f2 W1 (blk_grown HG.out hW1 HNE.out) ha (HOK.out x hx))).mono ?_; rintro e w5 ⟨v5, rfl, hn5, hb5⟩; have HN5 := Aside0.mk hn5; have HB5 := Aside0.mk hb5; clear hn5 hb5)
  go_ret
  refine ⟨_, rfl, HN5.out, ?_⟩
  have hg := HB5.out
  exact ⟨hg.os, hg.tape, hg.output, hg.size, fun k hk => hg.block k (by omega) (base_far HN.out hk)⟩⟩
def cancF (l : List S45) : List S45 := l.filter (fun x => !(x.f0.toList == (⟨#[83, 84, 65, 84, 85, 83]⟩ : ByteArray).toList)) ++ [(⟨⟨#[83, 84, 65, 84, 85, 83]⟩, [], ⟨#[67, 65, 78, 67, 69, 76, 76, 69, 68]⟩⟩ : S45)]
set_option maxRecDepth 100000 in
set_option maxHeartbeats 1600000 in
theorem cancel1_maker (w : World) : Maker w 72 #[] (fun _ => False) (fun l => l.length < 2513169434916) cancF := ⟨by
  intro W b ok v xs hW hb hbW hokb _ hok hn
  have hu22 := Try.underlying22
  have hu45 := Try.underlying45
  obtain ⟨Av, cv, rfl⟩ := Kd.N_slice hn
  have HV := Aside0.mk (show Kd.V k45 45 W W.heap.size ok (.slice Av xs.length cv) xs from Kd.V_mk (Kd.N_reads' hn).2.1 (Kd.N_F hn))
  obtain ⟨m, hm⟩ : ∃ m, (xs.filter fun x => !(x.f0.toList == (⟨#[83, 84, 65, 84, 85, 83]⟩ : ByteArray).toList)) = m := ⟨_, rfl⟩
  have hlf : m.length ≤ xs.length := by rw [← hm]; exact List.length_filter_le _ _
  have HM := Aside0.mk hm
  clear hm
  have hok2 : xs.length < 2513169434916 := hok
  clear hn hW hok
  show Calls Try.prog 72 #[.slice Av xs.length cv] W _
  go_enter Try.func72, Try.ntmps72
  go_wp2_with (first | (go_at_call 66; refine (itip_without_walk ok Av cv xs ⟨#[83, 84, 65, 84, 85, 83]⟩ W HV.out (by omega)).mono ?_; rintro e w5 ⟨v5, rfl, hn5, hb5⟩; rw [HM.out] at hn5; obtain ⟨A5, c5, e5⟩ := Kd.N_slice hn5; subst e5; have HN5 := Aside0.mk (Kd.N_mono hn5 (fun k hk => hk.elim id (fun hk => hokb k (Nat.le_trans hbW hk)))); have HB5 := Aside0.mk hb5; clear hn5 hb5) | ((with_reducible refine gate_builtin (b := .append) (xs := #[.tmp 4, .tmp 6]) rfl ?_); refine Aside0.out ?_))
  refine ⟨?_⟩
  at_builtin
  refine Kd.N_append k45 (w0 := W) W.heap.size rfl (.tmp 4) (.tmp 6) 22 45 (.agg #[(.string ⟨#[]⟩), (.slice none 0 0), (.string ⟨#[]⟩)]) 56 rfl Try.underlying22 info45 rfl (by decide) (by omega) (.slice A5 m.length c5) m (⟨⟨#[83, 84, 65, 84, 85, 83]⟩, [], ⟨#[67, 65, 78, 67, 69, 76, 76, 69, 68]⟩⟩ : S45) [.string ⟨#[83, 84, 65, 84, 85, 83]⟩, .slice none 0 0, .string ⟨#[67, 65, 78, 67, 69, 76, 76, 69, 68]⟩] ok (fun k => ok k ∧ some k ≠ (Value.slice A5 m.length c5).ownBlock) rfl (by first | (go_simp; done) | (go_simp; rfl)) ?aP (fun _ hk => hk) ?aF ?aO ?aB ?aS ?aL ?_
  (case aP => exact (k45_mkF _ _ (⟨⟨#[83, 84, 65, 84, 85, 83]⟩, [], ⟨#[67, 65, 78, 67, 69, 76, 76, 69, 68]⟩⟩ : S45) (Nat.le_refl _) (Kd.F_nil _ _ _)))
  (case aF => exact fun k hk => hokb k (Nat.le_trans hbW (Nat.le_trans HB5.out.size hk)))
  (case aO => exact HN5.out)
  (case aB => exact HB5.out)
  (case aS => exact HB5.out.size)
  (case aL => omega)
  intro v6 w6 hn6 hb6 hg6 hat6
  have HN6 := Aside0.mk hn6
  have HB6 := Aside0.mk hb6
  clear hn6 hb6 hg6 hat6
  go_wp2
  go_ret
  exact ⟨_, rfl, by unfold cancF; rw [HM.out]; exact Kd.N_lower HN6.out hbW, HB6.out.mono hbW⟩⟩
end Go.Proofs.Ytebmbfobmakheaa.PD
namespace Go.Proofs.Ytebmbfobmakheaa.PD
open Go.RowKit Go.Proofs.YtebmbfobmakheaaW.PrintWords Go.Proofs.YtebmbfobmakheaaW.PrintLast Go.Proofs.YtebmbfobmakheaaW.PrintMore
attribute [local go_sem] isSome_setCell max2_int min2_int max_two min_two
set_option linter.unusedVariables false
set_option linter.unusedSimpArgs false
def limO (l : List S25) : Bool := decide (l.length ≤ 1000000000) && l.all fun x => decide (x.f1.length < 2513169434916) && x.f1.all fun p => !isAtt p.f0 || (shortB p.f2 && decide (p.f1.length < 3518437208882))
theorem limO_len {l : List S25} (h : limO l = true) : l.length ≤ 1000000000 := by unfold limO at h; simp only [Bool.and_eq_true, decide_eq_true_eq] at h; exact h.1
theorem limO_at {l : List S25} (h : limO l = true) (x : S25) (hx : x ∈ l) : x.f1.length < 2513169434916 ∧ ∀ p ∈ x.f1, isAtt p.f0 = true → shortB p.f2 = true ∧ p.f1.length < 3518437208882 := by
  unfold limO at h
  simp only [Bool.and_eq_true, decide_eq_true_eq, List.all_eq_true, Bool.or_eq_true, Bool.not_eq_true'] at h
  obtain ⟨h1, h2⟩ := h.2 x hx
  exact ⟨h1, fun p hp ha => (h2 p hp).resolve_left (by rw [ha]; simp)⟩
theorem V_beside {w w' : World} {P1 P2 : Nat → Prop} {A1 : Option Addr} {c1 : Nat} {l1 : List S45} {v2 : Value} {l2 : List S25} {ok : Nat → Prop} (h : Kd.V k45 45 w w.heap.size P1 (.slice A1 l1.length c1) l1) (hb : Below w.heap.size w w') (h2 : Kd.N k25 25 w' w.heap.size ok v2 l2) :
    Kd.V k45 45 w' w.heap.size (fun k_ => ((P1 k_ ∨ P2 k_) ∨ w.heap.size ≤ k_) ∧ some k_ ≠ (v2 : Value).ownBlock) (.slice A1 l1.length c1) l1 :=
  Kd.V_mono (Kd.V_below (Kd.V_bound h) hb) (fun k hk => ⟨.inl (.inl hk.1), fun e => by have := Kd.N_base h2 k e.symm; have := hk.2; omega⟩)
theorem N_boxed {w5 : World} {base n m R : Nat} {P : Nat → Prop} {v : Value} {l : List S25} (h : Kd.N k25 25 w5 base (fun k => (P k ∧ k < n) ∨ m ≤ k) v l) (h1 : n ≤ R) (h2 : R < m) (x y z : Value) :
    Kd.N k25 25 (((w5.setCell ⟨R, 0, none⟩ x).setCell ⟨R, 1, none⟩ y).setCell ⟨R, 2, none⟩ z) base (fun k => P k ∨ n ≤ k) v l :=
  Kd.N_mono (Kd.N_step h (fun k hk _ => by
    have hne : k ≠ R := by rcases hk with hk | hk <;> omega
    exact ((Below.heap_setCell _ _ _ k hne).trans (Below.heap_setCell _ _ _ k hne)).trans (Below.heap_setCell _ _ _ k hne))) (fun k hk => hk.elim (fun hk => .inl hk.1) (fun hk => .inr (by omega)))
theorem below_boxed {w w5 : World} {R : Nat} (h : Below w.heap.size w w5) (h1 : w.heap.size ≤ R) (x y z : Value) : Below w.heap.size w (((w5.setCell ⟨R, 0, none⟩ x).setCell ⟨R, 1, none⟩ y).setCell ⟨R, 2, none⟩ z) := below_set (below_set (below_set h h1) h1) h1
set_option maxRecDepth 100000 in
set_option maxHeartbeats 1600000 in
theorem only_walk (nm : ByteArray) (A1 : Option Addr) (n1 c1 : Nat) (P : Nat → Prop) (A : Option Addr) (c : Nat) (l : List S25) (addr : ByteArray) (w : World) (hs : Kd.V k25 25 w w.heap.size P (.slice A l.length c) l) (hlim : limO l = true) (ha : shortB addr = true) :
    Calls Try.prog 22 #[.agg #[.string nm, .slice A1 n1 c1, .slice A l.length c], .string addr] w fun e w' => ∃ v : Value, e = .returned (.agg #[.string nm, .slice A1 n1 c1, v]) ∧ Kd.N k25 25 w' w.heap.size (fun k => P k ∨ w.heap.size ≤ k) v (chgP (onlyF addr) l) ∧ Below w.heap.size w w' := by
  have HV := Aside0.mk hs
  clear hs
  go_enter Try.func22, Try.ntmps22
  go_wp2_with (go_at_call 62; refine Aside0.out ?_)
  refine ⟨?_⟩
  obtain ⟨W3, hW3⟩ : ∃ W3, ((w.alloc (Obj.cells #[Value.string nm, Value.slice A1 n1 c1, Value.slice A l.length c] 25)).alloc (Obj.cells #[Value.string addr] 9)).alloc (Obj.cells #[Value.string { data := #[] }, Value.slice none 0 0, Value.slice none 0 0] 25) = W3 := ⟨_, rfl⟩
  have hz3 : W3.heap.size = w.heap.size + 3 := by rw [← hW3]; simp
  have hb3 : Below w.heap.size w W3 := by rw [← hW3]; exact below_alloc (below_alloc (below_alloc (Below.refl _ _) _) _) _
  have kO : W3.heap[w.heap.size + 1]? = some (.cells #[.string addr] 9 (0, 0)) := by
    rw [← hW3]; have := heap_alloc_new (w.alloc (.cells #[.string nm, .slice A1 n1 c1, .slice A l.length c] 25)) (.cells #[.string addr] 9); rw [World.size_alloc] at this; exact blk_alloc this _
  have kR : W3.heap[w.heap.size + 1 + 1]? = some (.cells #[.string ⟨#[]⟩, .slice none 0 0, .slice none 0 0] 25 (0, 0)) := by
    rw [← hW3]; have := heap_alloc_new ((w.alloc (.cells #[.string nm, .slice A1 n1 c1, .slice A l.length c] 25)).alloc (.cells #[.string addr] 9)) (.cells #[.string ⟨#[]⟩, .slice none 0 0, .slice none 0 0] 25); rw [World.size_alloc, World.size_alloc] at this; exact this
  rw [hW3]
  clear hW3
  refine (changed_walk 63 _ Try.func63 rfl rfl _ _ _ (fun _ => False) (fun k => P k ∧ k < w.heap.size) nm A1 n1 c1 A c l W3 (only1_maker W3 (w.heap.size + 1) addr kO ha) (fun _ h => h.elim) (Kd.V_below (Kd.V_bound HV.out) hb3) (limO_len hlim) (fun x hx => by have := (limO_at hlim x hx).1; omega) (fun x hx p hp h => ((limO_at hlim x hx).2 p hp h).1)).mono ?_
  rintro e w5 ⟨v5, rfl, hn5, hb5⟩
  obtain ⟨A5, c5, rfl⟩ := Kd.N_slice hn5
  have hR5 := blk_below kR hb5
  have r0 : w5.cell? ⟨w.heap.size + 1 + 1, 0, none⟩ = some (.string ⟨#[]⟩) := (blk_cell hR5 0).trans rfl
  have r1 : w5.cell? ⟨w.heap.size + 1 + 1, 1, none⟩ = some (.slice none 0 0) := (blk_cell hR5 1).trans rfl
  have r2 : w5.cell? ⟨w.heap.size + 1 + 1, 2, none⟩ = some (.slice none 0 0) := (blk_cell hR5 2).trans rfl
  have t0 : w5.frozen? ⟨w.heap.size + 1 + 1, 0, none⟩ = false := blk_frozen hR5 0
  have t1 : w5.frozen? ⟨w.heap.size + 1 + 1, 1, none⟩ = false := blk_frozen hR5 1
  have t2 : w5.frozen? ⟨w.heap.size + 1 + 1, 2, none⟩ = false := blk_frozen hR5 2
  have HN5 := Aside0.mk (Kd.N_lower hn5 (show w.heap.size ≤ W3.heap.size by omega))
  rw [hz3] at HN5
  have HB5 := Aside0.mk (hb3.trans (hb5.mono (by omega)))
  have HR5 := Aside0.mk hR5
  clear hn5 hb5 hb3 hR5 kO kR
  go_wp2
  refine bodyPost_ret (results_box25 _ 4 rfl _ _ (w.heap.size + 1 + 1) nm A1 A5 n1 c1 _ c5 rfl (box3_at _ _ _ HR5.out)) rfl ?_
  exact ⟨_, rfl, N_boxed HN5.out (by omega) (by omega) _ _ _, below_boxed HB5.out (by omega) _ _ _⟩
def itip_Only.f (k : Nat) (a0_0 : ByteArray) (l0_1 : List (S45)) (l0_2 : List (S25)) (a1 : ByteArray) : Option (ByteArray × (List (S45)) × (List (S25))) := if (limO l0_2 && shortB a1) = true then some (a0_0, l0_1, chgP (onlyF a1) l0_2) else none
theorem itip_Only.calls (k : Nat) (a0_0 : ByteArray) (P0_1_ : Nat → Prop) (A0_1 : Option Addr) (c0_1 : Nat) (l0_1 : List (S45)) (P0_2_ : Nat → Prop) (A0_2 : Option Addr) (c0_2 : Nat) (l0_2 : List (S25)) (a1 : ByteArray) (r1 : ByteArray) (r2 : List (S45)) (r3 : List (S25)) (w : World) (hs0_1 : Kd.V k45 45 w w.heap.size (fun k_ => P0_1_ k_) (.slice A0_1 l0_1.length c0_1) l0_1) (hs0_2 : Kd.V k25 25 w w.heap.size (fun k_ => P0_2_ k_) (.slice A0_2 l0_2.length c0_2) l0_2) (h : itip_Only.f k a0_0 l0_1 l0_2 a1 = some (r1, r2, r3)) :
    Calls Try.prog 22 #[.agg #[.string a0_0, .slice A0_1 l0_1.length c0_1, .slice A0_2 l0_2.length c0_2], .string a1] w fun e w' => ∃ v1_ v2_ : Value, e = .returned (.agg #[.string r1, v1_, v2_]) ∧ Kd.V k45 45 w' w.heap.size (fun k_ => ((P0_1_ k_ ∨ P0_2_ k_) ∨ w.heap.size ≤ k_) ∧ some k_ ≠ (v2_ : Value).ownBlock) v1_ r2 ∧ Kd.N k25 25 w' w.heap.size (fun k_ => ((P0_1_ k_ ∨ P0_2_ k_) ∨ w.heap.size ≤ k_)) v2_ r3 ∧ Below w.heap.size w w' := by
  unfold itip_Only.f at h
  split at h
  case isFalse => cases h
  rename_i hc
  simp only [Bool.and_eq_true] at hc
  simp only [Option.some.injEq, Prod.mk.injEq] at h
  obtain ⟨rfl, rfl, rfl⟩ := h
  refine (only_walk a0_0 A0_1 _ c0_1 P0_2_ A0_2 c0_2 l0_2 a1 w hs0_2 hc.1 hc.2).mono ?_
  rintro e w' ⟨v, rfl, hn, hb⟩
  exact ⟨_, v, rfl, V_beside hs0_1 hb hn, Kd.N_mono hn (fun k hk => hk.imp (fun h => .inr h) id), hb⟩
end Go.Proofs.Ytebmbfobmakheaa.PD
namespace Go.Proofs.Ytebmbfobmakheaa.PD
open Go.RowKit Go.Proofs.YtebmbfobmakheaaW.PrintWords Go.Proofs.YtebmbfobmakheaaW.PrintLast Go.Proofs.YtebmbfobmakheaaW.PrintMore
attribute [local go_sem] isSome_setCell max2_int min2_int max_two min_two
set_option linter.unusedVariables false
set_option linter.unusedSimpArgs false
theorem N_get45 {W : World} {base : Nat} {ok : Nat → Prop} {v : Value} {xs : List S45} (h : Kd.N k45 45 W base ok v xs) (i : Nat) (hi : i < xs.length) :
    ∃ g cap A1 c1, v = .slice (some ⟨g, 0, none⟩) xs.length cap ∧ W.cell? ⟨g, i * 3, none⟩ = some (.string xs[i].f0) ∧ W.cell? ⟨g, i * 3 + 1, none⟩ = some (.slice A1 xs[i].f1.length c1) ∧ W.cell? ⟨g, i * 3 + 2, none⟩ = some (.string xs[i].f2) ∧ (∀ j, W.frozen? ⟨g, j, none⟩ = false) ∧ base ≤ g ∧ g < W.heap.size ∧
      xs[i].f1.length ≤ c1 ∧ Kd.F k77 W (fun k => ok k ∧ k ≠ g) A1 xs[i].f1.length xs[i].f1 := by
  obtain ⟨g, cap, rfl, hb, hlt, cells, hcl⟩ := Kd.N_form h (by omega)
  obtain ⟨c, hl, hK, hc, hf⟩ := Kd.N_elem h z45 (i : Int) (by omega) (by omega)
  have hg : xs.getD (i : Int).toNat z45 = xs[i] := by simp [hi]
  rw [hg] at hK
  rw [Int.toNat_natCast] at hc hf
  obtain ⟨A1, c1, rfl, l1, f1⟩ := k45_openF hK
  exact ⟨g, cap, A1, c1, rfl, hc 0 _ rfl, hc 1 _ rfl, hc 2 _ rfl, fun j => blk_frozen hcl j, hb, hlt, l1, f1⟩
theorem N_put45 {W : World} {base g cap : Nat} {ok : Nat → Prop} {xs : List S45} (h : Kd.N k45 45 W base ok (.slice (some ⟨g, 0, none⟩) xs.length cap) xs) (i : Nat) (hi : i < xs.length) (y : List S77) (A : Option Addr) (c : Nat) (hyc : y.length ≤ c) (hy : Kd.F k77 W (fun k => ok k ∧ k ≠ g) A y.length y) :
    Kd.N k45 45 (W.setCell ⟨g, i * 3 + 1, none⟩ (.slice A y.length c)) base ok (.slice (some ⟨g, 0, none⟩) xs.length cap) (xs.set i { xs[i] with f1 := y }) ∧ W.grownBy (W.setCell ⟨g, i * 3 + 1, none⟩ (.slice A y.length c)) (some g) := by
  obtain ⟨cs, hl, hK, hc, hf⟩ := Kd.N_elem h z45 (i : Int) (by omega) (by omega)
  have hg : xs.getD (i : Int).toNat z45 = xs[i] := by simp [hi]
  rw [hg] at hK
  obtain ⟨A1, c1, rfl, l1, f1⟩ := k45_openF hK
  have := Kd.N_seg h (i : Int) (by omega) (by omega) (c := [.string xs[i].f0, .slice A1 xs[i].f1.length c1, .string xs[i].f2]) (seg := [.slice A y.length c]) (j := 1) (x' := { xs[i] with f1 := y }) (okp := fun k => ok k ∧ k ≠ g) hl hc (by show 1 + 1 ≤ 3; omega) (k45_mkF W _ { xs[i] with f1 := y } hyc hy) (fun _ hk => hk)
  rw [Int.toNat_natCast] at this
  exact this
theorem N_put77 {W : World} {base g cap : Nat} {ok : Nat → Prop} {xs : List S77} (h : Kd.N k77 77 W base ok (.slice (some ⟨g, 0, none⟩) xs.length cap) xs) (i : Nat) (hi : i < xs.length) (y : S77) (A : Option Addr) (c : Nat) (hyc : y.f1.length ≤ c) (hy : Kd.F Kd.string W (fun k => ok k ∧ k ≠ g) A y.f1.length y.f1) :
    Kd.N k77 77 ((W.setCell ⟨g, i * 2, none⟩ (.string y.f0)).setCell ⟨g, i * 2 + 1, none⟩ (.slice A y.f1.length c)) base ok (.slice (some ⟨g, 0, none⟩) xs.length cap) (xs.set i y) ∧ W.grownBy ((W.setCell ⟨g, i * 2, none⟩ (.string y.f0)).setCell ⟨g, i * 2 + 1, none⟩ (.slice A y.f1.length c)) (some g) := by
  obtain ⟨cs, hl, hK, hc, hf⟩ := Kd.N_elem h (⟨⟨#[]⟩, []⟩ : S77) (i : Int) (by omega) (by omega)
  have hg : xs.getD (i : Int).toNat (⟨⟨#[]⟩, []⟩ : S77) = xs[i] := by simp [hi]
  rw [hg] at hK
  obtain ⟨A1, c1, rfl, l1, f1⟩ := k77_openF hK
  have := Kd.N_seg h (i : Int) (by omega) (by omega) (c := [.string xs[i].f0, .slice A1 xs[i].f1.length c1]) (seg := [.string y.f0, .slice A y.f1.length c]) (j := 0) (x' := y) (okp := fun k => ok k ∧ k ≠ g) hl hc (by show 0 + 2 ≤ 2; omega) (k77_mkF W _ y hyc hy) (fun _ hk => hk)
  rw [Int.toNat_natCast] at this
  exact this
theorem F_one {W : World} {vb : Nat} {value : ByteArray} (h : W.heap[vb]? = some (.cells #[.string value] 9 (0, 0))) : Kd.F Kd.string W (fun k => k = vb) (some ⟨vb, 0, none⟩) [value].length [value] := fun W' hW => by
  have hb := (hW vb rfl (Array.getElem?_eq_some_iff.1 h).1).trans h
  refine ⟨rfl, by simp, fun _ => ⟨_, rfl, fun j p hj => ?_⟩⟩
  rcases j with _ | j
  · simp only [List.getElem?_cons_zero, Option.some.injEq] at hj
    subst hj
    refine ⟨[.string value], rfl, rfl, fun i u hu => ?_⟩
    rcases i with _ | i
    · simp only [List.getElem?_cons_zero, Option.some.injEq] at hu
      subst hu
      exact (blk_cell hb 0).trans rfl
    · simp at hu
  · simp at hj
def paramF (name value : ByteArray) (l : List S77) : List S77 := if 0 ≤ idxP (fun y : S77 => y.f0.toList == name.toList) l then l.set (idxP (fun y : S77 => y.f0.toList == name.toList) l).toNat ⟨name, [value]⟩ else l ++ [⟨name, [value]⟩]
def hitB (addr : ByteArray) (x : S45) : Bool := isAtt x.f0 && alikeB x.f2 addr
def setF (addr name value : ByteArray) (l : List S45) : List S45 := l.map fun x => if hitB addr x = true then { x with f1 := paramF name value x.f1 } else x
def setK (addr name value : ByteArray) (k : Nat) (l : List S45) : List S45 := setF addr name value (l.take k) ++ l.drop k
theorem setK_len (addr name value : ByteArray) (k : Nat) (l : List S45) : (setK addr name value k l).length = l.length := by unfold setK setF; simp; omega
theorem setK_zero (addr name value : ByteArray) (l : List S45) : setK addr name value 0 l = l := by unfold setK setF; simp
theorem setK_all (addr name value : ByteArray) (l : List S45) (k : Nat) (h : l.length ≤ k) : setK addr name value k l = setF addr name value l := by unfold setK; rw [List.take_of_length_le h, List.drop_eq_nil_of_le h, List.append_nil]
theorem setK_at (addr name value : ByteArray) (l : List S45) (k : Nat) (hk : k < l.length) (hk' : k < (setK addr name value k l).length) : (setK addr name value k l)[k] = l[k] := by
  apply Option.some.inj
  rw [← List.getElem?_eq_getElem hk', ← List.getElem?_eq_getElem hk]
  unfold setK setF
  rw [List.getElem?_append_right (by simp; omega), List.getElem?_drop]
  congr 1
  simp
  omega
theorem setK_skip (addr name value : ByteArray) (l : List S45) (k : Nat) (hk : k < l.length) (h : hitB addr l[k] = false) : setK addr name value (k + 1) l = setK addr name value k l := by
  unfold setK setF
  rw [List.take_succ_eq_append_getElem hk, List.map_append, List.append_assoc, List.drop_eq_getElem_cons hk]
  simp [h]
theorem setK_hit (addr name value : ByteArray) (l : List S45) (k : Nat) (hk : k < l.length) (h : hitB addr l[k] = true) : setK addr name value (k + 1) l = (setK addr name value k l).set k { l[k] with f1 := paramF name value l[k].f1 } := by
  unfold setK setF
  rw [List.take_succ_eq_append_getElem hk, List.map_append, List.append_assoc, List.drop_eq_getElem_cons hk, List.set_append_right _ _ (by simp; omega)]
  simp [h, Nat.min_eq_left (Nat.le_of_lt hk)]
  rw [List.drop_eq_getElem_cons hk]
  rfl
set_option maxRecDepth 100000 in
set_option maxHeartbeats 1600000 in
theorem setN_calls (nm : ByteArray) (G : Nat) (s : ByteArray) (A : Option Addr) (n c : Nat) (W : World) (hG : W.heap[G]? = some (.cells #[.string nm] 9 (0, 0))) :
    Calls Try.prog 92 (#[.agg #[.string s, .slice A n c]] ++ #[.pointer (some ⟨G, 0, none⟩)]) W fun e W' => e = .returned (.bool (s.toList == nm.toList)) ∧ Below W.heap.size W W' := by
  have hc : (W.alloc (.cells #[.string s, .slice A n c] 77)).cell? ⟨G, 0, none⟩ = some (.string nm) := (blk_cell (blk_alloc hG _) 0).trans rfl
  have HB0 := Aside0.mk (below_alloc (Below.refl W.heap.size W) (.cells #[.string s, .slice A n c] 77))
  go_enter Try.func92, Try.ntmps92
  go_wp2
  go_ret
  exact ⟨rfl, HB0.out⟩
end Go.Proofs.Ytebmbfobmakheaa.PD
namespace Go.Proofs.Ytebmbfobmakheaa.PD
open Go.RowKit Go.Proofs.YtebmbfobmakheaaW.PrintWords Go.Proofs.YtebmbfobmakheaaW.PrintLast Go.Proofs.YtebmbfobmakheaaW.PrintMore
attribute [local go_sem] isSome_setCell max2_int min2_int max_two min_two
set_option linter.unusedVariables false
set_option linter.unusedSimpArgs false
theorem set_end {W W9 : World} {b g cap k c9 : Nat} {ok : Nat → Prop} {ls xs : List S45} {x : S45} {y : List S77} {A9 : Option Addr} {base : Nat} (h : Kd.N k45 45 W b ok (.slice (some ⟨g, 0, none⟩) xs.length cap) ls) (hl : ∀ _k : Nat, ls.length = xs.length) (hb : Below W.heap.size W W9) (hk : k < xs.length) (hku : k < ls.length) (hx : ls[k] = x)
    (hn : Kd.N k77 77 W9 base (fun q => ok q ∧ q ≠ g) (.slice A9 y.length c9) y) :
    Kd.N k45 45 (W9.setCell ⟨g, k * 3 + 1, none⟩ (.slice A9 y.length c9)) b ok (.slice (some ⟨g, 0, none⟩) xs.length cap) (ls.set k { x with f1 := y }) ∧ W9.grownBy (W9.setCell ⟨g, k * 3 + 1, none⟩ (.slice A9 y.length c9)) (some g) := by
  have h9 := Kd.N_below h hb
  rw [← hl 0] at h9
  have := N_put45 h9 k hku y A9 c9 (Kd.N_reads' hn).2.1 (Kd.N_F hn)
  rw [hx, hl 0] at this
  exact this
set_option maxRecDepth 100000 in
set_option maxHeartbeats 8000000 in
theorem set1_maker (w : World) (ab nb xb vb : Nat) (addr name value : ByteArray) (hA : w.heap[ab]? = some (.cells #[.string addr] 9 (0, 0))) (hN : w.heap[nb]? = some (.cells #[.string name] 9 (0, 0))) (hX : w.heap[xb]? = some (.cells #[.string name, .slice (some ⟨vb, 0, none⟩) 1 1] 77 (0, 0))) (hVb : w.heap[vb]? = some (.cells #[.string value] 9 (0, 0))) (ha : shortB addr = true) :
    Maker w 89 #[.pointer (some ⟨ab, 0, none⟩), .pointer (some ⟨nb, 0, none⟩), .pointer (some ⟨xb, 0, none⟩)] (fun k => k = vb) (fun l => l.length ≤ 2513169434917 ∧ ∀ x ∈ l, isAtt x.f0 = true → shortB x.f2 = true ∧ x.f1.length < 3518437208882) (setF addr name value) := ⟨by
  intro W b ok v xs hW hb hbW hokb hokS hok hn
  have hu45 := Try.underlying45
  obtain ⟨hxl, hxs⟩ := hok
  obtain ⟨Av, cv, rfl⟩ := Kd.N_slice hn
  have hml : xs.length ≤ 9223372036854775807 := by omega
  have hltA := (Array.getElem?_eq_some_iff.1 hA).1
  have hltN := (Array.getElem?_eq_some_iff.1 hN).1
  have hltX := (Array.getElem?_eq_some_iff.1 hX).1
  have hltV := (Array.getElem?_eq_some_iff.1 hVb).1
  have HA := Aside0.mk (blk_below hA hW)
  have HN0 := Aside0.mk (blk_below hN hW)
  have HX := Aside0.mk (blk_below hX hW)
  have HVb := Aside0.mk (blk_below hVb hW)
  have HXS := Aside0.mk hxs
  have HN := Aside0.mk (show Kd.N k45 45 W b ok (.slice Av xs.length cv) (setK addr name value 0 xs) by rw [setK_zero]; exact hn)
  have hsl : ∀ k, (setK addr name value k xs).length = xs.length := fun k => setK_len _ _ _ _ _
  have HS := Aside0.mk hsl
  have hokvb := hokS vb rfl
  clear hn hW hA hN hX hVb hxs hsl
  show Calls Try.prog 89 #[.slice Av xs.length cv, .pointer (some ⟨ab, 0, none⟩), .pointer (some ⟨nb, 0, none⟩), .pointer (some ⟨xb, 0, none⟩)] W _
  go_enter Try.func89, Try.ntmps89
  go_wp2
  go_loopw [12] (fun v wr => ∃ k : Nat, v = .int .i64 k ∧ k ≤ xs.length ∧ Aside0 (Kd.N k45 45 wr b ok (.slice Av xs.length cv) (setK addr name value k xs)) ∧ Aside0 (Below b W wr)) (fun v _ => xs.length - (intOf v).toNat)
  case atStart => exact ⟨0, rfl, Nat.zero_le _, HN, ⟨Below.mono (Below.refl _ _) hbW⟩⟩
  case round =>
    obtain ⟨k, rfl, hk, HNk, hbk⟩ := hrel
    by_cases hlt : k < xs.length
    · have hlt0 : decide ((k : Int) < (xs.length : Int)) = true := decide_eq_true (by omega)
      have hku : k < (setK addr name value k xs).length := by rw [HS.out]; exact hlt
      obtain ⟨g, cap, A1, c1, ev, e0, e1, e2, hfz, hgb, hglt, le1, f1⟩ := N_get45 HNk.out k hku
      rw [setK_at addr name value xs k hlt hku] at e0 e1 e2 le1 f1
      rw [HS.out] at ev
      injection ev with eA _ ecv
      subst eA
      subst ecv
      obtain ⟨x, ex⟩ : ∃ x, xs[k] = x := ⟨_, rfl⟩
      have hxm : x ∈ xs := by rw [← ex]; exact List.getElem_mem hlt
      rw [ex] at e0 e1 e2 le1 f1
      have BA := Aside0.mk ((hbk.out.block ab (by omega)).trans HA.out)
      have BN := Aside0.mk ((hbk.out.block nb (by omega)).trans HN0.out)
      have BX := Aside0.mk ((hbk.out.block xb (by omega)).trans HX.out)
      have BV := Aside0.mk ((hbk.out.block vb (by omega)).trans HVb.out)
      have u0 : (wr.alloc (.cells #[.string x.f0, .slice A1 x.f1.length c1, .string x.f2] 45)).cell? ⟨ab, 0, none⟩ = some (.string addr) := (blk_cell (blk_alloc BA.out _) 0).trans rfl
      have E1 := Aside0.mk e1
      have F1 := Aside0.mk f1
      have HF := Aside0.mk hfz
      have EX := Aside0.mk ex
      clear f1 hfz ex
      cases hat : isAtt x.f0 with
      | false =>
        have q3 : (x.f0.toList == ([65, 84, 84, 69, 78, 68, 69, 69] : List UInt8)) = false := hat
        have q4 : (x.f0.toList = ([65, 84, 84, 69, 78, 68, 69, 69] : List UInt8)) = False := eq_false (beq_eq_false_iff_ne.1 hat)
        have q5 : (x.f0.toList != ([65, 84, 84, 69, 78, 68, 69, 69] : List UInt8)) = true := by rw [bne, q3]; rfl
        have hsk := Aside0.mk (setK_skip addr name value xs k hlt (by rw [EX.out]; unfold hitB; rw [hat]; rfl))
        clear hat
        go_wp2
        exact ⟨⟨k + 1, by simp, hlt, ⟨by rw [hsk.out]; exact Kd.N_alloc HNk.out _⟩, ⟨hbk.out.alloc (Nat.le_trans hbW hbk.out.size) _⟩⟩, by show xs.length - ((k : Int) + 1).toNat < xs.length - (k : Int).toNat; omega⟩
      | true =>
        have q3 : (x.f0.toList == ([65, 84, 84, 69, 78, 68, 69, 69] : List UInt8)) = true := hat
        have q4 : (x.f0.toList = ([65, 84, 84, 69, 78, 68, 69, 69] : List UInt8)) = True := eq_true (beq_iff_eq.1 hat)
        have q5 : (x.f0.toList != ([65, 84, 84, 69, 78, 68, 69, 69] : List UInt8)) = false := by rw [bne, q3]; rfl
        obtain ⟨hxsh, hxp⟩ := HXS.out x hxm hat
        have hc := alike_calls x.f2 addr hxsh ha (wr.alloc (.cells #[.string x.f0, .slice A1 x.f1.length c1, .string x.f2] 45))
        cases hal : alikeB x.f2 addr with
        | false =>
          have hsk := Aside0.mk (setK_skip addr name value xs k hlt (by rw [EX.out]; unfold hitB; rw [hal]; simp))
          rw [hal] at hc
          have HC := Aside0.mk hc
          clear hat hc hal
          go_wp2_with (go_at_call 48; refine HC.out.mono ?_; rintro e w5 ⟨rfl, hb5⟩; have HB5 := Aside0.mk hb5; clear hb5)
          have hbW5 : Below wr.heap.size wr w5 := (below_alloc (Below.refl _ _) _).trans (HB5.out.mono (by simp))
          exact ⟨⟨k + 1, by simp, hlt, ⟨by rw [hsk.out]; exact Kd.N_below HNk.out hbW5⟩, ⟨hbk.out.trans (hbW5.mono (Nat.le_trans hbW hbk.out.size))⟩⟩, by show xs.length - ((k : Int) + 1).toNat < xs.length - (k : Int).toNat; omega⟩
        | true =>
          have hsk := Aside0.mk (setK_hit addr name value xs k hlt (by rw [EX.out]; unfold hitB; rw [hal, hat]; rfl))
          rw [EX.out] at hsk
          rw [hal] at hc
          have HC := Aside0.mk hc
          clear hat hc hal
          go_wp2_with (first | (go_at_call 48; refine HC.out.mono ?_; rintro e w5 ⟨rfl, hb5⟩; have BP := Aside0.mk (blk_below (heap_alloc_new wr (.cells #[.string x.f0, .slice A1 x.f1.length c1, .string x.f2] 45)) hb5); have p1 : w5.cell? ⟨wr.heap.size, 1, none⟩ = some (.slice A1 x.f1.length c1) := (blk_cell BP.out 1).trans rfl; have HB5 := Aside0.mk ((below_alloc (Below.refl wr.heap.size wr) (.cells #[.string x.f0, .slice A1 x.f1.length c1, .string x.f2] 45)).trans (hb5.mono (by simp))); clear hb5) | (go_at_call 90; refine Aside0.out ?_))
          refine ⟨?_⟩
          refine (clone77 (fun q => ok q ∧ q ≠ g) A1 c1 x.f1 _ (Kd.V_mk le1 (Kd.F_below F1.out HB5.out)) (by omega)).mono ?_
          rintro e w7 ⟨v7, rfl, hn7, hb7⟩
          obtain ⟨A7, c7, rfl⟩ := Kd.N_slice hn7
          have HN7 := Aside0.mk hn7
          have HB7 := Aside0.mk hb7
          have BN7 := Aside0.mk (blk_below (blk_below BN.out HB5.out) hb7)
          clear hn7 hb7
          go_wp2_with (go_at_call 91; refine Aside0.out ?_)
          refine ⟨?_⟩
          refine (index77 92 _ Try.func92 (by kernel_rfl) rfl #[.pointer (some ⟨nb, 0, none⟩)] (fun y => y.f0.toList == name.toList) A7 c7 x.f1 w7 (Kd.N_reads' HN7.out).2.2 (fun y hy A c W1 hW1 => setN_calls name nb y.f0 A y.f1.length c W1 (blk_below BN7.out hW1))).mono ?_
          rintro e w8 ⟨rfl, hb8⟩
          have HB58 := Aside0.mk (HB7.out.trans (hb8.mono HB7.out.size))
          have hg5 : g < w5.heap.size := Nat.lt_of_lt_of_le hglt HB5.out.size
          have hb5 : b ≤ w5.heap.size := Nat.le_trans (Nat.le_trans hbW hbk.out.size) HB5.out.size
          have HN8 := Aside0.mk (show Kd.N k77 77 w8 w5.heap.size (fun q => ok q ∧ q ≠ g) (.slice A7 x.f1.length c7) x.f1 from Kd.N_mono (Kd.N_below HN7.out hb8) (fun q hq => hq.elim id (fun hq => ⟨hokb q (by omega), by omega⟩)))
          have HB8 := Aside0.mk (HB5.out.trans (HB58.out.mono HB5.out.size))
          have hXc := blk_below BX.out HB8.out
          have xc0 : w8.cell? ⟨xb, 0, none⟩ = some (.string name) := (blk_cell hXc 0).trans rfl
          have xc1 : w8.cell? ⟨xb, 1, none⟩ = some (.slice (some ⟨vb, 0, none⟩) 1 1) := (blk_cell hXc 1).trans rfl
          have HV8 := Aside0.mk (blk_below BV.out HB8.out)
          clear hb8 hXc
          rcases idx_find (fun y : S77 => y.f0.toList == name.toList) x.f1 with ⟨hi, _⟩ | ⟨i, hil, hi, _⟩
          · obtain ⟨y, hy⟩ : ∃ y, x.f1 ++ [(⟨name, [value]⟩ : S77)] = y := ⟨_, rfl⟩
            have hpf := Aside0.mk (show paramF name value x.f1 = y by rw [← hy]; unfold paramF; rw [hi, if_neg (by omega)])
            have HY := Aside0.mk hy
            clear hy
            rw [hi]
            clear hi
            go_wp2_with ((with_reducible refine gate_builtin (b := .append) (xs := #[.tmp 39, .tmp 41]) rfl ?_); refine Aside0.out ?_)
            refine ⟨?_⟩
            at_builtin
            refine Kd.N_append k77 (w0 := w5) w5.heap.size rfl (.tmp 39) (.tmp 41) 43 77 (.agg #[(.string ⟨#[]⟩), (.slice none 0 0)]) 40 rfl Try.underlying43 info77 rfl (by decide) (by omega) (.slice A7 x.f1.length c7) x.f1 (⟨name, [value]⟩ : S77) [.string name, .slice (some ⟨vb, 0, none⟩) 1 1] (fun q => ok q ∧ q ≠ g) (fun q => q = vb) rfl (by first | (go_simp; done) | (go_simp; rfl)) ?aP ?aQ ?aF ?aO ?aB ?aS ?aL ?_
            case aP => exact k77_mkF _ _ (⟨name, [value]⟩ : S77) (Nat.le_refl _) (F_one HV8.out)
            case aQ => rintro q rfl; exact ⟨⟨hokvb, by omega⟩, fun e => by have := Kd.N_base HN8.out q e.symm; omega⟩
            case aF => exact fun q hq => ⟨hokb q (by have := HB58.out.size; omega), by have := HB58.out.size; omega⟩
            case aO => exact HN8.out
            case aB => exact HB58.out
            case aS => exact HB58.out.size
            case aL => omega
            intro v9 w9 hn9 hb9 hg9 hat9
            rw [HY.out] at hn9
            obtain ⟨A9, c9, rfl⟩ := Kd.N_slice hn9
            have HN9 := Aside0.mk hn9
            have HB9 := Aside0.mk (HB5.out.trans (hb9.mono HB5.out.size))
            have z0 : w9.cell? ⟨g, k * 3 + 1, none⟩ = some (.slice A1 x.f1.length c1) := (HB9.out.cell (World.block_lt_of_cell? wr _ E1.out)).trans E1.out
            have z1 : w9.frozen? ⟨g, k * 3 + 1, none⟩ = false := by
              obtain ⟨cells, hcl⟩ := Kd.N_typed HNk.out g rfl
              exact blk_frozen (blk_below hcl HB9.out) _
            clear hn9 hb9 hg9 hat9
            go_wp2
            exact ⟨⟨k + 1, by simp, hlt, ⟨by rw [hsk.out, hpf.out]; exact (set_end HNk.out (fun _ => HS.out k) HB9.out hlt hku (by rw [setK_at addr name value xs k hlt hku, EX.out]) HN9.out).1⟩, ⟨hbk.out.trans ((HB9.out.mono (Nat.le_trans hbW hbk.out.size)).trans (below_gb (set_end HNk.out (fun _ => HS.out k) HB9.out hlt hku (by rw [setK_at addr name value xs k hlt hku, EX.out]) HN9.out).2 (by have := HB9.out.size; omega) (by omega)))⟩⟩, by show xs.length - ((k : Int) + 1).toNat < xs.length - (k : Int).toNat; omega⟩
          · have hpf := Aside0.mk (show paramF name value x.f1 = x.f1.set i ⟨name, [value]⟩ by unfold paramF; rw [hi, if_pos (by omega), Int.toNat_natCast])
            obtain ⟨q, cq, eq7, hq1, hq2, qcells, hqc⟩ := Kd.N_form HN8.out (by omega)
            injection eq7 with eq7 _ ecq
            subst eq7
            subst ecq
            have hs5 := HB5.out.size
            rw [hi]
            clear hi
            obtain ⟨qc, qcl, qK, qcc, qcf⟩ := Kd.N_elem HN8.out (⟨⟨#[]⟩, []⟩ : S77) (i : Int) (by omega) (by omega)
            rw [Int.toNat_natCast] at qcc qcf qK
            obtain ⟨Aq, cqq, rfl, _, _⟩ := k77_openF qK
            have y0 : w8.cell? ⟨q, i * 2, none⟩ = _ := qcc 0 _ rfl
            have y1 : w8.cell? ⟨q, i * 2 + 1, none⟩ = _ := qcc 1 _ rfl
            have y2 : w8.frozen? ⟨q, i * 2, none⟩ = false := qcf 0
            have y3 : w8.frozen? ⟨q, i * 2 + 1, none⟩ = false := qcf 1
            have hqg : q ≠ g := by omega
            have hgq : g ≠ q := by omega
            have z0 : w8.cell? ⟨g, k * 3 + 1, none⟩ = some (.slice A1 x.f1.length c1) := (HB8.out.cell (World.block_lt_of_cell? wr _ E1.out)).trans E1.out
            have z1 : w8.frozen? ⟨g, k * 3 + 1, none⟩ = false := by
              obtain ⟨cells, hcl⟩ := Kd.N_typed HNk.out g rfl
              exact blk_frozen (blk_below hcl HB8.out) _
            obtain ⟨hn9, hg9⟩ := N_put77 HN8.out i hil (⟨name, [value]⟩ : S77) (some ⟨vb, 0, none⟩) 1 (Nat.le_refl _) (Kd.F_mono (F_one HV8.out) (fun q' hq' => ⟨⟨by rw [hq']; exact hokvb, by omega⟩, by omega⟩))
            have hb9 : Below wr.heap.size wr _ := HB8.out.trans (below_gb hg9 HB8.out.size (by omega))
            have hlen : (x.f1.set i (⟨name, [value]⟩ : S77)).length = x.f1.length := List.length_set
            rw [← hlen] at hn9
            have hx2 : (setK addr name value k xs)[k] = x := by rw [setK_at addr name value xs k hlt hku, EX.out]
            obtain ⟨f1', f2'⟩ := set_end HNk.out (fun _ => HS.out k) hb9 hlt hku hx2 hn9
            rw [hlen] at f1' f2'
            rw [show [value].length = 1 from rfl] at f1' f2' hb9
            have HF1 := Aside0.mk f1'
            have HF2 := Aside0.mk (hbk.out.trans ((hb9.mono (Nat.le_trans hbW hbk.out.size)).trans (below_gb f2' (by have := hb9.size; omega) (by omega))))
            clear f1' f2' hn9 hg9 hb9 hlen qcc qcf qK
            go_wp2
            exact ⟨⟨k + 1, by simp, hlt, ⟨by rw [hsk.out, hpf.out]; exact HF1.out⟩, ⟨HF2.out⟩⟩, by show xs.length - ((k : Int) + 1).toNat < xs.length - (k : Int).toNat; omega⟩
    · have hlt0 : decide ((k : Int) < (xs.length : Int)) = false := decide_eq_false (by omega)
      go_wp2
      go_ret
      exact ⟨_, rfl, by rw [setK_all addr name value xs k (by omega)] at HNk; exact HNk.out, hbk.out⟩⟩
end Go.Proofs.Ytebmbfobmakheaa.PD
namespace Go.Proofs.Ytebmbfobmakheaa.PD
open Go.RowKit Go.Proofs.YtebmbfobmakheaaW.PrintWords Go.Proofs.YtebmbfobmakheaaW.PrintLast Go.Proofs.YtebmbfobmakheaaW.PrintMore
attribute [local go_sem] isSome_setCell max2_int min2_int max_two min_two
set_option linter.unusedVariables false
set_option linter.unusedSimpArgs false
theorem alloc_at {w : World} {k : Nat} {cs : Array Value} {t : TypeId} (hk : k = w.heap.size) : (w.alloc (.cells cs t)).heap[k]? = some (.cells cs t (0, 0)) := by rw [hk]; exact heap_alloc_new w _
set_option maxRecDepth 100000 in
set_option maxHeartbeats 1600000 in
theorem set_walk (nm : ByteArray) (A1 : Option Addr) (n1 c1 : Nat) (P : Nat → Prop) (A : Option Addr) (c : Nat) (l : List S25) (addr name value : ByteArray) (w : World) (hs : Kd.V k25 25 w w.heap.size P (.slice A l.length c) l) (hlim : limO l = true) (ha : shortB addr = true) :
    Calls Try.prog 59 #[.agg #[.string nm, .slice A1 n1 c1, .slice A l.length c], .string addr, .string name, .string value] w fun e w' => ∃ v : Value, e = .returned (.agg #[.string nm, .slice A1 n1 c1, v]) ∧ Kd.N k25 25 w' w.heap.size (fun k => P k ∨ w.heap.size ≤ k) v (chgP (setF addr name value) l) ∧ Below w.heap.size w w' := by
  have HV := Aside0.mk hs
  clear hs
  go_enter Try.func59, Try.ntmps59
  go_wp2_with (go_at_call 62; refine Aside0.out ?_)
  refine ⟨?_⟩
  obtain ⟨W3, hW3⟩ : ∃ W3, ((((((w.alloc (Obj.cells #[Value.string nm, Value.slice A1 n1 c1, Value.slice A l.length c] 25)).alloc (Obj.cells #[Value.string addr] 9)).alloc (Obj.cells #[Value.string name] 9)).alloc (Obj.cells #[Value.string { data := #[] }, Value.slice none 0 0, Value.slice none 0 0] 25)).alloc (Obj.cells #[Value.string value] 9)).alloc (Obj.cells #[Value.string name, Value.slice (some { block := w.heap.size + 1 + 1 + 1 + 1, off := 0 }) 1 1] 77)) = W3 := ⟨_, rfl⟩
  have hz3 : W3.heap.size = w.heap.size + 6 := by rw [← hW3]; simp
  have hb3 : Below w.heap.size w W3 := by rw [← hW3]; exact below_alloc (below_alloc (below_alloc (below_alloc (below_alloc (below_alloc (Below.refl _ _) _) _) _) _) _) _
  have kO : W3.heap[w.heap.size + 1]? = some (.cells #[.string addr] 9 (0, 0)) := by rw [← hW3]; exact blk_alloc (blk_alloc (blk_alloc (blk_alloc (alloc_at (by simp)) _) _) _) _
  have kN : W3.heap[w.heap.size + 1 + 1]? = some (.cells #[.string name] 9 (0, 0)) := by rw [← hW3]; exact blk_alloc (blk_alloc (blk_alloc (alloc_at (by simp)) _) _) _
  have kR : W3.heap[w.heap.size + 1 + 1 + 1]? = some (.cells #[.string ⟨#[]⟩, .slice none 0 0, .slice none 0 0] 25 (0, 0)) := by rw [← hW3]; exact blk_alloc (blk_alloc (alloc_at (by simp)) _) _
  have kV : W3.heap[w.heap.size + 1 + 1 + 1 + 1]? = some (.cells #[.string value] 9 (0, 0)) := by rw [← hW3]; exact blk_alloc (alloc_at (by simp)) _
  have kX : W3.heap[w.heap.size + 1 + 1 + 1 + 1 + 1]? = some (.cells #[.string name, .slice (some ⟨w.heap.size + 1 + 1 + 1 + 1, 0, none⟩) 1 1] 77 (0, 0)) := by rw [← hW3]; exact alloc_at (by simp)
  rw [hW3]
  clear hW3
  refine (changed_walk 89 _ Try.func89 rfl rfl _ _ _ (fun k => k = w.heap.size + 1 + 1 + 1 + 1) (fun k => (P k ∧ k < w.heap.size) ∨ k = w.heap.size + 1 + 1 + 1 + 1) nm A1 n1 c1 A c l W3 (set1_maker W3 _ _ _ _ addr name value kO kN kX kV ha) (fun k hk => ⟨.inr hk, by omega⟩) (Kd.V_mono (Kd.V_below (Kd.V_bound HV.out) hb3) (fun _ hk => .inl hk)) (limO_len hlim) (fun x hx => by have := (limO_at hlim x hx).1; omega) (fun x hx => ⟨by have := (limO_at hlim x hx).1; omega, (limO_at hlim x hx).2⟩)).mono ?_
  rintro e w5 ⟨v5, rfl, hn5, hb5⟩
  obtain ⟨A5, c5, rfl⟩ := Kd.N_slice hn5
  have hR5 := blk_below kR hb5
  have r0 : w5.cell? ⟨w.heap.size + 1 + 1 + 1, 0, none⟩ = some (.string ⟨#[]⟩) := (blk_cell hR5 0).trans rfl
  have r1 : w5.cell? ⟨w.heap.size + 1 + 1 + 1, 1, none⟩ = some (.slice none 0 0) := (blk_cell hR5 1).trans rfl
  have r2 : w5.cell? ⟨w.heap.size + 1 + 1 + 1, 2, none⟩ = some (.slice none 0 0) := (blk_cell hR5 2).trans rfl
  have t0 : w5.frozen? ⟨w.heap.size + 1 + 1 + 1, 0, none⟩ = false := blk_frozen hR5 0
  have t1 : w5.frozen? ⟨w.heap.size + 1 + 1 + 1, 1, none⟩ = false := blk_frozen hR5 1
  have t2 : w5.frozen? ⟨w.heap.size + 1 + 1 + 1, 2, none⟩ = false := blk_frozen hR5 2
  have HN5 := Aside0.mk (Kd.N_lower hn5 (show w.heap.size ≤ W3.heap.size by omega))
  rw [hz3] at HN5
  have HB5 := Aside0.mk (hb3.trans (hb5.mono (by omega)))
  have HR5 := Aside0.mk hR5
  clear hn5 hb5 hb3 hR5 kO kN kR kV kX
  go_wp2
  refine bodyPost_ret (results_box25 _ 8 rfl _ _ (w.heap.size + 1 + 1 + 1) nm A1 A5 n1 c1 _ c5 rfl (box3_at _ _ _ HR5.out)) rfl ?_
  refine ⟨_, rfl, Kd.N_mono (Kd.N_step HN5.out (fun k hk _ => ?_)) (fun k hk => ?_), below_boxed HB5.out (by omega) _ _ _⟩
  · have hne : k ≠ w.heap.size + 1 + 1 + 1 := by rcases hk with (hk | hk) | hk <;> omega
    exact ((Below.heap_setCell _ _ _ k hne).trans (Below.heap_setCell _ _ _ k hne)).trans (Below.heap_setCell _ _ _ k hne)
  · rcases hk with (hk | hk) | hk
    · exact .inl hk.1
    · exact .inr (by omega)
    · exact .inr (by omega)
end Go.Proofs.Ytebmbfobmakheaa.PD
namespace Go.Proofs.Ytebmbfobmakheaa.PD
open Go.RowKit Go.Proofs.YtebmbfobmakheaaW.PrintWords Go.Proofs.YtebmbfobmakheaaW.PrintLast Go.Proofs.YtebmbfobmakheaaW.PrintMore
attribute [local go_sem] isSome_setCell max2_int min2_int max_two min_two
set_option linter.unusedVariables false
set_option linter.unusedSimpArgs false
set_option maxRecDepth 100000 in
set_option maxHeartbeats 1600000 in
theorem setStatus_walk (nm : ByteArray) (A1 : Option Addr) (n1 c1 : Nat) (P : Nat → Prop) (A : Option Addr) (c : Nat) (l : List S25) (addr value : ByteArray) (w : World) (hs : Kd.V k25 25 w w.heap.size P (.slice A l.length c) l) (hlim : limO l = true) (ha : shortB addr = true) :
    Calls Try.prog 19 #[.agg #[.string nm, .slice A1 n1 c1, .slice A l.length c], .string addr, .string value] w fun e w' => ∃ v : Value, e = .returned (.agg #[.string nm, .slice A1 n1 c1, v]) ∧ Kd.N k25 25 w' w.heap.size (fun k => P k ∨ w.heap.size ≤ k) v (chgP (setF addr (⟨#[80, 65, 82, 84, 83, 84, 65, 84]⟩ : ByteArray) value) l) ∧ Below w.heap.size w w' := by
  have HV := Aside0.mk hs
  clear hs
  go_enter Try.func19, Try.ntmps19
  go_wp2_with (go_at_call 59; refine Aside0.out ?_)
  refine ⟨?_⟩
  obtain ⟨W3, hW3⟩ : ∃ W3, (w.alloc (Obj.cells #[Value.string nm, Value.slice A1 n1 c1, Value.slice A l.length c] 25)).alloc (Obj.cells #[Value.string { data := #[] }, Value.slice none 0 0, Value.slice none 0 0] 25) = W3 := ⟨_, rfl⟩
  have hz3 : W3.heap.size = w.heap.size + 2 := by rw [← hW3]; simp
  have hb3 : Below w.heap.size w W3 := by rw [← hW3]; exact below_alloc (below_alloc (Below.refl _ _) _) _
  have kR : W3.heap[w.heap.size + 1]? = some (.cells #[.string ⟨#[]⟩, .slice none 0 0, .slice none 0 0] 25 (0, 0)) := by rw [← hW3]; exact alloc_at (by simp)
  rw [hW3]
  clear hW3
  refine (set_walk nm A1 n1 c1 (fun k => P k ∧ k < w.heap.size) A c l addr (⟨#[80, 65, 82, 84, 83, 84, 65, 84]⟩ : ByteArray) value W3 (Kd.V_below (Kd.V_bound HV.out) hb3) hlim ha).mono ?_
  rintro e w5 ⟨v5, rfl, hn5, hb5⟩
  obtain ⟨A5, c5, rfl⟩ := Kd.N_slice hn5
  have hR5 := blk_below kR hb5
  have r0 : w5.cell? ⟨w.heap.size + 1, 0, none⟩ = some (.string ⟨#[]⟩) := (blk_cell hR5 0).trans rfl
  have r1 : w5.cell? ⟨w.heap.size + 1, 1, none⟩ = some (.slice none 0 0) := (blk_cell hR5 1).trans rfl
  have r2 : w5.cell? ⟨w.heap.size + 1, 2, none⟩ = some (.slice none 0 0) := (blk_cell hR5 2).trans rfl
  have t0 : w5.frozen? ⟨w.heap.size + 1, 0, none⟩ = false := blk_frozen hR5 0
  have t1 : w5.frozen? ⟨w.heap.size + 1, 1, none⟩ = false := blk_frozen hR5 1
  have t2 : w5.frozen? ⟨w.heap.size + 1, 2, none⟩ = false := blk_frozen hR5 2
  have HN5 := Aside0.mk (Kd.N_lower hn5 (show w.heap.size ≤ W3.heap.size by omega))
  rw [hz3] at HN5
  have HB5 := Aside0.mk (hb3.trans (hb5.mono (by omega)))
  have HR5 := Aside0.mk hR5
  clear hn5 hb5 hb3 hR5 kR
  go_wp2
  refine bodyPost_ret (results_box25 _ 6 rfl _ _ (w.heap.size + 1) nm A1 A5 n1 c1 _ c5 rfl (box3_at _ _ _ HR5.out)) rfl ?_
  exact ⟨_, rfl, N_boxed HN5.out (by omega) (by omega) _ _ _, below_boxed HB5.out (by omega) _ _ _⟩
def itip_SetStatus.f (k : Nat) (a0_0 : ByteArray) (l0_1 : List (S45)) (l0_2 : List (S25)) (a1 : ByteArray) (a2 : ByteArray) : Option (ByteArray × (List (S45)) × (List (S25))) := if (limO l0_2 && shortB a1) = true then some (a0_0, l0_1, chgP (setF a1 (⟨#[80, 65, 82, 84, 83, 84, 65, 84]⟩ : ByteArray) a2) l0_2) else none
theorem itip_SetStatus.calls (k : Nat) (a0_0 : ByteArray) (P0_1_ : Nat → Prop) (A0_1 : Option Addr) (c0_1 : Nat) (l0_1 : List (S45)) (P0_2_ : Nat → Prop) (A0_2 : Option Addr) (c0_2 : Nat) (l0_2 : List (S25)) (a1 : ByteArray) (a2 : ByteArray) (r1 : ByteArray) (r2 : List (S45)) (r3 : List (S25)) (w : World) (hs0_1 : Kd.V k45 45 w w.heap.size (fun k_ => P0_1_ k_) (.slice A0_1 l0_1.length c0_1) l0_1) (hs0_2 : Kd.V k25 25 w w.heap.size (fun k_ => P0_2_ k_) (.slice A0_2 l0_2.length c0_2) l0_2) (h : itip_SetStatus.f k a0_0 l0_1 l0_2 a1 a2 = some (r1, r2, r3)) :
    Calls Try.prog 19 #[.agg #[.string a0_0, .slice A0_1 l0_1.length c0_1, .slice A0_2 l0_2.length c0_2], .string a1, .string a2] w fun e w' => ∃ v1_ v2_ : Value, e = .returned (.agg #[.string r1, v1_, v2_]) ∧ Kd.V k45 45 w' w.heap.size (fun k_ => ((P0_1_ k_ ∨ P0_2_ k_) ∨ w.heap.size ≤ k_) ∧ some k_ ≠ (v2_ : Value).ownBlock) v1_ r2 ∧ Kd.N k25 25 w' w.heap.size (fun k_ => ((P0_1_ k_ ∨ P0_2_ k_) ∨ w.heap.size ≤ k_)) v2_ r3 ∧ Below w.heap.size w w' := by
  unfold itip_SetStatus.f at h
  split at h
  case isFalse => cases h
  rename_i hc
  simp only [Bool.and_eq_true] at hc
  simp only [Option.some.injEq, Prod.mk.injEq] at h
  obtain ⟨rfl, rfl, rfl⟩ := h
  refine (setStatus_walk a0_0 A0_1 _ c0_1 P0_2_ A0_2 c0_2 l0_2 a1 a2 w hs0_2 hc.1 hc.2).mono ?_
  rintro e w' ⟨v, rfl, hn, hb⟩
  exact ⟨_, v, rfl, V_beside hs0_1 hb hn, Kd.N_mono hn (fun k hk => hk.imp (fun h => .inr h) id), hb⟩
end Go.Proofs.Ytebmbfobmakheaa.PD
namespace Go.Proofs.Ytebmbfobmakheaa.PD
open Go.RowKit Go.Proofs.YtebmbfobmakheaaW.PrintWords Go.Proofs.YtebmbfobmakheaaW.PrintLast Go.Proofs.YtebmbfobmakheaaW.PrintMore
attribute [local go_sem] isSome_setCell max2_int min2_int max_two min_two max_three min_three max_four min_four
set_option linter.unusedVariables false
set_option linter.unusedSimpArgs false
def itip_Message.f (k : Nat) (a0_0 : ByteArray) (l0_1 : List (S45)) (l0_2 : List (S25)) (a1 : ByteArray) : Option (ByteArray × (List (S45)) × (List (S25))) := (itip_without.f k l0_1 (⟨#[77, 69, 84, 72, 79, 68]⟩ : ByteArray)).bind fun t174 => (if a1.toList = ([] : List UInt8) then (some (a0_0, t174, l0_2)) else (if t174.length < 2513169434916 then (some (a0_0, (t174 ++ [(⟨(⟨#[77, 69, 84, 72, 79, 68]⟩ : ByteArray), ([] : List (S77)), a1⟩ : S45)]), l0_2)) else (none)))
set_option maxHeartbeats 8000000 in
set_option maxRecDepth 100000 in
theorem itip_Message.calls (k : Nat) (a0_0 : ByteArray) (P0_1_ : Nat → Prop) (A0_1 : Option Addr) (c0_1 : Nat) (l0_1 : List (S45)) (P0_2_ : Nat → Prop) (A0_2 : Option Addr) (c0_2 : Nat) (l0_2 : List (S25)) (a1 : ByteArray) (r1 : ByteArray) (r2 : List (S45)) (r3 : List (S25)) (w : World) (hs0_1 : Kd.V k45 45 w w.heap.size (fun k_ => P0_1_ k_) (.slice A0_1 l0_1.length c0_1) l0_1) (hs0_2 : Kd.V k25 25 w w.heap.size (fun k_ => P0_2_ k_) (.slice A0_2 l0_2.length c0_2) l0_2) (h : itip_Message.f k a0_0 l0_1 l0_2 a1 = some (r1, r2, r3)) :
  Calls Try.prog 23 #[.agg #[.string a0_0, .slice A0_1 l0_1.length c0_1, .slice A0_2 l0_2.length c0_2], .string a1] w fun e w' => ∃ v1_ v2_ : Value, e = .returned (.agg #[.string r1, v1_, v2_]) ∧ Kd.N k45 45 w' w.heap.size (fun k_ => ((P0_1_ k_ ∨ P0_2_ k_) ∨ w.heap.size ≤ k_)) v1_ r2 ∧ Kd.V k25 25 w' w.heap.size (fun k_ => ((P0_1_ k_ ∨ P0_2_ k_) ∨ w.heap.size ≤ k_) ∧ some k_ ≠ (v1_ : Value).ownBlock) v2_ r3 ∧ Below w.heap.size w w' := by
 have hu25 := Try.underlying25
 have hu45 := Try.underlying45
 have HO0_1 := Aside0.mk (show Kd.V k45 45 w w.heap.size (fun k_ => ((P0_1_ k_ ∨ P0_2_ k_) ∨ w.heap.size ≤ k_)) (.slice A0_1 l0_1.length c0_1) l0_1 from Kd.V_mono hs0_1 (fun k_ hk => .inl (.inl hk)))
 have HO0_2 := Aside0.mk (show Kd.V k25 25 w w.heap.size (fun k_ => ((P0_1_ k_ ∨ P0_2_ k_) ∨ w.heap.size ≤ k_)) (.slice A0_2 l0_2.length c0_2) l0_2 from Kd.V_mono hs0_2 (fun k_ hk => .inl (.inr hk)))
 have HB := Aside0.mk (Below.refl w.heap.size w)
 have H : ((itip_without.f k l0_1 (⟨#[77, 69, 84, 72, 79, 68]⟩ : ByteArray)).bind fun t174 => (if a1.toList = ([] : List UInt8) then (some (a0_0, t174, l0_2)) else (if t174.length < 2513169434916 then (some (a0_0, (t174 ++ [(⟨(⟨#[77, 69, 84, 72, 79, 68]⟩ : ByteArray), ([] : List (S77)), a1⟩ : S45)]), l0_2)) else (none)))) = some (r1, r2, r3) := h
 clear h
 replace H := Option.bind_eq_some_iff.mp H
 obtain ⟨t174, A30, H⟩ := H
 replace H : (if a1.toList = ([] : List UInt8) then (some (a0_0, t174, l0_2)) else (if t174.length < 2513169434916 then (some (a0_0, (t174 ++ [(⟨(⟨#[77, 69, 84, 72, 79, 68]⟩ : ByteArray), ([] : List (S77)), a1⟩ : S45)]), l0_2)) else (none))) = some (r1, r2, r3) := H
 have A3 := Aside0.mk A30
 clear A30
 by_cases c4 : a1.toList = ([] : List UInt8)
 ·rw [if_pos c4] at H
  have c4b0 : (a1.toList == ([] : List UInt8)) = true := beq_iff_eq.mpr c4
  have c4b1 : (a1.toList != ([] : List UInt8)) = false := bne_eq_false_iff_eq.mpr c4
  clear c4
  simp only [Option.some.injEq, Prod.mk.injEq] at H
  obtain ⟨rfl, rfl, rfl⟩ := H
  go_enter Try.func23, Try.ntmps23
  go_wp2_with (first | ((with_reducible refine gate_dst (N := 2) rfl ?_); refine box_event ?hg (N := 2) ?hd (cs := #[.string a0_0, .slice A0_1 l0_1.length c0_1, .slice A0_2 l0_2.length c0_2]) (t := 25) ?hr ?_; (case hd => rfl); (case hg => rfl); (case hr => first | (go_simp; done) | (go_simp; rfl)); intro gb172 hg w5 hbox hb; have n0_ := Aside0.mk (Kd.V_below (Kd.V_elderB (by (with_reducible repeat (first | apply Kd.V_alloc | apply Kd.V_drewN | apply Kd.V_drew)); exact HO0_1.out) gb172 (Nat.le_of_eq hg.symm)) hb); have n1_ := Aside0.mk (Kd.V_below (Kd.V_elderB (by (with_reducible repeat (first | apply Kd.V_alloc | apply Kd.V_drewN | apply Kd.V_drew)); exact HO0_2.out) gb172 (Nat.le_of_eq hg.symm)) hb); have n2_ := Aside0.mk (below_step (bU HB) hb); have n3_ := Aside0.mk (hbox); have n4_ := Aside0.mk ((by rw [hg]; exact (below_size (bU HB)) : w.heap.size ≤ gb172)); have n5_ := Aside0.mk ((by rw [hg]; exact (below_size (bU HB)) : w.heap.size ≤ gb172)); clear HO0_1; clear HO0_2; clear HB; have HO0_1 := n0_; have HO0_2 := n1_; have HB := n2_; have BK172 := n3_; have GW172 := n4_; have GE172 := n5_; clear n0_ n1_ n2_ n3_ n4_ n5_; clear hb hbox hg) | ((with_reducible refine gate_dst (N := 4) rfl ?_); refine box_event ?hg (N := 4) ?hd (cs := #[.string (⟨#[]⟩ : ByteArray), .slice none 0 0, .slice none 0 0]) (t := 25) ?hr ?_; (case hd => rfl); (case hg => rfl); (case hr => first | (go_simp; done) | (go_simp; rfl)); intro gb173 hg w6 hbox hb; have n0_ := Aside0.mk (Kd.V_below (Kd.V_elderB (by (with_reducible repeat (first | apply Kd.V_alloc | apply Kd.V_drewN | apply Kd.V_drew)); exact HO0_1.out) gb173 (Nat.le_of_eq hg.symm)) hb); have n1_ := Aside0.mk (Kd.V_below (Kd.V_elderB (by (with_reducible repeat (first | apply Kd.V_alloc | apply Kd.V_drewN | apply Kd.V_drew)); exact HO0_2.out) gb173 (Nat.le_of_eq hg.symm)) hb); have n2_ := Aside0.mk (blk_below (kU BK172) hb); have n3_ := Aside0.mk (below_step (bU HB) hb); have n4_ := Aside0.mk (hbox); have n5_ := Aside0.mk ((by rw [hg]; exact (below_size (bU HB)) : w.heap.size ≤ gb173)); have n6_ := Aside0.mk ((by rw [hg]; exact (below_size (bU HB)) : w.heap.size ≤ gb173)); have n7_ := Aside0.mk ((by rw [hg]; exact Nat.ne_of_lt (blk_lt (g := gb172) (o := .cells #[.string a0_0, .slice A0_1 l0_1.length c0_1, .slice A0_2 l0_2.length c0_2] 25 (0, 0)) (kU BK172)) : gb172 ≠ gb173)); have n8_ := Aside0.mk ((by rw [hg]; exact Nat.ne_of_gt (blk_lt (g := gb172) (o := .cells #[.string a0_0, .slice A0_1 l0_1.length c0_1, .slice A0_2 l0_2.length c0_2] 25 (0, 0)) (kU BK172)) : gb173 ≠ gb172)); clear HO0_1; clear HO0_2; clear BK172; clear HB; have HO0_1 := n0_; have HO0_2 := n1_; have BK172 := n2_; have HB := n3_; have BK173 := n4_; have GW173 := n5_; have GE173 := n6_; have NB172_173 := n7_; have NB173_172 := n8_; clear n0_ n1_ n2_ n3_ n4_ n5_ n6_ n7_ n8_; clear hb hbox hg; have hnb7 := NB172_173.out; have hnc7 := NB173_172.out; have hcz8_0 : w6.cell? ⟨gb172, 0, none⟩ = some (.string a0_0) := (blk_cell BK172.out 0).trans rfl; have hcz8_1 : w6.cell? ⟨gb172, 1, none⟩ = some (.slice A0_1 l0_1.length c0_1) := (blk_cell BK172.out 1).trans rfl; have hcz8_2 : w6.cell? ⟨gb172, 2, none⟩ = some (.slice A0_2 l0_2.length c0_2) := (blk_cell BK172.out 2).trans rfl; have hfz8_0 := blk_frozen BK172.out 0; have hfz8_1 := blk_frozen BK172.out 1; have hfz8_2 := blk_frozen BK172.out 2) | ((with_reducible refine gate_callee (f := 66) rfl ?_); refine goesL_ (some 7) rfl rfl Try.func66 (by kernel_rfl) rfl #[.slice A0_1 l0_1.length c0_1, .string (⟨#[77, 69, 84, 72, 79, 68]⟩ : ByteArray)] rfl (by (try simp only [List.map_toArray, List.map_cons, List.map_nil]); first | done | rfl | (simp only [List.length_drop, List.length_take]; rfl)) ?_; (with_reducible refine (itip_without.calls k (fun k_ => ((((P0_1_ k_ ∨ P0_2_ k_) ∨ w.heap.size ≤ k_) ∧ k_ ≠ gb172) ∧ k_ ≠ gb173)) _ _ l0_1 (⟨#[77, 69, 84, 72, 79, 68]⟩ : ByteArray) t174 _ ?side1 A3.out).mono ?_); (case side1 => exact HO0_1.out); rintro e w9 ⟨v175, rfl, ho0, hb⟩; refine ⟨_, rfl, ?_⟩; have n0_ := Aside0.mk (Kd.V_elder' (by (with_reducible repeat (first | apply Kd.V_alloc | apply Kd.V_drewN | apply Kd.V_drew)); exact HO0_1.out) (Kd.N_base ho0) hb); have n1_ := Aside0.mk (Kd.V_elder' (by (with_reducible repeat (first | apply Kd.V_alloc | apply Kd.V_drewN | apply Kd.V_drew)); exact HO0_2.out) (Kd.N_base ho0) hb); have n2_ := Aside0.mk (Kd.N_lower (Kd.N_mono (ok' := fun k_ => ((P0_1_ k_ ∨ P0_2_ k_) ∨ w.heap.size ≤ k_) ∧ k_ ≠ gb172 ∧ k_ ≠ gb173) ho0 (fun k_ hk_ => ⟨Or.elim hk_ (fun hs_ => hs_.1.1) (fun hn_ => (.inr (Nat.le_trans (below_size (bU HB)) hn_))), Or.elim hk_ (fun hs_ => hs_.1.2) (fun hn_ => (Kd.freshB (g := gb172) (o := .cells #[.string a0_0, .slice A0_1 l0_1.length c0_1, .slice A0_2 l0_2.length c0_2] 25 (0, 0)) (kU BK172) k_ hn_)), Or.elim hk_ (fun hs_ => hs_.2) (fun hn_ => (Kd.freshB (g := gb173) (o := .cells #[.string (⟨#[]⟩ : ByteArray), .slice none 0 0, .slice none 0 0] 25 (0, 0)) (kU BK173) k_ hn_))⟩)) (below_size (bU HB))); have n3_ := Aside0.mk (blk_below (kU BK172) hb); have n4_ := Aside0.mk (blk_below (kU BK173) hb); have n5_ := Aside0.mk (below_step (bU HB) hb); clear HO0_1; clear HO0_2; clear BK172; clear BK173; clear HB; have HO0_1 := n0_; have HO0_2 := n1_; have HO176 := n2_; have BK172 := n3_; have BK173 := n4_; have HB := n5_; clear n0_ n1_ n2_ n3_ n4_ n5_; (try clear hb); (try clear hb2); (try clear hk); (try clear hi); (try clear ho0); obtain ⟨Ao10, co10, eo10⟩ := Kd.N_slice HO176.out; subst eo10; have hcz11_0 : w9.cell? ⟨gb172, 0, none⟩ = some (.string a0_0) := (blk_cell BK172.out 0).trans rfl; have hcz11_1 : w9.cell? ⟨gb172, 1, none⟩ = some (.slice A0_1 l0_1.length c0_1) := (blk_cell BK172.out 1).trans rfl; have hcz11_2 : w9.cell? ⟨gb172, 2, none⟩ = some (.slice A0_2 l0_2.length c0_2) := (blk_cell BK172.out 2).trans rfl; have hfz11_0 := blk_frozen BK172.out 0; have hfz11_1 := blk_frozen BK172.out 1; have hfz11_2 := blk_frozen BK172.out 2; have hcz12_0 : w9.cell? ⟨gb173, 0, none⟩ = some (.string (⟨#[]⟩ : ByteArray)) := (blk_cell BK173.out 0).trans rfl; have hcz12_1 : w9.cell? ⟨gb173, 1, none⟩ = some (.slice none 0 0) := (blk_cell BK173.out 1).trans rfl; have hcz12_2 : w9.cell? ⟨gb173, 2, none⟩ = some (.slice none 0 0) := (blk_cell BK173.out 2).trans rfl; have hfz12_0 := blk_frozen BK173.out 0; have hfz12_1 := blk_frozen BK173.out 1; have hfz12_2 := blk_frozen BK173.out 2))
  refine bodyPost_ret (results_cell_row rfl _ _ gb173 25 #[.string a0_0, .slice Ao10 t174.length co10, .slice A0_2 l0_2.length c0_2] (0, 0) _ rfl (kP BK173) Try.underlying25 rfl (by kernel_rfl)) rfl ?_
  exact ⟨_, _, eqU, by (with_reducible repeat (first | apply Kd.N_alloc | apply Kd.N_drewN | apply Kd.N_drew)); exact Kd.N_mono (Kd.N_far (p := ⟨gb173, 2, none⟩) (Kd.N_far (p := ⟨gb173, 1, none⟩) (Kd.N_far (p := ⟨gb173, 0, none⟩) (Kd.N_far (p := ⟨gb172, 1, none⟩) (Kd.N_mono (Kd.N_mono HO176.out (fun k_ hk => (⟨hk, hk.2.1⟩ : _ ∧ k_ ≠ gb172))) (fun k_ hk => (⟨hk, hk.1.2.2⟩ : _ ∧ k_ ≠ gb173))) (fun _ hk => hk.1.2) (.slice Ao10 t174.length co10)) (fun _ hk => hk.2) (.string a0_0)) (fun _ hk => hk.2) (.slice Ao10 t174.length co10)) (fun _ hk => hk.2) (.slice A0_2 l0_2.length c0_2)) (fun _ hk => hk.1.1.1), by (with_reducible repeat (first | apply Kd.V_alloc | apply Kd.V_drewN | apply Kd.V_drew)); exact Kd.V_mono (Kd.V_far (p := ⟨gb173, 2, none⟩) (Kd.V_far (p := ⟨gb173, 1, none⟩) (Kd.V_far (p := ⟨gb173, 0, none⟩) (Kd.V_far (p := ⟨gb172, 1, none⟩) (Kd.V_mono (Kd.V_mono HO0_2.out (fun k_ hk => (⟨hk, hk.1.1.2⟩ : _ ∧ k_ ≠ gb172))) (fun k_ hk => (⟨hk, hk.1.1.2⟩ : _ ∧ k_ ≠ gb173))) (fun _ hk => hk.1.2) (.slice Ao10 t174.length co10)) (fun _ hk => hk.2) (.string a0_0)) (fun _ hk => hk.2) (.slice Ao10 t174.length co10)) (fun _ hk => hk.2) (.slice A0_2 l0_2.length c0_2)) (fun _ hk => ⟨hk.1.1.1.1.1, hk.1.1.2⟩), bU HB⟩
 ·rw [if_neg c4] at H
  have c4b0 : (a1.toList == ([] : List UInt8)) = false := beq_eq_false_iff_ne.mpr c4
  have c4b1 : (a1.toList != ([] : List UInt8)) = true := bne_iff_ne.mpr c4
  by_cases c13 : t174.length < 2513169434916
  ·rw [if_pos c13] at H
   have LMc13 := Aside0.mk c13
   clear c13
   obtain ⟨y177, hy177⟩ : ∃ y_ : List (S45), y_ = (t174 ++ [(⟨(⟨#[77, 69, 84, 72, 79, 68]⟩ : ByteArray), ([] : List (S77)), a1⟩ : S45)]) := ⟨_, rfl⟩
   replace H : (some (a0_0, y177, l0_2)) = some (r1, r2, r3) := by first | (rw [hy177]; with_reducible exact H) | (have H2_ := (Option.bind_some _ _).symm.trans H; rw [hy177]; with_reducible exact H2_) | (have H2_ := (Option.bind_some _ _).symm.trans H; with_reducible exact H2_) | with_reducible exact H | (rw [hy177]; exact H) | exact H
   have Ny177 := Aside0.mk hy177
   clear hy177
   simp only [Option.some.injEq, Prod.mk.injEq] at H
   obtain ⟨rfl, rfl, rfl⟩ := H
   go_enter Try.func23, Try.ntmps23
   go_wp2_with (first | ((with_reducible refine gate_dst (N := 2) rfl ?_); refine box_event ?hg (N := 2) ?hd (cs := #[.string a0_0, .slice A0_1 l0_1.length c0_1, .slice A0_2 l0_2.length c0_2]) (t := 25) ?hr ?_; (case hd => rfl); (case hg => rfl); (case hr => first | (go_simp; done) | (go_simp; rfl)); intro gb172 hg w14 hbox hb; have n0_ := Aside0.mk (Kd.V_below (Kd.V_elderB (by (with_reducible repeat (first | apply Kd.V_alloc | apply Kd.V_drewN | apply Kd.V_drew)); exact HO0_1.out) gb172 (Nat.le_of_eq hg.symm)) hb); have n1_ := Aside0.mk (Kd.V_below (Kd.V_elderB (by (with_reducible repeat (first | apply Kd.V_alloc | apply Kd.V_drewN | apply Kd.V_drew)); exact HO0_2.out) gb172 (Nat.le_of_eq hg.symm)) hb); have n2_ := Aside0.mk (below_step (bU HB) hb); have n3_ := Aside0.mk (hbox); have n4_ := Aside0.mk ((by rw [hg]; exact (below_size (bU HB)) : w.heap.size ≤ gb172)); have n5_ := Aside0.mk ((by rw [hg]; exact (below_size (bU HB)) : w.heap.size ≤ gb172)); clear HO0_1; clear HO0_2; clear HB; have HO0_1 := n0_; have HO0_2 := n1_; have HB := n2_; have BK172 := n3_; have GW172 := n4_; have GE172 := n5_; clear n0_ n1_ n2_ n3_ n4_ n5_; clear hb hbox hg) | ((with_reducible refine gate_dst (N := 4) rfl ?_); refine box_event ?hg (N := 4) ?hd (cs := #[.string (⟨#[]⟩ : ByteArray), .slice none 0 0, .slice none 0 0]) (t := 25) ?hr ?_; (case hd => rfl); (case hg => rfl); (case hr => first | (go_simp; done) | (go_simp; rfl)); intro gb173 hg w15 hbox hb; have n0_ := Aside0.mk (Kd.V_below (Kd.V_elderB (by (with_reducible repeat (first | apply Kd.V_alloc | apply Kd.V_drewN | apply Kd.V_drew)); exact HO0_1.out) gb173 (Nat.le_of_eq hg.symm)) hb); have n1_ := Aside0.mk (Kd.V_below (Kd.V_elderB (by (with_reducible repeat (first | apply Kd.V_alloc | apply Kd.V_drewN | apply Kd.V_drew)); exact HO0_2.out) gb173 (Nat.le_of_eq hg.symm)) hb); have n2_ := Aside0.mk (blk_below (kU BK172) hb); have n3_ := Aside0.mk (below_step (bU HB) hb); have n4_ := Aside0.mk (hbox); have n5_ := Aside0.mk ((by rw [hg]; exact (below_size (bU HB)) : w.heap.size ≤ gb173)); have n6_ := Aside0.mk ((by rw [hg]; exact (below_size (bU HB)) : w.heap.size ≤ gb173)); have n7_ := Aside0.mk ((by rw [hg]; exact Nat.ne_of_lt (blk_lt (g := gb172) (o := .cells #[.string a0_0, .slice A0_1 l0_1.length c0_1, .slice A0_2 l0_2.length c0_2] 25 (0, 0)) (kU BK172)) : gb172 ≠ gb173)); have n8_ := Aside0.mk ((by rw [hg]; exact Nat.ne_of_gt (blk_lt (g := gb172) (o := .cells #[.string a0_0, .slice A0_1 l0_1.length c0_1, .slice A0_2 l0_2.length c0_2] 25 (0, 0)) (kU BK172)) : gb173 ≠ gb172)); clear HO0_1; clear HO0_2; clear BK172; clear HB; have HO0_1 := n0_; have HO0_2 := n1_; have BK172 := n2_; have HB := n3_; have BK173 := n4_; have GW173 := n5_; have GE173 := n6_; have NB172_173 := n7_; have NB173_172 := n8_; clear n0_ n1_ n2_ n3_ n4_ n5_ n6_ n7_ n8_; clear hb hbox hg; have hnb16 := NB172_173.out; have hnc16 := NB173_172.out; have hcz17_0 : w15.cell? ⟨gb172, 0, none⟩ = some (.string a0_0) := (blk_cell BK172.out 0).trans rfl; have hcz17_1 : w15.cell? ⟨gb172, 1, none⟩ = some (.slice A0_1 l0_1.length c0_1) := (blk_cell BK172.out 1).trans rfl; have hcz17_2 : w15.cell? ⟨gb172, 2, none⟩ = some (.slice A0_2 l0_2.length c0_2) := (blk_cell BK172.out 2).trans rfl; have hfz17_0 := blk_frozen BK172.out 0; have hfz17_1 := blk_frozen BK172.out 1; have hfz17_2 := blk_frozen BK172.out 2) | ((with_reducible refine gate_callee (f := 66) rfl ?_); refine goesL_ (some 7) rfl rfl Try.func66 (by kernel_rfl) rfl #[.slice A0_1 l0_1.length c0_1, .string (⟨#[77, 69, 84, 72, 79, 68]⟩ : ByteArray)] rfl (by (try simp only [List.map_toArray, List.map_cons, List.map_nil]); first | done | rfl | (simp only [List.length_drop, List.length_take]; rfl)) ?_; (with_reducible refine (itip_without.calls k (fun k_ => ((((P0_1_ k_ ∨ P0_2_ k_) ∨ w.heap.size ≤ k_) ∧ k_ ≠ gb172) ∧ k_ ≠ gb173)) _ _ l0_1 (⟨#[77, 69, 84, 72, 79, 68]⟩ : ByteArray) t174 _ ?side1 A3.out).mono ?_); (case side1 => exact HO0_1.out); rintro e w18 ⟨v175, rfl, ho0, hb⟩; refine ⟨_, rfl, ?_⟩; have n0_ := Aside0.mk (Kd.V_elder' (by (with_reducible repeat (first | apply Kd.V_alloc | apply Kd.V_drewN | apply Kd.V_drew)); exact HO0_1.out) (Kd.N_base ho0) hb); have n1_ := Aside0.mk (Kd.V_elder' (by (with_reducible repeat (first | apply Kd.V_alloc | apply Kd.V_drewN | apply Kd.V_drew)); exact HO0_2.out) (Kd.N_base ho0) hb); have n2_ := Aside0.mk (Kd.N_lower (Kd.N_mono (ok' := fun k_ => ((P0_1_ k_ ∨ P0_2_ k_) ∨ w.heap.size ≤ k_) ∧ k_ ≠ gb172 ∧ k_ ≠ gb173) ho0 (fun k_ hk_ => ⟨Or.elim hk_ (fun hs_ => hs_.1.1) (fun hn_ => (.inr (Nat.le_trans (below_size (bU HB)) hn_))), Or.elim hk_ (fun hs_ => hs_.1.2) (fun hn_ => (Kd.freshB (g := gb172) (o := .cells #[.string a0_0, .slice A0_1 l0_1.length c0_1, .slice A0_2 l0_2.length c0_2] 25 (0, 0)) (kU BK172) k_ hn_)), Or.elim hk_ (fun hs_ => hs_.2) (fun hn_ => (Kd.freshB (g := gb173) (o := .cells #[.string (⟨#[]⟩ : ByteArray), .slice none 0 0, .slice none 0 0] 25 (0, 0)) (kU BK173) k_ hn_))⟩)) (below_size (bU HB))); have n3_ := Aside0.mk (blk_below (kU BK172) hb); have n4_ := Aside0.mk (blk_below (kU BK173) hb); have n5_ := Aside0.mk (below_step (bU HB) hb); clear HO0_1; clear HO0_2; clear BK172; clear BK173; clear HB; have HO0_1 := n0_; have HO0_2 := n1_; have HO176 := n2_; have BK172 := n3_; have BK173 := n4_; have HB := n5_; clear n0_ n1_ n2_ n3_ n4_ n5_; (try clear hb); (try clear hb2); (try clear hk); (try clear hi); (try clear ho0); obtain ⟨Ao19, co19, eo19⟩ := Kd.N_slice HO176.out; subst eo19; have hcz20_0 : w18.cell? ⟨gb172, 0, none⟩ = some (.string a0_0) := (blk_cell BK172.out 0).trans rfl; have hcz20_1 : w18.cell? ⟨gb172, 1, none⟩ = some (.slice A0_1 l0_1.length c0_1) := (blk_cell BK172.out 1).trans rfl; have hcz20_2 : w18.cell? ⟨gb172, 2, none⟩ = some (.slice A0_2 l0_2.length c0_2) := (blk_cell BK172.out 2).trans rfl; have hfz20_0 := blk_frozen BK172.out 0; have hfz20_1 := blk_frozen BK172.out 1; have hfz20_2 := blk_frozen BK172.out 2) | ((with_reducible refine gate_builtin (b := .append) (xs := #[.tmp 12, .tmp 15]) rfl ?_); at_builtin; refine Kd.N_append k45 (w0 := w) w.heap.size rfl (.tmp 12) (.tmp 15) 22 45 (.agg #[(.string ⟨#[]⟩), (.slice none 0 0), (.string ⟨#[]⟩)]) 56 rfl Try.underlying22 info45 rfl (by decide) (by omega) (.slice Ao19 t174.length co19) t174 (⟨(⟨#[77, 69, 84, 72, 79, 68]⟩ : ByteArray), ([] : List (S77)), a1⟩ : S45) [.string (⟨#[77, 69, 84, 72, 79, 68]⟩ : ByteArray), .slice none 0 0, .string a1] (fun k_ => ((P0_1_ k_ ∨ P0_2_ k_) ∨ w.heap.size ≤ k_) ∧ k_ ≠ gb172 ∧ k_ ≠ gb173) (fun k_ => ((fun k_ => ((P0_1_ k_ ∨ P0_2_ k_) ∨ w.heap.size ≤ k_) ∧ k_ ≠ gb172 ∧ k_ ≠ gb173)) k_ ∧ some k_ ≠ (.slice Ao19 t174.length co19 : Value).ownBlock) rfl (by first | (go_simp; done) | (go_simp; rfl)) ?aP (fun _ hk => hk) ?aF ?aO ?aB ?aS ?aL ?_; (case aP => exact (k45_mkF _ _ (⟨(⟨#[77, 69, 84, 72, 79, 68]⟩ : ByteArray), ([] : List (S77)), a1⟩ : S45) (Nat.le_refl _) (Kd.F_nil _ _ _))); (case aB => exact (bU HB)); (case aF => exact (fun k_ hk => ⟨(.inr (Nat.le_trans (below_size (bU HB)) hk)), Kd.freshB (g := gb172) (o := .cells #[.string a0_0, .slice Ao19 t174.length co19, .slice A0_2 l0_2.length c0_2] 25 (0, 0)) (kP BK172) k_ hk, Kd.freshB (g := gb173) (o := .cells #[.string (⟨#[]⟩ : ByteArray), .slice none 0 0, .slice none 0 0] 25 (0, 0)) (kF BK173) k_ hk⟩)); (case aO => exact (by (with_reducible repeat (first | apply Kd.N_alloc | apply Kd.N_drewN | apply Kd.N_drew)); exact Kd.N_mono (Kd.N_far (p := ⟨gb172, 1, none⟩) (Kd.N_mono HO176.out (fun k_ hk => (⟨hk, hk.2.1⟩ : _ ∧ k_ ≠ gb172))) (fun _ hk => hk.2) (.slice Ao19 t174.length co19)) (fun _ hk => ⟨hk.1.1, ⟨hk.1.2.1, hk.1.2.2⟩⟩))); (case aS => exact (below_size (bU HB))); (case aL => have := LMc13.out; omega); intro v178 w21 ho hb hg hat; rw [← Ny177.out] at ho; have n0_ := Aside0.mk (Kd.V_afterv (ok := (fun k_ => ((P0_1_ k_ ∨ P0_2_ k_) ∨ w.heap.size ≤ k_) ∧ k_ ≠ gb172 ∧ k_ ≠ gb173)) (by (with_reducible repeat (first | apply Kd.V_alloc | apply Kd.V_drewN | apply Kd.V_drew)); exact Kd.V_mono (Kd.V_far (p := ⟨gb172, 1, none⟩) (Kd.V_mono HO0_1.out (fun k_ hk => (⟨hk, hk.1.1.2⟩ : _ ∧ k_ ≠ gb172))) (fun _ hk => hk.2) (.slice Ao19 t174.length co19)) (fun _ hk => ⟨⟨hk.1.1.1.1, ⟨hk.1.1.1.2, hk.1.1.2⟩⟩, hk.1.2⟩)) hg hat); have n1_ := Aside0.mk (Kd.V_afterv (ok := (fun k_ => ((P0_1_ k_ ∨ P0_2_ k_) ∨ w.heap.size ≤ k_) ∧ k_ ≠ gb172 ∧ k_ ≠ gb173)) (by (with_reducible repeat (first | apply Kd.V_alloc | apply Kd.V_drewN | apply Kd.V_drew)); exact Kd.V_mono (Kd.V_far (p := ⟨gb172, 1, none⟩) (Kd.V_mono HO0_2.out (fun k_ hk => (⟨hk, hk.1.1.2⟩ : _ ∧ k_ ≠ gb172))) (fun _ hk => hk.2) (.slice Ao19 t174.length co19)) (fun _ hk => ⟨⟨hk.1.1.1.1, ⟨hk.1.1.1.2, hk.1.1.2⟩⟩, hk.1.2⟩)) hg hat); have n2_ := Aside0.mk (blk_grown (g := gb172) (o := .cells #[.string a0_0, .slice Ao19 t174.length co19, .slice A0_2 l0_2.length c0_2] 25 (0, 0)) (kP BK172) hg (Kd.N_ne HO176.out BK172.out (by decide))); have n3_ := Aside0.mk (blk_grown (g := gb173) (o := .cells #[.string (⟨#[]⟩ : ByteArray), .slice none 0 0, .slice none 0 0] 25 (0, 0)) (kF BK173) hg (Kd.N_ne HO176.out BK173.out (by decide))); have n4_ := Aside0.mk (hb); have n5_ := Aside0.mk (ho); clear HO0_1; clear HO0_2; clear BK172; clear BK173; clear HB; clear HO176; have HO0_1 := n0_; have HO0_2 := n1_; have BK172 := n2_; have BK173 := n3_; have HB := n4_; have HO179 := n5_; clear n0_ n1_ n2_ n3_ n4_ n5_; clear ho hb hg hat; obtain ⟨Ao22, co22, eo22⟩ := Kd.N_slice HO179.out; subst eo22; have hcz23_0 : w21.cell? ⟨gb172, 0, none⟩ = some (.string a0_0) := (blk_cell BK172.out 0).trans rfl; have hcz23_1 : w21.cell? ⟨gb172, 1, none⟩ = some (.slice Ao19 t174.length co19) := (blk_cell BK172.out 1).trans rfl; have hcz23_2 : w21.cell? ⟨gb172, 2, none⟩ = some (.slice A0_2 l0_2.length c0_2) := (blk_cell BK172.out 2).trans rfl; have hfz23_0 := blk_frozen BK172.out 0; have hfz23_1 := blk_frozen BK172.out 1; have hfz23_2 := blk_frozen BK172.out 2; have hcz24_0 : w21.cell? ⟨gb173, 0, none⟩ = some (.string (⟨#[]⟩ : ByteArray)) := (blk_cell BK173.out 0).trans rfl; have hcz24_1 : w21.cell? ⟨gb173, 1, none⟩ = some (.slice none 0 0) := (blk_cell BK173.out 1).trans rfl; have hcz24_2 : w21.cell? ⟨gb173, 2, none⟩ = some (.slice none 0 0) := (blk_cell BK173.out 2).trans rfl; have hfz24_0 := blk_frozen BK173.out 0; have hfz24_1 := blk_frozen BK173.out 1; have hfz24_2 := blk_frozen BK173.out 2))
   refine bodyPost_ret (results_cell_row rfl _ _ gb173 25 #[.string a0_0, .slice Ao22 y177.length co22, .slice A0_2 l0_2.length c0_2] (0, 0) _ rfl (kP BK173) Try.underlying25 rfl (by kernel_rfl)) rfl ?_
   exact ⟨_, _, eqU, by (with_reducible repeat (first | apply Kd.N_alloc | apply Kd.N_drewN | apply Kd.N_drew)); exact Kd.N_mono (Kd.N_far (p := ⟨gb173, 2, none⟩) (Kd.N_far (p := ⟨gb173, 1, none⟩) (Kd.N_far (p := ⟨gb173, 0, none⟩) (Kd.N_far (p := ⟨gb172, 1, none⟩) (Kd.N_mono (Kd.N_mono HO179.out (fun k_ hk => (⟨hk, hk.2.1⟩ : _ ∧ k_ ≠ gb172))) (fun k_ hk => (⟨hk, hk.1.2.2⟩ : _ ∧ k_ ≠ gb173))) (fun _ hk => hk.1.2) (.slice Ao22 y177.length co22)) (fun _ hk => hk.2) (.string a0_0)) (fun _ hk => hk.2) (.slice Ao22 y177.length co22)) (fun _ hk => hk.2) (.slice A0_2 l0_2.length c0_2)) (fun _ hk => hk.1.1.1), by (with_reducible repeat (first | apply Kd.V_alloc | apply Kd.V_drewN | apply Kd.V_drew)); exact Kd.V_mono (Kd.V_far (p := ⟨gb173, 2, none⟩) (Kd.V_far (p := ⟨gb173, 1, none⟩) (Kd.V_far (p := ⟨gb173, 0, none⟩) (Kd.V_far (p := ⟨gb172, 1, none⟩) (Kd.V_mono (Kd.V_mono HO0_2.out (fun k_ hk => (⟨hk, hk.1.2.1⟩ : _ ∧ k_ ≠ gb172))) (fun k_ hk => (⟨hk, hk.1.1.2.2⟩ : _ ∧ k_ ≠ gb173))) (fun _ hk => hk.1.2) (.slice Ao22 y177.length co22)) (fun _ hk => hk.2) (.string a0_0)) (fun _ hk => hk.2) (.slice Ao22 y177.length co22)) (fun _ hk => hk.2) (.slice A0_2 l0_2.length c0_2)) (fun _ hk => ⟨hk.1.1.1.1, hk.1.1.2⟩), bU HB⟩
  ·rw [if_neg c13] at H
   exact absurd H (by simp)
end Go.Proofs.Ytebmbfobmakheaa.PD
namespace Go.Proofs.Ytebmbfobmakheaa.PD
open Go.RowKit Go.Shelf Go.Proofs.YtebmbfobmakheaaW.PrintWords Go.Proofs.YtebmbfobmakheaaW.PrintLast Go.Proofs.YtebmbfobmakheaaW.PrintMore
set_option linter.unusedVariables false
set_option linter.unusedSimpArgs false
abbrev sMU : ByteArray := ⟨#[77, 65, 73, 76, 84, 79, 58, 117, 64, 65, 108, 109, 97, 110, 97, 99]⟩
abbrev sAB : ByteArray := ⟨#[109, 97, 105, 108, 116, 111, 58, 97, 32, 98, 64, 97, 108, 109, 97, 110, 97, 99]⟩
abbrev sU : ByteArray := ⟨#[117]⟩
abbrev sOrg : ByteArray := ⟨#[79, 82, 71, 65, 78, 73, 90, 69, 82]⟩
abbrev smU : ByteArray := ⟨#[109, 97, 105, 108, 116, 111, 58, 117, 64, 97, 108, 109, 97, 110, 97, 99]⟩
abbrev sAtt : ByteArray := ⟨#[65, 84, 84, 69, 78, 68, 69, 69]⟩
abbrev smV : ByteArray := ⟨#[109, 97, 105, 108, 116, 111, 58, 118, 64, 97, 108, 109, 97, 110, 97, 99]⟩
abbrev sMV : ByteArray := ⟨#[77, 65, 73, 76, 84, 79, 58, 118, 64, 97, 108, 109, 97, 110, 97, 99]⟩
abbrev sDts : ByteArray := ⟨#[68, 84, 83, 84, 65, 82, 84]⟩
abbrev sDay : ByteArray := ⟨#[50, 48, 50, 53, 48, 49, 48, 49]⟩
abbrev sEv : ByteArray := ⟨#[86, 69, 86, 69, 78, 84]⟩
abbrev sCal : ByteArray := ⟨#[86, 67, 65, 76, 69, 78, 68, 65, 82]⟩
abbrev sAcc : ByteArray := ⟨#[65, 67, 67, 69, 80, 84, 69, 68]⟩
abbrev sNeeds : ByteArray := ⟨#[78, 69, 69, 68, 83, 45, 65, 67, 84, 73, 79, 78]⟩
abbrev sReq : ByteArray := ⟨#[82, 69, 81, 85, 69, 83, 84]⟩
abbrev sPart : ByteArray := ⟨#[80, 65, 82, 84, 83, 84, 65, 84]⟩
abbrev sNo : ByteArray := ⟨#[]⟩
abbrev cProps : List S45 := [⟨sOrg, [], smU⟩, ⟨sAtt, [], smV⟩, ⟨sDts, [], sDay⟩]
abbrev cComps : List S25 := [⟨sEv, cProps, []⟩]
abbrev dComps : List S25 := [⟨sEv, [⟨sOrg, [], smU⟩, ⟨sAtt, [⟨sPart, [sAcc]⟩], smV⟩, ⟨sDts, [], sDay⟩], []⟩]
theorem pu1 : itip_User.f 1 sMU = some (sU, true) := by rw [user_val 0 _ (by decide)]; decide +kernel
theorem pu2 : itip_User.f 1 sAB = some (sNo, false) := by rw [user_val 0 _ (by decide)]; decide +kernel
theorem pset : itip_SetStatus.f 0 sCal [] cComps sMV sAcc = some (sCal, [], dComps) := by kernel_rfl
theorem porg : itip_Organizer.f 0 sCal [] cComps = some smU := by decide +kernel
theorem patt : itip_Attendees.f 0 sCal [] cComps = some [smV] := by decide +kernel
theorem ptx : almanacref08_Texts.f 5 [smV] [smV] = some true := by decide +kernel
theorem pst1 : itip_Status.f 0 sCal [] cComps smV = some sNeeds := by decide +kernel
theorem pst2 : itip_Status.f 0 sCal [] dComps smV = some sAcc := by decide +kernel
theorem pms1 : itip_Message.f 0 sNo [] [] sNo = some (sNo, [], []) := by kernel_rfl
theorem psig : itip_Significant.f sCal [] cComps sNo [] [] = some true := by decide +kernel
theorem pms2 : itip_Message.f 0 sCal [] cComps sReq = some (sCal, [⟨⟨#[77, 69, 84, 72, 79, 68]⟩, [], sReq⟩], cComps) := by kernel_rfl
end Go.Proofs.Ytebmbfobmakheaa.PD
namespace Go.Proofs.Ytebmbfobmakheaa.PD
open Go.RowKit Go.Proofs.YtebmbfobmakheaaW.PrintWords Go.Proofs.YtebmbfobmakheaaW.PrintLast Go.Proofs.YtebmbfobmakheaaW.PrintMore
attribute [local go_sem] isSome_setCell max2_int min2_int max_two min_two
set_option linter.unusedVariables false
set_option linter.unusedSimpArgs false
def chg1 (G : List S45 → List S45) (x : S25) : S25 := if isTz x.f0 = true then x else { x with f1 := G x.f1 }
theorem chgP_eq (G : List S45 → List S45) (l : List S25) : chgP G l = l.map (chg1 G) := rfl
def chgK (G : List S45 → List S45) (k : Nat) (l : List S25) : List S25 := (l.take k).map (chg1 G) ++ l.drop k
theorem chgK_len (G : List S45 → List S45) (k : Nat) (l : List S25) : (chgK G k l).length = l.length := by unfold chgK; simp; omega
theorem chgK_zero (G : List S45 → List S45) (l : List S25) : chgK G 0 l = l := by unfold chgK; simp
theorem chgK_all (G : List S45 → List S45) (l : List S25) (k : Nat) (h : l.length ≤ k) : chgK G k l = chgP G l := by unfold chgK; rw [List.take_of_length_le h, List.drop_eq_nil_of_le h, List.append_nil, chgP_eq]
theorem chgK_at (G : List S45 → List S45) (l : List S25) (k : Nat) (hk : k < l.length) (hk' : k < (chgK G k l).length) : (chgK G k l)[k] = l[k] := by
  apply Option.some.inj
  rw [← List.getElem?_eq_getElem hk', ← List.getElem?_eq_getElem hk]
  unfold chgK
  rw [List.getElem?_append_right (by simp; omega), List.getElem?_drop]
  congr 1
  simp
  omega
theorem chgK_skip (G : List S45 → List S45) (l : List S25) (k : Nat) (hk : k < l.length) (h : isTz l[k].f0 = true) : chgK G (k + 1) l = chgK G k l := by
  unfold chgK
  rw [List.take_succ_eq_append_getElem hk, List.map_append, List.append_assoc, List.drop_eq_getElem_cons hk]
  simp [chg1, h]
theorem chgK_hit (G : List S45 → List S45) (l : List S25) (k : Nat) (hk : k < l.length) (h : isTz l[k].f0 = false) : chgK G (k + 1) l = (chgK G k l).set k { l[k] with f1 := G l[k].f1 } := by
  unfold chgK
  rw [List.take_succ_eq_append_getElem hk, List.map_append, List.append_assoc, List.drop_eq_getElem_cons hk, List.set_append_right _ _ (by simp; omega)]
  simp [chg1, h, Nat.min_eq_left (Nat.le_of_lt hk)]
  rw [List.drop_eq_getElem_cons hk]
  rfl
set_option maxRecDepth 100000 in
set_option maxHeartbeats 1600000 in
theorem own_walk (nm : ByteArray) (A1 : Option Addr) (n1 c1 : Nat) (P : Nat → Prop) (A : Option Addr) (c : Nat) (l : List S25) (w : World) (hs : Kd.V k25 25 w w.heap.size P (.slice A l.length c) l) (hlim : l.length ≤ 1000000000) :
    Calls Try.prog 68 #[.agg #[.string nm, .slice A1 n1 c1, .slice A l.length c]] w fun e w' => ∃ v : Value, e = .returned (.agg #[.string nm, .slice A1 n1 c1, v]) ∧ Kd.N k25 25 w' (w.heap.size + 2) (fun k => (P k ∧ k < w.heap.size) ∨ w.heap.size + 2 ≤ k) v l ∧ Below w.heap.size w w' := by
  have HV := Aside0.mk hs
  clear hs
  go_enter Try.func68, Try.ntmps68
  go_wp2_with ((with_reducible refine gate_builtin (b := .append) (xs := #[.tmp 4, .tmp 6]) rfl ?_); refine Aside0.out ?_)
  refine ⟨?_⟩
  obtain ⟨W3, hW3⟩ : ∃ W3, (w.alloc (Obj.cells #[Value.string nm, Value.slice A1 n1 c1, Value.slice A l.length c] 25)).alloc (Obj.cells #[Value.string { data := #[] }, Value.slice none 0 0, Value.slice none 0 0] 25) = W3 := ⟨_, rfl⟩
  have hz3 : W3.heap.size = w.heap.size + 2 := by rw [← hW3]; simp
  have hb3 : Below w.heap.size w W3 := by rw [← hW3]; exact below_alloc (below_alloc (Below.refl _ _) _) _
  have kC : W3.heap[w.heap.size]? = some (.cells #[.string nm, .slice A1 n1 c1, .slice A l.length c] 25 (0, 0)) := by rw [← hW3]; exact blk_alloc (alloc_at rfl) _
  have kR : W3.heap[w.heap.size + 1]? = some (.cells #[.string ⟨#[]⟩, .slice none 0 0, .slice none 0 0] 25 (0, 0)) := by rw [← hW3]; exact alloc_at (by simp)
  rw [hW3]
  clear hW3
  at_builtin
  refine Kd.N_append_rows k25 (w0 := W3) W3.heap.size rfl (.tmp 4) (.tmp 6) 23 25 (.agg #[(.string ⟨#[]⟩), (.slice none 0 0), (.slice none 0 0)]) 64 rfl Try.underlying23 info25 rfl (by decide) (by omega) (.slice none 0 0) [] l A l.length c (fun k => (P k ∧ k < w.heap.size) ∨ w.heap.size + 2 ≤ k) (fun k => P k ∧ k < w.heap.size) rfl rfl (Kd.N_nil _ _ _ _ _) (Kd.V_F (Kd.V_below (Kd.V_bound HV.out) hb3)) (fun k hk => ⟨.inl hk, by simp [Value.ownBlock]⟩) (fun k hk => .inr (by omega)) (Below.refl _ _) (Nat.le_refl _) (by simp; omega) ?_
  intro v5 w5 hn5 hb5 hg5 hat5
  rw [List.nil_append] at hn5
  obtain ⟨A5, c5, rfl⟩ := Kd.N_slice hn5
  have hC5 := blk_below kC hb5
  have hR5 := blk_below kR hb5
  have q0 : w5.cell? ⟨w.heap.size, 0, none⟩ = some (.string nm) := (blk_cell hC5 0).trans rfl
  have q1 : w5.cell? ⟨w.heap.size, 1, none⟩ = some (.slice A1 n1 c1) := (blk_cell hC5 1).trans rfl
  have q2 : w5.cell? ⟨w.heap.size, 2, none⟩ = some (.slice A l.length c) := (blk_cell hC5 2).trans rfl
  have q3 : w5.frozen? ⟨w.heap.size, 2, none⟩ = false := blk_frozen hC5 2
  have r0 : w5.cell? ⟨w.heap.size + 1, 0, none⟩ = some (.string ⟨#[]⟩) := (blk_cell hR5 0).trans rfl
  have r1 : w5.cell? ⟨w.heap.size + 1, 1, none⟩ = some (.slice none 0 0) := (blk_cell hR5 1).trans rfl
  have r2 : w5.cell? ⟨w.heap.size + 1, 2, none⟩ = some (.slice none 0 0) := (blk_cell hR5 2).trans rfl
  have t0 : w5.frozen? ⟨w.heap.size + 1, 0, none⟩ = false := blk_frozen hR5 0
  have t1 : w5.frozen? ⟨w.heap.size + 1, 1, none⟩ = false := blk_frozen hR5 1
  have t2 : w5.frozen? ⟨w.heap.size + 1, 2, none⟩ = false := blk_frozen hR5 2
  rw [hz3] at hn5
  have HN5 := Aside0.mk hn5
  have HB5 := Aside0.mk (hb3.trans (hb5.mono (by omega)))
  have HR5 := Aside0.mk hR5
  clear hn5 hb5 hb3 hR5 hC5 kC kR hat5 hg5
  go_wp2
  refine bodyPost_ret (results_box25 _ 2 rfl _ _ (w.heap.size + 1) nm A1 A5 n1 c1 _ c5 rfl (box3_at _ _ _ (blk_far (p := ⟨w.heap.size, 2, none⟩) HR5.out (by simp) _))) rfl ?_
  refine ⟨_, rfl, Kd.N_step HN5.out (fun k hk _ => ?_), below_boxed (below_set HB5.out (Nat.le_refl _)) (by omega) _ _ _⟩
  have h0 : k ≠ w.heap.size := by rcases hk with hk | hk <;> omega
  have h1 : k ≠ w.heap.size + 1 := by rcases hk with hk | hk <;> omega
  exact (((Below.heap_setCell _ _ _ k h1).trans (Below.heap_setCell _ _ _ k h1)).trans (Below.heap_setCell _ _ _ k h1)).trans (Below.heap_setCell _ _ _ k h0)
end Go.Proofs.Ytebmbfobmakheaa.PD
namespace Go.Proofs.Ytebmbfobmakheaa.PD
open Go.RowKit Go.Proofs.YtebmbfobmakheaaW.PrintWords Go.Proofs.YtebmbfobmakheaaW.PrintLast Go.Proofs.YtebmbfobmakheaaW.PrintMore
attribute [local go_sem] isSome_setCell max2_int min2_int max_two min_two
set_option linter.unusedVariables false
set_option linter.unusedSimpArgs false
set_option maxRecDepth 100000 in
set_option maxHeartbeats 1600000 in
theorem cancelled_walk (nm : ByteArray) (A1 : Option Addr) (n1 c1 : Nat) (P : Nat → Prop) (A : Option Addr) (c : Nat) (l : List S25) (w : World) (hs : Kd.V k25 25 w w.heap.size P (.slice A l.length c) l) (hlim : limO l = true) :
    Calls Try.prog 31 #[.agg #[.string nm, .slice A1 n1 c1, .slice A l.length c]] w fun e w' => ∃ v : Value, e = .returned (.agg #[.string nm, .slice A1 n1 c1, v]) ∧ Kd.N k25 25 w' w.heap.size (fun k => P k ∨ w.heap.size ≤ k) v (chgP cancF l) ∧ Below w.heap.size w w' := by
  have HV := Aside0.mk hs
  clear hs
  go_enter Try.func31, Try.ntmps31
  go_wp2_with (go_at_call 62; refine Aside0.out ?_)
  refine ⟨?_⟩
  obtain ⟨W3, hW3⟩ : ∃ W3, (w.alloc (Obj.cells #[Value.string nm, Value.slice A1 n1 c1, Value.slice A l.length c] 25)).alloc (Obj.cells #[Value.string { data := #[] }, Value.slice none 0 0, Value.slice none 0 0] 25) = W3 := ⟨_, rfl⟩
  have hz3 : W3.heap.size = w.heap.size + 2 := by rw [← hW3]; simp
  have hb3 : Below w.heap.size w W3 := by rw [← hW3]; exact below_alloc (below_alloc (Below.refl _ _) _) _
  have kR : W3.heap[w.heap.size + 1]? = some (.cells #[.string ⟨#[]⟩, .slice none 0 0, .slice none 0 0] 25 (0, 0)) := by
    rw [← hW3]; have := heap_alloc_new (w.alloc (.cells #[.string nm, .slice A1 n1 c1, .slice A l.length c] 25)) (.cells #[.string ⟨#[]⟩, .slice none 0 0, .slice none 0 0] 25); rw [World.size_alloc] at this; exact this
  rw [hW3]
  clear hW3
  refine (changed_walk 72 _ Try.func72 rfl rfl _ _ _ (fun _ => False) (fun k => P k ∧ k < w.heap.size) nm A1 n1 c1 A c l W3 (cancel1_maker W3) (fun _ h => h.elim) (Kd.V_below (Kd.V_bound HV.out) hb3) (limO_len hlim) (fun x hx => by have := (limO_at hlim x hx).1; omega) (fun x hx => (limO_at hlim x hx).1)).mono ?_
  rintro e w5 ⟨v5, rfl, hn5, hb5⟩
  obtain ⟨A5, c5, rfl⟩ := Kd.N_slice hn5
  have hR5 := blk_below kR hb5
  have r0 : w5.cell? ⟨w.heap.size + 1, 0, none⟩ = some (.string ⟨#[]⟩) := (blk_cell hR5 0).trans rfl
  have r1 : w5.cell? ⟨w.heap.size + 1, 1, none⟩ = some (.slice none 0 0) := (blk_cell hR5 1).trans rfl
  have r2 : w5.cell? ⟨w.heap.size + 1, 2, none⟩ = some (.slice none 0 0) := (blk_cell hR5 2).trans rfl
  have t0 : w5.frozen? ⟨w.heap.size + 1, 0, none⟩ = false := blk_frozen hR5 0
  have t1 : w5.frozen? ⟨w.heap.size + 1, 1, none⟩ = false := blk_frozen hR5 1
  have t2 : w5.frozen? ⟨w.heap.size + 1, 2, none⟩ = false := blk_frozen hR5 2
  have HN5 := Aside0.mk (Kd.N_lower hn5 (show w.heap.size ≤ W3.heap.size by omega))
  rw [hz3] at HN5
  have HB5 := Aside0.mk (hb3.trans (hb5.mono (by omega)))
  have HR5 := Aside0.mk hR5
  clear hn5 hb5 hb3 hR5 kR
  go_wp2
  refine bodyPost_ret (results_box25 _ 2 rfl _ _ (w.heap.size + 1) nm A1 A5 n1 c1 _ c5 rfl (box3_at _ _ _ HR5.out)) rfl ?_
  exact ⟨_, rfl, N_boxed HN5.out (by omega) (by omega) _ _ _, below_boxed HB5.out (by omega) _ _ _⟩
def itip_Cancelled.f (k : Nat) (a0_0 : ByteArray) (l0_1 : List (S45)) (l0_2 : List (S25))  : Option (ByteArray × (List (S45)) × (List (S25))) := if limO l0_2 = true then some (a0_0, l0_1, chgP cancF l0_2) else none
theorem itip_Cancelled.calls (k : Nat) (a0_0 : ByteArray) (P0_1_ : Nat → Prop) (A0_1 : Option Addr) (c0_1 : Nat) (l0_1 : List (S45)) (P0_2_ : Nat → Prop) (A0_2 : Option Addr) (c0_2 : Nat) (l0_2 : List (S25))  (r1 : ByteArray) (r2 : List (S45)) (r3 : List (S25)) (w : World) (hs0_1 : Kd.V k45 45 w w.heap.size (fun k_ => P0_1_ k_) (.slice A0_1 l0_1.length c0_1) l0_1) (hs0_2 : Kd.V k25 25 w w.heap.size (fun k_ => P0_2_ k_) (.slice A0_2 l0_2.length c0_2) l0_2) (h : itip_Cancelled.f k a0_0 l0_1 l0_2  = some (r1, r2, r3)) :
    Calls Try.prog 31 #[.agg #[.string a0_0, .slice A0_1 l0_1.length c0_1, .slice A0_2 l0_2.length c0_2]] w fun e w' => ∃ v1_ v2_ : Value, e = .returned (.agg #[.string r1, v1_, v2_]) ∧ Kd.V k45 45 w' w.heap.size (fun k_ => ((P0_1_ k_ ∨ P0_2_ k_) ∨ w.heap.size ≤ k_) ∧ some k_ ≠ (v2_ : Value).ownBlock) v1_ r2 ∧ Kd.N k25 25 w' w.heap.size (fun k_ => ((P0_1_ k_ ∨ P0_2_ k_) ∨ w.heap.size ≤ k_)) v2_ r3 ∧ Below w.heap.size w w' := by
  unfold itip_Cancelled.f at h
  split at h
  case isFalse => cases h
  rename_i hc
  simp only [Option.some.injEq, Prod.mk.injEq] at h
  obtain ⟨rfl, rfl, rfl⟩ := h
  refine (cancelled_walk a0_0 A0_1 _ c0_1 P0_2_ A0_2 c0_2 l0_2 w hs0_2 hc).mono ?_
  rintro e w' ⟨v, rfl, hn, hb⟩
  exact ⟨_, v, rfl, V_beside hs0_1 hb hn, Kd.N_mono hn (fun k hk => hk.imp (fun h => .inr h) id), hb⟩
end Go.Proofs.Ytebmbfobmakheaa.PD
namespace Go.Proofs.Ytebmbfobmakheaa.PD
open Go.RowKit Go.Proofs.YtebmbfobmakheaaW.PrintWords Go.Proofs.YtebmbfobmakheaaW.PrintLast Go.Proofs.YtebmbfobmakheaaW.PrintMore
attribute [local go_sem] isSome_setCell max2_int min2_int max_two min_two
set_option linter.unusedVariables false
set_option linter.unusedSimpArgs false
theorem isTz_q3 {s : ByteArray} {b : Bool} (h : isTz s = b) : (s.toList == ([86, 84, 73, 77, 69, 90, 79, 78, 69] : List UInt8)) = b := h
structure St (w : World) (nm : ByteArray) (A1 : Option Addr) (n1 c1 : Nat) (A' : Option Addr) (c' : Nat) (P : Nat → Prop) (len : Nat) (m : List S25) (W : World) : Prop where
  N : Kd.N k25 25 W (w.heap.size + 4) (fun k => (P k ∧ k < w.heap.size) ∨ w.heap.size + 4 ≤ k) (.slice A' len c') m
  C : W.heap[w.heap.size]? = some (.cells #[.string nm, .slice A1 n1 c1, .slice A' len c'] 25 (0, 0))
  R : W.heap[w.heap.size + 1]? = some (.cells #[.string ⟨#[]⟩, .slice none 0 0, .slice none 0 0] 25 (0, 0))
  B : Below w.heap.size w W
theorem St.below {w W W' : World} {nm : ByteArray} {A1 : Option Addr} {n1 c1 : Nat} {A' : Option Addr} {c' : Nat} {P : Nat → Prop} {len : Nat} {m : List S25} (h : St w nm A1 n1 c1 A' c' P len m W) (hb : Below W.heap.size W W') : St w nm A1 n1 c1 A' c' P len m W' :=
  ⟨Kd.N_below h.N hb, blk_below h.C hb, blk_below h.R hb, h.B.trans (hb.mono h.B.size)⟩
theorem St.put {w W W' : World} {nm : ByteArray} {A1 : Option Addr} {n1 c1 g c' A8c : Nat} {P : Nat → Prop} {len : Nat} {m : List S25} {y : List S45} {A8 : Option Addr} (h : St w nm A1 n1 c1 (some ⟨g, 0, none⟩) c' P len m W) (hb : Below W.heap.size W W') (hl : len = m.length) (i : Nat) (hi : i < m.length) {base : Nat}
    (hn : Kd.N k45 45 W' base (fun k => ((P k ∧ k < w.heap.size) ∨ w.heap.size + 4 ≤ k) ∧ k ≠ g) (.slice A8 y.length A8c) y) :
    St w nm A1 n1 c1 (some ⟨g, 0, none⟩) c' P len (m.set i { m[i] with f1 := y }) (W'.setCell ⟨g, i * 3 + 1, none⟩ (.slice A8 y.length A8c)) := by
  have h' := h.below hb
  have hg := Kd.N_base h.N g rfl
  have hN := h'.N
  subst hl
  obtain ⟨k1, k2⟩ := N_put25 hN i hi y A8 A8c (Kd.N_reads' hn).2.1 (Kd.N_F hn)
  exact ⟨k1, (Below.heap_setCell _ _ _ _ (by show w.heap.size ≠ g; omega)).trans h'.C, (Below.heap_setCell _ _ _ _ (by show w.heap.size + 1 ≠ g; omega)).trans h'.R, below_set h'.B (by show w.heap.size ≤ g; omega)⟩
theorem St.start {w : World} {nm : ByteArray} {A1 : Option Addr} {n1 c1 : Nat} {A' : Option Addr} {c' : Nat} {P : Nat → Prop} {l : List S25} {A : Option Addr} {c : Nat} {W3 w5 : World} (hz : W3.heap.size = w.heap.size + 2) (hb3 : Below w.heap.size w W3)
    (kC : W3.heap[w.heap.size]? = some (.cells #[.string nm, .slice A1 n1 c1, .slice A l.length c] 25 (0, 0))) (kR : W3.heap[w.heap.size + 1]? = some (.cells #[.string ⟨#[]⟩, .slice none 0 0, .slice none 0 0] 25 (0, 0)))
    (hn : Kd.N k25 25 w5 (W3.heap.size + 2) (fun k => ((P k ∧ k < w.heap.size) ∧ k < W3.heap.size) ∨ W3.heap.size + 2 ≤ k) (.slice A' l.length c') l) (hb : Below W3.heap.size W3 w5) :
    St w nm A1 n1 c1 A' c' P l.length l (((w5.setCell ⟨w.heap.size, 0, none⟩ (.string nm)).setCell ⟨w.heap.size, 1, none⟩ (.slice A1 n1 c1)).setCell ⟨w.heap.size, 2, none⟩ (.slice A' l.length c')) := by
  have kC5 := blk_below kC hb
  have kR5 := blk_below kR hb
  rw [hz] at hn
  refine ⟨Kd.N_step (Kd.N_mono hn (fun k hk => hk.imp (fun h => h.1) (fun h => by omega))) (fun k hk _ => ?_), box3_at _ _ _ kC5, ?_, below_boxed (hb3.trans (hb.mono (by omega))) (Nat.le_refl _) _ _ _⟩
  · have hne : k ≠ w.heap.size := by rcases hk with hk | hk <;> omega
    exact ((Below.heap_setCell _ _ _ k hne).trans (Below.heap_setCell _ _ _ k hne)).trans (Below.heap_setCell _ _ _ k hne)
  · have hne : w.heap.size + 1 ≠ w.heap.size := by omega
    exact (((Below.heap_setCell _ _ _ _ hne).trans (Below.heap_setCell _ _ _ _ hne)).trans (Below.heap_setCell _ _ _ _ hne)).trans kR5
theorem F_one45 {W : World} {xb : Nat} {s t : ByteArray} (h : W.heap[xb]? = some (.cells #[.string s, .slice none 0 0, .string t] 45 (0, 0))) : Kd.F k45 W (fun k => k = xb) (some ⟨xb, 0, none⟩) 1 [(⟨s, [], t⟩ : S45)] := fun W' hW => by
  have hb := (hW xb rfl (Array.getElem?_eq_some_iff.1 h).1).trans h
  refine ⟨rfl, by simp, fun _ => ⟨_, rfl, fun j p hj => ?_⟩⟩
  rcases j with _ | j
  · simp only [List.getElem?_cons_zero, Option.some.injEq] at hj
    subst hj
    refine ⟨[.string s, .slice none 0 0, .string t], rfl, k45_mk W' (⟨s, [], t⟩ : S45) (Nat.le_refl _) (Kd.C_nil _ _), fun i u hu => ?_⟩
    rcases i with _ | _ | _ | i
    · simp at hu; subst hu; exact (blk_cell hb 0).trans rfl
    · simp at hu; subst hu; exact (blk_cell hb 1).trans rfl
    · simp at hu; subst hu; exact (blk_cell hb 2).trans rfl
    · simp at hu
  · simp at hj
set_option maxRecDepth 100000 in
set_option maxHeartbeats 8000000 in
theorem rcancelled_walk (kk : Nat) (nm : ByteArray) (A1 : Option Addr) (n1 c1 : Nat) (P : Nat → Prop) (A : Option Addr) (c : Nat) (l : List S25) (w : World) (hs : Kd.V k25 25 w w.heap.size P (.slice A l.length c) l) (hlim : limO l = true) (hwo : ∀ x ∈ l, almanacref26_without.f kk x.f1 (⟨#[83, 84, 65, 84, 85, 83]⟩ : ByteArray) = some (x.f1.filter fun x => !(x.f0.toList == ((⟨#[83, 84, 65, 84, 85, 83]⟩ : ByteArray) : ByteArray).toList))) :
    Calls Try.prog 32 #[.agg #[.string nm, .slice A1 n1 c1, .slice A l.length c]] w fun e w' => ∃ v : Value, e = .returned (.agg #[.string nm, .slice A1 n1 c1, v]) ∧ Kd.N k25 25 w' w.heap.size (fun k => P k ∨ w.heap.size ≤ k) v (chgP cancF l) ∧ Below w.heap.size w w' := by
  have HV := Aside0.mk hs
  have HWO := Aside0.mk hwo
  have hll := limO_len hlim
  have HLIM := Aside0.mk (limO_at hlim)
  clear hs hwo
  go_enter Try.func32, Try.ntmps32
  go_wp2_with (go_at_call 68; refine Aside0.out ?_)
  refine ⟨?_⟩
  obtain ⟨W3, hW3⟩ : ∃ W3, (w.alloc (Obj.cells #[Value.string nm, Value.slice A1 n1 c1, Value.slice A l.length c] 25)).alloc (Obj.cells #[Value.string { data := #[] }, Value.slice none 0 0, Value.slice none 0 0] 25) = W3 := ⟨_, rfl⟩
  have hz3 : W3.heap.size = w.heap.size + 2 := by rw [← hW3]; simp
  have hb3 : Below w.heap.size w W3 := by rw [← hW3]; exact below_alloc (below_alloc (Below.refl _ _) _) _
  have kC : W3.heap[w.heap.size]? = some (.cells #[.string nm, .slice A1 n1 c1, .slice A l.length c] 25 (0, 0)) := by rw [← hW3]; exact blk_alloc (alloc_at rfl) _
  have kR : W3.heap[w.heap.size + 1]? = some (.cells #[.string ⟨#[]⟩, .slice none 0 0, .slice none 0 0] 25 (0, 0)) := by rw [← hW3]; exact alloc_at (by simp)
  rw [hW3]
  clear hW3
  refine (own_walk nm A1 n1 c1 (fun k => P k ∧ k < w.heap.size) A c l W3 (Kd.V_below (Kd.V_bound HV.out) hb3) hll).mono ?_
  rintro e w5 ⟨v5, rfl, hn5, hb5⟩
  obtain ⟨A', c', rfl⟩ := Kd.N_slice hn5
  have HST := Aside0.mk (St.start hz3 hb3 kC kR hn5 hb5)
  have hC5 := blk_below kC hb5
  have q0 : w5.cell? ⟨w.heap.size, 0, none⟩ = some (.string nm) := (blk_cell hC5 0).trans rfl
  have q1 : w5.cell? ⟨w.heap.size, 1, none⟩ = some (.slice A1 n1 c1) := (blk_cell hC5 1).trans rfl
  have q2 : w5.cell? ⟨w.heap.size, 2, none⟩ = some (.slice A l.length c) := (blk_cell hC5 2).trans rfl
  have q3 : w5.frozen? ⟨w.heap.size, 0, none⟩ = false := blk_frozen hC5 0
  have q4 : w5.frozen? ⟨w.heap.size, 1, none⟩ = false := blk_frozen hC5 1
  have q5 : w5.frozen? ⟨w.heap.size, 2, none⟩ = false := blk_frozen hC5 2
  clear hn5 hb5 hb3 hC5 kC kR
  go_wp2
  clear q0 q1 q2 q3 q4 q5
  have hml : l.length ≤ 9223372036854775807 := by omega
  go_loopw [3] (fun v wr => ∃ k : Nat, v = .int .i64 k ∧ k ≤ l.length ∧ Aside0 (St w nm A1 n1 c1 A' c' P l.length (chgK cancF k l) wr)) (fun v _ => l.length - (intOf v).toNat)
  case atStart => exact ⟨0, rfl, Nat.zero_le _, ⟨by rw [chgK_zero]; exact HST.out⟩⟩
  case round =>
    obtain ⟨k, rfl, hk, HS⟩ := hrel
    have s0 : wr.cell? ⟨w.heap.size, 2, none⟩ = some (.slice A' l.length c') := (blk_cell HS.out.C 2).trans rfl
    by_cases hlt : k < l.length
    · have hlt0 : decide ((k : Int) < (l.length : Int)) = true := decide_eq_true (by omega)
      have hku : k < (chgK cancF k l).length := by rw [chgK_len]; exact hlt
      obtain ⟨g, cap, Ax, cx, A2, c2, ev, e0, e1, e2, hfz, le1, f1, le2, f2⟩ := N_get25 HS.out.N k hku
      have hgb := Kd.N_base HS.out.N g (by rw [ev]; rfl)
      have hglt := Kd.N_lt HS.out.N g (by rw [ev]; rfl)
      have hup := chgK_at cancF l k hlt hku
      rw [hup] at e0 e1 e2 le1 f1
      rw [chgK_len] at ev
      injection ev with eA _ ecv
      subst eA
      subst ecv
      obtain ⟨x, ex⟩ : ∃ x, l[k] = x := ⟨_, rfl⟩
      have hxm : x ∈ l := by rw [← ex]; exact List.getElem_mem hlt
      rw [ex] at e0 e1 e2 le1 f1
      have EX := Aside0.mk ex
      have F1 := Aside0.mk f1
      have HF := Aside0.mk hfz
      clear f1 f2 le2 e2 ex hfz hup
      cases htz : isTz x.f0 with
      | true =>
        have q3 := isTz_q3 htz
        have q4 : (x.f0.toList = ([86, 84, 73, 77, 69, 90, 79, 78, 69] : List UInt8)) = True := eq_true (beq_iff_eq.1 q3)
        have q5 : (x.f0.toList != ([86, 84, 73, 77, 69, 90, 79, 78, 69] : List UInt8)) = false := by rw [bne, q3]; rfl
        have hsk := Aside0.mk (chgK_skip cancF l k hlt (by rw [EX.out]; exact htz))
        clear htz
        go_wp2
        exact ⟨⟨k + 1, by simp, hlt, ⟨by rw [hsk.out]; exact HS.out⟩⟩, by show l.length - ((k : Int) + 1).toNat < l.length - (k : Int).toNat; omega⟩
      | false =>
        have q3 := isTz_q3 htz
        have q4 : (x.f0.toList = ([86, 84, 73, 77, 69, 90, 79, 78, 69] : List UInt8)) = False := eq_false (beq_eq_false_iff_ne.1 q3)
        have q5 : (x.f0.toList != ([86, 84, 73, 77, 69, 90, 79, 78, 69] : List UInt8)) = true := by rw [bne, q3]; rfl
        have hsk := Aside0.mk (chgK_hit cancF l k hlt (by rw [EX.out]; exact htz))
        clear htz
        have hwx := Aside0.mk (HWO.out x hxm)
        have hxl := (HLIM.out x hxm).1
        have HST := Aside0.mk (show ∀ W', Below wr.heap.size wr W' → St w nm A1 n1 c1 (some ⟨g, 0, none⟩) c' P l.length (chgK cancF k l) W' from fun W' hb => HS.out.below hb)
        have hgc := Aside0.mk (show ∀ W', Below wr.heap.size wr W' → W'.cell? ⟨g, k * 3 + 1, none⟩ = some (.slice Ax x.f1.length cx) from fun W' hb => (hb.cell (World.block_lt_of_cell? wr _ e1)).trans e1)
        have hgf := Aside0.mk (show ∀ W', Below wr.heap.size wr W' → W'.frozen? ⟨g, k * 3 + 1, none⟩ = false from fun W' hb => by
          obtain ⟨cells, hcl⟩ := Kd.N_typed HS.out.N g rfl
          exact blk_frozen (blk_below hcl hb) _)
        have HBd := Aside0.mk (show Below wr.heap.size wr wr.drew from below_drew (Below.refl _ _))
        have hwd : wr.drew.heap.size = wr.heap.size := rfl
        have s0d : wr.drew.cell? ⟨w.heap.size, 2, none⟩ = some (.slice (some ⟨g, 0, none⟩) l.length c') := s0
        have e1d : wr.drew.cell? ⟨g, k * 3 + 1, none⟩ = some (.slice Ax x.f1.length cx) := e1
        have HVx := Aside0.mk (show Kd.V k45 45 wr.drew wr.drew.heap.size (fun q => ((P q ∧ q < w.heap.size) ∨ w.heap.size + 4 ≤ q) ∧ q ≠ g) (.slice Ax x.f1.length cx) x.f1 from Kd.V_drew (Kd.V_mk le1 F1.out))
        go_wp2
        refine start_ (n := 16) (S := fun w' => w'.cell? ⟨w.heap.size, 2, none⟩ = some (.slice (some ⟨g, 0, none⟩) l.length c') ∧ w'.cell? ⟨g, k * 3 + 1, none⟩ = some (.slice Ax x.f1.length cx)) (ds := [15]) #[false, false, false, false, false, false, false, false, false, false, false, false, false, false, false, false] (by kernel_rfl) rfl rfl (⟨s0d, e1d⟩) (fun hHeld => ?_)
        refine pure_ (i := 0) (N := some 20) (v := ?_) (a' := ?_) #[true, false, false, false, false, false, false, false, false, false, false, false, false, false, false, false] rfl rfl (by kernel_rfl) (fun _ _ _ h => h) (Or.inl ⟨by rfl, ?_⟩) ?_ ?_
        rotate_left
        · intro w'
          go_simp
          with_reducible rfl
        rotate_left
        · simp only [Act.put, List.setIfInBounds_toArray, List.set_cons_zero, List.set_cons_succ, i64_w, i32_w]
          rfl
        refine take_ (i := 1) (N := some 21) (v := ?_) (a' := ?_) #[true, true, false, false, false, false, false, false, false, false, false, false, false, false, false, false] rfl rfl (by kernel_rfl) (fun _ _ _ h => h) (Or.inl ⟨by rfl, ?_⟩) hHeld ?_ ?_
        rotate_left
        · rintro w' ⟨s0, s1⟩
          go_simp
          with_reducible rfl
        rotate_left
        · simp only [Act.put, List.setIfInBounds_toArray, List.set_cons_zero, List.set_cons_succ, i64_w, i32_w]
          rfl
        refine pure_ (i := 2) (N := some 22) (v := ?_) (a' := ?_) #[true, true, true, false, false, false, false, false, false, false, false, false, false, false, false, false] rfl rfl (by kernel_rfl) (fun _ _ _ h => h) (Or.inl ⟨by rfl, ?_⟩) ?_ ?_
        rotate_left
        · intro w'
          go_simp
          with_reducible rfl
        rotate_left
        · simp only [Act.put, List.setIfInBounds_toArray, List.set_cons_zero, List.set_cons_succ, i64_w, i32_w]
          rfl
        refine pure_ (i := 3) (N := some 23) (v := ?_) (a' := ?_) #[true, true, true, true, false, false, false, false, false, false, false, false, false, false, false, false] rfl rfl (by kernel_rfl) (fun _ _ _ h => h) (Or.inl ⟨by rfl, ?_⟩) ?_ ?_
        rotate_left
        · intro w'
          go_simp
          with_reducible rfl
        rotate_left
        · simp only [Act.put, List.setIfInBounds_toArray, List.set_cons_zero, List.set_cons_succ, i64_w, i32_w]
          rfl
        refine take_ (i := 4) (N := some 24) (v := ?_) (a' := ?_) #[true, true, true, true, true, false, false, false, false, false, false, false, false, false, false, false] rfl rfl (by kernel_rfl) (fun _ _ _ h => h) (Or.inl ⟨by rfl, ?_⟩) hHeld ?_ ?_
        rotate_left
        · rintro w' ⟨s0, s1⟩
          go_simp
          with_reducible rfl
        rotate_left
        · simp only [Act.put, List.setIfInBounds_toArray, List.set_cons_zero, List.set_cons_succ, i64_w, i32_w]
          rfl
        refine pure_ (i := 5) (N := some 25) (v := ?_) (a' := ?_) #[true, true, true, true, true, true, false, false, false, false, false, false, false, false, false, false] rfl rfl (by kernel_rfl) (fun _ _ _ h => h) (Or.inl ⟨by rfl, ?_⟩) ?_ ?_
        rotate_left
        · intro w'
          go_simp
          with_reducible rfl
        rotate_left
        · simp only [Act.put, List.setIfInBounds_toArray, List.set_cons_zero, List.set_cons_succ, i64_w, i32_w]
          rfl
        refine pure_ (i := 6) (N := some 26) (v := ?_) (a' := ?_) #[true, true, true, true, true, true, true, false, false, false, false, false, false, false, false, false] rfl rfl (by kernel_rfl) (fun _ _ _ h => h) (Or.inl ⟨by rfl, ?_⟩) ?_ ?_
        rotate_left
        · intro w'
          go_simp
          with_reducible rfl
        rotate_left
        · simp only [Act.put, List.setIfInBounds_toArray, List.set_cons_zero, List.set_cons_succ, i64_w, i32_w]
          rfl
        refine pure_ (i := 7) (N := some 27) (v := ?_) (a' := ?_) #[true, true, true, true, true, true, true, true, false, false, false, false, false, false, false, false] rfl rfl (by kernel_rfl) (fun _ _ _ h => h) (Or.inl ⟨by rfl, ?_⟩) ?_ ?_
        rotate_left
        · intro w'
          go_simp
          with_reducible rfl
        rotate_left
        · simp only [Act.put, List.setIfInBounds_toArray, List.set_cons_zero, List.set_cons_succ, i64_w, i32_w]
          rfl
        refine take_ (i := 8) (N := some 28) (v := ?_) (a' := ?_) #[true, true, true, true, true, true, true, true, true, false, false, false, false, false, false, false] rfl rfl (by kernel_rfl) (fun _ _ _ h => h) (Or.inl ⟨by rfl, ?_⟩) hHeld ?_ ?_
        rotate_left
        · rintro w' ⟨s0, s1⟩
          go_simp
          with_reducible rfl
        rotate_left
        · simp only [Act.put, List.setIfInBounds_toArray, List.set_cons_zero, List.set_cons_succ, i64_w, i32_w]
          rfl
        refine pure_ (i := 10) (N := some 30) (v := ?_) (a' := ?_) #[true, true, true, true, true, true, true, true, true, false, true, false, false, false, false, false] rfl rfl (by kernel_rfl) (fun _ _ _ h => h) (Or.inl ⟨by rfl, ?_⟩) ?_ ?_
        rotate_left
        · intro w'
          go_simp
          with_reducible rfl
        rotate_left
        · simp only [Act.put, List.setIfInBounds_toArray, List.set_cons_zero, List.set_cons_succ, i64_w, i32_w]
          rfl
        obtain ⟨m, hm⟩ : ∃ m, (x.f1.filter fun x => !(x.f0.toList == ((⟨#[83, 84, 65, 84, 85, 83]⟩ : ByteArray)).toList)) = m := ⟨_, rfl⟩
        have hmlen : m.length ≤ x.f1.length := by rw [← hm]; exact List.length_filter_le _ _
        obtain ⟨y, hy⟩ : ∃ y, m ++ [(⟨⟨#[83, 84, 65, 84, 85, 83]⟩, [], ⟨#[67, 65, 78, 67, 69, 76, 76, 69, 68]⟩⟩ : S45)] = y := ⟨_, rfl⟩
        have HCF := Aside0.mk (show cancF x.f1 = y by rw [← hy, ← hm]; rfl)
        have HY := Aside0.mk hy
        rw [hm] at hwx
        clear hm hy
        refine two_ (i := 9) (j := 11) (Ni := some 29) (Nj := some 31) #[true, true, true, true, true, true, true, true, true, true, true, false, false, false, false, false] #[true, true, true, true, true, true, true, true, true, false, true, true, false, false, false, false] rfl rfl rfl rfl (by kernel_rfl) (by decide) (by decide) (fun K hK => ?_) (fun K hK => ?_)
        · refine goes_ Try.func67 (by kernel_rfl) rfl #[.slice Ax x.f1.length cx, .string ⟨#[83, 84, 65, 84, 85, 83]⟩] (by rfl) rfl rfl (by (try simp only [List.map_toArray, List.map_cons, List.map_nil]); first | done | rfl) ?_
          refine (almanacref26_without.calls kk (fun q => ((P q ∧ q < w.heap.size) ∨ w.heap.size + 4 ≤ q) ∧ q ≠ g) Ax cx x.f1 ⟨#[83, 84, 65, 84, 85, 83]⟩ m wr.drew (HVx.out) hwx.out).mono ?_
          rintro e w7 ⟨v7, rfl, hn7, hb7⟩
          obtain ⟨Av, cv, ev7⟩ := Kd.N_slice hn7
          subst ev7
          refine ⟨_, rfl, ?_⟩
          have HD7 := Aside0.mk hb7
          have HB7 := Aside0.mk (HBd.out.trans hb7)
          have HN7 := Aside0.mk (show Kd.N k45 45 w7 wr.drew.heap.size (fun q => ((P q ∧ q < w.heap.size) ∨ w.heap.size + 4 ≤ q) ∧ q ≠ g) (.slice Av m.length cv) m from Kd.N_mono hn7 (fun q hq => hq.elim id (fun hq => ⟨.inr (by have := HS.out.B.size; have := HBd.out.size; omega), by have := HBd.out.size; omega⟩)))
          clear hn7 hb7
          refine hK.out _ _ (⟨(blk_cell (HST.out _ HB7.out).C 2).trans rfl, hgc.out _ HB7.out⟩) (fun hHeld => ?_)
          clear hK K
          refine norm_ (a' := ?_) ?_ ?_
          rotate_left
          · show Act.put _ (some 29) _ = _
            simp only [Act.put, List.setIfInBounds_toArray, List.set_cons_zero, List.set_cons_succ, i64_w, i32_w]
            rfl
          refine one_ (i := 11) (N := some 31) #[true, true, true, true, true, true, true, true, true, true, true, true, false, false, false, false] rfl rfl (by kernel_rfl) (by decide) (fun K hK => ?_)
          refine event_step (by rfl) (v := .slice (some ⟨w7.heap.size, 0, none⟩) 1 1) (w1 := w7.alloc (.cells #[.string ⟨#[83, 84, 65, 84, 85, 83]⟩, .slice none 0 0, .string ⟨#[67, 65, 78, 67, 69, 76, 76, 69, 68]⟩] 45)) (by first | (go_simp; done) | (go_simp; rfl)) ?_
          obtain ⟨X, hX⟩ : ∃ X, w7.alloc (.cells #[.string ⟨#[83, 84, 65, 84, 85, 83]⟩, .slice none 0 0, .string ⟨#[67, 65, 78, 67, 69, 76, 76, 69, 68]⟩] 45) = X := ⟨_, rfl⟩
          rw [hX]
          have BX := Aside0.mk (show X.heap[w7.heap.size]? = some (.cells #[.string ⟨#[83, 84, 65, 84, 85, 83]⟩, .slice none 0 0, .string ⟨#[67, 65, 78, 67, 69, 76, 76, 69, 68]⟩] 45 (0, 0)) by rw [← hX]; exact alloc_at rfl)
          have hbx : Below w7.heap.size w7 X := by rw [← hX]; exact below_alloc (Below.refl _ _) _
          clear hX
          have HBX := Aside0.mk (HB7.out.trans (hbx.mono HB7.out.size))
          have HDX := Aside0.mk (HD7.out.trans (hbx.mono HD7.out.size))
          have HNX := Aside0.mk (Kd.N_below HN7.out hbx)
          have hxbq : (fun q => ((P q ∧ q < w.heap.size) ∨ w.heap.size + 4 ≤ q) ∧ q ≠ g) w7.heap.size ∧ some w7.heap.size ≠ (Value.slice Av m.length cv).ownBlock := ⟨⟨.inr (by have := HS.out.B.size; have := HB7.out.size; omega), by have := HB7.out.size; omega⟩, fun e => by have := Kd.N_lt HN7.out _ e.symm; omega⟩
          clear hbx
          refine hK.out _ _ (⟨(blk_cell (HST.out _ HBX.out).C 2).trans rfl, hgc.out _ HBX.out⟩) (fun hHeld => ?_)
          clear hK K
          refine norm_ (a' := ?_) ?_ ?_
          rotate_left
          · show Act.put _ (some 31) _ = _
            simp only [Act.put, List.setIfInBounds_toArray, List.set_cons_zero, List.set_cons_succ, i64_w, i32_w]
            rfl
          refine one_ (i := 12) (N := some 32) #[true, true, true, true, true, true, true, true, true, true, true, true, true, false, false, false] rfl rfl (by kernel_rfl) (by decide) (fun K hK => ?_)
          refine Kd.N_append_rows_step k45 (w0 := wr.drew) wr.drew.heap.size (by rfl) (.tmp 29) (.tmp 31) 22 45 (.agg #[(.string ⟨#[]⟩), (.slice none 0 0), (.string ⟨#[]⟩)]) 56 rfl Try.underlying22 info45 rfl (by decide) (by omega) (.slice Av m.length cv) m [(⟨⟨#[83, 84, 65, 84, 85, 83]⟩, [], ⟨#[67, 65, 78, 67, 69, 76, 76, 69, 68]⟩⟩ : S45)] (some ⟨w7.heap.size, 0, none⟩) 1 1 (fun q => ((P q ∧ q < w.heap.size) ∨ w.heap.size + 4 ≤ q) ∧ q ≠ g) (fun q => q = w7.heap.size) rfl rfl ?aO ?aR ?aQ ?aF ?aB ?aS ?aL ?_
          case aO => exact HNX.out
          case aR => exact F_one45 BX.out
          case aQ => exact fun q hq => by subst hq; exact hxbq
          case aF => exact fun q hq => ⟨.inr (by have := HBX.out.size; have := HS.out.B.size; omega), by have := HBX.out.size; omega⟩
          case aB => exact HDX.out
          case aS => exact HDX.out.size
          case aL => omega
          intro v9 w9 hn9 hb9 hg9 hat9
          rw [HY.out] at hn9
          obtain ⟨A9, c9, e9⟩ := Kd.N_slice hn9
          subst e9
          have HN9 := Aside0.mk hn9
          have HB9 := Aside0.mk (show Below wr.heap.size wr w9 from HBd.out.trans (hb9.mono HBd.out.size))
          clear hn9 hb9 hg9 hat9
          refine hK.out _ _ (⟨(blk_cell (HST.out _ HB9.out).C 2).trans rfl, hgc.out _ HB9.out⟩) (fun hHeld => ?_)
          clear hK K
          refine norm_ (a' := ?_) ?_ ?_
          rotate_left
          · show Act.put _ (some 32) _ = _
            simp only [Act.put, List.setIfInBounds_toArray, List.set_cons_zero, List.set_cons_succ, i64_w, i32_w]
            rfl
          refine pure_ (i := 13) (N := some 33) (v := ?_) (a' := ?_) #[true, true, true, true, true, true, true, true, true, true, true, true, true, true, false, false] rfl rfl (by kernel_rfl) (fun _ _ _ h => h) (Or.inl ⟨by rfl, ?_⟩) ?_ ?_
          rotate_left
          · intro w'
            go_simp
            with_reducible rfl
          rotate_left
          · simp only [Act.put, List.setIfInBounds_toArray, List.set_cons_zero, List.set_cons_succ, i64_w, i32_w]
            rfl
          refine pure_ (i := 14) (N := some 34) (v := ?_) (a' := ?_) #[true, true, true, true, true, true, true, true, true, true, true, true, true, true, true, false] rfl rfl (by kernel_rfl) (fun _ _ _ h => h) (Or.inl ⟨by rfl, ?_⟩) ?_ ?_
          rotate_left
          · intro w'
            go_simp
            with_reducible rfl
          rotate_left
          · simp only [Act.put, List.setIfInBounds_toArray, List.set_cons_zero, List.set_cons_succ, i64_w, i32_w]
            rfl
          have z0 := hgc.out _ HB9.out
          have z1 := hgf.out _ HB9.out
          refine last_ (i := 15) (N := none) #[true, true, true, true, true, true, true, true, true, true, true, true, true, true, true, true] rfl rfl (by kernel_rfl) (by decide) (fun K hKK => ?_)
          refine skip_ (w1 := ?_) (by rfl) rfl ?_ ?_
          rotate_left
          · go_simp
            rfl
          refine hKK.out _ _ ?_
          clear hKK K
          refine done_ (by kernel_rfl) ?_
          have hput := Aside0.mk ((HST.out _ (Below.refl _ _)).put HB9.out (chgK_len _ _ _).symm k hku HN9.out)
          go_wp2
          exact ⟨⟨k + 1, by simp, hlt, ⟨by rw [hsk.out]; have h_ := hput.out; rw [chgK_at cancF l k hlt hku] at h_; rw [EX.out] at h_ ⊢; rw [HCF.out]; exact h_⟩⟩, by show l.length - ((k : Int) + 1).toNat < l.length - (k : Int).toNat; omega⟩
        · refine event_step (by rfl) (v := .slice (some ⟨wr.drew.heap.size, 0, none⟩) 1 1) (w1 := wr.drew.alloc (.cells #[.string ⟨#[83, 84, 65, 84, 85, 83]⟩, .slice none 0 0, .string ⟨#[67, 65, 78, 67, 69, 76, 76, 69, 68]⟩] 45)) (by first | (go_simp; done) | (go_simp; rfl)) ?_
          obtain ⟨Y, hY⟩ : ∃ X, wr.drew.alloc (.cells #[.string ⟨#[83, 84, 65, 84, 85, 83]⟩, .slice none 0 0, .string ⟨#[67, 65, 78, 67, 69, 76, 76, 69, 68]⟩] 45) = X := ⟨_, rfl⟩
          rw [hY]
          have BX := Aside0.mk (show Y.heap[wr.drew.heap.size]? = some (.cells #[.string ⟨#[83, 84, 65, 84, 85, 83]⟩, .slice none 0 0, .string ⟨#[67, 65, 78, 67, 69, 76, 76, 69, 68]⟩] 45 (0, 0)) by rw [← hY]; exact alloc_at rfl)
          have hbx : Below wr.drew.heap.size wr.drew Y := by rw [← hY]; exact below_alloc (Below.refl _ _) _
          clear hY
          have HBY := Aside0.mk (show Below wr.heap.size wr Y from HBd.out.trans hbx)
          have HVY := Aside0.mk (Kd.V_below HVx.out hbx)
          clear hbx
          refine hK.out _ _ (⟨(blk_cell (HST.out _ HBY.out).C 2).trans rfl, hgc.out _ HBY.out⟩) (fun hHeld => ?_)
          clear hK K
          refine norm_ (a' := ?_) ?_ ?_
          rotate_left
          · show Act.put _ (some 31) _ = _
            simp only [Act.put, List.setIfInBounds_toArray, List.set_cons_zero, List.set_cons_succ, i64_w, i32_w]
            rfl
          refine one_ (i := 9) (N := some 29) #[true, true, true, true, true, true, true, true, true, true, true, true, false, false, false, false] rfl rfl (by kernel_rfl) (by decide) (fun K hK => ?_)
          refine goes_ Try.func67 (by kernel_rfl) rfl #[.slice Ax x.f1.length cx, .string ⟨#[83, 84, 65, 84, 85, 83]⟩] (by rfl) rfl rfl (by (try simp only [List.map_toArray, List.map_cons, List.map_nil]); first | done | rfl) ?_
          refine (almanacref26_without.calls kk (fun q => ((P q ∧ q < w.heap.size) ∨ w.heap.size + 4 ≤ q) ∧ q ≠ g) Ax cx x.f1 ⟨#[83, 84, 65, 84, 85, 83]⟩ m Y (HVY.out) hwx.out).mono ?_
          rintro e w7 ⟨v7, rfl, hn7, hb7⟩
          obtain ⟨Av, cv, ev7⟩ := Kd.N_slice hn7
          subst ev7
          refine ⟨_, rfl, ?_⟩
          have HD7 := Aside0.mk hb7
          have BX7 := Aside0.mk (blk_below BX.out hb7)
          have HB7 := Aside0.mk (HBY.out.trans (hb7.mono HBY.out.size))
          have HN7 := Aside0.mk (show Kd.N k45 45 w7 Y.heap.size (fun q => ((P q ∧ q < w.heap.size) ∨ w.heap.size + 4 ≤ q) ∧ q ≠ g) (.slice Av m.length cv) m from Kd.N_mono hn7 (fun q hq => hq.elim id (fun hq => ⟨.inr (by have := HS.out.B.size; have := HBY.out.size; omega), by have := HBY.out.size; omega⟩)))
          clear hn7 hb7
          have hxbq : (fun q => ((P q ∧ q < w.heap.size) ∨ w.heap.size + 4 ≤ q) ∧ q ≠ g) wr.drew.heap.size ∧ some wr.drew.heap.size ≠ (Value.slice Av m.length cv).ownBlock := ⟨⟨.inr (by have := HS.out.B.size; omega), by omega⟩, fun e => by have h1_ := Kd.N_base HN7.out _ e.symm; have h2_ := (Array.getElem?_eq_some_iff.1 BX.out).1; omega⟩
          refine hK.out _ _ (⟨(blk_cell (HST.out _ HB7.out).C 2).trans rfl, hgc.out _ HB7.out⟩) (fun hHeld => ?_)
          clear hK K
          refine norm_ (a' := ?_) ?_ ?_
          rotate_left
          · show Act.put _ (some 29) _ = _
            simp only [Act.put, List.setIfInBounds_toArray, List.set_cons_zero, List.set_cons_succ, i64_w, i32_w]
            rfl
          refine one_ (i := 12) (N := some 32) #[true, true, true, true, true, true, true, true, true, true, true, true, true, false, false, false] rfl rfl (by kernel_rfl) (by decide) (fun K hK => ?_)
          refine Kd.N_append_rows_step k45 (w0 := Y) Y.heap.size (by rfl) (.tmp 29) (.tmp 31) 22 45 (.agg #[(.string ⟨#[]⟩), (.slice none 0 0), (.string ⟨#[]⟩)]) 56 rfl Try.underlying22 info45 rfl (by decide) (by omega) (.slice Av m.length cv) m [(⟨⟨#[83, 84, 65, 84, 85, 83]⟩, [], ⟨#[67, 65, 78, 67, 69, 76, 76, 69, 68]⟩⟩ : S45)] (some ⟨wr.drew.heap.size, 0, none⟩) 1 1 (fun q => ((P q ∧ q < w.heap.size) ∨ w.heap.size + 4 ≤ q) ∧ q ≠ g) (fun q => q = wr.drew.heap.size) rfl rfl ?aO ?aR ?aQ ?aF ?aB ?aS ?aL ?_
          case aO => exact HN7.out
          case aR => exact F_one45 BX7.out
          case aQ => exact fun q hq => by subst hq; exact hxbq
          case aF => exact fun q hq => ⟨.inr (by have := HB7.out.size; have := HS.out.B.size; omega), by have := HB7.out.size; omega⟩
          case aB => exact HD7.out
          case aS => exact HD7.out.size
          case aL => omega
          intro v9 w9 hn9 hb9 hg9 hat9
          rw [HY.out] at hn9
          obtain ⟨A9, c9, e9⟩ := Kd.N_slice hn9
          subst e9
          have HN9 := Aside0.mk hn9
          have HB9 := Aside0.mk (show Below wr.heap.size wr w9 from HBY.out.trans (hb9.mono HBY.out.size))
          clear hn9 hb9 hg9 hat9
          refine hK.out _ _ (⟨(blk_cell (HST.out _ HB9.out).C 2).trans rfl, hgc.out _ HB9.out⟩) (fun hHeld => ?_)
          clear hK K
          refine norm_ (a' := ?_) ?_ ?_
          rotate_left
          · show Act.put _ (some 32) _ = _
            simp only [Act.put, List.setIfInBounds_toArray, List.set_cons_zero, List.set_cons_succ, i64_w, i32_w]
            rfl
          refine pure_ (i := 13) (N := some 33) (v := ?_) (a' := ?_) #[true, true, true, true, true, true, true, true, true, true, true, true, true, true, false, false] rfl rfl (by kernel_rfl) (fun _ _ _ h => h) (Or.inl ⟨by rfl, ?_⟩) ?_ ?_
          rotate_left
          · intro w'
            go_simp
            with_reducible rfl
          rotate_left
          · simp only [Act.put, List.setIfInBounds_toArray, List.set_cons_zero, List.set_cons_succ, i64_w, i32_w]
            rfl
          refine pure_ (i := 14) (N := some 34) (v := ?_) (a' := ?_) #[true, true, true, true, true, true, true, true, true, true, true, true, true, true, true, false] rfl rfl (by kernel_rfl) (fun _ _ _ h => h) (Or.inl ⟨by rfl, ?_⟩) ?_ ?_
          rotate_left
          · intro w'
            go_simp
            with_reducible rfl
          rotate_left
          · simp only [Act.put, List.setIfInBounds_toArray, List.set_cons_zero, List.set_cons_succ, i64_w, i32_w]
            rfl
          have z0 := hgc.out _ HB9.out
          have z1 := hgf.out _ HB9.out
          refine last_ (i := 15) (N := none) #[true, true, true, true, true, true, true, true, true, true, true, true, true, true, true, true] rfl rfl (by kernel_rfl) (by decide) (fun K hKK => ?_)
          refine skip_ (w1 := ?_) (by rfl) rfl ?_ ?_
          rotate_left
          · go_simp
            rfl
          refine hKK.out _ _ ?_
          clear hKK K
          refine done_ (by kernel_rfl) ?_
          have hput := Aside0.mk ((HST.out _ (Below.refl _ _)).put HB9.out (chgK_len _ _ _).symm k hku HN9.out)
          go_wp2
          exact ⟨⟨k + 1, by simp, hlt, ⟨by rw [hsk.out]; have h_ := hput.out; rw [chgK_at cancF l k hlt hku] at h_; rw [EX.out] at h_ ⊢; rw [HCF.out]; exact h_⟩⟩, by show l.length - ((k : Int) + 1).toNat < l.length - (k : Int).toNat; omega⟩
    · have hlt0 : decide ((k : Int) < (l.length : Int)) = false := decide_eq_false (by omega)
      have hN := HS.out.N
      rw [chgK_all cancF l k (by omega)] at hN
      have HN := Aside0.mk hN
      have c0 : wr.cell? ⟨w.heap.size, 0, none⟩ = some (.string nm) := (blk_cell HS.out.C 0).trans rfl
      have c1' : wr.cell? ⟨w.heap.size, 1, none⟩ = some (.slice A1 n1 c1) := (blk_cell HS.out.C 1).trans rfl
      have r0 : wr.cell? ⟨w.heap.size + 1, 0, none⟩ = some (.string ⟨#[]⟩) := (blk_cell HS.out.R 0).trans rfl
      have r1 : wr.cell? ⟨w.heap.size + 1, 1, none⟩ = some (.slice none 0 0) := (blk_cell HS.out.R 1).trans rfl
      have r2 : wr.cell? ⟨w.heap.size + 1, 2, none⟩ = some (.slice none 0 0) := (blk_cell HS.out.R 2).trans rfl
      have t0 : wr.frozen? ⟨w.heap.size + 1, 0, none⟩ = false := blk_frozen HS.out.R 0
      have t1 : wr.frozen? ⟨w.heap.size + 1, 1, none⟩ = false := blk_frozen HS.out.R 1
      have t2 : wr.frozen? ⟨w.heap.size + 1, 2, none⟩ = false := blk_frozen HS.out.R 2
      clear hN
      go_wp2
      refine bodyPost_ret (results_box25 _ 2 rfl _ _ (w.heap.size + 1) nm A1 A' n1 c1 _ c' rfl (box3_at _ _ _ HS.out.R)) rfl ?_
      refine ⟨_, rfl, Kd.N_lower (Kd.N_mono (Kd.N_step HN.out (fun k hk _ => ?_)) (fun k hk => ?_)) (by omega), below_boxed HS.out.B (by omega) _ _ _⟩
      · have hne : k ≠ w.heap.size + 1 := by rcases hk with hk | hk <;> omega
        exact ((Below.heap_setCell _ _ _ k hne).trans (Below.heap_setCell _ _ _ k hne)).trans (Below.heap_setCell _ _ _ k hne)
      · exact hk.elim (fun hk => .inl hk.1) (fun hk => .inr (by omega))
def roundsB (k : Nat) (l : List S25) : Bool := l.all fun x => decide (x.f1.length < k)
theorem roundsB_at {k : Nat} {l : List S25} (h : roundsB k l = true) (x : S25) (hx : x ∈ l) : x.f1.length < k := of_decide_eq_true (List.all_eq_true.1 h x hx)
def almanacref26_Cancelled.f (k : Nat) (a0_0 : ByteArray) (l0_1 : List (S45)) (l0_2 : List (S25)) : Option (ByteArray × (List (S45)) × (List (S25))) := if (limO l0_2 && roundsB k l0_2) = true then some (a0_0, l0_1, chgP cancF l0_2) else none
theorem almanacref26_Cancelled.calls (k : Nat) (a0_0 : ByteArray) (P0_1_ : Nat → Prop) (A0_1 : Option Addr) (c0_1 : Nat) (l0_1 : List (S45)) (P0_2_ : Nat → Prop) (A0_2 : Option Addr) (c0_2 : Nat) (l0_2 : List (S25)) (r1 : ByteArray) (r2 : List (S45)) (r3 : List (S25)) (w : World) (hs0_1 : Kd.V k45 45 w w.heap.size (fun k_ => P0_1_ k_) (.slice A0_1 l0_1.length c0_1) l0_1) (hs0_2 : Kd.V k25 25 w w.heap.size (fun k_ => P0_2_ k_) (.slice A0_2 l0_2.length c0_2) l0_2) (h : almanacref26_Cancelled.f k a0_0 l0_1 l0_2 = some (r1, r2, r3)) :
    Calls Try.prog 32 #[.agg #[.string a0_0, .slice A0_1 l0_1.length c0_1, .slice A0_2 l0_2.length c0_2]] w fun e w' => ∃ v1_ v2_ : Value, e = .returned (.agg #[.string r1, v1_, v2_]) ∧ Kd.V k45 45 w' w.heap.size (fun k_ => ((P0_1_ k_ ∨ P0_2_ k_) ∨ w.heap.size ≤ k_) ∧ some k_ ≠ (v2_ : Value).ownBlock) v1_ r2 ∧ Kd.N k25 25 w' w.heap.size (fun k_ => ((P0_1_ k_ ∨ P0_2_ k_) ∨ w.heap.size ≤ k_)) v2_ r3 ∧ Below w.heap.size w w' := by
  unfold almanacref26_Cancelled.f at h
  split at h
  case isFalse => cases h
  rename_i hc
  simp only [Bool.and_eq_true] at hc
  simp only [Option.some.injEq, Prod.mk.injEq] at h
  obtain ⟨rfl, rfl, rfl⟩ := h
  refine (rcancelled_walk k a0_0 A0_1 _ c0_1 P0_2_ A0_2 c0_2 l0_2 w hs0_2 hc.1 (fun x hx => rwithout_val k x.f1 _ (by have := (limO_at hc.1 x hx).1; omega) (roundsB_at hc.2 x hx))).mono ?_
  rintro e w' ⟨v, rfl, hn, hb⟩
  exact ⟨_, v, rfl, V_beside hs0_1 hb hn, Kd.N_mono hn (fun k hk => hk.imp (fun h => .inr h) id), hb⟩
end Go.Proofs.Ytebmbfobmakheaa.PD
namespace Go.Proofs.Ytebmbfobmakheaa.PD
open Go.RowKit Go.Proofs.YtebmbfobmakheaaW.PrintWords Go.Proofs.YtebmbfobmakheaaW.PrintLast Go.Proofs.YtebmbfobmakheaaW.PrintMore
attribute [local go_sem] isSome_setCell max2_int min2_int max_two min_two
set_option linter.unusedVariables false
set_option linter.unusedSimpArgs false
theorem results_box45 (f : Func) (n : Nat) (hf : f.results = [ResultVar.cell n 45].toArray) (tmps : Array Value) (w : World) (S : Nat) (s : ByteArray) (A1 : Option Addr) (n1 c1 : Nat) (t : ByteArray) (h2 : tmps.getD n undef = .pointer (some ⟨S, 0, none⟩)) (q : w.heap[S]? = some (.cells #[.string s, .slice A1 n1 c1, .string t] 45 (0, 0))) :
    (results f tmps).run Try.prog w = .ok (.agg #[.string s, .slice A1 n1 c1, .string t]) w := by
  have d0 := (blk_cell q 0).trans rfl
  have d1 := (blk_cell q 1).trans rfl
  have d2 := (blk_cell q 2).trans rfl
  unfold results
  rw [hf, List.mapM_toArray]
  simp only [Sem.run_bind, Sem.run_map, List.mapM_cons, List.mapM_nil, h2]
  simp [asAddr, loadVar, go_sem, d0, d1, d2, Try.underlying45]
theorem N_get77 {W : World} {base : Nat} {ok : Nat → Prop} {v : Value} {xs : List S77} (h : Kd.N k77 77 W base ok v xs) (i : Nat) (hi : i < xs.length) :
    ∃ g cap A1 c1, v = .slice (some ⟨g, 0, none⟩) xs.length cap ∧ W.cell? ⟨g, i * 2, none⟩ = some (.string xs[i].f0) ∧ W.cell? ⟨g, i * 2 + 1, none⟩ = some (.slice A1 xs[i].f1.length c1) ∧ (∀ j, W.frozen? ⟨g, j, none⟩ = false) ∧ base ≤ g ∧ g < W.heap.size := by
  obtain ⟨g, cap, rfl, hb, hlt, cells, hcl⟩ := Kd.N_form h (by omega)
  obtain ⟨c, hl, hK, hc, hf⟩ := Kd.N_elem h (⟨⟨#[]⟩, []⟩ : S77) (i : Int) (by omega) (by omega)
  have hg : xs.getD (i : Int).toNat (⟨⟨#[]⟩, []⟩ : S77) = xs[i] := by simp [hi]
  rw [hg] at hK
  rw [Int.toNat_natCast] at hc hf
  obtain ⟨A1, c1, rfl, l1, f1⟩ := k77_openF hK
  exact ⟨g, cap, A1, c1, rfl, hc 0 _ rfl, hc 1 _ rfl, fun j => blk_frozen hcl j, hb, hlt⟩
theorem param_end {w W7 : World} {P : Nat → Prop} {A5 : Option Addr} {n5 c5 : Nat} {s t : ByteArray} {y : List S77} (hn : Kd.N k77 77 W7 (w.heap.size + 2) (fun k => (P k ∧ k < w.heap.size) ∨ w.heap.size + 2 ≤ k) (.slice A5 n5 c5) y)
    (hR : W7.heap[w.heap.size + 1]? = some (.cells #[.string ⟨#[]⟩, .slice none 0 0, .string ⟨#[]⟩] 45 (0, 0))) (hb : Below w.heap.size w W7) :
    ((((W7.setCell ⟨w.heap.size, 1, none⟩ (.slice A5 n5 c5)).setCell ⟨w.heap.size + 1, 0, none⟩ (.string s)).setCell ⟨w.heap.size + 1, 1, none⟩ (.slice A5 n5 c5)).setCell ⟨w.heap.size + 1, 2, none⟩ (.string t)).heap[w.heap.size + 1]? = some (.cells #[.string s, .slice A5 n5 c5, .string t] 45 (0, 0)) ∧
    Kd.N k77 77 ((((W7.setCell ⟨w.heap.size, 1, none⟩ (.slice A5 n5 c5)).setCell ⟨w.heap.size + 1, 0, none⟩ (.string s)).setCell ⟨w.heap.size + 1, 1, none⟩ (.slice A5 n5 c5)).setCell ⟨w.heap.size + 1, 2, none⟩ (.string t)) (w.heap.size + 2) (fun k => (P k ∧ k < w.heap.size) ∨ w.heap.size + 2 ≤ k) (.slice A5 n5 c5) y ∧
    Below w.heap.size w ((((W7.setCell ⟨w.heap.size, 1, none⟩ (.slice A5 n5 c5)).setCell ⟨w.heap.size + 1, 0, none⟩ (.string s)).setCell ⟨w.heap.size + 1, 1, none⟩ (.slice A5 n5 c5)).setCell ⟨w.heap.size + 1, 2, none⟩ (.string t)) := by
  refine ⟨box3_at _ _ _ (blk_far (p := ⟨w.heap.size, 1, none⟩) hR (by simp) _), Kd.N_step hn (fun k hk _ => ?_), below_boxed (below_set hb (Nat.le_refl _)) (by omega) _ _ _⟩
  have h0 : k ≠ w.heap.size := by rcases hk with hk | hk <;> omega
  have h1 : k ≠ w.heap.size + 1 := by rcases hk with hk | hk <;> omega
  exact (((Below.heap_setCell _ _ _ k h1).trans (Below.heap_setCell _ _ _ k h1)).trans (Below.heap_setCell _ _ _ k h1)).trans (Below.heap_setCell _ _ _ k h0)
set_option maxRecDepth 100000 in
set_option maxHeartbeats 4000000 in
theorem param_walk (s t name value : ByteArray) (P : Nat → Prop) (A : Option Addr) (c : Nat) (l : List S77) (w : World) (hs : Kd.V k77 77 w w.heap.size P (.slice A l.length c) l) (hlim : l.length < 3518437208882) :
    Calls Try.prog 97 #[.agg #[.string s, .slice A l.length c, .string t], .string name, .string value] w fun e w' => ∃ v : Value, e = .returned (.agg #[.string s, v, .string t]) ∧ Kd.N k77 77 w' (w.heap.size + 2) (fun k => (P k ∧ k < w.heap.size) ∨ w.heap.size + 2 ≤ k) v (paramF name value l) ∧ Below w.heap.size w w' := by
  have HV := Aside0.mk hs
  have hml : l.length ≤ 9223372036854775807 := by omega
  clear hs
  go_enter Try.func97, Try.ntmps97
  go_wp2_with ((with_reducible refine gate_builtin (b := .append) (xs := #[.tmp 9, .tmp 11]) rfl ?_); refine Aside0.out ?_)
  refine ⟨?_⟩
  obtain ⟨W3, hW3⟩ : ∃ W3, (w.alloc (Obj.cells #[Value.string s, Value.slice A l.length c, Value.string t] 45)).alloc (Obj.cells #[Value.string { data := #[] }, Value.slice none 0 0, Value.string { data := #[] }] 45) = W3 := ⟨_, rfl⟩
  have hz3 : W3.heap.size = w.heap.size + 2 := by rw [← hW3]; simp
  have hb3 : Below w.heap.size w W3 := by rw [← hW3]; exact below_alloc (below_alloc (Below.refl _ _) _) _
  have kC : W3.heap[w.heap.size]? = some (.cells #[.string s, .slice A l.length c, .string t] 45 (0, 0)) := by rw [← hW3]; exact blk_alloc (alloc_at rfl) _
  have kR : W3.heap[w.heap.size + 1]? = some (.cells #[.string ⟨#[]⟩, .slice none 0 0, .string ⟨#[]⟩] 45 (0, 0)) := by rw [← hW3]; exact alloc_at (by simp)
  rw [hW3]
  clear hW3
  at_builtin
  refine Kd.N_append_rows k77 (w0 := W3) W3.heap.size rfl (.tmp 9) (.tmp 11) 43 77 (.agg #[(.string ⟨#[]⟩), (.slice none 0 0)]) 40 rfl Try.underlying43 info77 rfl (by decide) (by omega) (.slice none 0 0) [] l A l.length c (fun k => (P k ∧ k < w.heap.size) ∨ w.heap.size + 2 ≤ k) (fun k => P k ∧ k < w.heap.size) rfl rfl (Kd.N_nil _ _ _ _ _) (Kd.V_F (Kd.V_below (Kd.V_bound HV.out) hb3)) (fun k hk => ⟨.inl hk, by simp [Value.ownBlock]⟩) (fun k hk => .inr (by omega)) (Below.refl _ _) (Nat.le_refl _) (by simp; omega) ?_
  intro v5 w5 hn5 hb5 hg5 hat5
  rw [List.nil_append, hz3] at hn5
  obtain ⟨A5, c5, rfl⟩ := Kd.N_slice hn5
  have HC5 := Aside0.mk (blk_below kC hb5)
  have HR5 := Aside0.mk (blk_below kR hb5)
  have HN5 := Aside0.mk hn5
  have hb5s := hb5.size
  have HB5 := Aside0.mk (hb3.trans (hb5.mono (by omega)))
  clear hn5 hb5 hb3 kC kR hat5 hg5
  go_wp2
  go_loopw [8] (fun v wr => ∃ k : Nat, v = .int .i64 k ∧ k ≤ l.length ∧ Aside0 (∀ j, (hj : j < l.length) → j < k → (l[j].f0.toList == name.toList) = false) ∧ wr = w5) (fun v _ => l.length - (intOf v).toNat)
  case atStart => exact ⟨0, rfl, Nat.zero_le _, ⟨fun j _ hj => absurd hj (Nat.not_lt_zero _)⟩, rfl⟩
  case round =>
    obtain ⟨k, rfl, hk, hno, rfl⟩ := hrel
    by_cases hlt : k < l.length
    · have hlt0 : decide ((k : Int) < (l.length : Int)) = true := decide_eq_true (by omega)
      obtain ⟨q, cap, A1, c1, ev, e0, e1, hfz, hqb, hql⟩ := N_get77 HN5.out k hlt
      injection ev with eA _ ecv
      subst eA
      subst ecv
      obtain ⟨x, ex⟩ : ∃ x, l[k] = x := ⟨_, rfl⟩
      rw [ex] at e0 e1
      have EX := Aside0.mk ex
      have y2 := hfz (k * 2)
      have y3 := hfz (k * 2 + 1)
      clear ex hfz
      cases hnm : (x.f0.toList == name.toList) with
      | false =>
        have q4 : (x.f0.toList = name.toList) = False := eq_false (beq_eq_false_iff_ne.1 hnm)
        go_wp2
        refine ⟨⟨k + 1, by simp, hlt, ⟨fun j hj hjk => ?_⟩, trivial⟩, by show l.length - ((k : Int) + 1).toNat < l.length - (k : Int).toNat; omega⟩
        rcases Nat.lt_or_ge j k with h | h
        · exact hno.out j hj h
        · obtain rfl : j = k := by omega
          rw [EX.out]; exact hnm
      | true =>
        have q4 : (x.f0.toList = name.toList) = True := eq_true (beq_iff_eq.1 hnm)
        have hpf := Aside0.mk (show paramF name value l = l.set k ⟨name, [value]⟩ by unfold paramF; rw [idxP_at _ l k hlt (by rw [EX.out]; exact hnm) (fun j hj => hno.out j (by omega) hj), if_pos (by omega), Int.toNat_natCast])
        go_wp2_with ((with_reducible refine gate_dst (N := 30) rfl ?_); refine Kd.event_run (v := .slice (some ⟨wr.heap.size, 0, none⟩) 1 1) (w1 := wr.alloc (.cells #[.string value] 9)) rfl (by first | (go_simp; done) | (go_simp; rfl)) ?_; refine Aside0.out ?_)
        refine ⟨?_⟩
        obtain ⟨W6, hW6⟩ : ∃ W6, wr.alloc (.cells #[.string value] 9) = W6 := ⟨_, rfl⟩
        have hb6 : Below wr.heap.size wr W6 := by rw [← hW6]; exact below_alloc (Below.refl _ _) _
        have HC6 := Aside0.mk (blk_below HC5.out hb6)
        have HR6 := Aside0.mk (blk_below HR5.out hb6)
        have HN6 := Aside0.mk (Kd.N_below HN5.out hb6)
        have HV6 := Aside0.mk (show W6.heap[wr.heap.size]? = some (.cells #[.string value] 9 (0, 0)) by rw [← hW6]; exact alloc_at rfl)
        rw [hW6]
        clear hW6
        have HB6 := Aside0.mk (HB5.out.trans (hb6.mono (by omega)))
        have z0 : W6.cell? ⟨q, k * 2, none⟩ = some (.string x.f0) := (hb6.cell hql).trans e0
        have z1 : W6.cell? ⟨q, k * 2 + 1, none⟩ = some (.slice A1 x.f1.length c1) := (hb6.cell hql).trans e1
        have z2 : W6.frozen? ⟨q, k * 2, none⟩ = false := by
          obtain ⟨cells, hcl⟩ := Kd.N_typed HN6.out q rfl
          exact blk_frozen hcl _
        have z3 : W6.frozen? ⟨q, k * 2 + 1, none⟩ = false := by
          obtain ⟨cells, hcl⟩ := Kd.N_typed HN6.out q rfl
          exact blk_frozen hcl _
        have c0 : W6.cell? ⟨w.heap.size, 0, none⟩ = some (.string s) := (blk_cell HC6.out 0).trans rfl
        have c1' : W6.cell? ⟨w.heap.size, 1, none⟩ = some (.slice A l.length c) := (blk_cell HC6.out 1).trans rfl
        have c2' : W6.cell? ⟨w.heap.size, 2, none⟩ = some (.string t) := (blk_cell HC6.out 2).trans rfl
        have c3' : W6.frozen? ⟨w.heap.size, 1, none⟩ = false := blk_frozen HC6.out 1
        have r0 : W6.cell? ⟨w.heap.size + 1, 0, none⟩ = some (.string ⟨#[]⟩) := (blk_cell HR6.out 0).trans rfl
        have r1 : W6.cell? ⟨w.heap.size + 1, 1, none⟩ = some (.slice none 0 0) := (blk_cell HR6.out 1).trans rfl
        have r2 : W6.cell? ⟨w.heap.size + 1, 2, none⟩ = some (.string ⟨#[]⟩) := (blk_cell HR6.out 2).trans rfl
        have t0 : W6.frozen? ⟨w.heap.size + 1, 0, none⟩ = false := blk_frozen HR6.out 0
        have t1 : W6.frozen? ⟨w.heap.size + 1, 1, none⟩ = false := blk_frozen HR6.out 1
        have t2 : W6.frozen? ⟨w.heap.size + 1, 2, none⟩ = false := blk_frozen HR6.out 2
        clear hb6 y2 y3
        have n1 : w.heap.size ≠ q := by omega
        have n2 : q ≠ w.heap.size := by omega
        have n3 : w.heap.size + 1 ≠ q := by omega
        have n4 : q ≠ w.heap.size + 1 := by omega
        obtain ⟨hn7, hg7⟩ := N_put77 HN6.out k hlt (⟨name, [value]⟩ : S77) (some ⟨wr.heap.size, 0, none⟩) 1 (Nat.le_refl _) (Kd.F_mono (F_one HV6.out) (fun k' hk' => ⟨.inr (by omega), by omega⟩))
        rw [show (⟨name, [value]⟩ : S77).f1.length = 1 from rfl, show (⟨name, [value]⟩ : S77).f0 = name from rfl] at hn7 hg7
        have hR7 := (hg7.block (w.heap.size + 1) (Array.getElem?_eq_some_iff.1 HR6.out).1 (fun e => n3 (by injection e))).trans HR6.out
        have hb7 := HB6.out.trans (below_gb hg7 HB6.out.size (by omega))
        obtain ⟨E1, E2, E3⟩ := param_end (s := s) (t := t) (A5 := some ⟨q, 0, none⟩) (n5 := l.length) (c5 := c5) hn7 hR7 hb7
        have HE1 := Aside0.mk E1
        have HE2 := Aside0.mk E2
        have HE3 := Aside0.mk E3
        clear E1 E2 E3 hn7 hg7 hR7 hb7
        go_wp2
        refine bodyPost_ret (results_box45 _ 6 rfl _ _ (w.heap.size + 1) s (some ⟨q, 0, none⟩) l.length c5 t rfl HE1.out) rfl ?_
        exact ⟨_, rfl, by rw [hpf.out]; exact HE2.out, HE3.out⟩
    · have hlt0 : decide ((k : Int) < (l.length : Int)) = false := decide_eq_false (by omega)
      have hpf := Aside0.mk (show paramF name value l = l ++ [⟨name, [value]⟩] by unfold paramF; rw [idxP_none _ l (fun j hj => hno.out j hj (by omega)), if_neg (by omega)])
      go_wp2_with ((with_reducible refine gate_builtin (b := .append) (xs := #[.tmp 36, .tmp 41]) rfl ?_); refine Aside0.out ?_)
      refine ⟨?_⟩
      obtain ⟨W6, hW6⟩ : ∃ W6, wr.alloc (.cells #[.string value] 9) = W6 := ⟨_, rfl⟩
      have hb6 : Below wr.heap.size wr W6 := by rw [← hW6]; exact below_alloc (Below.refl _ _) _
      have hz6 : W6.heap.size = wr.heap.size + 1 := by rw [← hW6]; simp
      have HV6 := Aside0.mk (show W6.heap[wr.heap.size]? = some (.cells #[.string value] 9 (0, 0)) by rw [← hW6]; exact alloc_at rfl)
      have HN6 := Aside0.mk (Kd.N_below HN5.out hb6)
      obtain ⟨y, hy⟩ : ∃ y, l ++ [(⟨name, [value]⟩ : S77)] = y := ⟨_, rfl⟩
      have HY := Aside0.mk hy
      rw [hy] at hpf
      clear hy
      rw [hW6]
      clear hW6
      at_builtin
      refine Kd.N_append k77 (w0 := wr) (w.heap.size + 2) rfl (.tmp 36) (.tmp 41) 43 77 (.agg #[(.string ⟨#[]⟩), (.slice none 0 0)]) 40 rfl Try.underlying43 info77 rfl (by decide) (by omega) (.slice A5 l.length c5) l (⟨name, [value]⟩ : S77) [.string name, .slice (some ⟨wr.heap.size, 0, none⟩) 1 1] (fun k => (P k ∧ k < w.heap.size) ∨ w.heap.size + 2 ≤ k) (fun q => q = wr.heap.size) rfl (by first | (go_simp; done) | (go_simp; rfl)) ?aP ?aQ ?aF ?aO ?aB ?aS ?aL ?_
      case aP => exact k77_mkF _ _ (⟨name, [value]⟩ : S77) (Nat.le_refl _) (F_one HV6.out)
      case aQ => rintro q rfl; exact ⟨.inr (by omega), fun e => by have := Kd.N_lt HN5.out _ e.symm; omega⟩
      case aF => exact fun q hq => .inr (by omega)
      case aO => exact HN6.out
      case aB => exact hb6.mono (by omega)
      case aS => omega
      case aL => omega
      intro v9 w9 hn9 hb9 hg9 hat9
      rw [HY.out] at hn9
      obtain ⟨A9, c9, rfl⟩ := Kd.N_slice hn9
      have hC9 := (hb9.block w.heap.size (by omega)).trans HC5.out
      have hR9 := (hb9.block (w.heap.size + 1) (by omega)).trans HR5.out
      have c0 : w9.cell? ⟨w.heap.size, 0, none⟩ = some (.string s) := (blk_cell hC9 0).trans rfl
      have c1' : w9.cell? ⟨w.heap.size, 1, none⟩ = some (.slice A l.length c) := (blk_cell hC9 1).trans rfl
      have c2' : w9.cell? ⟨w.heap.size, 2, none⟩ = some (.string t) := (blk_cell hC9 2).trans rfl
      have c3' : w9.frozen? ⟨w.heap.size, 1, none⟩ = false := blk_frozen hC9 1
      have r0 : w9.cell? ⟨w.heap.size + 1, 0, none⟩ = some (.string ⟨#[]⟩) := (blk_cell hR9 0).trans rfl
      have r1 : w9.cell? ⟨w.heap.size + 1, 1, none⟩ = some (.slice none 0 0) := (blk_cell hR9 1).trans rfl
      have r2 : w9.cell? ⟨w.heap.size + 1, 2, none⟩ = some (.string ⟨#[]⟩) := (blk_cell hR9 2).trans rfl
      have t0 : w9.frozen? ⟨w.heap.size + 1, 0, none⟩ = false := blk_frozen hR9 0
      have t1 : w9.frozen? ⟨w.heap.size + 1, 1, none⟩ = false := blk_frozen hR9 1
      have t2 : w9.frozen? ⟨w.heap.size + 1, 2, none⟩ = false := blk_frozen hR9 2
      obtain ⟨E1, E2, E3⟩ := param_end (s := s) (t := t) hn9 hR9 (HB5.out.trans (hb9.mono (by omega)))
      have HE1 := Aside0.mk E1
      have HE2 := Aside0.mk E2
      have HE3 := Aside0.mk E3
      clear E1 E2 E3 hn9 hb9 hg9 hat9 hC9 hR9
      go_wp2
      refine bodyPost_ret (results_box45 _ 6 rfl _ _ (w.heap.size + 1) s A9 y.length c9 t rfl HE1.out) rfl ?_
      exact ⟨_, rfl, by rw [hpf.out]; exact HE2.out, HE3.out⟩
end Go.Proofs.Ytebmbfobmakheaa.PD
namespace Go.Proofs.Ytebmbfobmakheaa.PD
open Go.RowKit Go.Shelf Go.Proofs.YtebmbfobmakheaaW.PrintWords Go.Proofs.YtebmbfobmakheaaW.PrintLast Go.Proofs.YtebmbfobmakheaaW.PrintMore
attribute [local go_sem] isSome_setCell
set_option linter.unusedVariables false
set_option linter.unusedSimpArgs false
set_option maxRecDepth 100000 in
set_option maxHeartbeats 1600000 in
theorem mk_calls (n v : ByteArray) (w : World) : Calls Try.prog 34 #[.string n, .string v] w fun e w' => e = .returned (.agg #[.string n, .slice none 0 0, .string v]) ∧ Below w.heap.size w w' := by
  have hu45 := Try.underlying45
  go_enter Try.func34, Try.ntmps34
  go_wp2
  refine bodyPost_ret (results_box45 _ 4 rfl _ _ w.heap.size n none 0 0 v rfl (alloc_at rfl)) rfl ?_
  exact ⟨rfl, below_alloc (Below.refl _ _) _⟩
structure Ex (w : World) (gc : Nat) (A : Option Addr) (cp : Nat) (W : World) : Prop where
  blk : W.heap[gc]? = some (.cells #[.string sCal, .slice none 0 0, .slice A 1 cp] 25 (0, 0))
  C : Kd.C k25 W A 1 cComps
theorem Ex.below {w : World} {gc : Nat} {A : Option Addr} {cp : Nat} {W W' : World} (h : Ex w gc A cp W) (hb : Below W.heap.size W W') : Ex w gc A cp W' := ⟨blk_below h.blk hb, Kd.C_below h.C hb⟩
theorem ex_read {W : World} {p q : Nat} (hp : W.heap[p]? = some (.cells #[.string sOrg, .slice none 0 0, .string smU, .string sAtt, .slice none 0 0, .string smV, .string sDts, .slice none 0 0, .string sDay] 45 (0, 0)))
    (hq : W.heap[q]? = some (.cells #[.string sEv, .slice (some ⟨p, 0, none⟩) 3 3, .slice none 0 0] 25 (0, 0))) : Kd.C k25 W (some ⟨q, 0, none⟩) 1 cComps := by
  have hP : Kd.C k45 W (some ⟨p, 0, none⟩) 3 cProps := by
    refine ⟨rfl, by simp, fun _ => ⟨_, rfl, fun j x hj => ?_⟩⟩
    rcases j with _ | _ | _ | j
    · simp at hj; subst hj
      refine ⟨[.string sOrg, .slice none 0 0, .string smU], rfl, k45_mk W (⟨sOrg, [], smU⟩ : S45) (Nat.le_refl _) (Kd.C_nil _ _), fun i u hu => ?_⟩
      rcases i with _ | _ | _ | i <;> simp at hu <;> subst hu <;> first | exact (blk_cell hp 0).trans rfl | exact (blk_cell hp 1).trans rfl | exact (blk_cell hp 2).trans rfl
    · simp at hj; subst hj
      refine ⟨[.string sAtt, .slice none 0 0, .string smV], rfl, k45_mk W (⟨sAtt, [], smV⟩ : S45) (Nat.le_refl _) (Kd.C_nil _ _), fun i u hu => ?_⟩
      rcases i with _ | _ | _ | i <;> simp at hu <;> subst hu <;> first | exact (blk_cell hp 3).trans rfl | exact (blk_cell hp 4).trans rfl | exact (blk_cell hp 5).trans rfl
    · simp at hj; subst hj
      refine ⟨[.string sDts, .slice none 0 0, .string sDay], rfl, k45_mk W (⟨sDts, [], sDay⟩ : S45) (Nat.le_refl _) (Kd.C_nil _ _), fun i u hu => ?_⟩
      rcases i with _ | _ | _ | i <;> simp at hu <;> subst hu <;> first | exact (blk_cell hp 6).trans rfl | exact (blk_cell hp 7).trans rfl | exact (blk_cell hp 8).trans rfl
    · simp at hj
  refine ⟨rfl, by simp, fun _ => ⟨_, rfl, fun j x hj => ?_⟩⟩
  rcases j with _ | j
  · simp at hj; subst hj
    refine ⟨[.string sEv, .slice (some ⟨p, 0, none⟩) 3 3, .slice none 0 0], rfl, k25_mk W (⟨sEv, cProps, []⟩ : S25) (Nat.le_refl _) hP (Nat.le_refl _) (Kd.C_nil _ _), fun i u hu => ?_⟩
    rcases i with _ | _ | _ | i <;> simp at hu <;> subst hu <;> first | exact (blk_cell hq 0).trans rfl | exact (blk_cell hq 1).trans rfl | exact (blk_cell hq 2).trans rfl
  · simp at hj
structure Es (w : World) (gc gd : Nat) (Aq A1 A2 : Option Addr) (c1 c2 : Nat) (W : World) : Prop where
  c : W.heap[gc]? = some (.cells #[.string sCal, .slice none 0 0, .slice Aq 1 1] 25 (0, 0))
  C : Kd.C k25 W Aq cComps.length cComps
  d : W.heap[gd]? = some (.cells #[.string sCal, .slice A1 0 c1, .slice A2 1 c2] 25 (0, 0))
  D : Kd.C k25 W A2 dComps.length dComps
  N : Kd.C k45 W A1 0 []
  B : Below w.heap.size w W
theorem Es.below {w : World} {gc gd : Nat} {Aq A1 A2 : Option Addr} {c1 c2 : Nat} {W W' : World} (h : Es w gc gd Aq A1 A2 c1 c2 W) (hb : Below W.heap.size W W') : Es w gc gd Aq A1 A2 c1 c2 W' := ⟨blk_below h.c hb, Kd.C_below h.C hb, blk_below h.d hb, Kd.C_below h.D hb, Kd.C_below h.N hb, below_step h.B hb⟩
abbrev Sx (gc gd : Nat) (Aq A1 A2 : Option Addr) (c1 c2 : Nat) (w' : World) : Prop := w'.cell? ⟨gc, 0, none⟩ = some (.string sCal) ∧ w'.cell? ⟨gc, 1, none⟩ = some (.slice none 0 0) ∧ w'.cell? ⟨gc, 2, none⟩ = some (.slice Aq 1 1) ∧ w'.cell? ⟨gd, 0, none⟩ = some (.string sCal) ∧ w'.cell? ⟨gd, 1, none⟩ = some (.slice A1 0 c1) ∧ w'.cell? ⟨gd, 2, none⟩ = some (.slice A2 1 c2)
theorem Es.held {w : World} {gc gd : Nat} {Aq A1 A2 : Option Addr} {c1 c2 : Nat} {W : World} (h : Es w gc gd Aq A1 A2 c1 c2 W) : Sx gc gd Aq A1 A2 c1 c2 W := ⟨(blk_cell h.c 0).trans rfl, (blk_cell h.c 1).trans rfl, (blk_cell h.c 2).trans rfl, (blk_cell h.d 0).trans rfl, (blk_cell h.d 1).trans rfl, (blk_cell h.d 2).trans rfl⟩
theorem field_25_1 (a b c : Value) (w : World) : (Instr.field 25 (.agg #[a, b, c]) 1).run Try.prog w = .ok b w := by kernel_rfl
attribute [local go_sem] field_25_1
def almanaclaw26_awake.f : Option Bool := some true
set_option maxRecDepth 100000 in
set_option maxHeartbeats 8000000 in
theorem almanaclaw26_awake.calls (r : Bool) (w : World) (h : almanaclaw26_awake.f = some r) : Calls Try.prog 7 #[] w fun e w' => e = .returned (.bool r) ∧ Below w.heap.size w w' := by
  obtain rfl : true = r := Option.some.inj h
  clear h
  have hu25 := Try.underlying25
  have hu45 := Try.underlying45
  have HB := Aside0.mk (Below.refl w.heap.size w)
  go_enter Try.func7, Try.ntmps7
  go_wp2_with (go_at_call 8; refine Aside0.out ?_)
  refine ⟨?_⟩
  refine (itip_User.calls 1 sMU _ _ _ pu1).mono ?_
  rintro e w1 ⟨rfl, hb⟩
  replace HB := Aside0.mk (below_step HB.out hb)
  clear hb
  go_wp2_with (go_at_call 8; refine Aside0.out ?_)
  refine ⟨?_⟩
  refine (itip_User.calls 1 sAB _ _ _ pu2).mono ?_
  rintro e w2 ⟨rfl, hb⟩
  replace HB := Aside0.mk (below_step HB.out hb)
  clear hb
  go_wp2_with (go_at_call 34; refine Aside0.out ?_)
  refine ⟨?_⟩
  refine (mk_calls sOrg smU _).mono ?_
  rintro e w3 ⟨rfl, hb⟩
  replace HB := Aside0.mk (below_step HB.out hb)
  clear hb
  go_wp2_with (go_at_call 34; refine Aside0.out ?_)
  refine ⟨?_⟩
  refine (mk_calls sAtt smV _).mono ?_
  rintro e w4 ⟨rfl, hb⟩
  replace HB := Aside0.mk (below_step HB.out hb)
  clear hb
  go_wp2_with (go_at_call 34; refine Aside0.out ?_)
  refine ⟨?_⟩
  refine (mk_calls sDts sDay _).mono ?_
  rintro e w5 ⟨rfl, hb⟩
  replace HB := Aside0.mk (below_step HB.out hb)
  clear hb
  go_wp2_with (go_at_call 19; refine Aside0.out ?_)
  refine ⟨?_⟩
  obtain ⟨W8, hW8⟩ : ∃ W8, ((w5.alloc (Obj.cells #[Value.string sOrg, Value.slice none 0 0, Value.string smU, Value.string sAtt, Value.slice none 0 0, Value.string smV, Value.string sDts, Value.slice none 0 0, Value.string sDay] 45)).alloc (Obj.cells #[Value.string sEv, Value.slice (some ⟨w5.heap.size, 0, none⟩) 3 3, Value.slice none 0 0] 25)).alloc (Obj.cells #[Value.string sCal, Value.slice none 0 0, Value.slice (some ⟨w5.heap.size + 1, 0, none⟩) 1 1] 25) = W8 := ⟨_, rfl⟩
  have kp : W8.heap[w5.heap.size]? = some (.cells #[.string sOrg, .slice none 0 0, .string smU, .string sAtt, .slice none 0 0, .string smV, .string sDts, .slice none 0 0, .string sDay] 45 (0, 0)) := by rw [← hW8]; exact blk_alloc (blk_alloc (alloc_at rfl) _) _
  have kq : W8.heap[w5.heap.size + 1]? = some (.cells #[.string sEv, .slice (some ⟨w5.heap.size, 0, none⟩) 3 3, .slice none 0 0] 25 (0, 0)) := by rw [← hW8]; exact blk_alloc (alloc_at (by simp)) _
  have kc : W8.heap[w5.heap.size + 1 + 1]? = some (.cells #[.string sCal, .slice none 0 0, .slice (some ⟨w5.heap.size + 1, 0, none⟩) 1 1] 25 (0, 0)) := by rw [← hW8]; exact alloc_at (by simp)
  have kB : Below w.heap.size w W8 := by rw [← hW8]; exact below_alloc (below_alloc (below_alloc HB.out _) _) _
  have kC := ex_read kp kq
  rw [hW8]
  clear hW8 kp kq HB
  obtain ⟨gc, hgc⟩ : ∃ g, w5.heap.size + 1 + 1 = g := ⟨_, rfl⟩
  obtain ⟨Aq, hAq⟩ : ∃ A : Option Addr, some ⟨w5.heap.size + 1, 0, none⟩ = A := ⟨_, rfl⟩
  rw [hgc, hAq] at kc
  rw [hAq] at kC
  rw [hgc, hAq]
  clear hgc hAq
  refine (itip_SetStatus.calls 0 sCal (fun _ => False) none 0 [] (fun k => k < W8.heap.size) Aq 1 cComps sMV sAcc sCal [] dComps W8 (Kd.V_nil _ _ _ _ _) (Kd.V_mk (Nat.le_refl _) (Kd.C_F k25_heap kC)) pset).mono ?_
  rintro e w9 ⟨v1, v2, rfl, hv1, hn2, hb9⟩
  obtain ⟨A1, c1, rfl⟩ := Kd.V_slice hv1
  obtain ⟨A2, c2, rfl⟩ := Kd.N_slice hn2
  have HES := Aside0.mk (show Es w gc w9.heap.size Aq A1 A2 c1 c2 (w9.alloc (.cells #[.string sCal, .slice A1 0 c1, .slice A2 1 c2] 25)) from ⟨blk_alloc (blk_below kc hb9) _, Kd.C_alloc (Kd.C_below kC hb9) _, alloc_at rfl, Kd.C_alloc (Kd.N_reads' hn2).2.2 _, Kd.C_alloc (Kd.V_reads' hv1).2.2 _, below_alloc (kB.trans (hb9.mono kB.size)) _⟩)
  have hc2 : 1 ≤ c2 := (Kd.N_reads' hn2).2.1
  have m0 : w9.cell? ⟨gc, 0, none⟩ = some (.string sCal) := (blk_cell (blk_below kc hb9) 0).trans rfl
  clear hv1 hn2 hb9 kc kC kB
  go_wp2
  obtain ⟨gd, hgd⟩ : ∃ g, w9.heap.size = g := ⟨_, rfl⟩
  rw [hgd] at HES ⊢
  clear hgd m0
  obtain ⟨x0, hx0⟩ : ∃ x, w9.alloc (.cells #[.string sCal, .slice A1 0 c1, .slice A2 1 c2] 25) = x := ⟨_, rfl⟩
  try rw [hx0] at HES ⊢
  clear hx0
  replace HES := Aside0.mk (HES.out.below (below_drew (Below.refl _ _)))
  refine start_ (n := 44) (S := Sx gc gd Aq A1 A2 c1 c2) (ds := []) #[false, false, false, false, false, false, false, false, false, false, false, false, false, false, false, false, false, false, false, false, false, false, false, false, false, false, false, false, false, false, false, false, false, false, false, false, false, false, false, false, false, false, false, false] (by kernel_rfl) rfl rfl HES.out.held (fun hHeld => ?_)
  refine pure_ (i := 0) (N := some 28) (v := ?_) (a' := ?_) #[true, false, false, false, false, false, false, false, false, false, false, false, false, false, false, false, false, false, false, false, false, false, false, false, false, false, false, false, false, false, false, false, false, false, false, false, false, false, false, false, false, false, false, false] rfl rfl (by kernel_rfl) (fun _ _ _ h => h) (Or.inl ⟨by rfl, ?_⟩) ?_ ?_
  rotate_left
  · intro w'
    go_simp
    with_reducible rfl
  rotate_left
  · simp only [Act.put, List.setIfInBounds_toArray, List.set_cons_zero, List.set_cons_succ, i64_w, i32_w]
    rfl
  refine pure_ (i := 1) (N := some 29) (v := .bool true) (a' := ?_) #[true, true, false, false, false, false, false, false, false, false, false, false, false, false, false, false, false, false, false, false, false, false, false, false, false, false, false, false, false, false, false, false, false, false, false, false, false, false, false, false, false, false, false, false] rfl rfl (by kernel_rfl) (fun _ _ _ h => h) (Or.inl ⟨by rfl, fun w' => by first | kernel_rfl | (go_simp; done) | (go_simp; with_reducible rfl)⟩) ?_ ?_
  rotate_left
  · simp only [Act.put, List.setIfInBounds_toArray, List.set_cons_zero, List.set_cons_succ, i64_w, i32_w]
    rfl
  refine pure_ (i := 2) (N := some 30) (v := ?_) (a' := ?_) #[true, true, true, false, false, false, false, false, false, false, false, false, false, false, false, false, false, false, false, false, false, false, false, false, false, false, false, false, false, false, false, false, false, false, false, false, false, false, false, false, false, false, false, false] rfl rfl (by kernel_rfl) (fun _ _ _ h => h) (Or.inl ⟨by rfl, ?_⟩) ?_ ?_
  rotate_left
  · intro w'
    go_simp
    with_reducible rfl
  rotate_left
  · simp only [Act.put, List.setIfInBounds_toArray, List.set_cons_zero, List.set_cons_succ, i64_w, i32_w]
    rfl
  refine pure_ (i := 3) (N := some 31) (v := ?_) (a' := ?_) #[true, true, true, true, false, false, false, false, false, false, false, false, false, false, false, false, false, false, false, false, false, false, false, false, false, false, false, false, false, false, false, false, false, false, false, false, false, false, false, false, false, false, false, false] rfl rfl (by kernel_rfl) (fun _ _ _ h => h) (Or.inl ⟨by rfl, ?_⟩) ?_ ?_
  rotate_left
  · intro w'
    go_simp
    with_reducible rfl
  rotate_left
  · simp only [Act.put, List.setIfInBounds_toArray, List.set_cons_zero, List.set_cons_succ, i64_w, i32_w]
    rfl
  refine pure_ (i := 4) (N := some 32) (v := ?_) (a' := ?_) #[true, true, true, true, true, false, false, false, false, false, false, false, false, false, false, false, false, false, false, false, false, false, false, false, false, false, false, false, false, false, false, false, false, false, false, false, false, false, false, false, false, false, false, false] rfl rfl (by kernel_rfl) (fun _ _ _ h => h) (Or.inl ⟨by rfl, ?_⟩) ?_ ?_
  rotate_left
  · intro w'
    go_simp
    with_reducible rfl
  rotate_left
  · simp only [Act.put, List.setIfInBounds_toArray, List.set_cons_zero, List.set_cons_succ, i64_w, i32_w]
    rfl
  refine pure_ (i := 5) (N := some 33) (v := ?_) (a' := ?_) #[true, true, true, true, true, true, false, false, false, false, false, false, false, false, false, false, false, false, false, false, false, false, false, false, false, false, false, false, false, false, false, false, false, false, false, false, false, false, false, false, false, false, false, false] rfl rfl (by kernel_rfl) (fun _ _ _ h => h) (Or.inl ⟨by rfl, ?_⟩) ?_ ?_
  rotate_left
  · intro w'
    go_simp
    with_reducible rfl
  rotate_left
  · simp only [Act.put, List.setIfInBounds_toArray, List.set_cons_zero, List.set_cons_succ, i64_w, i32_w]
    rfl
  refine pure_ (i := 6) (N := some 34) (v := ?_) (a' := ?_) #[true, true, true, true, true, true, true, false, false, false, false, false, false, false, false, false, false, false, false, false, false, false, false, false, false, false, false, false, false, false, false, false, false, false, false, false, false, false, false, false, false, false, false, false] rfl rfl (by kernel_rfl) (fun _ _ _ h => h) (Or.inl ⟨by rfl, ?_⟩) ?_ ?_
  rotate_left
  · intro w'
    go_simp
    with_reducible rfl
  rotate_left
  · simp only [Act.put, List.setIfInBounds_toArray, List.set_cons_zero, List.set_cons_succ, i64_w, i32_w]
    rfl
  refine pure_ (i := 7) (N := some 35) (v := ?_) (a' := ?_) #[true, true, true, true, true, true, true, true, false, false, false, false, false, false, false, false, false, false, false, false, false, false, false, false, false, false, false, false, false, false, false, false, false, false, false, false, false, false, false, false, false, false, false, false] rfl rfl (by kernel_rfl) (fun _ _ _ h => h) (Or.inl ⟨by rfl, ?_⟩) ?_ ?_
  rotate_left
  · intro w'
    go_simp
    with_reducible rfl
  rotate_left
  · simp only [Act.put, List.setIfInBounds_toArray, List.set_cons_zero, List.set_cons_succ, i64_w, i32_w]
    rfl
  refine pure_ (i := 8) (N := some 36) (v := ?_) (a' := ?_) #[true, true, true, true, true, true, true, true, true, false, false, false, false, false, false, false, false, false, false, false, false, false, false, false, false, false, false, false, false, false, false, false, false, false, false, false, false, false, false, false, false, false, false, false] rfl rfl (by kernel_rfl) (fun _ _ _ h => h) (Or.inl ⟨by rfl, ?_⟩) ?_ ?_
  rotate_left
  · intro w'
    go_simp
    with_reducible rfl
  rotate_left
  · simp only [Act.put, List.setIfInBounds_toArray, List.set_cons_zero, List.set_cons_succ, i64_w, i32_w]
    rfl
  refine pure_ (i := 9) (N := some 37) (v := ?_) (a' := ?_) #[true, true, true, true, true, true, true, true, true, true, false, false, false, false, false, false, false, false, false, false, false, false, false, false, false, false, false, false, false, false, false, false, false, false, false, false, false, false, false, false, false, false, false, false] rfl rfl (by kernel_rfl) (fun _ _ _ h => h) (Or.inl ⟨by rfl, ?_⟩) ?_ ?_
  rotate_left
  · intro w'
    go_simp
    with_reducible rfl
  rotate_left
  · simp only [Act.put, List.setIfInBounds_toArray, List.set_cons_zero, List.set_cons_succ, i64_w, i32_w]
    rfl
  refine take_ (i := 10) (N := some 38) (v := ?_) (a' := ?_) #[true, true, true, true, true, true, true, true, true, true, true, false, false, false, false, false, false, false, false, false, false, false, false, false, false, false, false, false, false, false, false, false, false, false, false, false, false, false, false, false, false, false, false, false] rfl rfl (by kernel_rfl) (fun _ _ _ h => h) (Or.inl ⟨by rfl, ?_⟩) hHeld ?_ ?_
  rotate_left
  · rintro w' ⟨s0, s1, s2, s3, s4, s5⟩
    go_simp
    with_reducible rfl
  rotate_left
  · simp only [Act.put, List.setIfInBounds_toArray, List.set_cons_zero, List.set_cons_succ, i64_w, i32_w]
    rfl
  refine one_ (i := 11) (N := some 39) #[true, true, true, true, true, true, true, true, true, true, true, true, false, false, false, false, false, false, false, false, false, false, false, false, false, false, false, false, false, false, false, false, false, false, false, false, false, false, false, false, false, false, false, false] rfl rfl (by kernel_rfl) (by decide) (fun K hK => ?_)
  refine goes_ Try.func12 (by kernel_rfl) rfl #[.agg #[.string sCal, .slice none 0 0, .slice Aq 1 1]] (by rfl) rfl rfl (by (try simp only [List.map_toArray, List.map_cons, List.map_nil]); first | done | rfl) ?_
  refine (itip_Organizer.calls 0 sCal none 0 [] Aq 1 cComps smU _ (Kd.C_nil _ _) (Nat.le_refl _) HES.out.C (Nat.le_refl _) porg).mono ?_
  rintro e x1 ⟨rfl, hb⟩
  refine ⟨_, rfl, ?_⟩
  replace HES := Aside0.mk (HES.out.below hb)
  clear hb
  refine hK.out _ _ (HES.out.held) (fun hHeld => ?_)
  clear hK K
  refine norm_ (a' := ?_) ?_ ?_
  rotate_left
  · show Act.put _ (some 39) _ = _
    simp only [Act.put, List.setIfInBounds_toArray, List.set_cons_zero, List.set_cons_succ, i64_w, i32_w]
    rfl
  refine pure_ (i := 12) (N := some 40) (v := .bool true) (a' := ?_) #[true, true, true, true, true, true, true, true, true, true, true, true, true, false, false, false, false, false, false, false, false, false, false, false, false, false, false, false, false, false, false, false, false, false, false, false, false, false, false, false, false, false, false, false] rfl rfl (by kernel_rfl) (fun _ _ _ h => h) (Or.inl ⟨by rfl, fun w' => by first | kernel_rfl | (go_simp; done) | (go_simp; with_reducible rfl)⟩) ?_ ?_
  rotate_left
  · simp only [Act.put, List.setIfInBounds_toArray, List.set_cons_zero, List.set_cons_succ, i64_w, i32_w]
    rfl
  refine pure_ (i := 13) (N := some 41) (v := ?_) (a' := ?_) #[true, true, true, true, true, true, true, true, true, true, true, true, true, true, false, false, false, false, false, false, false, false, false, false, false, false, false, false, false, false, false, false, false, false, false, false, false, false, false, false, false, false, false, false] rfl rfl (by kernel_rfl) (fun _ _ _ h => h) (Or.inl ⟨by rfl, ?_⟩) ?_ ?_
  rotate_left
  · intro w'
    go_simp
    with_reducible rfl
  rotate_left
  · simp only [Act.put, List.setIfInBounds_toArray, List.set_cons_zero, List.set_cons_succ, i64_w, i32_w]
    rfl
  refine pure_ (i := 14) (N := some 42) (v := ?_) (a' := ?_) #[true, true, true, true, true, true, true, true, true, true, true, true, true, true, true, false, false, false, false, false, false, false, false, false, false, false, false, false, false, false, false, false, false, false, false, false, false, false, false, false, false, false, false, false] rfl rfl (by kernel_rfl) (fun _ _ _ h => h) (Or.inl ⟨by rfl, ?_⟩) ?_ ?_
  rotate_left
  · intro w'
    go_simp
    with_reducible rfl
  rotate_left
  · simp only [Act.put, List.setIfInBounds_toArray, List.set_cons_zero, List.set_cons_succ, i64_w, i32_w]
    rfl
  refine take_ (i := 15) (N := some 43) (v := ?_) (a' := ?_) #[true, true, true, true, true, true, true, true, true, true, true, true, true, true, true, true, false, false, false, false, false, false, false, false, false, false, false, false, false, false, false, false, false, false, false, false, false, false, false, false, false, false, false, false] rfl rfl (by kernel_rfl) (fun _ _ _ h => h) (Or.inl ⟨by rfl, ?_⟩) hHeld ?_ ?_
  rotate_left
  · rintro w' ⟨s0, s1, s2, s3, s4, s5⟩
    go_simp
    with_reducible rfl
  rotate_left
  · simp only [Act.put, List.setIfInBounds_toArray, List.set_cons_zero, List.set_cons_succ, i64_w, i32_w]
    rfl
  refine join_ (σ := Value × Nat) 26 #[true, true, true, true, true, true, true, true, true, true, true, true, true, true, true, true, true, true, false, false, false, false, false, false, false, false, false, false, false, false, false, false, false, false, false, false, false, false, false, false, false, false, false, false] (fun s => [(44, s.1), (45, .slice (some ⟨s.2, 0, none⟩) 1 1)]) (fun s W => (∃ A k, s.1 = .slice A 1 k ∧ 1 ≤ k ∧ Kd.C Kd.string W A 1 [smV]) ∧ W.heap[s.2]? = some (.cells #[.string smV] 9 (0, 0)) ∧ Es w gc gd Aq A1 A2 c1 c2 W) (fun s W hF => ?hcont) (fun hJ => ?hords)
  case hords =>
    refine two_ (i := 16) (j := 17) (Ni := some 44) (Nj := some 45) #[true, true, true, true, true, true, true, true, true, true, true, true, true, true, true, true, true, false, false, false, false, false, false, false, false, false, false, false, false, false, false, false, false, false, false, false, false, false, false, false, false, false, false, false] #[true, true, true, true, true, true, true, true, true, true, true, true, true, true, true, true, false, true, false, false, false, false, false, false, false, false, false, false, false, false, false, false, false, false, false, false, false, false, false, false, false, false, false, false] rfl rfl rfl rfl (by kernel_rfl) (by decide) (by decide) (fun K hK => ?_) (fun K hK => ?_)
    · refine goes_ Try.func15 (by kernel_rfl) rfl #[.agg #[.string sCal, .slice none 0 0, .slice Aq 1 1]] (by rfl) rfl rfl (by (try simp only [List.map_toArray, List.map_cons, List.map_nil]); first | done | rfl) ?_
      refine (itip_Attendees.calls 0 sCal none 0 [] Aq 1 cComps [smV] _ (Kd.C_nil _ _) (Nat.le_refl _) HES.out.C (Nat.le_refl _) patt).mono ?_
      rintro e x2 ⟨v16, rfl, hr16, hb⟩
      refine ⟨_, rfl, ?_⟩
      obtain ⟨A16, c16, e16⟩ := Kd.R_slice hr16
      subst e16
      have HA16 := Aside0.mk (Kd.R_reads' hr16).2.2
      have hc16 := (Kd.R_reads' hr16).2.1
      clear hr16
      replace HES := Aside0.mk (HES.out.below hb)
      clear hb
      refine hK.out _ _ (HES.out.held) (fun hHeld => ?_)
      clear hK K
      refine norm_ (a' := ?_) ?_ ?_
      rotate_left
      · show Act.put _ (some 44) _ = _
        simp only [Act.put, List.setIfInBounds_toArray, List.set_cons_zero, List.set_cons_succ, i64_w, i32_w]
        rfl
      refine one_ (i := 17) (N := some 45) #[true, true, true, true, true, true, true, true, true, true, true, true, true, true, true, true, true, true, false, false, false, false, false, false, false, false, false, false, false, false, false, false, false, false, false, false, false, false, false, false, false, false, false, false] rfl rfl (by kernel_rfl) (by decide) (fun K hK => ?_)
      refine event_step (by rfl) (v := .slice (some ⟨x2.heap.size, 0, none⟩) 1 1) (w1 := x2.alloc (.cells #[.string smV] 9)) (by first | (go_simp; done) | (go_simp; rfl)) ?_
      obtain ⟨y1, hy1⟩ : ∃ X, x2.alloc (.cells #[.string smV] 9) = X := ⟨_, rfl⟩
      rw [hy1]
      have BX := Aside0.mk (show y1.heap[x2.heap.size]? = some (.cells #[.string smV] 9 (0, 0)) by rw [← hy1]; exact alloc_at rfl)
      have hbx : Below x2.heap.size x2 y1 := by rw [← hy1]; exact below_alloc (Below.refl _ _) _
      clear hy1
      replace HES := Aside0.mk (HES.out.below hbx)
      replace HA16 := Aside0.mk (Kd.C_below HA16.out hbx)
      clear hbx
      refine hK.out _ _ (HES.out.held) (fun hHeld => ?_)
      clear hK K
      refine norm_ (a' := ?_) ?_ ?_
      rotate_left
      · show Act.put _ (some 45) _ = _
        simp only [Act.put, List.setIfInBounds_toArray, List.set_cons_zero, List.set_cons_succ, i64_w, i32_w]
        rfl
      exact hJ (.slice A16 1 c16, x2.heap.size) _ ⟨⟨A16, c16, rfl, hc16, HA16.out⟩, BX.out, HES.out⟩
    · refine event_step (by rfl) (v := .slice (some ⟨x1.heap.size, 0, none⟩) 1 1) (w1 := x1.alloc (.cells #[.string smV] 9)) (by first | (go_simp; done) | (go_simp; rfl)) ?_
      obtain ⟨y2, hy2⟩ : ∃ X, x1.alloc (.cells #[.string smV] 9) = X := ⟨_, rfl⟩
      rw [hy2]
      have BX := Aside0.mk (show y2.heap[x1.heap.size]? = some (.cells #[.string smV] 9 (0, 0)) by rw [← hy2]; exact alloc_at rfl)
      have hbx : Below x1.heap.size x1 y2 := by rw [← hy2]; exact below_alloc (Below.refl _ _) _
      clear hy2
      replace HES := Aside0.mk (HES.out.below hbx)
      clear hbx
      refine hK.out _ _ (HES.out.held) (fun hHeld => ?_)
      clear hK K
      refine norm_ (a' := ?_) ?_ ?_
      rotate_left
      · show Act.put _ (some 45) _ = _
        simp only [Act.put, List.setIfInBounds_toArray, List.set_cons_zero, List.set_cons_succ, i64_w, i32_w]
        rfl
      refine one_ (i := 16) (N := some 44) #[true, true, true, true, true, true, true, true, true, true, true, true, true, true, true, true, true, true, false, false, false, false, false, false, false, false, false, false, false, false, false, false, false, false, false, false, false, false, false, false, false, false, false, false] rfl rfl (by kernel_rfl) (by decide) (fun K hK => ?_)
      refine goes_ Try.func15 (by kernel_rfl) rfl #[.agg #[.string sCal, .slice none 0 0, .slice Aq 1 1]] (by rfl) rfl rfl (by (try simp only [List.map_toArray, List.map_cons, List.map_nil]); first | done | rfl) ?_
      refine (itip_Attendees.calls 0 sCal none 0 [] Aq 1 cComps [smV] _ (Kd.C_nil _ _) (Nat.le_refl _) HES.out.C (Nat.le_refl _) patt).mono ?_
      rintro e x2 ⟨v16, rfl, hr16, hb⟩
      refine ⟨_, rfl, ?_⟩
      obtain ⟨A16, c16, e16⟩ := Kd.R_slice hr16
      subst e16
      have HA16 := Aside0.mk (Kd.R_reads' hr16).2.2
      have hc16 := (Kd.R_reads' hr16).2.1
      clear hr16
      replace HES := Aside0.mk (HES.out.below hb)
      replace BX := Aside0.mk (blk_below BX.out hb)
      clear hb
      refine hK.out _ _ (HES.out.held) (fun hHeld => ?_)
      clear hK K
      refine norm_ (a' := ?_) ?_ ?_
      rotate_left
      · show Act.put _ (some 44) _ = _
        simp only [Act.put, List.setIfInBounds_toArray, List.set_cons_zero, List.set_cons_succ, i64_w, i32_w]
        rfl
      exact hJ (.slice A16 1 c16, x1.heap.size) _ ⟨⟨A16, c16, rfl, hc16, HA16.out⟩, BX.out, HES.out⟩
  case hcont =>
    obtain ⟨v16, b17⟩ := s
    obtain ⟨⟨A16, c16, e16, hc16, ha16⟩, hb17, hes⟩ := hF
    obtain rfl : v16 = .slice A16 1 c16 := e16
    have HA16 := Aside0.mk ha16
    have HA17 := Aside0.mk (Kd.F_now (F_one hb17))
    replace HES := Aside0.mk hes
    have hHeld := hes.held
    clear ha16 hb17 hes
    refine norm_ (a' := ?_) ?_ ?_
    rotate_left
    · show putAll _ _ = _
      simp only [putAll, Act.put, List.setIfInBounds_toArray, List.set_cons_zero, List.set_cons_succ, i64_w, i32_w]
      rfl
    refine one_ (i := 18) (N := some 46) #[true, true, true, true, true, true, true, true, true, true, true, true, true, true, true, true, true, true, true, false, false, false, false, false, false, false, false, false, false, false, false, false, false, false, false, false, false, false, false, false, false, false, false, false] rfl rfl (by kernel_rfl) (by decide) (fun K hK => ?_)
    refine goes_ Try.func14 (by kernel_rfl) rfl #[.slice A16 1 c16, .slice (some ⟨b17, 0, none⟩) 1 1] (by rfl) rfl rfl (by (try simp only [List.map_toArray, List.map_cons, List.map_nil]); first | done | rfl) ?_
    refine (almanacref08_Texts.calls 5 A16 c16 [smV] (some ⟨b17, 0, none⟩) 1 [smV] true _ HA16.out hc16 HA17.out (Nat.le_refl _) ptx).mono ?_
    rintro e x8 ⟨rfl, hd⟩
    have hb := Drawn0.below hd
    clear hd
    refine ⟨_, rfl, ?_⟩
    replace HES := Aside0.mk (HES.out.below hb)
    clear hb
    refine hK.out _ _ (HES.out.held) (fun hHeld => ?_)
    clear hK K
    refine norm_ (a' := ?_) ?_ ?_
    rotate_left
    · show Act.put _ (some 46) _ = _
      simp only [Act.put, List.setIfInBounds_toArray, List.set_cons_zero, List.set_cons_succ, i64_w, i32_w]
      rfl
    refine pure_ (i := 19) (N := some 47) (v := ?_) (a' := ?_) #[true, true, true, true, true, true, true, true, true, true, true, true, true, true, true, true, true, true, true, true, false, false, false, false, false, false, false, false, false, false, false, false, false, false, false, false, false, false, false, false, false, false, false, false] rfl rfl (by kernel_rfl) (fun _ _ _ h => h) (Or.inl ⟨by rfl, ?_⟩) ?_ ?_
    rotate_left
    · intro w'
      go_simp
      with_reducible rfl
    rotate_left
    · simp only [Act.put, List.setIfInBounds_toArray, List.set_cons_zero, List.set_cons_succ, i64_w, i32_w]
      rfl
    refine pure_ (i := 20) (N := some 48) (v := ?_) (a' := ?_) #[true, true, true, true, true, true, true, true, true, true, true, true, true, true, true, true, true, true, true, true, true, false, false, false, false, false, false, false, false, false, false, false, false, false, false, false, false, false, false, false, false, false, false, false] rfl rfl (by kernel_rfl) (fun _ _ _ h => h) (Or.inl ⟨by rfl, ?_⟩) ?_ ?_
    rotate_left
    · intro w'
      go_simp
      with_reducible rfl
    rotate_left
    · simp only [Act.put, List.setIfInBounds_toArray, List.set_cons_zero, List.set_cons_succ, i64_w, i32_w]
      rfl
    refine take_ (i := 21) (N := some 49) (v := ?_) (a' := ?_) #[true, true, true, true, true, true, true, true, true, true, true, true, true, true, true, true, true, true, true, true, true, true, false, false, false, false, false, false, false, false, false, false, false, false, false, false, false, false, false, false, false, false, false, false] rfl rfl (by kernel_rfl) (fun _ _ _ h => h) (Or.inl ⟨by rfl, ?_⟩) hHeld ?_ ?_
    rotate_left
    · rintro w' ⟨s0, s1, s2, s3, s4, s5⟩
      go_simp
      with_reducible rfl
    rotate_left
    · simp only [Act.put, List.setIfInBounds_toArray, List.set_cons_zero, List.set_cons_succ, i64_w, i32_w]
      rfl
    refine one_ (i := 22) (N := some 50) #[true, true, true, true, true, true, true, true, true, true, true, true, true, true, true, true, true, true, true, true, true, true, true, false, false, false, false, false, false, false, false, false, false, false, false, false, false, false, false, false, false, false, false, false] rfl rfl (by kernel_rfl) (by decide) (fun K hK => ?_)
    refine goes_ Try.func20 (by kernel_rfl) rfl #[.agg #[.string sCal, .slice none 0 0, .slice Aq 1 1], .string smV] (by rfl) rfl rfl (by (try simp only [List.map_toArray, List.map_cons, List.map_nil]); first | done | rfl) ?_
    refine (itip_Status.calls 0 sCal none 0 [] Aq 1 cComps smV sNeeds _ (Kd.C_nil _ _) (Nat.le_refl _) HES.out.C (Nat.le_refl _) pst1).mono ?_
    rintro e x9 ⟨rfl, hb⟩
    refine ⟨_, rfl, ?_⟩
    replace HES := Aside0.mk (HES.out.below hb)
    clear hb
    refine hK.out _ _ (HES.out.held) (fun hHeld => ?_)
    clear hK K
    refine norm_ (a' := ?_) ?_ ?_
    rotate_left
    · show Act.put _ (some 50) _ = _
      simp only [Act.put, List.setIfInBounds_toArray, List.set_cons_zero, List.set_cons_succ, i64_w, i32_w]
      rfl
    refine pure_ (i := 23) (N := some 51) (v := .bool true) (a' := ?_) #[true, true, true, true, true, true, true, true, true, true, true, true, true, true, true, true, true, true, true, true, true, true, true, true, false, false, false, false, false, false, false, false, false, false, false, false, false, false, false, false, false, false, false, false] rfl rfl (by kernel_rfl) (fun _ _ _ h => h) (Or.inl ⟨by rfl, fun w' => by first | kernel_rfl | (go_simp; done) | (go_simp; with_reducible rfl)⟩) ?_ ?_
    rotate_left
    · simp only [Act.put, List.setIfInBounds_toArray, List.set_cons_zero, List.set_cons_succ, i64_w, i32_w]
      rfl
    refine pure_ (i := 24) (N := some 52) (v := ?_) (a' := ?_) #[true, true, true, true, true, true, true, true, true, true, true, true, true, true, true, true, true, true, true, true, true, true, true, true, true, false, false, false, false, false, false, false, false, false, false, false, false, false, false, false, false, false, false, false] rfl rfl (by kernel_rfl) (fun _ _ _ h => h) (Or.inl ⟨by rfl, ?_⟩) ?_ ?_
    rotate_left
    · intro w'
      go_simp
      with_reducible rfl
    rotate_left
    · simp only [Act.put, List.setIfInBounds_toArray, List.set_cons_zero, List.set_cons_succ, i64_w, i32_w]
      rfl
    refine pure_ (i := 25) (N := some 53) (v := ?_) (a' := ?_) #[true, true, true, true, true, true, true, true, true, true, true, true, true, true, true, true, true, true, true, true, true, true, true, true, true, true, false, false, false, false, false, false, false, false, false, false, false, false, false, false, false, false, false, false] rfl rfl (by kernel_rfl) (fun _ _ _ h => h) (Or.inl ⟨by rfl, ?_⟩) ?_ ?_
    rotate_left
    · intro w'
      go_simp
      with_reducible rfl
    rotate_left
    · simp only [Act.put, List.setIfInBounds_toArray, List.set_cons_zero, List.set_cons_succ, i64_w, i32_w]
      rfl
    refine take_ (i := 26) (N := some 54) (v := ?_) (a' := ?_) #[true, true, true, true, true, true, true, true, true, true, true, true, true, true, true, true, true, true, true, true, true, true, true, true, true, true, true, false, false, false, false, false, false, false, false, false, false, false, false, false, false, false, false, false] rfl rfl (by kernel_rfl) (fun _ _ _ h => h) (Or.inl ⟨by rfl, ?_⟩) hHeld ?_ ?_
    rotate_left
    · rintro w' ⟨s0, s1, s2, s3, s4, s5⟩
      go_simp
      with_reducible rfl
    rotate_left
    · simp only [Act.put, List.setIfInBounds_toArray, List.set_cons_zero, List.set_cons_succ, i64_w, i32_w]
      rfl
    refine one_ (i := 27) (N := some 55) #[true, true, true, true, true, true, true, true, true, true, true, true, true, true, true, true, true, true, true, true, true, true, true, true, true, true, true, true, false, false, false, false, false, false, false, false, false, false, false, false, false, false, false, false] rfl rfl (by kernel_rfl) (by decide) (fun K hK => ?_)
    refine goes_ Try.func20 (by kernel_rfl) rfl #[.agg #[.string sCal, .slice A1 0 c1, .slice A2 1 c2], .string smV] (by rfl) rfl rfl (by (try simp only [List.map_toArray, List.map_cons, List.map_nil]); first | done | rfl) ?_
    refine (itip_Status.calls 0 sCal A1 c1 [] A2 c2 dComps smV sAcc _ HES.out.N (Nat.zero_le _) HES.out.D hc2 pst2).mono ?_
    rintro e x10 ⟨rfl, hb⟩
    refine ⟨_, rfl, ?_⟩
    replace HES := Aside0.mk (HES.out.below hb)
    clear hb
    refine hK.out _ _ (HES.out.held) (fun hHeld => ?_)
    clear hK K
    refine norm_ (a' := ?_) ?_ ?_
    rotate_left
    · show Act.put _ (some 55) _ = _
      simp only [Act.put, List.setIfInBounds_toArray, List.set_cons_zero, List.set_cons_succ, i64_w, i32_w]
      rfl
    refine pure_ (i := 28) (N := some 56) (v := .bool true) (a' := ?_) #[true, true, true, true, true, true, true, true, true, true, true, true, true, true, true, true, true, true, true, true, true, true, true, true, true, true, true, true, true, false, false, false, false, false, false, false, false, false, false, false, false, false, false, false] rfl rfl (by kernel_rfl) (fun _ _ _ h => h) (Or.inl ⟨by rfl, fun w' => by first | kernel_rfl | (go_simp; done) | (go_simp; with_reducible rfl)⟩) ?_ ?_
    rotate_left
    · simp only [Act.put, List.setIfInBounds_toArray, List.set_cons_zero, List.set_cons_succ, i64_w, i32_w]
      rfl
    refine pure_ (i := 29) (N := some 57) (v := ?_) (a' := ?_) #[true, true, true, true, true, true, true, true, true, true, true, true, true, true, true, true, true, true, true, true, true, true, true, true, true, true, true, true, true, true, false, false, false, false, false, false, false, false, false, false, false, false, false, false] rfl rfl (by kernel_rfl) (fun _ _ _ h => h) (Or.inl ⟨by rfl, ?_⟩) ?_ ?_
    rotate_left
    · intro w'
      go_simp
      with_reducible rfl
    rotate_left
    · simp only [Act.put, List.setIfInBounds_toArray, List.set_cons_zero, List.set_cons_succ, i64_w, i32_w]
      rfl
    refine pure_ (i := 30) (N := some 58) (v := ?_) (a' := ?_) #[true, true, true, true, true, true, true, true, true, true, true, true, true, true, true, true, true, true, true, true, true, true, true, true, true, true, true, true, true, true, true, false, false, false, false, false, false, false, false, false, false, false, false, false] rfl rfl (by kernel_rfl) (fun _ _ _ h => h) (Or.inl ⟨by rfl, ?_⟩) ?_ ?_
    rotate_left
    · intro w'
      go_simp
      with_reducible rfl
    rotate_left
    · simp only [Act.put, List.setIfInBounds_toArray, List.set_cons_zero, List.set_cons_succ, i64_w, i32_w]
      rfl
    refine pure_ (i := 32) (N := some 60) (v := ?_) (a' := ?_) #[true, true, true, true, true, true, true, true, true, true, true, true, true, true, true, true, true, true, true, true, true, true, true, true, true, true, true, true, true, true, true, false, true, false, false, false, false, false, false, false, false, false, false, false] rfl rfl (by kernel_rfl) (fun _ _ _ h => h) (Or.inl ⟨by rfl, ?_⟩) ?_ ?_
    rotate_left
    · intro w'
      go_simp
      with_reducible rfl
    rotate_left
    · simp only [Act.put, List.setIfInBounds_toArray, List.set_cons_zero, List.set_cons_succ, i64_w, i32_w]
      rfl
    refine take_ (i := 31) (N := some 59) (v := ?_) (a' := ?_) #[true, true, true, true, true, true, true, true, true, true, true, true, true, true, true, true, true, true, true, true, true, true, true, true, true, true, true, true, true, true, true, true, true, false, false, false, false, false, false, false, false, false, false, false] rfl rfl (by kernel_rfl) (fun _ _ _ h => h) (Or.inl ⟨by rfl, ?_⟩) hHeld ?_ ?_
    rotate_left
    · rintro w' ⟨s0, s1, s2, s3, s4, s5⟩
      go_simp
      with_reducible rfl
    rotate_left
    · simp only [Act.put, List.setIfInBounds_toArray, List.set_cons_zero, List.set_cons_succ, i64_w, i32_w]
      rfl
    refine one_ (i := 33) (N := some 61) #[true, true, true, true, true, true, true, true, true, true, true, true, true, true, true, true, true, true, true, true, true, true, true, true, true, true, true, true, true, true, true, true, true, true, false, false, false, false, false, false, false, false, false, false] rfl rfl (by kernel_rfl) (by decide) (fun K hK => ?_)
    refine goes_ Try.func23 (by kernel_rfl) rfl #[.agg #[.string sNo, .slice none 0 0, .slice none 0 0], .string sNo] (by rfl) rfl rfl (by (try simp only [List.map_toArray, List.map_cons, List.map_nil]); first | done | rfl) ?_
    refine (itip_Message.calls 0 sNo (fun _ => False) none 0 [] (fun _ => False) none 0 [] sNo sNo [] [] _ (Kd.V_nil _ _ _ _ _) (Kd.V_nil _ _ _ _ _) pms1).mono ?_
    rintro e x11 ⟨v1, v2, rfl, hn, hv, hb⟩
    obtain ⟨B1, b1, rfl⟩ := Kd.N_slice hn
    obtain ⟨B2, b2, rfl⟩ := Kd.V_slice hv
    have HM1 := Aside0.mk (Kd.N_reads' hn).2.2
    have HM2 := Aside0.mk (Kd.V_reads' hv).2.2
    clear hn hv
    refine ⟨_, rfl, ?_⟩
    replace HES := Aside0.mk (HES.out.below hb)
    clear hb
    refine hK.out _ _ (HES.out.held) (fun hHeld => ?_)
    clear hK K
    refine norm_ (a' := ?_) ?_ ?_
    rotate_left
    · show Act.put _ (some 61) _ = _
      simp only [Act.put, List.setIfInBounds_toArray, List.set_cons_zero, List.set_cons_succ, i64_w, i32_w]
      rfl
    refine one_ (i := 34) (N := some 62) #[true, true, true, true, true, true, true, true, true, true, true, true, true, true, true, true, true, true, true, true, true, true, true, true, true, true, true, true, true, true, true, true, true, true, true, false, false, false, false, false, false, false, false, false] rfl rfl (by kernel_rfl) (by decide) (fun K hK => ?_)
    refine goes_ Try.func17 (by kernel_rfl) rfl #[.agg #[.string sCal, .slice none 0 0, .slice Aq 1 1], .agg #[.string sNo, .slice B1 0 b1, .slice B2 0 b2]] (by rfl) rfl rfl (by (try simp only [List.map_toArray, List.map_cons, List.map_nil]); first | done | rfl) ?_
    refine (itip_Significant.calls sCal none 0 [] Aq 1 cComps sNo B1 b1 [] B2 b2 [] true _ (Kd.C_nil _ _) (Nat.le_refl _) HES.out.C (Nat.le_refl _) HM1.out (Nat.zero_le _) HM2.out (Nat.zero_le _) psig).mono ?_
    rintro e x12 ⟨rfl, hb⟩
    refine ⟨_, rfl, ?_⟩
    replace HES := Aside0.mk (HES.out.below hb)
    clear hb
    refine hK.out _ _ (HES.out.held) (fun hHeld => ?_)
    clear hK K
    refine norm_ (a' := ?_) ?_ ?_
    rotate_left
    · show Act.put _ (some 62) _ = _
      simp only [Act.put, List.setIfInBounds_toArray, List.set_cons_zero, List.set_cons_succ, i64_w, i32_w]
      rfl
    refine pure_ (i := 35) (N := some 63) (v := ?_) (a' := ?_) #[true, true, true, true, true, true, true, true, true, true, true, true, true, true, true, true, true, true, true, true, true, true, true, true, true, true, true, true, true, true, true, true, true, true, true, true, false, false, false, false, false, false, false, false] rfl rfl (by kernel_rfl) (fun _ _ _ h => h) (Or.inl ⟨by rfl, ?_⟩) ?_ ?_
    rotate_left
    · intro w'
      go_simp
      with_reducible rfl
    rotate_left
    · simp only [Act.put, List.setIfInBounds_toArray, List.set_cons_zero, List.set_cons_succ, i64_w, i32_w]
      rfl
    refine pure_ (i := 36) (N := some 64) (v := ?_) (a' := ?_) #[true, true, true, true, true, true, true, true, true, true, true, true, true, true, true, true, true, true, true, true, true, true, true, true, true, true, true, true, true, true, true, true, true, true, true, true, true, false, false, false, false, false, false, false] rfl rfl (by kernel_rfl) (fun _ _ _ h => h) (Or.inl ⟨by rfl, ?_⟩) ?_ ?_
    rotate_left
    · intro w'
      go_simp
      with_reducible rfl
    rotate_left
    · simp only [Act.put, List.setIfInBounds_toArray, List.set_cons_zero, List.set_cons_succ, i64_w, i32_w]
      rfl
    refine take_ (i := 37) (N := some 65) (v := ?_) (a' := ?_) #[true, true, true, true, true, true, true, true, true, true, true, true, true, true, true, true, true, true, true, true, true, true, true, true, true, true, true, true, true, true, true, true, true, true, true, true, true, true, false, false, false, false, false, false] rfl rfl (by kernel_rfl) (fun _ _ _ h => h) (Or.inl ⟨by rfl, ?_⟩) hHeld ?_ ?_
    rotate_left
    · rintro w' ⟨s0, s1, s2, s3, s4, s5⟩
      go_simp
      with_reducible rfl
    rotate_left
    · simp only [Act.put, List.setIfInBounds_toArray, List.set_cons_zero, List.set_cons_succ, i64_w, i32_w]
      rfl
    refine one_ (i := 38) (N := some 66) #[true, true, true, true, true, true, true, true, true, true, true, true, true, true, true, true, true, true, true, true, true, true, true, true, true, true, true, true, true, true, true, true, true, true, true, true, true, true, true, false, false, false, false, false] rfl rfl (by kernel_rfl) (by decide) (fun K hK => ?_)
    refine goes_ Try.func23 (by kernel_rfl) rfl #[.agg #[.string sCal, .slice none 0 0, .slice Aq 1 1], .string sReq] (by rfl) rfl rfl (by (try simp only [List.map_toArray, List.map_cons, List.map_nil]); first | done | rfl) ?_
    refine (itip_Message.calls 0 sCal (fun _ => False) none 0 [] (fun k => k < (World.heap _).size) Aq 1 cComps sReq sCal [⟨⟨#[77, 69, 84, 72, 79, 68]⟩, [], sReq⟩] cComps _ (Kd.V_nil _ _ _ _ _) (Kd.V_mk (Nat.le_refl _) (Kd.C_F k25_heap HES.out.C)) pms2).mono ?_
    rintro e x13 ⟨v1, v2, rfl, hn, hv, hb⟩
    obtain ⟨D1, e1, rfl⟩ := Kd.N_slice hn
    clear hn hv
    refine ⟨_, rfl, ?_⟩
    replace HES := Aside0.mk (HES.out.below hb)
    clear hb
    refine hK.out _ _ (HES.out.held) (fun hHeld => ?_)
    clear hK K
    refine norm_ (a' := ?_) ?_ ?_
    rotate_left
    · show Act.put _ (some 66) _ = _
      simp only [Act.put, List.setIfInBounds_toArray, List.set_cons_zero, List.set_cons_succ, i64_w, i32_w]
      rfl
    refine pure_ (i := 39) (N := some 67) (v := ?_) (a' := ?_) #[true, true, true, true, true, true, true, true, true, true, true, true, true, true, true, true, true, true, true, true, true, true, true, true, true, true, true, true, true, true, true, true, true, true, true, true, true, true, true, true, false, false, false, false] rfl rfl (by kernel_rfl) (fun _ _ _ h => h) (Or.inl ⟨by rfl, ?_⟩) ?_ ?_
    rotate_left
    · intro w'
      go_simp
      with_reducible rfl
    rotate_left
    · simp only [Act.put, List.setIfInBounds_toArray, List.set_cons_zero, List.set_cons_succ, i64_w, i32_w]
      rfl
    refine pure_ (i := 40) (N := some 68) (v := ?_) (a' := ?_) #[true, true, true, true, true, true, true, true, true, true, true, true, true, true, true, true, true, true, true, true, true, true, true, true, true, true, true, true, true, true, true, true, true, true, true, true, true, true, true, true, true, false, false, false] rfl rfl (by kernel_rfl) (fun _ _ _ h => h) (Or.inl ⟨by rfl, ?_⟩) ?_ ?_
    rotate_left
    · intro w'
      go_simp
      with_reducible rfl
    rotate_left
    · simp only [Act.put, List.setIfInBounds_toArray, List.set_cons_zero, List.set_cons_succ, i64_w, i32_w]
      rfl
    refine pure_ (i := 41) (N := some 69) (v := .bool true) (a' := ?_) #[true, true, true, true, true, true, true, true, true, true, true, true, true, true, true, true, true, true, true, true, true, true, true, true, true, true, true, true, true, true, true, true, true, true, true, true, true, true, true, true, true, true, false, false] rfl rfl (by kernel_rfl) (fun _ _ _ h => h) (Or.inl ⟨by rfl, fun w' => by first | kernel_rfl | (go_simp; done) | (go_simp; with_reducible rfl)⟩) ?_ ?_
    rotate_left
    · simp only [Act.put, List.setIfInBounds_toArray, List.set_cons_zero, List.set_cons_succ, i64_w, i32_w]
      rfl
    refine pure_ (i := 42) (N := some 70) (v := ?_) (a' := ?_) #[true, true, true, true, true, true, true, true, true, true, true, true, true, true, true, true, true, true, true, true, true, true, true, true, true, true, true, true, true, true, true, true, true, true, true, true, true, true, true, true, true, true, true, false] rfl rfl (by kernel_rfl) (fun _ _ _ h => h) (Or.inl ⟨by rfl, ?_⟩) ?_ ?_
    rotate_left
    · intro w'
      go_simp
      with_reducible rfl
    rotate_left
    · simp only [Act.put, List.setIfInBounds_toArray, List.set_cons_zero, List.set_cons_succ, i64_w, i32_w]
      rfl
    refine pure_ (i := 43) (N := some 0) (v := ?_) (a' := ?_) #[true, true, true, true, true, true, true, true, true, true, true, true, true, true, true, true, true, true, true, true, true, true, true, true, true, true, true, true, true, true, true, true, true, true, true, true, true, true, true, true, true, true, true, true] rfl rfl (by kernel_rfl) (fun _ _ _ h => h) (Or.inl ⟨by rfl, ?_⟩) ?_ ?_
    rotate_left
    · intro w'
      go_simp
      with_reducible rfl
    rotate_left
    · simp only [Act.put, List.setIfInBounds_toArray, List.set_cons_zero, List.set_cons_succ, i64_w, i32_w]
      rfl
    refine done_ (by kernel_rfl) ?_
    go_wp2
    go_ret
    exact ⟨rfl, HES.out.B⟩
end Go.Proofs.Ytebmbfobmakheaa.PD
namespace Go.Proofs.Ytebmbfobmakheaa.PD
open Go.RowKit Go.Proofs.YtebmbfobmakheaaW.PrintWords Go.Proofs.YtebmbfobmakheaaW.PrintLast Go.Proofs.YtebmbfobmakheaaW.PrintMore
set_option linter.unusedVariables false
set_option linter.unusedSimpArgs false
structure Few (l1 : List S45) (l2 : List S25) : Prop where
  p : PB 5000 l1
  c : CB 5000 l2
  s1 : ∀ q ∈ l1, SzP q
  s2 : ∀ y ∈ l2, Sz y
theorem Few.limL {l1 : List S45} {l2 : List S25} (h : Few l1 l2) : LimL l2 := ⟨by have := h.c.1; omega, fun x hx => by have := (h.c.2.1 x hx).1; omega⟩
theorem SL_oth : ∀ l : List S25, SL (oth l) ≤ SL l
  | [] => Nat.le_refl _
  | x :: r => by
    cases h : isTz x.f0 with
    | true => rw [oth_tz h]; exact Nat.le_trans (SL_oth r) (Nat.le_add_left _ _)
    | false => rw [oth_no h]; exact Nat.add_le_add_left (SL_oth r) _
theorem attL_len : ∀ l : List S25, (attL l).length ≤ SL l
  | [] => Nat.le_refl _
  | x :: r => by
    show (byN x.f1 attN ++ attL r).length ≤ x.f1.length + SL r
    rw [List.length_append]
    exact Nat.add_le_add (List.length_filter_le _ _) (attL_len r)
theorem attP_len (l : List S25) : (attP l).length ≤ SL l := by rw [attP_oth]; exact Nat.le_trans (attL_len _) (SL_oth l)
theorem attP_mem {l : List S25} {p : S45} (h : p ∈ attP l) : ∃ x ∈ l, p ∈ x.f1 := by
  rw [attP_oth] at h
  obtain ⟨x, hx, hp⟩ := List.mem_flatMap.1 h
  exact ⟨x, oth_mem_l hx, (List.mem_filter.1 hp).1⟩
theorem Few.szP {l1 : List S45} {l2 : List S25} (h : Few l1 l2) {x : S25} (hx : x ∈ l2) {p : S45} (hp : p ∈ x.f1) : SzP p := (h.s2 x hx).f1p p hp
theorem short_of {s : ByteArray} (h : s.size ≤ 140737488351232) : shortB s = true := decide_eq_true (by omega)
theorem Few.att {l1 : List S45} {l2 : List S25} (h : Few l1 l2) : (attP l2).length ≤ 1000000 ∧ ∀ p ∈ attP l2, shortB p.f2 = true := by
  refine ⟨by have := attP_len l2; have := h.c.2.2; omega, fun p hp => ?_⟩
  obtain ⟨x, hx, hpx⟩ := attP_mem hp
  exact short_of (h.szP hx hpx).1
theorem Few.okT {l1 : List S45} {l2 : List S25} (h : Few l1 l2) : okT l2 = true := by
  unfold PD.okT
  simp only [Bool.and_eq_true, decide_eq_true_eq, List.all_eq_true]
  refine ⟨fun x hx => ?_, h.limL.1⟩
  have h1 := (h.c.2.1 x hx).1
  exact ⟨by omega, by have := toldP_len x.f1; omega⟩
theorem Few.limB {l1 : List S45} {l2 : List S25} (h : Few l1 l2) : limB l2 = true := (limB_iff l2).2 fun x hx => by have := (h.c.2.1 x hx).1; omega
theorem Few.okF {l1 : List S45} {l2 : List S25} (h : Few l1 l2) : okF l2 = true := List.all_eq_true.2 h.att.2
theorem texts_same (s : ByteArray) : (s.toList == s.toList) = true := beq_iff_eq.2 rfl
end Go.Proofs.Ytebmbfobmakheaa.PD
namespace Go.Proofs.Ytebmbfobmakheaa.PD
open Go.RowKit Go.Proofs.YtebmbfobmakheaaW.PrintWords Go.Proofs.YtebmbfobmakheaaW.PrintLast Go.Proofs.YtebmbfobmakheaaW.PrintMore
attribute [local go_sem] isSome_setCell max2_int min2_int max_two min_two
set_option linter.unusedVariables false
set_option linter.unusedSimpArgs false
set_option maxRecDepth 100000 in
set_option maxHeartbeats 4000000 in
theorem almanacref08_Upper_walk (s : ByteArray) (w : World) (hs : s.size ≤ 140737488355328) :
    Calls Try.prog 21 #[.string s] w fun e w' => e = .returned (.string (mapB uppN s)) ∧ Below w.heap.size w w' := by
  have hcv := fun W => Lib.run_convert_string_bytes (P := Try.prog) W 9 70 5 s Try.underlying9 Try.underlying70 Try.underlying5
  have hB1 : Below w.heap.size w (Lib.bytesWorld w 5 s) := ⟨rfl, rfl, rfl, by rw [Lib.bytesWorld_size]; exact Nat.le_succ _, fun k hk => Lib.bytesWorld_at_old w 5 s k hk⟩
  have HB := Aside0.mk hB1
  clear hB1
  have HN := Aside0.mk (RowOf.new w s)
  go_enter Try.func21, Try.ntmps21
  go_wp2
  go_loopw [4] (fun v wr => ∃ k : Nat, v = .int .i64 k ∧ k ≤ s.size ∧ Aside0 (RowOf wr w.heap.size (stepK uppN s k)) ∧ Aside0 (Below w.heap.size w wr)) (fun v _ => s.size - (intOf v).toNat)
  case atStart => exact ⟨0, rfl, Nat.zero_le _, HN, HB⟩
  case round =>
    obtain ⟨k, rfl, hk, hrow, hb⟩ := hrel
    by_cases hlt : k < s.size
    · have hlt0 : decide ((k : Int) < (s.size : Int)) = true := decide_eq_true (by omega)
      have hsz := stepK_size uppN s k
      have hbk : byteN (stepK uppN s k) k = byteN s k := by rw [stepK_byte uppN uppN_lt s k hk, if_neg (by omega)]
      obtain ⟨hc, hf⟩ := hrow.out k (by omega)
      rw [hbk] at hc
      have q1 : (k : Int) < (s.size : Int) := by omega
      have q2 : (0 : Int) ≤ (k : Int) := by omega
      have hb256 := byteN_lt s k
      have hmeas : s.size - ((k : Int) + 1).toNat < s.size - (k : Int).toNat := by omega
      have hstep : stepK uppN s (k + 1) = setByte (stepK uppN s k) k (uppN (byteN s k)) := rfl
      have HS := Aside0.mk hstep
      clear hstep
      by_cases h1 : 97 ≤ byteN s k
      · by_cases h2 : byteN s k ≤ 122
        · have d1 : decide ((byteN s k : Int) ≥ 97) = true := decide_eq_true (by omega)
          have d2 : decide ((byteN s k : Int) ≤ 122) = true := decide_eq_true (by omega)
          have hfv : uppN (byteN s k) = byteN s k - 32 := by unfold uppN; rw [if_pos ⟨h1, h2⟩]
          have hr1 := hrow.out.set k (byteN s k - 32) (by omega) (by omega)
          rw [← hfv, ← HS.out] at hr1
          have hb1 := hb.out.setCell (p := ⟨w.heap.size, k, none⟩) (by show w.heap.size ≤ w.heap.size; exact Nat.le_refl _) (.int .u8 ((byteN s k : Int) - 32))
          rw [hfv, show ((byteN s k - 32 : Nat) : Int) = (byteN s k : Int) - 32 by omega] at hr1
          have HR1 := Aside0.mk hr1
          have HB1 := Aside0.mk hb1
          clear hr1 hb1
          go_wp2
          try go_roundw
          all_goals first | exact ⟨⟨k + 1, by simp, hlt, HR1, HB1⟩, hmeas⟩ | exact ⟨k + 1, by simp, hlt, HR1, HB1⟩ | exact hmeas
        · have d1 : decide ((byteN s k : Int) ≥ 97) = true := decide_eq_true (by omega)
          have d2 : decide ((byteN s k : Int) ≤ 122) = false := decide_eq_false (by omega)
          have hfv : stepK uppN s (k + 1) = stepK uppN s k := by rw [HS.out, show uppN (byteN s k) = byteN (stepK uppN s k) k by rw [hbk]; unfold uppN; rw [if_neg (by omega)], setByte_same _ _ (by omega)]
          go_wp2
          try go_roundw
          all_goals first | exact ⟨⟨k + 1, by simp, hlt, ⟨by rw [hfv]; exact hrow.out⟩, hb⟩, hmeas⟩ | exact ⟨k + 1, by simp, hlt, ⟨by rw [hfv]; exact hrow.out⟩, hb⟩ | exact hmeas
      · have d1 : decide ((byteN s k : Int) ≥ 97) = false := decide_eq_false (by omega)
        have hfv : stepK uppN s (k + 1) = stepK uppN s k := by rw [HS.out, show uppN (byteN s k) = byteN (stepK uppN s k) k by rw [hbk]; unfold uppN; rw [if_neg (by omega)], setByte_same _ _ (by omega)]
        go_wp2
        try go_roundw
        all_goals first | exact ⟨⟨k + 1, by simp, hlt, ⟨by rw [hfv]; exact hrow.out⟩, hb⟩, hmeas⟩ | exact ⟨k + 1, by simp, hlt, ⟨by rw [hfv]; exact hrow.out⟩, hb⟩ | exact hmeas
    · have hlt0 : decide ((k : Int) < (s.size : Int)) = false := decide_eq_false (by omega)
      have hkl : k = s.size := by omega
      have hst := hrow.out.string (grownCap w s.size 0 5)
      rw [stepK_size, hkl] at hst
      go_wp2
      go_ret
      exact ⟨rfl, hb.out⟩
def almanacref08_Upper.f (a0 : ByteArray) : Option (ByteArray) := if shortB a0 = true then some (mapB uppN a0) else none
theorem almanacref08_Upper.calls (a0 : ByteArray) (r : ByteArray) (w : World) (h : almanacref08_Upper.f a0 = some r) :
    Calls Try.prog 21 #[.string a0] w fun e w' => e = .returned (.string r) ∧ Below w.heap.size w w' := by
  unfold almanacref08_Upper.f at h
  split at h
  case isFalse => cases h
  rename_i hc
  obtain rfl := Option.some.inj h
  exact almanacref08_Upper_walk a0 w (of_decide_eq_true hc)
end Go.Proofs.Ytebmbfobmakheaa.PD
namespace Go.Proofs.Ytebmbfobmakheaa.PD
open Go.RowKit Go.Proofs.YtebmbfobmakheaaW.PrintWords Go.Proofs.YtebmbfobmakheaaW.PrintLast Go.Proofs.YtebmbfobmakheaaW.PrintMore
attribute [local go_sem] isSome_setCell max2_int min2_int max_two min_two max_three min_three max_four min_four
set_option linter.unusedVariables false
set_option linter.unusedSimpArgs false
def almanacref11_Param.l0 : Nat → ByteArray → Int → ByteArray → List (S77) → ByteArray → Option (ByteArray × Bool)
 | 0, _, _, _, _, _ => none
 | k + 1, x1, x6, x424000, x424001, x424002 => if x6 < (x424001.length : Int) then (if 0 ≤ x6 then (if ((rd_T77 x424001 x6).f0).toList = x1.toList then (if (((rd_T77 x424001 x6).f1).length : Int) = 0 then (some ((⟨#[]⟩ : ByteArray), false)) else (if 0 < (((rd_T77 x424001 x6).f1).length : Int) then (some (rdOf ByteArray.empty ((rd_T77 x424001 x6).f1) 0, true)) else (none))) else (almanacref11_Param.l0 k x1 (wrap64 (x6 + 1)) x424000 x424001 x424002)) else (none)) else (some ((⟨#[]⟩ : ByteArray), false))
def almanacref11_Param.f (k : Nat) (a0_0 : ByteArray) (l0_1 : List (S77)) (a0_2 : ByteArray) (a1 : ByteArray) : Option (ByteArray × Bool) := almanacref11_Param.l0 k a1 0 a0_0 l0_1 a0_2
set_option maxHeartbeats 8000000 in
set_option maxRecDepth 100000 in
theorem almanacref11_Param.calls (k : Nat) (a0_0 : ByteArray) (A0_1 : Option Addr) (c0_1 : Nat) (l0_1 : List (S77)) (a0_2 : ByteArray) (a1 : ByteArray) (r1 : ByteArray) (r2 : Bool) (w : World) (hr0_1 : Kd.C k77 w A0_1 l0_1.length l0_1) (hc0_1 : l0_1.length ≤ c0_1) (h : almanacref11_Param.f k a0_0 l0_1 a0_2 a1 = some (r1, r2)) :
  Calls Try.prog 70 #[.agg #[.string a0_0, .slice A0_1 l0_1.length c0_1, .string a0_2], .string a1] w fun e w' => e = .returned (.tuple #[.string r1, .bool r2]) ∧ Below w.heap.size w w' := by
 have hu45 := Try.underlying45
 have HR0_1 := Aside0.mk hr0_1
 have HC0_1 := Aside0.mk hc0_1
 clear hr0_1 hc0_1
 have HB := Aside0.mk (Below.refl w.heap.size w)
 have H : (almanacref11_Param.l0 k a1 0 a0_0 l0_1 a0_2) = some (r1, r2) := h
 clear h
 have H' := Aside0.mk H
 clear H
 go_enter Try.func70, Try.ntmps70
 go_wp2_with (first | ((with_reducible refine gate_dst (N := 2) rfl ?_); refine box_event ?hg (N := 2) ?hd (cs := #[.string a0_0, .slice A0_1 l0_1.length c0_1, .string a0_2]) (t := 45) ?hr ?_; (case hd => rfl); (case hg => rfl); (case hr => first | (go_simp; done) | (go_simp; rfl)); intro gb423 hg w3 hbox hb; have n0_ := Aside0.mk (below_step (bU HB) hb); have n1_ := Aside0.mk (hbox); have n2_ := Aside0.mk ((by rw [hg]; exact (below_size (bU HB)) : w.heap.size ≤ gb423)); have n3_ := Aside0.mk ((by rw [hg]; exact (below_size (bU HB)) : w.heap.size ≤ gb423)); clear HB; have HB := n0_; have BK423 := n1_; have GW423 := n2_; have GE423 := n3_; clear n0_ n1_ n2_ n3_; clear hb hbox hg))
 go_loopg [6] k (fun kq v6 w' => ∃ (x6_1 : Int), v6 = .int .i64 x6_1 ∧ Aside0 (almanacref11_Param.l0 kq a1 x6_1 a0_0 l0_1 a0_2 = some (r1, r2)) ∧ Aside0 (kq ≤ k) ∧ Aside0 (w'.heap[gb423]? = some (.cells #[.string a0_0, (.slice A0_1 l0_1.length c0_1), .string a0_2] 45 (0, 0))) ∧ Aside0 (Below w.heap.size w w'))
 case atStart => exact ⟨(0), (by first | rfl | (simp; done) | (simp [*]; done)), H', ⟨Nat.le_refl _⟩, ⟨kU BK423⟩, ⟨bU HB⟩⟩
 case round =>
  clear H'
  try clear p2
  obtain ⟨x6_1, rfl, HA, HK1, BK423, HB⟩ := hrel
  cases gk with
  | zero => exact absurd HA.out (by simp [almanacref11_Param.l0])
  | succ k1 =>
   have H := HA.out
   clear HA
   simp only [almanacref11_Param.l0] at H
   by_cases c4 : x6_1 < (l0_1.length : Int)
   ·rw [if_pos c4] at H
    have c4b0 : decide (x6_1 < (l0_1.length : Int)) = true := decide_eq_true c4
    clear c4
    by_cases c5 : 0 ≤ x6_1
    ·rw [if_pos c5] at H
     have c5b0 : decide (0 ≤ x6_1) = true := decide_eq_true c5
     clear c5
     by_cases c6 : ((rd_T77 l0_1 x6_1).f0).toList = a1.toList
     ·rw [if_pos c6] at H
      have c6b0 : (((rd_T77 l0_1 x6_1).f0).toList == a1.toList) = true := beq_iff_eq.mpr c6
      have c6b1 : (((rd_T77 l0_1 x6_1).f0).toList != a1.toList) = false := bne_eq_false_iff_eq.mpr c6
      clear c6
      by_cases c7 : (((rd_T77 l0_1 x6_1).f1).length : Int) = 0
      ·rw [if_pos c7] at H
       have c7b0 : ((((rd_T77 l0_1 x6_1).f1).length : Int) == 0) = true := beq_iff_eq.mpr c7
       have c7b1 : ((((rd_T77 l0_1 x6_1).f1).length : Int) != 0) = false := bne_eq_false_iff_eq.mpr c7
       clear c7
       simp only [Option.some.injEq, Prod.mk.injEq] at H
       obtain ⟨rfl, rfl⟩ := H
       have hcz8_0 : wr.cell? ⟨gb423, 0, none⟩ = some (.string a0_0) := (blk_cell BK423.out 0).trans rfl
       have hcz8_1 : wr.cell? ⟨gb423, 1, none⟩ = some (.slice A0_1 l0_1.length c0_1) := (blk_cell BK423.out 1).trans rfl
       have hcz8_2 : wr.cell? ⟨gb423, 2, none⟩ = some (.string a0_2) := (blk_cell BK423.out 2).trans rfl
       have hfz8_0 := blk_frozen BK423.out 0
       have hfz8_1 := blk_frozen BK423.out 1
       have hfz8_2 := blk_frozen BK423.out 2
       have p424 : 0 ≤ (x6_1 : Int) := of_decide_eq_true (by first | (with_reducible assumption) | assumption)
       have q424 : x6_1 < (l0_1.length : Int) := of_decide_eq_true (by first | (with_reducible assumption) | assumption)
       obtain ⟨ad424, A424_1, c424_1, e424, hx424_0, hx424_1, hl424_1, hi424_1⟩ := at_T77 HR0_1.out x6_1 p424 q424
       cases e424
       replace hx424_0 := (HB.out.cell (World.block_lt_of_cell? w _ hx424_0)).trans hx424_0
       replace hx424_1 := (HB.out.cell (World.block_lt_of_cell? w _ hx424_1)).trans hx424_1
       have HR424_1 := Aside0.mk hi424_1
       have HC424_1 := Aside0.mk hl424_1
       clear hi424_1 hl424_1
       replace p424 := eq_true p424
       replace q424 := eq_true q424
       have p425 : 0 ≤ (x6_1 : Int) := of_decide_eq_true (by first | (with_reducible assumption) | assumption)
       have q425 : x6_1 < (l0_1.length : Int) := of_decide_eq_true (by first | (with_reducible assumption) | assumption)
       obtain ⟨ad425, A425_1, c425_1, e425, hx425_0, hx425_1, hl425_1, hi425_1⟩ := at_T77 HR0_1.out x6_1 p425 q425
       obtain rfl : ad424 = ad425 := (by injection e425)
       replace hx425_0 := (HB.out.cell (World.block_lt_of_cell? w _ hx425_0)).trans hx425_0
       replace hx425_1 := (HB.out.cell (World.block_lt_of_cell? w _ hx425_1)).trans hx425_1
       have HR425_1 := Aside0.mk hi425_1
       have HC425_1 := Aside0.mk hl425_1
       clear hi425_1 hl425_1
       replace p425 := eq_true p425
       replace q425 := eq_true q425
       have ea_ := Option.some.inj (hx424_1.symm.trans hx425_1)
       injection ea_ with ea_ en_ ec_
       subst ea_
       subst ec_
       clear en_
       go_wp2
       go_ret2
       exact ⟨eqU, bU HB⟩
      ·rw [if_neg c7] at H
       have c7b0 : ((((rd_T77 l0_1 x6_1).f1).length : Int) == 0) = false := beq_eq_false_iff_ne.mpr c7
       have c7b1 : ((((rd_T77 l0_1 x6_1).f1).length : Int) != 0) = true := bne_iff_ne.mpr c7
       have c7b2 : ¬ (((rd_T77 l0_1 x6_1).f1) = []) := fun h_ => c7 (by rw [h_]; rfl)
       by_cases c9 : 0 < (((rd_T77 l0_1 x6_1).f1).length : Int)
       ·rw [if_pos c9] at H
        have c9b0 : decide (0 < (((rd_T77 l0_1 x6_1).f1).length : Int)) = true := decide_eq_true c9
        have c9b1 : decide (0 < ((rd_T77 l0_1 x6_1).f1).length) = true := decide_eq_true (by omega)
        clear c9
        simp only [Option.some.injEq, Prod.mk.injEq] at H
        obtain ⟨rfl, rfl⟩ := H
        have hcz10_0 : wr.cell? ⟨gb423, 0, none⟩ = some (.string a0_0) := (blk_cell BK423.out 0).trans rfl
        have hcz10_1 : wr.cell? ⟨gb423, 1, none⟩ = some (.slice A0_1 l0_1.length c0_1) := (blk_cell BK423.out 1).trans rfl
        have hcz10_2 : wr.cell? ⟨gb423, 2, none⟩ = some (.string a0_2) := (blk_cell BK423.out 2).trans rfl
        have hfz10_0 := blk_frozen BK423.out 0
        have hfz10_1 := blk_frozen BK423.out 1
        have hfz10_2 := blk_frozen BK423.out 2
        have p424 : 0 ≤ (x6_1 : Int) := of_decide_eq_true (by first | (with_reducible assumption) | assumption)
        have q424 : x6_1 < (l0_1.length : Int) := of_decide_eq_true (by first | (with_reducible assumption) | assumption)
        obtain ⟨ad424, A424_1, c424_1, e424, hx424_0, hx424_1, hl424_1, hi424_1⟩ := at_T77 HR0_1.out x6_1 p424 q424
        cases e424
        replace hx424_0 := (HB.out.cell (World.block_lt_of_cell? w _ hx424_0)).trans hx424_0
        replace hx424_1 := (HB.out.cell (World.block_lt_of_cell? w _ hx424_1)).trans hx424_1
        have HR424_1 := Aside0.mk hi424_1
        have HC424_1 := Aside0.mk hl424_1
        clear hi424_1 hl424_1
        replace p424 := eq_true p424
        replace q424 := eq_true q424
        have p425 : 0 ≤ (x6_1 : Int) := of_decide_eq_true (by first | (with_reducible assumption) | assumption)
        have q425 : x6_1 < (l0_1.length : Int) := of_decide_eq_true (by first | (with_reducible assumption) | assumption)
        obtain ⟨ad425, A425_1, c425_1, e425, hx425_0, hx425_1, hl425_1, hi425_1⟩ := at_T77 HR0_1.out x6_1 p425 q425
        obtain rfl : ad424 = ad425 := (by injection e425)
        replace hx425_0 := (HB.out.cell (World.block_lt_of_cell? w _ hx425_0)).trans hx425_0
        replace hx425_1 := (HB.out.cell (World.block_lt_of_cell? w _ hx425_1)).trans hx425_1
        have HR425_1 := Aside0.mk hi425_1
        have HC425_1 := Aside0.mk hl425_1
        clear hi425_1 hl425_1
        replace p425 := eq_true p425
        replace q425 := eq_true q425
        have ea_ := Option.some.inj (hx424_1.symm.trans hx425_1)
        injection ea_ with ea_ en_ ec_
        subst ea_
        subst ec_
        clear en_
        have p426 : 0 ≤ (x6_1 : Int) := of_decide_eq_true (by first | (with_reducible assumption) | assumption)
        have q426 : x6_1 < (l0_1.length : Int) := of_decide_eq_true (by first | (with_reducible assumption) | assumption)
        obtain ⟨ad426, A426_1, c426_1, e426, hx426_0, hx426_1, hl426_1, hi426_1⟩ := at_T77 HR0_1.out x6_1 p426 q426
        obtain rfl : ad424 = ad426 := (by injection e426)
        replace hx426_0 := (HB.out.cell (World.block_lt_of_cell? w _ hx426_0)).trans hx426_0
        replace hx426_1 := (HB.out.cell (World.block_lt_of_cell? w _ hx426_1)).trans hx426_1
        have HR426_1 := Aside0.mk hi426_1
        have HC426_1 := Aside0.mk hl426_1
        clear hi426_1 hl426_1
        replace p426 := eq_true p426
        replace q426 := eq_true q426
        have ea_ := Option.some.inj (hx424_1.symm.trans hx426_1)
        injection ea_ with ea_ en_ ec_
        subst ea_
        subst ec_
        clear en_
        have p427 : 0 ≤ (0 : Int) := (by omega)
        have q427 : 0 < (((rd_T77 l0_1 x6_1).f1).length : Int) := of_decide_eq_true (by first | (with_reducible assumption) | assumption)
        obtain ⟨ad427, e427, hx427_0⟩ := Kd.at_string HR426_1.out 0 p427 q427
        cases e427
        have qi427 : (0 < ((rd_T77 l0_1 x6_1).f1).length) = True := eq_true (by omega)
        (try rw [show ((0 : Int)).toNat = 0 from rfl] at hx427_0)
        (try rw [Addr.add_zero'] at hx427_0)
        replace hx427_0 := (HB.out.cell (World.block_lt_of_cell? w _ hx427_0)).trans hx427_0
        replace p427 := eq_true p427
        replace q427 := eq_true q427
        go_wp2
        go_ret2
        exact ⟨eqU, bU HB⟩
       ·rw [if_neg c9] at H
        exact absurd H (by simp)
     ·rw [if_neg c6] at H
      have c6b0 : (((rd_T77 l0_1 x6_1).f0).toList == a1.toList) = false := beq_eq_false_iff_ne.mpr c6
      have c6b1 : (((rd_T77 l0_1 x6_1).f0).toList != a1.toList) = true := bne_iff_ne.mpr c6
      have H' := Aside0.mk H
      clear H
      have hcz11_0 : wr.cell? ⟨gb423, 0, none⟩ = some (.string a0_0) := (blk_cell BK423.out 0).trans rfl
      have hcz11_1 : wr.cell? ⟨gb423, 1, none⟩ = some (.slice A0_1 l0_1.length c0_1) := (blk_cell BK423.out 1).trans rfl
      have hcz11_2 : wr.cell? ⟨gb423, 2, none⟩ = some (.string a0_2) := (blk_cell BK423.out 2).trans rfl
      have hfz11_0 := blk_frozen BK423.out 0
      have hfz11_1 := blk_frozen BK423.out 1
      have hfz11_2 := blk_frozen BK423.out 2
      have p424 : 0 ≤ (x6_1 : Int) := of_decide_eq_true (by first | (with_reducible assumption) | assumption)
      have q424 : x6_1 < (l0_1.length : Int) := of_decide_eq_true (by first | (with_reducible assumption) | assumption)
      obtain ⟨ad424, A424_1, c424_1, e424, hx424_0, hx424_1, hl424_1, hi424_1⟩ := at_T77 HR0_1.out x6_1 p424 q424
      cases e424
      replace hx424_0 := (HB.out.cell (World.block_lt_of_cell? w _ hx424_0)).trans hx424_0
      replace hx424_1 := (HB.out.cell (World.block_lt_of_cell? w _ hx424_1)).trans hx424_1
      have HR424_1 := Aside0.mk hi424_1
      have HC424_1 := Aside0.mk hl424_1
      clear hi424_1 hl424_1
      replace p424 := eq_true p424
      replace q424 := eq_true q424
      go_wp2
      go_roundg k1
      case measure => have := HK1.out; omega
      case rel => exact ⟨(wrap64 (x6_1 + 1)), (by first | rfl | (simp; done) | (simp [*]; done)), H', ⟨by have := HK1.out; omega⟩, ⟨kU BK423⟩, ⟨bU HB⟩⟩
    ·rw [if_neg c5] at H
     exact absurd H (by simp)
   ·rw [if_neg c4] at H
    have c4b0 : decide (x6_1 < (l0_1.length : Int)) = false := decide_eq_false c4
    clear c4
    simp only [Option.some.injEq, Prod.mk.injEq] at H
    obtain ⟨rfl, rfl⟩ := H
    have hcz12_0 : wr.cell? ⟨gb423, 0, none⟩ = some (.string a0_0) := (blk_cell BK423.out 0).trans rfl
    have hcz12_1 : wr.cell? ⟨gb423, 1, none⟩ = some (.slice A0_1 l0_1.length c0_1) := (blk_cell BK423.out 1).trans rfl
    have hcz12_2 : wr.cell? ⟨gb423, 2, none⟩ = some (.string a0_2) := (blk_cell BK423.out 2).trans rfl
    have hfz12_0 := blk_frozen BK423.out 0
    have hfz12_1 := blk_frozen BK423.out 1
    have hfz12_2 := blk_frozen BK423.out 2
    go_wp2
    go_ret2
    exact ⟨eqU, bU HB⟩
end Go.Proofs.Ytebmbfobmakheaa.PD
