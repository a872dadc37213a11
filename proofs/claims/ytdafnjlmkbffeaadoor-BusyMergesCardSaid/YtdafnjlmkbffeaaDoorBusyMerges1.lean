/- Part 1 of the texts that the claim leans on: the functions' walks, and what they compute. -/
import Derived.WalkKit
import Derived.Test.YtdafnjlmkbffeaaDoorProg
import Derived.Below
import Derived.Deep.Draws
import Derived.Deep.AppendLies
import Derived.Maps.AppendAt
import Derived.OwnWalk
import Derived.Laws.BytesArg
import Derived.Laws.MakeOwn
import Derived.Laws.OwnMore
import Derived.Deep.OwnRows
import Derived.Tactics
import Derived.Lib.ConvBytes
import Derived.Laws.Slices
import Derived.KernelRfl
import Derived.RowKit3
import Derived.Deep.LoopGhost
import Derived.Deep.QuietTactic
import Derived.BigQuiet
import Derived.WideLaws
import Derived.Deep.DeepCutAuto
import Derived.Deep.CutBlock
import Derived.Deep.RegionHeld3
import Derived.Laws.Rows
import Derived.Lib.AppendStr
import Derived.ArgAppend
import Derived.Laws.IdiomCopy
import Derived.OrdersHeld
import Derived.Laws.BitsLemmas
import Derived.RowKit
import Derived.Test.YtdafnjlmkbffeaaDoorWWords
import Derived.Test.YtdafnjlmkbffeaaDoorWLast
import Derived.Test.YtdafnjlmkbffeaaDoorWTab
import Derived.Test.YtdafnjlmkbffeaaDoorWFour
import Derived.Test.YtdafnjlmkbffeaaDoorWQPut
import Derived.Test.YtdafnjlmkbffeaaDoorWApart
import Derived.Test.YtdafnjlmkbffeaaDoorWArr
import Derived.Test.YtdafnjlmkbffeaaDoorWZeros
import Derived.Test.YtdafnjlmkbffeaaDoorWFoot
import Derived.Test.YtdafnjlmkbffeaaDoorWKept
import Derived.Test.YtdafnjlmkbffeaaDoorWShare
import Derived.Test.YtdafnjlmkbffeaaDoorWN
import Derived.Test.YtdafnjlmkbffeaaDoorWFootNe
import Derived.Test.YtdafnjlmkbffeaaDoorWAt
import Derived.Test.YtdafnjlmkbffeaaDoorWEqStruct
import Derived.Test.YtdafnjlmkbffeaaDoorWRepsOne
import Derived.Test.YtdafnjlmkbffeaaDoorWInv
import Derived.Test.YtdafnjlmkbffeaaDoorWInvWords
import Derived.Test.YtdafnjlmkbffeaaDoorWGuard
import Derived.Test.YtdafnjlmkbffeaaDoorWNEv
import Derived.Test.YtdafnjlmkbffeaaDoorWMore
import Derived.RangeFuncBox
import Derived.Lib.SliceRun
import Derived.Shelf.Strings.Repeat
import Derived.Shelf.LaysM
import Derived.Shelf.Strconv.Itoa4
import Derived.Ground.SlgcProg
import Derived.Shelf.SlicesG.Cmp
import Derived.Shelf.SlSortCmp.NoneTotal
import Derived.Ground.SlsfProg
/- A store leaves the same places there: a law that the walk's simp takes, whatever the cell. -/
namespace Go.Proofs.YtdafnjlmkbffeaaDoor.PD
theorem isSome_setCell (w : World) (p q : Addr) (x : Value) : ((w.setCell p x).cell? q).isSome = (w.cell? q).isSome := by
  by_cases e : p = q
  · subst e
    cases h : w.cell? p with
    | some v => rw [World.cell?_setCell_same w p x h]; rfl
    | none =>
      unfold World.cell? at h
      simp only [World.setCell, World.cell?, Array.getElem?_modify, if_true]
      cases hb : w.heap[p.block]? with
      | none => simp
      | some o =>
        cases o <;> simp_all
  · rw [World.cell?_setCell_other w p q x e]
end Go.Proofs.YtdafnjlmkbffeaaDoor.PD
-- written by a program of this work (mk.sh, over the kit's print; stubs are proved by hand)
namespace Go.Proofs.YtdafnjlmkbffeaaDoor.PD
open Go.RowKit Go.Proofs.YtdafnjlmkbffeaaDoorW.PrintWords Go.Proofs.YtdafnjlmkbffeaaDoorW.PrintLast Go.Proofs.YtdafnjlmkbffeaaDoorW.PrintMore
attribute [local go_sem] isSome_setCell max2_int min2_int max_two min_two max_three min_three max_four min_four   -- for this text's walks alone
set_option linter.unusedVariables false
set_option linter.unusedSimpArgs false



def errW : Option Int → Value
  | none => .nilIface
  | some c => .iface 0 (.int .i64 c)
theorem errW_none : errW none = .nilIface := rfl
theorem errW_some (c : Int) : errW (some c) = .iface 0 (.int .i64 c) := rfl

theorem info26 : (Tryd.prog.info? 26).map (fun i => (i.zero, i.size, i.bytes)) = some (some (.agg #[(.int .i64 0), (.int .i64 0), (.int .i64 0)]), 3, 24) := by kernel_rfl
-- the values' own types
/-! #### struct type 26 -/
structure S26 where
  f0 : Int
  f1 : Int
  f2 : Int
def z26 : S26 := ⟨(0 : Int), (0 : Int), (0 : Int)⟩
def k26 : Kd S26 := Kd.iso (Kd.pair (Kd.int .i64) (Kd.pair (Kd.int .i64) (Kd.int .i64))) (fun x : S26 => (x.f0, x.f1, x.f2))
theorem k26_open {w : World} {x : S26} {cs : List Value} (h : k26.K w x cs) : cs = [.int .i64 x.f0, .int .i64 x.f1, .int .i64 x.f2] := by
  obtain ⟨_, _, rfl, rfl, ⟨_, _, rfl, rfl, rfl⟩⟩ := h
  exact rfl
theorem k26_openM {w : World} {base : Nat} {ok : Nat → Prop} {x : S26} {cs : List Value} (h : k26.M w base ok x cs) : cs = [.int .i64 x.f0, .int .i64 x.f1, .int .i64 x.f2] := by
  obtain ⟨_, _, rfl, rfl, ⟨_, _, rfl, rfl, rfl⟩⟩ := h
  exact rfl
theorem k26_mk (w : World) (x : S26)  : k26.K w x [.int .i64 x.f0, .int .i64 x.f1, .int .i64 x.f2] := ⟨[.int .i64 x.f0], [.int .i64 x.f1, .int .i64 x.f2], rfl, rfl, ⟨[.int .i64 x.f1], [.int .i64 x.f2], rfl, rfl, rfl⟩⟩
theorem k26_mkM (w : World) (base : Nat) (ok : Nat → Prop) (x : S26)  : k26.M w base ok x [.int .i64 x.f0, .int .i64 x.f1, .int .i64 x.f2] := ⟨[.int .i64 x.f0], [.int .i64 x.f1, .int .i64 x.f2], rfl, rfl, ⟨[.int .i64 x.f1], [.int .i64 x.f2], rfl, rfl, rfl⟩⟩
def rd_T26 (xs : List S26) (i : Int) : S26 := xs.getD i.toNat z26
theorem at_T26 {w : World} {A : Option Addr} {n : Nat} {xs : List S26} (h : Kd.C k26 w A n xs) (i : Int) (h0 : 0 ≤ i) (h1 : i < n) : ∃ ad , A = some ad ∧ w.cell? (ad.add (i.toNat * 3)) = some (.int .i64 (rd_T26 xs i).f0) ∧ w.cell? ⟨(ad.add (i.toNat * 3)).block, (ad.add (i.toNat * 3)).off + 1, none⟩ = some (.int .i64 (rd_T26 xs i).f1) ∧ w.cell? ⟨(ad.add (i.toNat * 3)).block, (ad.add (i.toNat * 3)).off + 2, none⟩ = some (.int .i64 (rd_T26 xs i).f2) := by
  obtain ⟨ad, c, e, _, hK, hc0⟩ := Kd.C_get h z26 i h0 h1
  have hc : ∀ j u, c[j]? = some u → w.cell? (ad.add (i.toNat * 3 + j)) = some u := hc0
  obtain rfl := k26_open hK
  exact ⟨ad, e, hc 0 _ rfl, by rw [← add_field _ _ 1 (by omega)]; exact hc 1 _ rfl, by rw [← add_field _ _ 2 (by omega)]; exact hc 2 _ rfl⟩

end Go.Proofs.YtdafnjlmkbffeaaDoor.PD
/- Laws on calls of function values, and on boxes, over the print's words. -/
namespace Go.Proofs.YtdafnjlmkbffeaaDoor.PD
open Go.RowKit Go.Proofs.YtdafnjlmkbffeaaDoorW.PrintWords Go.Proofs.YtdafnjlmkbffeaaDoorW.PrintLast Go.Proofs.YtdafnjlmkbffeaaDoorW.PrintMore
section
variable {P : Program} {ops : Array Oper} {rest : List Oper} {o : Oper} {a : Act} {Q : Exit → Act → World → Prop} {W : World}
/-- The operation is a call of the function value in this slot. -/
theorem gate_tmp {t : Tmp} {xs : Array Operand} {ts : Array TypeId} (_ho : o.op = .call { callee := .value (.tmp t), args := xs, argTypes := ts }) (h : wpList P ops Q (o :: rest) a W) : wpList P ops Q (o :: rest) a W := h
/-- A call of a function value in a plain region: what it has captured stands behind the arguments. -/
theorem goesF_ {rest : List Oper} {oi : Oper} {a : Act} {w : World} (N : Option Tmp) (hd : oi.dst = N) (hg : oi.guard = none) {f : FuncId} {fn : Func} {xs : Array Operand} {ts : Array TypeId} (hf : P.funcs[f]? = some fn) (hname : (fn.name == "runtime.NumGoroutine") = false) (hb : fn.body.isSome = true) (args : Array Value)
    {c : Operand} {lb : Array Value} (hop : oi.op = .call { callee := .value c, args := xs, argTypes := ts }) (hc : a.eval c = .func (.func f) #[] lb) (hargs : xs.map a.eval ++ lb = args)
    (h : Calls P f args w fun e w' => ∃ v, e = .returned v ∧ wpList P ops Q rest (a.put N v) w') : wpList P ops Q (oi :: rest) a w := by
  refine wpList_plain hg fun K hK => ?_
  have he := enters_ hf hname hb args w
  have hrun : (execOp a.eval oi).run P w = .ok (.enter f args) w := by
    unfold execOp
    simp [hop, resolve, Deferred.ofValue, invoke, hc, hargs, he]
  unfold Oper.wp
  rw [hrun, Oper.upon_enter]
  refine h.mono fun e w'' hh => ?_
  obtain ⟨v, rfl, hk⟩ := hh
  subst hd
  exact hK _ _ hk
end
theorem kept_blk {w W : World} {S : Nat → Prop} {g : Nat} {o : Obj} (hk : Kept w W S) (hs : ¬ S g) (hb : w.heap[g]? = some o) : W.heap[g]? = some o :=
  (hk.2 g (Array.getElem?_eq_some_iff.1 hb).1 hs).trans hb
end Go.Proofs.YtdafnjlmkbffeaaDoor.PD
/- Chapter 25: what Merge answers, as a plain function. -/
namespace Go.Proofs.YtdafnjlmkbffeaaDoor.PD
open Go.RowKit Go.Proofs.YtdafnjlmkbffeaaDoorW.PrintWords
instance decS26 : DecidableEq S26 := fun a b => by
  cases a with | mk a0 a1 a2 => cases b with | mk b0 b1 b2 =>
  rw [S26.mk.injEq]
  exact inferInstance
/-- It takes no time. -/
def deadI (x : S26) : Bool := decide (x.f1 ≤ x.f0)
def liveL (l : List S26) : List S26 := l.filter fun x => !deadI x
/-- One interval more, behind those that are there; what touches is made one. -/
def stepM (out : List S26) (x : S26) : List S26 :=
  match out.getLast? with
  | none => out ++ [⟨x.f0, x.f1, x.f0⟩]
  | some y => if x.f0 ≤ y.f1 then out.dropLast ++ [⟨y.f0, max y.f1 x.f1, y.f2⟩] else out ++ [⟨x.f0, x.f1, x.f0⟩]
def mergeS (s : List S26) : List S26 := s.foldl stepM []
/-- Into a row that is sorted, behind those that begin at once. -/
def insR (x : S26) : List S26 → List S26
  | [] => [x]
  | y :: r => if x.f0 < y.f0 then x :: y :: r else y :: insR x r
def sortR (l : List S26) : List S26 := l.foldl (fun s x => insR x s) []
def mergeL (l : List S26) : List S26 := mergeS (sortR (liveL l))
end Go.Proofs.YtdafnjlmkbffeaaDoor.PD
/- slices.Clone and IndexFunc at intervals, and what Merge asks of each. -/
namespace Go.Proofs.YtdafnjlmkbffeaaDoor.PD
open Go.RowKit Go.Proofs.YtdafnjlmkbffeaaDoorW.PrintWords Go.Proofs.YtdafnjlmkbffeaaDoorW.PrintLast Go.Proofs.YtdafnjlmkbffeaaDoorW.PrintMore
attribute [local go_sem] isSome_setCell max2_int min2_int max_two min_two
set_option linter.unusedVariables false
set_option linter.unusedSimpArgs false
set_option maxHeartbeats 8000000 in
set_option maxRecDepth 100000 in
theorem cloneSp (A0 : Option Addr) (c0 : Nat) (l0 : List S26) (w : World) (hr0 : Kd.C k26 w A0 l0.length l0) (hc0 : l0.length ≤ c0) (hlim : l0.length < 5864062014805) :
    Calls Tryd.prog 9 #[.slice A0 l0.length c0] w fun e w' => ∃ v0_ : Value, e = .returned (v0_) ∧ Kd.R k26 26 w' w.heap.size (fun _ => True) v0_ l0 ∧ Below w.heap.size w w' := by
  rcases A0 with _ | ad
  · have hl : l0 = [] := by
      rcases Nat.eq_zero_or_pos l0.length with h0 | h0
      · exact List.eq_nil_of_length_eq_zero h0
      · obtain ⟨ad, h', _⟩ := hr0.2.2 h0
        cases h'
    subst hl
    have hq : ∀ (W : World) (n c n' c' : Nat), (binOp .eql 22 (.slice none n c) (.slice none n' c')).run Tryd.prog W = .ok (.bool true) W := fun W n c n' c' => Lib.run_eql_slice_nil W _ _ none n c n' c' Tryd.underlying22
    go_enter Tryd.func9, Tryd.ntmps9
    go_wp2
    go_ret
    exact ⟨_, rfl, Kd.R_nil _ _ _ _ _, Below.refl _ _⟩
  have hq : ∀ (W : World) (n c n' c' : Nat), (binOp .eql 22 (.slice (some ad) n c) (.slice none n' c')).run Tryd.prog W = .ok (.bool false) W := fun W n c n' c' => Lib.run_eql_slice_nil W _ _ (some ad) n c n' c' Tryd.underlying22
  have HR0 := Aside0.mk hr0
  have HC0 := Aside0.mk hc0
  clear hr0 hc0
  have HB := Aside0.mk (Below.refl w.heap.size w)
  obtain ⟨y105, hy105⟩ : ∃ y_ : List S26, y_ = (([] : List S26)) := ⟨_, rfl⟩
  have Ny105 := Aside0.mk hy105
  clear hy105
  have c2 : y105.length + l0.length < 5864062014805 := by rw [Ny105.out]; simpa using hlim
  clear hlim
  have LMc2 := Aside0.mk c2
  clear c2
  obtain ⟨y108, hy108⟩ : ∃ y_ : List S26, y_ = (y105 ++ l0) := ⟨_, rfl⟩
  have Ny108 := Aside0.mk hy108
  clear hy108
  have hyl : y108 = l0 := by rw [Ny108.out, Ny105.out]; rfl
  have HYL := Aside0.mk hyl
  clear hyl
  go_enter Tryd.func9, Tryd.ntmps9
  go_wp2_with (first | ((with_reducible refine gate_dst (N := 5) rfl ?_); refine Kd.R_lit k26 _ 26 ?hg (N := 5) ?hd (xs := ([] : List S26)) (inner := []) (ok := fun _ => True) (okp := fun _ => True) ?hr ?hp (fun _ hk => hk) trivial (Below.refl _ _) (Nat.le_refl _) (by simp) ?_; (case hd => rfl); (case hg => rfl); (case hr => first | (go_simp; done) | (go_simp; rfl)); (case hp => exact (Reps.none _ _)); intro v106 w3 ho4 hb hg_ hnew_; clear hg_ hnew_; (first | rw [← Ny105.out] at ho4 | (simp only [Int.reduceToNat] at ho4; rw [← Ny105.out] at ho4)); have n0_ := Aside0.mk (Kd.R_lower ho4 (below_size (by repeat (first | (with_reducible first | exact HB.out | apply below_alloc | apply pw_below_drewN | apply below_drew1) | exact HB.out)))); have n1_ := Aside0.mk (below_step (by repeat (first | (with_reducible first | exact HB.out | apply below_alloc | apply pw_below_drewN | apply below_drew1) | exact HB.out)) hb); clear HB; have HO107 := n0_; have HB := n1_; clear n0_ n1_; clear hb ho4) | ((with_reducible refine gate_builtin (b := .append) (xs := #[.tmp 5, .tmp 6]) rfl ?_); at_builtin; refine Kd.R_append_rows k26 (w0 := w) w.heap.size rfl (.tmp 5) (.tmp 6) 22 26 (.agg #[(.int .i64 0), (.int .i64 0), (.int .i64 0)]) 24 rfl Tryd.underlying22 info26 rfl (by decide) (by omega) v106 y105 l0 _ _ _ (fun _ => True) (fun _ => False) rfl rfl ?aO ?aR (fun _ _ h => h) (fun _ h => h.elim) ?aF ?aB ?aS ?aL ?_; (case aR => repeat (first | exact (Kd.C_below HR0.out HB.out) | (with_reducible refine Kd.C_alloc ?_ _) | (with_reducible refine Kd.C_drewN ?_ _) | (with_reducible refine Kd.C_drew ?_))); (case aB => exact (by repeat (first | (with_reducible first | exact HB.out | apply below_alloc | apply pw_below_drewN | apply below_drew1) | exact HB.out))); (case aF => exact (fun _ _ => trivial)); (case aO => exact (by (with_reducible repeat (first | apply Kd.R_alloc | apply Kd.R_drewN | apply Kd.R_drew)); exact HO107.out)); (case aS => exact (below_size (by repeat (first | (with_reducible first | exact HB.out | apply below_alloc | apply pw_below_drewN | apply below_drew1) | exact HB.out)))); (case aL => have := LMc2.out; omega); intro v109 w5 ho hb hg hat; rw [← Ny108.out] at ho; have n0_ := Aside0.mk (hb); have n1_ := Aside0.mk (ho); clear HB; clear HO107; have HB := n0_; have HO110 := n1_; clear n0_ n1_; clear ho hb hg hat))
  have HO110x := HO110.out
  go_ret
  exact ⟨_, by first | rfl | (simp [errW_none, errW_some] <;> rfl) | (simp [*, errW_none, errW_some] <;> rfl), by (with_reducible repeat (first | apply Kd.R_alloc | apply Kd.R_drewN | apply Kd.R_drew)); (rw [HYL.out] at HO110x); exact HO110x, by repeat (first | (with_reducible first | exact HB.out | apply below_alloc | apply pw_below_drewN | apply below_drew1) | exact HB.out)⟩
set_option maxHeartbeats 1600000 in
set_option maxRecDepth 100000 in
theorem dead_calls (x : S26) (w : World) :
    Calls Tryd.prog 10 #[.agg #[.int .i64 x.f0, .int .i64 x.f1, .int .i64 x.f2]] w fun e w' => e = .returned (.bool (deadI x)) ∧ Below w.heap.size w w' := by
  unfold deadI
  have HB1 := Aside0.mk (below_alloc (Below.refl w.heap.size w) (.cells #[.int .i64 x.f0, .int .i64 x.f1, .int .i64 x.f2] 26))
  go_enter Tryd.func10, Tryd.ntmps10
  go_wp2
  go_ret
  exact ⟨rfl, HB1.out⟩
/-- The first place whose element passes, or -1. -/
def idxP {α : Type} (p : α → Bool) (l : List α) : Int := match l.findIdx? p with | some i => (i : Int) | none => -1
theorem idxP_at {α : Type} (p : α → Bool) (l : List α) (i : Nat) (hi : i < l.length) (h : p l[i] = true) (hno : ∀ j (hj : j < i), p (l[j]'(by omega)) = false) : idxP p l = i := by
  unfold idxP
  rw [List.findIdx?_eq_some_iff_getElem.2 ⟨hi, h, fun j hj => by simp [hno j hj]⟩]
theorem idxP_none {α : Type} (p : α → Bool) (l : List α) (hno : ∀ j (hj : j < l.length), p l[j] = false) : idxP p l = -1 := by
  unfold idxP
  rw [List.findIdx?_eq_none_iff.2 (fun x hx => by obtain ⟨j, hj, rfl⟩ := List.getElem_of_mem hx; exact hno j hj)]
set_option maxRecDepth 100000 in
set_option maxHeartbeats 1600000 in
theorem indexSp (fk : Nat) (fn : Func) (hfn : Tryd.prog.funcs[fk]? = some fn) (hname : (fn.name == "runtime.NumGoroutine") = false) (hbody : fn.body.isSome = true) (lb : Array Value) (p : S26 → Bool)
    (A0 : Option Addr) (c0 : Nat) (l0 : List S26) (w : World) (hr0 : Kd.C k26 w A0 l0.length l0)
    (hp : ∀ x ∈ l0, ∀ W, Below w.heap.size w W → Calls Tryd.prog fk (#[.agg #[.int .i64 x.f0, .int .i64 x.f1, .int .i64 x.f2]] ++ lb) W fun e W' => e = .returned (.bool (p x)) ∧ Below W.heap.size W W') :
    Calls Tryd.prog 15 #[.slice A0 l0.length c0, .func (.func fk) #[] lb] w fun e w' => e = .returned (.int .i64 (idxP p l0)) ∧ Below w.heap.size w w' := by
  have HR0 := Aside0.mk hr0
  have hml : l0.length ≤ 9223372036854775807 := by have := hr0.2.1; unfold maxLen at this; omega
  clear hr0
  have HP := Aside0.mk hp
  clear hp
  have HB := Aside0.mk (Below.refl w.heap.size w)
  go_enter Tryd.func15, Tryd.ntmps15
  go_wp2
  go_loopw [8] (fun v wr => ∃ k : Nat, v = .int .i64 k ∧ k ≤ l0.length ∧ Aside0 (∀ j, (hj : j < l0.length) → j < k → p l0[j] = false) ∧ Aside0 (Below w.heap.size w wr)) (fun v _ => l0.length - (intOf v).toNat)
  case atStart => exact ⟨0, rfl, Nat.zero_le _, ⟨fun j _ hj => absurd hj (Nat.not_lt_zero _)⟩, HB⟩
  case round =>
    obtain ⟨k, rfl, hk, hno, hb⟩ := hrel
    by_cases hlt : k < l0.length
    · have hlt0 : decide ((k : Int) < (l0.length : Int)) = true := decide_eq_true (by omega)
      obtain ⟨ad, e, hx0, hx1, hx2⟩ := at_T26 HR0.out (k : Int) (by omega) (by omega)
      subst e
      replace hx0 := (hb.out.cell (World.block_lt_of_cell? w _ hx0)).trans hx0
      replace hx1 := (hb.out.cell (World.block_lt_of_cell? w _ hx1)).trans hx1
      replace hx2 := (hb.out.cell (World.block_lt_of_cell? w _ hx2)).trans hx2
      have hget : rd_T26 l0 (k : Int) = l0[k] := by simp [rd_T26, hlt]
      have hc := HP.out l0[k] (List.getElem_mem hlt) wr hb.out
      rw [hget] at hx0 hx1 hx2
      simp only [Int.toNat_natCast] at hx0 hx1 hx2
      cases hpk : p l0[k] with
      | true =>
        rw [hpk] at hc
        have HC := Aside0.mk hc
        clear hc
        go_wp2_with ((with_reducible refine gate_tmp (t := 11) rfl ?_); refine goesF_ (some 16) rfl rfl hfn hname hbody (args := #[.agg #[.int .i64 l0[k].f0, .int .i64 l0[k].f1, .int .i64 l0[k].f2]] ++ lb) rfl rfl (by (try simp only [List.map_toArray, List.map_cons, List.map_nil]); first | done | rfl) ?_; refine HC.out.mono ?_; rintro e W' ⟨rfl, hb'⟩; refine ⟨_, rfl, ?_⟩)
        go_ret
        refine ⟨?_, hb.out.trans (hb'.mono hb.out.size)⟩
        rw [idxP_at p l0 k hlt hpk (fun j hj => hno.out j (by omega) hj)]
        rfl
      | false =>
        rw [hpk] at hc
        have HC := Aside0.mk hc
        clear hc
        go_wp2_with ((with_reducible refine gate_tmp (t := 11) rfl ?_); refine goesF_ (some 16) rfl rfl hfn hname hbody (args := #[.agg #[.int .i64 l0[k].f0, .int .i64 l0[k].f1, .int .i64 l0[k].f2]] ++ lb) rfl rfl (by (try simp only [List.map_toArray, List.map_cons, List.map_nil]); first | done | rfl) ?_; refine HC.out.mono ?_; rintro e W' ⟨rfl, hb'⟩; refine ⟨_, rfl, ?_⟩)
        go_roundw
        case rel =>
          refine ⟨k + 1, by simp, hlt, ⟨fun j hj hjk => ?_⟩, ⟨hb.out.trans (hb'.mono hb.out.size)⟩⟩
          rcases Nat.lt_or_ge j k with h | h
          · exact hno.out j hj h
          · obtain rfl : j = k := by omega
            exact hpk
        case measure => show l0.length - (((k : Int) + 1)).toNat < l0.length - ((k : Int)).toNat; omega
    · have hlt0 : decide ((k : Int) < (l0.length : Int)) = false := decide_eq_false (by omega)
      go_wp2
      go_ret
      refine ⟨?_, hb.out⟩
      rw [idxP_none p l0 (fun j hj => hno.out j hj (by omega))]
      rfl
end Go.Proofs.YtdafnjlmkbffeaaDoor.PD
/- slices.DeleteFunc at intervals. -/
namespace Go.Proofs.YtdafnjlmkbffeaaDoor.PD
open Go.RowKit Go.Proofs.YtdafnjlmkbffeaaDoorW.PrintWords Go.Proofs.YtdafnjlmkbffeaaDoorW.PrintLast Go.Proofs.YtdafnjlmkbffeaaDoorW.PrintMore
attribute [local go_sem] isSome_setCell max2_int min2_int max_two min_two
set_option linter.unusedVariables false
set_option linter.unusedSimpArgs false
theorem clear_run (w : World) (ty : TypeId) (g o n c : Nat) {cur : Array Value} (hh : w.heap[g]? = some (.cells cur 26 (0, 0))) (hn : 0 < n) (hfit : o + n * 3 ≤ cur.size) :
    ∃ zs : List Value, zs.length = n * 3 ∧ (Builtin.clear_ #[22] ty #[.slice (some ⟨g, o, none⟩) n c]).run Tryd.prog w = .ok (.tuple #[]) (w.setCells g o zs) := by
  have hl : (Builtin.zeroCells (Value.agg #[(.int .i64 0), (.int .i64 0), (.int .i64 0)]).cells n).toList.length = n * 3 := by simp [Builtin.zeroCells, Value.cells]
  refine ⟨_, hl, ?_⟩
  have hst := run_storeCells_cells (P := Tryd.prog) g o (Builtin.zeroCells (Value.agg #[(.int .i64 0), (.int .i64 0), (.int .i64 0)]).cells n).toList 0 w
    (fun j hj => by rw [cell_of_row w g _ cur 26 (0, 0) hh]; rw [hl] at hj; simp; omega) (fun j _ => blk_frozen hh _)
    (by
      intro v hv
      simp only [Builtin.zeroCells, Value.cells, Array.toList_map, List.mem_map] at hv
      obtain ⟨i, _, rfl⟩ := hv
      have : i % 3 = 0 ∨ i % 3 = 1 ∨ i % 3 = 2 := by omega
      rcases this with h | h | h <;> simp [h, Value.oneCell'])
  simp only [Nat.add_zero] at hst
  obtain ⟨m, rfl⟩ : ∃ m, n = m + 1 := ⟨n - 1, by omega⟩
  have hz : (zeroValue 26).run Tryd.prog w = .ok (.agg #[(.int .i64 0), (.int .i64 0), (.int .i64 0)]) w := by
    have := Tryd.zeroValue26
    exact this _
  simp [Builtin.clear_, run_underlying Tryd.underlying22, hz, hst]
/-- What lies behind the first m spans of a row may change. -/
theorem R_cut {g n cap m : Nat} {W : World} {base : Nat} {xs : List S26} (h : Kd.R k26 26 W base (fun k => k = g) (.slice (some ⟨g, 0, none⟩) n cap) xs) (hm : m ≤ n) (zs : List Value) (hz : m * 3 + zs.length ≤ n * 3) :
    Kd.R k26 26 (W.setCells g (m * 3) zs) base (fun k => k = g) (.slice (some ⟨g, 0, none⟩) m cap) (xs.take m) ∧ W.grownBy (W.setCells g (m * 3) zs) (some g) := by
  have hn := (Kd.R_reads' h).1
  have ht := Kd.R_take h (m := m) (by omega)
  obtain ⟨s1, s2, s3, s4⟩ := setCells_same g zs (m * 3) W
  have hgr : W.grownBy (W.setCells g (m * 3) zs) (some g) := ⟨s1, s2, s3, by rw [s4]; exact Nat.le_refl _, fun k _ hk => setCells_far _ _ k (fun he => hk (by rw [he]))⟩
  refine ⟨?_, hgr⟩
  obtain ⟨hok, inner, hown, hrep⟩ := ht
  obtain ⟨_, inner0, hown0, _⟩ := h
  have e : (xs.take m).length = m := by rw [List.length_take]; omega
  rw [e] at hown
  rw [← hn] at hown0
  refine ⟨hok, inner, ?_, hrep.imp_ (fun x c hM => ?_)⟩
  · rw [e]
    refine ⟨hown.1, ?_⟩
    rcases hown.2 with ⟨hv, _⟩ | ⟨g', cap', cur, hv, hb, hh, hnc, hcm, hcs, htake⟩
    · cases hv
    cases hv
    rcases hown0.2 with ⟨hv, _⟩ | ⟨g', cap', cur0, hv, hb0, hh0, hnc0, hcm0, hcs0, htake0⟩
    · cases hv
    cases hv
    have hcs2 : cur.size = cap * 3 := hcs
    have htk : cur.toList.take (m * 3) = inner := htake
    subst htk
    obtain ⟨cur', q3, q4, q5⟩ := setCells_row zs (m * 3) W cur hh (by omega)
    refine .inr ⟨g, cap, cur', rfl, hb, q3, hnc, hcm, by rw [q4, hcs], ?_⟩
    show cur'.toList.take (m * 3) = cur.toList.take (m * 3)
    rw [q5]
    rw [List.append_assoc, List.take_append_of_le_length (by rw [List.length_take, Array.length_toList]; omega), List.take_take, Nat.min_self]
  · obtain rfl := k26_openM hM
    exact k26_mkM _ _ _ _
theorem box3_store (W : World) (g : Nat) (a b c x y z : Value) (h : W.heap[g]? = some (.cells #[a, b, c] 26 (0, 0))) :
    (((W.setCell ⟨g, 0, none⟩ x).setCell ⟨g, 1, none⟩ y).setCell ⟨g, 2, none⟩ z).heap[g]? = some (.cells #[x, y, z] 26 (0, 0)) := by
  have h1 := blk_set h 0 x
  have h2 := blk_set h1 1 y
  have h3 := blk_set h2 2 z
  simpa using h3
theorem cc3 {W : World} {g o : Nat} {a b c : Value} (h0 : W.cell? ⟨g, o, none⟩ = some a) (h1 : W.cell? ⟨g, o + 1, none⟩ = some b) (h2 : W.cell? ⟨g, o + 2, none⟩ = some c) : ∀ j u, [a, b, c][j]? = some u → W.cell? ⟨g, o + j, none⟩ = some u := by
  intro j u hu
  rcases j with _ | _ | _ | j
  · simp at hu; subst hu; exact h0
  · simp at hu; subst hu; exact h1
  · simp at hu; subst hu; exact h2
  · simp at hu
theorem World.below_box3 {W w1 : World} {g : Nat} {x y z : Value} (h : Below W.heap.size W w1) (hg : g = W.heap.size) : Below W.heap.size W (((w1.setCell ⟨g, 0, none⟩ x).setCell ⟨g, 1, none⟩ y).setCell ⟨g, 2, none⟩ z) := by
  have : W.heap.size ≤ g := by omega
  exact below_set (below_set (below_set h this) this) this
set_option maxRecDepth 100000 in
set_option maxHeartbeats 4000000 in
theorem delete_calls (base : Nat) (v : Value) (l : List S26) (w : World) (hr : Kd.R k26 26 w base (fun _ => True) v l) (hbs : base ≤ w.heap.size) :
    Calls Tryd.prog 8 #[v, .func (.func 10) #[] #[]] w fun e w' => ∃ v', e = .returned v' ∧ Kd.R k26 26 w' base (fun _ => True) v' (liveL l) ∧ Below base w w' := by
  obtain ⟨A, c, rfl⟩ := Kd.R_slice hr
  have hC := (Kd.R_reads' hr).2.2
  have hcc := (Kd.R_reads' hr).2.1
  have hidx := indexSp 10 Tryd.f10 Tryd.func10 (by kernel_rfl) rfl #[] (fun x => deadI x) A c l w hC
    (fun x _ W _ => dead_calls x W)
  have hml : l.length ≤ 9223372036854775807 := by have := hC.2.1; unfold maxLen at this; omega
  cases hfi : l.findIdx? (fun x => deadI x) with
  | none =>
    have e1 : idxP (fun x => deadI x) l = -1 := by unfold idxP; rw [hfi]
    rw [e1] at hidx
    have e2 : liveL l = l := by
      unfold liveL
      rw [List.filter_eq_self]
      intro x hx
      rw [List.findIdx?_eq_none_iff] at hfi
      simp [hfi x hx]
    rw [e2]
    have HI := Aside0.mk hidx
    have HR := Aside0.mk hr
    clear hidx hr hC
    go_enter Tryd.func8, Tryd.ntmps8
    go_wp2_with (go_at_call 15; refine HI.out.mono ?_; rintro e w' ⟨rfl, hb⟩)
    go_ret
    exact ⟨_, rfl, Kd.R_below HR.out hb, hb.mono hbs⟩
  | some k0 =>
    have e1 : idxP (fun x => deadI x) l = (k0 : Int) := by unfold idxP; rw [hfi]
    rw [e1] at hidx
    rw [List.findIdx?_eq_some_iff_getElem] at hfi
    obtain ⟨hk0, ht0, hno⟩ := hfi
    have e2 : (l.take (k0 + 1)).filter (fun x => !deadI x) = l.take k0 := by
      rw [List.take_add_one, List.filter_append]
      have h1 : (l.take k0).filter (fun x => !deadI x) = l.take k0 := by
        rw [List.filter_eq_self]
        intro x hx
        obtain ⟨j, hj, rfl⟩ := List.getElem_of_mem hx
        rw [List.length_take] at hj
        rw [List.getElem_take]
        have := hno j (by omega)
        simpa using this
      rw [h1, List.getElem?_eq_getElem hk0]
      simp [ht0]
    obtain ⟨g, cap, hAe, hbg, hglt, cells, hcells⟩ := Kd.R_form hr (by omega)
    injection hAe with hA' _ hc'
    subst hA' hc'
    have hne1 : ((k0 : Int) == -1) = false := beq_eq_false_iff_ne.2 (by omega)
    have hRg : Kd.R k26 26 w base (fun k => k = g) (.slice (some ⟨g, 0, none⟩) l.length c) l := by
      refine ⟨fun k hk => ?_, hr.2.imp_ (fun x cs hM => ?_)⟩
      · simp [Value.ownBlock] at hk; omega
      · obtain rfl := k26_openM hM
        exact k26_mkM _ _ _ _
    have HI := Aside0.mk hidx
    have HR := Aside0.mk hRg
    have HE := Aside0.mk e2
    clear hidx hr hC hRg e2 e1 hno ht0 hcells
    go_enter Tryd.func8, Tryd.ntmps8
    go_wp2_with (go_at_call 15; refine HI.out.mono ?_; rintro e w1 ⟨rfl, hb⟩)
    have HR1 := Aside0.mk (Kd.R_below HR.out hb)
    have HW1 := Aside0.mk (hb.mono hbs)
    have hg1 : g < w1.heap.size := Nat.lt_of_lt_of_le hglt hb.size
    have hb1 : base ≤ w1.heap.size := Nat.le_trans hbs hb.size
    clear hb HI
    go_loopw [5, 6, 7] (fun s5 s6 _ wr => ∃ (i j : Nat) (rows : List S26), s5 = .int .i64 (i : Int) ∧ s6 = .int .i64 (j : Int) ∧ i < j ∧ j ≤ l.length ∧ rows.length = l.length ∧ Aside0 (rows.take i = (l.take j).filter (fun x => !deadI x)) ∧ Aside0 (rows.drop j = l.drop j) ∧
        Aside0 (Kd.R k26 26 wr base (fun k => k = g) (.slice (some ⟨g, 0, none⟩) l.length c) rows) ∧ Aside0 (Below base w wr) ∧ g < wr.heap.size ∧ base ≤ wr.heap.size)
      (fun _ s6 _ _ => l.length - (intOf s6).toNat)
    case atStart => exact ⟨k0, k0 + 1, l, rfl, by simp, by omega, by omega, rfl, ⟨HE.out.symm⟩, ⟨rfl⟩, HR1, HW1, hg1, hb1⟩
    case round =>
      obtain ⟨i, j, rows, rfl, rfl, hij, hjl, hrl, ht, hd, HRr, HWr, hgr, hbr⟩ := hrel
      by_cases hlt : j < l.length
      · have hlt0 : decide ((j : Int) < (l.length : Int)) = true := decide_eq_true (by omega)
        have hrj : rd_T26 rows (j : Int) = l[j] := by
          have h1 : (rows.drop j)[0]? = (l.drop j)[0]? := by rw [hd.out]
          rw [List.getElem?_drop, List.getElem?_drop] at h1
          simp only [Nat.add_zero] at h1
          simp [rd_T26, List.getD_eq_getElem?_getD, h1, hlt]
        obtain ⟨ad, e, hx0, hx1, hx2⟩ := at_T26 (Kd.R_reads' HRr.out).2.2 (j : Int) (by omega) (by omega)
        cases e
        obtain ⟨ad, e, hy0, hy1, hy2⟩ := at_T26 (Kd.R_reads' HRr.out).2.2 (i : Int) (by omega) (by omega)
        cases e
        rw [hrj] at hx0 hx1 hx2
        simp only [add_plain, Int.toNat_natCast] at hx0 hx1 hx2 hy0 hy1 hy2
        have HY0 := Aside0.mk hy0
        have HY1 := Aside0.mk hy1
        have HY2 := Aside0.mk hy2
        clear hy0 hy1 hy2 hrj
        obtain ⟨x, hx⟩ : ∃ x, l[j] = x := ⟨_, rfl⟩
        rw [hx] at hx0 hx1 hx2
        have HX := Aside0.mk hx
        clear hx
        cases hq0 : deadI x with
        | true =>
          have hq := Aside0.mk hq0
          clear hq0
          go_wp2_with (first | ((with_reducible refine gate_dst (N := 7) rfl ?_); refine box_event ?hg (N := 7) ?hd (cs := #[.int .i64 0, .int .i64 0, .int .i64 0]) (t := 26) ?hr ?_; (case hd => rfl); (case hg => rfl); (case hr => first | (go_simp; done) | (go_simp; rfl)); intro gb hgb w13 hbox hb; have hcz0 : w13.cell? ⟨gb, 0, none⟩ = some (.int .i64 0) := (blk_cell hbox 0).trans rfl; have hcz1 : w13.cell? ⟨gb, 1, none⟩ = some (.int .i64 0) := (blk_cell hbox 1).trans rfl; have hcz2 : w13.cell? ⟨gb, 2, none⟩ = some (.int .i64 0) := (blk_cell hbox 2).trans rfl; have hfz0 := blk_frozen hbox 0; have hfz1 := blk_frozen hbox 1; have hfz2 := blk_frozen hbox 2; have HBX := Aside0.mk hbox; have HBb := Aside0.mk hb; have HGB := Aside0.mk hgb; clear hbox hb hgb) | ((with_reducible refine gate_tmp (t := 26) rfl ?_); refine goesF_ (some 28) rfl rfl Tryd.func10 (by kernel_rfl) rfl (args := #[.agg #[.int .i64 x.f0, .int .i64 x.f1, .int .i64 x.f2]]) rfl rfl (by (try simp only [List.map_toArray, List.map_cons, List.map_nil]); first | done | rfl) ?_; have hW := World.below_box3 HBb.out (x := .int .i64 x.f0) (y := .int .i64 x.f1) (z := .int .i64 x.f2) HGB.out; have hX := box3_store w13 gb _ _ _ (.int .i64 x.f0) (.int .i64 x.f1) (.int .i64 x.f2) HBX.out; generalize ((w13.setCell ⟨gb, 0, none⟩ (.int .i64 x.f0)).setCell ⟨gb, 1, none⟩ (.int .i64 x.f1)).setCell ⟨gb, 2, none⟩ (.int .i64 x.f2) = w14 at hW hX ⊢; clear hcz0 hcz1 hcz2 hfz0 hfz1 hfz2 HBX HBb HGB hx0 hx1 hx2; have hcall := dead_calls x w14; rw [hq.out] at hcall; refine hcall.mono ?_; rintro e w15 ⟨rfl, hb15⟩; refine ⟨_, rfl, ?_⟩; have hbx := blk_below hX hb15; have HBx := Aside0.mk hbx; have hv0 : w15.cell? ⟨gb, 0, none⟩ = some (.int .i64 x.f0) := (blk_cell hbx 0).trans rfl; have hv1 : w15.cell? ⟨gb, 1, none⟩ = some (.int .i64 x.f1) := (blk_cell hbx 1).trans rfl; have hv2 : w15.cell? ⟨gb, 2, none⟩ = some (.int .i64 x.f2) := (blk_cell hbx 2).trans rfl; have HW15 := Aside0.mk (hW.trans (hb15.mono hW.size)); clear hb15 hW hX hbx hcall))
          go_roundw
          case rel =>
            refine ⟨i, j + 1, rows, rfl, by simp, by omega, by omega, hrl, ⟨?_⟩, ⟨?_⟩, ⟨Kd.R_below HRr.out HW15.out⟩, ⟨HWr.out.trans (HW15.out.mono hbr)⟩, Nat.lt_of_lt_of_le hgr HW15.out.size, Nat.le_trans hbr HW15.out.size⟩
            · rw [ht.out, List.take_add_one, List.getElem?_eq_getElem hlt, List.filter_append, HX.out]
              simp [hq.out]
            · have := congrArg (List.drop 1) hd.out
              rwa [List.drop_drop, List.drop_drop] at this
          case measure => show l.length - ((j : Int) + 1).toNat < l.length - (j : Int).toNat; omega
        | false =>
          have hq := Aside0.mk hq0
          clear hq0
          go_wp2_with (first | ((with_reducible refine gate_dst (N := 7) rfl ?_); refine box_event ?hg (N := 7) ?hd (cs := #[.int .i64 0, .int .i64 0, .int .i64 0]) (t := 26) ?hr ?_; (case hd => rfl); (case hg => rfl); (case hr => first | (go_simp; done) | (go_simp; rfl)); intro gb hgb w13 hbox hb; have hcz0 : w13.cell? ⟨gb, 0, none⟩ = some (.int .i64 0) := (blk_cell hbox 0).trans rfl; have hcz1 : w13.cell? ⟨gb, 1, none⟩ = some (.int .i64 0) := (blk_cell hbox 1).trans rfl; have hcz2 : w13.cell? ⟨gb, 2, none⟩ = some (.int .i64 0) := (blk_cell hbox 2).trans rfl; have hfz0 := blk_frozen hbox 0; have hfz1 := blk_frozen hbox 1; have hfz2 := blk_frozen hbox 2; have HBX := Aside0.mk hbox; have HBb := Aside0.mk hb; have HGB := Aside0.mk hgb; clear hbox hb hgb) | ((with_reducible refine gate_tmp (t := 26) rfl ?_); refine goesF_ (some 28) rfl rfl Tryd.func10 (by kernel_rfl) rfl (args := #[.agg #[.int .i64 x.f0, .int .i64 x.f1, .int .i64 x.f2]]) rfl rfl (by (try simp only [List.map_toArray, List.map_cons, List.map_nil]); first | done | rfl) ?_; have hW := World.below_box3 HBb.out (x := .int .i64 x.f0) (y := .int .i64 x.f1) (z := .int .i64 x.f2) HGB.out; have hX := box3_store w13 gb _ _ _ (.int .i64 x.f0) (.int .i64 x.f1) (.int .i64 x.f2) HBX.out; generalize ((w13.setCell ⟨gb, 0, none⟩ (.int .i64 x.f0)).setCell ⟨gb, 1, none⟩ (.int .i64 x.f1)).setCell ⟨gb, 2, none⟩ (.int .i64 x.f2) = w14 at hW hX ⊢; clear hcz0 hcz1 hcz2 hfz0 hfz1 hfz2 HBX HBb HGB hx0 hx1 hx2; have hcall := dead_calls x w14; rw [hq.out] at hcall; refine hcall.mono ?_; rintro e w15 ⟨rfl, hb15⟩; refine ⟨_, rfl, ?_⟩; have hbx := blk_below hX hb15; have HBx := Aside0.mk hbx; have hv0 : w15.cell? ⟨gb, 0, none⟩ = some (.int .i64 x.f0) := (blk_cell hbx 0).trans rfl; have hv1 : w15.cell? ⟨gb, 1, none⟩ = some (.int .i64 x.f1) := (blk_cell hbx 1).trans rfl; have hv2 : w15.cell? ⟨gb, 2, none⟩ = some (.int .i64 x.f2) := (blk_cell hbx 2).trans rfl; have HW15 := Aside0.mk (hW.trans (hb15.mono hW.size)); clear hb15 hW hX hbx hcall) | ((with_reducible refine gate_ (.store 26 (.tmp 33) (.tmp 32)) rfl ?_); refine Kd.R_store k26 (w0 := w) base rfl rfl 26 (.tmp 33) (.tmp 32) rfl 26 (g := g) (n := l.length) (cap := c) (o' := i * 3) (i : Int) 0 rows x (.agg #[.int .i64 x.f0, .int .i64 x.f1, .int .i64 x.f2]) [.int .i64 x.f0, .int .i64 x.f1, .int .i64 x.f2] [.int .i64 (rd_T26 rows (i : Int)).f0, .int .i64 (rd_T26 rows (i : Int)).f1, .int .i64 (rd_T26 rows (i : Int)).f2] (fun k => k = g) (fun _ => False) rfl rfl rfl rfl (by kernel_rfl) (by intro q hq; simp at hq; rcases hq with rfl | rfl | rfl <;> rfl) (Kd.R_below HRr.out HW15.out) (by omega) (by omega) rfl ?hcc (Nat.le_refl 3) (k26_mkM _ _ _ _) (fun _ h => h.elim) (HWr.out.trans (HW15.out.mono hbr)) ?_; (case hcc => exact cc3 (o := i * 3) ((HW15.out.cell (World.block_lt_of_cell? _ _ HY0.out)).trans HY0.out) ((HW15.out.cell (World.block_lt_of_cell? _ _ HY1.out)).trans HY1.out) ((HW15.out.cell (World.block_lt_of_cell? _ _ HY2.out)).trans HY2.out)); intro w16 hR16 hB16 hG16; have HR16 := Aside0.mk hR16; have HB16 := Aside0.mk hB16; have HG16 := Aside0.mk hG16; clear hR16 hB16 hG16 hv0 hv1 hv2))
          have hset : rows.set i x = rows.take i ++ x :: rows.drop (i + 1) := List.set_eq_take_append_cons_drop.trans (if_pos (by omega))
          refine ⟨⟨i + 1, j + 1, rows.set i x, by simp, by simp, by omega, by omega, by simp [hrl], ⟨?_⟩, ⟨?_⟩, HR16, HB16, Nat.lt_of_lt_of_le hgr (Nat.le_trans HW15.out.size HG16.out.size), Nat.le_trans hbr (Nat.le_trans HW15.out.size HG16.out.size)⟩, ?_⟩
          · rw [hset, List.take_append, List.length_take, List.take_take, List.take_add_one (l := l), List.getElem?_eq_getElem hlt, List.filter_append, HX.out]
            rw [show min (i + 1) i = i by omega, ht.out, show i + 1 - min i rows.length = 1 by omega]
            simp [hq.out]
          · rw [List.drop_set, if_pos (by omega)]
            have := congrArg (List.drop 1) hd.out
            rwa [List.drop_drop, List.drop_drop] at this
          · show l.length - ((j : Int) + 1).toNat < l.length - (j : Int).toNat
            omega
      · have hlt0 : decide ((j : Int) < (l.length : Int)) = false := decide_eq_false (by omega)
        have hlo : ∀ W : World, (Instr.slice 22 (.slice (some ⟨g, 0, none⟩) l.length c) (some (.int .i64 (i : Int))) none none).run Tryd.prog W = .ok (.slice (some ⟨g, i * 3, none⟩) (l.length - i) (c - i)) W := by
          intro W
          obtain ⟨i0, hi, _, hz1, _⟩ := info_parts info26
          have h := cut_from (P := Tryd.prog) 22 26 .i64 Tryd.underlying22 hi 3 hz1 (some ⟨g, 0, none⟩) l.length c (i : Int) (by omega) (by omega) W
          rw [Int.toNat_natCast, if_neg (by omega)] at h
          rw [h]
          simp [add_plain]
        have hhi : ∀ W : World, (Instr.slice 22 (.slice (some ⟨g, 0, none⟩) l.length c) none (some (.int .i64 (i : Int))) none).run Tryd.prog W = .ok (.slice (some ⟨g, 0, none⟩) i c) W := by
          intro W
          obtain ⟨i0, hi, _, hz1, _⟩ := info_parts info26
          have h := cut_to (P := Tryd.prog) 22 26 .i64 Tryd.underlying22 hi (some ⟨g, 0, none⟩) l.length c (i : Int) (by omega) (by omega) (by omega) W
          rw [Int.toNat_natCast] at h
          exact h
        obtain ⟨zs, hzl, hclr⟩ : ∃ zs : List Value, zs.length = (l.length - i) * 3 ∧ (Builtin.clear_ #[22] 0 #[.slice (some ⟨g, i * 3, none⟩) (l.length - i) (c - i)]).run Tryd.prog wr = .ok (.tuple #[]) (wr.setCells g (i * 3) zs) := by
          obtain ⟨_, inner, hown, _⟩ := HRr.out
          rcases hown.2 with ⟨hv, _⟩ | ⟨g', cap', cur, hv, hb, hh, hnc, hcm, hcs, htake⟩
          · cases hv
          injection hv with h1 _ h2
          injection h1 with h1
          injection h1 with h1
          subst h1 h2
          have hcs2 : cur.size = c * 3 := hcs
          exact clear_run wr 0 g (i * 3) (l.length - i) (c - i) hh (by omega) (by omega)
        obtain ⟨hR2, hG2⟩ := R_cut HRr.out (show i ≤ l.length by omega) zs (by omega)
        have HR2 := Aside0.mk hR2
        have HG2 := Aside0.mk hG2
        clear hR2 hG2
        go_wp2
        go_ret
        obtain rfl : j = l.length := by omega
        have e3 : rows.take i = liveL l := by
          rw [ht.out, List.take_of_length_le (Nat.le_refl _)]
          rfl
        rw [e3] at HR2
        refine ⟨_, rfl, Kd.R_mono HR2.out (fun _ _ => trivial), HWr.out.trans ?_⟩
        have hg := HG2.out
        exact ⟨hg.os, hg.tape, hg.output, hg.size, fun k hk => by
          rcases Nat.lt_or_ge k wr.heap.size with h | h
          · exact hg.block k h (fun e => by injection e with e; omega)
          · exact setCells_far _ _ k (by omega)⟩
end Go.Proofs.YtdafnjlmkbffeaaDoor.PD
/-
  DERIVED: THE SHELF's CONTRACTS AT THIS DUMP, IN PLAIN WORDS (tools/lay-plain.mjs out of 'YtdafnjlmkbffeaaDoorLayS.lean', which tools/lay-shelf.mjs wrote): THE SAME DECLARATIONS UNDER THE SAME NAMES: 'import', 'namespace', 'open', 'def', 'theorem' AND NOTHING ELSE: no command of the shelf's: FOR A HAND-IN. Each laying: the table of numbers ('.._ren') and one theorem, a field a fact of the dump's own or the kernel's comparison; each contract: ONE APPLICATION.
-/
namespace Go.Proofs
open Go.Shelf
def Tryd.laysM173_ren : Go.Shelf.Ren := ⟨fun | 173 => 48 | 246 => 52 | 283 => 60 | 284 => 61 | 285 => 62 | 286 => 63 | 129 => 30 | 317 => 69 | 318 => 70 | 319 => 71 | 320 => 72 | 337 => 75 | 338 => 76 | n => n, fun | 2 => 2 | 3 => 3 | 9 => 9 | 4 => 4 | 171 => 104 | 0 => 0 | 53 => 60 | 37 => 92 | 5 => 5 | 173 => 106 | 212 => 115 | 51 => 58 | 20 => 20 | 213 => 116 | 46 => 42 | 232 => 120 | 233 => 121 | n => n, fun | 17 => 0 | 18 => 2 | 19 => 3 | n => n⟩
theorem Tryd.laysM173 : Go.Proofs.LaysM.n173 Tryd.prog Tryd.laysM173_ren := {
  mixed := by kernel_rfl
  f129 := Tryd.func30.trans (congrArg some (by kernel_rfl))
  f173 := Tryd.func48.trans (congrArg some (by kernel_rfl))
  f246 := Tryd.func52.trans (congrArg some (by kernel_rfl))
  f283 := Tryd.func60.trans (congrArg some (by kernel_rfl))
  f284 := Tryd.func61.trans (congrArg some (by kernel_rfl))
  f285 := Tryd.func62.trans (congrArg some (by kernel_rfl))
  f286 := Tryd.func63.trans (congrArg some (by kernel_rfl))
  f317 := Tryd.func69.trans (congrArg some (by kernel_rfl))
  f318 := Tryd.func70.trans (congrArg some (by kernel_rfl))
  f319 := Tryd.func71.trans (congrArg some (by kernel_rfl))
  f320 := Tryd.func72.trans (congrArg some (by kernel_rfl))
  f337 := Tryd.func75.trans (congrArg some (by kernel_rfl))
  f338 := Tryd.func76.trans (congrArg some (by kernel_rfl))
  t0 := Tryd.underlying0
  a0 := Tryd.isAgg0
  z0 := Tryd.sizeOf0
  v0 := Tryd.zeroValue0
  t2 := Tryd.underlying2
  a2 := Tryd.isAgg2
  z2 := Tryd.sizeOf2
  v2 := Tryd.zeroValue2
  t3 := Tryd.underlying3
  a3 := Tryd.isAgg3
  z3 := Tryd.sizeOf3
  v3 := Tryd.zeroValue3
  t4 := Tryd.underlying4
  a4 := Tryd.isAgg4
  z4 := Tryd.sizeOf4
  v4 := Tryd.zeroValue4
  t5 := Tryd.underlying5
  a5 := Tryd.isAgg5
  z5 := Tryd.sizeOf5
  v5 := Tryd.zeroValue5
  t9 := Tryd.underlying9
  a9 := Tryd.isAgg9
  z9 := Tryd.sizeOf9
  v9 := Tryd.zeroValue9
  t20 := Tryd.underlying20
  a20 := Tryd.isAgg20
  z20 := Tryd.sizeOf20
  v20 := Tryd.zeroValue20
  t37 := Tryd.underlying92
  a37 := Tryd.isAgg92
  z37 := Tryd.sizeOf92
  v37 := Tryd.zeroValue92
  t46 := Tryd.underlying42
  a46 := Tryd.isAgg42
  z46 := Tryd.sizeOf42
  v46 := Tryd.zeroValue42
  t51 := Tryd.underlying58
  a51 := Tryd.isAgg58
  z51 := Tryd.sizeOf58
  v51 := Tryd.zeroValue58
  t53 := Tryd.underlying60
  a53 := Tryd.isAgg60
  z53 := Tryd.sizeOf60
  v53 := Tryd.zeroValue60
  t171 := Tryd.underlying104
  a171 := Tryd.isAgg104
  z171 := Tryd.sizeOf104
  v171 := Tryd.zeroValue104
  t173 := Tryd.underlying106
  a173 := Tryd.isAgg106
  z173 := Tryd.sizeOf106
  v173 := Tryd.zeroValue106
  t212 := Tryd.underlying115
  a212 := Tryd.isAgg115
  z212 := Tryd.sizeOf115
  v212 := Tryd.zeroValue115
  t213 := Tryd.underlying116
  a213 := Tryd.isAgg116
  z213 := Tryd.sizeOf116
  t232 := Tryd.underlying120
  a232 := Tryd.isAgg120
  z232 := Tryd.sizeOf120
  v232 := Tryd.zeroValue120
  t233 := Tryd.underlying121
  a233 := Tryd.isAgg121
  z233 := Tryd.sizeOf121
  v233 := Tryd.zeroValue121
  g17 := by kernel_rfl
  g18 := by kernel_rfl
  g19 := by kernel_rfl
  i0 := by kernel_rfl
  i2 := by kernel_rfl
  i3 := by kernel_rfl
  i4 := by kernel_rfl
  i5 := by kernel_rfl
  i9 := by kernel_rfl
  i20 := by kernel_rfl
  i37 := by kernel_rfl
  i46 := by kernel_rfl
  i51 := by kernel_rfl
  i53 := by kernel_rfl
  i171 := by kernel_rfl
  i173 := by kernel_rfl
  i212 := by kernel_rfl
  i232 := by kernel_rfl
  i233 := by kernel_rfl
  m17 := by kernel_rfl
  m18 := by kernel_rfl
  m19 := by kernel_rfl }
open Go.RowKit Go.Sort Go.Lib in
/-- strconv.FormatInt: "FormatInt returns the string representation of i in the given base": AT BASE 10: i's decimal numeral, for every int64. (LAID: no walk: one application.) -/
theorem Tryd.strconv_FormatInt_10 (n : Int) (h0 : -9223372036854775808 ≤ n) (h1 : n ≤ 9223372036854775807) (w : World) (htab : Lib.TabIs Tryd.prog w "internal/strconv.uint64pow10" .u64 Lib.pow10Tab) :
    Calls Tryd.prog 48 #[.int .i64 n, .int .i64 10] w fun e w' => e = .returned (.string ⟨(Lib.itoa n).toArray⟩) ∧ ∃ k os, w' = grow (w.drewN k) os := Any.strconv_FormatInt_10 Tryd.laysM173 n h0 h1 w htab
def Tryd.lays105_ren : Go.Shelf.Ren := ⟨fun | 105 => 49 | 212 => 53 | 99 => 54 | 165 => 55 | 166 => 56 | 170 => 57 | 169 => 58 | 263 => 64 | 264 => 65 | 206 => 66 | 240 => 67 | 241 => 68 | 276 => 73 | 277 => 74 | n => n, fun | 9 => 9 | 3 => 3 | 4 => 4 | 20 => 20 | 0 => 0 | 46 => 42 | 109 => 88 | 5 => 5 | 72 => 94 | 76 => 98 | 51 => 58 | 146 => 108 | 53 => 60 | 148 => 110 | 70 => 91 | 37 => 92 | 75 => 97 | 127 => 112 | 164 => 117 | 80 => 101 | n => n, fun | n => n⟩
theorem Tryd.lays105 : Go.Proofs.Lays.n105 Tryd.prog Tryd.lays105_ren := {
  mixed := by kernel_rfl
  f99 := Tryd.func54.trans (congrArg some (by kernel_rfl))
  f105 := Tryd.func49.trans (congrArg some (by kernel_rfl))
  f165 := Tryd.func55.trans (congrArg some (by kernel_rfl))
  f166 := Tryd.func56.trans (congrArg some (by kernel_rfl))
  f169 := Tryd.func58.trans (congrArg some (by kernel_rfl))
  f170 := Tryd.func57.trans (congrArg some (by kernel_rfl))
  f206 := Tryd.func66.trans (congrArg some (by kernel_rfl))
  f212 := Tryd.func53.trans (congrArg some (by kernel_rfl))
  f240 := Tryd.func67.trans (congrArg some (by kernel_rfl))
  f241 := Tryd.func68.trans (congrArg some (by kernel_rfl))
  f263 := Tryd.func64.trans (congrArg some (by kernel_rfl))
  f264 := Tryd.func65.trans (congrArg some (by kernel_rfl))
  f276 := Tryd.func73.trans (congrArg some (by kernel_rfl))
  f277 := Tryd.func74.trans (congrArg some (by kernel_rfl))
  t0 := Tryd.underlying0
  a0 := Tryd.isAgg0
  z0 := Tryd.sizeOf0
  v0 := Tryd.zeroValue0
  t3 := Tryd.underlying3
  a3 := Tryd.isAgg3
  z3 := Tryd.sizeOf3
  v3 := Tryd.zeroValue3
  t4 := Tryd.underlying4
  a4 := Tryd.isAgg4
  z4 := Tryd.sizeOf4
  v4 := Tryd.zeroValue4
  t5 := Tryd.underlying5
  a5 := Tryd.isAgg5
  z5 := Tryd.sizeOf5
  v5 := Tryd.zeroValue5
  t9 := Tryd.underlying9
  a9 := Tryd.isAgg9
  z9 := Tryd.sizeOf9
  v9 := Tryd.zeroValue9
  t20 := Tryd.underlying20
  a20 := Tryd.isAgg20
  z20 := Tryd.sizeOf20
  v20 := Tryd.zeroValue20
  t37 := Tryd.underlying92
  a37 := Tryd.isAgg92
  z37 := Tryd.sizeOf92
  v37 := Tryd.zeroValue92
  t46 := Tryd.underlying42
  a46 := Tryd.isAgg42
  z46 := Tryd.sizeOf42
  v46 := Tryd.zeroValue42
  t51 := Tryd.underlying58
  a51 := Tryd.isAgg58
  z51 := Tryd.sizeOf58
  v51 := Tryd.zeroValue58
  t53 := Tryd.underlying60
  a53 := Tryd.isAgg60
  z53 := Tryd.sizeOf60
  v53 := Tryd.zeroValue60
  t70 := Tryd.underlying91
  a70 := Tryd.isAgg91
  z70 := Tryd.sizeOf91
  v70 := Tryd.zeroValue91
  t72 := Tryd.underlying94
  a72 := Tryd.isAgg94
  z72 := Tryd.sizeOf94
  v72 := Tryd.zeroValue94
  t75 := Tryd.underlying97
  a75 := Tryd.isAgg97
  z75 := Tryd.sizeOf97
  v75 := Tryd.zeroValue97
  t76 := Tryd.underlying98
  a76 := Tryd.isAgg98
  z76 := Tryd.sizeOf98
  v76 := Tryd.zeroValue98
  t109 := Tryd.underlying88
  a109 := Tryd.isAgg88
  z109 := Tryd.sizeOf88
  v109 := Tryd.zeroValue88
  t127 := Tryd.underlying112
  a127 := Tryd.isAgg112
  z127 := Tryd.sizeOf112
  v127 := Tryd.zeroValue112
  t146 := Tryd.underlying108
  a146 := Tryd.isAgg108
  z146 := Tryd.sizeOf108
  v146 := Tryd.zeroValue108
  t148 := Tryd.underlying110
  a148 := Tryd.isAgg110
  z148 := Tryd.sizeOf110
  v148 := Tryd.zeroValue110
  t164 := Tryd.underlying117
  a164 := Tryd.isAgg117
  z164 := Tryd.sizeOf117
  v164 := Tryd.zeroValue117 }
theorem Tryd.Builder_Extra_105 : Builder.Extra Tryd.prog Tryd.lays105_ren := {
  sizeBuilder := by kernel_rfl
  liesBuilder := by kernel_rfl
  t5 := Tryd.underlying5
  a5 := Tryd.isAgg5
  z5 := Tryd.sizeOf5
  v5 := Tryd.zeroValue5
  infoByte := by kernel_rfl
  cellsByte := by kernel_rfl
  sizeByte := by kernel_rfl
  neB5 := by decide }
open Go.RowKit Go.Lib in
/-- **strings.Repeat: count ≥ 0, the result within one allocation: count copies of s.** (LAID: no walk: one application.) -/
theorem Tryd.strings_Repeat (s : ByteArray) (c : Nat) (w : World) (hc : c ≤ 9223372036854775807) (hlen : s.size * c ≤ 140737488355328) :
    Calls Tryd.prog 49 #[.string s, .int .i64 c] w fun e w' => e = .returned (.string ⟨(Lib.repeatL s.data.toList c).toArray⟩) ∧ Below w.heap.size w w' := Any.strings_Repeat Tryd.lays105 Tryd.Builder_Extra_105 s c w hc hlen
def Tryd.laysSlC25_f13_ren : Go.Shelf.Ren := ⟨fun | 5 => 13 | 7 => 18 | n => n, fun | 22 => 2 | 3 => 3 | 4 => 4 | n => n, fun | n => n⟩
theorem Tryd.laysSlC25_f13 : Go.Proofs.SlLaysC2.n5 Tryd.prog Tryd.laysSlC25_f13_ren := {
  mixed := by kernel_rfl
  f5 := ⟨Tryd.f13.name, by decide, Tryd.func13.trans (congrArg some (by kernel_rfl))⟩
  f7 := ⟨Tryd.f18.name, by decide, Tryd.func18.trans (congrArg some (by kernel_rfl))⟩
  t3 := Tryd.underlying3
  a3 := Tryd.isAgg3
  z3 := Tryd.sizeOf3
  v3 := Tryd.zeroValue3
  t4 := Tryd.underlying4
  a4 := Tryd.isAgg4
  z4 := Tryd.sizeOf4
  v4 := Tryd.zeroValue4
  t22 := Tryd.underlying2
  a22 := Tryd.isAgg2
  z22 := Tryd.sizeOf2
  v22 := Tryd.zeroValue2 }
open Go.Lib in
/-- cmp.Compare at an int under a name: "Compare returns -1 if x is less than y, 0 if x equals y, +1 if x is greater than y.": IT RETURNS 'Lib.compareInt x y'; the world is as it was. (LAID AT THE INSTANCE 'cmp.Compare[int64]': no walk: one application.) -/
theorem Tryd.cmp_Compare_int (x y : Int) (w : World) :
    Calls Tryd.prog 13 #[.int .i64 x, .int .i64 y] w fun e w' => e = .returned (.int .i64 (Lib.compareInt x y)) ∧ w' = w := AnyG.cmp_Compare_int Tryd.laysSlC25_f13 x y w
def Tryd.sortSp_ren : Go.Shelf.Ren := ⟨fun | 6 => 11 | 15 => 17 | 14 => 16 | 28 => 29 | 29 => 30 | 20 => 21 | 21 => 22 | 22 => 23 | 23 => 24 | 24 => 25 | 25 => 26 | 26 => 27 | 27 => 28 | 46 => 32 | 47 => 33 | 48 => 34 | 49 => 35 | 50 => 36 | 57 => 41 | n => n, fun | 22 => 22 | 24 => 26 | 25 => 33 | 3 => 3 | 39 => 42 | 0 => 0 | 53 => 58 | 55 => 60 | 4 => 4 | 46 => 51 | 45 => 50 | 50 => 55 | 5 => 5 | 9 => 9 | 66 => 64 | 70 => 68 | 76 => 72 | 77 => 73 | n => n, fun | n => n⟩
theorem Tryd.sortSp : Go.Proofs.SlLaysF0.n6 Tryd.prog Tryd.sortSp_ren := {
  mixed := by kernel_rfl
  f6 := ⟨Tryd.f11.name, by decide, Tryd.func11.trans (congrArg some (by kernel_rfl))⟩
  f14 := ⟨Tryd.f16.name, by decide, Tryd.func16.trans (congrArg some (by kernel_rfl))⟩
  f15 := Tryd.func17.trans (congrArg some (by kernel_rfl))
  f20 := ⟨Tryd.f21.name, by decide, Tryd.func21.trans (congrArg some (by kernel_rfl))⟩
  f21 := ⟨Tryd.f22.name, by decide, Tryd.func22.trans (congrArg some (by kernel_rfl))⟩
  f22 := ⟨Tryd.f23.name, by decide, Tryd.func23.trans (congrArg some (by kernel_rfl))⟩
  f23 := ⟨Tryd.f24.name, by decide, Tryd.func24.trans (congrArg some (by kernel_rfl))⟩
  f24 := ⟨Tryd.f25.name, by decide, Tryd.func25.trans (congrArg some (by kernel_rfl))⟩
  f25 := ⟨Tryd.f26.name, by decide, Tryd.func26.trans (congrArg some (by kernel_rfl))⟩
  f26 := ⟨Tryd.f27.name, by decide, Tryd.func27.trans (congrArg some (by kernel_rfl))⟩
  f27 := ⟨Tryd.f28.name, by decide, Tryd.func28.trans (congrArg some (by kernel_rfl))⟩
  f28 := Tryd.func29.trans (congrArg some (by kernel_rfl))
  f29 := Tryd.func30.trans (congrArg some (by kernel_rfl))
  f46 := ⟨Tryd.f32.name, by decide, Tryd.func32.trans (congrArg some (by kernel_rfl))⟩
  f47 := Tryd.func33.trans (congrArg some (by kernel_rfl))
  f48 := Tryd.func34.trans (congrArg some (by kernel_rfl))
  f49 := ⟨Tryd.f35.name, by decide, Tryd.func35.trans (congrArg some (by kernel_rfl))⟩
  f50 := ⟨Tryd.f36.name, by decide, Tryd.func36.trans (congrArg some (by kernel_rfl))⟩
  f57 := ⟨Tryd.f41.name, by decide, Tryd.func41.trans (congrArg some (by kernel_rfl))⟩
  t0 := Tryd.underlying0
  a0 := Tryd.isAgg0
  z0 := Tryd.sizeOf0
  v0 := Tryd.zeroValue0
  t3 := Tryd.underlying3
  a3 := Tryd.isAgg3
  z3 := Tryd.sizeOf3
  v3 := Tryd.zeroValue3
  t4 := Tryd.underlying4
  a4 := Tryd.isAgg4
  z4 := Tryd.sizeOf4
  v4 := Tryd.zeroValue4
  t5 := Tryd.underlying5
  a5 := Tryd.isAgg5
  z5 := Tryd.sizeOf5
  v5 := Tryd.zeroValue5
  t9 := Tryd.underlying9
  a9 := Tryd.isAgg9
  z9 := Tryd.sizeOf9
  v9 := Tryd.zeroValue9
  t22 := Tryd.underlying22
  a22 := Tryd.isAgg22
  z22 := Tryd.sizeOf22
  v22 := Tryd.zeroValue22
  t25 := Tryd.underlying33
  a25 := Tryd.isAgg33
  z25 := Tryd.sizeOf33
  v25 := Tryd.zeroValue33
  t39 := Tryd.underlying42
  a39 := Tryd.isAgg42
  z39 := Tryd.sizeOf42
  v39 := Tryd.zeroValue42
  t45 := Tryd.underlying50
  a45 := Tryd.isAgg50
  z45 := Tryd.sizeOf50
  v45 := Tryd.zeroValue50
  t46 := Tryd.underlying51
  a46 := Tryd.isAgg51
  z46 := Tryd.sizeOf51
  v46 := Tryd.zeroValue51
  t50 := Tryd.underlying55
  a50 := Tryd.isAgg55
  z50 := Tryd.sizeOf55
  v50 := Tryd.zeroValue55
  t53 := Tryd.underlying58
  a53 := Tryd.isAgg58
  z53 := Tryd.sizeOf58
  v53 := Tryd.zeroValue58
  t55 := Tryd.underlying60
  a55 := Tryd.isAgg60
  z55 := Tryd.sizeOf60
  v55 := Tryd.zeroValue60
  t66 := Tryd.underlying64
  a66 := Tryd.isAgg64
  z66 := Tryd.sizeOf64
  v66 := Tryd.zeroValue64
  t70 := Tryd.underlying68
  a70 := Tryd.isAgg68
  z70 := Tryd.sizeOf68
  v70 := Tryd.zeroValue68
  t76 := Tryd.underlying72
  a76 := Tryd.isAgg72
  z76 := Tryd.sizeOf72
  v76 := Tryd.zeroValue72
  t77 := Tryd.underlying73
  a77 := Tryd.isAgg73
  z77 := Tryd.sizeOf73
  v77 := Tryd.zeroValue73 }
end Go.Proofs
/- slices.SortFunc at intervals, by their beginnings. -/
namespace Go.Proofs.YtdafnjlmkbffeaaDoor.PD
open Go.RowKit Go.Shelf Go.Sort Go.Proofs.YtdafnjlmkbffeaaDoorW.PrintWords Go.Proofs.YtdafnjlmkbffeaaDoorW.PrintLast Go.Proofs.YtdafnjlmkbffeaaDoorW.PrintMore
attribute [local go_sem] isSome_setCell max2_int min2_int max_two min_two
set_option linter.unusedVariables false
set_option linter.unusedSimpArgs false
instance inhS26 : Inhabited S26 := ⟨z26⟩
def enc3 (x : S26) : List Value := [.int .i64 x.f0, .int .i64 x.f1, .int .i64 x.f2]
/-- w, some draws on, with some blocks laid behind it. -/
def Gr (w w' : World) : Prop := ∃ q os', w' = grow (w.drewN q) os'
theorem Gr.refl (w : World) : Gr w w := ⟨0, #[], by rw [grow_empty]; rfl⟩
theorem Gr.alloc {w w' : World} (h : Gr w w') (o : Obj) : Gr w (w'.alloc o) := by
  obtain ⟨q, os, rfl⟩ := h
  exact ⟨q, os ++ #[o], by rw [alloc_eq_grow, grow_grow]⟩
theorem Gr.drewN {w w' : World} (h : Gr w w') (n : Nat) : Gr w (w'.drewN n) := by
  obtain ⟨q, os, rfl⟩ := h
  exact ⟨q + n, os, by simp [grow, World.drewN, Nat.add_assoc]⟩
theorem Gr.drew {w w' : World} (h : Gr w w') : Gr w w'.drew := h.drewN 1
/-- What the comparison answers. -/
def cmpS (a b : S26) : Int := Lib.compareInt a.f0 b.f0
def ltS (a b : S26) : Bool := decide (a.f0 < b.f0)
theorem ltOf_cmp : ltOf cmpS = ltS := by
  funext a b
  show decide (Lib.compareInt a.f0 b.f0 < 0) = decide (a.f0 < b.f0)
  unfold Lib.compareInt
  by_cases h1 : a.f0 < b.f0
  · simp [h1]
  · by_cases h2 : b.f0 < a.f0
    · simp [h1, h2]
    · simp [h1, h2]
theorem ltS_swo : SWO ltS where
  irrefl a := by simp [ltS]
  trans a b c h1 h2 := by simp only [ltS, decide_eq_true_eq] at *; omega
  ntrans a b c h1 h2 := by simp only [ltS, decide_eq_false_iff_not] at *; omega
set_option maxHeartbeats 1600000 in
set_option maxRecDepth 100000 in
theorem cmp_grows (x y : S26) (w : World) :
    Calls Tryd.prog 12 #[.agg #[.int .i64 x.f0, .int .i64 x.f1, .int .i64 x.f2], .agg #[.int .i64 y.f0, .int .i64 y.f1, .int .i64 y.f2]] w fun e w' => e = .returned (.int .i64 (cmpS x y)) ∧ Gr w w' := by
  have HG := Aside0.mk (((Gr.refl w).alloc (.cells #[.int .i64 x.f0, .int .i64 x.f1, .int .i64 x.f2] 26)).alloc (.cells #[.int .i64 y.f0, .int .i64 y.f1, .int .i64 y.f2] 26))
  go_enter Tryd.func12, Tryd.ntmps12
  go_wp2_with (go_at_call 13; refine (Tryd.cmp_Compare_int x.f0 y.f0 _).mono ?_; rintro e w' ⟨rfl, rfl⟩)
  go_ret
  exact ⟨rfl, by first | exact HG.out | exact HG.out.drew⟩
theorem cmpLays (blk off size : Nat) (w : World) : CmpLays Tryd.prog 12 #[] enc3 3 cmpS blk off size w :=
  fun _ _ _ _ x y => cmp_grows x y _
/-- What a row of intervals holds at place t. -/
theorem inner_at {w : World} {base : Nat} {ok : Nat → Prop} {xs : List S26} {inner : List Value} (h : Reps (k26.M w base ok) 3 xs inner) (t : Nat) (ht : t < xs.length * 3) : inner[t]? = some ((enc3 xs.toArray[t / 3]!)[t % 3]!) := by
  have hj : t / 3 < xs.length := by omega
  have h1 := h.2 (t / 3) xs[t / 3] (by rw [List.getElem?_eq_getElem hj])
  have h2 := k26_openM h1
  have h3 : ((inner.drop (t / 3 * 3)).take 3)[t % 3]? = inner[t]? := by
    rw [List.getElem?_take_of_lt (by omega), List.getElem?_drop, show t / 3 * 3 + t % 3 = t by omega]
  rw [← h3, h2]
  have h4 : xs.toArray[t / 3]! = xs[t / 3] := by simp [hj]
  rw [h4]
  have : t % 3 = 0 ∨ t % 3 = 1 ∨ t % 3 = 2 := by omega
  rcases this with h | h | h <;> simp [h, enc3]
theorem reps_mk {w : World} {base : Nat} {ok : Nat → Prop} {xs : List S26} {inner : List Value} (hl : inner.length = xs.length * 3) (h : ∀ t, t < xs.length * 3 → inner[t]? = some ((enc3 xs.toArray[t / 3]!)[t % 3]!)) : Reps (k26.M w base ok) 3 xs inner := by
  refine ⟨hl, fun j p hp => ?_⟩
  have hj : j < xs.length := by
    rcases Nat.lt_or_ge j xs.length with h | h
    · exact h
    · rw [List.getElem?_eq_none h] at hp; cases hp
  rw [List.getElem?_eq_getElem hj] at hp
  obtain rfl := Option.some.inj hp
  have e : (inner.drop (j * 3)).take 3 = enc3 xs[j] := by
    apply List.ext_getElem?
    intro i
    by_cases hi : i < 3
    · rw [List.getElem?_take_of_lt hi, List.getElem?_drop, h (j * 3 + i) (by omega), show (j * 3 + i) / 3 = j by omega, show (j * 3 + i) % 3 = i by omega]
      have h4 : xs.toArray[j]! = xs[j] := by simp [hj]
      rw [h4]
      have : i = 0 ∨ i = 1 ∨ i = 2 := by omega
      rcases this with h | h | h <;> simp [h, enc3]
    · rw [List.getElem?_take_eq_none (by omega), List.getElem?_eq_none (by simp [enc3]; omega)]
  rw [e]
  exact k26_mkM _ _ _ _
theorem flat_at (d : Array S26) (t : Nat) (ht : t < d.size * 3) : (flatK enc3 3 d)[t]! = (enc3 d[t / 3]!)[t % 3]! := by
  simp [flatK, ht]
set_option maxRecDepth 100000 in
set_option maxHeartbeats 1600000 in
/-- The sort: the same slice holds the same intervals, the early ones first. -/
theorem sortSp_calls (base : Nat) (ok : Nat → Prop) (v : Value) (l : List S26) (w : World) (hr : Kd.R k26 26 w base ok v l) (hbig : l.length < 4611686018427387904) :
    Calls Tryd.prog 11 #[v, .func (.func 12) #[] #[]] w fun e w' => e = .returned (.tuple #[]) ∧ ∃ l' : List S26, l'.Perm l ∧ l'.Pairwise (fun a b => a.f0 ≤ b.f0) ∧ Kd.R k26 26 w' base ok v l' ∧ w.grownBy w' v.ownBlock := by
  rcases Nat.eq_zero_or_pos l.length with hz0 | h0
  · obtain rfl := List.eq_nil_of_length_eq_zero hz0
    obtain ⟨A, c, rfl⟩ := Kd.R_slice hr
    have hn := AnyF.slices_SortFunc_none Tryd.sortSp A c (.func (.func 12) #[] #[]) w
    change Calls Tryd.prog 11 _ _ _ at hn
    refine hn.mono ?_
    rintro e w' ⟨rfl, rfl⟩
    exact ⟨rfl, [], List.Perm.refl _, List.Pairwise.nil, hr, ⟨rfl, rfl, rfl, Nat.le_refl _, fun _ _ _ => rfl⟩⟩
  obtain ⟨hok, inner, hown, hrep⟩ := hr
  rcases hown.2 with ⟨hv, hz⟩ | ⟨g, cap, cur, hv, hb, hh, hnc, hcm, hcs, htake⟩
  · omega
  subst hv
  have hcs2 : cur.size = cap * 3 := hcs
  have htk : cur.toList.take (l.length * 3) = inner := htake
  have hH : HoldsK enc3 3 w g 0 l.toArray := by
    intro j hj
    have hj' : j < l.length * 3 := by simpa [flatK] using hj
    refine ⟨?_, by simp [World.frozen?, hh]⟩
    have h1 := inner_at hrep j hj'
    rw [← htk, List.getElem?_take_of_lt hj', Array.getElem?_toList] at h1
    rw [blk_cell hh, Nat.zero_add, h1, flat_at _ _ (by simpa using hj')]
    rfl
  have eg : ∀ args w, (callFunc 12 args).run Tryd.prog w = .ok (.enter 12 args) w := enters_of Tryd.func12 (by kernel_rfl) rfl
  have hcon := AnyQ.slices_SortFunc Tryd.sortSp 3 Tryd.isAgg26 Tryd.sizeOf26 enc3 (fun _ => rfl) (fun x v hv => by simp [enc3] at hv; rcases hv with rfl | rfl | rfl <;> rfl) cmpS (by rw [ltOf_cmp]; exact ltS_swo) 12 #[] g 0 cap l.toArray w eg (cmpLays g 0 l.toArray.size w) hH (blk_lt hh) (by simpa using hbig)
  change Calls Tryd.prog 11 _ _ _ at hcon
  simp only [List.size_toArray] at hcon
  refine hcon.mono ?_
  rintro e w' ⟨rfl, d', n, os, ⟨hsz, _, hperm⟩, hso, rfl⟩
  have hsz' : d'.size = l.length := by simpa using hsz
  have e1 : d'.extract 0 l.length = d' := by rw [← hsz']; exact Array.extract_size
  rw [e1, show l.toArray.extract 0 l.length = l.toArray by rw [show l.length = l.toArray.size by simp]; exact Array.extract_size] at hperm
  have hp : d'.toList.Perm l := by simpa using hperm
  have hps : d'.toList.Pairwise (fun a b => a.f0 ≤ b.f0) := by
    rw [List.pairwise_iff_getElem]
    intro i j hi hj hij
    have hi' : i < d'.size := by simpa using hi
    have hj' : j < d'.size := by simpa using hj
    have := hso i j (Nat.zero_le _) hij (by omega)
    rw [ltOf_cmp, getElem!_pos d' j hj', getElem!_pos d' i hi'] at this
    unfold ltS at this
    have h2 := of_decide_eq_false this
    simp only [Array.getElem_toList]
    omega
  obtain ⟨l', rfl⟩ : ∃ l' : List S26, d' = l'.toArray := ⟨d'.toList, by simp⟩
  refine ⟨rfl, l', by simpa using hp, by simpa using hps, ?_⟩
  have hll : l'.length = l.length := by simpa using hsz'
  have hhp : (sortWorldK enc3 3 w g 0 n l'.toArray os).heap[g]? = some (.cells (putCells id 0 (flatK enc3 3 l'.toArray) cur) 26 (0, 0)) := by
    unfold sortWorldK putRowK
    rw [heap_grow_old _ _ (by simpa [putRow, mapBlock, Sort.ahead] using blk_lt hh)]
    simp [putRow, mapBlock, Sort.ahead, Array.getElem?_modify, hh, onCells]
  have hgr : w.grownBy (sortWorldK enc3 3 w g 0 n l'.toArray os) (some g) := by
    unfold sortWorldK putRowK
    refine ⟨rfl, rfl, rfl, by simp, fun k hk hne => ?_⟩
    rw [heap_grow_old _ _ (by simpa [putRow, mapBlock, Sort.ahead] using hk)]
    have : g ≠ k := fun e => hne (by rw [e])
    simp [putRow, mapBlock, Sort.ahead, Array.getElem?_modify, this]
  have hfs : (flatK enc3 3 l'.toArray).size = l.length * 3 := by simp [flatK, hll]
  refine ⟨⟨hok, (flatK enc3 3 l'.toArray).toList, ?_, ?_⟩, hgr⟩
  · refine ⟨by rw [Array.length_toList, hfs, hll]; rfl, .inr ⟨g, cap, _, by rw [hll], hb, hhp, by omega, hcm, by simp [putCells]; exact hcs, ?_⟩⟩
    show (putCells id 0 (flatK enc3 3 l'.toArray) cur).toList.take (l'.length * 3) = _
    apply List.ext_getElem?
    intro j
    by_cases hj : j < l'.length * 3
    · rw [List.getElem?_take_of_lt hj, Array.getElem?_toList, Array.getElem?_toList]
      have h1 : j < (flatK enc3 3 l'.toArray).size := by omega
      have h2 : j < cur.size := by rw [hcs2]; omega
      rw [Array.getElem?_eq_getElem h1, ← getElem!_pos _ j h1]
      simp [putCells, h2, hj]
    · rw [List.getElem?_take_eq_none (by omega), List.getElem?_eq_none (by rw [Array.length_toList]; omega)]
  · refine reps_mk (by rw [Array.length_toList, hfs, hll]) (fun t ht => ?_)
    have h1 : t < (flatK enc3 3 l'.toArray).size := by omega
    rw [Array.getElem?_toList, Array.getElem?_eq_getElem h1, ← getElem!_pos _ t h1, flat_at _ _ (by simpa using ht)]
end Go.Proofs.YtdafnjlmkbffeaaDoor.PD
/- Chapter 25: what merging answers does not hang on how the sort lays what begins at once. -/
namespace Go.Proofs.YtdafnjlmkbffeaaDoor.PD
open Go.RowKit Go.Proofs.YtdafnjlmkbffeaaDoorW.PrintWords
theorem stepM_nil (x : S26) : stepM [] x = [⟨x.f0, x.f1, x.f0⟩] := rfl
theorem stepM_snoc (o : List S26) (y x : S26) : stepM (o ++ [y]) x = if x.f0 ≤ y.f1 then o ++ [⟨y.f0, max y.f1 x.f1, y.f2⟩] else o ++ [y] ++ [⟨x.f0, x.f1, x.f0⟩] := by
  unfold stepM
  simp
theorem stepM_swap (out : List S26) (x y : S26) (h : x.f0 = y.f0) (hx : x.f0 < x.f1) (hy : y.f0 < y.f1) : stepM (stepM out x) y = stepM (stepM out y) x := by
  have hm : ∀ a b : Int, max a b = max b a := fun a b => Int.max_comm a b
  rcases List.eq_nil_or_concat out with rfl | ⟨o, z, rfl⟩
  · rw [stepM_nil, stepM_nil]
    have e1 := stepM_snoc [] ⟨x.f0, x.f1, x.f0⟩ y
    have e2 := stepM_snoc [] ⟨y.f0, y.f1, y.f0⟩ x
    simp only [List.nil_append] at e1 e2
    rw [e1, e2, if_pos (by omega), if_pos (by omega), h, hm]
  · rw [List.concat_eq_append, stepM_snoc, stepM_snoc]
    by_cases h1 : x.f0 ≤ z.f1
    · rw [if_pos h1, if_pos (by omega), stepM_snoc, stepM_snoc, if_pos (by simp only; omega), if_pos (by simp only; omega)]
      simp only
      rw [Int.max_assoc, Int.max_assoc, hm x.f1]
    · rw [if_neg h1, if_neg (by omega), stepM_snoc, stepM_snoc, if_pos (by simp only; omega), if_pos (by simp only; omega)]
      simp only [h]
      rw [hm]
theorem fold_last (B : List S26) : ∀ (out : List S26) (x : S26), x.f0 < x.f1 → (∀ b ∈ B, b.f0 = x.f0 ∧ b.f0 < b.f1) → (x :: B).foldl stepM out = (B ++ [x]).foldl stepM out := by
  induction B with
  | nil => intro out x _ _; rfl
  | cons b r ih =>
    intro out x hx hB
    obtain ⟨e, hb⟩ := hB b (List.mem_cons_self ..)
    have := ih (stepM out b) x hx (fun c hc => hB c (List.mem_cons_of_mem _ hc))
    simp only [List.foldl_cons, List.cons_append] at this ⊢
    rw [← this, stepM_swap out x b e.symm hx hb]
/-- Two rows of the same intervals, the early ones first: merged they are one. -/
theorem merge_perm : ∀ (n : Nat) (s t : List S26), s.length = n → s.Perm t → s.Pairwise (fun a b => a.f0 ≤ b.f0) → t.Pairwise (fun a b => a.f0 ≤ b.f0) → (∀ x ∈ s, x.f0 < x.f1) → mergeS s = mergeS t := by
  intro n
  induction n with
  | zero =>
    intro s t hn hp _ _ _
    obtain rfl := List.eq_nil_of_length_eq_zero hn
    obtain rfl := hp.nil_eq
    rfl
  | succ n ih =>
    intro s t hn hp hs ht hl
    rcases List.eq_nil_or_concat s with rfl | ⟨s0, x, rfl⟩
    · simp at hn
    rw [List.concat_eq_append] at *
    have hx : x ∈ t := hp.subset (by simp)
    obtain ⟨A, B, rfl⟩ := List.append_of_mem hx
    have hp2 : s0.Perm (A ++ B) := by
      have h1 : (s0 ++ [x]).Perm (x :: (A ++ B)) := hp.trans List.perm_middle
      have h2 : (s0 ++ [x]).Perm (x :: s0) := List.perm_append_comm (l₁ := s0) (l₂ := [x])
      exact (h2.symm.trans h1).cons_inv
    rw [List.pairwise_append] at hs
    have hB : ∀ b ∈ B, b.f0 = x.f0 ∧ b.f0 < b.f1 := by
      intro b hb
      have hbs : b ∈ s0 := hp2.symm.subset (by simp [hb])
      have h1 := hs.2.2 b hbs x (by simp)
      rw [List.pairwise_append, List.pairwise_cons] at ht
      have h2 := ht.2.1.1 b hb
      exact ⟨by omega, hl b (by simp [hbs])⟩
    have e1 : mergeS (A ++ x :: B) = mergeS (A ++ B ++ [x]) := by
      unfold mergeS
      rw [List.append_assoc, List.foldl_append, List.foldl_append, fold_last B _ x (hl x (by simp)) hB]
    rw [e1]
    have e2 : ∀ l, mergeS (l ++ [x]) = stepM (mergeS l) x := fun l => by unfold mergeS; rw [List.foldl_append]; rfl
    rw [e2, e2, ih s0 (A ++ B) (by simpa using hn) hp2 hs.1 (List.Pairwise.sublist (List.Sublist.append_left (List.sublist_cons_self x B) A) ht) (fun y hy => hl y (by simp [hy]))]
theorem insR_perm (x : S26) (l : List S26) : (insR x l).Perm (x :: l) := by
  induction l with
  | nil => exact List.Perm.refl _
  | cons y r ih =>
    unfold insR
    split
    · exact List.Perm.refl _
    · exact (ih.cons y).trans (List.Perm.swap x y r)
theorem insR_sorted (x : S26) (l : List S26) (hs : l.Pairwise (fun a b => a.f0 ≤ b.f0)) : (insR x l).Pairwise (fun a b => a.f0 ≤ b.f0) := by
  induction l with
  | nil => simp [insR]
  | cons y r ih =>
    rw [List.pairwise_cons] at hs
    unfold insR
    split
    · rename_i h
      rw [List.pairwise_cons, List.pairwise_cons]
      refine ⟨fun z hz => ?_, hs⟩
      rcases List.mem_cons.1 hz with rfl | hz
      · omega
      · have := hs.1 z hz; omega
    · rename_i h
      rw [List.pairwise_cons]
      refine ⟨fun z hz => ?_, ih hs.2⟩
      rcases List.mem_cons.1 ((insR_perm x r).subset hz) with rfl | hz
      · omega
      · exact hs.1 z hz
theorem sortR_go (l : List S26) : ∀ s : List S26, s.Pairwise (fun a b => a.f0 ≤ b.f0) → (l.foldl (fun s x => insR x s) s).Perm (s ++ l) ∧ (l.foldl (fun s x => insR x s) s).Pairwise (fun a b => a.f0 ≤ b.f0) := by
  induction l with
  | nil => intro s hs; exact ⟨by simp, hs⟩
  | cons x r ih =>
    intro s hs
    obtain ⟨h1, h2⟩ := ih (insR x s) (insR_sorted x s hs)
    refine ⟨h1.trans ?_, h2⟩
    exact ((insR_perm x s).append_right r).trans List.perm_middle.symm
theorem sortR_perm (l : List S26) : (sortR l).Perm l := by simpa [sortR] using (sortR_go l [] List.Pairwise.nil).1
theorem sortR_sorted (l : List S26) : (sortR l).Pairwise (fun a b => a.f0 ≤ b.f0) := (sortR_go l [] List.Pairwise.nil).2
theorem live_lt {l : List S26} {x : S26} (h : x ∈ liveL l) : x.f0 < x.f1 := by
  unfold liveL deadI at h
  rw [List.mem_filter] at h
  have := h.2
  simp at this
  omega
theorem mergeS_of (l s : List S26) (hp : s.Perm (liveL l)) (hs : s.Pairwise (fun a b => a.f0 ≤ b.f0)) : mergeS s = mergeL l :=
  merge_perm _ s _ rfl (hp.trans (sortR_perm _).symm) hs (sortR_sorted _) (fun _ hx => live_lt (hp.subset hx))
theorem live_len (l : List S26) : (liveL l).length ≤ l.length := List.length_filter_le _ _
theorem stepM_len (out : List S26) (x : S26) : (stepM out x).length ≤ out.length + 1 := by
  rcases List.eq_nil_or_concat out with rfl | ⟨o, z, rfl⟩
  · simp [stepM_nil]
  · rw [List.concat_eq_append, stepM_snoc]
    split <;> simp
theorem mergeS_len (s : List S26) : (mergeS s).length ≤ s.length := by
  have : ∀ (s out : List S26), (s.foldl stepM out).length ≤ out.length + s.length := by
    intro s
    induction s with
    | nil => intro out; simp
    | cons x r ih =>
      intro out
      have h1 := ih (stepM out x)
      have h2 := stepM_len out x
      simp only [List.foldl_cons, List.length_cons]
      omega
  simpa [mergeS] using this s []
end Go.Proofs.YtdafnjlmkbffeaaDoor.PD
-- written by a program of this work (mk.sh, over the kit's print; stubs are proved by hand)
namespace Go.Proofs.YtdafnjlmkbffeaaDoor.PD
open Go.RowKit Go.Proofs.YtdafnjlmkbffeaaDoorW.PrintWords Go.Proofs.YtdafnjlmkbffeaaDoorW.PrintLast Go.Proofs.YtdafnjlmkbffeaaDoorW.PrintMore
attribute [local go_sem] isSome_setCell max2_int min2_int max_two min_two max_three min_three max_four min_four   -- for this text's walks alone
set_option linter.unusedVariables false
set_option linter.unusedSimpArgs false

/-! ### busy_Merge: function 4 -/
def busy_Merge.l0 : Nat → List (S26) → List (S26) → Int → Int → Option ((List (S26)))
  | 0, _, _, _, _ => none
  | k + 1, x3, x12, x13, x14 => if x14 < x13 then (if 0 ≤ x14 then (if x14 < (x12.length : Int) then (if (x3.length : Int) > 0 then (if 0 ≤ (wrap64 ((x3.length : Int) - 1)) then (if (wrap64 ((x3.length : Int) - 1)) < (x3.length : Int) then (if ((rd_T26 x12 x14).f0) ≤ ((rd_T26 x3 (wrap64 ((x3.length : Int) - 1))).f1) then (busy_Merge.l0 k (x3.set ((wrap64 ((x3.length : Int) - 1)) : Int).toNat (⟨(rd_T26 x3 (wrap64 ((x3.length : Int) - 1))).f0, mx ((rd_T26 x3 (wrap64 ((x3.length : Int) - 1))).f1) ((rd_T26 x12 x14).f1), (rd_T26 x3 (wrap64 ((x3.length : Int) - 1))).f2⟩ : S26)) x12 x13 (wrap64 (x14 + 1))) else (if x3.length < 5864062014805 then (busy_Merge.l0 k (x3 ++ [(⟨(rd_T26 x12 x14).f0, (rd_T26 x12 x14).f1, (rd_T26 x12 x14).f0⟩ : S26)]) x12 x13 (wrap64 (x14 + 1))) else (none))) else (none)) else (none)) else (if x3.length < 5864062014805 then (busy_Merge.l0 k (x3 ++ [(⟨(rd_T26 x12 x14).f0, (rd_T26 x12 x14).f1, (rd_T26 x12 x14).f0⟩ : S26)]) x12 x13 (wrap64 (x14 + 1))) else (none))) else (none)) else (none)) else (some x3)
def busy_Merge.f (_ : Nat) (l0 : List (S26)) : Option ((List (S26))) := if l0.length < 5864062014805 then some (mergeL l0) else none
theorem busy_Merge.mono_l : ∀ k, (∀ y0 y1 y2 y3, LeO (busy_Merge.l0 k y0 y1 y2 y3) (busy_Merge.l0 (k + 1) y0 y1 y2 y3))
  | 0 => fun _ _ _ _ r h => by simp [busy_Merge.l0] at h
  | k + 1 => by
    have ih0 := busy_Merge.mono_l k
    · intro y0 y1 y2 y3
      unfold busy_Merge.l0
      repeat' first
      | (with_reducible exact ih0 _ _ _ _)
      | (with_reducible exact LeO.refl _)
      | (with_reducible exact LeO.none _)
      | (with_reducible refine LeO.ite ?_ ?_)
      | (with_reducible refine LeO.bind ?_ (fun _ => ?_))
      | exact ih0 _ _ _ _
      | exact LeO.none _
      | refine LeO.ite ?_ ?_
      | refine LeO.bind ?_ (fun _ => ?_)
theorem busy_Merge.mono : ∀ a0 k, LeO (busy_Merge.f k a0) (busy_Merge.f (k + 1) a0) := fun _ _ => LeO.refl _
theorem busy_Merge.loop (s : List S26) (hlim : s.length < 5864062014805) : ∀ (k i : Nat), i ≤ s.length → s.length < k + i → busy_Merge.l0 k (mergeS (s.take i)) s (s.length : Int) (i : Int) = some (mergeS s)
  | 0, i, h1, h2 => by omega
  | k + 1, i, h1, h2 => by
    have ih := busy_Merge.loop s hlim k (i + 1)
    have hw : wrap64 ((i : Int) + 1) = ((i + 1 : Nat) : Int) := by simp only [wrap64]; omega
    have hml := Nat.le_trans (mergeS_len (s.take i)) (by rw [List.length_take]; exact Nat.min_le_left _ _ : (s.take i).length ≤ i)
    unfold busy_Merge.l0
    by_cases hi : i < s.length
    · have hx : rd_T26 s (i : Int) = s[i] := by simp [rd_T26, hi]
      have ht : mergeS (s.take (i + 1)) = stepM (mergeS (s.take i)) s[i] := by
        unfold mergeS
        rw [List.take_add_one, List.getElem?_eq_getElem hi, List.foldl_append]
        rfl
      rw [if_pos (by omega), if_pos (by omega), if_pos (by omega), hx, hw]
      have ih' := ih (by omega) (by omega)
      rw [ht] at ih'
      revert hml ih'
      generalize mergeS (s.take i) = o
      intro hml ih'
      rcases List.eq_nil_or_concat o with rfl | ⟨q, z, rfl⟩
      · rw [if_neg (by simp), if_pos (by simp)]
        rw [stepM_nil] at ih'
        exact ih'
      · rw [List.concat_eq_append] at *
        have hwl : wrap64 (((q ++ [z]).length : Int) - 1) = (q.length : Int) := by simp only [wrap64, List.length_append, List.length_singleton]; simp only [List.length_append, List.length_singleton] at hml; omega
        have hz : rd_T26 (q ++ [z]) (q.length : Int) = z := by simp [rd_T26]
        rw [if_pos (by simp only [List.length_append, List.length_singleton]; omega), hwl, if_pos (by omega), if_pos (by simp; omega), hz]
        rw [stepM_snoc] at ih'
        by_cases hc : s[i].f0 ≤ z.f1
        · rw [if_pos hc] at ih' ⊢
          have e1 : (q ++ [z]).set ((q.length : Int)).toNat (⟨z.f0, mx z.f1 s[i].f1, z.f2⟩ : S26) = q ++ [⟨z.f0, max z.f1 s[i].f1, z.f2⟩] := by
            rw [Int.toNat_natCast, List.set_append_right _ _ (Nat.le_refl _), Nat.sub_self]
            have : mx z.f1 s[i].f1 = max z.f1 s[i].f1 := by unfold mx; split <;> omega
            rw [this]; rfl
          rw [e1]
          exact ih'
        · rw [if_neg hc] at ih' ⊢
          rw [if_pos (by omega)]
          exact ih'
    · rw [if_neg (by omega)]
      obtain rfl : i = s.length := by omega
      rw [List.take_length]
theorem below_own {w W W' : World} {v : Value} (h : Below w.heap.size w W) (hg : W.grownBy W' v.ownBlock) (hb : ∀ k, v.ownBlock = some k → w.heap.size ≤ k) : Below w.heap.size w W' := by
  refine h.trans ⟨hg.os, hg.tape, hg.output, hg.size, fun k hk => hg.block k (Nat.lt_of_lt_of_le hk h.size) (fun e => ?_)⟩
  have := hb k e.symm
  omega
def busy_Merge.T8 : Bool × List (List Nat × List Nat) := (true, [([], []), ([0], [0]), ([1], [1]), ([2], [2]), ([3, 2], [2, 3]), ([2], [2]), ([2], [2]), ([6, 2], [2, 6]), ([5, 7, 2], [2, 5, 7]), ([8, 2], [2, 8]), ([9, 2], [2, 9]), ([4, 10, 2], [2, 4, 10]), ([2, 11], [2, 11])])
def busy_Merge.B8 : List Nat := [0, 1, 3, 7, 15, 7, 7, 71, 231, 487, 999, 2047, 4095]
theorem busy_Merge.tab8 : rtab .any (opsOf Tryd.f4 8) = busy_Merge.T8 := by kernel_rfl
theorem busy_Merge.bits8 : waitsOk busy_Merge.T8.2 busy_Merge.B8 = true := by kernel_rfl
def busy_Merge.T9 : Bool × List (List Nat × List Nat) := (true, [([], []), ([], []), ([1], [1]), ([], []), ([], []), ([4], [4]), ([3, 5], [3, 5]), ([6], [6]), ([7], [7]), ([], []), ([9], [9]), ([8, 10], [8, 10]), ([0, 2, 0, 1, 2, 3, 4, 5, 6, 7, 8, 9, 10, 11], [0, 2]), ([12, 0, 1, 2, 3, 4, 5, 6, 7, 8, 9, 10, 11], [12]), ([13, 11, 0, 1, 2, 3, 4, 5, 6, 7, 8, 9, 10, 11], [11, 13])])
def busy_Merge.B9 : List Nat := [0, 0, 2, 0, 0, 16, 56, 120, 248, 0, 512, 2040, 4095, 8191, 16383]
theorem busy_Merge.tab9 : rtab .any (opsOf Tryd.f4 9) = busy_Merge.T9 := by kernel_rfl
theorem busy_Merge.bits9 : waitsOk busy_Merge.T9.2 busy_Merge.B9 = true := by kernel_rfl
set_option maxHeartbeats 8000000 in
set_option maxRecDepth 100000 in
theorem busy_Merge.calls (k : Nat) (A0 : Option Addr) (c0 : Nat) (l0 : List (S26)) (r : List (S26)) (w : World) (hr0 : Kd.C k26 w A0 l0.length l0) (hc0 : l0.length ≤ c0) (h : busy_Merge.f k l0 = some r) :
    Calls Tryd.prog 4 #[.slice A0 l0.length c0] w fun e w' => ∃ v0_ : Value, e = .returned (v0_) ∧ Kd.R k26 26 w' w.heap.size (fun _ => True) v0_ r ∧ Below w.heap.size w w' := by
  have hu26 := Tryd.underlying26
  have HR0 := Aside0.mk hr0
  have HC0 := Aside0.mk hc0
  clear hr0 hc0
  have HB := Aside0.mk (Below.refl w.heap.size w)
  unfold busy_Merge.f at h
  split at h
  case isFalse => cases h
  rename_i hlim
  obtain rfl := Option.some.inj h
  clear h
  have hbig : (liveL l0).length < 4611686018427387904 := by have := live_len l0; omega
  have HRR := Aside0.mk (fun (s : List S26) (hp : s.Perm (liveL l0)) (hs : s.Pairwise (fun a b => a.f0 ≤ b.f0)) => (by
    have h1 := hp.length_eq
    have h2 := live_len l0
    have h3 := busy_Merge.loop s (by omega) (s.length + 1) 0 (Nat.zero_le _) (by omega)
    rw [mergeS_of l0 s hp hs] at h3
    exact h3 : busy_Merge.l0 (s.length + 1) ([] : List (S26)) s (s.length : Int) 0 = some (mergeL l0)))
  obtain ⟨r, hr⟩ : ∃ r, mergeL l0 = r := ⟨_, rfl⟩
  rw [hr] at HRR ⊢
  clear hr
  have HC := Aside0.mk (cloneSp A0 c0 l0 w HR0.out HC0.out hlim)
  have HBG := Aside0.mk hbig
  clear hlim hbig
  go_enter Tryd.func4, Tryd.ntmps4
  go_wp2_with (first | (go_at_call 9; refine HC.out.mono ?_; rintro e w2 ⟨v1, rfl, hR, hb2⟩; have HD := Aside0.mk (delete_calls w.heap.size v1 l0 w2 hR hb2.size); have HB2 := Aside0.mk hb2; clear hR hb2) | (go_at_call 8; refine HD.out.mono ?_; rintro e w3 ⟨v2, rfl, hR, hb3⟩; have HB3 := Aside0.mk (HB2.out.trans hb3); have HS := Aside0.mk (sortSp_calls w.heap.size (fun _ => True) v2 (liveL l0) w3 hR HBG.out); have HOB := Aside0.mk (Kd.R_base hR); clear hR hb3) | (go_at_call 11; refine HS.out.mono ?_; rintro e w4 ⟨rfl, t112, hpm, hst, hR, hgr⟩; clear HB; have HB := Aside0.mk (below_own HB3.out hgr HOB.out); have H' := Aside0.mk (HRR.out t112 hpm hst); have HO114 := Aside0.mk hR; clear hpm hst hgr hR HC HD HS HB2 HB3 HOB HRR; obtain ⟨Ao8, co8, eo8⟩ := Kd.R_slice HO114.out; subst eo8))
  go_loopg [3, 14] (t112.length + 1) (fun kq v3 v14 w' => ∃ (x3_1 : List (S26)) (x12_1 : List (S26)) (x14_1 : Int), v14 = .int .i64 x14_1 ∧ Aside0 (busy_Merge.l0 kq x3_1 x12_1 (t112.length : Int) x14_1 = some r) ∧ Aside0 (kq ≤ t112.length + 1) ∧ Aside0 (Kd.R k26 26 w' w.heap.size (fun k_ => some k_ ≠ ((.slice Ao8 t112.length co8) : Value).ownBlock) v3 x3_1) ∧ Aside0 (Kd.R k26 26 w' w.heap.size (fun k_ => some k_ ≠ (v3 : Value).ownBlock) (.slice Ao8 t112.length co8) x12_1) ∧ Aside0 (Below w.heap.size w w'))
  case atStart => exact ⟨(([] : List (S26))), (t112), (0), (by first | rfl | (simp; done) | (simp [*]; done)), H', ⟨Nat.le_refl _⟩, ⟨by first | exact Kd.R_nil _ _ _ _ _ | exact Kd.N_nil _ _ _ _ _ | exact Kd.V_nil _ _ _ _ _ | exact Kd.Q_nil _ _ _ _ _ | exact Kd.S_nil _ _ _ _ _⟩, ⟨by (with_reducible repeat (first | apply Kd.R_alloc | apply Kd.R_drewN | apply Kd.R_drew)); exact Kd.R_mono HO114.out (fun _ hk => (by simp [Value.ownBlock]))⟩, ⟨by repeat (first | (with_reducible first | exact HB.out | apply below_alloc | apply pw_below_drewN | apply below_drew1) | exact HB.out)⟩⟩
  case round =>
    clear H'
    try clear c1
    try clear p2
    try clear c4
    try clear c8
    obtain ⟨x3_1, x12_1, x14_1, rfl, HA, HK1, HO_3, HO_12, HB⟩ := hrel
    have hl12_1 := (Kd.R_reads' HO_12.out).1
    rw [hl12_1] at HO_12
    (try simp only [hl12_1])
    (try simp only [hl12_1] at HO_3)
    cases gk with
    | zero => exact absurd HA.out (by simp [busy_Merge.l0])
    | succ k1 =>
      have H := HA.out
      clear HA
      simp only [busy_Merge.l0] at H
      by_cases c9 : x14_1 < (t112.length : Int)
      · rw [if_pos c9] at H
        have c9b0 : decide (x14_1 < (t112.length : Int)) = true := decide_eq_true c9
        clear c9
        by_cases c10 : 0 ≤ x14_1
        · rw [if_pos c10] at H
          have c10b0 : decide (0 ≤ x14_1) = true := decide_eq_true c10
          clear c10
          by_cases c11 : x14_1 < (x12_1.length : Int)
          · rw [if_pos c11] at H
            have c11b0 : decide (x14_1 < (x12_1.length : Int)) = true := decide_eq_true c11
            clear c11
            by_cases c12 : (x3_1.length : Int) > 0
            · rw [if_pos c12] at H
              have c12b0 : decide (0 < (x3_1.length : Int)) = true := decide_eq_true c12
              have c12b1 : decide (0 < x3_1.length) = true := decide_eq_true (by omega)
              clear c12
              obtain ⟨ji13, hji13⟩ : ∃ j_ : Int, (wrap64 ((x3_1.length : Int) - 1)) = j_ := ⟨_, rfl⟩
              replace H : (if 0 ≤ (ji13) then (if (ji13) < (x3_1.length : Int) then (if ((rd_T26 x12_1 x14_1).f0) ≤ ((rd_T26 x3_1 (ji13)).f1) then (busy_Merge.l0 k1 (x3_1.set ((ji13) : Int).toNat (⟨(rd_T26 x3_1 (ji13)).f0, mx ((rd_T26 x3_1 (ji13)).f1) ((rd_T26 x12_1 x14_1).f1), (rd_T26 x3_1 (ji13)).f2⟩ : S26)) x12_1 (t112.length : Int) (wrap64 (x14_1 + 1))) else (if x3_1.length < 5864062014805 then (busy_Merge.l0 k1 (x3_1 ++ [(⟨(rd_T26 x12_1 x14_1).f0, (rd_T26 x12_1 x14_1).f1, (rd_T26 x12_1 x14_1).f0⟩ : S26)]) x12_1 (t112.length : Int) (wrap64 (x14_1 + 1))) else (none))) else (none)) else (none)) = some r := by first | (rw [hji13] at H; exact H) | (simp only [hji13] at H ⊢; exact H)
              have hji13w : (IntKind.i64.wrap ((x3_1.length : Int) - 1)) = ji13 := (i64_w _).trans hji13
              by_cases c14 : 0 ≤ (ji13)
              · rw [if_pos c14] at H
                have c14b0 : decide (0 ≤ (ji13)) = true := decide_eq_true c14
                clear c14
                by_cases c15 : (ji13) < (x3_1.length : Int)
                · rw [if_pos c15] at H
                  have c15b0 : decide ((ji13) < (x3_1.length : Int)) = true := decide_eq_true c15
                  clear c15
                  by_cases c16 : ((rd_T26 x12_1 x14_1).f0) ≤ ((rd_T26 x3_1 (ji13)).f1)
                  · rw [if_pos c16] at H
                    have c16b0 : decide (((rd_T26 x12_1 x14_1).f0) ≤ ((rd_T26 x3_1 (ji13)).f1)) = true := decide_eq_true c16
                    clear c16
                    obtain ⟨ji17, hji17⟩ : ∃ j_ : Int, (mx ((rd_T26 x3_1 (ji13)).f1) ((rd_T26 x12_1 x14_1).f1)) = j_ := ⟨_, rfl⟩
                    replace H : (busy_Merge.l0 k1 (x3_1.set ((ji13) : Int).toNat (⟨(rd_T26 x3_1 (ji13)).f0, ji17, (rd_T26 x3_1 (ji13)).f2⟩ : S26)) x12_1 (t112.length : Int) (wrap64 (x14_1 + 1))) = some r := by first | (rw [hji17] at H; exact H) | (simp only [hji17] at H ⊢; exact H)
                    have hji17_ : (if ((rd_T26 x3_1 (ji13)).f1) < ((rd_T26 x12_1 x14_1).f1) then ((rd_T26 x12_1 x14_1).f1) else ((rd_T26 x3_1 (ji13)).f1)) = ji17 := hji17
                    obtain ⟨y119, hy119⟩ : ∃ y_ : List (S26), y_ = (x3_1.set ((ji13) : Int).toNat (⟨(rd_T26 x3_1 (ji13)).f0, ji17, (rd_T26 x3_1 (ji13)).f2⟩ : S26)) := ⟨_, rfl⟩
                    replace H : (busy_Merge.l0 k1 y119 x12_1 (t112.length : Int) (wrap64 (x14_1 + 1))) = some r := by first | (rw [hy119]; with_reducible exact H) | (have H2_ := (Option.bind_some _ _).symm.trans H; rw [hy119]; with_reducible exact H2_) | (have H2_ := (Option.bind_some _ _).symm.trans H; with_reducible exact H2_) | with_reducible exact H | (rw [hy119]; exact H) | exact H
                    have Ny119 := Aside0.mk hy119
                    clear hy119
                    have H' := Aside0.mk H
                    clear H
                    have p115 : 0 ≤ (x14_1 : Int) := of_decide_eq_true (by first | (with_reducible assumption) | assumption)
                    have q115 : x14_1 < (x12_1.length : Int) := of_decide_eq_true (by first | (with_reducible assumption) | assumption)
                    obtain ⟨ad115, e115, hx115_0, hx115_1, hx115_2⟩ := at_T26 (Kd.R_reads' HO_12.out).2.2 x14_1 p115 q115
                    cases e115
                    replace p115 := eq_true p115
                    replace q115 := eq_true q115
                    try go_wp2_with (first | ((with_reducible refine gate_dst (N := 5) rfl ?_); refine box_event ?hg (N := 5) ?hd (cs := #[.int .i64 0, .int .i64 0, .int .i64 0]) (t := 26) ?hr ?_; (case hd => rfl); (case hg => rfl); (case hr => first | (go_simp; done) | (go_simp; rfl)); intro gb116 hg w19 hbox hb; have n0_ := Aside0.mk (Kd.R_below (Kd.R_elderB (by (with_reducible repeat (first | apply Kd.R_alloc | apply Kd.R_drewN | apply Kd.R_drew)); exact HO_3.out) gb116 (Nat.le_of_eq hg.symm)) hb); have n1_ := Aside0.mk (Kd.R_below (Kd.R_elderB (by (with_reducible repeat (first | apply Kd.R_alloc | apply Kd.R_drewN | apply Kd.R_drew)); exact HO_12.out) gb116 (Nat.le_of_eq hg.symm)) hb); have n2_ := Aside0.mk (below_step (by repeat (first | (with_reducible first | exact HB.out | apply below_alloc | apply pw_below_drewN | apply below_drew1) | exact HB.out)) hb); have n3_ := Aside0.mk (hbox); have n4_ := Aside0.mk ((by rw [hg]; exact (below_size (by repeat (first | (with_reducible first | exact HB.out | apply below_alloc | apply pw_below_drewN | apply below_drew1) | exact HB.out))) : w.heap.size ≤ gb116)); have n5_ := Aside0.mk ((by rw [hg]; exact (below_size (by repeat (first | (with_reducible first | exact HB.out | apply below_alloc | apply pw_below_drewN | apply below_drew1) | exact HB.out))) : w.heap.size ≤ gb116)); clear HO_3; clear HO_12; clear HB; have HO_3 := n0_; have HO_12 := n1_; have HB := n2_; have BK116 := n3_; have GW116 := n4_; have GE116 := n5_; clear n0_ n1_ n2_ n3_ n4_ n5_; clear hb hbox hg; have hcz20_0 : w19.cell? ⟨gb116, 0, none⟩ = some (.int .i64 0) := (blk_cell BK116.out 0).trans rfl; have hcz20_1 : w19.cell? ⟨gb116, 1, none⟩ = some (.int .i64 0) := (blk_cell BK116.out 1).trans rfl; have hcz20_2 : w19.cell? ⟨gb116, 2, none⟩ = some (.int .i64 0) := (blk_cell BK116.out 2).trans rfl; have hfz20_0 := blk_frozen BK116.out 0; have hfz20_1 := blk_frozen BK116.out 1; have hfz20_2 := blk_frozen BK116.out 2; obtain ⟨Ao21, co21, eo21⟩ := Kd.R_slice HO_3.out; subst eo21))
                    have n0_ : Aside0 (Kd.R k26 26 (((w19.setCell ⟨gb116, 0, none⟩ (.int .i64 ((rd_T26 x12_1 x14_1).f0))).setCell ⟨gb116, 1, none⟩ (.int .i64 ((rd_T26 x12_1 x14_1).f1))).setCell ⟨gb116, 2, none⟩ (.int .i64 ((rd_T26 x12_1 x14_1).f2))) w.heap.size (fun k_ => some k_ ≠ (.slice (some ad115) x12_1.length co8 : Value).ownBlock ∧ k_ ≠ gb116) (.slice Ao21 x3_1.length co21) x3_1) := ⟨by (with_reducible repeat (first | apply Kd.R_alloc | apply Kd.R_drewN | apply Kd.R_drew)); exact Kd.R_mono (Kd.R_far (p := ⟨gb116, 2, none⟩) (Kd.R_far (p := ⟨gb116, 1, none⟩) (Kd.R_far (p := ⟨gb116, 0, none⟩) (Kd.R_mono HO_3.out (fun k_ hk => (⟨hk, hk.2⟩ : _ ∧ k_ ≠ gb116))) (fun _ hk => hk.2) (.int .i64 ((rd_T26 x12_1 x14_1).f0))) (fun _ hk => hk.2) (.int .i64 ((rd_T26 x12_1 x14_1).f1))) (fun _ hk => hk.2) (.int .i64 ((rd_T26 x12_1 x14_1).f2))) (fun _ hk => ⟨hk.1.1, hk.1.2⟩)⟩
                    have n1_ : Aside0 (Kd.R k26 26 (((w19.setCell ⟨gb116, 0, none⟩ (.int .i64 ((rd_T26 x12_1 x14_1).f0))).setCell ⟨gb116, 1, none⟩ (.int .i64 ((rd_T26 x12_1 x14_1).f1))).setCell ⟨gb116, 2, none⟩ (.int .i64 ((rd_T26 x12_1 x14_1).f2))) w.heap.size (fun k_ => some k_ ≠ (.slice Ao21 x3_1.length co21 : Value).ownBlock ∧ k_ ≠ gb116) (.slice (some ad115) x12_1.length co8) x12_1) := ⟨by (with_reducible repeat (first | apply Kd.R_alloc | apply Kd.R_drewN | apply Kd.R_drew)); exact Kd.R_mono (Kd.R_far (p := ⟨gb116, 2, none⟩) (Kd.R_far (p := ⟨gb116, 1, none⟩) (Kd.R_far (p := ⟨gb116, 0, none⟩) (Kd.R_mono HO_12.out (fun k_ hk => (⟨hk, hk.2⟩ : _ ∧ k_ ≠ gb116))) (fun _ hk => hk.2) (.int .i64 ((rd_T26 x12_1 x14_1).f0))) (fun _ hk => hk.2) (.int .i64 ((rd_T26 x12_1 x14_1).f1))) (fun _ hk => hk.2) (.int .i64 ((rd_T26 x12_1 x14_1).f2))) (fun _ hk => ⟨hk.1.1, hk.1.2⟩)⟩
                    have n2_ : Aside0 ((((w19.setCell ⟨gb116, 0, none⟩ (.int .i64 ((rd_T26 x12_1 x14_1).f0))).setCell ⟨gb116, 1, none⟩ (.int .i64 ((rd_T26 x12_1 x14_1).f1))).setCell ⟨gb116, 2, none⟩ (.int .i64 ((rd_T26 x12_1 x14_1).f2))).heap[gb116]? = some (.cells #[.int .i64 ((rd_T26 x12_1 x14_1).f0), .int .i64 ((rd_T26 x12_1 x14_1).f1), .int .i64 ((rd_T26 x12_1 x14_1).f2)] 26 (0, 0))) := ⟨by (with_reducible repeat (first | refine blk_drewN ?_ _ | refine blk_drew ?_ | refine blk_alloc ?_ _)); refine blk_put (cs := #[.int .i64 ((rd_T26 x12_1 x14_1).f0), .int .i64 ((rd_T26 x12_1 x14_1).f1), .int .i64 0]) ?_ 2 _ rfl; (with_reducible repeat (first | refine blk_drewN ?_ _ | refine blk_drew ?_ | refine blk_alloc ?_ _)); refine blk_put (cs := #[.int .i64 ((rd_T26 x12_1 x14_1).f0), .int .i64 0, .int .i64 0]) ?_ 1 _ rfl; (with_reducible repeat (first | refine blk_drewN ?_ _ | refine blk_drew ?_ | refine blk_alloc ?_ _)); refine blk_put (cs := #[.int .i64 0, .int .i64 0, .int .i64 0]) ?_ 0 _ rfl; (with_reducible repeat (first | refine blk_drewN ?_ _ | refine blk_drew ?_ | refine blk_alloc ?_ _)); exact BK116.out⟩
                    have n3_ : Aside0 (Below w.heap.size w (((w19.setCell ⟨gb116, 0, none⟩ (.int .i64 ((rd_T26 x12_1 x14_1).f0))).setCell ⟨gb116, 1, none⟩ (.int .i64 ((rd_T26 x12_1 x14_1).f1))).setCell ⟨gb116, 2, none⟩ (.int .i64 ((rd_T26 x12_1 x14_1).f2)))) := ⟨by repeat (first | (with_reducible first | exact HB.out | apply below_alloc | apply pw_below_drewN | apply below_drew1 | refine below_set ?_ GE116.out) | exact HB.out)⟩
                    (try clear HO_3)
                    (try clear HO_12)
                    (try clear BK116)
                    (try clear HB)
                    generalize (((w19.setCell ⟨gb116, 0, none⟩ (.int .i64 ((rd_T26 x12_1 x14_1).f0))).setCell ⟨gb116, 1, none⟩ (.int .i64 ((rd_T26 x12_1 x14_1).f1))).setCell ⟨gb116, 2, none⟩ (.int .i64 ((rd_T26 x12_1 x14_1).f2))) = w22 at n0_ n1_ n2_ n3_ ⊢
                    have HO_3 := n0_
                    have HO_12 := n1_
                    have BK116 := n2_
                    have HB := n3_
                    clear n0_ n1_ n2_ n3_
                    have n0_ := Aside0.mk (Kd.R_drew HO_3.out)
                    have n1_ := Aside0.mk (Kd.R_drew HO_12.out)
                    have n2_ := Aside0.mk (blk_drew BK116.out)
                    have n3_ := Aside0.mk (below_drew1 HB.out)
                    clear HO_3
                    clear HO_12
                    clear BK116
                    clear HB
                    have HO_3 := n0_
                    have HO_12 := n1_
                    have BK116 := n2_
                    have HB := n3_
                    clear n0_ n1_ n2_ n3_
                    have p117 : 0 ≤ ((ji13) : Int) := of_decide_eq_true (by first | (with_reducible assumption) | assumption)
                    have q117 : (ji13) < (x3_1.length : Int) := of_decide_eq_true (by first | (with_reducible assumption) | assumption)
                    obtain ⟨ad117, e117, hx117_0, hx117_1, hx117_2⟩ := at_T26 (Kd.R_reads' HO_3.out).2.2 (ji13) p117 q117
                    cases e117
                    replace p117 := eq_true p117
                    replace q117 := eq_true q117
                    refine start_ (n := 13) (S := fun w' => w'.cell? ⟨gb116, 0, none⟩ = some (.int .i64 ((rd_T26 x12_1 x14_1).f0)) ∧ w'.cell? ⟨gb116, 1, none⟩ = some (.int .i64 ((rd_T26 x12_1 x14_1).f1)) ∧ w'.cell? ⟨gb116, 2, none⟩ = some (.int .i64 ((rd_T26 x12_1 x14_1).f2)) ∧ w'.cell? (ad117.add (((ji13)).toNat * 3)) = some (.int .i64 ((rd_T26 x3_1 (ji13)).f0)) ∧ w'.cell? ⟨(ad117.add (((ji13)).toNat * 3)).block, (ad117.add (((ji13)).toNat * 3)).off + 1, none⟩ = some (.int .i64 ((rd_T26 x3_1 (ji13)).f1)) ∧ w'.cell? ⟨(ad117.add (((ji13)).toNat * 3)).block, (ad117.add (((ji13)).toNat * 3)).off + 2, none⟩ = some (.int .i64 ((rd_T26 x3_1 (ji13)).f2))) (ds := []) #[false, false, false, false, false, false, false, false, false, false, false, false, false] (by kernel_rfl) rfl rfl ⟨(blk_cell BK116.out 0).trans rfl, (blk_cell BK116.out 1).trans rfl, (blk_cell BK116.out 2).trans rfl, hx117_0, hx117_1, hx117_2⟩ (fun hHeld => ?_); refine with_tabW busy_Merge.tab8 busy_Merge.bits8 (fun HT_ HW_ => ?_)
                    generalize w22.drew = w23 at HO_3 HO_12 BK116 HB hx117_0 hx117_1 hx117_2 hHeld ⊢
                    refine pure_ (i := 0) (N := some 20) (v := ?_) (a' := ?_) #[true, false, false, false, false, false, false, false, false, false, false, false, false] rfl rfl (any_of HT_.out (by kernel_rfl)) (fun _ _ _ h => h) (Or.inl ⟨by rfl, ?_⟩) ?_ ?_
                    rotate_left
                    · intro w'
                      go_simp
                      with_reducible rfl
                    rotate_left
                    · simp only [Act.put, List.setIfInBounds_toArray, List.set_cons_zero, List.set_cons_succ, i64_w, i32_w]
                      rfl
                    refine pure_ (i := 1) (N := some 21) (v := ?_) (a' := ?_) #[true, true, false, false, false, false, false, false, false, false, false, false, false] rfl rfl (any_of HT_.out (by kernel_rfl)) (fun _ _ _ h => h) (Or.inl ⟨by rfl, ?_⟩) ?_ ?_
                    rotate_left
                    · intro w'
                      go_simp
                      with_reducible rfl
                    rotate_left
                    · simp only [Act.put, List.setIfInBounds_toArray, List.set_cons_zero, List.set_cons_succ, i64_w, i32_w]
                      rfl
                    refine pure_ (i := 2) (N := some 22) (v := ?_) (a' := ?_) #[true, true, true, false, false, false, false, false, false, false, false, false, false] rfl rfl (any_of HT_.out (by kernel_rfl)) (fun _ _ _ h => h) (Or.inl ⟨by rfl, ?_⟩) ?_ ?_
                    rotate_left
                    · intro w'
                      go_simp
                      with_reducible rfl
                    rotate_left
                    · simp only [Act.put, List.setIfInBounds_toArray, List.set_cons_zero, List.set_cons_succ, i64_w, i32_w]
                      rfl
                    refine pure_ (i := 3) (N := some 23) (v := ?_) (a' := ?_) #[true, true, true, true, false, false, false, false, false, false, false, false, false] rfl rfl (any_of HT_.out (by kernel_rfl)) (fun _ _ _ h => h) (Or.inl ⟨by rfl, ?_⟩) ?_ ?_
                    rotate_left
                    · intro w'
                      go_simp
                      with_reducible rfl
                    rotate_left
                    · simp only [Act.put, List.setIfInBounds_toArray, List.set_cons_zero, List.set_cons_succ, i64_w, i32_w]
                      rfl
                    refine pure_ (i := 5) (N := some 25) (v := ?_) (a' := ?_) #[true, true, true, true, false, true, false, false, false, false, false, false, false] rfl rfl (any_of HT_.out (by kernel_rfl)) (fun _ _ _ h => h) (Or.inl ⟨by rfl, ?_⟩) ?_ ?_
                    rotate_left
                    · intro w'
                      go_simp
                      with_reducible rfl
                    rotate_left
                    · simp only [Act.put, List.setIfInBounds_toArray, List.set_cons_zero, List.set_cons_succ, i64_w, i32_w]
                      rfl
                    refine pure_ (i := 6) (N := some 26) (v := ?_) (a' := ?_) #[true, true, true, true, false, true, true, false, false, false, false, false, false] rfl rfl (any_of HT_.out (by kernel_rfl)) (fun _ _ _ h => h) (Or.inl ⟨by rfl, ?_⟩) ?_ ?_
                    rotate_left
                    · intro w'
                      go_simp
                      with_reducible rfl
                    rotate_left
                    · simp only [Act.put, List.setIfInBounds_toArray, List.set_cons_zero, List.set_cons_succ, i64_w, i32_w]
                      rfl
                    refine pure_ (i := 7) (N := some 27) (v := ?_) (a' := ?_) #[true, true, true, true, false, true, true, true, false, false, false, false, false] rfl rfl (any_of HT_.out (by kernel_rfl)) (fun _ _ _ h => h) (Or.inl ⟨by rfl, ?_⟩) ?_ ?_
                    rotate_left
                    · intro w'
                      go_simp
                      with_reducible rfl
                    rotate_left
                    · simp only [Act.put, List.setIfInBounds_toArray, List.set_cons_zero, List.set_cons_succ, i64_w, i32_w]
                      rfl
                    refine pure_ (i := 8) (N := some 28) (v := ?_) (a' := ?_) #[true, true, true, true, false, true, true, true, true, false, false, false, false] rfl rfl (any_of HT_.out (by kernel_rfl)) (fun _ _ _ h => h) (Or.inl ⟨by rfl, ?_⟩) ?_ ?_
                    rotate_left
                    · intro w'
                      go_simp
                      with_reducible rfl
                    rotate_left
                    · simp only [Act.put, List.setIfInBounds_toArray, List.set_cons_zero, List.set_cons_succ, i64_w, i32_w]
                      rfl
                    refine pure_ (i := 9) (N := some 29) (v := ?_) (a' := ?_) #[true, true, true, true, false, true, true, true, true, true, false, false, false] rfl rfl (any_of HT_.out (by kernel_rfl)) (fun _ _ _ h => h) (Or.inl ⟨by rfl, ?_⟩) ?_ ?_
                    rotate_left
                    · intro w'
                      go_simp
                      with_reducible rfl
                    rotate_left
                    · simp only [Act.put, List.setIfInBounds_toArray, List.set_cons_zero, List.set_cons_succ, i64_w, i32_w]
                      rfl
                    refine take_ (i := 4) (N := some 24) (v := ?_) (a' := ?_) #[true, true, true, true, true, true, true, true, true, true, false, false, false] rfl rfl (take_ofW HT_.out HW_.out (by kernel_rfl)) (fun _ _ _ h => h) (Or.inl ⟨by rfl, ?_⟩) hHeld ?_ ?_
                    rotate_left
                    · rintro w' ⟨s0, s1, s2, s3, s4, s5⟩
                      go_simp
                      with_reducible rfl
                    rotate_left
                    · simp only [Act.put, List.setIfInBounds_toArray, List.set_cons_zero, List.set_cons_succ, i64_w, i32_w]
                      rfl
                    refine take_ (i := 10) (N := some 30) (v := ?_) (a' := ?_) #[true, true, true, true, true, true, true, true, true, true, true, false, false] rfl rfl (take_ofW HT_.out HW_.out (by kernel_rfl)) (fun _ _ _ h => h) (Or.inl ⟨by rfl, ?_⟩) hHeld ?_ ?_
                    rotate_left
                    · rintro w' ⟨s0, s1, s2, s3, s4, s5⟩
                      go_simp
                      with_reducible rfl
                    rotate_left
                    · simp only [Act.put, List.setIfInBounds_toArray, List.set_cons_zero, List.set_cons_succ, i64_w, i32_w]
                      rfl
                    refine pure_ (i := 11) (N := some 31) (v := ?_) (a' := ?_) #[true, true, true, true, true, true, true, true, true, true, true, true, false] rfl rfl (any_of HT_.out (by kernel_rfl)) (fun _ _ _ h => h) (Or.inl ⟨by rfl, ?_⟩) ?_ ?_
                    rotate_left
                    · intro w'
                      go_simp
                      with_reducible rfl
                    rotate_left
                    · simp only [Act.put, List.setIfInBounds_toArray, List.set_cons_zero, List.set_cons_succ, i64_w, i32_w]
                      rfl
                    refine pure_ (i := 12) (N := some 32) (v := ?_) (a' := ?_) #[true, true, true, true, true, true, true, true, true, true, true, true, true] rfl rfl (any_of HT_.out (by kernel_rfl)) (fun _ _ _ h => h) (Or.inl ⟨by rfl, ?_⟩) ?_ ?_
                    rotate_left
                    · intro w'
                      go_simp
                      with_reducible rfl
                    rotate_left
                    · simp only [Act.put, List.setIfInBounds_toArray, List.set_cons_zero, List.set_cons_succ, i64_w, i32_w]
                      rfl
                    refine done_ (done_of HT_.out (by kernel_rfl)) ?_
                    try go_wp2
                    have n0_ := Aside0.mk (Kd.R_drew HO_3.out)
                    have n1_ := Aside0.mk (Kd.R_drew HO_12.out)
                    have n2_ := Aside0.mk (blk_drew BK116.out)
                    have n3_ := Aside0.mk (below_drew1 HB.out)
                    clear HO_3
                    clear HO_12
                    clear BK116
                    clear HB
                    have HO_3 := n0_
                    have HO_12 := n1_
                    have BK116 := n2_
                    have HB := n3_
                    clear n0_ n1_ n2_ n3_
                    have p118 : 0 ≤ ((ji13) : Int) := of_decide_eq_true (by first | (with_reducible assumption) | assumption)
                    have q118 : (ji13) < (x3_1.length : Int) := of_decide_eq_true (by first | (with_reducible assumption) | assumption)
                    obtain ⟨ad118, e118, hx118_0, hx118_1, hx118_2⟩ := at_T26 (Kd.R_reads' HO_3.out).2.2 (ji13) p118 q118
                    obtain rfl : ad117 = ad118 := (by injection e118)
                    replace p118 := eq_true p118
                    replace q118 := eq_true q118
                    have p18 : 0 ≤ ((ji13) : Int) := of_decide_eq_true (by first | (with_reducible assumption) | assumption)
                    have q18 : ((ji13) : Int) < ((x3_1.length : Int) : Int) := of_decide_eq_true (by first | (with_reducible assumption) | assumption)
                    obtain ⟨go18, co18, eo18, gb18, gl18, cl18, HG18⟩ := Kd.R_form HO_3.out (by omega)
                    (first | cases eo18 | (injection eo18 with ea_ en_ ec_; (first | subst ea_ | (injection ea_ with ea_; subst ea_)); subst ec_; clear en_))
                    have GB18 := Aside0.mk gb18
                    have GG18 := Aside0.mk HG18
                    clear gb18 gl18 HG18
                    (first | simp only [add_plain] at hx117_0 | skip)
                    (first | simp only [add_plain] at hx117_1 | skip)
                    (first | simp only [add_plain] at hx117_2 | skip)
                    (first | simp only [add_plain] at hx118_0 | skip)
                    (first | simp only [add_plain] at hx118_1 | skip)
                    (first | simp only [add_plain] at hx118_2 | skip)
                    obtain ⟨ce18, hcl18, hM18, hcc18, hfr18⟩ := Kd.R_elem HO_3.out z26 ((ji13) : Int) p18 q18
                    obtain rfl := k26_openM hM18
                    have hx18_0 : World.cell? _ ⟨go18, ((ji13) : Int).toNat * 3, none⟩ = some (.int .i64 ((rd_T26 x3_1 (ji13)).f0)) := hcc18 0 _ rfl
                    have hx18_1 : World.cell? _ ⟨go18, ((ji13) : Int).toNat * 3 + 1, none⟩ = some (.int .i64 ((rd_T26 x3_1 (ji13)).f1)) := hcc18 1 _ rfl
                    have hx18_2 : World.cell? _ ⟨go18, ((ji13) : Int).toNat * 3 + 2, none⟩ = some (.int .i64 ((rd_T26 x3_1 (ji13)).f2)) := hcc18 2 _ rfl
                    have hf18_0 : World.frozen? _ ⟨go18, ((ji13) : Int).toNat * 3, none⟩ = false := hfr18 0
                    have hf18_1 : World.frozen? _ ⟨go18, ((ji13) : Int).toNat * 3 + 1, none⟩ = false := hfr18 1
                    have hf18_2 : World.frozen? _ ⟨go18, ((ji13) : Int).toNat * 3 + 2, none⟩ = false := hfr18 2
                    clear hcl18 hcc18 hfr18 hM18
                    replace p18 := eq_true p18
                    replace q18 := eq_true q18
                    obtain ⟨ce25, hcl25, hM25, hcc25, hfr25⟩ := Kd.R_elem HO_3.out z26 ((ji13) : Int) (of_decide_eq_true (by first | (with_reducible assumption) | assumption)) (by have h_ : ((ji13) : Int) < ((x3_1.length : Int) : Int) := of_decide_eq_true (by first | (with_reducible assumption) | assumption); first | exact h_ | (have e_ := (Kd.R_reads' HO_3.out).1; omega) | simpa using h_)
                    obtain rfl := k26_openM hM25
                    have HP25 := (Kd.R_seg HO_3.out ((ji13) : Int) (of_decide_eq_true (by first | (with_reducible assumption) | assumption)) (by have h_ : ((ji13) : Int) < ((x3_1.length : Int) : Int) := of_decide_eq_true (by first | (with_reducible assumption) | assumption); first | exact h_ | (have e_ := (Kd.R_reads' HO_3.out).1; omega) | simpa using h_) (seg := [.int .i64 ji17]) (j := 1) hcl25 hcc25 (show 2 ≤ 3 from by decide) (x' := (⟨(rd_T26 x3_1 (ji13)).f0, ji17, (rd_T26 x3_1 (ji13)).f2⟩ : S26)) (k26_mkM _ _ _ (⟨(rd_T26 x3_1 (ji13)).f0, ji17, (rd_T26 x3_1 (ji13)).f2⟩ : S26) ) (fun _ hk => hk)).1
                    rw [← Ny119.out] at HP25
                    have HQ25 := Aside0.mk HP25
                    clear hcl25 hcc25 hfr25 hM25 HP25
                    refine start_ (n := 15) (S := fun w' => w'.cell? ⟨gb116, 0, none⟩ = some (.int .i64 ((rd_T26 x12_1 x14_1).f0)) ∧ w'.cell? ⟨gb116, 1, none⟩ = some (.int .i64 ((rd_T26 x12_1 x14_1).f1)) ∧ w'.cell? ⟨gb116, 2, none⟩ = some (.int .i64 ((rd_T26 x12_1 x14_1).f2)) ∧ w'.cell? ⟨go18, (((ji13)).toNat * 3), none⟩ = some (.int .i64 ((rd_T26 x3_1 (ji13)).f0)) ∧ w'.cell? ⟨go18, (((ji13)).toNat * 3) + 1, none⟩ = some (.int .i64 ((rd_T26 x3_1 (ji13)).f1)) ∧ w'.cell? ⟨go18, (((ji13)).toNat * 3) + 2, none⟩ = some (.int .i64 ((rd_T26 x3_1 (ji13)).f2))) (ds := [14]) #[false, false, false, false, false, false, false, false, false, false, false, false, false, false, false] (by kernel_rfl) rfl rfl ⟨(blk_cell BK116.out 0).trans rfl, (blk_cell BK116.out 1).trans rfl, (blk_cell BK116.out 2).trans rfl, hx118_0, hx118_1, hx118_2⟩ (fun hHeld => ?_); refine with_tabW busy_Merge.tab9 busy_Merge.bits9 (fun HT_ HW_ => ?_)
                    generalize w23.drew = w24 at HO_3 HO_12 BK116 HB GG18 HQ25 hf18_0 hf18_1 hf18_2 hx117_0 hx117_1 hx117_2 hx118_0 hx118_1 hx118_2 hx18_0 hx18_1 hx18_2 hHeld ⊢
                    refine pure_ (i := 0) (N := some 33) (v := ?_) (a' := ?_) #[true, false, false, false, false, false, false, false, false, false, false, false, false, false, false] rfl rfl (any_of HT_.out (by kernel_rfl)) (fun _ _ _ h => h) (Or.inl ⟨by rfl, ?_⟩) ?_ ?_
                    rotate_left
                    · intro w'
                      go_simp
                      with_reducible rfl
                    rotate_left
                    · simp only [Act.put, List.setIfInBounds_toArray, List.set_cons_zero, List.set_cons_succ, i64_w, i32_w]
                      rfl
                    refine pure_ (i := 1) (N := some 34) (v := ?_) (a' := ?_) #[true, true, false, false, false, false, false, false, false, false, false, false, false, false, false] rfl rfl (any_of HT_.out (by kernel_rfl)) (fun _ _ _ h => h) (Or.inl ⟨by rfl, ?_⟩) ?_ ?_
                    rotate_left
                    · intro w'
                      go_simp
                      with_reducible rfl
                    rotate_left
                    · simp only [Act.put, List.setIfInBounds_toArray, List.set_cons_zero, List.set_cons_succ, i64_w, i32_w]
                      rfl
                    refine pure_ (i := 2) (N := some 35) (v := ?_) (a' := ?_) #[true, true, true, false, false, false, false, false, false, false, false, false, false, false, false] rfl rfl (any_of HT_.out (by kernel_rfl)) (fun _ _ _ h => h) (Or.inl ⟨by rfl, ?_⟩) ?_ ?_
                    rotate_left
                    · intro w'
                      go_simp
                      with_reducible rfl
                    rotate_left
                    · simp only [Act.put, List.setIfInBounds_toArray, List.set_cons_zero, List.set_cons_succ, i64_w, i32_w]
                      rfl
                    refine pure_ (i := 3) (N := some 36) (v := ?_) (a' := ?_) #[true, true, true, true, false, false, false, false, false, false, false, false, false, false, false] rfl rfl (any_of HT_.out (by kernel_rfl)) (fun _ _ _ h => h) (Or.inl ⟨by rfl, ?_⟩) ?_ ?_
                    rotate_left
                    · intro w'
                      go_simp
                      with_reducible rfl
                    rotate_left
                    · simp only [Act.put, List.setIfInBounds_toArray, List.set_cons_zero, List.set_cons_succ, i64_w, i32_w]
                      rfl
                    refine pure_ (i := 4) (N := some 37) (v := ?_) (a' := ?_) #[true, true, true, true, true, false, false, false, false, false, false, false, false, false, false] rfl rfl (any_of HT_.out (by kernel_rfl)) (fun _ _ _ h => h) (Or.inl ⟨by rfl, ?_⟩) ?_ ?_
                    rotate_left
                    · intro w'
                      go_simp
                      with_reducible rfl
                    rotate_left
                    · simp only [Act.put, List.setIfInBounds_toArray, List.set_cons_zero, List.set_cons_succ, i64_w, i32_w]
                      rfl
                    refine pure_ (i := 5) (N := some 38) (v := ?_) (a' := ?_) #[true, true, true, true, true, true, false, false, false, false, false, false, false, false, false] rfl rfl (any_of HT_.out (by kernel_rfl)) (fun _ _ _ h => h) (Or.inl ⟨by rfl, ?_⟩) ?_ ?_
                    rotate_left
                    · intro w'
                      go_simp
                      with_reducible rfl
                    rotate_left
                    · simp only [Act.put, List.setIfInBounds_toArray, List.set_cons_zero, List.set_cons_succ, i64_w, i32_w]
                      rfl
                    refine pure_ (i := 6) (N := some 39) (v := ?_) (a' := ?_) #[true, true, true, true, true, true, true, false, false, false, false, false, false, false, false] rfl rfl (any_of HT_.out (by kernel_rfl)) (fun _ _ _ h => h) (Or.inl ⟨by rfl, ?_⟩) ?_ ?_
                    rotate_left
                    · intro w'
                      go_simp
                      with_reducible rfl
                    rotate_left
                    · simp only [Act.put, List.setIfInBounds_toArray, List.set_cons_zero, List.set_cons_succ, i64_w, i32_w]
                      rfl
                    refine pure_ (i := 7) (N := some 40) (v := ?_) (a' := ?_) #[true, true, true, true, true, true, true, true, false, false, false, false, false, false, false] rfl rfl (any_of HT_.out (by kernel_rfl)) (fun _ _ _ h => h) (Or.inl ⟨by rfl, ?_⟩) ?_ ?_
                    rotate_left
                    · intro w'
                      go_simp
                      with_reducible rfl
                    rotate_left
                    · simp only [Act.put, List.setIfInBounds_toArray, List.set_cons_zero, List.set_cons_succ, i64_w, i32_w]
                      rfl
                    refine pure_ (i := 9) (N := some 42) (v := ?_) (a' := ?_) #[true, true, true, true, true, true, true, true, false, true, false, false, false, false, false] rfl rfl (any_of HT_.out (by kernel_rfl)) (fun _ _ _ h => h) (Or.inl ⟨by rfl, ?_⟩) ?_ ?_
                    rotate_left
                    · intro w'
                      go_simp
                      with_reducible rfl
                    rotate_left
                    · simp only [Act.put, List.setIfInBounds_toArray, List.set_cons_zero, List.set_cons_succ, i64_w, i32_w]
                      rfl
                    refine take_ (i := 8) (N := some 41) (v := ?_) (a' := ?_) #[true, true, true, true, true, true, true, true, true, true, false, false, false, false, false] rfl rfl (take_ofW HT_.out HW_.out (by kernel_rfl)) (fun _ _ _ h => h) (Or.inl ⟨by rfl, ?_⟩) hHeld ?_ ?_
                    rotate_left
                    · rintro w' ⟨s0, s1, s2, s3, s4, s5⟩
                      go_simp
                      with_reducible rfl
                    rotate_left
                    · simp only [Act.put, List.setIfInBounds_toArray, List.set_cons_zero, List.set_cons_succ, i64_w, i32_w]
                      rfl
                    refine take_ (i := 10) (N := some 43) (v := ?_) (a' := ?_) #[true, true, true, true, true, true, true, true, true, true, true, false, false, false, false] rfl rfl (take_ofW HT_.out HW_.out (by kernel_rfl)) (fun _ _ _ h => h) (Or.inl ⟨by rfl, ?_⟩) hHeld ?_ ?_
                    rotate_left
                    · rintro w' ⟨s0, s1, s2, s3, s4, s5⟩
                      go_simp
                      with_reducible rfl
                    rotate_left
                    · simp only [Act.put, List.setIfInBounds_toArray, List.set_cons_zero, List.set_cons_succ, i64_w, i32_w]
                      rfl
                    refine pure_ (i := 11) (N := some 44) (v := ?_) (a' := ?_) #[true, true, true, true, true, true, true, true, true, true, true, true, false, false, false] rfl rfl (any_of HT_.out (by kernel_rfl)) (fun _ _ _ h => h) (Or.inl ⟨by rfl, ?_⟩) ?_ ?_
                    rotate_left
                    · intro w'
                      go_simp
                      with_reducible rfl
                    rotate_left
                    · simp only [Act.put, List.setIfInBounds_toArray, List.set_cons_zero, List.set_cons_succ, i64_w, i32_w]
                      rfl
                    refine pure_ (i := 12) (N := some 45) (v := ?_) (a' := ?_) #[true, true, true, true, true, true, true, true, true, true, true, true, true, false, false] rfl rfl (any_of HT_.out (by kernel_rfl)) (fun _ _ _ h => h) (Or.inl ⟨by rfl, ?_⟩) ?_ ?_
                    rotate_left
                    · intro w'
                      go_simp
                      with_reducible rfl
                    rotate_left
                    · simp only [Act.put, List.setIfInBounds_toArray, List.set_cons_zero, List.set_cons_succ, i64_w, i32_w]
                      rfl
                    refine pure_ (i := 13) (N := some 46) (v := ?_) (a' := ?_) #[true, true, true, true, true, true, true, true, true, true, true, true, true, true, false] rfl rfl (any_of HT_.out (by kernel_rfl)) (fun _ _ _ h => h) (Or.inl ⟨by rfl, ?_⟩) ?_ ?_
                    rotate_left
                    · intro w'
                      go_simp
                      with_reducible rfl
                    rotate_left
                    · simp only [Act.put, List.setIfInBounds_toArray, List.set_cons_zero, List.set_cons_succ, i64_w, i32_w]
                      rfl
                    refine last_ (i := 14) (N := none) #[true, true, true, true, true, true, true, true, true, true, true, true, true, true, true] rfl rfl (one_of HT_.out (by kernel_rfl)) (by decide) (fun K hK => ?_)
                    refine skip_ (w1 := ?_) (by rfl) rfl ?_ ?_
                    rotate_left
                    · go_simp
                      rfl
                    refine hK.out _ _ ?_
                    clear hK K
                    refine done_ (done_of HT_.out (by kernel_rfl)) ?_
                    try go_wp2
                    (try simp only [← hl12_1])
                    go_roundg k1
                    case measure => have := HK1.out; omega
                    case rel => exact ⟨(y119), (x12_1), (wrap64 (x14_1 + 1)), (by first | rfl | (simp; done) | (simp [*]; done)), H', ⟨by have := HK1.out; omega⟩, ⟨by (try simp only [hl12_1]); (with_reducible repeat (first | apply Kd.R_alloc | apply Kd.R_drewN | apply Kd.R_drew)); exact Kd.R_mono HQ25.out (fun _ hk => hk.1)⟩, ⟨by (try simp only [hl12_1]); (with_reducible repeat (first | apply Kd.R_alloc | apply Kd.R_drewN | apply Kd.R_drew)); exact Kd.R_mono (Kd.R_far (p := ⟨go18, ((ji13) : Int).toNat * 3 + 1, none⟩) (Kd.R_mono HO_12.out (fun k_ hk => (⟨hk, fun e_ => hk.1 (by rw [e_]; rfl)⟩ : _ ∧ k_ ≠ go18))) (fun _ hk => hk.2) (.int .i64 ji17)) (fun _ hk => hk.1.1)⟩, ⟨by repeat (first | (with_reducible first | exact HB.out | apply below_alloc | apply pw_below_drewN | apply below_drew1 | refine below_set ?_ GB18.out | refine below_set ?_ GE116.out) | exact HB.out)⟩⟩
                  · rw [if_neg c16] at H
                    have c16b0 : decide (((rd_T26 x12_1 x14_1).f0) ≤ ((rd_T26 x3_1 (ji13)).f1)) = false := decide_eq_false c16
                    clear c16
                    by_cases c26 : x3_1.length < 5864062014805
                    · rw [if_pos c26] at H
                      have LMc26 := Aside0.mk c26
                      clear c26
                      obtain ⟨y120, hy120⟩ : ∃ y_ : List (S26), y_ = (x3_1 ++ [(⟨(rd_T26 x12_1 x14_1).f0, (rd_T26 x12_1 x14_1).f1, (rd_T26 x12_1 x14_1).f0⟩ : S26)]) := ⟨_, rfl⟩
                      replace H : (busy_Merge.l0 k1 y120 x12_1 (t112.length : Int) (wrap64 (x14_1 + 1))) = some r := by first | (rw [hy120]; with_reducible exact H) | (have H2_ := (Option.bind_some _ _).symm.trans H; rw [hy120]; with_reducible exact H2_) | (have H2_ := (Option.bind_some _ _).symm.trans H; with_reducible exact H2_) | with_reducible exact H | (rw [hy120]; exact H) | exact H
                      have Ny120 := Aside0.mk hy120
                      clear hy120
                      have H' := Aside0.mk H
                      clear H
                      have p115 : 0 ≤ (x14_1 : Int) := of_decide_eq_true (by first | (with_reducible assumption) | assumption)
                      have q115 : x14_1 < (x12_1.length : Int) := of_decide_eq_true (by first | (with_reducible assumption) | assumption)
                      obtain ⟨ad115, e115, hx115_0, hx115_1, hx115_2⟩ := at_T26 (Kd.R_reads' HO_12.out).2.2 x14_1 p115 q115
                      cases e115
                      replace p115 := eq_true p115
                      replace q115 := eq_true q115
                      try go_wp2_with (first | ((with_reducible refine gate_dst (N := 5) rfl ?_); refine box_event ?hg (N := 5) ?hd (cs := #[.int .i64 0, .int .i64 0, .int .i64 0]) (t := 26) ?hr ?_; (case hd => rfl); (case hg => rfl); (case hr => first | (go_simp; done) | (go_simp; rfl)); intro gb116 hg w27 hbox hb; have n0_ := Aside0.mk (Kd.R_below (Kd.R_elderB (by (with_reducible repeat (first | apply Kd.R_alloc | apply Kd.R_drewN | apply Kd.R_drew)); exact HO_3.out) gb116 (Nat.le_of_eq hg.symm)) hb); have n1_ := Aside0.mk (Kd.R_below (Kd.R_elderB (by (with_reducible repeat (first | apply Kd.R_alloc | apply Kd.R_drewN | apply Kd.R_drew)); exact HO_12.out) gb116 (Nat.le_of_eq hg.symm)) hb); have n2_ := Aside0.mk (below_step (by repeat (first | (with_reducible first | exact HB.out | apply below_alloc | apply pw_below_drewN | apply below_drew1) | exact HB.out)) hb); have n3_ := Aside0.mk (hbox); have n4_ := Aside0.mk ((by rw [hg]; exact (below_size (by repeat (first | (with_reducible first | exact HB.out | apply below_alloc | apply pw_below_drewN | apply below_drew1) | exact HB.out))) : w.heap.size ≤ gb116)); have n5_ := Aside0.mk ((by rw [hg]; exact (below_size (by repeat (first | (with_reducible first | exact HB.out | apply below_alloc | apply pw_below_drewN | apply below_drew1) | exact HB.out))) : w.heap.size ≤ gb116)); clear HO_3; clear HO_12; clear HB; have HO_3 := n0_; have HO_12 := n1_; have HB := n2_; have BK116 := n3_; have GW116 := n4_; have GE116 := n5_; clear n0_ n1_ n2_ n3_ n4_ n5_; clear hb hbox hg; have hcz28_0 : w27.cell? ⟨gb116, 0, none⟩ = some (.int .i64 0) := (blk_cell BK116.out 0).trans rfl; have hcz28_1 : w27.cell? ⟨gb116, 1, none⟩ = some (.int .i64 0) := (blk_cell BK116.out 1).trans rfl; have hcz28_2 : w27.cell? ⟨gb116, 2, none⟩ = some (.int .i64 0) := (blk_cell BK116.out 2).trans rfl; have hfz28_0 := blk_frozen BK116.out 0; have hfz28_1 := blk_frozen BK116.out 1; have hfz28_2 := blk_frozen BK116.out 2; obtain ⟨Ao29, co29, eo29⟩ := Kd.R_slice HO_3.out; subst eo29))
                      have n0_ : Aside0 (Kd.R k26 26 (((w27.setCell ⟨gb116, 0, none⟩ (.int .i64 ((rd_T26 x12_1 x14_1).f0))).setCell ⟨gb116, 1, none⟩ (.int .i64 ((rd_T26 x12_1 x14_1).f1))).setCell ⟨gb116, 2, none⟩ (.int .i64 ((rd_T26 x12_1 x14_1).f2))) w.heap.size (fun k_ => some k_ ≠ (.slice (some ad115) x12_1.length co8 : Value).ownBlock ∧ k_ ≠ gb116) (.slice Ao29 x3_1.length co29) x3_1) := ⟨by (with_reducible repeat (first | apply Kd.R_alloc | apply Kd.R_drewN | apply Kd.R_drew)); exact Kd.R_mono (Kd.R_far (p := ⟨gb116, 2, none⟩) (Kd.R_far (p := ⟨gb116, 1, none⟩) (Kd.R_far (p := ⟨gb116, 0, none⟩) (Kd.R_mono HO_3.out (fun k_ hk => (⟨hk, hk.2⟩ : _ ∧ k_ ≠ gb116))) (fun _ hk => hk.2) (.int .i64 ((rd_T26 x12_1 x14_1).f0))) (fun _ hk => hk.2) (.int .i64 ((rd_T26 x12_1 x14_1).f1))) (fun _ hk => hk.2) (.int .i64 ((rd_T26 x12_1 x14_1).f2))) (fun _ hk => ⟨hk.1.1, hk.1.2⟩)⟩
                      have n1_ : Aside0 (Kd.R k26 26 (((w27.setCell ⟨gb116, 0, none⟩ (.int .i64 ((rd_T26 x12_1 x14_1).f0))).setCell ⟨gb116, 1, none⟩ (.int .i64 ((rd_T26 x12_1 x14_1).f1))).setCell ⟨gb116, 2, none⟩ (.int .i64 ((rd_T26 x12_1 x14_1).f2))) w.heap.size (fun k_ => some k_ ≠ (.slice Ao29 x3_1.length co29 : Value).ownBlock ∧ k_ ≠ gb116) (.slice (some ad115) x12_1.length co8) x12_1) := ⟨by (with_reducible repeat (first | apply Kd.R_alloc | apply Kd.R_drewN | apply Kd.R_drew)); exact Kd.R_mono (Kd.R_far (p := ⟨gb116, 2, none⟩) (Kd.R_far (p := ⟨gb116, 1, none⟩) (Kd.R_far (p := ⟨gb116, 0, none⟩) (Kd.R_mono HO_12.out (fun k_ hk => (⟨hk, hk.2⟩ : _ ∧ k_ ≠ gb116))) (fun _ hk => hk.2) (.int .i64 ((rd_T26 x12_1 x14_1).f0))) (fun _ hk => hk.2) (.int .i64 ((rd_T26 x12_1 x14_1).f1))) (fun _ hk => hk.2) (.int .i64 ((rd_T26 x12_1 x14_1).f2))) (fun _ hk => ⟨hk.1.1, hk.1.2⟩)⟩
                      have n2_ : Aside0 ((((w27.setCell ⟨gb116, 0, none⟩ (.int .i64 ((rd_T26 x12_1 x14_1).f0))).setCell ⟨gb116, 1, none⟩ (.int .i64 ((rd_T26 x12_1 x14_1).f1))).setCell ⟨gb116, 2, none⟩ (.int .i64 ((rd_T26 x12_1 x14_1).f2))).heap[gb116]? = some (.cells #[.int .i64 ((rd_T26 x12_1 x14_1).f0), .int .i64 ((rd_T26 x12_1 x14_1).f1), .int .i64 ((rd_T26 x12_1 x14_1).f2)] 26 (0, 0))) := ⟨by (with_reducible repeat (first | refine blk_drewN ?_ _ | refine blk_drew ?_ | refine blk_alloc ?_ _)); refine blk_put (cs := #[.int .i64 ((rd_T26 x12_1 x14_1).f0), .int .i64 ((rd_T26 x12_1 x14_1).f1), .int .i64 0]) ?_ 2 _ rfl; (with_reducible repeat (first | refine blk_drewN ?_ _ | refine blk_drew ?_ | refine blk_alloc ?_ _)); refine blk_put (cs := #[.int .i64 ((rd_T26 x12_1 x14_1).f0), .int .i64 0, .int .i64 0]) ?_ 1 _ rfl; (with_reducible repeat (first | refine blk_drewN ?_ _ | refine blk_drew ?_ | refine blk_alloc ?_ _)); refine blk_put (cs := #[.int .i64 0, .int .i64 0, .int .i64 0]) ?_ 0 _ rfl; (with_reducible repeat (first | refine blk_drewN ?_ _ | refine blk_drew ?_ | refine blk_alloc ?_ _)); exact BK116.out⟩
                      have n3_ : Aside0 (Below w.heap.size w (((w27.setCell ⟨gb116, 0, none⟩ (.int .i64 ((rd_T26 x12_1 x14_1).f0))).setCell ⟨gb116, 1, none⟩ (.int .i64 ((rd_T26 x12_1 x14_1).f1))).setCell ⟨gb116, 2, none⟩ (.int .i64 ((rd_T26 x12_1 x14_1).f2)))) := ⟨by repeat (first | (with_reducible first | exact HB.out | apply below_alloc | apply pw_below_drewN | apply below_drew1 | refine below_set ?_ GE116.out) | exact HB.out)⟩
                      (try clear HO_3)
                      (try clear HO_12)
                      (try clear BK116)
                      (try clear HB)
                      generalize (((w27.setCell ⟨gb116, 0, none⟩ (.int .i64 ((rd_T26 x12_1 x14_1).f0))).setCell ⟨gb116, 1, none⟩ (.int .i64 ((rd_T26 x12_1 x14_1).f1))).setCell ⟨gb116, 2, none⟩ (.int .i64 ((rd_T26 x12_1 x14_1).f2))) = w30 at n0_ n1_ n2_ n3_ ⊢
                      have HO_3 := n0_
                      have HO_12 := n1_
                      have BK116 := n2_
                      have HB := n3_
                      clear n0_ n1_ n2_ n3_
                      have n0_ := Aside0.mk (Kd.R_drew HO_3.out)
                      have n1_ := Aside0.mk (Kd.R_drew HO_12.out)
                      have n2_ := Aside0.mk (blk_drew BK116.out)
                      have n3_ := Aside0.mk (below_drew1 HB.out)
                      clear HO_3
                      clear HO_12
                      clear BK116
                      clear HB
                      have HO_3 := n0_
                      have HO_12 := n1_
                      have BK116 := n2_
                      have HB := n3_
                      clear n0_ n1_ n2_ n3_
                      have p117 : 0 ≤ ((ji13) : Int) := of_decide_eq_true (by first | (with_reducible assumption) | assumption)
                      have q117 : (ji13) < (x3_1.length : Int) := of_decide_eq_true (by first | (with_reducible assumption) | assumption)
                      obtain ⟨ad117, e117, hx117_0, hx117_1, hx117_2⟩ := at_T26 (Kd.R_reads' HO_3.out).2.2 (ji13) p117 q117
                      cases e117
                      replace p117 := eq_true p117
                      replace q117 := eq_true q117
                      refine start_ (n := 13) (S := fun w' => w'.cell? ⟨gb116, 0, none⟩ = some (.int .i64 ((rd_T26 x12_1 x14_1).f0)) ∧ w'.cell? ⟨gb116, 1, none⟩ = some (.int .i64 ((rd_T26 x12_1 x14_1).f1)) ∧ w'.cell? ⟨gb116, 2, none⟩ = some (.int .i64 ((rd_T26 x12_1 x14_1).f2)) ∧ w'.cell? (ad117.add (((ji13)).toNat * 3)) = some (.int .i64 ((rd_T26 x3_1 (ji13)).f0)) ∧ w'.cell? ⟨(ad117.add (((ji13)).toNat * 3)).block, (ad117.add (((ji13)).toNat * 3)).off + 1, none⟩ = some (.int .i64 ((rd_T26 x3_1 (ji13)).f1)) ∧ w'.cell? ⟨(ad117.add (((ji13)).toNat * 3)).block, (ad117.add (((ji13)).toNat * 3)).off + 2, none⟩ = some (.int .i64 ((rd_T26 x3_1 (ji13)).f2))) (ds := []) #[false, false, false, false, false, false, false, false, false, false, false, false, false] (by kernel_rfl) rfl rfl ⟨(blk_cell BK116.out 0).trans rfl, (blk_cell BK116.out 1).trans rfl, (blk_cell BK116.out 2).trans rfl, hx117_0, hx117_1, hx117_2⟩ (fun hHeld => ?_); refine with_tabW busy_Merge.tab8 busy_Merge.bits8 (fun HT_ HW_ => ?_)
                      generalize w30.drew = w31 at HO_3 HO_12 BK116 HB hx117_0 hx117_1 hx117_2 hHeld ⊢
                      refine pure_ (i := 0) (N := some 20) (v := ?_) (a' := ?_) #[true, false, false, false, false, false, false, false, false, false, false, false, false] rfl rfl (any_of HT_.out (by kernel_rfl)) (fun _ _ _ h => h) (Or.inl ⟨by rfl, ?_⟩) ?_ ?_
                      rotate_left
                      · intro w'
                        go_simp
                        with_reducible rfl
                      rotate_left
                      · simp only [Act.put, List.setIfInBounds_toArray, List.set_cons_zero, List.set_cons_succ, i64_w, i32_w]
                        rfl
                      refine pure_ (i := 1) (N := some 21) (v := ?_) (a' := ?_) #[true, true, false, false, false, false, false, false, false, false, false, false, false] rfl rfl (any_of HT_.out (by kernel_rfl)) (fun _ _ _ h => h) (Or.inl ⟨by rfl, ?_⟩) ?_ ?_
                      rotate_left
                      · intro w'
                        go_simp
                        with_reducible rfl
                      rotate_left
                      · simp only [Act.put, List.setIfInBounds_toArray, List.set_cons_zero, List.set_cons_succ, i64_w, i32_w]
                        rfl
                      refine pure_ (i := 2) (N := some 22) (v := ?_) (a' := ?_) #[true, true, true, false, false, false, false, false, false, false, false, false, false] rfl rfl (any_of HT_.out (by kernel_rfl)) (fun _ _ _ h => h) (Or.inl ⟨by rfl, ?_⟩) ?_ ?_
                      rotate_left
                      · intro w'
                        go_simp
                        with_reducible rfl
                      rotate_left
                      · simp only [Act.put, List.setIfInBounds_toArray, List.set_cons_zero, List.set_cons_succ, i64_w, i32_w]
                        rfl
                      refine pure_ (i := 3) (N := some 23) (v := ?_) (a' := ?_) #[true, true, true, true, false, false, false, false, false, false, false, false, false] rfl rfl (any_of HT_.out (by kernel_rfl)) (fun _ _ _ h => h) (Or.inl ⟨by rfl, ?_⟩) ?_ ?_
                      rotate_left
                      · intro w'
                        go_simp
                        with_reducible rfl
                      rotate_left
                      · simp only [Act.put, List.setIfInBounds_toArray, List.set_cons_zero, List.set_cons_succ, i64_w, i32_w]
                        rfl
                      refine pure_ (i := 5) (N := some 25) (v := ?_) (a' := ?_) #[true, true, true, true, false, true, false, false, false, false, false, false, false] rfl rfl (any_of HT_.out (by kernel_rfl)) (fun _ _ _ h => h) (Or.inl ⟨by rfl, ?_⟩) ?_ ?_
                      rotate_left
                      · intro w'
                        go_simp
                        with_reducible rfl
                      rotate_left
                      · simp only [Act.put, List.setIfInBounds_toArray, List.set_cons_zero, List.set_cons_succ, i64_w, i32_w]
                        rfl
                      refine pure_ (i := 6) (N := some 26) (v := ?_) (a' := ?_) #[true, true, true, true, false, true, true, false, false, false, false, false, false] rfl rfl (any_of HT_.out (by kernel_rfl)) (fun _ _ _ h => h) (Or.inl ⟨by rfl, ?_⟩) ?_ ?_
                      rotate_left
                      · intro w'
                        go_simp
                        with_reducible rfl
                      rotate_left
                      · simp only [Act.put, List.setIfInBounds_toArray, List.set_cons_zero, List.set_cons_succ, i64_w, i32_w]
                        rfl
                      refine pure_ (i := 7) (N := some 27) (v := ?_) (a' := ?_) #[true, true, true, true, false, true, true, true, false, false, false, false, false] rfl rfl (any_of HT_.out (by kernel_rfl)) (fun _ _ _ h => h) (Or.inl ⟨by rfl, ?_⟩) ?_ ?_
                      rotate_left
                      · intro w'
                        go_simp
                        with_reducible rfl
                      rotate_left
                      · simp only [Act.put, List.setIfInBounds_toArray, List.set_cons_zero, List.set_cons_succ, i64_w, i32_w]
                        rfl
                      refine pure_ (i := 8) (N := some 28) (v := ?_) (a' := ?_) #[true, true, true, true, false, true, true, true, true, false, false, false, false] rfl rfl (any_of HT_.out (by kernel_rfl)) (fun _ _ _ h => h) (Or.inl ⟨by rfl, ?_⟩) ?_ ?_
                      rotate_left
                      · intro w'
                        go_simp
                        with_reducible rfl
                      rotate_left
                      · simp only [Act.put, List.setIfInBounds_toArray, List.set_cons_zero, List.set_cons_succ, i64_w, i32_w]
                        rfl
                      refine pure_ (i := 9) (N := some 29) (v := ?_) (a' := ?_) #[true, true, true, true, false, true, true, true, true, true, false, false, false] rfl rfl (any_of HT_.out (by kernel_rfl)) (fun _ _ _ h => h) (Or.inl ⟨by rfl, ?_⟩) ?_ ?_
                      rotate_left
                      · intro w'
                        go_simp
                        with_reducible rfl
                      rotate_left
                      · simp only [Act.put, List.setIfInBounds_toArray, List.set_cons_zero, List.set_cons_succ, i64_w, i32_w]
                        rfl
                      refine take_ (i := 4) (N := some 24) (v := ?_) (a' := ?_) #[true, true, true, true, true, true, true, true, true, true, false, false, false] rfl rfl (take_ofW HT_.out HW_.out (by kernel_rfl)) (fun _ _ _ h => h) (Or.inl ⟨by rfl, ?_⟩) hHeld ?_ ?_
                      rotate_left
                      · rintro w' ⟨s0, s1, s2, s3, s4, s5⟩
                        go_simp
                        with_reducible rfl
                      rotate_left
                      · simp only [Act.put, List.setIfInBounds_toArray, List.set_cons_zero, List.set_cons_succ, i64_w, i32_w]
                        rfl
                      refine take_ (i := 10) (N := some 30) (v := ?_) (a' := ?_) #[true, true, true, true, true, true, true, true, true, true, true, false, false] rfl rfl (take_ofW HT_.out HW_.out (by kernel_rfl)) (fun _ _ _ h => h) (Or.inl ⟨by rfl, ?_⟩) hHeld ?_ ?_
                      rotate_left
                      · rintro w' ⟨s0, s1, s2, s3, s4, s5⟩
                        go_simp
                        with_reducible rfl
                      rotate_left
                      · simp only [Act.put, List.setIfInBounds_toArray, List.set_cons_zero, List.set_cons_succ, i64_w, i32_w]
                        rfl
                      refine pure_ (i := 11) (N := some 31) (v := ?_) (a' := ?_) #[true, true, true, true, true, true, true, true, true, true, true, true, false] rfl rfl (any_of HT_.out (by kernel_rfl)) (fun _ _ _ h => h) (Or.inl ⟨by rfl, ?_⟩) ?_ ?_
                      rotate_left
                      · intro w'
                        go_simp
                        with_reducible rfl
                      rotate_left
                      · simp only [Act.put, List.setIfInBounds_toArray, List.set_cons_zero, List.set_cons_succ, i64_w, i32_w]
                        rfl
                      refine pure_ (i := 12) (N := some 32) (v := ?_) (a' := ?_) #[true, true, true, true, true, true, true, true, true, true, true, true, true] rfl rfl (any_of HT_.out (by kernel_rfl)) (fun _ _ _ h => h) (Or.inl ⟨by rfl, ?_⟩) ?_ ?_
                      rotate_left
                      · intro w'
                        go_simp
                        with_reducible rfl
                      rotate_left
                      · simp only [Act.put, List.setIfInBounds_toArray, List.set_cons_zero, List.set_cons_succ, i64_w, i32_w]
                        rfl
                      refine done_ (done_of HT_.out (by kernel_rfl)) ?_
                      have hcz32_0 : w31.cell? ⟨gb116, 0, none⟩ = some (.int .i64 ((rd_T26 x12_1 x14_1).f0)) := (blk_cell BK116.out 0).trans rfl
                      have hcz32_1 : w31.cell? ⟨gb116, 1, none⟩ = some (.int .i64 ((rd_T26 x12_1 x14_1).f1)) := (blk_cell BK116.out 1).trans rfl
                      have hcz32_2 : w31.cell? ⟨gb116, 2, none⟩ = some (.int .i64 ((rd_T26 x12_1 x14_1).f2)) := (blk_cell BK116.out 2).trans rfl
                      have hfz32_0 := blk_frozen BK116.out 0
                      have hfz32_1 := blk_frozen BK116.out 1
                      have hfz32_2 := blk_frozen BK116.out 2
                      try go_wp2_with (first | ((with_reducible refine gate_builtin (b := .append) (xs := #[.tmp 47, .tmp 55]) rfl ?_); at_builtin; refine Kd.R_append k26 (w0 := w) w.heap.size rfl (.tmp 47) (.tmp 55) 22 26 (.agg #[(.int .i64 0), (.int .i64 0), (.int .i64 0)]) 24 rfl Tryd.underlying22 info26 rfl (by decide) (by omega) (.slice (some ad117) x3_1.length co29) x3_1 (⟨(rd_T26 x12_1 x14_1).f0, (rd_T26 x12_1 x14_1).f1, (rd_T26 x12_1 x14_1).f0⟩ : S26) [.int .i64 ((rd_T26 x12_1 x14_1).f0), .int .i64 ((rd_T26 x12_1 x14_1).f1), .int .i64 ((rd_T26 x12_1 x14_1).f0)] (fun k_ => some k_ ≠ (.slice (some ad115) x12_1.length co8 : Value).ownBlock ∧ k_ ≠ gb116) (fun _ => False) rfl rfl ?aP (fun _ hk => hk.elim) ?aF ?aO ?aB ?aS ?aL ?_; (case aP => exact k26_mkM _ _ _ (⟨(rd_T26 x12_1 x14_1).f0, (rd_T26 x12_1 x14_1).f1, (rd_T26 x12_1 x14_1).f0⟩ : S26)); (case aB => exact (by repeat (first | (with_reducible first | exact HB.out | apply below_alloc | apply pw_below_drewN | apply below_drew1 | refine below_set ?_ GE116.out) | exact HB.out))); (case aF => exact (fun k_ hk => ⟨Kd.fresh' (Kd.R_lt (by (with_reducible repeat (first | apply Kd.R_alloc | apply Kd.R_drewN | apply Kd.R_drew)); exact HO_12.out)) k_ hk, Kd.freshB (g := gb116) (o := .cells #[.int .i64 ((rd_T26 x12_1 x14_1).f0), .int .i64 ((rd_T26 x12_1 x14_1).f1), .int .i64 ((rd_T26 x12_1 x14_1).f2)] 26 (0, 0)) (by (with_reducible repeat (first | refine blk_drewN ?_ _ | refine blk_drew ?_ | refine blk_alloc ?_ _)); exact BK116.out) k_ hk⟩)); (case aO => exact (by (with_reducible repeat (first | apply Kd.R_alloc | apply Kd.R_drewN | apply Kd.R_drew)); exact HO_3.out)); (case aS => exact (below_size (by repeat (first | (with_reducible first | exact HB.out | apply below_alloc | apply pw_below_drewN | apply below_drew1 | refine below_set ?_ GE116.out) | exact HB.out)))); (case aL => have := LMc26.out; omega); intro v121 w33 ho hb hg hat; rw [← Ny120.out] at ho; have n0_ := Aside0.mk (Kd.R_after (ok := (fun k_ => k_ ≠ gb116)) (by (with_reducible repeat (first | apply Kd.R_alloc | apply Kd.R_drewN | apply Kd.R_drew)); exact Kd.R_mono HO_12.out (fun _ hk => ⟨hk.2, hk.1⟩)) hg hat); have n1_ := Aside0.mk (blk_grown (g := gb116) (o := .cells #[.int .i64 ((rd_T26 x12_1 x14_1).f0), .int .i64 ((rd_T26 x12_1 x14_1).f1), .int .i64 ((rd_T26 x12_1 x14_1).f2)] 26 (0, 0)) (by (with_reducible repeat (first | refine blk_drewN ?_ _ | refine blk_drew ?_ | refine blk_alloc ?_ _)); exact BK116.out) hg (Kd.R_away HO_3.out (fun _ hk => hk.2))); have n2_ := Aside0.mk (hb); have n3_ := Aside0.mk (ho); clear HO_12; clear BK116; clear HB; clear HO_3; have HO_12 := n0_; have BK116 := n1_; have HB := n2_; have HO122 := n3_; clear n0_ n1_ n2_ n3_; clear ho hb hg hat))
                      (try simp only [← hl12_1])
                      go_roundg k1
                      case measure => have := HK1.out; omega
                      case rel => exact ⟨(y120), (x12_1), (wrap64 (x14_1 + 1)), (by first | rfl | (simp; done) | (simp [*]; done)), H', ⟨by have := HK1.out; omega⟩, ⟨by (try simp only [hl12_1]); (with_reducible repeat (first | apply Kd.R_alloc | apply Kd.R_drewN | apply Kd.R_drew)); exact Kd.R_mono HO122.out (fun _ hk => hk.1)⟩, ⟨by (try simp only [hl12_1]); (with_reducible repeat (first | apply Kd.R_alloc | apply Kd.R_drewN | apply Kd.R_drew)); exact Kd.R_mono HO_12.out (fun _ hk => hk.2)⟩, ⟨by repeat (first | (with_reducible first | exact HB.out | apply below_alloc | apply pw_below_drewN | apply below_drew1 | refine below_set ?_ GE116.out) | exact HB.out)⟩⟩
                    · rw [if_neg c26] at H
                      exact absurd H (by simp)
                · rw [if_neg c15] at H
                  exact absurd H (by simp)
              · rw [if_neg c14] at H
                exact absurd H (by simp)
            · rw [if_neg c12] at H
              have c12b0 : decide (0 < (x3_1.length : Int)) = false := decide_eq_false c12
              have c12b1 : decide (0 < x3_1.length) = false := decide_eq_false (by omega)
              clear c12
              by_cases c34 : x3_1.length < 5864062014805
              · rw [if_pos c34] at H
                have LMc34 := Aside0.mk c34
                clear c34
                obtain ⟨y123, hy123⟩ : ∃ y_ : List (S26), y_ = (x3_1 ++ [(⟨(rd_T26 x12_1 x14_1).f0, (rd_T26 x12_1 x14_1).f1, (rd_T26 x12_1 x14_1).f0⟩ : S26)]) := ⟨_, rfl⟩
                replace H : (busy_Merge.l0 k1 y123 x12_1 (t112.length : Int) (wrap64 (x14_1 + 1))) = some r := by first | (rw [hy123]; with_reducible exact H) | (have H2_ := (Option.bind_some _ _).symm.trans H; rw [hy123]; with_reducible exact H2_) | (have H2_ := (Option.bind_some _ _).symm.trans H; with_reducible exact H2_) | with_reducible exact H | (rw [hy123]; exact H) | exact H
                have Ny123 := Aside0.mk hy123
                clear hy123
                have H' := Aside0.mk H
                clear H
                have p115 : 0 ≤ (x14_1 : Int) := of_decide_eq_true (by first | (with_reducible assumption) | assumption)
                have q115 : x14_1 < (x12_1.length : Int) := of_decide_eq_true (by first | (with_reducible assumption) | assumption)
                obtain ⟨ad115, e115, hx115_0, hx115_1, hx115_2⟩ := at_T26 (Kd.R_reads' HO_12.out).2.2 x14_1 p115 q115
                cases e115
                replace p115 := eq_true p115
                replace q115 := eq_true q115
                try go_wp2_with (first | ((with_reducible refine gate_dst (N := 5) rfl ?_); refine box_event ?hg (N := 5) ?hd (cs := #[.int .i64 0, .int .i64 0, .int .i64 0]) (t := 26) ?hr ?_; (case hd => rfl); (case hg => rfl); (case hr => first | (go_simp; done) | (go_simp; rfl)); intro gb116 hg w35 hbox hb; have n0_ := Aside0.mk (Kd.R_below (Kd.R_elderB (by (with_reducible repeat (first | apply Kd.R_alloc | apply Kd.R_drewN | apply Kd.R_drew)); exact HO_3.out) gb116 (Nat.le_of_eq hg.symm)) hb); have n1_ := Aside0.mk (Kd.R_below (Kd.R_elderB (by (with_reducible repeat (first | apply Kd.R_alloc | apply Kd.R_drewN | apply Kd.R_drew)); exact HO_12.out) gb116 (Nat.le_of_eq hg.symm)) hb); have n2_ := Aside0.mk (below_step (by repeat (first | (with_reducible first | exact HB.out | apply below_alloc | apply pw_below_drewN | apply below_drew1) | exact HB.out)) hb); have n3_ := Aside0.mk (hbox); have n4_ := Aside0.mk ((by rw [hg]; exact (below_size (by repeat (first | (with_reducible first | exact HB.out | apply below_alloc | apply pw_below_drewN | apply below_drew1) | exact HB.out))) : w.heap.size ≤ gb116)); have n5_ := Aside0.mk ((by rw [hg]; exact (below_size (by repeat (first | (with_reducible first | exact HB.out | apply below_alloc | apply pw_below_drewN | apply below_drew1) | exact HB.out))) : w.heap.size ≤ gb116)); clear HO_3; clear HO_12; clear HB; have HO_3 := n0_; have HO_12 := n1_; have HB := n2_; have BK116 := n3_; have GW116 := n4_; have GE116 := n5_; clear n0_ n1_ n2_ n3_ n4_ n5_; clear hb hbox hg; have hcz36_0 : w35.cell? ⟨gb116, 0, none⟩ = some (.int .i64 0) := (blk_cell BK116.out 0).trans rfl; have hcz36_1 : w35.cell? ⟨gb116, 1, none⟩ = some (.int .i64 0) := (blk_cell BK116.out 1).trans rfl; have hcz36_2 : w35.cell? ⟨gb116, 2, none⟩ = some (.int .i64 0) := (blk_cell BK116.out 2).trans rfl; have hfz36_0 := blk_frozen BK116.out 0; have hfz36_1 := blk_frozen BK116.out 1; have hfz36_2 := blk_frozen BK116.out 2; obtain ⟨Ao37, co37, eo37⟩ := Kd.R_slice HO_3.out; subst eo37))
                have n0_ : Aside0 (Kd.R k26 26 (((w35.setCell ⟨gb116, 0, none⟩ (.int .i64 ((rd_T26 x12_1 x14_1).f0))).setCell ⟨gb116, 1, none⟩ (.int .i64 ((rd_T26 x12_1 x14_1).f1))).setCell ⟨gb116, 2, none⟩ (.int .i64 ((rd_T26 x12_1 x14_1).f2))) w.heap.size (fun k_ => some k_ ≠ (.slice (some ad115) x12_1.length co8 : Value).ownBlock ∧ k_ ≠ gb116) (.slice Ao37 x3_1.length co37) x3_1) := ⟨by (with_reducible repeat (first | apply Kd.R_alloc | apply Kd.R_drewN | apply Kd.R_drew)); exact Kd.R_mono (Kd.R_far (p := ⟨gb116, 2, none⟩) (Kd.R_far (p := ⟨gb116, 1, none⟩) (Kd.R_far (p := ⟨gb116, 0, none⟩) (Kd.R_mono HO_3.out (fun k_ hk => (⟨hk, hk.2⟩ : _ ∧ k_ ≠ gb116))) (fun _ hk => hk.2) (.int .i64 ((rd_T26 x12_1 x14_1).f0))) (fun _ hk => hk.2) (.int .i64 ((rd_T26 x12_1 x14_1).f1))) (fun _ hk => hk.2) (.int .i64 ((rd_T26 x12_1 x14_1).f2))) (fun _ hk => ⟨hk.1.1, hk.1.2⟩)⟩
                have n1_ : Aside0 (Kd.R k26 26 (((w35.setCell ⟨gb116, 0, none⟩ (.int .i64 ((rd_T26 x12_1 x14_1).f0))).setCell ⟨gb116, 1, none⟩ (.int .i64 ((rd_T26 x12_1 x14_1).f1))).setCell ⟨gb116, 2, none⟩ (.int .i64 ((rd_T26 x12_1 x14_1).f2))) w.heap.size (fun k_ => some k_ ≠ (.slice Ao37 x3_1.length co37 : Value).ownBlock ∧ k_ ≠ gb116) (.slice (some ad115) x12_1.length co8) x12_1) := ⟨by (with_reducible repeat (first | apply Kd.R_alloc | apply Kd.R_drewN | apply Kd.R_drew)); exact Kd.R_mono (Kd.R_far (p := ⟨gb116, 2, none⟩) (Kd.R_far (p := ⟨gb116, 1, none⟩) (Kd.R_far (p := ⟨gb116, 0, none⟩) (Kd.R_mono HO_12.out (fun k_ hk => (⟨hk, hk.2⟩ : _ ∧ k_ ≠ gb116))) (fun _ hk => hk.2) (.int .i64 ((rd_T26 x12_1 x14_1).f0))) (fun _ hk => hk.2) (.int .i64 ((rd_T26 x12_1 x14_1).f1))) (fun _ hk => hk.2) (.int .i64 ((rd_T26 x12_1 x14_1).f2))) (fun _ hk => ⟨hk.1.1, hk.1.2⟩)⟩
                have n2_ : Aside0 ((((w35.setCell ⟨gb116, 0, none⟩ (.int .i64 ((rd_T26 x12_1 x14_1).f0))).setCell ⟨gb116, 1, none⟩ (.int .i64 ((rd_T26 x12_1 x14_1).f1))).setCell ⟨gb116, 2, none⟩ (.int .i64 ((rd_T26 x12_1 x14_1).f2))).heap[gb116]? = some (.cells #[.int .i64 ((rd_T26 x12_1 x14_1).f0), .int .i64 ((rd_T26 x12_1 x14_1).f1), .int .i64 ((rd_T26 x12_1 x14_1).f2)] 26 (0, 0))) := ⟨by (with_reducible repeat (first | refine blk_drewN ?_ _ | refine blk_drew ?_ | refine blk_alloc ?_ _)); refine blk_put (cs := #[.int .i64 ((rd_T26 x12_1 x14_1).f0), .int .i64 ((rd_T26 x12_1 x14_1).f1), .int .i64 0]) ?_ 2 _ rfl; (with_reducible repeat (first | refine blk_drewN ?_ _ | refine blk_drew ?_ | refine blk_alloc ?_ _)); refine blk_put (cs := #[.int .i64 ((rd_T26 x12_1 x14_1).f0), .int .i64 0, .int .i64 0]) ?_ 1 _ rfl; (with_reducible repeat (first | refine blk_drewN ?_ _ | refine blk_drew ?_ | refine blk_alloc ?_ _)); refine blk_put (cs := #[.int .i64 0, .int .i64 0, .int .i64 0]) ?_ 0 _ rfl; (with_reducible repeat (first | refine blk_drewN ?_ _ | refine blk_drew ?_ | refine blk_alloc ?_ _)); exact BK116.out⟩
                have n3_ : Aside0 (Below w.heap.size w (((w35.setCell ⟨gb116, 0, none⟩ (.int .i64 ((rd_T26 x12_1 x14_1).f0))).setCell ⟨gb116, 1, none⟩ (.int .i64 ((rd_T26 x12_1 x14_1).f1))).setCell ⟨gb116, 2, none⟩ (.int .i64 ((rd_T26 x12_1 x14_1).f2)))) := ⟨by repeat (first | (with_reducible first | exact HB.out | apply below_alloc | apply pw_below_drewN | apply below_drew1 | refine below_set ?_ GE116.out) | exact HB.out)⟩
                (try clear HO_3)
                (try clear HO_12)
                (try clear BK116)
                (try clear HB)
                generalize (((w35.setCell ⟨gb116, 0, none⟩ (.int .i64 ((rd_T26 x12_1 x14_1).f0))).setCell ⟨gb116, 1, none⟩ (.int .i64 ((rd_T26 x12_1 x14_1).f1))).setCell ⟨gb116, 2, none⟩ (.int .i64 ((rd_T26 x12_1 x14_1).f2))) = w38 at n0_ n1_ n2_ n3_ ⊢
                have HO_3 := n0_
                have HO_12 := n1_
                have BK116 := n2_
                have HB := n3_
                clear n0_ n1_ n2_ n3_
                have n0_ := Aside0.mk (Kd.R_drew HO_3.out)
                have n1_ := Aside0.mk (Kd.R_drew HO_12.out)
                have n2_ := Aside0.mk (blk_drew BK116.out)
                have n3_ := Aside0.mk (below_drew1 HB.out)
                clear HO_3
                clear HO_12
                clear BK116
                clear HB
                have HO_3 := n0_
                have HO_12 := n1_
                have BK116 := n2_
                have HB := n3_
                clear n0_ n1_ n2_ n3_
                refine start_ (n := 13) (S := fun w' => True) (ds := []) #[false, false, false, false, false, false, false, false, false, false, false, false, false] (by kernel_rfl) rfl rfl trivial (fun hHeld => ?_); refine with_tabW busy_Merge.tab8 busy_Merge.bits8 (fun HT_ HW_ => ?_)
                generalize w38.drew = w39 at HO_3 HO_12 BK116 HB hHeld ⊢
                refine pure_ (i := 0) (N := some 20) (v := ?_) (a' := ?_) #[true, false, false, false, false, false, false, false, false, false, false, false, false] rfl rfl (any_of HT_.out (by kernel_rfl)) (fun _ _ _ h => h) (Or.inl ⟨by rfl, ?_⟩) ?_ ?_
                rotate_left
                · intro w'
                  go_simp
                  with_reducible rfl
                rotate_left
                · simp only [Act.put, List.setIfInBounds_toArray, List.set_cons_zero, List.set_cons_succ, i64_w, i32_w]
                  rfl
                refine pure_ (i := 1) (N := some 21) (v := ?_) (a' := ?_) #[true, true, false, false, false, false, false, false, false, false, false, false, false] rfl rfl (any_of HT_.out (by kernel_rfl)) (fun _ _ _ h => h) (Or.inl ⟨by rfl, ?_⟩) ?_ ?_
                rotate_left
                · intro w'
                  go_simp
                  with_reducible rfl
                rotate_left
                · simp only [Act.put, List.setIfInBounds_toArray, List.set_cons_zero, List.set_cons_succ, i64_w, i32_w]
                  rfl
                refine pure_ (i := 2) (N := some 22) (v := ?_) (a' := ?_) #[true, true, true, false, false, false, false, false, false, false, false, false, false] rfl rfl (any_of HT_.out (by kernel_rfl)) (fun _ _ _ h => h) (Or.inl ⟨by rfl, ?_⟩) ?_ ?_
                rotate_left
                · intro w'
                  go_simp
                  with_reducible rfl
                rotate_left
                · simp only [Act.put, List.setIfInBounds_toArray, List.set_cons_zero, List.set_cons_succ, i64_w, i32_w]
                  rfl
                refine pure_ (i := 3) (N := some 23) (v := undef) (a' := ?_) #[true, true, true, true, false, false, false, false, false, false, false, false, false] rfl rfl (any_of HT_.out (by kernel_rfl)) (fun _ _ _ h => h) (Or.inr ⟨by rfl, rfl⟩) ?_ ?_
                rotate_left
                · simp only [Act.put, List.setIfInBounds_toArray, List.set_cons_zero, List.set_cons_succ, i64_w, i32_w]
                  rfl
                refine pure_ (i := 4) (N := some 24) (v := undef) (a' := ?_) #[true, true, true, true, true, false, false, false, false, false, false, false, false] rfl rfl (any_of HT_.out (by kernel_rfl)) (fun _ _ _ h => h) (Or.inr ⟨by rfl, rfl⟩) ?_ ?_
                rotate_left
                · simp only [Act.put, List.setIfInBounds_toArray, List.set_cons_zero, List.set_cons_succ, i64_w, i32_w]
                  rfl
                refine pure_ (i := 5) (N := some 25) (v := undef) (a' := ?_) #[true, true, true, true, true, true, false, false, false, false, false, false, false] rfl rfl (any_of HT_.out (by kernel_rfl)) (fun _ _ _ h => h) (Or.inr ⟨by rfl, rfl⟩) ?_ ?_
                rotate_left
                · simp only [Act.put, List.setIfInBounds_toArray, List.set_cons_zero, List.set_cons_succ, i64_w, i32_w]
                  rfl
                refine pure_ (i := 6) (N := some 26) (v := undef) (a' := ?_) #[true, true, true, true, true, true, true, false, false, false, false, false, false] rfl rfl (any_of HT_.out (by kernel_rfl)) (fun _ _ _ h => h) (Or.inr ⟨by rfl, rfl⟩) ?_ ?_
                rotate_left
                · simp only [Act.put, List.setIfInBounds_toArray, List.set_cons_zero, List.set_cons_succ, i64_w, i32_w]
                  rfl
                refine pure_ (i := 7) (N := some 27) (v := undef) (a' := ?_) #[true, true, true, true, true, true, true, true, false, false, false, false, false] rfl rfl (any_of HT_.out (by kernel_rfl)) (fun _ _ _ h => h) (Or.inr ⟨by rfl, rfl⟩) ?_ ?_
                rotate_left
                · simp only [Act.put, List.setIfInBounds_toArray, List.set_cons_zero, List.set_cons_succ, i64_w, i32_w]
                  rfl
                refine pure_ (i := 8) (N := some 28) (v := undef) (a' := ?_) #[true, true, true, true, true, true, true, true, true, false, false, false, false] rfl rfl (any_of HT_.out (by kernel_rfl)) (fun _ _ _ h => h) (Or.inr ⟨by rfl, rfl⟩) ?_ ?_
                rotate_left
                · simp only [Act.put, List.setIfInBounds_toArray, List.set_cons_zero, List.set_cons_succ, i64_w, i32_w]
                  rfl
                refine pure_ (i := 9) (N := some 29) (v := undef) (a' := ?_) #[true, true, true, true, true, true, true, true, true, true, false, false, false] rfl rfl (any_of HT_.out (by kernel_rfl)) (fun _ _ _ h => h) (Or.inr ⟨by rfl, rfl⟩) ?_ ?_
                rotate_left
                · simp only [Act.put, List.setIfInBounds_toArray, List.set_cons_zero, List.set_cons_succ, i64_w, i32_w]
                  rfl
                refine pure_ (i := 10) (N := some 30) (v := undef) (a' := ?_) #[true, true, true, true, true, true, true, true, true, true, true, false, false] rfl rfl (any_of HT_.out (by kernel_rfl)) (fun _ _ _ h => h) (Or.inr ⟨by rfl, rfl⟩) ?_ ?_
                rotate_left
                · simp only [Act.put, List.setIfInBounds_toArray, List.set_cons_zero, List.set_cons_succ, i64_w, i32_w]
                  rfl
                refine pure_ (i := 11) (N := some 31) (v := undef) (a' := ?_) #[true, true, true, true, true, true, true, true, true, true, true, true, false] rfl rfl (any_of HT_.out (by kernel_rfl)) (fun _ _ _ h => h) (Or.inr ⟨by rfl, rfl⟩) ?_ ?_
                rotate_left
                · simp only [Act.put, List.setIfInBounds_toArray, List.set_cons_zero, List.set_cons_succ, i64_w, i32_w]
                  rfl
                refine pure_ (i := 12) (N := some 32) (v := ?_) (a' := ?_) #[true, true, true, true, true, true, true, true, true, true, true, true, true] rfl rfl (any_of HT_.out (by kernel_rfl)) (fun _ _ _ h => h) (Or.inl ⟨by rfl, ?_⟩) ?_ ?_
                rotate_left
                · intro w'
                  go_simp
                  with_reducible rfl
                rotate_left
                · simp only [Act.put, List.setIfInBounds_toArray, List.set_cons_zero, List.set_cons_succ, i64_w, i32_w]
                  rfl
                refine done_ (done_of HT_.out (by kernel_rfl)) ?_
                have hcz40_0 : w39.cell? ⟨gb116, 0, none⟩ = some (.int .i64 ((rd_T26 x12_1 x14_1).f0)) := (blk_cell BK116.out 0).trans rfl
                have hcz40_1 : w39.cell? ⟨gb116, 1, none⟩ = some (.int .i64 ((rd_T26 x12_1 x14_1).f1)) := (blk_cell BK116.out 1).trans rfl
                have hcz40_2 : w39.cell? ⟨gb116, 2, none⟩ = some (.int .i64 ((rd_T26 x12_1 x14_1).f2)) := (blk_cell BK116.out 2).trans rfl
                have hfz40_0 := blk_frozen BK116.out 0
                have hfz40_1 := blk_frozen BK116.out 1
                have hfz40_2 := blk_frozen BK116.out 2
                try go_wp2_with (first | ((with_reducible refine gate_builtin (b := .append) (xs := #[.tmp 47, .tmp 55]) rfl ?_); at_builtin; refine Kd.R_append k26 (w0 := w) w.heap.size rfl (.tmp 47) (.tmp 55) 22 26 (.agg #[(.int .i64 0), (.int .i64 0), (.int .i64 0)]) 24 rfl Tryd.underlying22 info26 rfl (by decide) (by omega) (.slice Ao37 x3_1.length co37) x3_1 (⟨(rd_T26 x12_1 x14_1).f0, (rd_T26 x12_1 x14_1).f1, (rd_T26 x12_1 x14_1).f0⟩ : S26) [.int .i64 ((rd_T26 x12_1 x14_1).f0), .int .i64 ((rd_T26 x12_1 x14_1).f1), .int .i64 ((rd_T26 x12_1 x14_1).f0)] (fun k_ => some k_ ≠ (.slice (some ad115) x12_1.length co8 : Value).ownBlock ∧ k_ ≠ gb116) (fun _ => False) rfl rfl ?aP (fun _ hk => hk.elim) ?aF ?aO ?aB ?aS ?aL ?_; (case aP => exact k26_mkM _ _ _ (⟨(rd_T26 x12_1 x14_1).f0, (rd_T26 x12_1 x14_1).f1, (rd_T26 x12_1 x14_1).f0⟩ : S26)); (case aB => exact (by repeat (first | (with_reducible first | exact HB.out | apply below_alloc | apply pw_below_drewN | apply below_drew1 | refine below_set ?_ GE116.out) | exact HB.out))); (case aF => exact (fun k_ hk => ⟨Kd.fresh' (Kd.R_lt (by (with_reducible repeat (first | apply Kd.R_alloc | apply Kd.R_drewN | apply Kd.R_drew)); exact HO_12.out)) k_ hk, Kd.freshB (g := gb116) (o := .cells #[.int .i64 ((rd_T26 x12_1 x14_1).f0), .int .i64 ((rd_T26 x12_1 x14_1).f1), .int .i64 ((rd_T26 x12_1 x14_1).f2)] 26 (0, 0)) (by (with_reducible repeat (first | refine blk_drewN ?_ _ | refine blk_drew ?_ | refine blk_alloc ?_ _)); exact BK116.out) k_ hk⟩)); (case aO => exact (by (with_reducible repeat (first | apply Kd.R_alloc | apply Kd.R_drewN | apply Kd.R_drew)); exact HO_3.out)); (case aS => exact (below_size (by repeat (first | (with_reducible first | exact HB.out | apply below_alloc | apply pw_below_drewN | apply below_drew1 | refine below_set ?_ GE116.out) | exact HB.out)))); (case aL => have := LMc34.out; omega); intro v124 w41 ho hb hg hat; rw [← Ny123.out] at ho; have n0_ := Aside0.mk (Kd.R_after (ok := (fun k_ => k_ ≠ gb116)) (by (with_reducible repeat (first | apply Kd.R_alloc | apply Kd.R_drewN | apply Kd.R_drew)); exact Kd.R_mono HO_12.out (fun _ hk => ⟨hk.2, hk.1⟩)) hg hat); have n1_ := Aside0.mk (blk_grown (g := gb116) (o := .cells #[.int .i64 ((rd_T26 x12_1 x14_1).f0), .int .i64 ((rd_T26 x12_1 x14_1).f1), .int .i64 ((rd_T26 x12_1 x14_1).f2)] 26 (0, 0)) (by (with_reducible repeat (first | refine blk_drewN ?_ _ | refine blk_drew ?_ | refine blk_alloc ?_ _)); exact BK116.out) hg (Kd.R_away HO_3.out (fun _ hk => hk.2))); have n2_ := Aside0.mk (hb); have n3_ := Aside0.mk (ho); clear HO_12; clear BK116; clear HB; clear HO_3; have HO_12 := n0_; have BK116 := n1_; have HB := n2_; have HO125 := n3_; clear n0_ n1_ n2_ n3_; clear ho hb hg hat))
                (try simp only [← hl12_1])
                go_roundg k1
                case measure => have := HK1.out; omega
                case rel => exact ⟨(y123), (x12_1), (wrap64 (x14_1 + 1)), (by first | rfl | (simp; done) | (simp [*]; done)), H', ⟨by have := HK1.out; omega⟩, ⟨by (try simp only [hl12_1]); (with_reducible repeat (first | apply Kd.R_alloc | apply Kd.R_drewN | apply Kd.R_drew)); exact Kd.R_mono HO125.out (fun _ hk => hk.1)⟩, ⟨by (try simp only [hl12_1]); (with_reducible repeat (first | apply Kd.R_alloc | apply Kd.R_drewN | apply Kd.R_drew)); exact Kd.R_mono HO_12.out (fun _ hk => hk.2)⟩, ⟨by repeat (first | (with_reducible first | exact HB.out | apply below_alloc | apply pw_below_drewN | apply below_drew1 | refine below_set ?_ GE116.out) | exact HB.out)⟩⟩
              · rw [if_neg c34] at H
                exact absurd H (by simp)
          · rw [if_neg c11] at H
            exact absurd H (by simp)
        · rw [if_neg c10] at H
          exact absurd H (by simp)
      · rw [if_neg c9] at H
        have c9b0 : decide (x14_1 < (t112.length : Int)) = false := decide_eq_false c9
        clear c9
        rw [hl12_1] at c9b0
        obtain rfl := Option.some.inj H
        go_wp2
        go_ret
        exact ⟨_, by first | rfl | (simp [errW_none, errW_some] <;> rfl) | (simp [*, errW_none, errW_some] <;> rfl), by (with_reducible repeat (first | apply Kd.R_alloc | apply Kd.R_drewN | apply Kd.R_drew)); exact Kd.R_mono HO_3.out (fun _ hk => trivial), by repeat (first | (with_reducible first | exact HB.out | apply below_alloc | apply pw_below_drewN | apply below_drew1) | exact HB.out)⟩

end Go.Proofs.YtdafnjlmkbffeaaDoor.PD
-- written by a program of this work (mk.sh, over the kit's print; stubs are proved by hand)
namespace Go.Proofs.YtdafnjlmkbffeaaDoor.PD
open Go.RowKit Go.Proofs.YtdafnjlmkbffeaaDoorW.PrintWords Go.Proofs.YtdafnjlmkbffeaaDoorW.PrintLast Go.Proofs.YtdafnjlmkbffeaaDoorW.PrintMore
attribute [local go_sem] isSome_setCell max2_int min2_int max_two min_two max_three min_three max_four min_four   -- for this text's walks alone
set_option linter.unusedVariables false
set_option linter.unusedSimpArgs false

theorem eqA26 (d : Nat) (w : World) (x0 y0 : Int) (x1 y1 : Int) (x2 y2 : Int) :
    (Op.equalIn (d + 2) 26 (.agg #[.int .i64 x0, .int .i64 x1, .int .i64 x2]) (.agg #[.int .i64 y0, .int .i64 y1, .int .i64 y2])).run Tryd.prog w = .ok (x0 == y0 && (x1 == y1 && (x2 == y2))) w := by
  refine eqA_of Tryd.underlying26 (by kernel_rfl) ?_
  refine eqf_cons (by rfl) (by go_simp; rfl) (by go_simp; rfl) (by go_simp) ?_
  refine eqf_cons (by rfl) (by go_simp; rfl) (by go_simp; rfl) (by go_simp) ?_
  exact eqf_last (by rfl) (by go_simp; rfl) (by go_simp; rfl) (by go_simp)
end Go.Proofs.YtdafnjlmkbffeaaDoor.PD
-- written by a program of this work (mk.sh, over the kit's print; stubs are proved by hand)
namespace Go.Proofs.YtdafnjlmkbffeaaDoor.PD
open Go.RowKit Go.Proofs.YtdafnjlmkbffeaaDoorW.PrintWords Go.Proofs.YtdafnjlmkbffeaaDoorW.PrintLast Go.Proofs.YtdafnjlmkbffeaaDoorW.PrintMore
attribute [local go_sem] isSome_setCell max2_int min2_int max_two min_two max_three min_three max_four min_four   -- for this text's walks alone
set_option linter.unusedVariables false
set_option linter.unusedSimpArgs false

attribute [local go_sem high] eqA26
/-! ### almanacref18_Insts: function 5 -/
def almanacref18_Insts.l0 : Nat → List (S26) → List (S26) → Int → Option (Bool)
  | 0, _, _, _ => none
  | k + 1, x0, x1, x5 => if x5 < (x0.length : Int) then (if 0 ≤ x5 then (if x5 < (x1.length : Int) then (if (!(((rd_T26 x0 x5).f0) == ((rd_T26 x1 x5).f0)) || (!(((rd_T26 x0 x5).f1) == ((rd_T26 x1 x5).f1)) || (!(((rd_T26 x0 x5).f2) == ((rd_T26 x1 x5).f2))))) = true then (some false) else (almanacref18_Insts.l0 k x0 x1 (wrap64 (x5 + 1)))) else (none)) else (none)) else (some true)
def almanacref18_Insts.f (k : Nat) (l0 : List (S26)) (l1 : List (S26)) : Option (Bool) := if (l0.length : Int) = (l1.length : Int) then (almanacref18_Insts.l0 k l0 l1 0) else (some false)
theorem almanacref18_Insts.mono_l : ∀ k, (∀ y0 y1 y2, LeO (almanacref18_Insts.l0 k y0 y1 y2) (almanacref18_Insts.l0 (k + 1) y0 y1 y2))
  | 0 => fun _ _ _ r h => by simp [almanacref18_Insts.l0] at h
  | k + 1 => by
    have ih0 := almanacref18_Insts.mono_l k
    · intro y0 y1 y2
      unfold almanacref18_Insts.l0
      repeat' first
      | (with_reducible exact ih0 _ _ _)
      | (with_reducible exact LeO.refl _)
      | (with_reducible exact LeO.none _)
      | (with_reducible refine LeO.ite ?_ ?_)
      | (with_reducible refine LeO.bind ?_ (fun _ => ?_))
      | exact ih0 _ _ _
      | exact LeO.none _
      | refine LeO.ite ?_ ?_
      | refine LeO.bind ?_ (fun _ => ?_)
theorem almanacref18_Insts.mono : ∀ a0 a1 k, LeO (almanacref18_Insts.f k a0 a1) (almanacref18_Insts.f (k + 1) a0 a1) := by
  intro a0 a1 k
  have ih0 := almanacref18_Insts.mono_l k
  unfold almanacref18_Insts.f
  repeat' first
      | (with_reducible exact ih0 _ _ _)
      | (with_reducible exact LeO.refl _)
      | (with_reducible exact LeO.none _)
      | (with_reducible refine LeO.ite ?_ ?_)
      | (with_reducible refine LeO.bind ?_ (fun _ => ?_))
      | exact ih0 _ _ _
      | exact LeO.none _
      | refine LeO.ite ?_ ?_
      | refine LeO.bind ?_ (fun _ => ?_)
set_option maxHeartbeats 8000000 in
set_option maxRecDepth 100000 in
theorem almanacref18_Insts.calls (k : Nat) (A0 : Option Addr) (c0 : Nat) (l0 : List (S26)) (A1 : Option Addr) (c1 : Nat) (l1 : List (S26)) (r : Bool) (w : World) (hr0 : Kd.C k26 w A0 l0.length l0) (hc0 : l0.length ≤ c0) (hr1 : Kd.C k26 w A1 l1.length l1) (hc1 : l1.length ≤ c1) (h : almanacref18_Insts.f k l0 l1 = some r) :
    Calls Tryd.prog 5 #[.slice A0 l0.length c0, .slice A1 l1.length c1] w fun e w' => e = .returned (.bool r) ∧ Drawn0 w w' := by
  have hu26 := Tryd.underlying26
  have HR0 := Aside0.mk hr0
  have HC0 := Aside0.mk hc0
  clear hr0 hc0
  have HR1 := Aside0.mk hr1
  have HC1 := Aside0.mk hc1
  clear hr1 hc1
  have H : (if (l0.length : Int) = (l1.length : Int) then (almanacref18_Insts.l0 k l0 l1 0) else (some false)) = some r := h
  clear h
  by_cases c3 : (l0.length : Int) = (l1.length : Int)
  · rw [if_pos c3] at H
    have c3b0 : ((l0.length : Int) == (l1.length : Int)) = true := beq_iff_eq.mpr c3
    have c3b1 : ((l0.length : Int) != (l1.length : Int)) = false := bne_eq_false_iff_eq.mpr c3
    have c3b2 : (l0.length == l1.length) = true := by first | simpa using c3 | (simp at c3 ⊢; omega)
    clear c3
    have H' := Aside0.mk H
    clear H
    go_enter Tryd.func5, Tryd.ntmps5
    go_wp2
    repeat (go_quiet (fail); try go_wp2)
    go_loopg [5] k (fun kq v5 w' => ∃ (x5_1 : Int), v5 = .int .i64 x5_1 ∧ Aside0 (almanacref18_Insts.l0 kq l0 l1 x5_1 = some r) ∧ Aside0 (kq ≤ k) ∧ Drawn0 w w')
    case atStart => exact ⟨(0), (by first | rfl | (simp; done) | (simp [*]; done)), H', ⟨Nat.le_refl _⟩, by repeat (first | exact Drawn0.refl _ | apply Drawn0.step)⟩
    case round =>
      clear H'
      try clear c1
      try clear p2
      try clear c3
      try clear c3b0
      try clear c3b1
      try clear c3b2
      obtain ⟨x5_1, rfl, HA, HK1, ⟨m1, rfl⟩⟩ := hrel
      cases gk with
      | zero => exact absurd HA.out (by simp [almanacref18_Insts.l0])
      | succ k1 =>
        have H := HA.out
        clear HA
        simp only [almanacref18_Insts.l0] at H
        by_cases c4 : x5_1 < (l0.length : Int)
        · rw [if_pos c4] at H
          have c4b0 : decide (x5_1 < (l0.length : Int)) = true := decide_eq_true c4
          clear c4
          by_cases c5 : 0 ≤ x5_1
          · rw [if_pos c5] at H
            have c5b0 : decide (0 ≤ x5_1) = true := decide_eq_true c5
            clear c5
            by_cases c6 : x5_1 < (l1.length : Int)
            · rw [if_pos c6] at H
              have c6b0 : decide (x5_1 < (l1.length : Int)) = true := decide_eq_true c6
              clear c6
              by_cases c7 : (!(((rd_T26 l0 x5_1).f0) == ((rd_T26 l1 x5_1).f0)) || (!(((rd_T26 l0 x5_1).f1) == ((rd_T26 l1 x5_1).f1)) || (!(((rd_T26 l0 x5_1).f2) == ((rd_T26 l1 x5_1).f2))))) = true
              · rw [if_pos c7] at H
                have c7b0 : (!(((rd_T26 l0 x5_1).f0) == ((rd_T26 l1 x5_1).f0)) || (!(((rd_T26 l0 x5_1).f1) == ((rd_T26 l1 x5_1).f1)) || (!(((rd_T26 l0 x5_1).f2) == ((rd_T26 l1 x5_1).f2))))) = true := c7
                clear c7
                obtain rfl := Option.some.inj H
                have p126 : 0 ≤ (x5_1 : Int) := of_decide_eq_true (by first | (with_reducible assumption) | assumption)
                have q126 : x5_1 < (l0.length : Int) := of_decide_eq_true (by first | (with_reducible assumption) | assumption)
                obtain ⟨ad126, e126, hx126_0, hx126_1, hx126_2⟩ := at_T26 HR0.out x5_1 p126 q126
                cases e126
                replace p126 := eq_true p126
                replace q126 := eq_true q126
                have p127 : 0 ≤ (x5_1 : Int) := of_decide_eq_true (by first | (with_reducible assumption) | assumption)
                have q127 : x5_1 < (l1.length : Int) := of_decide_eq_true (by first | (with_reducible assumption) | assumption)
                obtain ⟨ad127, e127, hx127_0, hx127_1, hx127_2⟩ := at_T26 HR1.out x5_1 p127 q127
                cases e127
                replace p127 := eq_true p127
                replace q127 := eq_true q127
                go_wp2
                repeat (go_quiet (fail); try go_wp2)
                go_ret
                exact ⟨by first | rfl | (simp; done) | (simp [*]; done), by repeat (first | exact Drawn0.refl _ | apply Drawn0.step)⟩
              · rw [if_neg c7] at H
                have c7b0 : (!(((rd_T26 l0 x5_1).f0) == ((rd_T26 l1 x5_1).f0)) || (!(((rd_T26 l0 x5_1).f1) == ((rd_T26 l1 x5_1).f1)) || (!(((rd_T26 l0 x5_1).f2) == ((rd_T26 l1 x5_1).f2))))) = false := by simpa using c7
                clear c7
                have H' := Aside0.mk H
                clear H
                have p126 : 0 ≤ (x5_1 : Int) := of_decide_eq_true (by first | (with_reducible assumption) | assumption)
                have q126 : x5_1 < (l0.length : Int) := of_decide_eq_true (by first | (with_reducible assumption) | assumption)
                obtain ⟨ad126, e126, hx126_0, hx126_1, hx126_2⟩ := at_T26 HR0.out x5_1 p126 q126
                cases e126
                replace p126 := eq_true p126
                replace q126 := eq_true q126
                have p127 : 0 ≤ (x5_1 : Int) := of_decide_eq_true (by first | (with_reducible assumption) | assumption)
                have q127 : x5_1 < (l1.length : Int) := of_decide_eq_true (by first | (with_reducible assumption) | assumption)
                obtain ⟨ad127, e127, hx127_0, hx127_1, hx127_2⟩ := at_T26 HR1.out x5_1 p127 q127
                cases e127
                replace p127 := eq_true p127
                replace q127 := eq_true q127
                go_wp2
                repeat (go_quiet (fail); try go_wp2)
                go_roundg k1
                case measure => have := HK1.out; omega
                case rel => exact ⟨(wrap64 (x5_1 + 1)), (by first | rfl | (simp; done) | (simp [*]; done)), H', ⟨by have := HK1.out; omega⟩, by repeat (first | exact Drawn0.refl _ | apply Drawn0.step)⟩
            · rw [if_neg c6] at H
              exact absurd H (by simp)
          · rw [if_neg c5] at H
            exact absurd H (by simp)
        · rw [if_neg c4] at H
          have c4b0 : decide (x5_1 < (l0.length : Int)) = false := decide_eq_false c4
          clear c4
          obtain rfl := Option.some.inj H
          go_wp2
          repeat (go_quiet (fail); try go_wp2)
          go_ret
          exact ⟨by first | rfl | (simp; done) | (simp [*]; done), by repeat (first | exact Drawn0.refl _ | apply Drawn0.step)⟩
  · rw [if_neg c3] at H
    have c3b0 : ((l0.length : Int) == (l1.length : Int)) = false := beq_eq_false_iff_ne.mpr c3
    have c3b1 : ((l0.length : Int) != (l1.length : Int)) = true := bne_iff_ne.mpr c3
    have c3b2 : (l0.length == l1.length) = false := by first | simpa using c3 | (simp at c3 ⊢; omega)
    obtain rfl := Option.some.inj H
    go_enter Tryd.func5, Tryd.ntmps5
    go_wp2
    repeat (go_quiet (fail); try go_wp2)
    go_ret
    exact ⟨by first | rfl | (simp; done) | (simp [*]; done), by repeat (first | exact Drawn0.refl _ | apply Drawn0.step)⟩

end Go.Proofs.YtdafnjlmkbffeaaDoor.PD
