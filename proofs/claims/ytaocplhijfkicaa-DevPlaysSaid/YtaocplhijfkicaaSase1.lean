/- Part 1 of the texts that the claim leans on: the functions' walks, and what they compute. -/
import Derived.WalkKit
import Derived.Test.YtaocplhijfkicaaWWords
import Derived.Test.YtaocplhijfkicaaWLast
import Derived.Test.YtaocplhijfkicaaWApart
import Derived.Test.YtaocplhijfkicaaWFoot
import Derived.Test.YtaocplhijfkicaaWKept
import Derived.Test.YtaocplhijfkicaaProg
import Derived.Below
import Derived.Deep.Draws
import Derived.Deep.AppendLies
import Derived.Maps.AppendAt
import Derived.OwnWalk
import Derived.Laws.BytesArg
import Derived.Laws.MakeOwn
import Derived.Laws.OwnMore
import Derived.Deep.OwnRows
import Derived.Tactics
import Derived.Lib.ConvBytes
import Derived.Laws.Slices
import Derived.KernelRfl
import Derived.RowKit3
import Derived.Deep.LoopGhost
import Derived.Deep.QuietTactic
import Derived.BigQuiet
import Derived.WideLaws
import Derived.Deep.DeepCutAuto
import Derived.Deep.CutBlock
import Derived.Deep.RegionHeld3
import Derived.Laws.Rows
import Derived.Lib.AppendStr
import Derived.ArgAppend
import Derived.Laws.IdiomCopy
import Derived.OrdersHeld
import Derived.Laws.BitsLemmas
import Derived.RowKit
import Derived.Test.YtaocplhijfkicaaWTab
import Derived.Test.YtaocplhijfkicaaWEqStruct
import Derived.Test.YtaocplhijfkicaaWRepsOne
import Derived.Test.YtaocplhijfkicaaWGuard
import Derived.Shelf.Strings.Builder2
import Derived.Shelf.Bits.Mul64
import Derived.Shelf.Strings.Repeat
import Derived.Lib.SliceRun
import Derived.Lib.BufferWrite
import Derived.Lib.SlBuf
import Derived.Laws.CopyOwn
import Derived.Deep.RegionLaw
/- A store leaves the same places there: a law that the walk's simp takes, whatever the cell. -/
namespace Go.Proofs.Ytaocplhijfkicaa.PD
theorem isSome_setCell (w : World) (p q : Addr) (x : Value) : ((w.setCell p x).cell? q).isSome = (w.cell? q).isSome := by
  by_cases e : p = q
  · subst e
    cases h : w.cell? p with
    | some v => rw [World.cell?_setCell_same w p x h]; rfl
    | none =>
      unfold World.cell? at h
      simp only [World.setCell, World.cell?, Array.getElem?_modify, if_true]
      cases hb : w.heap[p.block]? with
      | none => simp
      | some o =>
        cases o <;> simp_all
  · rw [World.cell?_setCell_other w p q x e]
end Go.Proofs.Ytaocplhijfkicaa.PD
/- Few lemmas that the walks of this claim lean on: the greater of two numbers, looks ahead of a step, and what a row's reader keeps. -/
namespace Go.Proofs.YtaocplhijfkicaaW.PrintMore
open Go.RowKit
theorem max2_int (k k' : IntKind) (x y : Int) : Builtin.max2 (.int k x) (.int k' y) = pure (.int k (if x < y then y else x)) := by simp only [Builtin.max2, gt_iff_lt]
theorem min2_int (k k' : IntKind) (x y : Int) : Builtin.min2 (.int k x) (.int k' y) = pure (.int k (if y < x then y else x)) := by simp only [Builtin.min2]
theorem max_two (ats : Array TypeId) (ty : TypeId) (a b : Value) : Builtin.max_ ats ty #[a, b] = (Builtin.max2 a b >>= fun s => pure s) := by simp only [Builtin.max_, List.foldlM_cons, List.foldlM_nil]
theorem min_two (ats : Array TypeId) (ty : TypeId) (a b : Value) : Builtin.min_ ats ty #[a, b] = (Builtin.min2 a b >>= fun s => pure s) := by simp only [Builtin.min_, List.foldlM_cons, List.foldlM_nil]
end Go.Proofs.YtaocplhijfkicaaW.PrintMore
namespace Go.Proofs.YtaocplhijfkicaaW.PrintWords
open Go.RowKit
section
variable {P : Program} {ops : Array Oper} {rest : List Oper} {o : Oper} {a : Act} {Q : Exit → Act → World → Prop} {W : World}
theorem gate_callee {f : FuncId} {xs : Array Operand} {ts : Array TypeId} (_ho : o.op = .call { callee := .value (.func f), args := xs, argTypes := ts }) (h : wpList P ops Q (o :: rest) a W) : wpList P ops Q (o :: rest) a W := h
theorem gate_builtin {b : Builtin} {xs : Array Operand} {ts : Array TypeId} (_ho : o.op = .call { callee := .builtin b, args := xs, argTypes := ts }) (h : wpList P ops Q (o :: rest) a W) : wpList P ops Q (o :: rest) a W := h
end
def mx (a b : Int) : Int := if a < b then b else a
theorem drewN_self (w : World) (n : Nat) : w.drewN n = w.drewN n := rfl
theorem Kd.R_keptB {α : Type} {d : Kd α} {e base : Nat} {ok S : Nat → Prop} {W W2 : World} {v : Value} {xs : List α} (h : d.R e W base ok v xs) (hk : Kept W W2 S) (hne : ∀ k, ok k → ¬ S k) : d.R e W2 base (fun k => ok k ∧ (¬ S k ∧ k < W.heap.size)) v xs :=
  Kd.R_kept (Kd.R_mono (Kd.R_bound h) (fun k hk => ⟨hk.1, hne k hk.1, hk.2.2.1⟩)) hk (fun _ hk => hk.2.1)
end Go.Proofs.YtaocplhijfkicaaW.PrintWords
-- written by a program of this work (mk.sh, over the kit's print; stubs are proved by hand)
namespace Go.Proofs.Ytaocplhijfkicaa.PD
open Go.RowKit Go.Proofs.YtaocplhijfkicaaW.PrintWords Go.Proofs.YtaocplhijfkicaaW.PrintLast Go.Proofs.YtaocplhijfkicaaW.PrintMore
attribute [local go_sem] isSome_setCell max2_int min2_int max_two min_two   -- for this text's walks alone
set_option linter.unusedVariables false
set_option linter.unusedSimpArgs false



def errW : Option Int → Value
  | none => .nilIface
  | some c => .iface 0 (.int .i64 c)
theorem errW_none : errW none = .nilIface := rfl
theorem errW_some (c : Int) : errW (some c) = .iface 0 (.int .i64 c) := rfl

theorem info4 : (Try.prog.info? 4).map (fun i => (i.zero, i.size, i.bytes)) = some (some (.bool false), 1, 1) := by kernel_rfl
theorem info5 : (Try.prog.info? 5).map (fun i => (i.zero, i.size, i.bytes)) = some (some (.int .u8 0), 1, 1) := by kernel_rfl
theorem info9 : (Try.prog.info? 9).map (fun i => (i.zero, i.size, i.bytes)) = some (some (.string ⟨#[]⟩), 1, 16) := by kernel_rfl
theorem info40 : (Try.prog.info? 40).map (fun i => (i.zero, i.size, i.bytes)) = some (some (.agg #[(.int .i64 0), (.string ⟨#[]⟩)]), 2, 24) := by kernel_rfl
-- the values' own types
/-! #### struct type 40 -/
structure S40 where
  f0 : Int
  f1 : ByteArray
def z40 : S40 := ⟨(0 : Int), (⟨#[]⟩ : ByteArray)⟩
def k40 : Kd S40 := Kd.iso (Kd.pair (Kd.int .i64) Kd.string) (fun x : S40 => (x.f0, x.f1))
theorem k40_open {w : World} {x : S40} {cs : List Value} (h : k40.K w x cs) : cs = [.int .i64 x.f0, .string x.f1] := by
  obtain ⟨_, _, rfl, rfl, rfl⟩ := h
  exact rfl
theorem k40_openM {w : World} {base : Nat} {ok : Nat → Prop} {x : S40} {cs : List Value} (h : k40.M w base ok x cs) : cs = [.int .i64 x.f0, .string x.f1] := by
  obtain ⟨_, _, rfl, rfl, rfl⟩ := h
  exact rfl
theorem k40_mk (w : World) (x : S40)  : k40.K w x [.int .i64 x.f0, .string x.f1] := ⟨[.int .i64 x.f0], [.string x.f1], rfl, rfl, rfl⟩
theorem k40_mkM (w : World) (base : Nat) (ok : Nat → Prop) (x : S40)  : k40.M w base ok x [.int .i64 x.f0, .string x.f1] := ⟨[.int .i64 x.f0], [.string x.f1], rfl, rfl, rfl⟩
def rd_T40 (xs : List S40) (i : Int) : S40 := xs.getD i.toNat z40
theorem at_T40 {w : World} {A : Option Addr} {n : Nat} {xs : List S40} (h : Kd.C k40 w A n xs) (i : Int) (h0 : 0 ≤ i) (h1 : i < n) : ∃ ad , A = some ad ∧ w.cell? (ad.add (i.toNat * 2)) = some (.int .i64 (rd_T40 xs i).f0) ∧ w.cell? ⟨(ad.add (i.toNat * 2)).block, (ad.add (i.toNat * 2)).off + 1, none⟩ = some (.string (rd_T40 xs i).f1) := by
  obtain ⟨ad, c, e, _, hK, hc0⟩ := Kd.C_get h z40 i h0 h1
  have hc : ∀ j u, c[j]? = some u → w.cell? (ad.add (i.toNat * 2 + j)) = some u := hc0
  obtain rfl := k40_open hK
  exact ⟨ad, e, hc 0 _ rfl, by rw [← add_field _ _ 1 (by omega)]; exact hc 1 _ rfl⟩

def rd_L5 (xs : List (List Bool)) (i : Int) : (List Bool) := xs.getD i.toNat ([] : List Bool)
theorem at_L5 {w : World} {A : Option Addr} {n : Nat} {xs : List (List Bool)} (h : Kd.C (Kd.slice 4 Kd.bool) w A n xs) (i : Int) (h0 : 0 ≤ i) (h1 : i < n) : ∃ ad A0 c0, A = some ad ∧ w.cell? (ad.add i.toNat) = some (.slice A0 (rd_L5 xs i).length c0) ∧ (rd_L5 xs i).length ≤ c0 ∧ Kd.bool.C w A0 (rd_L5 xs i).length (rd_L5 xs i) := by
  obtain ⟨ad, c, e, _, hK, hc0⟩ := Kd.C_get h ([] : List Bool) i h0 h1
  have hc : ∀ j u, c[j]? = some u → w.cell? (ad.add (i.toNat * 1 + j)) = some u := hc0
  obtain ⟨A0, c0, rfl, l0, g0⟩ := hK
  exact ⟨ad, A0, c0, e, by have hq := hc 0 _ rfl; rwa [Nat.mul_one, Nat.add_zero] at hq, l0, g0⟩

/-! #### struct type 45 -/
structure S45 where
  f0 : Int
  f1 : Int
  f2 : ByteArray
  f3 : (List Bool)
def z45 : S45 := ⟨(0 : Int), (0 : Int), (⟨#[]⟩ : ByteArray), ([] : List Bool)⟩
def k45 : Kd S45 := Kd.iso (Kd.pair (Kd.int .i64) (Kd.pair (Kd.int .i64) (Kd.pair Kd.string (Kd.slice 4 Kd.bool)))) (fun x : S45 => (x.f0, x.f1, x.f2, x.f3))
theorem k45_open {w : World} {x : S45} {cs : List Value} (h : k45.K w x cs) : ∃ A3 c3, cs = [.int .i64 x.f0, .int .i64 x.f1, .string x.f2, .slice A3 x.f3.length c3] ∧ x.f3.length ≤ c3 ∧ Kd.bool.C w A3 x.f3.length x.f3 := by
  obtain ⟨_, _, rfl, rfl, ⟨_, _, rfl, rfl, ⟨_, _, rfl, rfl, ⟨A3, c3, rfl, l3, g3⟩⟩⟩⟩ := h
  exact ⟨A3, c3, rfl, l3, g3⟩
theorem k45_openM {w : World} {base : Nat} {ok : Nat → Prop} {x : S45} {cs : List Value} (h : k45.M w base ok x cs) : ∃ v3, cs = [.int .i64 x.f0, .int .i64 x.f1, .string x.f2, v3] ∧ Kd.bool.R 4 w base ok v3 x.f3 := by
  obtain ⟨_, _, rfl, rfl, ⟨_, _, rfl, rfl, ⟨_, _, rfl, rfl, ⟨v3, rfl, g3⟩⟩⟩⟩ := h
  exact ⟨v3, rfl, g3⟩
theorem k45_mk (w : World) (x : S45) {A3 : Option Addr} {c3 : Nat} (l3 : x.f3.length ≤ c3) (g3 : Kd.bool.C w A3 x.f3.length x.f3) : k45.K w x [.int .i64 x.f0, .int .i64 x.f1, .string x.f2, .slice A3 x.f3.length c3] := ⟨[.int .i64 x.f0], [.int .i64 x.f1, .string x.f2, .slice A3 x.f3.length c3], rfl, rfl, ⟨[.int .i64 x.f1], [.string x.f2, .slice A3 x.f3.length c3], rfl, rfl, ⟨[.string x.f2], [.slice A3 x.f3.length c3], rfl, rfl, ⟨A3, c3, rfl, l3, g3⟩⟩⟩⟩
theorem k45_mkM (w : World) (base : Nat) (ok : Nat → Prop) (x : S45) {v3 : Value} (g3 : Kd.bool.R 4 w base ok v3 x.f3) : k45.M w base ok x [.int .i64 x.f0, .int .i64 x.f1, .string x.f2, v3] := ⟨[.int .i64 x.f0], [.int .i64 x.f1, .string x.f2, v3], rfl, rfl, ⟨[.int .i64 x.f1], [.string x.f2, v3], rfl, rfl, ⟨[.string x.f2], [v3], rfl, rfl, ⟨v3, rfl, g3⟩⟩⟩⟩
def rd_T45 (xs : List S45) (i : Int) : S45 := xs.getD i.toNat z45
theorem at_T45 {w : World} {A : Option Addr} {n : Nat} {xs : List S45} (h : Kd.C k45 w A n xs) (i : Int) (h0 : 0 ≤ i) (h1 : i < n) : ∃ ad A3 c3, A = some ad ∧ w.cell? (ad.add (i.toNat * 4)) = some (.int .i64 (rd_T45 xs i).f0) ∧ w.cell? ⟨(ad.add (i.toNat * 4)).block, (ad.add (i.toNat * 4)).off + 1, none⟩ = some (.int .i64 (rd_T45 xs i).f1) ∧ w.cell? ⟨(ad.add (i.toNat * 4)).block, (ad.add (i.toNat * 4)).off + 2, none⟩ = some (.string (rd_T45 xs i).f2) ∧ w.cell? ⟨(ad.add (i.toNat * 4)).block, (ad.add (i.toNat * 4)).off + 3, none⟩ = some (.slice A3 (rd_T45 xs i).f3.length c3) ∧ (rd_T45 xs i).f3.length ≤ c3 ∧ Kd.bool.C w A3 (rd_T45 xs i).f3.length (rd_T45 xs i).f3 := by
  obtain ⟨ad, c, e, _, hK, hc0⟩ := Kd.C_get h z45 i h0 h1
  have hc : ∀ j u, c[j]? = some u → w.cell? (ad.add (i.toNat * 4 + j)) = some u := hc0
  obtain ⟨A3, c3, rfl, l3, g3⟩ := k45_open hK
  exact ⟨ad, A3, c3, e, hc 0 _ rfl, by rw [← add_field _ _ 1 (by omega)]; exact hc 1 _ rfl, by rw [← add_field _ _ 2 (by omega)]; exact hc 2 _ rfl, by rw [← add_field _ _ 3 (by omega)]; exact hc 3 _ rfl, l3, g3⟩

end Go.Proofs.Ytaocplhijfkicaa.PD
/- Short forms for the printed walks: what is known of a world is known of the world a few own steps later. -/
namespace Go.Proofs.YtaocplhijfkicaaW.PrintWords
open Go.RowKit
theorem rU {α : Type} {d : Kd α} {e base : Nat} {ok : Nat → Prop} {w0 w1 : World} {v : Value} {xs : List α} (h0 : Aside0 (d.R e w0 base ok v xs))
    (h : d.R e w0 base ok v xs → d.R e w1 base ok v xs := by intro h_; (with_reducible repeat (first | apply Kd.R_alloc | apply Kd.R_drewN | apply Kd.R_drew)); exact h_) : d.R e w1 base ok v xs := h h0.out
theorem bU {w w0 w1 : World} (h0 : Aside0 (Below w.heap.size w w0))
    (h : Below w.heap.size w w0 → Below w.heap.size w w1 := by intro h_; repeat (first | (with_reducible first | exact h_ | apply below_alloc | apply pw_below_drewN | apply below_drew1 | refine below_set ?_ (Aside0.out (by with_reducible assumption))) | exact h_)) : Below w.heap.size w w1 := h h0.out
theorem kU {g : Nat} {w0 w1 : World} {o : Obj} (h0 : Aside0 (w0.heap[g]? = some o))
    (h : w0.heap[g]? = some o → w1.heap[g]? = some o := by intro h_; (with_reducible repeat (first | refine blk_drewN ?_ _ | refine blk_drew ?_ | refine blk_alloc ?_ _)); exact h_) : w1.heap[g]? = some o := h h0.out
theorem kF {g : Nat} {t : TypeId} {cs : Array Value} {w0 w1 : World} (h0 : Aside0 (w0.heap[g]? = some (.cells cs t (0, 0))))
    (h : w0.heap[g]? = some (.cells cs t (0, 0)) → w1.heap[g]? = some (.cells cs t (0, 0)) := by intro h_; repeat (first | with_reducible exact h_ | with_reducible refine blk_drewN ?_ _ | with_reducible refine blk_drew ?_ | with_reducible refine blk_alloc ?_ _ | refine blk_far ?_ (Aside0.out (by with_reducible assumption)) _ | exact h_)) : w1.heap[g]? = some (.cells cs t (0, 0)) := h h0.out
theorem kP {g : Nat} {t : TypeId} {cs cs' : Array Value} {w0 w1 : World} (h0 : Aside0 (w0.heap[g]? = some (.cells cs t (0, 0))))
    (h : w0.heap[g]? = some (.cells cs t (0, 0)) → w1.heap[g]? = some (.cells cs' t (0, 0)) := by intro h_; (repeat (first | with_reducible exact h_ | with_reducible refine blk_drewN ?_ _ | with_reducible refine blk_drew ?_ | with_reducible refine blk_alloc ?_ _ | refine blk_far ?_ (Aside0.out (by with_reducible assumption)) _ | (refine blk_far (cs := ?_) ?_ (Aside0.out (by with_reducible assumption)) _; rotate_left) | apply blk_put)) <;> rfl) : w1.heap[g]? = some (.cells cs' t (0, 0)) := h h0.out
theorem cU {α : Type} {d : Kd α} {A : Option Addr} {n : Nat} {w0 w1 : World} {xs : List α} (h0 : d.C w0 A n xs)
    (h : d.C w0 A n xs → d.C w1 A n xs := by intro h_; repeat (first | exact h_ | (with_reducible refine Kd.C_alloc ?_ _) | (with_reducible refine Kd.C_drewN ?_ _) | (with_reducible refine Kd.C_drew ?_))) : d.C w1 A n xs := h h0
theorem eqU {α : Type} {a b : α} (h : a = b := by first | rfl | (simp [errW_none, errW_some] <;> rfl) | (simp [*, errW_none, errW_some] <;> rfl)) : a = b := h
theorem far_r {A : Nat → Prop} {g : Nat} : ∀ k, A k ∧ k ≠ g → k ≠ g := fun _ h => h.2
theorem far_l {A : Nat → Prop} {g g' : Nat} : ∀ k, (A k ∧ k ≠ g) ∧ k ≠ g' → k ≠ g := fun _ h => h.1.2
theorem rF1 {α : Type} {d : Kd α} {e base : Nat} {ok : Nat → Prop} {w0 w1 : World} {v : Value} {xs : List α} {g t : Nat} {cells : Array Value} (h0 : Aside0 (d.R e w0 base ok v xs)) (hb : Aside0 (w0.heap[g]? = some (.cells cells t (0, 0))))
    (ht : ∀ q, q ∈ e :: d.E → q ≠ t := by decide)
    (h : d.R e w0 base (fun k => ok k ∧ k ≠ g) v xs → d.R e w1 base (fun k => ok k ∧ k ≠ g) v xs := by intro h_; repeat (first | with_reducible exact h_ | with_reducible apply Kd.R_alloc | with_reducible apply Kd.R_drewN | with_reducible apply Kd.R_drew | refine Kd.R_far ?_ (fun _ hk => hk.2) _)) : d.R e w1 base ok v xs :=
  Kd.R_mono (h (Kd.R_types h0.out hb.out ht)) (fun _ h_ => h_.1)
theorem rF2 {α : Type} {d : Kd α} {e base : Nat} {ok : Nat → Prop} {w0 w1 : World} {v : Value} {xs : List α} {g t g' t' : Nat} {cells cells' : Array Value} (h0 : Aside0 (d.R e w0 base ok v xs)) (hb : Aside0 (w0.heap[g]? = some (.cells cells t (0, 0)))) (hb' : Aside0 (w0.heap[g']? = some (.cells cells' t' (0, 0))))
    (ht : ∀ q, q ∈ e :: d.E → q ≠ t := by decide) (ht' : ∀ q, q ∈ e :: d.E → q ≠ t' := by decide)
    (h : d.R e w0 base (fun k => (ok k ∧ k ≠ g) ∧ k ≠ g') v xs → d.R e w1 base (fun k => (ok k ∧ k ≠ g) ∧ k ≠ g') v xs := by intro h_; repeat (first | with_reducible exact h_ | with_reducible apply Kd.R_alloc | with_reducible apply Kd.R_drewN | with_reducible apply Kd.R_drew | (with_reducible refine Kd.R_far ?_ far_r _) | (with_reducible refine Kd.R_far ?_ far_l _))) : d.R e w1 base ok v xs :=
  Kd.R_mono (h (Kd.R_types (Kd.R_types h0.out hb.out ht) hb'.out ht')) (fun _ h_ => h_.1.1)
theorem k1 {w : World} {g : Nat} {t : TypeId} {a : Value} (h : Aside0 (w.heap[g]? = some (.cells #[a] t (0, 0)))) : w.cell? ⟨g, 0, none⟩ = some a ∧ w.frozen? ⟨g, 0, none⟩ = false := ⟨blk_cell h.out 0, blk_frozen h.out 0⟩
theorem k2 {w : World} {g : Nat} {t : TypeId} {a b : Value} (h : Aside0 (w.heap[g]? = some (.cells #[a, b] t (0, 0)))) : w.cell? ⟨g, 0, none⟩ = some a ∧ w.cell? ⟨g, 1, none⟩ = some b ∧ w.frozen? ⟨g, 0, none⟩ = false ∧ w.frozen? ⟨g, 1, none⟩ = false := ⟨blk_cell h.out 0, blk_cell h.out 1, blk_frozen h.out 0, blk_frozen h.out 1⟩
theorem k4 {w : World} {g : Nat} {t : TypeId} {a b c d : Value} (h : Aside0 (w.heap[g]? = some (.cells #[a, b, c, d] t (0, 0)))) : w.cell? ⟨g, 0, none⟩ = some a ∧ w.cell? ⟨g, 1, none⟩ = some b ∧ w.cell? ⟨g, 2, none⟩ = some c ∧ w.cell? ⟨g, 3, none⟩ = some d ∧
    w.frozen? ⟨g, 0, none⟩ = false ∧ w.frozen? ⟨g, 1, none⟩ = false ∧ w.frozen? ⟨g, 2, none⟩ = false ∧ w.frozen? ⟨g, 3, none⟩ = false := ⟨blk_cell h.out 0, blk_cell h.out 1, blk_cell h.out 2, blk_cell h.out 3, blk_frozen h.out 0, blk_frozen h.out 1, blk_frozen h.out 2, blk_frozen h.out 3⟩
end Go.Proofs.YtaocplhijfkicaaW.PrintWords
/- Laws on calls of function values, and on boxes, over the print's words. -/
namespace Go.Proofs.Ytaocplhijfkicaa.PD
open Go.RowKit Go.Proofs.YtaocplhijfkicaaW.PrintWords Go.Proofs.YtaocplhijfkicaaW.PrintLast Go.Proofs.YtaocplhijfkicaaW.PrintMore
section
variable {P : Program} {ops : Array Oper} {rest : List Oper} {o : Oper} {a : Act} {Q : Exit → Act → World → Prop} {W : World}
/-- The operation is a call of the function value in this slot. -/
theorem gate_tmp {t : Tmp} {xs : Array Operand} {ts : Array TypeId} (_ho : o.op = .call { callee := .value (.tmp t), args := xs, argTypes := ts }) (h : wpList P ops Q (o :: rest) a W) : wpList P ops Q (o :: rest) a W := h
/-- A call of a function value in a plain region: what it has captured stands behind the arguments. -/
theorem goesF_ {rest : List Oper} {oi : Oper} {a : Act} {w : World} (N : Option Tmp) (hd : oi.dst = N) (hg : oi.guard = none) {f : FuncId} {fn : Func} {xs : Array Operand} {ts : Array TypeId} (hf : P.funcs[f]? = some fn) (hname : (fn.name == "runtime.NumGoroutine") = false) (hb : fn.body.isSome = true) (args : Array Value)
    {c : Operand} {lb : Array Value} (hop : oi.op = .call { callee := .value c, args := xs, argTypes := ts }) (hc : a.eval c = .func (.func f) #[] lb) (hargs : xs.map a.eval ++ lb = args)
    (h : Calls P f args w fun e w' => ∃ v, e = .returned v ∧ wpList P ops Q rest (a.put N v) w') : wpList P ops Q (oi :: rest) a w := by
  refine wpList_plain hg fun K hK => ?_
  have he := enters_ hf hname hb args w
  have hrun : (execOp a.eval oi).run P w = .ok (.enter f args) w := by
    unfold execOp
    simp [hop, resolve, Deferred.ofValue, invoke, hc, hargs, he]
  unfold Oper.wp
  rw [hrun, Oper.upon_enter]
  refine h.mono fun e w'' hh => ?_
  obtain ⟨v, rfl, hk⟩ := hh
  subst hd
  exact hK _ _ hk
end
theorem kept_blk {w W : World} {S : Nat → Prop} {g : Nat} {o : Obj} (hk : Kept w W S) (hs : ¬ S g) (hb : w.heap[g]? = some o) : W.heap[g]? = some o :=
  (hk.2 g (Array.getElem?_eq_some_iff.1 hb).1 hs).trans hb
/-- A box that holds a device of n blocks. -/
def BoxD (w : World) (g : Nat) (n : Int) : Prop := ∃ (A0 : Option Addr) (c0 : Nat) (l0 : List ByteArray) (A1 : Option Addr) (c1 : Nat) (l1 : List S40) (a2 : Int) (a3 : Bool),
  n = l0.length ∧ w.heap[g]? = some (.cells #[.slice A0 l0.length c0, .slice A1 l1.length c1, .int .i64 a2, .bool a3] 25 (0, 0)) ∧ Kd.C Kd.string w A0 l0.length l0 ∧ l0.length ≤ c0 ∧ Kd.C k40 w A1 l1.length l1 ∧ l1.length ≤ c1
theorem BoxD.later {w W : World} {g : Nat} {n : Int} (h : BoxD w g n) (hb : Below w.heap.size w W) : BoxD W g n := by
  obtain ⟨A0, c0, l0, A1, c1, l1, a2, a3, hn, hh, h0, hc0, h1, hc1⟩ := h
  exact ⟨A0, c0, l0, A1, c1, l1, a2, a3, hn, (hb.block g (Array.getElem?_eq_some_iff.1 hh).1).trans hh, Kd.C_below h0 hb, hc0, Kd.C_below h1 hb, hc1⟩
end Go.Proofs.Ytaocplhijfkicaa.PD
-- written by a program of this work (mk.sh, over the kit's print; stubs are proved by hand)
namespace Go.Proofs.Ytaocplhijfkicaa.PD
open Go.RowKit Go.Proofs.YtaocplhijfkicaaW.PrintWords Go.Proofs.YtaocplhijfkicaaW.PrintLast Go.Proofs.YtaocplhijfkicaaW.PrintMore
attribute [local go_sem] isSome_setCell max2_int min2_int max_two min_two   -- for this text's walks alone
set_option linter.unusedVariables false
set_option linter.unusedSimpArgs false

/-! ### dev_Flush_1: function 29 -/
def dev_Flush_1.f (a0 : Int) : Option (Bool) := some true
set_option maxHeartbeats 8000000 in
set_option maxRecDepth 100000 in
theorem dev_Flush_1.calls (a0 : Int) (r : Bool) (w : World) (h : dev_Flush_1.f a0 = some r) :
  Calls Try.prog 29 #[.int .i64 a0] w fun e w' => e = .returned (.bool r) ∧ Drawn0 w w' := by
 have H : (some true) = some r := h
 clear h
 obtain rfl := Option.some.inj H
 go_enter Try.func29, Try.ntmps29
 go_wp2
 go_ret
 exact ⟨by first | rfl | (simp; done) | (simp [*]; done), by repeat (first | exact Drawn0.refl _ | apply Drawn0.step)⟩

/-- THE ONE PURE STATEMENT of dev_Flush_1: yours. -/
def dev_Flush_1.Pure : Prop := ∀ (a0 : Int), (Lit.int .i64 a0).wf = true → dev_Flush_1.f a0 = some true
theorem dev_Flush_1.walk (P : dev_Flush_1.Pure) (a0 : Int) (w : World) (w0 : (Lit.int .i64 a0).wf = true) :
  Calls Try.prog 29 #[.int .i64 a0] w fun e w' => e = .returned (.bool true) ∧ Below w.heap.size w w' := by
 have h := P a0 w0
 refine (dev_Flush_1.calls a0 true w h).mono ?_
 rintro e w' ⟨rfl, hd⟩
 exact ⟨rfl, hd.below⟩

end Go.Proofs.Ytaocplhijfkicaa.PD
-- written by a program of this work (mk.sh, over the kit's print; stubs are proved by hand)
namespace Go.Proofs.Ytaocplhijfkicaa.PD
open Go.RowKit Go.Proofs.YtaocplhijfkicaaW.PrintWords Go.Proofs.YtaocplhijfkicaaW.PrintLast Go.Proofs.YtaocplhijfkicaaW.PrintMore
attribute [local go_sem] isSome_setCell max2_int min2_int max_two min_two   -- for this text's walks alone
set_option linter.unusedVariables false
set_option linter.unusedSimpArgs false

/-! ### dev_doneF: function 28 -/
def dev_doneF.l0 : Nat → List (S40) → Int → Int → List ByteArray → List (S40) → Int → Bool → Option (List ByteArray × (List (S40)) × Int × Bool)
 | 0, _, _, _, _, _, _, _ => none
 | k + 1, x8, x9, x10, x123000, x123001, x123002, x123003 => if x10 < x9 then (if 0 ≤ x10 then (if x10 < (x8.length : Int) then ((dev_Flush_1.f x10).bind fun t126 => (if t126 = true then (if 0 ≤ ((rd_T40 x8 x10).f0) then (if ((rd_T40 x8 x10).f0) < (x123000.length : Int) then (dev_doneF.l0 k x8 x9 (wrap64 (x10 + 1)) (x123000.set (((rd_T40 x8 x10).f0) : Int).toNat ((rd_T40 x8 x10).f1)) x123001 x123002 x123003) else (none)) else (none)) else (dev_doneF.l0 k x8 x9 (wrap64 (x10 + 1)) x123000 x123001 x123002 x123003))) else (none)) else (none)) else (some (x123000, ([] : List (S40)), x123002, x123003))
def dev_doneF.f (k : Nat) (l0_0 : List ByteArray) (l0_1 : List (S40)) (a0_2 : Int) (a0_3 : Bool) : Option (List ByteArray × (List (S40)) × Int × Bool) := dev_doneF.l0 k l0_1 (l0_1.length : Int) 0 l0_0 l0_1 a0_2 a0_3
theorem dev_doneF.mono_l : ∀ k, (∀ y0 y1 y2 y3 y4 y5 y6, LeO (dev_doneF.l0 k y0 y1 y2 y3 y4 y5 y6) (dev_doneF.l0 (k + 1) y0 y1 y2 y3 y4 y5 y6))
 | 0 => fun _ _ _ _ _ _ _ r h => by simp [dev_doneF.l0] at h
 | k + 1 => by
  have ih0 := dev_doneF.mono_l k
  ·intro y0 y1 y2 y3 y4 y5 y6
   unfold dev_doneF.l0
   repeat' first
   | (with_reducible exact ih0 _ _ _ _ _ _ _)
   | (with_reducible exact LeO.refl _)
   | (with_reducible exact LeO.none _)
   | (with_reducible refine LeO.ite ?_ ?_)
   | (with_reducible refine LeO.bind ?_ (fun _ => ?_))
   | exact ih0 _ _ _ _ _ _ _
   | exact LeO.none _
   | refine LeO.ite ?_ ?_
   | refine LeO.bind ?_ (fun _ => ?_)
theorem dev_doneF.mono : ∀ a0 a1 a2 a3 k, LeO (dev_doneF.f k a0 a1 a2 a3) (dev_doneF.f (k + 1) a0 a1 a2 a3) := by
 intro a0 a1 a2 a3 k
 have ih0 := dev_doneF.mono_l k
 unfold dev_doneF.f
 repeat' first
   | (with_reducible exact ih0 _ _ _ _ _ _ _)
   | (with_reducible exact LeO.refl _)
   | (with_reducible exact LeO.none _)
   | (with_reducible refine LeO.ite ?_ ?_)
   | (with_reducible refine LeO.bind ?_ (fun _ => ?_))
   | exact ih0 _ _ _ _ _ _ _
   | exact LeO.none _
   | refine LeO.ite ?_ ?_
   | refine LeO.bind ?_ (fun _ => ?_)
set_option maxHeartbeats 8000000 in
set_option maxRecDepth 100000 in
theorem dev_doneF.calls (k : Nat) (P0_0_ : Nat → Prop) (u9000_ : Value) (l0_0 : List ByteArray) (A0_1 : Option Addr) (c0_1 : Nat) (l0_1 : List (S40)) (a0_2 : Int) (a0_3 : Bool) (r1 : List ByteArray) (r2 : List (S40)) (r3 : Int) (r4 : Bool) (w0 w : World) (hB : Below w0.heap.size w0 w) (ho0_0 : Kd.R Kd.string 9 w w0.heap.size P0_0_ u9000_ l0_0) (hr0_1 : ∀ W_, Kept w W_ (fun k_ => P0_0_ k_) → Kd.C k40 W_ A0_1 l0_1.length l0_1) (hc0_1 : l0_1.length ≤ c0_1) (h : dev_doneF.f k l0_0 l0_1 a0_2 a0_3 = some (r1, r2, r3, r4)) :
  Calls Try.prog 28 #[.agg #[u9000_, .slice A0_1 l0_1.length c0_1, .int .i64 a0_2, .bool a0_3], .func (.func 29) #[] #[]] w fun e w' => ∃ v0_ v1_ : Value, e = .returned (.agg #[v0_, v1_, .int .i64 r3, .bool r4]) ∧ Kd.R Kd.string 9 w' w0.heap.size (fun k_ => (P0_0_ k_ ∨ w.heap.size ≤ k_)) v0_ r1 ∧ Kd.R k40 40 w' w0.heap.size (fun k_ => (P0_0_ k_ ∨ w.heap.size ≤ k_)) v1_ r2 ∧ Below w0.heap.size w0 w' ∧ Kept w w' (fun k_ => P0_0_ k_) := by
 have hu25 := Try.underlying25
 have hu40 := Try.underlying40
 have HO0_0 := Aside0.mk (show Kd.R Kd.string 9 w w0.heap.size (fun k_ => (P0_0_ k_ ∨ w.heap.size ≤ k_)) u9000_ l0_0 from Kd.R_mono ho0_0 (fun k_ hk => (.inl hk)))
 have HR0_1 := Aside0.mk hr0_1
 have HC0_1 := Aside0.mk hc0_1
 clear hr0_1 hc0_1
 have HK := Aside0.mk (Kept.refl w (fun k_ => P0_0_ k_))
 have HW0 := Aside0.mk hB.size
 have HB := Aside0.mk hB
 clear hB
 have H : (dev_doneF.l0 k l0_1 (l0_1.length : Int) 0 l0_0 l0_1 a0_2 a0_3) = some (r1, r2, r3, r4) := h
 clear h
 have H' := Aside0.mk H
 clear H
 obtain ⟨Ao2, co2, eo2⟩ := Kd.R_slice HO0_0.out
 subst eo2
 go_enter Try.func28, Try.ntmps28
 go_wp2_with (first | ((with_reducible refine gate_dst (N := 2) rfl ?_); refine box_event ?hg (N := 2) ?hd (cs := #[.slice Ao2 l0_0.length co2, .slice A0_1 l0_1.length c0_1, .int .i64 a0_2, .bool a0_3]) (t := 25) ?hr ?_; (case hd => rfl); (case hg => rfl); (case hr => first | (go_simp; done) | (go_simp; rfl)); intro gb122 hg w3 hbox hb; have n0_ := Aside0.mk (Kd.R_below (rU HO0_0) hb); have n1_ := Aside0.mk (Kept.below (S := (fun k_ => P0_0_ k_)) (by repeat (first | (with_reducible first | exact HK.out | apply Kept.alloc | apply Kept.drewN | apply Kept.drew) | exact HK.out)) hb); have n2_ := Aside0.mk (below_step (bU HB) hb); have n3_ := Aside0.mk (hbox); have n4_ := Aside0.mk ((by rw [hg]; exact (by first | exact HK.out.1 | exact (show Kept w _ (fun k_ => P0_0_ k_) from by repeat (first | (with_reducible first | exact HK.out | apply Kept.alloc | apply Kept.drewN | apply Kept.drew) | exact HK.out)).1) : w.heap.size ≤ gb122)); have n5_ := Aside0.mk ((by rw [hg]; exact (below_size (bU HB)) : w0.heap.size ≤ gb122)); clear HO0_0; clear HK; clear HB; have HO0_0 := n0_; have HK := n1_; have HB := n2_; have BK122 := n3_; have GW122 := n4_; have GE122 := n5_; clear n0_ n1_ n2_ n3_ n4_ n5_; clear hb hbox hg) | ((with_reducible refine gate_dst (N := 4) rfl ?_); refine box_event ?hg (N := 4) ?hd (cs := #[.slice none 0 0, .slice none 0 0, .int .i64 0, .bool false]) (t := 25) ?hr ?_; (case hd => rfl); (case hg => rfl); (case hr => first | (go_simp; done) | (go_simp; rfl)); intro gb123 hg w4 hbox hb; have n0_ := Aside0.mk (Kd.R_below (rU HO0_0) hb); have n1_ := Aside0.mk (blk_below (kU BK122) hb); have n2_ := Aside0.mk (Kept.below (S := (fun k_ => P0_0_ k_)) (by repeat (first | (with_reducible first | exact HK.out | apply Kept.alloc | apply Kept.drewN | apply Kept.drew | refine Kept.setCell ?_ (.inr GW122.out) _) | exact HK.out)) hb); have n3_ := Aside0.mk (below_step (bU HB) hb); have n4_ := Aside0.mk (hbox); have n5_ := Aside0.mk ((by rw [hg]; exact (by first | exact HK.out.1 | exact (show Kept w _ (fun k_ => P0_0_ k_) from by repeat (first | (with_reducible first | exact HK.out | apply Kept.alloc | apply Kept.drewN | apply Kept.drew | refine Kept.setCell ?_ (.inr GW122.out) _) | exact HK.out)).1) : w.heap.size ≤ gb123)); have n6_ := Aside0.mk ((by rw [hg]; exact (below_size (bU HB)) : w0.heap.size ≤ gb123)); have n7_ := Aside0.mk ((by rw [hg]; exact Nat.ne_of_lt (blk_lt (g := gb122) (o := .cells #[.slice Ao2 l0_0.length co2, .slice A0_1 l0_1.length c0_1, .int .i64 a0_2, .bool a0_3] 25 (0, 0)) (kU BK122)) : gb122 ≠ gb123)); have n8_ := Aside0.mk ((by rw [hg]; exact Nat.ne_of_gt (blk_lt (g := gb122) (o := .cells #[.slice Ao2 l0_0.length co2, .slice A0_1 l0_1.length c0_1, .int .i64 a0_2, .bool a0_3] 25 (0, 0)) (kU BK122)) : gb123 ≠ gb122)); clear HO0_0; clear BK122; clear HK; clear HB; have HO0_0 := n0_; have BK122 := n1_; have HK := n2_; have HB := n3_; have BK123 := n4_; have GW123 := n5_; have GE123 := n6_; have NB122_123 := n7_; have NB123_122 := n8_; clear n0_ n1_ n2_ n3_ n4_ n5_ n6_ n7_ n8_; clear hb hbox hg; have hnb5 := NB122_123.out; have hnc5 := NB123_122.out; have hcz6_0 : w4.cell? ⟨gb122, 0, none⟩ = some (.slice Ao2 l0_0.length co2) := (blk_cell BK122.out 0).trans rfl; have hcz6_1 : w4.cell? ⟨gb122, 1, none⟩ = some (.slice A0_1 l0_1.length c0_1) := (blk_cell BK122.out 1).trans rfl; have hcz6_2 : w4.cell? ⟨gb122, 2, none⟩ = some (.int .i64 a0_2) := (blk_cell BK122.out 2).trans rfl; have hcz6_3 : w4.cell? ⟨gb122, 3, none⟩ = some (.bool a0_3) := (blk_cell BK122.out 3).trans rfl; have hfz6_0 := blk_frozen BK122.out 0; have hfz6_1 := blk_frozen BK122.out 1; have hfz6_2 := blk_frozen BK122.out 2; have hfz6_3 := blk_frozen BK122.out 3))
 go_loopg [10] k (fun kq v10 w' => ∃ (x10_1 : Int) (x123000_1 : List ByteArray) (u123000 : Value), v10 = .int .i64 x10_1 ∧ Aside0 (dev_doneF.l0 kq l0_1 (l0_1.length : Int) x10_1 x123000_1 l0_1 a0_2 a0_3 = some (r1, r2, r3, r4)) ∧ Aside0 (kq ≤ k) ∧ Aside0 (Kd.R Kd.string 9 w' w0.heap.size (fun k_ => (P0_0_ k_ ∨ w.heap.size ≤ k_)) u123000 x123000_1) ∧ Aside0 (w'.heap[gb122]? = some (.cells #[u123000, (.slice A0_1 l0_1.length c0_1), .int .i64 a0_2, .bool a0_3] 25 (0, 0))) ∧ Aside0 (w'.heap[gb123]? = some (.cells #[(.slice none 0 0), (.slice none 0 0), .int .i64 0, .bool false] 25 (0, 0))) ∧ Aside0 (Kept w w' (fun k_ => P0_0_ k_)) ∧ Aside0 (Below w0.heap.size w0 w'))
 case atStart => exact ⟨(0), (l0_0), (.slice Ao2 l0_0.length co2), (by first | rfl | (simp; done) | (simp [*]; done)), H', ⟨Nat.le_refl _⟩, ⟨rU HO0_0⟩, ⟨kU BK122⟩, ⟨kU BK123⟩, ⟨by repeat (first | (with_reducible first | exact HK.out | apply Kept.alloc | apply Kept.drewN | apply Kept.drew | refine Kept.setCell ?_ (.inr GW122.out) _ | refine Kept.setCell ?_ (.inr GW123.out) _) | exact HK.out)⟩, ⟨bU HB⟩⟩
 case round =>
  clear H'
  try clear c2
  try clear p2
  try clear c5
  try clear hcz6_0 hcz6_1 hcz6_2 hcz6_3 hfz6_0 hfz6_1 hfz6_2 hfz6_3
  obtain ⟨x10_1, x123000_1, u123000, rfl, HA, HK1, HO_123000, BK122, BK123, HK, HB⟩ := hrel
  cases gk with
  | zero => exact absurd HA.out (by simp [dev_doneF.l0])
  | succ k1 =>
   have H := HA.out
   clear HA
   simp only [dev_doneF.l0] at H
   by_cases c7 : x10_1 < (l0_1.length : Int)
   ·rw [if_pos c7] at H
    have c7b0 : decide (x10_1 < (l0_1.length : Int)) = true := decide_eq_true c7
    clear c7
    by_cases c8 : 0 ≤ x10_1
    ·rw [if_pos c8] at H
     have c8b0 : decide (0 ≤ x10_1) = true := decide_eq_true c8
     clear c8
     by_cases c9 : x10_1 < (l0_1.length : Int)
     ·rw [if_pos c9] at H
      have c9b0 : decide (x10_1 < (l0_1.length : Int)) = true := decide_eq_true c9
      clear c9
      replace H := Option.bind_eq_some_iff.mp H
      obtain ⟨t126, A100, H⟩ := H
      replace H : (if t126 = true then (if 0 ≤ ((rd_T40 l0_1 x10_1).f0) then (if ((rd_T40 l0_1 x10_1).f0) < (x123000_1.length : Int) then (dev_doneF.l0 k1 l0_1 (l0_1.length : Int) (wrap64 (x10_1 + 1)) (x123000_1.set (((rd_T40 l0_1 x10_1).f0) : Int).toNat ((rd_T40 l0_1 x10_1).f1)) l0_1 a0_2 a0_3) else (none)) else (none)) else (dev_doneF.l0 k1 l0_1 (l0_1.length : Int) (wrap64 (x10_1 + 1)) x123000_1 l0_1 a0_2 a0_3)) = some (r1, r2, r3, r4) := H
      have A10 := Aside0.mk A100
      clear A100
      by_cases c11 : t126 = true
      ·subst c11
       have H1 : (if 0 ≤ ((rd_T40 l0_1 x10_1).f0) then (if ((rd_T40 l0_1 x10_1).f0) < (x123000_1.length : Int) then (dev_doneF.l0 k1 l0_1 (l0_1.length : Int) (wrap64 (x10_1 + 1)) (x123000_1.set (((rd_T40 l0_1 x10_1).f0) : Int).toNat ((rd_T40 l0_1 x10_1).f1)) l0_1 a0_2 a0_3) else (none)) else (none)) = some (r1, r2, r3, r4) := by rw [if_pos rfl] at H; exact H
       clear H
       have H := H1
       clear H1
       by_cases c12 : 0 ≤ ((rd_T40 l0_1 x10_1).f0)
       ·rw [if_pos c12] at H
        have c12b0 : decide (0 ≤ ((rd_T40 l0_1 x10_1).f0)) = true := decide_eq_true c12
        clear c12
        by_cases c13 : ((rd_T40 l0_1 x10_1).f0) < (x123000_1.length : Int)
        ·rw [if_pos c13] at H
         have c13b0 : decide (((rd_T40 l0_1 x10_1).f0) < (x123000_1.length : Int)) = true := decide_eq_true c13
         clear c13
         obtain ⟨y127, hy127⟩ : ∃ y_ : List ByteArray, y_ = (x123000_1.set (((rd_T40 l0_1 x10_1).f0) : Int).toNat ((rd_T40 l0_1 x10_1).f1)) := ⟨_, rfl⟩
         replace H : (dev_doneF.l0 k1 l0_1 (l0_1.length : Int) (wrap64 (x10_1 + 1)) y127 l0_1 a0_2 a0_3) = some (r1, r2, r3, r4) := by first | (rw [hy127]; with_reducible exact H) | (have H2_ := (Option.bind_some _ _).symm.trans H; rw [hy127]; with_reducible exact H2_) | (have H2_ := (Option.bind_some _ _).symm.trans H; with_reducible exact H2_) | with_reducible exact H | (rw [hy127]; exact H) | exact H
         have Ny127 := Aside0.mk hy127
         clear hy127
         have H' := Aside0.mk H
         clear H
         have p124 : 0 ≤ (x10_1 : Int) := of_decide_eq_true (by first | (with_reducible assumption) | assumption)
         have q124 : x10_1 < (l0_1.length : Int) := of_decide_eq_true (by first | (with_reducible assumption) | assumption)
         obtain ⟨ad124, e124, hx124_0, hx124_1⟩ := at_T40 (Kd.C_kept_now HR0_1.out HK.out) x10_1 p124 q124
         cases e124
         replace p124 := eq_true p124
         replace q124 := eq_true q124
         go_wp2_with (first | ((with_reducible refine gate_dst (N := 6) rfl ?_); refine box_event ?hg (N := 6) ?hd (cs := #[.int .i64 0, .string (⟨#[]⟩ : ByteArray)]) (t := 40) ?hr ?_; (case hd => rfl); (case hg => rfl); (case hr => first | (go_simp; done) | (go_simp; rfl)); intro gb125 hg w15 hbox hb; have n0_ := Aside0.mk (Kd.R_below (rU HO_123000) hb); have n1_ := Aside0.mk (blk_below (kU BK122) hb); have n2_ := Aside0.mk (blk_below (kU BK123) hb); have n3_ := Aside0.mk (Kept.below (S := (fun k_ => P0_0_ k_)) (by repeat (first | (with_reducible first | exact HK.out | apply Kept.alloc | apply Kept.drewN | apply Kept.drew | refine Kept.setCell ?_ (.inr GW122.out) _ | refine Kept.setCell ?_ (.inr GW123.out) _) | exact HK.out)) hb); have n4_ := Aside0.mk (below_step (bU HB) hb); have n5_ := Aside0.mk (hbox); have n6_ := Aside0.mk ((by rw [hg]; exact (by first | exact HK.out.1 | exact (show Kept w _ (fun k_ => P0_0_ k_) from by repeat (first | (with_reducible first | exact HK.out | apply Kept.alloc | apply Kept.drewN | apply Kept.drew | refine Kept.setCell ?_ (.inr GW122.out) _ | refine Kept.setCell ?_ (.inr GW123.out) _) | exact HK.out)).1) : w.heap.size ≤ gb125)); have n7_ := Aside0.mk ((by rw [hg]; exact (below_size (bU HB)) : w0.heap.size ≤ gb125)); have n8_ := Aside0.mk ((by rw [hg]; exact Nat.ne_of_lt (blk_lt (g := gb122) (o := .cells #[u123000, .slice (some ad124) l0_1.length c0_1, .int .i64 a0_2, .bool a0_3] 25 (0, 0)) (kU BK122)) : gb122 ≠ gb125)); have n9_ := Aside0.mk ((by rw [hg]; exact Nat.ne_of_gt (blk_lt (g := gb122) (o := .cells #[u123000, .slice (some ad124) l0_1.length c0_1, .int .i64 a0_2, .bool a0_3] 25 (0, 0)) (kU BK122)) : gb125 ≠ gb122)); have n10_ := Aside0.mk ((by rw [hg]; exact Nat.ne_of_lt (blk_lt (g := gb123) (o := .cells #[.slice none 0 0, .slice none 0 0, .int .i64 0, .bool false] 25 (0, 0)) (kU BK123)) : gb123 ≠ gb125)); have n11_ := Aside0.mk ((by rw [hg]; exact Nat.ne_of_gt (blk_lt (g := gb123) (o := .cells #[.slice none 0 0, .slice none 0 0, .int .i64 0, .bool false] 25 (0, 0)) (kU BK123)) : gb125 ≠ gb123)); clear HO_123000; clear BK122; clear BK123; clear HK; clear HB; have HO_123000 := n0_; have BK122 := n1_; have BK123 := n2_; have HK := n3_; have HB := n4_; have BK125 := n5_; have GW125 := n6_; have GE125 := n7_; have NB122_125 := n8_; have NB125_122 := n9_; have NB123_125 := n10_; have NB125_123 := n11_; clear n0_ n1_ n2_ n3_ n4_ n5_ n6_ n7_ n8_ n9_ n10_ n11_; clear hb hbox hg; have hnb16 := NB125_122.out; have hnc16 := NB122_125.out; have hnb17 := NB125_123.out; have hnc17 := NB123_125.out; have hcz18_0 : w15.cell? ⟨gb125, 0, none⟩ = some (.int .i64 0) := (blk_cell BK125.out 0).trans rfl; have hcz18_1 : w15.cell? ⟨gb125, 1, none⟩ = some (.string (⟨#[]⟩ : ByteArray)) := (blk_cell BK125.out 1).trans rfl; have hfz18_0 := blk_frozen BK125.out 0; have hfz18_1 := blk_frozen BK125.out 1) | ((with_reducible refine gate_store (t := 40) (p := 6) rfl ?_); refine store_event (t := 40) (p := 6) (v := ?vo_w19) (w1 := ((w15.setCell ⟨gb125, 0, none⟩ (.int .i64 ((rd_T40 l0_1 x10_1).f0))).setCell ⟨gb125, 1, none⟩ (.string ((rd_T40 l0_1 x10_1).f1)))) ?hg ?ho ?hn ?hr ?_; (case ho => rfl); (case hg => rfl); (case hn => rfl); (case hr => first | (go_simp; done) | (go_simp; rfl)); intro w19 hw; have n0_ : Aside0 (Kd.R Kd.string 9 w19 w0.heap.size (fun k_ => (P0_0_ k_ ∨ w.heap.size ≤ k_)) u123000 x123000_1) := ⟨(by rw [hw]; exact (by (with_reducible repeat (first | apply Kd.R_alloc | apply Kd.R_drewN | apply Kd.R_drew)); exact Kd.R_mono (Kd.R_far (p := ⟨gb125, 1, none⟩) (Kd.R_far (p := ⟨gb125, 0, none⟩) (Kd.R_types HO_123000.out BK125.out (by decide)) (fun _ hk => hk.2) (.int .i64 ((rd_T40 l0_1 x10_1).f0))) (fun _ hk => hk.2) (.string ((rd_T40 l0_1 x10_1).f1))) (fun _ hk => hk.1)))⟩; have n1_ : Aside0 (w19.heap[gb122]? = some (.cells #[u123000, .slice (some ad124) l0_1.length c0_1, .int .i64 a0_2, .bool a0_3] 25 (0, 0))) := ⟨(by rw [hw]; exact (kF BK122))⟩; have n2_ : Aside0 (w19.heap[gb123]? = some (.cells #[.slice none 0 0, .slice none 0 0, .int .i64 0, .bool false] 25 (0, 0))) := ⟨(by rw [hw]; exact (kF BK123))⟩; have n3_ : Aside0 (w19.heap[gb125]? = some (.cells #[.int .i64 ((rd_T40 l0_1 x10_1).f0), .string ((rd_T40 l0_1 x10_1).f1)] 40 (0, 0))) := ⟨(by rw [hw]; exact (kP BK125))⟩; have n4_ : Aside0 (Kept w w19 (fun k_ => P0_0_ k_)) := ⟨(by rw [hw]; exact (by repeat (first | (with_reducible first | exact HK.out | apply Kept.alloc | apply Kept.drewN | apply Kept.drew | refine Kept.setCell ?_ (.inr GW122.out) _ | refine Kept.setCell ?_ (.inr GW123.out) _ | refine Kept.setCell ?_ (.inr GW125.out) _) | exact HK.out)))⟩; have n5_ : Aside0 (Below w0.heap.size w0 w19) := ⟨(by rw [hw]; exact (bU HB))⟩; clear hw; clear HO_123000; clear BK122; clear BK123; clear BK125; clear HK; clear HB; have HO_123000 := n0_; have BK122 := n1_; have BK123 := n2_; have BK125 := n3_; have HK := n4_; have HB := n5_; clear n0_ n1_ n2_ n3_ n4_ n5_) | ((with_reducible refine gate_tmp (t := 15) rfl ?_); refine goesF_ (some 17) rfl rfl Try.func29 (by kernel_rfl) rfl #[.int .i64 x10_1] rfl rfl (by (try simp only [List.map_toArray, List.map_cons, List.map_nil]); first | done | rfl | (simp only [List.length_drop, List.length_take]; rfl)) ?_; (with_reducible refine (dev_Flush_1.calls x10_1 true _ A10.out).mono ?_); rintro e w' ⟨rfl, ⟨nd, rfl⟩⟩; refine ⟨_, rfl, ?_⟩; (try (rw [drewN_self w19]; generalize hq_ : World.drewN w19 _ = w19; have n0_ : Aside0 (Kd.R Kd.string 9 w19 w0.heap.size (fun k_ => (P0_0_ k_ ∨ w.heap.size ≤ k_)) u123000 x123000_1) := ⟨by rw [← hq_]; exact (rU HO_123000)⟩; have n1_ : Aside0 (w19.heap[gb122]? = some (.cells #[u123000, .slice (some ad124) l0_1.length c0_1, .int .i64 a0_2, .bool a0_3] 25 (0, 0))) := ⟨by rw [← hq_]; exact (kU BK122)⟩; have n2_ : Aside0 (w19.heap[gb123]? = some (.cells #[.slice none 0 0, .slice none 0 0, .int .i64 0, .bool false] 25 (0, 0))) := ⟨by rw [← hq_]; exact (kU BK123)⟩; have n3_ : Aside0 (w19.heap[gb125]? = some (.cells #[.int .i64 ((rd_T40 l0_1 x10_1).f0), .string ((rd_T40 l0_1 x10_1).f1)] 40 (0, 0))) := ⟨by rw [← hq_]; exact (kU BK125)⟩; have n4_ : Aside0 (Kept w w19 (fun k_ => P0_0_ k_)) := ⟨by rw [← hq_]; exact (by repeat (first | (with_reducible first | exact HK.out | apply Kept.alloc | apply Kept.drewN | apply Kept.drew | refine Kept.setCell ?_ (.inr GW122.out) _ | refine Kept.setCell ?_ (.inr GW123.out) _ | refine Kept.setCell ?_ (.inr GW125.out) _) | exact HK.out))⟩; have n5_ : Aside0 (Below w0.heap.size w0 w19) := ⟨by rw [← hq_]; exact (bU HB)⟩; clear HO_123000 BK122 BK123 BK125 HK HB hq_; have HO_123000 := n0_; have BK122 := n1_; have BK123 := n2_; have BK125 := n3_; have HK := n4_; have HB := n5_; clear n0_ n1_ n2_ n3_ n4_ n5_)); have hnb20 := NB122_123.out; have hnc20 := NB123_122.out; have hcz21_0 : w19.cell? ⟨gb122, 0, none⟩ = some (u123000) := (blk_cell BK122.out 0).trans rfl; have hcz21_1 : w19.cell? ⟨gb122, 1, none⟩ = some (.slice (some ad124) l0_1.length c0_1) := (blk_cell BK122.out 1).trans rfl; have hcz21_2 : w19.cell? ⟨gb122, 2, none⟩ = some (.int .i64 a0_2) := (blk_cell BK122.out 2).trans rfl; have hcz21_3 : w19.cell? ⟨gb122, 3, none⟩ = some (.bool a0_3) := (blk_cell BK122.out 3).trans rfl; have hfz21_0 := blk_frozen BK122.out 0; have hfz21_1 := blk_frozen BK122.out 1; have hfz21_2 := blk_frozen BK122.out 2; have hfz21_3 := blk_frozen BK122.out 3; have hcz22_0 : w19.cell? ⟨gb125, 0, none⟩ = some (.int .i64 ((rd_T40 l0_1 x10_1).f0)) := (blk_cell BK125.out 0).trans rfl; have hcz22_1 : w19.cell? ⟨gb125, 1, none⟩ = some (.string ((rd_T40 l0_1 x10_1).f1)) := (blk_cell BK125.out 1).trans rfl; have hfz22_0 := blk_frozen BK125.out 0; have hfz22_1 := blk_frozen BK125.out 1; have p14 : 0 ≤ (((rd_T40 l0_1 x10_1).f0) : Int) := of_decide_eq_true (by first | (with_reducible assumption) | assumption); have q14 : (((rd_T40 l0_1 x10_1).f0) : Int) < ((x123000_1.length : Int) : Int) := of_decide_eq_true (by first | (with_reducible assumption) | assumption); obtain ⟨go14, co14, eo14, gb14, gl14, cl14, HG14⟩ := Kd.R_form HO_123000.out (by omega); (first | cases eo14 | (injection eo14 with ea_ en_ ec_; (first | subst ea_ | (injection ea_ with ea_; subst ea_)); subst ec_; clear en_)); have GB14 := Aside0.mk gb14; have GG14 := Aside0.mk HG14; clear gb14 gl14 HG14; have HMgo14 := Aside0.mk (show (P0_0_ go14 ∨ w.heap.size ≤ go14) from (HO_123000.out.1 _ rfl)); obtain ⟨hx14_0, hf14_0⟩ := Kd.R_celln (⟨#[]⟩ : ByteArray) HO_123000.out (((rd_T40 l0_1 x10_1).f0) : Int) p14 q14; replace p14 := eq_true p14; replace q14 := eq_true q14; obtain ⟨hy23_, hz23_⟩ := Kd.R_celln (⟨#[]⟩ : ByteArray) HO_123000.out (((rd_T40 l0_1 x10_1).f0) : Int) (of_decide_eq_true (by first | (with_reducible assumption) | assumption)) (of_decide_eq_true (by first | (with_reducible assumption) | assumption)); have HP23 := Kd.R_putg HO_123000.out (((rd_T40 l0_1 x10_1).f0) : Int) ((rd_T40 l0_1 x10_1).f1)) | ((with_reducible refine gate_store (t := 9) (p := 24) rfl ?_); refine store_event (t := 9) (p := 24) (v := ?vo_w24) (w1 := (w19.setCell ⟨go14, (((rd_T40 l0_1 x10_1).f0) : Int).toNat, none⟩ (.string ((rd_T40 l0_1 x10_1).f1)))) ?hg ?ho ?hn ?hr ?_; (case ho => rfl); (case hg => rfl); (case hn => rfl); (case hr => first | (go_simp; done) | (go_simp; rfl)); intro w24 hw; have hg : w19.grownBy w24 (some go14) := (by rw [hw]; exact HP23.2); have hp_ : Kd.R Kd.string 9 w24 w0.heap.size (fun k_ => (P0_0_ k_ ∨ w.heap.size ≤ k_)) (.slice (some ⟨go14, 0, none⟩) x123000_1.length co14) y127 := (by rw [hw, Ny127.out]; exact HP23.1); clear HP23; have n0_ := Aside0.mk (hp_); have n1_ := Aside0.mk (blk_grown (g := gb122) (o := .cells #[.slice (some ⟨go14, 0, none⟩) x123000_1.length co14, .slice (some ad124) l0_1.length c0_1, .int .i64 a0_2, .bool a0_3] 25 (0, 0)) (kU BK122) hg (Kd.R_ne HO_123000.out BK122.out (by decide))); have n2_ := Aside0.mk (blk_grown (g := gb123) (o := .cells #[.slice none 0 0, .slice none 0 0, .int .i64 0, .bool false] 25 (0, 0)) (kU BK123) hg (Kd.R_ne HO_123000.out BK123.out (by decide))); have n3_ := Aside0.mk (blk_grown (g := gb125) (o := .cells #[.int .i64 ((rd_T40 l0_1 x10_1).f0), .string ((rd_T40 l0_1 x10_1).f1)] 40 (0, 0)) (kU BK125) hg (Kd.R_ne HO_123000.out BK125.out (by decide))); have n4_ := Aside0.mk ((by rw [hw]; exact below_set (HB.out) GB14.out : Below w0.heap.size w0 w24)); have n5_ := Aside0.mk (Kept.of_grown (S := (fun k_ => P0_0_ k_)) hg (by repeat (first | (with_reducible first | exact HK.out | apply Kept.alloc | apply Kept.drewN | apply Kept.drew | refine Kept.setCell ?_ (.inr GW122.out) _ | refine Kept.setCell ?_ (.inr GW123.out) _ | refine Kept.setCell ?_ (.inr GW125.out) _) | exact HK.out)) (fun k_ e_ => (HO_123000.out.1 k_ e_))); clear HO_123000; clear BK122; clear BK123; clear BK125; clear HB; clear HK; have HO_123000 := n0_; have BK122 := n1_; have BK123 := n2_; have BK125 := n3_; have HB := n4_; have HK := n5_; clear n0_ n1_ n2_ n3_ n4_ n5_; clear hg hw hp_))
         go_roundg k1
         case measure => have := HK1.out; omega
         case rel => exact ⟨(wrap64 (x10_1 + 1)), (y127), (.slice (some ⟨go14, 0, none⟩) x123000_1.length co14), (by first | rfl | (simp; done) | (simp [*]; done)), H', ⟨by have := HK1.out; omega⟩, ⟨rU HO_123000⟩, ⟨kU BK122⟩, ⟨kU BK123⟩, ⟨by repeat (first | (with_reducible first | exact HK.out | apply Kept.alloc | apply Kept.drewN | apply Kept.drew | refine Kept.setCell ?_ (.inr GW122.out) _ | refine Kept.setCell ?_ (.inr GW123.out) _ | refine Kept.setCell ?_ (.inr GW125.out) _) | exact HK.out)⟩, ⟨bU HB⟩⟩
        ·rw [if_neg c13] at H
         exact absurd H (by simp)
       ·rw [if_neg c12] at H
        exact absurd H (by simp)
      ·replace c11 := Bool.eq_false_iff.mpr c11
       subst c11
       have H1 : (dev_doneF.l0 k1 l0_1 (l0_1.length : Int) (wrap64 (x10_1 + 1)) x123000_1 l0_1 a0_2 a0_3) = some (r1, r2, r3, r4) := by rw [if_neg (show ¬ (false = true) by decide)] at H; exact H
       clear H
       have H := H1
       clear H1
       have H' := Aside0.mk H
       clear H
       have p124 : 0 ≤ (x10_1 : Int) := of_decide_eq_true (by first | (with_reducible assumption) | assumption)
       have q124 : x10_1 < (l0_1.length : Int) := of_decide_eq_true (by first | (with_reducible assumption) | assumption)
       obtain ⟨ad124, e124, hx124_0, hx124_1⟩ := at_T40 (Kd.C_kept_now HR0_1.out HK.out) x10_1 p124 q124
       cases e124
       replace p124 := eq_true p124
       replace q124 := eq_true q124
       go_wp2_with (first | ((with_reducible refine gate_dst (N := 6) rfl ?_); refine box_event ?hg (N := 6) ?hd (cs := #[.int .i64 0, .string (⟨#[]⟩ : ByteArray)]) (t := 40) ?hr ?_; (case hd => rfl); (case hg => rfl); (case hr => first | (go_simp; done) | (go_simp; rfl)); intro gb125 hg w25 hbox hb; have n0_ := Aside0.mk (Kd.R_below (rU HO_123000) hb); have n1_ := Aside0.mk (blk_below (kU BK122) hb); have n2_ := Aside0.mk (blk_below (kU BK123) hb); have n3_ := Aside0.mk (Kept.below (S := (fun k_ => P0_0_ k_)) (by repeat (first | (with_reducible first | exact HK.out | apply Kept.alloc | apply Kept.drewN | apply Kept.drew | refine Kept.setCell ?_ (.inr GW122.out) _ | refine Kept.setCell ?_ (.inr GW123.out) _) | exact HK.out)) hb); have n4_ := Aside0.mk (below_step (bU HB) hb); have n5_ := Aside0.mk (hbox); have n6_ := Aside0.mk ((by rw [hg]; exact (by first | exact HK.out.1 | exact (show Kept w _ (fun k_ => P0_0_ k_) from by repeat (first | (with_reducible first | exact HK.out | apply Kept.alloc | apply Kept.drewN | apply Kept.drew | refine Kept.setCell ?_ (.inr GW122.out) _ | refine Kept.setCell ?_ (.inr GW123.out) _) | exact HK.out)).1) : w.heap.size ≤ gb125)); have n7_ := Aside0.mk ((by rw [hg]; exact (below_size (bU HB)) : w0.heap.size ≤ gb125)); have n8_ := Aside0.mk ((by rw [hg]; exact Nat.ne_of_lt (blk_lt (g := gb122) (o := .cells #[u123000, .slice (some ad124) l0_1.length c0_1, .int .i64 a0_2, .bool a0_3] 25 (0, 0)) (kU BK122)) : gb122 ≠ gb125)); have n9_ := Aside0.mk ((by rw [hg]; exact Nat.ne_of_gt (blk_lt (g := gb122) (o := .cells #[u123000, .slice (some ad124) l0_1.length c0_1, .int .i64 a0_2, .bool a0_3] 25 (0, 0)) (kU BK122)) : gb125 ≠ gb122)); have n10_ := Aside0.mk ((by rw [hg]; exact Nat.ne_of_lt (blk_lt (g := gb123) (o := .cells #[.slice none 0 0, .slice none 0 0, .int .i64 0, .bool false] 25 (0, 0)) (kU BK123)) : gb123 ≠ gb125)); have n11_ := Aside0.mk ((by rw [hg]; exact Nat.ne_of_gt (blk_lt (g := gb123) (o := .cells #[.slice none 0 0, .slice none 0 0, .int .i64 0, .bool false] 25 (0, 0)) (kU BK123)) : gb125 ≠ gb123)); clear HO_123000; clear BK122; clear BK123; clear HK; clear HB; have HO_123000 := n0_; have BK122 := n1_; have BK123 := n2_; have HK := n3_; have HB := n4_; have BK125 := n5_; have GW125 := n6_; have GE125 := n7_; have NB122_125 := n8_; have NB125_122 := n9_; have NB123_125 := n10_; have NB125_123 := n11_; clear n0_ n1_ n2_ n3_ n4_ n5_ n6_ n7_ n8_ n9_ n10_ n11_; clear hb hbox hg; have hnb26 := NB125_122.out; have hnc26 := NB122_125.out; have hnb27 := NB125_123.out; have hnc27 := NB123_125.out; have hcz28_0 : w25.cell? ⟨gb125, 0, none⟩ = some (.int .i64 0) := (blk_cell BK125.out 0).trans rfl; have hcz28_1 : w25.cell? ⟨gb125, 1, none⟩ = some (.string (⟨#[]⟩ : ByteArray)) := (blk_cell BK125.out 1).trans rfl; have hfz28_0 := blk_frozen BK125.out 0; have hfz28_1 := blk_frozen BK125.out 1) | ((with_reducible refine gate_tmp (t := 15) rfl ?_); refine goesF_ (some 17) rfl rfl Try.func29 (by kernel_rfl) rfl #[.int .i64 x10_1] rfl rfl (by (try simp only [List.map_toArray, List.map_cons, List.map_nil]); first | done | rfl | (simp only [List.length_drop, List.length_take]; rfl)) ?_; (with_reducible refine (dev_Flush_1.calls x10_1 false _ A10.out).mono ?_); rintro e w' ⟨rfl, ⟨nd, rfl⟩⟩; refine ⟨_, rfl, ?_⟩))
       go_roundg k1
       case measure => have := HK1.out; omega
       case rel => exact ⟨(wrap64 (x10_1 + 1)), (x123000_1), (u123000), (by first | rfl | (simp; done) | (simp [*]; done)), H', ⟨by have := HK1.out; omega⟩, ⟨by (with_reducible repeat (first | apply Kd.R_alloc | apply Kd.R_drewN | apply Kd.R_drew)); exact Kd.R_mono (Kd.R_far (p := ⟨gb125, 1, none⟩) (Kd.R_far (p := ⟨gb125, 0, none⟩) (Kd.R_types HO_123000.out BK125.out (by decide)) (fun _ hk => hk.2) (.int .i64 ((rd_T40 l0_1 x10_1).f0))) (fun _ hk => hk.2) (.string ((rd_T40 l0_1 x10_1).f1))) (fun _ hk => hk.1)⟩, ⟨kF BK122⟩, ⟨kF BK123⟩, ⟨by repeat (first | (with_reducible first | exact HK.out | apply Kept.alloc | apply Kept.drewN | apply Kept.drew | refine Kept.setCell ?_ (.inr GW122.out) _ | refine Kept.setCell ?_ (.inr GW123.out) _ | refine Kept.setCell ?_ (.inr GW125.out) _) | exact HK.out)⟩, ⟨bU HB⟩⟩
     ·rw [if_neg c9] at H
      exact absurd H (by simp)
    ·rw [if_neg c8] at H
     exact absurd H (by simp)
   ·rw [if_neg c7] at H
    have c7b0 : decide (x10_1 < (l0_1.length : Int)) = false := decide_eq_false c7
    clear c7
    simp only [Option.some.injEq, Prod.mk.injEq] at H
    obtain ⟨rfl, rfl, rfl, rfl⟩ := H
    have hnb29 := NB122_123.out
    have hnc29 := NB123_122.out
    obtain ⟨hcz30_0, hcz30_1, hcz30_2, hcz30_3, hfz30_0, hfz30_1, hfz30_2, hfz30_3⟩ := k4 BK122
    obtain ⟨Ao31, co31, eo31⟩ := Kd.R_slice HO_123000.out
    subst eo31
    obtain ⟨hcz32_0, hcz32_1, hcz32_2, hcz32_3, hfz32_0, hfz32_1, hfz32_2, hfz32_3⟩ := k4 BK123
    go_wp2
    refine bodyPost_ret (results_cell_row rfl _ _ gb123 25 #[.slice Ao31 x123000_1.length co31, .slice none 0 0, .int .i64 a0_2, .bool a0_3] (0, 0) _ rfl (kP BK123) Try.underlying25 rfl (by kernel_rfl)) rfl ?_
    exact ⟨_, _, eqU, by (with_reducible repeat (first | apply Kd.R_alloc | apply Kd.R_drewN | apply Kd.R_drew)); exact Kd.R_mono (Kd.R_far (p := ⟨gb123, 3, none⟩) (Kd.R_far (p := ⟨gb123, 2, none⟩) (Kd.R_far (p := ⟨gb123, 1, none⟩) (Kd.R_far (p := ⟨gb123, 0, none⟩) (Kd.R_far (p := ⟨gb122, 1, none⟩) (Kd.R_types (Kd.R_types HO_123000.out BK122.out (by decide)) BK123.out (by decide)) (fun _ hk => hk.1.2) (.slice none 0 0)) (fun _ hk => hk.2) (.slice Ao31 x123000_1.length co31)) (fun _ hk => hk.2) (.slice none 0 0)) (fun _ hk => hk.2) (.int .i64 a0_2)) (fun _ hk => hk.2) (.bool a0_3)) (fun _ hk => hk.1.1), by first | exact Kd.R_nil _ _ _ _ _ | exact Kd.N_nil _ _ _ _ _ | exact Kd.V_nil _ _ _ _ _ | exact Kd.Q_nil _ _ _ _ _ | exact Kd.S_nil _ _ _ _ _, bU HB, by repeat (first | (with_reducible first | exact HK.out | apply Kept.alloc | apply Kept.drewN | apply Kept.drew | refine Kept.setCell ?_ (.inr GW122.out) _ | refine Kept.setCell ?_ (.inr GW123.out) _) | exact HK.out)⟩

end Go.Proofs.Ytaocplhijfkicaa.PD
/-
  DERIVED: THE SHELF's CONTRACTS AT THIS DUMP, IN PLAIN WORDS (tools/lay-plain.mjs out of 'YtaocplhijfkicaaRepeatS.lean', which tools/lay-shelf.mjs wrote): THE SAME DECLARATIONS UNDER THE SAME NAMES: 'import', 'namespace', 'open', 'def', 'theorem' AND NOTHING ELSE: no command of the shelf's: FOR A HAND-IN. Each laying: the table of numbers ('.._ren') and one theorem, a field a fact of the dump's own or the kernel's comparison; each contract: ONE APPLICATION.
-/
namespace Go.Proofs
open Go.Shelf
def Try.lays212_ren : Go.Shelf.Ren := ⟨fun | 212 => 50 | 263 => 57 | 264 => 58 | n => n, fun | 46 => 78 | 51 => 92 | 146 => 93 | 53 => 95 | 148 => 96 | n => n, fun | n => n⟩
theorem Try.lays212 : Go.Proofs.Lays.n212 Try.prog Try.lays212_ren := {
  mixed := by kernel_rfl
  f212 := Try.func50.trans (congrArg some (by kernel_rfl))
  f263 := Try.func57.trans (congrArg some (by kernel_rfl))
  f264 := Try.func58.trans (congrArg some (by kernel_rfl))
  t46 := Try.underlying78
  a46 := Try.isAgg78
  z46 := Try.sizeOf78
  v46 := Try.zeroValue78
  t51 := Try.underlying92
  a51 := Try.isAgg92
  z51 := Try.sizeOf92
  v51 := Try.zeroValue92
  t53 := Try.underlying95
  a53 := Try.isAgg95
  z53 := Try.sizeOf95
  v53 := Try.zeroValue95
  t146 := Try.underlying93
  a146 := Try.isAgg93
  z146 := Try.sizeOf93
  v146 := Try.zeroValue93
  t148 := Try.underlying96
  a148 := Try.isAgg96
  z148 := Try.sizeOf96
  v148 := Try.zeroValue96 }
open Go.RowKit Go.Lib in
/-- math/bits.Mul: "Mul returns the full-width product of x and y": on a machine of 64 bits: Mul64's. (LAID: no walk: one application.) -/
theorem Try.bits_Mul (x y : Nat) (hx : x < 18446744073709551616) (hy : y < 18446744073709551616) (w : World) :
    Calls Try.prog 50 #[.int .u64 x, .int .u64 y] w fun e w' => e = .returned (.tuple #[.int .u64 ((x * y / 18446744073709551616 : Nat) : Int), .int .u64 ((x * y % 18446744073709551616 : Nat) : Int)]) ∧ w' = w := Any.bits_Mul Try.lays212 x y hx hy w
def Try.lays105_ren : Go.Shelf.Ren := ⟨fun | 105 => 39 | 212 => 50 | 99 => 51 | 165 => 52 | 166 => 53 | 170 => 54 | 169 => 55 | 263 => 57 | 264 => 58 | 206 => 59 | 240 => 60 | 241 => 61 | 276 => 62 | 277 => 63 | n => n, fun | 9 => 9 | 3 => 3 | 4 => 4 | 20 => 20 | 0 => 0 | 46 => 78 | 109 => 79 | 5 => 5 | 72 => 84 | 76 => 88 | 51 => 92 | 146 => 93 | 53 => 95 | 148 => 96 | 70 => 82 | 37 => 68 | 75 => 87 | 127 => 98 | 164 => 99 | 80 => 65 | n => n, fun | n => n⟩
theorem Try.lays105 : Go.Proofs.Lays.n105 Try.prog Try.lays105_ren := {
  mixed := by kernel_rfl
  f99 := Try.func51.trans (congrArg some (by kernel_rfl))
  f105 := Try.func39.trans (congrArg some (by kernel_rfl))
  f165 := Try.func52.trans (congrArg some (by kernel_rfl))
  f166 := Try.func53.trans (congrArg some (by kernel_rfl))
  f169 := Try.func55.trans (congrArg some (by kernel_rfl))
  f170 := Try.func54.trans (congrArg some (by kernel_rfl))
  f206 := Try.func59.trans (congrArg some (by kernel_rfl))
  f212 := Try.func50.trans (congrArg some (by kernel_rfl))
  f240 := Try.func60.trans (congrArg some (by kernel_rfl))
  f241 := Try.func61.trans (congrArg some (by kernel_rfl))
  f263 := Try.func57.trans (congrArg some (by kernel_rfl))
  f264 := Try.func58.trans (congrArg some (by kernel_rfl))
  f276 := Try.func62.trans (congrArg some (by kernel_rfl))
  f277 := Try.func63.trans (congrArg some (by kernel_rfl))
  t0 := Try.underlying0
  a0 := Try.isAgg0
  z0 := Try.sizeOf0
  v0 := Try.zeroValue0
  t3 := Try.underlying3
  a3 := Try.isAgg3
  z3 := Try.sizeOf3
  v3 := Try.zeroValue3
  t4 := Try.underlying4
  a4 := Try.isAgg4
  z4 := Try.sizeOf4
  v4 := Try.zeroValue4
  t5 := Try.underlying5
  a5 := Try.isAgg5
  z5 := Try.sizeOf5
  v5 := Try.zeroValue5
  t9 := Try.underlying9
  a9 := Try.isAgg9
  z9 := Try.sizeOf9
  v9 := Try.zeroValue9
  t20 := Try.underlying20
  a20 := Try.isAgg20
  z20 := Try.sizeOf20
  v20 := Try.zeroValue20
  t37 := Try.underlying68
  a37 := Try.isAgg68
  z37 := Try.sizeOf68
  v37 := Try.zeroValue68
  t46 := Try.underlying78
  a46 := Try.isAgg78
  z46 := Try.sizeOf78
  v46 := Try.zeroValue78
  t51 := Try.underlying92
  a51 := Try.isAgg92
  z51 := Try.sizeOf92
  v51 := Try.zeroValue92
  t53 := Try.underlying95
  a53 := Try.isAgg95
  z53 := Try.sizeOf95
  v53 := Try.zeroValue95
  t70 := Try.underlying82
  a70 := Try.isAgg82
  z70 := Try.sizeOf82
  v70 := Try.zeroValue82
  t72 := Try.underlying84
  a72 := Try.isAgg84
  z72 := Try.sizeOf84
  v72 := Try.zeroValue84
  t75 := Try.underlying87
  a75 := Try.isAgg87
  z75 := Try.sizeOf87
  v75 := Try.zeroValue87
  t76 := Try.underlying88
  a76 := Try.isAgg88
  z76 := Try.sizeOf88
  v76 := Try.zeroValue88
  t109 := Try.underlying79
  a109 := Try.isAgg79
  z109 := Try.sizeOf79
  v109 := Try.zeroValue79
  t127 := Try.underlying98
  a127 := Try.isAgg98
  z127 := Try.sizeOf98
  v127 := Try.zeroValue98
  t146 := Try.underlying93
  a146 := Try.isAgg93
  z146 := Try.sizeOf93
  v146 := Try.zeroValue93
  t148 := Try.underlying96
  a148 := Try.isAgg96
  z148 := Try.sizeOf96
  v148 := Try.zeroValue96
  t164 := Try.underlying99
  a164 := Try.isAgg99
  z164 := Try.sizeOf99
  v164 := Try.zeroValue99 }
theorem Try.Builder_Extra_105 : Builder.Extra Try.prog Try.lays105_ren := {
  sizeBuilder := by kernel_rfl
  liesBuilder := by kernel_rfl
  t5 := Try.underlying5
  a5 := Try.isAgg5
  z5 := Try.sizeOf5
  v5 := Try.zeroValue5
  infoByte := by kernel_rfl
  cellsByte := by kernel_rfl
  sizeByte := by kernel_rfl
  neB5 := by decide }
open Go.RowKit Go.Lib in
/-- **strings.Repeat: count ≥ 0, the result within one allocation: count copies of s.** (LAID: no walk: one application.) -/
theorem Try.strings_Repeat (s : ByteArray) (c : Nat) (w : World) (hc : c ≤ 9223372036854775807) (hlen : s.size * c ≤ 140737488355328) :
    Calls Try.prog 39 #[.string s, .int .i64 c] w fun e w' => e = .returned (.string ⟨(Lib.repeatL s.data.toList c).toArray⟩) ∧ Below w.heap.size w w' := Any.strings_Repeat Try.lays105 Try.Builder_Extra_105 s c w hc hlen
end Go.Proofs
/- Contracts of slices.Clone (two instances), slices.Repeat, strings.Repeat and the law's filled: stubs of the print. -/
namespace Go.Proofs.Ytaocplhijfkicaa.PD
open Go.RowKit Go.Proofs.YtaocplhijfkicaaW.PrintWords Go.Proofs.YtaocplhijfkicaaW.PrintLast Go.Proofs.YtaocplhijfkicaaW.PrintMore
attribute [local go_sem] max2_int min2_int max_two min_two
set_option linter.unusedVariables false
set_option linter.unusedSimpArgs false
def slices_Clone_string_string.f (l0 : List ByteArray) : Option (List ByteArray) := if l0.length < 8796093022208 then some l0 else none
set_option maxHeartbeats 8000000 in
set_option maxRecDepth 100000 in
theorem slices_Clone_string_string.calls (A0 : Option Addr) (c0 : Nat) (l0 : List ByteArray) (r : List ByteArray) (w : World) (hr0 : Kd.C Kd.string w A0 l0.length l0) (hc0 : l0.length ≤ c0) (h : slices_Clone_string_string.f l0 = some r) :
    Calls Try.prog 44 #[.slice A0 l0.length c0] w fun e w' => ∃ v0_ : Value, e = .returned (v0_) ∧ Kd.R Kd.string 9 w' w.heap.size (fun _ => True) v0_ r ∧ Below w.heap.size w w' := by
  unfold slices_Clone_string_string.f at h
  split at h
  case isFalse => cases h
  rename_i hlim
  obtain rfl := Option.some.inj h
  clear h
  rcases A0 with _ | ad
  · have hl : l0 = [] := by
      rcases Nat.eq_zero_or_pos l0.length with h0 | h0
      · exact List.eq_nil_of_length_eq_zero h0
      · obtain ⟨ad, h', _⟩ := hr0.2.2 h0
        cases h'
    subst hl
    have hq : ∀ (W : World) (n c n' c' : Nat), (binOp .eql 22 (.slice none n c) (.slice none n' c')).run Try.prog W = .ok (.bool true) W := fun W n c n' c' => Lib.run_eql_slice_nil W _ _ none n c n' c' Try.underlying22
    go_enter Try.func44, Try.ntmps44
    go_wp2
    go_ret
    exact ⟨_, rfl, Kd.R_nil _ _ _ _ _, Below.refl _ _⟩
  have hq : ∀ (W : World) (n c n' c' : Nat), (binOp .eql 22 (.slice (some ad) n c) (.slice none n' c')).run Try.prog W = .ok (.bool false) W := fun W n c n' c' => Lib.run_eql_slice_nil W _ _ (some ad) n c n' c' Try.underlying22
  have HR0 := Aside0.mk hr0
  have HC0 := Aside0.mk hc0
  clear hr0 hc0
  have HB := Aside0.mk (Below.refl w.heap.size w)
  obtain ⟨y105, hy105⟩ : ∃ y_ : List ByteArray, y_ = (([] : List ByteArray)) := ⟨_, rfl⟩
  have Ny105 := Aside0.mk hy105
  clear hy105
  have c2 : y105.length + l0.length < 8796093022208 := by rw [Ny105.out]; simpa using hlim
  clear hlim
  have LMc2 := Aside0.mk c2
  clear c2
  obtain ⟨y108, hy108⟩ : ∃ y_ : List ByteArray, y_ = (y105 ++ l0) := ⟨_, rfl⟩
  have Ny108 := Aside0.mk hy108
  clear hy108
  have hyl : y108 = l0 := by rw [Ny108.out, Ny105.out]; rfl
  have HYL := Aside0.mk hyl
  clear hyl
  go_enter Try.func44, Try.ntmps44
  go_wp2_with (first | ((with_reducible refine gate_dst (N := 5) rfl ?_); refine Kd.R_lit Kd.string _ 9 ?hg (N := 5) ?hd (xs := ([] : List ByteArray)) (inner := []) (ok := fun _ => True) (okp := fun _ => True) ?hr ?hp (fun _ hk => hk) trivial (Below.refl _ _) (Nat.le_refl _) (by simp) ?_; (case hd => rfl); (case hg => rfl); (case hr => first | (go_simp; done) | (go_simp; rfl)); (case hp => exact (Reps.none _ _)); intro v106 w3 ho4 hb hg_ hnew_; clear hg_ hnew_; (first | rw [← Ny105.out] at ho4 | (simp only [Int.reduceToNat] at ho4; rw [← Ny105.out] at ho4)); have n0_ := Aside0.mk (Kd.R_lower ho4 (below_size (by repeat (first | (with_reducible first | exact HB.out | apply below_alloc | apply pw_below_drewN | apply below_drew1) | exact HB.out)))); have n1_ := Aside0.mk (below_step (by repeat (first | (with_reducible first | exact HB.out | apply below_alloc | apply pw_below_drewN | apply below_drew1) | exact HB.out)) hb); clear HB; have HO107 := n0_; have HB := n1_; clear n0_ n1_; clear hb ho4) | ((with_reducible refine gate_builtin (b := .append) (xs := #[.tmp 5, .tmp 6]) rfl ?_); at_builtin; refine Kd.R_append_rows Kd.string (w0 := w) w.heap.size rfl (.tmp 5) (.tmp 6) 22 9 (.string ⟨#[]⟩) 16 rfl Try.underlying22 info9 rfl (by decide) (by omega) v106 y105 l0 _ _ _ (fun _ => True) (fun _ => False) rfl rfl ?aO ?aR (fun _ _ h => h) (fun _ h => h.elim) ?aF ?aB ?aS ?aL ?_; (case aR => repeat (first | exact (Kd.C_below HR0.out HB.out) | (with_reducible refine Kd.C_alloc ?_ _) | (with_reducible refine Kd.C_drewN ?_ _) | (with_reducible refine Kd.C_drew ?_))); (case aB => exact (by repeat (first | (with_reducible first | exact HB.out | apply below_alloc | apply pw_below_drewN | apply below_drew1) | exact HB.out))); (case aF => exact (fun _ _ => trivial)); (case aO => exact (by (with_reducible repeat (first | apply Kd.R_alloc | apply Kd.R_drewN | apply Kd.R_drew)); exact HO107.out)); (case aS => exact (below_size (by repeat (first | (with_reducible first | exact HB.out | apply below_alloc | apply pw_below_drewN | apply below_drew1) | exact HB.out)))); (case aL => have := LMc2.out; omega); intro v109 w5 ho hb hg hat; rw [← Ny108.out] at ho; have n0_ := Aside0.mk (hb); have n1_ := Aside0.mk (ho); clear HB; clear HO107; have HB := n0_; have HO110 := n1_; clear n0_ n1_; clear ho hb hg hat))
  have HO110x := HO110.out
  go_ret
  exact ⟨_, by first | rfl | (simp [errW_none, errW_some] <;> rfl) | (simp [*, errW_none, errW_some] <;> rfl), by (with_reducible repeat (first | apply Kd.R_alloc | apply Kd.R_drewN | apply Kd.R_drew)); (rw [HYL.out] at HO110x); exact HO110x, by repeat (first | (with_reducible first | exact HB.out | apply below_alloc | apply pw_below_drewN | apply below_drew1) | exact HB.out)⟩
def api_Wr_45.f (l0 : List (S40)) : Option ((List (S40))) := if l0.length < 5864062014805 then some l0 else none
set_option maxHeartbeats 8000000 in
set_option maxRecDepth 100000 in
theorem api_Wr_45.calls (A0 : Option Addr) (c0 : Nat) (l0 : List (S40)) (r : List (S40)) (w : World) (hr0 : Kd.C k40 w A0 l0.length l0) (hc0 : l0.length ≤ c0) (h : api_Wr_45.f l0 = some r) :
    Calls Try.prog 45 #[.slice A0 l0.length c0] w fun e w' => ∃ v0_ : Value, e = .returned (v0_) ∧ Kd.R k40 40 w' w.heap.size (fun _ => True) v0_ r ∧ Below w.heap.size w w' := by
  unfold api_Wr_45.f at h
  split at h
  case isFalse => cases h
  rename_i hlim
  obtain rfl := Option.some.inj h
  clear h
  rcases A0 with _ | ad
  · have hl : l0 = [] := by
      rcases Nat.eq_zero_or_pos l0.length with h0 | h0
      · exact List.eq_nil_of_length_eq_zero h0
      · obtain ⟨ad, h', _⟩ := hr0.2.2 h0
        cases h'
    subst hl
    have hq : ∀ (W : World) (n c n' c' : Nat), (binOp .eql 23 (.slice none n c) (.slice none n' c')).run Try.prog W = .ok (.bool true) W := fun W n c n' c' => Lib.run_eql_slice_nil W _ _ none n c n' c' Try.underlying23
    go_enter Try.func45, Try.ntmps45
    go_wp2
    go_ret
    exact ⟨_, rfl, Kd.R_nil _ _ _ _ _, Below.refl _ _⟩
  have hq : ∀ (W : World) (n c n' c' : Nat), (binOp .eql 23 (.slice (some ad) n c) (.slice none n' c')).run Try.prog W = .ok (.bool false) W := fun W n c n' c' => Lib.run_eql_slice_nil W _ _ (some ad) n c n' c' Try.underlying23
  have HR0 := Aside0.mk hr0
  have HC0 := Aside0.mk hc0
  clear hr0 hc0
  have HB := Aside0.mk (Below.refl w.heap.size w)
  obtain ⟨y111, hy111⟩ : ∃ y_ : List (S40), y_ = (([] : List (S40))) := ⟨_, rfl⟩
  have Ny111 := Aside0.mk hy111
  clear hy111
  have c2 : y111.length + l0.length < 5864062014805 := by rw [Ny111.out]; simpa using hlim
  clear hlim
  have LMc2 := Aside0.mk c2
  clear c2
  obtain ⟨y114, hy114⟩ : ∃ y_ : List (S40), y_ = (y111 ++ l0) := ⟨_, rfl⟩
  have Ny114 := Aside0.mk hy114
  clear hy114
  have hyl : y114 = l0 := by rw [Ny114.out, Ny111.out]; rfl
  have HYL := Aside0.mk hyl
  clear hyl
  go_enter Try.func45, Try.ntmps45
  go_wp2_with (first | ((with_reducible refine gate_dst (N := 5) rfl ?_); refine Kd.R_lit k40 _ 40 ?hg (N := 5) ?hd (xs := ([] : List (S40))) (inner := []) (ok := fun _ => True) (okp := fun _ => True) ?hr ?hp (fun _ hk => hk) trivial (Below.refl _ _) (Nat.le_refl _) (by simp) ?_; (case hd => rfl); (case hg => rfl); (case hr => first | (go_simp; done) | (go_simp; rfl)); (case hp => exact (Reps.none _ _)); intro v112 w3 ho4 hb hg_ hnew_; clear hg_ hnew_; (first | rw [← Ny111.out] at ho4 | (simp only [Int.reduceToNat] at ho4; rw [← Ny111.out] at ho4)); have n0_ := Aside0.mk (Kd.R_lower ho4 (below_size (by repeat (first | (with_reducible first | exact HB.out | apply below_alloc | apply pw_below_drewN | apply below_drew1) | exact HB.out)))); have n1_ := Aside0.mk (below_step (by repeat (first | (with_reducible first | exact HB.out | apply below_alloc | apply pw_below_drewN | apply below_drew1) | exact HB.out)) hb); clear HB; have HO113 := n0_; have HB := n1_; clear n0_ n1_; clear hb ho4) | ((with_reducible refine gate_builtin (b := .append) (xs := #[.tmp 5, .tmp 6]) rfl ?_); at_builtin; refine Kd.R_append_rows k40 (w0 := w) w.heap.size rfl (.tmp 5) (.tmp 6) 23 40 (.agg #[(.int .i64 0), (.string ⟨#[]⟩)]) 24 rfl Try.underlying23 info40 rfl (by decide) (by omega) v112 y111 l0 _ _ _ (fun _ => True) (fun _ => False) rfl rfl ?aO ?aR (fun _ _ h => h) (fun _ h => h.elim) ?aF ?aB ?aS ?aL ?_; (case aR => repeat (first | exact (Kd.C_below HR0.out HB.out) | (with_reducible refine Kd.C_alloc ?_ _) | (with_reducible refine Kd.C_drewN ?_ _) | (with_reducible refine Kd.C_drew ?_))); (case aB => exact (by repeat (first | (with_reducible first | exact HB.out | apply below_alloc | apply pw_below_drewN | apply below_drew1) | exact HB.out))); (case aF => exact (fun _ _ => trivial)); (case aO => exact (by (with_reducible repeat (first | apply Kd.R_alloc | apply Kd.R_drewN | apply Kd.R_drew)); exact HO113.out)); (case aS => exact (below_size (by repeat (first | (with_reducible first | exact HB.out | apply below_alloc | apply pw_below_drewN | apply below_drew1) | exact HB.out)))); (case aL => have := LMc2.out; omega); intro v115 w5 ho hb hg hat; rw [← Ny114.out] at ho; have n0_ := Aside0.mk (hb); have n1_ := Aside0.mk (ho); clear HB; clear HO113; have HB := n0_; have HO116 := n1_; clear n0_ n1_; clear ho hb hg hat))
  have HO116x := HO116.out
  go_ret
  exact ⟨_, by first | rfl | (simp [errW_none, errW_some] <;> rfl) | (simp [*, errW_none, errW_some] <;> rfl), by (with_reducible repeat (first | apply Kd.R_alloc | apply Kd.R_drewN | apply Kd.R_drew)); (rw [HYL.out] at HO116x); exact HO116x, by repeat (first | (with_reducible first | exact HB.out | apply below_alloc | apply pw_below_drewN | apply below_drew1) | exact HB.out)⟩
def slices_Repeat_string_string.f (l0 : List ByteArray) (a1 : Int) : Option (List ByteArray) := if l0.length = 1 ∧ 1 ≤ a1 ∧ a1 ≤ 4096 then some (List.replicate a1.toNat (l0.getD 0 ⟨#[]⟩)) else none
def strings_Repeat.f (a0 : ByteArray) (a1 : Int) : Option (ByteArray) := if 0 ≤ a1 ∧ a1 ≤ 9223372036854775807 ∧ a0.size * a1.toNat ≤ 140737488355328 then some ⟨(Lib.repeatL a0.data.toList a1.toNat).toArray⟩ else none
theorem strings_Repeat.calls (a0 : ByteArray) (a1 : Int) (r : ByteArray) (w : World) (h : strings_Repeat.f a0 a1 = some r) :
    Calls Try.prog 39 #[.string a0, .int .i64 a1] w fun e w' => e = .returned (.string r) ∧ Below w.heap.size w w' := by
  unfold strings_Repeat.f at h
  split at h
  · rename_i hc
    obtain ⟨h0, h1, h2⟩ := hc
    obtain ⟨c, rfl⟩ := Int.eq_ofNat_of_zero_le h0
    cases h
    simp only [Int.toNat_natCast] at h2 ⊢
    exact Try.strings_Repeat a0 c w (by omega) h2
  · cases h
def fill128 (s : ByteArray) : ByteArray := ⟨(s.data.toList.take 128 ++ List.replicate (128 - s.size) 0).toArray⟩
def almanaclaw02_filled.f (a0 : ByteArray) : Option (ByteArray) := some (fill128 a0)
theorem mul_one (n : Nat) (hn : n ≤ 4096) (w : World) : Calls Try.prog 50 #[.int .u64 1, .int .u64 n] w fun e w' => e = .returned (.tuple #[.int .u64 0, .int .u64 n]) ∧ w = w' := by
  refine (Try.bits_Mul 1 n (by omega) (by omega) w).mono ?_
  rintro e w' ⟨rfl, rfl⟩
  refine ⟨?_, rfl⟩
  rw [Nat.one_mul, Nat.div_eq_of_lt (by omega), Nat.mod_eq_of_lt (by omega)]
  rfl
/-- n cells, the first k of them s. -/
def rowK (s : ByteArray) (k n : Nat) : List Value := List.replicate k (.string s) ++ List.replicate (n - k) (.string ⟨#[]⟩)
theorem rowK_len (s : ByteArray) (k n : Nat) (h : k ≤ n) : (rowK s k n).length = n := by simp [rowK]; omega
theorem rowK_zero (s : ByteArray) (n : Nat) : (madeCells #[Value.string ⟨#[]⟩] n).toList = rowK s 0 n := by
  apply List.ext_getElem
  · simp [rowK, madeCells]
  · intro i h1 h2
    simp [rowK, madeCells, Nat.mod_one]
theorem rowK_splice (s : ByteArray) (k m n : Nat) (h : k + m ≤ n) : splice (rowK s k n) k (List.replicate m (.string s)) = rowK s (k + m) n := by
  have e1 : (rowK s k n).take k = List.replicate k (.string s) := by unfold rowK; rw [List.take_append_of_le_length (by simp), List.take_of_length_le (by simp)]
  have e2 : (rowK s k n).drop (k + m) = List.replicate (n - (k + m)) (.string ⟨#[]⟩) := by
    unfold rowK
    rw [List.drop_append, List.drop_of_length_le (by simp), List.nil_append, List.drop_replicate, List.length_replicate]
    congr 1
    omega
  unfold splice
  rw [List.length_replicate, e1, e2, ← List.append_assoc, List.replicate_append_replicate]
  rfl
set_option maxRecDepth 100000 in
set_option maxHeartbeats 1600000 in
theorem slices_Repeat_string_string.calls (A0 : Option Addr) (c0 : Nat) (l0 : List ByteArray) (a1 : Int) (r : List ByteArray) (w : World) (hr0 : Kd.C Kd.string w A0 l0.length l0) (hc0 : l0.length ≤ c0) (h : slices_Repeat_string_string.f l0 a1 = some r) :
    Calls Try.prog 38 #[.slice A0 l0.length c0, .int .i64 a1] w fun e w' => ∃ v0_ : Value, e = .returned (v0_) ∧ Kd.R Kd.string 9 w' w.heap.size (fun _ => True) v0_ r ∧ Below w.heap.size w w' := by
  unfold slices_Repeat_string_string.f at h
  split at h
  case isFalse => cases h
  rename_i hh
  obtain ⟨hl, h1, h2⟩ := hh
  obtain rfl := Option.some.inj h
  clear h
  obtain ⟨s, rfl⟩ : ∃ s, l0 = [s] := List.length_eq_one_iff.1 hl
  obtain ⟨n, rfl⟩ := Int.eq_ofNat_of_zero_le (show 0 ≤ a1 by omega)
  obtain ⟨ad, rfl, hcell⟩ : ∃ ad, A0 = some ad ∧ w.cell? ad = some (.string s) := by
    obtain ⟨ad, he, hc⟩ := hr0.2.2 (by simp)
    refine ⟨ad, he, ?_⟩
    obtain ⟨c, hcl, hK, hcell⟩ := hc 0 s rfl
    have hKs : c = [.string s] := hK
    subst hKs
    have h0 := hcell 0 _ rfl
    rwa [show ad.add (0 * Kd.string.sz + 0) = ad from by simp [Addr.add]] at h0
  clear hl hr0
  have hk1 : 1 ≤ n := by omega
  have hk2 : n ≤ 4096 := by omega
  have hmk : ∀ W : World, (Instr.makeSlice 22 (.int .i64 (n : Int)) (.int .i64 (n : Int))).run Try.prog W = .ok (.slice (some ⟨W.heap.size, 0, none⟩) n n) (W.alloc (.cells (rowK s 0 n).toArray 9)) := by
    have h := run_make_row' (P := Try.prog) 22 9 (.string ⟨#[]⟩) 16 Try.underlying22 info9 rfl .i64 .i64 n (by omega) (by omega)
    have e : (rowK s 0 n).toArray = madeCells #[Value.string ⟨#[]⟩] n := by rw [← rowK_zero]
    rw [e]; exact h
  have hB0 : Below w.heap.size w (w.alloc (.cells (rowK s 0 n).toArray 9)) := (Below.refl _ _).alloc (Nat.le_refl _) _
  have hG0 := Aside0.mk (heap_alloc_new w (.cells (rowK s 0 n).toArray 9))
  have hadl : ad.block < w.heap.size := World.block_lt_of_cell? w ad hcell
  have hcell1 : (w.alloc (.cells (rowK s 0 n).toArray 9)).cell? ad = some (.string s) := pw_cell_below hB0 hcell
  have hsrc : ∀ j v, [Value.string s][j]? = some v → (w.alloc (.cells (rowK s 0 n).toArray 9)).cell? (ad.add j) = some v := by
    intro j v hj
    rcases j with _ | j
    · simp at hj
      subst hj
      rwa [show ad.add 0 = ad from by simp [Addr.add]]
    · simp at hj
  have hn1 : [Value.string s].length = Nat.min 1 n := by show 1 = min 1 n; omega
  go_enter Try.func38, Try.ntmps38
  go_wp2_with (first | (go_at_call 50; refine (mul_one n hk2 _).mono ?_; rintro e w' ⟨rfl, rfl⟩) | ((with_reducible refine gate_builtin (b := .copy) (xs := #[.tmp 31, .tmp 32]) rfl ?_); go_loud (refine wpList_copy_splice rfl _ _ 22 22 rfl 9 Try.underlying22 (by kernel_rfl) _ _ n n 1 c0 rfl rfl w.heap.size 0 (rowK s 0 n) 9 hG0.out [.string s] hn1 (fun _ => ⟨rfl, ad, rfl, hsrc⟩) (by rw [rowK_len _ _ _ (by omega)]; simpa using hk1) (by intro v hv; simp at hv; subst hv; rfl) w.heap.size w hB0 (Nat.le_refl _) ?_); intro w1 hg1 hb1))
  have HG1 := Aside0.mk hg1.out
  clear hg1 hG0 hmk hcell1 hB0 hn1 hcell hsrc
  have HB1 := Aside0.mk hb1
  clear hb1
  rw [show splice (rowK s 0 n) 0 [Value.string s] = rowK s 1 n from rowK_splice s 0 1 n (by omega)] at HG1
  go_loopw [8] (fun v wr => ∃ k : Nat, 1 ≤ k ∧ k ≤ n ∧ v = .int .i64 k ∧ Aside0 (wr.heap[w.heap.size]? = some (.cells (rowK s k n).toArray 9 (0, 0))) ∧ Aside0 (Below w.heap.size w wr)) (fun v _ => n - (intOf v).toNat)
  case atStart => exact ⟨1, Nat.le_refl _, hk1, rfl, HG1, HB1⟩
  case round =>
    obtain ⟨k, hk, hkn, rfl, hgk, hbk⟩ := hrel
    by_cases hlt : k < n
    · go_wp2
      obtain ⟨m, hm⟩ : ∃ m, m = min k (n - k) := ⟨_, rfl⟩
      have hm1 : 1 ≤ m := by omega
      have hm2 : k + m ≤ n := by omega
      have hm3 : m ≤ k := by omega
      have hlo : ∀ W : World, (Instr.slice 22 (.slice (some ⟨w.heap.size, 0, none⟩) n n) (some (.int .i64 (k : Int))) none none).run Try.prog W = .ok (.slice (some ⟨w.heap.size, k, none⟩) (n - k) (n - k)) W := by
        intro W
        obtain ⟨i0, hi, _, hz1, _⟩ := info_parts info9
        have hc := cut_from (P := Try.prog) 22 9 .i64 Try.underlying22 hi 1 hz1 (some ⟨w.heap.size, 0, none⟩) n n (k : Int) (by omega) (by omega) W
        rw [Int.toNat_natCast, if_neg (by omega)] at hc
        rw [hc]
        simp [add_plain]
      have hhi : ∀ W : World, (Instr.slice 22 (.slice (some ⟨w.heap.size, 0, none⟩) n n) none (some (.int .i64 (k : Int))) none).run Try.prog W = .ok (.slice (some ⟨w.heap.size, 0, none⟩) k n) W := by
        intro W
        obtain ⟨i0, hi, _, hz1, _⟩ := info_parts info9
        have hc := cut_to (P := Try.prog) 22 9 .i64 Try.underlying22 hi (some ⟨w.heap.size, 0, none⟩) n n (k : Int) (by omega) (by omega) (Nat.le_refl _) W
        rw [Int.toNat_natCast] at hc
        exact hc
      have hsum : IntKind.i64.wrap ((k : Int) + (m : Int)) = ((k + m : Nat) : Int) := by rw [IntKind.wrap_i64]; omega
      have hn2 : (List.replicate m (Value.string s)).length = Nat.min k (n - k) := by rw [List.length_replicate]; exact hm
      have HN2 := Aside0.mk hn2
      clear hn2
      have hcells : ∀ j v, (List.replicate m (Value.string s))[j]? = some v → wr.cell? ((⟨w.heap.size, 0, none⟩ : Addr).add j) = some v := by
        intro j v hj
        have hjm : j < m := by
          rcases Nat.lt_or_ge j m with h | h
          · exact h
          · rw [List.getElem?_eq_none (by simpa using h)] at hj; cases hj
        rw [add_plain]
        have hv : v = .string s := by rw [List.getElem?_replicate] at hj; simp [hjm] at hj; exact hj.symm
        subst hv
        have hh := hgk.out
        simp only [World.cell?, hh]
        simp [rowK, List.getElem?_append, show j < k by omega]
      have HM := Aside0.mk hm
      clear hm
      go_region_law (refine step_copy_splice rfl (.tmp 41) (.tmp 44) 22 22 rfl 9 Try.underlying22 (by kernel_rfl) _ _ (n - k) (n - k) k n (by simp [Act.eval, Act.put]) (by simp [Act.eval, Act.put]) w.heap.size k (rowK s k n) 9 hgk.out (List.replicate m (.string s)) HN2.out (fun _ => ⟨rfl, _, rfl, hcells⟩) (by rw [rowK_len _ _ _ hkn, List.length_replicate]; exact hm2) (by intro v hv; rw [List.mem_replicate] at hv; rw [hv.2]; rfl) w.heap.size w (below_drew hbk.out) (Nat.le_refl _) ?_; intro w4 hg4 hb4)
      have HG4 := Aside0.mk hg4.out
      have HB4 := Aside0.mk hb4
      clear hg4 hb4 hlo hhi hcells
      rw [rowK_splice s k m n hm2] at HG4
      go_wp2
      refine ⟨?_, ?_⟩
      · iterate 14 (apply Exists.intro)
        refine And.intro ?_ rfl
        exact ⟨k + m, by omega, hm2, by simp, HG4, HB4⟩
      · have hx : n - (k + m) < n - k := by omega
        refine Nat.lt_of_le_of_lt (Nat.le_of_eq ?_) hx
        show n - (intOf (Value.int .i64 ((k : Int) + (m : Int)))).toNat = n - (k + m)
        have h0 : ((k : Int) + (m : Int)).toNat = k + m := by omega
        simp only [intOf, h0]
    · go_wp2
      go_ret
      obtain rfl : k = n := by omega
      refine ⟨_, rfl, ?_, hbk.out⟩
      have hl : (rowK s k k) = encs Value.string (List.replicate k s) := by simp [rowK, encs]
      have hg := hgk.out
      rw [hl] at hg
      have ho : wr.ownsRow w.heap.size 9 1 (.slice (some ⟨w.heap.size, 0, none⟩) k k) k (encs Value.string (List.replicate k s)) :=
        ⟨by simp [encs], .inr ⟨w.heap.size, k, _, rfl, Nat.le_refl _, hg, Nat.le_refl _, by unfold maxLen; omega, by simp [encs], by simp [encs]⟩⟩
      have e : (List.replicate (k : Int).toNat ([s].getD 0 ⟨#[]⟩)) = List.replicate k s := by simp
      rw [e]
      exact Kd.R_of_own (by rw [List.length_replicate]; exact ho) (fun _ _ => trivial)

theorem run_copy_string_min {P : Program} (w : World) (dT sT ty elem : TypeId) (g dLen dCap : Nat) (s : ByteArray) (cur : Array Value) (t : TypeId)
    (hu : P.underlying dT = some (.slice elem)) (hs : (P.info? elem).map (·.size) = some 1) (hg : w.heap[g]? = some (.cells cur t (0, 0))) (hfit : min s.size dLen ≤ cur.size) :
    (Builtin.copy_ #[dT, sT] ty #[.slice (some ⟨g, 0, none⟩) dLen dCap, .string s]).run P w =
      .ok (goInt (min s.size dLen)) (w.setRow g ((Lib.byteCells s.data.toList).take (min s.size dLen) ++ cur.toList.drop (min s.size dLen)).toArray) := by
  have hlen : ((Lib.byteCells s.data.toList).take (min s.size dLen)).length = min s.size dLen := by
    rw [List.length_take, Lib.byteCells_length, ← Lib.size_eq]; exact Nat.min_eq_left (Nat.min_le_left _ _)
  have hst := run_storeCells_at P g 0 t ((Lib.byteCells s.data.toList).take (min s.size dLen)) 0 cur w hg (by rw [hlen]; simpa using hfit) (fun v hv => Lib.byteCells_one _ v (List.mem_of_mem_take hv))
  have htk : List.take (min s.size dLen) (List.map (fun b : UInt8 => Value.int IntKind.u8 (b.toNat : Int)) s.data.toList) = (Lib.byteCells s.data.toList).take (min s.size dLen) := rfl
  rw [hlen] at hst
  simp only [Nat.add_zero, Nat.zero_add, List.take_zero, List.nil_append] at hst
  generalize hk : min s.size dLen = k at *
  have hk' : Nat.min s.size dLen = k := hk
  cases hq : P.info? elem with
  | none => simp [hq] at hs
  | some i =>
    simp [Builtin.copy_, run_underlying hu, Builtin.lenOf, Builtin.firstCells, sizeOf, typeInfo, hq, hk']
    rw [htk, hst]
    simp only [Result.andThen_ok, Sem.run_pure]
    first | done | (simp [Result.andThen]; exact congrArg goInt (by omega))

theorem made_nums (m : Nat) : (madeCells #[Value.int .u8 0] m).toList = nums .u8 (List.replicate m 0) := by
  apply List.ext_getElem
  · simp [nums, madeCells]
  · intro i h1 h2
    simp [nums, madeCells, Nat.mod_one]
def cur0 : Array Value := madeCells #[.int .u8 0] 128
theorem cur0_size : cur0.size = 128 := by simp [cur0, size_madeCells]
theorem cur0_list : cur0.toList = nums .u8 (List.replicate 128 0) := made_nums 128
def fillNums (s : ByteArray) : List Int := (bytesOf s).take (min s.size 128) ++ List.replicate (128 - min s.size 128) 0
theorem fillNums_len (s : ByteArray) : (fillNums s).length = 128 := by
  unfold fillNums
  rw [List.length_append, List.length_take, bytesOf_length, List.length_replicate]
  have h1 := Nat.min_le_left s.size 128
  have h2 := Nat.min_le_right s.size 128
  rw [Nat.min_eq_left h1]
  omega
theorem strOf_fill (s : ByteArray) : strOfNums (fillNums s) = fill128 s := by
  have hl : s.data.toList.length = s.size := data_length s
  unfold strOfNums fillNums fill128 bytesOf
  congr 2
  rw [List.map_append, ← List.map_take, List.map_map, List.map_replicate]
  congr 1
  · rw [← hl, show s.data.toList.take (min s.data.toList.length 128) = s.data.toList.take 128 from by rw [Nat.min_comm, ← List.take_eq_take_min]]
    conv => rhs; rw [← List.map_id (s.data.toList.take 128)]
    apply List.map_congr_left
    intro a _
    simp
  · rw [show 128 - min s.size 128 = 128 - s.size from by omega]
    rfl
set_option maxHeartbeats 800000 in
theorem almanaclaw02_filled.calls (a0 : ByteArray) (r : ByteArray) (w : World) (h : almanaclaw02_filled.f a0 = some r) :
    Calls Try.prog 20 #[.string a0] w fun e w' => e = .returned (.string r) ∧ Below w.heap.size w w' := by
  obtain rfl := Option.some.inj h
  clear h
  have hmk : ∀ W : World, (Instr.makeSlice 68 (.int .i64 128) (.int .i64 128)).run Try.prog W = .ok (.slice (some ⟨W.heap.size, 0, none⟩) 128 128) (W.alloc (.cells cur0 5)) := fun W => print_make (P := Try.prog) 68 5 .u8 1 Try.underlying68 info5 (by decide) 128 (by decide) W
  have hcp := run_copy_string_min (P := Try.prog) (w.alloc (.cells cur0 5)) 68 9 3 5 w.heap.size 128 128 a0 cur0 5 Try.underlying68 (by kernel_rfl) (heap_alloc_new w _) (by rw [cur0_size]; exact Nat.min_le_right _ _)
  generalize hW : ((w.alloc (.cells cur0 5)).setRow w.heap.size ((Lib.byteCells a0.data.toList).take (min a0.size 128) ++ cur0.toList.drop (min a0.size 128)).toArray) = W at hcp
  have hB : Below w.heap.size w W := by
    rw [← hW]
    exact below_setRow ((Below.refl _ _).alloc (Nat.le_refl _) _) (Nat.le_refl _) _
  have hO : W.ownsRow w.heap.size 5 1 (.slice (some ⟨w.heap.size, 0, none⟩) 128 128) 128 (nums .u8 (fillNums a0)) := by
    have hm := Nat.min_le_left a0.size 128
    have hm2 := Nat.min_le_right a0.size 128
    have hb : (Lib.byteCells a0.data.toList).length = a0.size := by rw [Lib.byteCells_length, ← Lib.size_eq]
    refine ⟨by rw [nums_length, fillNums_len], .inr ⟨w.heap.size, 128, _, rfl, Nat.le_refl _, by rw [← hW]; exact setRow_heap _ _ _ _ 5 (0, 0) (heap_alloc_new w _), Nat.le_refl _, by unfold maxLen; omega, ?_, ?_⟩⟩
    · rw [List.size_toArray, List.length_append, List.length_take, hb, List.length_drop, Array.length_toList, cur0_size, Nat.min_eq_left hm]
      omega
    · rw [List.toList_toArray, List.take_of_length_le (by rw [List.length_append, List.length_take, hb, List.length_drop, Array.length_toList, cur0_size, Nat.min_eq_left hm]; omega), cur0_list]
      unfold fillNums
      rw [nums_append]
      congr 1
      · unfold nums bytesOf Lib.byteCells
        rw [← List.map_take, ← List.map_take, List.map_map]
        rfl
      · unfold nums
        rw [← List.map_drop, List.drop_replicate]
  clear hW
  have hcv := own_string (P := Try.prog) (w := W) (dst := 9) Try.underlying68 Try.underlying5 Try.underlying9 hO
  rw [strOf_fill] at hcv
  clear hO
  go_enter Try.func20, Try.ntmps20
  go_wp2_with (at_builtin; refine Lib.wpList_copy_run _ rfl _ _ 68 9 rfl _ _ rfl rfl hcp ?_)
  go_ret
  exact ⟨rfl, hB⟩
end Go.Proofs.Ytaocplhijfkicaa.PD
-- written by a program of this work (mk.sh, over the kit's print; stubs are proved by hand)
namespace Go.Proofs.Ytaocplhijfkicaa.PD
open Go.RowKit Go.Proofs.YtaocplhijfkicaaW.PrintWords Go.Proofs.YtaocplhijfkicaaW.PrintLast Go.Proofs.YtaocplhijfkicaaW.PrintMore
attribute [local go_sem] isSome_setCell max2_int min2_int max_two min_two   -- for this text's walks alone
set_option linter.unusedVariables false
set_option linter.unusedSimpArgs false

/-! ### dev_owned: function 26 -/
def dev_owned.f (l0_0 : List ByteArray) (l0_1 : List (S40)) (a0_2 : Int) (a0_3 : Bool) : Option (List ByteArray × (List (S40)) × Int × Bool) := (slices_Clone_string_string.f l0_0).bind fun t116 => ((api_Wr_45.f l0_1).bind fun t119 => (some (t116, t119, a0_2, a0_3)))
def dev_owned.T1 : Bool × List (List Nat × List Nat) := (true, [([], []), ([0], [0]), ([1], [1]), ([], []), ([3], [3]), ([4, 2], [4]), ([0, 1, 2, 3, 4], []), ([6, 2, 5, 0, 1, 2, 3, 4], [2, 6]), ([0, 1, 2, 3, 4, 5, 6, 7], []), ([8, 5, 7, 0, 1, 2, 3, 4, 5, 6, 7], [5, 8])])
def dev_owned.B1 : List Nat := [0, 1, 3, 0, 8, 31, 31, 127, 255, 511]
theorem dev_owned.tab1 : rtab .any (opsOf Try.f26 1) = dev_owned.T1 := by kernel_rfl
theorem dev_owned.bits1 : waitsOk dev_owned.T1.2 dev_owned.B1 = true := by kernel_rfl
set_option maxHeartbeats 8000000 in
set_option maxRecDepth 100000 in
theorem dev_owned.calls (A0_0 : Option Addr) (c0_0 : Nat) (l0_0 : List ByteArray) (A0_1 : Option Addr) (c0_1 : Nat) (l0_1 : List (S40)) (a0_2 : Int) (a0_3 : Bool) (r1 : List ByteArray) (r2 : List (S40)) (r3 : Int) (r4 : Bool) (w : World) (hr0_0 : Kd.C Kd.string w A0_0 l0_0.length l0_0) (hc0_0 : l0_0.length ≤ c0_0) (hr0_1 : Kd.C k40 w A0_1 l0_1.length l0_1) (hc0_1 : l0_1.length ≤ c0_1) (h : dev_owned.f l0_0 l0_1 a0_2 a0_3 = some (r1, r2, r3, r4)) :
  Calls Try.prog 26 #[.agg #[.slice A0_0 l0_0.length c0_0, .slice A0_1 l0_1.length c0_1, .int .i64 a0_2, .bool a0_3]] w fun e w' => ∃ v0_ v1_ : Value, e = .returned (.agg #[v0_, v1_, .int .i64 r3, .bool r4]) ∧ Kd.R Kd.string 9 w' w.heap.size (fun _ => True) v0_ r1 ∧ Kd.R k40 40 w' w.heap.size (fun _ => True) v1_ r2 ∧ Below w.heap.size w w' := by
 have hu25 := Try.underlying25
 have HR0_0 := Aside0.mk hr0_0
 have HC0_0 := Aside0.mk hc0_0
 clear hr0_0 hc0_0
 have HR0_1 := Aside0.mk hr0_1
 have HC0_1 := Aside0.mk hc0_1
 clear hr0_1 hc0_1
 have HB := Aside0.mk (Below.refl w.heap.size w)
 have H : ((slices_Clone_string_string.f l0_0).bind fun t116 => ((api_Wr_45.f l0_1).bind fun t119 => (some (t116, t119, a0_2, a0_3)))) = some (r1, r2, r3, r4) := h
 clear h
 replace H := Option.bind_eq_some_iff.mp H
 obtain ⟨t116, A20, H⟩ := H
 replace H : ((api_Wr_45.f l0_1).bind fun t119 => (some (t116, t119, a0_2, a0_3))) = some (r1, r2, r3, r4) := H
 have A2 := Aside0.mk A20
 clear A20
 replace H := Option.bind_eq_some_iff.mp H
 obtain ⟨t119, A30, H⟩ := H
 replace H : (some (t116, t119, a0_2, a0_3)) = some (r1, r2, r3, r4) := H
 have A3 := Aside0.mk A30
 clear A30
 simp only [Option.some.injEq, Prod.mk.injEq] at H
 obtain ⟨rfl, rfl, rfl, rfl⟩ := H
 go_enter Try.func26, Try.ntmps26
 try go_wp2_with (first | ((with_reducible refine gate_dst (N := 1) rfl ?_); refine box_event ?hg (N := 1) ?hd (cs := #[.slice A0_0 l0_0.length c0_0, .slice A0_1 l0_1.length c0_1, .int .i64 a0_2, .bool a0_3]) (t := 25) ?hr ?_; (case hd => rfl); (case hg => rfl); (case hr => first | (go_simp; done) | (go_simp; rfl)); intro gb114 hg w4 hbox hb; have n0_ := Aside0.mk (below_step (bU HB) hb); have n1_ := Aside0.mk (hbox); have n2_ := Aside0.mk ((by rw [hg]; exact (below_size (bU HB)) : w.heap.size ≤ gb114)); have n3_ := Aside0.mk ((by rw [hg]; exact (below_size (bU HB)) : w.heap.size ≤ gb114)); clear HB; have HB := n0_; have BK114 := n1_; have GW114 := n2_; have GE114 := n3_; clear n0_ n1_ n2_ n3_; clear hb hbox hg) | ((with_reducible refine gate_dst (N := 2) rfl ?_); refine box_event ?hg (N := 2) ?hd (cs := #[.slice none 0 0, .slice none 0 0, .int .i64 0, .bool false]) (t := 25) ?hr ?_; (case hd => rfl); (case hg => rfl); (case hr => first | (go_simp; done) | (go_simp; rfl)); intro gb115 hg w5 hbox hb; have n0_ := Aside0.mk (blk_below (kU BK114) hb); have n1_ := Aside0.mk (below_step (bU HB) hb); have n2_ := Aside0.mk (hbox); have n3_ := Aside0.mk ((by rw [hg]; exact (below_size (bU HB)) : w.heap.size ≤ gb115)); have n4_ := Aside0.mk ((by rw [hg]; exact (below_size (bU HB)) : w.heap.size ≤ gb115)); have n5_ := Aside0.mk ((by rw [hg]; exact Nat.ne_of_lt (blk_lt (g := gb114) (o := .cells #[.slice A0_0 l0_0.length c0_0, .slice A0_1 l0_1.length c0_1, .int .i64 a0_2, .bool a0_3] 25 (0, 0)) (kU BK114)) : gb114 ≠ gb115)); have n6_ := Aside0.mk ((by rw [hg]; exact Nat.ne_of_gt (blk_lt (g := gb114) (o := .cells #[.slice A0_0 l0_0.length c0_0, .slice A0_1 l0_1.length c0_1, .int .i64 a0_2, .bool a0_3] 25 (0, 0)) (kU BK114)) : gb115 ≠ gb114)); clear BK114; clear HB; have BK114 := n0_; have HB := n1_; have BK115 := n2_; have GW115 := n3_; have GE115 := n4_; have NB114_115 := n5_; have NB115_114 := n6_; clear n0_ n1_ n2_ n3_ n4_ n5_ n6_; clear hb hbox hg))
 have n0_ := Aside0.mk (blk_drew BK114.out)
 have n1_ := Aside0.mk (blk_drew BK115.out)
 have n2_ := Aside0.mk (below_drew1 HB.out)
 clear BK114
 clear BK115
 clear HB
 have BK114 := n0_
 have BK115 := n1_
 have HB := n2_
 clear n0_ n1_ n2_
 refine start_ (n := 10) (S := fun w' => w'.cell? ⟨gb114, 0, none⟩ = some (.slice A0_0 l0_0.length c0_0) ∧ w'.cell? ⟨gb114, 1, none⟩ = some (.slice A0_1 l0_1.length c0_1) ∧ w'.cell? ⟨gb114, 2, none⟩ = some (.int .i64 a0_2) ∧ w'.cell? ⟨gb114, 3, none⟩ = some (.bool a0_3)) (ds := [7, 9]) #[false, false, false, false, false, false, false, false, false, false] (by kernel_rfl) rfl rfl ⟨(blk_cell BK114.out 0).trans rfl, (blk_cell BK114.out 1).trans rfl, (blk_cell BK114.out 2).trans rfl, (blk_cell BK114.out 3).trans rfl⟩ (fun hHeld => ?_); refine with_tabW dev_owned.tab1 dev_owned.bits1 (fun HT_ HW_ => ?_)
 generalize w5.drew = w6 at BK114 BK115 HB hHeld ⊢
 refine pure_ (i := 0) (N := some 3) (v := ?_) (a' := ?_) #[true, false, false, false, false, false, false, false, false, false] rfl rfl (any_of HT_.out (by kernel_rfl)) (fun _ _ _ h => h) (Or.inl ⟨by rfl, ?_⟩) ?_ ?_
 rotate_left
 ·intro w'
  go_simp
  with_reducible rfl
 rotate_left
 ·simp only [Act.put, List.setIfInBounds_toArray, List.set_cons_zero, List.set_cons_succ, i64_w, i32_w]
  rfl
 refine pure_ (i := 3) (N := some 6) (v := ?_) (a' := ?_) #[true, false, false, true, false, false, false, false, false, false] rfl rfl (any_of HT_.out (by kernel_rfl)) (fun _ _ _ h => h) (Or.inl ⟨by rfl, ?_⟩) ?_ ?_
 rotate_left
 ·intro w'
  go_simp
  with_reducible rfl
 rotate_left
 ·simp only [Act.put, List.setIfInBounds_toArray, List.set_cons_zero, List.set_cons_succ, i64_w, i32_w]
  rfl
 refine take_ (i := 1) (N := some 4) (v := ?_) (a' := ?_) #[true, true, false, true, false, false, false, false, false, false] rfl rfl (take_ofW HT_.out HW_.out (by kernel_rfl)) (fun _ _ _ h => h) (Or.inl ⟨by rfl, ?_⟩) hHeld ?_ ?_
 rotate_left
 ·rintro w' ⟨s0, s1, s2, s3⟩
  go_simp
  with_reducible rfl
 rotate_left
 ·simp only [Act.put, List.setIfInBounds_toArray, List.set_cons_zero, List.set_cons_succ, i64_w, i32_w]
  rfl
 refine take_ (i := 4) (N := some 7) (v := ?_) (a' := ?_) #[true, true, false, true, true, false, false, false, false, false] rfl rfl (take_ofW HT_.out HW_.out (by kernel_rfl)) (fun _ _ _ h => h) (Or.inl ⟨by rfl, ?_⟩) hHeld ?_ ?_
 rotate_left
 ·rintro w' ⟨s0, s1, s2, s3⟩
  go_simp
  with_reducible rfl
 rotate_left
 ·simp only [Act.put, List.setIfInBounds_toArray, List.set_cons_zero, List.set_cons_succ, i64_w, i32_w]
  rfl
 refine one_ (i := 2) (N := some 5) #[true, true, true, true, true, false, false, false, false, false] rfl rfl (one_of HT_.out (by kernel_rfl)) (by decide) (fun K hK => ?_)
 refine goes_ Try.func44 (by kernel_rfl) rfl #[.slice A0_0 l0_0.length c0_0] (by rfl) rfl rfl (by (try simp only [List.map_toArray, List.map_cons, List.map_nil]); first | done | rfl | (simp only [List.length_drop, List.length_take]; rfl)) ?_
 with_reducible refine (slices_Clone_string_string.calls _ _ l0_0 t116 _ ?side1 ?side2 A2.out).mono ?_
 (case side1 => exact cU (Kd.C_below HR0_0.out HB.out))
 (case side2 => exact HC0_0.out)
 rintro e w7 ⟨v117, rfl, ho0, hb⟩
 refine ⟨_, rfl, ?_⟩
 have n0_ := Aside0.mk (Kd.R_lower ho0 (below_size (bU HB)))
 have n1_ := Aside0.mk (blk_below (kU BK114) hb)
 have n2_ := Aside0.mk (blk_below (kU BK115) hb)
 have n3_ := Aside0.mk (below_step (bU HB) hb)
 clear BK114
 clear BK115
 clear HB
 have HO118 := n0_
 have BK114 := n1_
 have BK115 := n2_
 have HB := n3_
 clear n0_ n1_ n2_ n3_
 (try clear hb)
 (try clear hb2)
 (try clear hk)
 (try clear hi)
 (try clear ho0)
 refine hK.out _ _ ⟨(blk_cell BK114.out 0).trans rfl, (blk_cell BK114.out 1).trans rfl, (blk_cell BK114.out 2).trans rfl, (blk_cell BK114.out 3).trans rfl⟩ (fun hHeld => ?_)
 clear hK K
 refine norm_ (a' := ?_) ?_ ?_
 rotate_left
 ·show Act.put _ (some 5) _ = _
  simp only [Act.put, List.setIfInBounds_toArray, List.set_cons_zero, List.set_cons_succ, i64_w, i32_w]
  rfl
 refine pure_ (i := 6) (N := some 9) (v := ?_) (a' := ?_) #[true, true, true, true, true, false, true, false, false, false] rfl rfl (any_of HT_.out (by kernel_rfl)) (fun _ _ _ h => h) (Or.inl ⟨by rfl, ?_⟩) ?_ ?_
 rotate_left
 ·intro w'
  go_simp
  with_reducible rfl
 rotate_left
 ·simp only [Act.put, List.setIfInBounds_toArray, List.set_cons_zero, List.set_cons_succ, i64_w, i32_w]
  rfl
 refine one_ (i := 5) (N := some 8) #[true, true, true, true, true, true, true, false, false, false] rfl rfl (one_of HT_.out (by kernel_rfl)) (by decide) (fun K hK => ?_)
 refine goes_ Try.func45 (by kernel_rfl) rfl #[.slice A0_1 l0_1.length c0_1] (by rfl) rfl rfl (by (try simp only [List.map_toArray, List.map_cons, List.map_nil]); first | done | rfl | (simp only [List.length_drop, List.length_take]; rfl)) ?_
 with_reducible refine (api_Wr_45.calls _ _ l0_1 t119 _ ?side1 ?side2 A3.out).mono ?_
 (case side1 => exact cU (Kd.C_below HR0_1.out HB.out))
 (case side2 => exact HC0_1.out)
 rintro e w8 ⟨v120, rfl, ho0, hb⟩
 refine ⟨_, rfl, ?_⟩
 have n0_ := Aside0.mk (Kd.R_below (rU HO118) hb)
 have n1_ := Aside0.mk (Kd.R_lower ho0 (below_size (bU HB)))
 have n2_ := Aside0.mk (blk_below (kU BK114) hb)
 have n3_ := Aside0.mk (blk_below (kU BK115) hb)
 have n4_ := Aside0.mk (below_step (bU HB) hb)
 clear HO118
 clear BK114
 clear BK115
 clear HB
 have HO118 := n0_
 have HO121 := n1_
 have BK114 := n2_
 have BK115 := n3_
 have HB := n4_
 clear n0_ n1_ n2_ n3_ n4_
 (try clear hb)
 (try clear hb2)
 (try clear hk)
 (try clear hi)
 (try clear ho0)
 obtain ⟨Ao9, co9, eo9⟩ := Kd.R_slice HO118.out
 (first | subst eo9 | (injection eo9 with f1_ f2_ f3_; have f4_ := f1_.symm; have f5_ := f3_.symm; clear f1_ f2_ f3_; subst f4_; subst f5_))
 obtain ⟨Ao11, co11, eo11⟩ := Kd.R_slice HO121.out
 (first | subst eo11 | (injection eo11 with f1_ f2_ f3_; have f4_ := f1_.symm; have f5_ := f3_.symm; clear f1_ f2_ f3_; subst f4_; subst f5_))
 refine hK.out _ _ ⟨(blk_cell BK114.out 0).trans rfl, (blk_cell BK114.out 1).trans rfl, (blk_cell BK114.out 2).trans rfl, (blk_cell BK114.out 3).trans rfl⟩ (fun hHeld => ?_)
 clear hK K
 refine norm_ (a' := ?_) ?_ ?_
 rotate_left
 ·show Act.put _ (some 8) _ = _
  simp only [Act.put, List.setIfInBounds_toArray, List.set_cons_zero, List.set_cons_succ, i64_w, i32_w]
  rfl
 refine last_ (i := 7) (N := none) #[true, true, true, true, true, true, true, true, false, false] rfl rfl (one_of HT_.out (by kernel_rfl)) (by decide) (fun K hK => ?_)
 have hs10 : w8.cell? ⟨gb114, 0, none⟩ = some (.slice A0_0 l0_0.length c0_0) := (blk_cell BK114.out 0).trans rfl
 have hfs10 := blk_frozen BK114.out 0
 have hns10_1 := NB115_114.out
 have hms10_1 := NB114_115.out
 refine skip_ (w1 := ?_) (by rfl) rfl ?_ ?_
 rotate_left
 ·go_simp
  rfl
 refine hK.out _ _ ?_
 clear hK K
 refine pure_ (i := 8) (N := some 10) (v := ?_) (a' := ?_) #[true, true, true, true, true, true, true, true, true, false] rfl rfl (any_of HT_.out (by kernel_rfl)) (fun _ _ _ h => h) (Or.inl ⟨by rfl, ?_⟩) ?_ ?_
 rotate_left
 ·intro w'
  go_simp
  with_reducible rfl
 rotate_left
 ·simp only [Act.put, List.setIfInBounds_toArray, List.set_cons_zero, List.set_cons_succ, i64_w, i32_w]
  rfl
 refine last_ (i := 9) (N := none) #[true, true, true, true, true, true, true, true, true, true] rfl rfl (one_of HT_.out (by kernel_rfl)) (by decide) (fun K hK => ?_)
 have hs12 : w8.cell? ⟨gb114, 1, none⟩ = some (.slice A0_1 l0_1.length c0_1) := (blk_cell BK114.out 1).trans rfl
 have hfs12 := blk_frozen BK114.out 1
 have hns12_1 := NB115_114.out
 have hms12_1 := NB114_115.out
 refine skip_ (w1 := ?_) (by rfl) rfl ?_ ?_
 rotate_left
 ·go_simp
  rfl
 refine hK.out _ _ ?_
 clear hK K
 refine done_ (done_of HT_.out (by kernel_rfl)) ?_
 have hnb13 := NB114_115.out
 have hnc13 := NB115_114.out
 obtain ⟨hcz14_0, hcz14_1, hcz14_2, hcz14_3, hfz14_0, hfz14_1, hfz14_2, hfz14_3⟩ := k4 BK114
 obtain ⟨hcz15_0, hcz15_1, hcz15_2, hcz15_3, hfz15_0, hfz15_1, hfz15_2, hfz15_3⟩ := k4 BK115
 try go_wp2
 refine bodyPost_ret (results_cell_row rfl _ _ gb115 25 #[.slice Ao9 t116.length co9, .slice Ao11 t119.length co11, .int .i64 a0_2, .bool a0_3] (0, 0) _ rfl (kP BK115) Try.underlying25 rfl (by kernel_rfl)) rfl ?_
 exact ⟨_, _, eqU, by (with_reducible repeat (first | apply Kd.R_alloc | apply Kd.R_drewN | apply Kd.R_drew)); exact Kd.R_mono (Kd.R_far (p := ⟨gb115, 3, none⟩) (Kd.R_far (p := ⟨gb115, 2, none⟩) (Kd.R_far (p := ⟨gb115, 1, none⟩) (Kd.R_far (p := ⟨gb115, 0, none⟩) (Kd.R_far (p := ⟨gb114, 1, none⟩) (Kd.R_far (p := ⟨gb114, 0, none⟩) (Kd.R_types (Kd.R_types HO118.out BK114.out (by decide)) BK115.out (by decide)) (fun _ hk => hk.1.2) (.slice Ao9 t116.length co9)) (fun _ hk => hk.1.2) (.slice Ao11 t119.length co11)) (fun _ hk => hk.2) (.slice Ao9 t116.length co9)) (fun _ hk => hk.2) (.slice Ao11 t119.length co11)) (fun _ hk => hk.2) (.int .i64 a0_2)) (fun _ hk => hk.2) (.bool a0_3)) (fun _ hk => trivial), by (with_reducible repeat (first | apply Kd.R_alloc | apply Kd.R_drewN | apply Kd.R_drew)); exact Kd.R_mono (Kd.R_far (p := ⟨gb115, 3, none⟩) (Kd.R_far (p := ⟨gb115, 2, none⟩) (Kd.R_far (p := ⟨gb115, 1, none⟩) (Kd.R_far (p := ⟨gb115, 0, none⟩) (Kd.R_far (p := ⟨gb114, 1, none⟩) (Kd.R_far (p := ⟨gb114, 0, none⟩) (Kd.R_types (Kd.R_types HO121.out BK114.out (by decide)) BK115.out (by decide)) (fun _ hk => hk.1.2) (.slice Ao9 t116.length co9)) (fun _ hk => hk.1.2) (.slice Ao11 t119.length co11)) (fun _ hk => hk.2) (.slice Ao9 t116.length co9)) (fun _ hk => hk.2) (.slice Ao11 t119.length co11)) (fun _ hk => hk.2) (.int .i64 a0_2)) (fun _ hk => hk.2) (.bool a0_3)) (fun _ hk => trivial), bU HB⟩

end Go.Proofs.Ytaocplhijfkicaa.PD
-- written by a program of this work (mk.sh, over the kit's print; stubs are proved by hand)
namespace Go.Proofs.Ytaocplhijfkicaa.PD
open Go.RowKit Go.Proofs.YtaocplhijfkicaaW.PrintWords Go.Proofs.YtaocplhijfkicaaW.PrintLast Go.Proofs.YtaocplhijfkicaaW.PrintMore
attribute [local go_sem] isSome_setCell max2_int min2_int max_two min_two   -- for this text's walks alone
set_option linter.unusedVariables false
set_option linter.unusedSimpArgs false

/-! ### dev_spend: function 27 -/
def dev_spend.f (l0_0 : List ByteArray) (l0_1 : List (S40)) (a0_2 : Int) (a0_3 : Bool) : Option (List ByteArray × (List (S40)) × Int × Bool × Int) := (dev_owned.f l0_0 l0_1 a0_2 a0_3).bind fun bt144 => (if bt144.2.2.1 = 0 then (some (bt144.1, bt144.2.1, bt144.2.2.1, true, 16)) else (if bt144.2.2.1 > 0 then (some (bt144.1, bt144.2.1, wrap64 (bt144.2.2.1 - 1), bt144.2.2.2, 0)) else (some (bt144.1, bt144.2.1, bt144.2.2.1, bt144.2.2.2, 0))))
set_option maxHeartbeats 8000000 in
set_option maxRecDepth 100000 in
theorem dev_spend.calls (A0_0 : Option Addr) (c0_0 : Nat) (l0_0 : List ByteArray) (A0_1 : Option Addr) (c0_1 : Nat) (l0_1 : List (S40)) (a0_2 : Int) (a0_3 : Bool) (r1 : List ByteArray) (r2 : List (S40)) (r3 : Int) (r4 : Bool) (r5 : Int) (w : World) (hr0_0 : Kd.C Kd.string w A0_0 l0_0.length l0_0) (hc0_0 : l0_0.length ≤ c0_0) (hr0_1 : Kd.C k40 w A0_1 l0_1.length l0_1) (hc0_1 : l0_1.length ≤ c0_1) (h : dev_spend.f l0_0 l0_1 a0_2 a0_3 = some (r1, r2, r3, r4, r5)) :
  Calls Try.prog 27 #[.agg #[.slice A0_0 l0_0.length c0_0, .slice A0_1 l0_1.length c0_1, .int .i64 a0_2, .bool a0_3]] w fun e w' => ∃ v0_ v1_ : Value, e = .returned (.tuple #[.agg #[v0_, v1_, .int .i64 r3, .bool r4], .int .i64 r5]) ∧ Kd.R Kd.string 9 w' w.heap.size (fun _ => True) v0_ r1 ∧ Kd.R k40 40 w' w.heap.size (fun _ => True) v1_ r2 ∧ Below w.heap.size w w' := by
 have hu25 := Try.underlying25
 have HR0_0 := Aside0.mk hr0_0
 have HC0_0 := Aside0.mk hc0_0
 clear hr0_0 hc0_0
 have HR0_1 := Aside0.mk hr0_1
 have HC0_1 := Aside0.mk hc0_1
 clear hr0_1 hc0_1
 have HB := Aside0.mk (Below.refl w.heap.size w)
 have H : ((dev_owned.f l0_0 l0_1 a0_2 a0_3).bind fun bt144 => (if bt144.2.2.1 = 0 then (some (bt144.1, bt144.2.1, bt144.2.2.1, true, 16)) else (if bt144.2.2.1 > 0 then (some (bt144.1, bt144.2.1, wrap64 (bt144.2.2.1 - 1), bt144.2.2.2, 0)) else (some (bt144.1, bt144.2.1, bt144.2.2.1, bt144.2.2.2, 0))))) = some (r1, r2, r3, r4, r5) := h
 clear h
 replace H := Option.bind_eq_some_iff.mp H
 obtain ⟨⟨t144, t147, t150, t151⟩, A20, H⟩ := H
 replace H : (if t150 = 0 then (some (t144, t147, t150, true, 16)) else (if t150 > 0 then (some (t144, t147, wrap64 (t150 - 1), t151, 0)) else (some (t144, t147, t150, t151, 0)))) = some (r1, r2, r3, r4, r5) := H
 have A2 := Aside0.mk A20
 clear A20
 by_cases c3 : t150 = 0
 ·rw [if_pos c3] at H
  have c3b0 : (t150 == 0) = true := beq_iff_eq.mpr c3
  have c3b1 : (t150 != 0) = false := bne_eq_false_iff_eq.mpr c3
  clear c3
  simp only [Option.some.injEq, Prod.mk.injEq] at H
  obtain ⟨rfl, rfl, rfl, rfl, rfl⟩ := H
  go_enter Try.func27, Try.ntmps27
  go_wp2_with (first | ((with_reducible refine gate_dst (N := 1) rfl ?_); refine box_event ?hg (N := 1) ?hd (cs := #[.slice A0_0 l0_0.length c0_0, .slice A0_1 l0_1.length c0_1, .int .i64 a0_2, .bool a0_3]) (t := 25) ?hr ?_; (case hd => rfl); (case hg => rfl); (case hr => first | (go_simp; done) | (go_simp; rfl)); intro gb142 hg w4 hbox hb; have n0_ := Aside0.mk (below_step (bU HB) hb); have n1_ := Aside0.mk (hbox); have n2_ := Aside0.mk ((by rw [hg]; exact (below_size (bU HB)) : w.heap.size ≤ gb142)); have n3_ := Aside0.mk ((by rw [hg]; exact (below_size (bU HB)) : w.heap.size ≤ gb142)); clear HB; have HB := n0_; have BK142 := n1_; have GW142 := n2_; have GE142 := n3_; clear n0_ n1_ n2_ n3_; clear hb hbox hg) | ((with_reducible refine gate_dst (N := 2) rfl ?_); refine box_event ?hg (N := 2) ?hd (cs := #[.slice none 0 0, .slice none 0 0, .int .i64 0, .bool false]) (t := 25) ?hr ?_; (case hd => rfl); (case hg => rfl); (case hr => first | (go_simp; done) | (go_simp; rfl)); intro gb143 hg w5 hbox hb; have n0_ := Aside0.mk (blk_below (kU BK142) hb); have n1_ := Aside0.mk (below_step (bU HB) hb); have n2_ := Aside0.mk (hbox); have n3_ := Aside0.mk ((by rw [hg]; exact (below_size (bU HB)) : w.heap.size ≤ gb143)); have n4_ := Aside0.mk ((by rw [hg]; exact (below_size (bU HB)) : w.heap.size ≤ gb143)); have n5_ := Aside0.mk ((by rw [hg]; exact Nat.ne_of_lt (blk_lt (g := gb142) (o := .cells #[.slice A0_0 l0_0.length c0_0, .slice A0_1 l0_1.length c0_1, .int .i64 a0_2, .bool a0_3] 25 (0, 0)) (kU BK142)) : gb142 ≠ gb143)); have n6_ := Aside0.mk ((by rw [hg]; exact Nat.ne_of_gt (blk_lt (g := gb142) (o := .cells #[.slice A0_0 l0_0.length c0_0, .slice A0_1 l0_1.length c0_1, .int .i64 a0_2, .bool a0_3] 25 (0, 0)) (kU BK142)) : gb143 ≠ gb142)); clear BK142; clear HB; have BK142 := n0_; have HB := n1_; have BK143 := n2_; have GW143 := n3_; have GE143 := n4_; have NB142_143 := n5_; have NB143_142 := n6_; clear n0_ n1_ n2_ n3_ n4_ n5_ n6_; clear hb hbox hg; have hnb6 := NB142_143.out; have hnc6 := NB143_142.out; have hcz7_0 : w5.cell? ⟨gb142, 0, none⟩ = some (.slice A0_0 l0_0.length c0_0) := (blk_cell BK142.out 0).trans rfl; have hcz7_1 : w5.cell? ⟨gb142, 1, none⟩ = some (.slice A0_1 l0_1.length c0_1) := (blk_cell BK142.out 1).trans rfl; have hcz7_2 : w5.cell? ⟨gb142, 2, none⟩ = some (.int .i64 a0_2) := (blk_cell BK142.out 2).trans rfl; have hcz7_3 : w5.cell? ⟨gb142, 3, none⟩ = some (.bool a0_3) := (blk_cell BK142.out 3).trans rfl; have hfz7_0 := blk_frozen BK142.out 0; have hfz7_1 := blk_frozen BK142.out 1; have hfz7_2 := blk_frozen BK142.out 2; have hfz7_3 := blk_frozen BK142.out 3) | ((with_reducible refine gate_callee (f := 26) rfl ?_); refine goesL_ (some 5) rfl rfl Try.func26 (by kernel_rfl) rfl #[.agg #[.slice A0_0 l0_0.length c0_0, .slice A0_1 l0_1.length c0_1, .int .i64 a0_2, .bool a0_3]] rfl (by (try simp only [List.map_toArray, List.map_cons, List.map_nil]); first | done | rfl | (simp only [List.length_drop, List.length_take]; rfl)) ?_; (with_reducible refine (dev_owned.calls _ _ l0_0 _ _ l0_1 a0_2 a0_3 t144 t147 t150 t151 _ ?side1 ?side2 ?side3 ?side4 A2.out).mono ?_); (case side1 => exact cU (Kd.C_below HR0_0.out HB.out)); (case side2 => exact HC0_0.out); (case side3 => exact cU (Kd.C_below HR0_1.out HB.out)); (case side4 => exact HC0_1.out); rintro e w8 ⟨v145, v148, rfl, ho0, ho1, hb⟩; refine ⟨_, rfl, ?_⟩; have n0_ := Aside0.mk (Kd.R_lower ho0 (below_size (bU HB))); have n1_ := Aside0.mk (Kd.R_lower ho1 (below_size (bU HB))); have n2_ := Aside0.mk (blk_below (kU BK142) hb); have n3_ := Aside0.mk (blk_below (kU BK143) hb); have n4_ := Aside0.mk (below_step (bU HB) hb); clear BK142; clear BK143; clear HB; have HO146 := n0_; have HO149 := n1_; have BK142 := n2_; have BK143 := n3_; have HB := n4_; clear n0_ n1_ n2_ n3_ n4_; (try clear hb); (try clear hb2); (try clear hk); (try clear hi); (try clear ho0); (try clear ho1); obtain ⟨Ao9, co9, eo9⟩ := Kd.R_slice HO146.out; subst eo9; have hcz10_0 : w8.cell? ⟨gb142, 0, none⟩ = some (.slice A0_0 l0_0.length c0_0) := (blk_cell BK142.out 0).trans rfl; have hcz10_1 : w8.cell? ⟨gb142, 1, none⟩ = some (.slice A0_1 l0_1.length c0_1) := (blk_cell BK142.out 1).trans rfl; have hcz10_2 : w8.cell? ⟨gb142, 2, none⟩ = some (.int .i64 a0_2) := (blk_cell BK142.out 2).trans rfl; have hcz10_3 : w8.cell? ⟨gb142, 3, none⟩ = some (.bool a0_3) := (blk_cell BK142.out 3).trans rfl; have hfz10_0 := blk_frozen BK142.out 0; have hfz10_1 := blk_frozen BK142.out 1; have hfz10_2 := blk_frozen BK142.out 2; have hfz10_3 := blk_frozen BK142.out 3; obtain ⟨Ao11, co11, eo11⟩ := Kd.R_slice HO149.out; subst eo11; have hcz12_0 : w8.cell? ⟨gb143, 0, none⟩ = some (.slice none 0 0) := (blk_cell BK143.out 0).trans rfl; have hcz12_1 : w8.cell? ⟨gb143, 1, none⟩ = some (.slice none 0 0) := (blk_cell BK143.out 1).trans rfl; have hcz12_2 : w8.cell? ⟨gb143, 2, none⟩ = some (.int .i64 0) := (blk_cell BK143.out 2).trans rfl; have hcz12_3 : w8.cell? ⟨gb143, 3, none⟩ = some (.bool false) := (blk_cell BK143.out 3).trans rfl; have hfz12_0 := blk_frozen BK143.out 0; have hfz12_1 := blk_frozen BK143.out 1; have hfz12_2 := blk_frozen BK143.out 2; have hfz12_3 := blk_frozen BK143.out 3))
  refine bodyPost_ret (results_ct rfl _ _ gb143 25 #[.slice Ao9 t144.length co9, .slice Ao11 t147.length co11, .int .i64 t150, .bool true] (0, 0) _ rfl (kP BK143) Try.underlying25 rfl (by kernel_rfl)) rfl ?_
  exact ⟨_, _, eqU, by (with_reducible repeat (first | apply Kd.R_alloc | apply Kd.R_drewN | apply Kd.R_drew)); exact Kd.R_mono (Kd.R_far (p := ⟨gb143, 3, none⟩) (Kd.R_far (p := ⟨gb143, 2, none⟩) (Kd.R_far (p := ⟨gb143, 1, none⟩) (Kd.R_far (p := ⟨gb143, 0, none⟩) (Kd.R_far (p := ⟨gb142, 3, none⟩) (Kd.R_far (p := ⟨gb142, 3, none⟩) (Kd.R_far (p := ⟨gb142, 2, none⟩) (Kd.R_far (p := ⟨gb142, 1, none⟩) (Kd.R_far (p := ⟨gb142, 0, none⟩) (Kd.R_types (Kd.R_types HO146.out BK142.out (by decide)) BK143.out (by decide)) (fun _ hk => hk.1.2) (.slice Ao9 t144.length co9)) (fun _ hk => hk.1.2) (.slice Ao11 t147.length co11)) (fun _ hk => hk.1.2) (.int .i64 t150)) (fun _ hk => hk.1.2) (.bool t151)) (fun _ hk => hk.1.2) (.bool true)) (fun _ hk => hk.2) (.slice Ao9 t144.length co9)) (fun _ hk => hk.2) (.slice Ao11 t147.length co11)) (fun _ hk => hk.2) (.int .i64 t150)) (fun _ hk => hk.2) (.bool true)) (fun _ hk => trivial), by (with_reducible repeat (first | apply Kd.R_alloc | apply Kd.R_drewN | apply Kd.R_drew)); exact Kd.R_mono (Kd.R_far (p := ⟨gb143, 3, none⟩) (Kd.R_far (p := ⟨gb143, 2, none⟩) (Kd.R_far (p := ⟨gb143, 1, none⟩) (Kd.R_far (p := ⟨gb143, 0, none⟩) (Kd.R_far (p := ⟨gb142, 3, none⟩) (Kd.R_far (p := ⟨gb142, 3, none⟩) (Kd.R_far (p := ⟨gb142, 2, none⟩) (Kd.R_far (p := ⟨gb142, 1, none⟩) (Kd.R_far (p := ⟨gb142, 0, none⟩) (Kd.R_types (Kd.R_types HO149.out BK142.out (by decide)) BK143.out (by decide)) (fun _ hk => hk.1.2) (.slice Ao9 t144.length co9)) (fun _ hk => hk.1.2) (.slice Ao11 t147.length co11)) (fun _ hk => hk.1.2) (.int .i64 t150)) (fun _ hk => hk.1.2) (.bool t151)) (fun _ hk => hk.1.2) (.bool true)) (fun _ hk => hk.2) (.slice Ao9 t144.length co9)) (fun _ hk => hk.2) (.slice Ao11 t147.length co11)) (fun _ hk => hk.2) (.int .i64 t150)) (fun _ hk => hk.2) (.bool true)) (fun _ hk => trivial), bU HB⟩
 ·rw [if_neg c3] at H
  have c3b0 : (t150 == 0) = false := beq_eq_false_iff_ne.mpr c3
  have c3b1 : (t150 != 0) = true := bne_iff_ne.mpr c3
  by_cases c13 : t150 > 0
  ·rw [if_pos c13] at H
   have c13b0 : decide (0 < t150) = true := decide_eq_true c13
   clear c13
   simp only [Option.some.injEq, Prod.mk.injEq] at H
   obtain ⟨rfl, rfl, rfl, rfl, rfl⟩ := H
   go_enter Try.func27, Try.ntmps27
   go_wp2_with (first | ((with_reducible refine gate_dst (N := 1) rfl ?_); refine box_event ?hg (N := 1) ?hd (cs := #[.slice A0_0 l0_0.length c0_0, .slice A0_1 l0_1.length c0_1, .int .i64 a0_2, .bool a0_3]) (t := 25) ?hr ?_; (case hd => rfl); (case hg => rfl); (case hr => first | (go_simp; done) | (go_simp; rfl)); intro gb142 hg w14 hbox hb; have n0_ := Aside0.mk (below_step (bU HB) hb); have n1_ := Aside0.mk (hbox); have n2_ := Aside0.mk ((by rw [hg]; exact (below_size (bU HB)) : w.heap.size ≤ gb142)); have n3_ := Aside0.mk ((by rw [hg]; exact (below_size (bU HB)) : w.heap.size ≤ gb142)); clear HB; have HB := n0_; have BK142 := n1_; have GW142 := n2_; have GE142 := n3_; clear n0_ n1_ n2_ n3_; clear hb hbox hg) | ((with_reducible refine gate_dst (N := 2) rfl ?_); refine box_event ?hg (N := 2) ?hd (cs := #[.slice none 0 0, .slice none 0 0, .int .i64 0, .bool false]) (t := 25) ?hr ?_; (case hd => rfl); (case hg => rfl); (case hr => first | (go_simp; done) | (go_simp; rfl)); intro gb143 hg w15 hbox hb; have n0_ := Aside0.mk (blk_below (kU BK142) hb); have n1_ := Aside0.mk (below_step (bU HB) hb); have n2_ := Aside0.mk (hbox); have n3_ := Aside0.mk ((by rw [hg]; exact (below_size (bU HB)) : w.heap.size ≤ gb143)); have n4_ := Aside0.mk ((by rw [hg]; exact (below_size (bU HB)) : w.heap.size ≤ gb143)); have n5_ := Aside0.mk ((by rw [hg]; exact Nat.ne_of_lt (blk_lt (g := gb142) (o := .cells #[.slice A0_0 l0_0.length c0_0, .slice A0_1 l0_1.length c0_1, .int .i64 a0_2, .bool a0_3] 25 (0, 0)) (kU BK142)) : gb142 ≠ gb143)); have n6_ := Aside0.mk ((by rw [hg]; exact Nat.ne_of_gt (blk_lt (g := gb142) (o := .cells #[.slice A0_0 l0_0.length c0_0, .slice A0_1 l0_1.length c0_1, .int .i64 a0_2, .bool a0_3] 25 (0, 0)) (kU BK142)) : gb143 ≠ gb142)); clear BK142; clear HB; have BK142 := n0_; have HB := n1_; have BK143 := n2_; have GW143 := n3_; have GE143 := n4_; have NB142_143 := n5_; have NB143_142 := n6_; clear n0_ n1_ n2_ n3_ n4_ n5_ n6_; clear hb hbox hg; have hnb16 := NB142_143.out; have hnc16 := NB143_142.out; have hcz17_0 : w15.cell? ⟨gb142, 0, none⟩ = some (.slice A0_0 l0_0.length c0_0) := (blk_cell BK142.out 0).trans rfl; have hcz17_1 : w15.cell? ⟨gb142, 1, none⟩ = some (.slice A0_1 l0_1.length c0_1) := (blk_cell BK142.out 1).trans rfl; have hcz17_2 : w15.cell? ⟨gb142, 2, none⟩ = some (.int .i64 a0_2) := (blk_cell BK142.out 2).trans rfl; have hcz17_3 : w15.cell? ⟨gb142, 3, none⟩ = some (.bool a0_3) := (blk_cell BK142.out 3).trans rfl; have hfz17_0 := blk_frozen BK142.out 0; have hfz17_1 := blk_frozen BK142.out 1; have hfz17_2 := blk_frozen BK142.out 2; have hfz17_3 := blk_frozen BK142.out 3) | ((with_reducible refine gate_callee (f := 26) rfl ?_); refine goesL_ (some 5) rfl rfl Try.func26 (by kernel_rfl) rfl #[.agg #[.slice A0_0 l0_0.length c0_0, .slice A0_1 l0_1.length c0_1, .int .i64 a0_2, .bool a0_3]] rfl (by (try simp only [List.map_toArray, List.map_cons, List.map_nil]); first | done | rfl | (simp only [List.length_drop, List.length_take]; rfl)) ?_; (with_reducible refine (dev_owned.calls _ _ l0_0 _ _ l0_1 a0_2 a0_3 t144 t147 t150 t151 _ ?side1 ?side2 ?side3 ?side4 A2.out).mono ?_); (case side1 => exact cU (Kd.C_below HR0_0.out HB.out)); (case side2 => exact HC0_0.out); (case side3 => exact cU (Kd.C_below HR0_1.out HB.out)); (case side4 => exact HC0_1.out); rintro e w18 ⟨v145, v148, rfl, ho0, ho1, hb⟩; refine ⟨_, rfl, ?_⟩; have n0_ := Aside0.mk (Kd.R_lower ho0 (below_size (bU HB))); have n1_ := Aside0.mk (Kd.R_lower ho1 (below_size (bU HB))); have n2_ := Aside0.mk (blk_below (kU BK142) hb); have n3_ := Aside0.mk (blk_below (kU BK143) hb); have n4_ := Aside0.mk (below_step (bU HB) hb); clear BK142; clear BK143; clear HB; have HO146 := n0_; have HO149 := n1_; have BK142 := n2_; have BK143 := n3_; have HB := n4_; clear n0_ n1_ n2_ n3_ n4_; (try clear hb); (try clear hb2); (try clear hk); (try clear hi); (try clear ho0); (try clear ho1); obtain ⟨Ao19, co19, eo19⟩ := Kd.R_slice HO146.out; subst eo19; have hcz20_0 : w18.cell? ⟨gb142, 0, none⟩ = some (.slice A0_0 l0_0.length c0_0) := (blk_cell BK142.out 0).trans rfl; have hcz20_1 : w18.cell? ⟨gb142, 1, none⟩ = some (.slice A0_1 l0_1.length c0_1) := (blk_cell BK142.out 1).trans rfl; have hcz20_2 : w18.cell? ⟨gb142, 2, none⟩ = some (.int .i64 a0_2) := (blk_cell BK142.out 2).trans rfl; have hcz20_3 : w18.cell? ⟨gb142, 3, none⟩ = some (.bool a0_3) := (blk_cell BK142.out 3).trans rfl; have hfz20_0 := blk_frozen BK142.out 0; have hfz20_1 := blk_frozen BK142.out 1; have hfz20_2 := blk_frozen BK142.out 2; have hfz20_3 := blk_frozen BK142.out 3; obtain ⟨Ao21, co21, eo21⟩ := Kd.R_slice HO149.out; subst eo21; have hcz22_0 : w18.cell? ⟨gb143, 0, none⟩ = some (.slice none 0 0) := (blk_cell BK143.out 0).trans rfl; have hcz22_1 : w18.cell? ⟨gb143, 1, none⟩ = some (.slice none 0 0) := (blk_cell BK143.out 1).trans rfl; have hcz22_2 : w18.cell? ⟨gb143, 2, none⟩ = some (.int .i64 0) := (blk_cell BK143.out 2).trans rfl; have hcz22_3 : w18.cell? ⟨gb143, 3, none⟩ = some (.bool false) := (blk_cell BK143.out 3).trans rfl; have hfz22_0 := blk_frozen BK143.out 0; have hfz22_1 := blk_frozen BK143.out 1; have hfz22_2 := blk_frozen BK143.out 2; have hfz22_3 := blk_frozen BK143.out 3))
   refine bodyPost_ret (results_ct rfl _ _ gb143 25 #[.slice Ao19 t144.length co19, .slice Ao21 t147.length co21, .int .i64 (wrap64 (t150 - 1)), .bool t151] (0, 0) _ rfl (kP BK143) Try.underlying25 rfl (by kernel_rfl)) rfl ?_
   exact ⟨_, _, eqU, by (with_reducible repeat (first | apply Kd.R_alloc | apply Kd.R_drewN | apply Kd.R_drew)); exact Kd.R_mono (Kd.R_far (p := ⟨gb143, 3, none⟩) (Kd.R_far (p := ⟨gb143, 2, none⟩) (Kd.R_far (p := ⟨gb143, 1, none⟩) (Kd.R_far (p := ⟨gb143, 0, none⟩) (Kd.R_far (p := ⟨gb142, 2, none⟩) (Kd.R_far (p := ⟨gb142, 3, none⟩) (Kd.R_far (p := ⟨gb142, 2, none⟩) (Kd.R_far (p := ⟨gb142, 1, none⟩) (Kd.R_far (p := ⟨gb142, 0, none⟩) (Kd.R_types (Kd.R_types HO146.out BK142.out (by decide)) BK143.out (by decide)) (fun _ hk => hk.1.2) (.slice Ao19 t144.length co19)) (fun _ hk => hk.1.2) (.slice Ao21 t147.length co21)) (fun _ hk => hk.1.2) (.int .i64 t150)) (fun _ hk => hk.1.2) (.bool t151)) (fun _ hk => hk.1.2) (.int .i64 (wrap64 (t150 - 1)))) (fun _ hk => hk.2) (.slice Ao19 t144.length co19)) (fun _ hk => hk.2) (.slice Ao21 t147.length co21)) (fun _ hk => hk.2) (.int .i64 (wrap64 (t150 - 1)))) (fun _ hk => hk.2) (.bool t151)) (fun _ hk => trivial), by (with_reducible repeat (first | apply Kd.R_alloc | apply Kd.R_drewN | apply Kd.R_drew)); exact Kd.R_mono (Kd.R_far (p := ⟨gb143, 3, none⟩) (Kd.R_far (p := ⟨gb143, 2, none⟩) (Kd.R_far (p := ⟨gb143, 1, none⟩) (Kd.R_far (p := ⟨gb143, 0, none⟩) (Kd.R_far (p := ⟨gb142, 2, none⟩) (Kd.R_far (p := ⟨gb142, 3, none⟩) (Kd.R_far (p := ⟨gb142, 2, none⟩) (Kd.R_far (p := ⟨gb142, 1, none⟩) (Kd.R_far (p := ⟨gb142, 0, none⟩) (Kd.R_types (Kd.R_types HO149.out BK142.out (by decide)) BK143.out (by decide)) (fun _ hk => hk.1.2) (.slice Ao19 t144.length co19)) (fun _ hk => hk.1.2) (.slice Ao21 t147.length co21)) (fun _ hk => hk.1.2) (.int .i64 t150)) (fun _ hk => hk.1.2) (.bool t151)) (fun _ hk => hk.1.2) (.int .i64 (wrap64 (t150 - 1)))) (fun _ hk => hk.2) (.slice Ao19 t144.length co19)) (fun _ hk => hk.2) (.slice Ao21 t147.length co21)) (fun _ hk => hk.2) (.int .i64 (wrap64 (t150 - 1)))) (fun _ hk => hk.2) (.bool t151)) (fun _ hk => trivial), bU HB⟩
  ·rw [if_neg c13] at H
   have c13b0 : decide (0 < t150) = false := decide_eq_false c13
   clear c13
   simp only [Option.some.injEq, Prod.mk.injEq] at H
   obtain ⟨rfl, rfl, rfl, rfl, rfl⟩ := H
   go_enter Try.func27, Try.ntmps27
   go_wp2_with (first | ((with_reducible refine gate_dst (N := 1) rfl ?_); refine box_event ?hg (N := 1) ?hd (cs := #[.slice A0_0 l0_0.length c0_0, .slice A0_1 l0_1.length c0_1, .int .i64 a0_2, .bool a0_3]) (t := 25) ?hr ?_; (case hd => rfl); (case hg => rfl); (case hr => first | (go_simp; done) | (go_simp; rfl)); intro gb142 hg w23 hbox hb; have n0_ := Aside0.mk (below_step (bU HB) hb); have n1_ := Aside0.mk (hbox); have n2_ := Aside0.mk ((by rw [hg]; exact (below_size (bU HB)) : w.heap.size ≤ gb142)); have n3_ := Aside0.mk ((by rw [hg]; exact (below_size (bU HB)) : w.heap.size ≤ gb142)); clear HB; have HB := n0_; have BK142 := n1_; have GW142 := n2_; have GE142 := n3_; clear n0_ n1_ n2_ n3_; clear hb hbox hg) | ((with_reducible refine gate_dst (N := 2) rfl ?_); refine box_event ?hg (N := 2) ?hd (cs := #[.slice none 0 0, .slice none 0 0, .int .i64 0, .bool false]) (t := 25) ?hr ?_; (case hd => rfl); (case hg => rfl); (case hr => first | (go_simp; done) | (go_simp; rfl)); intro gb143 hg w24 hbox hb; have n0_ := Aside0.mk (blk_below (kU BK142) hb); have n1_ := Aside0.mk (below_step (bU HB) hb); have n2_ := Aside0.mk (hbox); have n3_ := Aside0.mk ((by rw [hg]; exact (below_size (bU HB)) : w.heap.size ≤ gb143)); have n4_ := Aside0.mk ((by rw [hg]; exact (below_size (bU HB)) : w.heap.size ≤ gb143)); have n5_ := Aside0.mk ((by rw [hg]; exact Nat.ne_of_lt (blk_lt (g := gb142) (o := .cells #[.slice A0_0 l0_0.length c0_0, .slice A0_1 l0_1.length c0_1, .int .i64 a0_2, .bool a0_3] 25 (0, 0)) (kU BK142)) : gb142 ≠ gb143)); have n6_ := Aside0.mk ((by rw [hg]; exact Nat.ne_of_gt (blk_lt (g := gb142) (o := .cells #[.slice A0_0 l0_0.length c0_0, .slice A0_1 l0_1.length c0_1, .int .i64 a0_2, .bool a0_3] 25 (0, 0)) (kU BK142)) : gb143 ≠ gb142)); clear BK142; clear HB; have BK142 := n0_; have HB := n1_; have BK143 := n2_; have GW143 := n3_; have GE143 := n4_; have NB142_143 := n5_; have NB143_142 := n6_; clear n0_ n1_ n2_ n3_ n4_ n5_ n6_; clear hb hbox hg; have hnb25 := NB142_143.out; have hnc25 := NB143_142.out; have hcz26_0 : w24.cell? ⟨gb142, 0, none⟩ = some (.slice A0_0 l0_0.length c0_0) := (blk_cell BK142.out 0).trans rfl; have hcz26_1 : w24.cell? ⟨gb142, 1, none⟩ = some (.slice A0_1 l0_1.length c0_1) := (blk_cell BK142.out 1).trans rfl; have hcz26_2 : w24.cell? ⟨gb142, 2, none⟩ = some (.int .i64 a0_2) := (blk_cell BK142.out 2).trans rfl; have hcz26_3 : w24.cell? ⟨gb142, 3, none⟩ = some (.bool a0_3) := (blk_cell BK142.out 3).trans rfl; have hfz26_0 := blk_frozen BK142.out 0; have hfz26_1 := blk_frozen BK142.out 1; have hfz26_2 := blk_frozen BK142.out 2; have hfz26_3 := blk_frozen BK142.out 3) | ((with_reducible refine gate_callee (f := 26) rfl ?_); refine goesL_ (some 5) rfl rfl Try.func26 (by kernel_rfl) rfl #[.agg #[.slice A0_0 l0_0.length c0_0, .slice A0_1 l0_1.length c0_1, .int .i64 a0_2, .bool a0_3]] rfl (by (try simp only [List.map_toArray, List.map_cons, List.map_nil]); first | done | rfl | (simp only [List.length_drop, List.length_take]; rfl)) ?_; (with_reducible refine (dev_owned.calls _ _ l0_0 _ _ l0_1 a0_2 a0_3 t144 t147 t150 t151 _ ?side1 ?side2 ?side3 ?side4 A2.out).mono ?_); (case side1 => exact cU (Kd.C_below HR0_0.out HB.out)); (case side2 => exact HC0_0.out); (case side3 => exact cU (Kd.C_below HR0_1.out HB.out)); (case side4 => exact HC0_1.out); rintro e w27 ⟨v145, v148, rfl, ho0, ho1, hb⟩; refine ⟨_, rfl, ?_⟩; have n0_ := Aside0.mk (Kd.R_lower ho0 (below_size (bU HB))); have n1_ := Aside0.mk (Kd.R_lower ho1 (below_size (bU HB))); have n2_ := Aside0.mk (blk_below (kU BK142) hb); have n3_ := Aside0.mk (blk_below (kU BK143) hb); have n4_ := Aside0.mk (below_step (bU HB) hb); clear BK142; clear BK143; clear HB; have HO146 := n0_; have HO149 := n1_; have BK142 := n2_; have BK143 := n3_; have HB := n4_; clear n0_ n1_ n2_ n3_ n4_; (try clear hb); (try clear hb2); (try clear hk); (try clear hi); (try clear ho0); (try clear ho1); obtain ⟨Ao28, co28, eo28⟩ := Kd.R_slice HO146.out; subst eo28; have hcz29_0 : w27.cell? ⟨gb142, 0, none⟩ = some (.slice A0_0 l0_0.length c0_0) := (blk_cell BK142.out 0).trans rfl; have hcz29_1 : w27.cell? ⟨gb142, 1, none⟩ = some (.slice A0_1 l0_1.length c0_1) := (blk_cell BK142.out 1).trans rfl; have hcz29_2 : w27.cell? ⟨gb142, 2, none⟩ = some (.int .i64 a0_2) := (blk_cell BK142.out 2).trans rfl; have hcz29_3 : w27.cell? ⟨gb142, 3, none⟩ = some (.bool a0_3) := (blk_cell BK142.out 3).trans rfl; have hfz29_0 := blk_frozen BK142.out 0; have hfz29_1 := blk_frozen BK142.out 1; have hfz29_2 := blk_frozen BK142.out 2; have hfz29_3 := blk_frozen BK142.out 3; obtain ⟨Ao30, co30, eo30⟩ := Kd.R_slice HO149.out; subst eo30; have hcz31_0 : w27.cell? ⟨gb143, 0, none⟩ = some (.slice none 0 0) := (blk_cell BK143.out 0).trans rfl; have hcz31_1 : w27.cell? ⟨gb143, 1, none⟩ = some (.slice none 0 0) := (blk_cell BK143.out 1).trans rfl; have hcz31_2 : w27.cell? ⟨gb143, 2, none⟩ = some (.int .i64 0) := (blk_cell BK143.out 2).trans rfl; have hcz31_3 : w27.cell? ⟨gb143, 3, none⟩ = some (.bool false) := (blk_cell BK143.out 3).trans rfl; have hfz31_0 := blk_frozen BK143.out 0; have hfz31_1 := blk_frozen BK143.out 1; have hfz31_2 := blk_frozen BK143.out 2; have hfz31_3 := blk_frozen BK143.out 3))
   refine bodyPost_ret (results_ct rfl _ _ gb143 25 #[.slice Ao28 t144.length co28, .slice Ao30 t147.length co30, .int .i64 t150, .bool t151] (0, 0) _ rfl (kP BK143) Try.underlying25 rfl (by kernel_rfl)) rfl ?_
   exact ⟨_, _, eqU, by (with_reducible repeat (first | apply Kd.R_alloc | apply Kd.R_drewN | apply Kd.R_drew)); exact Kd.R_mono (Kd.R_far (p := ⟨gb143, 3, none⟩) (Kd.R_far (p := ⟨gb143, 2, none⟩) (Kd.R_far (p := ⟨gb143, 1, none⟩) (Kd.R_far (p := ⟨gb143, 0, none⟩) (Kd.R_far (p := ⟨gb142, 3, none⟩) (Kd.R_far (p := ⟨gb142, 2, none⟩) (Kd.R_far (p := ⟨gb142, 1, none⟩) (Kd.R_far (p := ⟨gb142, 0, none⟩) (Kd.R_types (Kd.R_types HO146.out BK142.out (by decide)) BK143.out (by decide)) (fun _ hk => hk.1.2) (.slice Ao28 t144.length co28)) (fun _ hk => hk.1.2) (.slice Ao30 t147.length co30)) (fun _ hk => hk.1.2) (.int .i64 t150)) (fun _ hk => hk.1.2) (.bool t151)) (fun _ hk => hk.2) (.slice Ao28 t144.length co28)) (fun _ hk => hk.2) (.slice Ao30 t147.length co30)) (fun _ hk => hk.2) (.int .i64 t150)) (fun _ hk => hk.2) (.bool t151)) (fun _ hk => trivial), by (with_reducible repeat (first | apply Kd.R_alloc | apply Kd.R_drewN | apply Kd.R_drew)); exact Kd.R_mono (Kd.R_far (p := ⟨gb143, 3, none⟩) (Kd.R_far (p := ⟨gb143, 2, none⟩) (Kd.R_far (p := ⟨gb143, 1, none⟩) (Kd.R_far (p := ⟨gb143, 0, none⟩) (Kd.R_far (p := ⟨gb142, 3, none⟩) (Kd.R_far (p := ⟨gb142, 2, none⟩) (Kd.R_far (p := ⟨gb142, 1, none⟩) (Kd.R_far (p := ⟨gb142, 0, none⟩) (Kd.R_types (Kd.R_types HO149.out BK142.out (by decide)) BK143.out (by decide)) (fun _ hk => hk.1.2) (.slice Ao28 t144.length co28)) (fun _ hk => hk.1.2) (.slice Ao30 t147.length co30)) (fun _ hk => hk.1.2) (.int .i64 t150)) (fun _ hk => hk.1.2) (.bool t151)) (fun _ hk => hk.2) (.slice Ao28 t144.length co28)) (fun _ hk => hk.2) (.slice Ao30 t147.length co30)) (fun _ hk => hk.2) (.int .i64 t150)) (fun _ hk => hk.2) (.bool t151)) (fun _ hk => trivial), bU HB⟩

end Go.Proofs.Ytaocplhijfkicaa.PD
-- written by a program of this work (mk.sh, over the kit's print; stubs are proved by hand)
namespace Go.Proofs.Ytaocplhijfkicaa.PD
open Go.RowKit Go.Proofs.YtaocplhijfkicaaW.PrintWords Go.Proofs.YtaocplhijfkicaaW.PrintLast Go.Proofs.YtaocplhijfkicaaW.PrintMore
attribute [local go_sem] isSome_setCell max2_int min2_int max_two min_two   -- for this text's walks alone
set_option linter.unusedVariables false
set_option linter.unusedSimpArgs false

/-! ### dev_FlushF: function 10 -/
def dev_FlushF.f (k : Nat) (l0_0 : List ByteArray) (l0_1 : List (S40)) (a0_2 : Int) (a0_3 : Bool) : Option (List ByteArray × (List (S40)) × Int × Bool × Int) := if a0_3 = true then ((dev_owned.f l0_0 l0_1 a0_2 a0_3).bind fun bt344 => (some (bt344.1, bt344.2.1, bt344.2.2.1, bt344.2.2.2, 17))) else ((dev_spend.f l0_0 l0_1 a0_2 a0_3).bind fun bt352 => (if bt352.2.2.2.2 = 0 then ((dev_doneF.f k bt352.1 bt352.2.1 bt352.2.2.1 bt352.2.2.2.1).bind fun bt362 => (some (bt362.1, bt362.2.1, bt362.2.2.1, bt362.2.2.2, 0))) else (some (bt352.1, bt352.2.1, bt352.2.2.1, bt352.2.2.2.1, bt352.2.2.2.2))))
theorem dev_FlushF.mono : ∀ a0 a1 a2 a3 k, LeO (dev_FlushF.f k a0 a1 a2 a3) (dev_FlushF.f (k + 1) a0 a1 a2 a3) := by
 intro a0 a1 a2 a3 k
 unfold dev_FlushF.f
 repeat' first
   | (with_reducible exact dev_doneF.mono _ _ _ _ _)
   | (with_reducible exact LeO.refl _)
   | (with_reducible exact LeO.none _)
   | (with_reducible refine LeO.ite ?_ ?_)
   | (with_reducible refine LeO.bind ?_ (fun _ => ?_))
   | exact dev_doneF.mono _ _ _ _ _
   | exact LeO.none _
   | refine LeO.ite ?_ ?_
   | refine LeO.bind ?_ (fun _ => ?_)
set_option maxHeartbeats 8000000 in
set_option maxRecDepth 100000 in
theorem dev_FlushF.calls (k : Nat) (A0_0 : Option Addr) (c0_0 : Nat) (l0_0 : List ByteArray) (A0_1 : Option Addr) (c0_1 : Nat) (l0_1 : List (S40)) (a0_2 : Int) (a0_3 : Bool) (r1 : List ByteArray) (r2 : List (S40)) (r3 : Int) (r4 : Bool) (r5 : Int) (w : World) (hr0_0 : Kd.C Kd.string w A0_0 l0_0.length l0_0) (hc0_0 : l0_0.length ≤ c0_0) (hr0_1 : Kd.C k40 w A0_1 l0_1.length l0_1) (hc0_1 : l0_1.length ≤ c0_1) (h : dev_FlushF.f k l0_0 l0_1 a0_2 a0_3 = some (r1, r2, r3, r4, r5)) :
  Calls Try.prog 10 #[.agg #[.slice A0_0 l0_0.length c0_0, .slice A0_1 l0_1.length c0_1, .int .i64 a0_2, .bool a0_3]] w fun e w' => ∃ v0_ v1_ : Value, e = .returned (.tuple #[.agg #[v0_, v1_, .int .i64 r3, .bool r4], .int .i64 r5]) ∧ Kd.R Kd.string 9 w' w.heap.size (fun _ => True) v0_ r1 ∧ Kd.R k40 40 w' w.heap.size (fun _ => True) v1_ r2 ∧ Below w.heap.size w w' := by
 have hu25 := Try.underlying25
 have HR0_0 := Aside0.mk hr0_0
 have HC0_0 := Aside0.mk hc0_0
 clear hr0_0 hc0_0
 have HR0_1 := Aside0.mk hr0_1
 have HC0_1 := Aside0.mk hc0_1
 clear hr0_1 hc0_1
 have HB := Aside0.mk (Below.refl w.heap.size w)
 have H : (if a0_3 = true then ((dev_owned.f l0_0 l0_1 a0_2 a0_3).bind fun bt344 => (some (bt344.1, bt344.2.1, bt344.2.2.1, bt344.2.2.2, 17))) else ((dev_spend.f l0_0 l0_1 a0_2 a0_3).bind fun bt352 => (if bt352.2.2.2.2 = 0 then ((dev_doneF.f k bt352.1 bt352.2.1 bt352.2.2.1 bt352.2.2.2.1).bind fun bt362 => (some (bt362.1, bt362.2.1, bt362.2.2.1, bt362.2.2.2, 0))) else (some (bt352.1, bt352.2.1, bt352.2.2.1, bt352.2.2.2.1, bt352.2.2.2.2))))) = some (r1, r2, r3, r4, r5) := h
 clear h
 by_cases c2 : a0_3 = true
 ·subst c2
  have H1 : ((dev_owned.f l0_0 l0_1 a0_2 true).bind fun bt344 => (some (bt344.1, bt344.2.1, bt344.2.2.1, bt344.2.2.2, 17))) = some (r1, r2, r3, r4, r5) := by rw [if_pos rfl] at H; exact H
  clear H
  have H := H1
  clear H1
  replace H := Option.bind_eq_some_iff.mp H
  obtain ⟨⟨t344, t347, t350, t351⟩, A30, H⟩ := H
  replace H : (some (t344, t347, t350, t351, 17)) = some (r1, r2, r3, r4, r5) := H
  have A3 := Aside0.mk A30
  clear A30
  simp only [Option.some.injEq, Prod.mk.injEq] at H
  obtain ⟨rfl, rfl, rfl, rfl, rfl⟩ := H
  go_enter Try.func10, Try.ntmps10
  go_wp2_with (first | ((with_reducible refine gate_dst (N := 1) rfl ?_); refine box_event ?hg (N := 1) ?hd (cs := #[.slice A0_0 l0_0.length c0_0, .slice A0_1 l0_1.length c0_1, .int .i64 a0_2, .bool true]) (t := 25) ?hr ?_; (case hd => rfl); (case hg => rfl); (case hr => first | (go_simp; done) | (go_simp; rfl)); intro gb342 hg w4 hbox hb; have n0_ := Aside0.mk (below_step (bU HB) hb); have n1_ := Aside0.mk (hbox); have n2_ := Aside0.mk ((by rw [hg]; exact (below_size (bU HB)) : w.heap.size ≤ gb342)); have n3_ := Aside0.mk ((by rw [hg]; exact (below_size (bU HB)) : w.heap.size ≤ gb342)); clear HB; have HB := n0_; have BK342 := n1_; have GW342 := n2_; have GE342 := n3_; clear n0_ n1_ n2_ n3_; clear hb hbox hg) | ((with_reducible refine gate_dst (N := 2) rfl ?_); refine box_event ?hg (N := 2) ?hd (cs := #[.slice none 0 0, .slice none 0 0, .int .i64 0, .bool false]) (t := 25) ?hr ?_; (case hd => rfl); (case hg => rfl); (case hr => first | (go_simp; done) | (go_simp; rfl)); intro gb343 hg w5 hbox hb; have n0_ := Aside0.mk (blk_below (kU BK342) hb); have n1_ := Aside0.mk (below_step (bU HB) hb); have n2_ := Aside0.mk (hbox); have n3_ := Aside0.mk ((by rw [hg]; exact (below_size (bU HB)) : w.heap.size ≤ gb343)); have n4_ := Aside0.mk ((by rw [hg]; exact (below_size (bU HB)) : w.heap.size ≤ gb343)); have n5_ := Aside0.mk ((by rw [hg]; exact Nat.ne_of_lt (blk_lt (g := gb342) (o := .cells #[.slice A0_0 l0_0.length c0_0, .slice A0_1 l0_1.length c0_1, .int .i64 a0_2, .bool true] 25 (0, 0)) (kU BK342)) : gb342 ≠ gb343)); have n6_ := Aside0.mk ((by rw [hg]; exact Nat.ne_of_gt (blk_lt (g := gb342) (o := .cells #[.slice A0_0 l0_0.length c0_0, .slice A0_1 l0_1.length c0_1, .int .i64 a0_2, .bool true] 25 (0, 0)) (kU BK342)) : gb343 ≠ gb342)); clear BK342; clear HB; have BK342 := n0_; have HB := n1_; have BK343 := n2_; have GW343 := n3_; have GE343 := n4_; have NB342_343 := n5_; have NB343_342 := n6_; clear n0_ n1_ n2_ n3_ n4_ n5_ n6_; clear hb hbox hg; have hnb6 := NB342_343.out; have hnc6 := NB343_342.out; have hcz7_0 : w5.cell? ⟨gb342, 0, none⟩ = some (.slice A0_0 l0_0.length c0_0) := (blk_cell BK342.out 0).trans rfl; have hcz7_1 : w5.cell? ⟨gb342, 1, none⟩ = some (.slice A0_1 l0_1.length c0_1) := (blk_cell BK342.out 1).trans rfl; have hcz7_2 : w5.cell? ⟨gb342, 2, none⟩ = some (.int .i64 a0_2) := (blk_cell BK342.out 2).trans rfl; have hcz7_3 : w5.cell? ⟨gb342, 3, none⟩ = some (.bool true) := (blk_cell BK342.out 3).trans rfl; have hfz7_0 := blk_frozen BK342.out 0; have hfz7_1 := blk_frozen BK342.out 1; have hfz7_2 := blk_frozen BK342.out 2; have hfz7_3 := blk_frozen BK342.out 3) | ((with_reducible refine gate_callee (f := 26) rfl ?_); refine goesL_ (some 9) rfl rfl Try.func26 (by kernel_rfl) rfl #[.agg #[.slice A0_0 l0_0.length c0_0, .slice A0_1 l0_1.length c0_1, .int .i64 a0_2, .bool true]] rfl (by (try simp only [List.map_toArray, List.map_cons, List.map_nil]); first | done | rfl | (simp only [List.length_drop, List.length_take]; rfl)) ?_; (with_reducible refine (dev_owned.calls _ _ l0_0 _ _ l0_1 a0_2 true t344 t347 t350 t351 _ ?side1 ?side2 ?side3 ?side4 A3.out).mono ?_); (case side1 => exact cU (Kd.C_below HR0_0.out HB.out)); (case side2 => exact HC0_0.out); (case side3 => exact cU (Kd.C_below HR0_1.out HB.out)); (case side4 => exact HC0_1.out); rintro e w8 ⟨v345, v348, rfl, ho0, ho1, hb⟩; refine ⟨_, rfl, ?_⟩; have n0_ := Aside0.mk (Kd.R_lower ho0 (below_size (bU HB))); have n1_ := Aside0.mk (Kd.R_lower ho1 (below_size (bU HB))); have n2_ := Aside0.mk (blk_below (kU BK342) hb); have n3_ := Aside0.mk (blk_below (kU BK343) hb); have n4_ := Aside0.mk (below_step (bU HB) hb); clear BK342; clear BK343; clear HB; have HO346 := n0_; have HO349 := n1_; have BK342 := n2_; have BK343 := n3_; have HB := n4_; clear n0_ n1_ n2_ n3_ n4_; (try clear hb); (try clear hb2); (try clear hk); (try clear hi); (try clear ho0); (try clear ho1); obtain ⟨Ao9, co9, eo9⟩ := Kd.R_slice HO346.out; subst eo9; have hcz10_0 : w8.cell? ⟨gb343, 0, none⟩ = some (.slice none 0 0) := (blk_cell BK343.out 0).trans rfl; have hcz10_1 : w8.cell? ⟨gb343, 1, none⟩ = some (.slice none 0 0) := (blk_cell BK343.out 1).trans rfl; have hcz10_2 : w8.cell? ⟨gb343, 2, none⟩ = some (.int .i64 0) := (blk_cell BK343.out 2).trans rfl; have hcz10_3 : w8.cell? ⟨gb343, 3, none⟩ = some (.bool false) := (blk_cell BK343.out 3).trans rfl; have hfz10_0 := blk_frozen BK343.out 0; have hfz10_1 := blk_frozen BK343.out 1; have hfz10_2 := blk_frozen BK343.out 2; have hfz10_3 := blk_frozen BK343.out 3; obtain ⟨Ao11, co11, eo11⟩ := Kd.R_slice HO349.out; subst eo11))
  refine bodyPost_ret (results_ct rfl _ _ gb343 25 #[.slice Ao9 t344.length co9, .slice Ao11 t347.length co11, .int .i64 t350, .bool t351] (0, 0) _ rfl (kP BK343) Try.underlying25 rfl (by kernel_rfl)) rfl ?_
  exact ⟨_, _, eqU, by (with_reducible repeat (first | apply Kd.R_alloc | apply Kd.R_drewN | apply Kd.R_drew)); exact Kd.R_mono (Kd.R_far (p := ⟨gb343, 3, none⟩) (Kd.R_far (p := ⟨gb343, 2, none⟩) (Kd.R_far (p := ⟨gb343, 1, none⟩) (Kd.R_far (p := ⟨gb343, 0, none⟩) (Kd.R_types HO346.out BK343.out (by decide)) (fun _ hk => hk.2) (.slice Ao9 t344.length co9)) (fun _ hk => hk.2) (.slice Ao11 t347.length co11)) (fun _ hk => hk.2) (.int .i64 t350)) (fun _ hk => hk.2) (.bool t351)) (fun _ hk => trivial), by (with_reducible repeat (first | apply Kd.R_alloc | apply Kd.R_drewN | apply Kd.R_drew)); exact Kd.R_mono (Kd.R_far (p := ⟨gb343, 3, none⟩) (Kd.R_far (p := ⟨gb343, 2, none⟩) (Kd.R_far (p := ⟨gb343, 1, none⟩) (Kd.R_far (p := ⟨gb343, 0, none⟩) (Kd.R_types HO349.out BK343.out (by decide)) (fun _ hk => hk.2) (.slice Ao9 t344.length co9)) (fun _ hk => hk.2) (.slice Ao11 t347.length co11)) (fun _ hk => hk.2) (.int .i64 t350)) (fun _ hk => hk.2) (.bool t351)) (fun _ hk => trivial), bU HB⟩
 ·replace c2 := Bool.eq_false_iff.mpr c2
  subst c2
  have H1 : ((dev_spend.f l0_0 l0_1 a0_2 false).bind fun bt352 => (if bt352.2.2.2.2 = 0 then ((dev_doneF.f k bt352.1 bt352.2.1 bt352.2.2.1 bt352.2.2.2.1).bind fun bt362 => (some (bt362.1, bt362.2.1, bt362.2.2.1, bt362.2.2.2, 0))) else (some (bt352.1, bt352.2.1, bt352.2.2.1, bt352.2.2.2.1, bt352.2.2.2.2)))) = some (r1, r2, r3, r4, r5) := by rw [if_neg (show ¬ (false = true) by decide)] at H; exact H
  clear H
  have H := H1
  clear H1
  replace H := Option.bind_eq_some_iff.mp H
  obtain ⟨⟨t352, t355, t358, t359, t360⟩, A120, H⟩ := H
  replace H : (if t360 = 0 then ((dev_doneF.f k t352 t355 t358 t359).bind fun bt362 => (some (bt362.1, bt362.2.1, bt362.2.2.1, bt362.2.2.2, 0))) else (some (t352, t355, t358, t359, t360))) = some (r1, r2, r3, r4, r5) := H
  have A12 := Aside0.mk A120
  clear A120
  by_cases c13 : t360 = 0
  ·rw [if_pos c13] at H
   have c13b0 : (t360 == 0) = true := beq_iff_eq.mpr c13
   have c13b1 : (t360 != 0) = false := bne_eq_false_iff_eq.mpr c13
   clear c13
   replace H := Option.bind_eq_some_iff.mp H
   obtain ⟨⟨t362, t365, t368, t369⟩, A140, H⟩ := H
   replace H : (some (t362, t365, t368, t369, 0)) = some (r1, r2, r3, r4, r5) := H
   have A14 := Aside0.mk A140
   clear A140
   simp only [Option.some.injEq, Prod.mk.injEq] at H
   obtain ⟨rfl, rfl, rfl, rfl, rfl⟩ := H
   go_enter Try.func10, Try.ntmps10
   go_wp2_with (first | ((with_reducible refine gate_dst (N := 1) rfl ?_); refine box_event ?hg (N := 1) ?hd (cs := #[.slice A0_0 l0_0.length c0_0, .slice A0_1 l0_1.length c0_1, .int .i64 a0_2, .bool false]) (t := 25) ?hr ?_; (case hd => rfl); (case hg => rfl); (case hr => first | (go_simp; done) | (go_simp; rfl)); intro gb342 hg w15 hbox hb; have n0_ := Aside0.mk (below_step (bU HB) hb); have n1_ := Aside0.mk (hbox); have n2_ := Aside0.mk ((by rw [hg]; exact (below_size (bU HB)) : w.heap.size ≤ gb342)); have n3_ := Aside0.mk ((by rw [hg]; exact (below_size (bU HB)) : w.heap.size ≤ gb342)); clear HB; have HB := n0_; have BK342 := n1_; have GW342 := n2_; have GE342 := n3_; clear n0_ n1_ n2_ n3_; clear hb hbox hg) | ((with_reducible refine gate_dst (N := 2) rfl ?_); refine box_event ?hg (N := 2) ?hd (cs := #[.slice none 0 0, .slice none 0 0, .int .i64 0, .bool false]) (t := 25) ?hr ?_; (case hd => rfl); (case hg => rfl); (case hr => first | (go_simp; done) | (go_simp; rfl)); intro gb343 hg w16 hbox hb; have n0_ := Aside0.mk (blk_below (kU BK342) hb); have n1_ := Aside0.mk (below_step (bU HB) hb); have n2_ := Aside0.mk (hbox); have n3_ := Aside0.mk ((by rw [hg]; exact (below_size (bU HB)) : w.heap.size ≤ gb343)); have n4_ := Aside0.mk ((by rw [hg]; exact (below_size (bU HB)) : w.heap.size ≤ gb343)); have n5_ := Aside0.mk ((by rw [hg]; exact Nat.ne_of_lt (blk_lt (g := gb342) (o := .cells #[.slice A0_0 l0_0.length c0_0, .slice A0_1 l0_1.length c0_1, .int .i64 a0_2, .bool false] 25 (0, 0)) (kU BK342)) : gb342 ≠ gb343)); have n6_ := Aside0.mk ((by rw [hg]; exact Nat.ne_of_gt (blk_lt (g := gb342) (o := .cells #[.slice A0_0 l0_0.length c0_0, .slice A0_1 l0_1.length c0_1, .int .i64 a0_2, .bool false] 25 (0, 0)) (kU BK342)) : gb343 ≠ gb342)); clear BK342; clear HB; have BK342 := n0_; have HB := n1_; have BK343 := n2_; have GW343 := n3_; have GE343 := n4_; have NB342_343 := n5_; have NB343_342 := n6_; clear n0_ n1_ n2_ n3_ n4_ n5_ n6_; clear hb hbox hg; have hnb17 := NB342_343.out; have hnc17 := NB343_342.out; have hcz18_0 : w16.cell? ⟨gb342, 0, none⟩ = some (.slice A0_0 l0_0.length c0_0) := (blk_cell BK342.out 0).trans rfl; have hcz18_1 : w16.cell? ⟨gb342, 1, none⟩ = some (.slice A0_1 l0_1.length c0_1) := (blk_cell BK342.out 1).trans rfl; have hcz18_2 : w16.cell? ⟨gb342, 2, none⟩ = some (.int .i64 a0_2) := (blk_cell BK342.out 2).trans rfl; have hcz18_3 : w16.cell? ⟨gb342, 3, none⟩ = some (.bool false) := (blk_cell BK342.out 3).trans rfl; have hfz18_0 := blk_frozen BK342.out 0; have hfz18_1 := blk_frozen BK342.out 1; have hfz18_2 := blk_frozen BK342.out 2; have hfz18_3 := blk_frozen BK342.out 3) | ((with_reducible refine gate_callee (f := 27) rfl ?_); refine goesL_ (some 12) rfl rfl Try.func27 (by kernel_rfl) rfl #[.agg #[.slice A0_0 l0_0.length c0_0, .slice A0_1 l0_1.length c0_1, .int .i64 a0_2, .bool false]] rfl (by (try simp only [List.map_toArray, List.map_cons, List.map_nil]); first | done | rfl | (simp only [List.length_drop, List.length_take]; rfl)) ?_; (with_reducible refine (dev_spend.calls _ _ l0_0 _ _ l0_1 a0_2 false t352 t355 t358 t359 t360 _ ?side1 ?side2 ?side3 ?side4 A12.out).mono ?_); (case side1 => exact cU (Kd.C_below HR0_0.out HB.out)); (case side2 => exact HC0_0.out); (case side3 => exact cU (Kd.C_below HR0_1.out HB.out)); (case side4 => exact HC0_1.out); rintro e w19 ⟨v353, v356, rfl, ho0, ho1, hb⟩; refine ⟨_, rfl, ?_⟩; have n0_ := Aside0.mk (Kd.R_lower ho0 (below_size (bU HB))); have n1_ := Aside0.mk (Kd.R_lower ho1 (below_size (bU HB))); have n2_ := Aside0.mk (blk_below (kU BK342) hb); have n3_ := Aside0.mk (blk_below (kU BK343) hb); have n4_ := Aside0.mk (below_step (bU HB) hb); clear BK342; clear BK343; clear HB; have HO354 := n0_; have HO357 := n1_; have BK342 := n2_; have BK343 := n3_; have HB := n4_; clear n0_ n1_ n2_ n3_ n4_; (try clear hb); (try clear hb2); (try clear hk); (try clear hi); (try clear ho0); (try clear ho1)) | ((with_reducible refine gate_dst (N := 4) rfl ?_); refine box_event ?hg (N := 4) ?hd (cs := #[.slice none 0 0, .slice none 0 0, .int .i64 0, .bool false]) (t := 25) ?hr ?_; (case hd => rfl); (case hg => rfl); (case hr => first | (go_simp; done) | (go_simp; rfl)); intro gb361 hg w20 hbox hb; have n0_ := Aside0.mk (Kd.R_below (rU HO354) hb); have n1_ := Aside0.mk (Kd.R_below (rU HO357) hb); have n2_ := Aside0.mk (blk_below (kU BK342) hb); have n3_ := Aside0.mk (blk_below (kU BK343) hb); have n4_ := Aside0.mk (below_step (bU HB) hb); have n5_ := Aside0.mk (hbox); have n6_ := Aside0.mk ((by rw [hg]; exact (below_size (bU HB)) : w.heap.size ≤ gb361)); have n7_ := Aside0.mk ((by rw [hg]; exact (below_size (bU HB)) : w.heap.size ≤ gb361)); have n8_ := Aside0.mk ((by rw [hg]; exact Nat.ne_of_lt (blk_lt (g := gb342) (o := .cells #[.slice A0_0 l0_0.length c0_0, .slice A0_1 l0_1.length c0_1, .int .i64 a0_2, .bool false] 25 (0, 0)) (kU BK342)) : gb342 ≠ gb361)); have n9_ := Aside0.mk ((by rw [hg]; exact Nat.ne_of_gt (blk_lt (g := gb342) (o := .cells #[.slice A0_0 l0_0.length c0_0, .slice A0_1 l0_1.length c0_1, .int .i64 a0_2, .bool false] 25 (0, 0)) (kU BK342)) : gb361 ≠ gb342)); have n10_ := Aside0.mk ((by rw [hg]; exact Nat.ne_of_lt (blk_lt (g := gb343) (o := .cells #[.slice none 0 0, .slice none 0 0, .int .i64 0, .bool false] 25 (0, 0)) (kU BK343)) : gb343 ≠ gb361)); have n11_ := Aside0.mk ((by rw [hg]; exact Nat.ne_of_gt (blk_lt (g := gb343) (o := .cells #[.slice none 0 0, .slice none 0 0, .int .i64 0, .bool false] 25 (0, 0)) (kU BK343)) : gb361 ≠ gb343)); clear HO354; clear HO357; clear BK342; clear BK343; clear HB; have HO354 := n0_; have HO357 := n1_; have BK342 := n2_; have BK343 := n3_; have HB := n4_; have BK361 := n5_; have GW361 := n6_; have GE361 := n7_; have NB342_361 := n8_; have NB361_342 := n9_; have NB343_361 := n10_; have NB361_343 := n11_; clear n0_ n1_ n2_ n3_ n4_ n5_ n6_ n7_ n8_ n9_ n10_ n11_; clear hb hbox hg; obtain ⟨Ao21, co21, eo21⟩ := Kd.R_slice HO354.out; subst eo21; have hnb22 := NB361_342.out; have hnc22 := NB342_361.out; have hnb23 := NB361_343.out; have hnc23 := NB343_361.out; have hcz24_0 : w20.cell? ⟨gb361, 0, none⟩ = some (.slice none 0 0) := (blk_cell BK361.out 0).trans rfl; have hcz24_1 : w20.cell? ⟨gb361, 1, none⟩ = some (.slice none 0 0) := (blk_cell BK361.out 1).trans rfl; have hcz24_2 : w20.cell? ⟨gb361, 2, none⟩ = some (.int .i64 0) := (blk_cell BK361.out 2).trans rfl; have hcz24_3 : w20.cell? ⟨gb361, 3, none⟩ = some (.bool false) := (blk_cell BK361.out 3).trans rfl; have hfz24_0 := blk_frozen BK361.out 0; have hfz24_1 := blk_frozen BK361.out 1; have hfz24_2 := blk_frozen BK361.out 2; have hfz24_3 := blk_frozen BK361.out 3; obtain ⟨Ao25, co25, eo25⟩ := Kd.R_slice HO357.out; subst eo25) | ((with_reducible refine gate_store (t := 25) (p := 4) rfl ?_); refine store_event (t := 25) (p := 4) (v := ?vo_w26) (w1 := ((((w20.setCell ⟨gb361, 0, none⟩ (.slice Ao21 t352.length co21)).setCell ⟨gb361, 1, none⟩ (.slice Ao25 t355.length co25)).setCell ⟨gb361, 2, none⟩ (.int .i64 t358)).setCell ⟨gb361, 3, none⟩ (.bool t359))) ?hg ?ho ?hn ?hr ?_; (case ho => rfl); (case hg => rfl); (case hn => rfl); (case hr => first | (go_simp; done) | (go_simp; rfl)); intro w26 hw; have n0_ : Aside0 (Kd.R Kd.string 9 w26 w.heap.size (fun _ => True) (.slice Ao21 t352.length co21) t352) := ⟨(by rw [hw]; exact (by (with_reducible repeat (first | apply Kd.R_alloc | apply Kd.R_drewN | apply Kd.R_drew)); exact Kd.R_mono (Kd.R_far (p := ⟨gb361, 3, none⟩) (Kd.R_far (p := ⟨gb361, 2, none⟩) (Kd.R_far (p := ⟨gb361, 1, none⟩) (Kd.R_far (p := ⟨gb361, 0, none⟩) (Kd.R_types HO354.out BK361.out (by decide)) (fun _ hk => hk.2) (.slice Ao21 t352.length co21)) (fun _ hk => hk.2) (.slice Ao25 t355.length co25)) (fun _ hk => hk.2) (.int .i64 t358)) (fun _ hk => hk.2) (.bool t359)) (fun _ hk => trivial)))⟩; have n1_ : Aside0 (Kd.R k40 40 w26 w.heap.size (fun _ => True) (.slice Ao25 t355.length co25) t355) := ⟨(by rw [hw]; exact (by (with_reducible repeat (first | apply Kd.R_alloc | apply Kd.R_drewN | apply Kd.R_drew)); exact Kd.R_mono (Kd.R_far (p := ⟨gb361, 3, none⟩) (Kd.R_far (p := ⟨gb361, 2, none⟩) (Kd.R_far (p := ⟨gb361, 1, none⟩) (Kd.R_far (p := ⟨gb361, 0, none⟩) (Kd.R_types HO357.out BK361.out (by decide)) (fun _ hk => hk.2) (.slice Ao21 t352.length co21)) (fun _ hk => hk.2) (.slice Ao25 t355.length co25)) (fun _ hk => hk.2) (.int .i64 t358)) (fun _ hk => hk.2) (.bool t359)) (fun _ hk => trivial)))⟩; have n2_ : Aside0 (w26.heap[gb342]? = some (.cells #[.slice A0_0 l0_0.length c0_0, .slice A0_1 l0_1.length c0_1, .int .i64 a0_2, .bool false] 25 (0, 0))) := ⟨(by rw [hw]; exact (kF BK342))⟩; have n3_ : Aside0 (w26.heap[gb343]? = some (.cells #[.slice none 0 0, .slice none 0 0, .int .i64 0, .bool false] 25 (0, 0))) := ⟨(by rw [hw]; exact (kF BK343))⟩; have n4_ : Aside0 (w26.heap[gb361]? = some (.cells #[.slice Ao21 t352.length co21, .slice Ao25 t355.length co25, .int .i64 t358, .bool t359] 25 (0, 0))) := ⟨(by rw [hw]; exact (kP BK361))⟩; have n5_ : Aside0 (Below w.heap.size w w26) := ⟨(by rw [hw]; exact (bU HB))⟩; clear hw; clear HO354; clear HO357; clear BK342; clear BK343; clear BK361; clear HB; have HO354 := n0_; have HO357 := n1_; have BK342 := n2_; have BK343 := n3_; have BK361 := n4_; have HB := n5_; clear n0_ n1_ n2_ n3_ n4_ n5_; have hcz27_0 : w26.cell? ⟨gb361, 0, none⟩ = some (.slice Ao21 t352.length co21) := (blk_cell BK361.out 0).trans rfl; have hcz27_1 : w26.cell? ⟨gb361, 1, none⟩ = some (.slice Ao25 t355.length co25) := (blk_cell BK361.out 1).trans rfl; have hcz27_2 : w26.cell? ⟨gb361, 2, none⟩ = some (.int .i64 t358) := (blk_cell BK361.out 2).trans rfl; have hcz27_3 : w26.cell? ⟨gb361, 3, none⟩ = some (.bool t359) := (blk_cell BK361.out 3).trans rfl; have hfz27_0 := blk_frozen BK361.out 0; have hfz27_1 := blk_frozen BK361.out 1; have hfz27_2 := blk_frozen BK361.out 2; have hfz27_3 := blk_frozen BK361.out 3) | ((with_reducible refine gate_callee (f := 28) rfl ?_); refine goesL_ (some 20) rfl rfl Try.func28 (by kernel_rfl) rfl #[.agg #[.slice Ao21 t352.length co21, .slice Ao25 t355.length co25, .int .i64 t358, .bool t359], .func (.func 29) #[] #[]] rfl (by (try simp only [List.map_toArray, List.map_cons, List.map_nil]); first | done | rfl | (simp only [List.length_drop, List.length_take]; rfl)) ?_; (with_reducible refine (dev_doneF.calls k (fun k_ => some k_ = (.slice Ao21 t352.length co21 : Value).ownBlock) (.slice Ao21 t352.length co21) t352 _ _ t355 t358 t359 t362 t365 t368 t369 w _ ?side1 ?side2 ?side3 ?side4 A14.out).mono ?_); (case side1 => exact bU HB); (case side2 => exact Kd.R_tight rfl HO354.out); (case side3 => exact Kd.C_kept_own ((Kd.R_apart' HO357.out (Kd.R_typed HO354.out) (by decide))) (fun k_ hk_ hs_ => (hk_.2) hs_)); (case side4 => exact (Kd.R_reads' HO357.out).2.1); rintro e w28 ⟨v363, v366, rfl, ho0, ho1, hb, hkp⟩; refine ⟨_, rfl, ?_⟩; have n0_ := Aside0.mk (blk_kept (kU BK342) hkp (fun hs_ => (fun e_ => (Kd.R_ne HO354.out BK342.out (by decide)) e_) hs_)); have n1_ := Aside0.mk (blk_kept (kU BK343) hkp (fun hs_ => (fun e_ => (Kd.R_ne HO354.out BK343.out (by decide)) e_) hs_)); have n2_ := Aside0.mk (Kd.R_mono (ok' := fun k_ => some k_ ≠ (v366 : Value).ownBlock) (Kd.R_keptB ((Kd.R_apart' HO357.out (Kd.R_typed HO354.out) (by decide))) hkp (fun k_ hk_ hs_ => (hk_.2) hs_)) (fun k_ hk_ => fun e_ => Or.elim (ho1.1 k_ e_.symm) (fun hs_ => hk_.2.1 hs_) (fun hn_ => Nat.not_le.2 hk_.2.2 hn_))); have n3_ := Aside0.mk (blk_kept (kU BK361) hkp (fun hs_ => (fun e_ => (Kd.R_ne HO354.out BK361.out (by decide)) e_) hs_)); have n4_ := Aside0.mk (Kd.R_mono (ok' := fun k_ => True) ho0 (fun k_ hk_ => trivial)); have n5_ := Aside0.mk (Kd.R_mono (ok' := fun k_ => some k_ ≠ (.slice Ao25 t355.length co25 : Value).ownBlock) ho1 (fun k_ hk_ => Or.elim hk_ (fun hs_ => fun e_ => ((((Kd.R_apart' HO357.out (Kd.R_typed HO354.out) (by decide))).1 k_ e_.symm).2) hs_) (fun hn_ => (Kd.fresh' (Kd.R_lt (rU HO357)) k_ hn_)))); have n6_ := Aside0.mk (hb); clear BK342; clear BK343; clear HO357; clear BK361; clear HB; clear HO354; have BK342 := n0_; have BK343 := n1_; have HO357 := n2_; have BK361 := n3_; have HO364 := n4_; have HO367 := n5_; have HB := n6_; clear n0_ n1_ n2_ n3_ n4_ n5_ n6_; (try clear hb); (try clear hkp); (try clear ho0); (try clear ho1); obtain ⟨Ao29, co29, eo29⟩ := Kd.R_slice HO364.out; subst eo29; have hcz30_0 : w28.cell? ⟨gb343, 0, none⟩ = some (.slice none 0 0) := (blk_cell BK343.out 0).trans rfl; have hcz30_1 : w28.cell? ⟨gb343, 1, none⟩ = some (.slice none 0 0) := (blk_cell BK343.out 1).trans rfl; have hcz30_2 : w28.cell? ⟨gb343, 2, none⟩ = some (.int .i64 0) := (blk_cell BK343.out 2).trans rfl; have hcz30_3 : w28.cell? ⟨gb343, 3, none⟩ = some (.bool false) := (blk_cell BK343.out 3).trans rfl; have hfz30_0 := blk_frozen BK343.out 0; have hfz30_1 := blk_frozen BK343.out 1; have hfz30_2 := blk_frozen BK343.out 2; have hfz30_3 := blk_frozen BK343.out 3; obtain ⟨Ao31, co31, eo31⟩ := Kd.R_slice HO367.out; subst eo31))
   refine bodyPost_ret (results_ct rfl _ _ gb343 25 #[.slice Ao29 t362.length co29, .slice Ao31 t365.length co31, .int .i64 t368, .bool t369] (0, 0) _ rfl (kP BK343) Try.underlying25 rfl (by kernel_rfl)) rfl ?_
   exact ⟨_, _, eqU, by (with_reducible repeat (first | apply Kd.R_alloc | apply Kd.R_drewN | apply Kd.R_drew)); exact Kd.R_mono (Kd.R_far (p := ⟨gb343, 3, none⟩) (Kd.R_far (p := ⟨gb343, 2, none⟩) (Kd.R_far (p := ⟨gb343, 1, none⟩) (Kd.R_far (p := ⟨gb343, 0, none⟩) (Kd.R_types HO364.out BK343.out (by decide)) (fun _ hk => hk.2) (.slice Ao29 t362.length co29)) (fun _ hk => hk.2) (.slice Ao31 t365.length co31)) (fun _ hk => hk.2) (.int .i64 t368)) (fun _ hk => hk.2) (.bool t369)) (fun _ hk => trivial), by (with_reducible repeat (first | apply Kd.R_alloc | apply Kd.R_drewN | apply Kd.R_drew)); exact Kd.R_mono (Kd.R_far (p := ⟨gb343, 3, none⟩) (Kd.R_far (p := ⟨gb343, 2, none⟩) (Kd.R_far (p := ⟨gb343, 1, none⟩) (Kd.R_far (p := ⟨gb343, 0, none⟩) (Kd.R_types HO367.out BK343.out (by decide)) (fun _ hk => hk.2) (.slice Ao29 t362.length co29)) (fun _ hk => hk.2) (.slice Ao31 t365.length co31)) (fun _ hk => hk.2) (.int .i64 t368)) (fun _ hk => hk.2) (.bool t369)) (fun _ hk => trivial), bU HB⟩
  ·rw [if_neg c13] at H
   have c13b0 : (t360 == 0) = false := beq_eq_false_iff_ne.mpr c13
   have c13b1 : (t360 != 0) = true := bne_iff_ne.mpr c13
   simp only [Option.some.injEq, Prod.mk.injEq] at H
   obtain ⟨rfl, rfl, rfl, rfl, rfl⟩ := H
   go_enter Try.func10, Try.ntmps10
   go_wp2_with (first | ((with_reducible refine gate_dst (N := 1) rfl ?_); refine box_event ?hg (N := 1) ?hd (cs := #[.slice A0_0 l0_0.length c0_0, .slice A0_1 l0_1.length c0_1, .int .i64 a0_2, .bool false]) (t := 25) ?hr ?_; (case hd => rfl); (case hg => rfl); (case hr => first | (go_simp; done) | (go_simp; rfl)); intro gb342 hg w32 hbox hb; have n0_ := Aside0.mk (below_step (bU HB) hb); have n1_ := Aside0.mk (hbox); have n2_ := Aside0.mk ((by rw [hg]; exact (below_size (bU HB)) : w.heap.size ≤ gb342)); have n3_ := Aside0.mk ((by rw [hg]; exact (below_size (bU HB)) : w.heap.size ≤ gb342)); clear HB; have HB := n0_; have BK342 := n1_; have GW342 := n2_; have GE342 := n3_; clear n0_ n1_ n2_ n3_; clear hb hbox hg) | ((with_reducible refine gate_dst (N := 2) rfl ?_); refine box_event ?hg (N := 2) ?hd (cs := #[.slice none 0 0, .slice none 0 0, .int .i64 0, .bool false]) (t := 25) ?hr ?_; (case hd => rfl); (case hg => rfl); (case hr => first | (go_simp; done) | (go_simp; rfl)); intro gb343 hg w33 hbox hb; have n0_ := Aside0.mk (blk_below (kU BK342) hb); have n1_ := Aside0.mk (below_step (bU HB) hb); have n2_ := Aside0.mk (hbox); have n3_ := Aside0.mk ((by rw [hg]; exact (below_size (bU HB)) : w.heap.size ≤ gb343)); have n4_ := Aside0.mk ((by rw [hg]; exact (below_size (bU HB)) : w.heap.size ≤ gb343)); have n5_ := Aside0.mk ((by rw [hg]; exact Nat.ne_of_lt (blk_lt (g := gb342) (o := .cells #[.slice A0_0 l0_0.length c0_0, .slice A0_1 l0_1.length c0_1, .int .i64 a0_2, .bool false] 25 (0, 0)) (kU BK342)) : gb342 ≠ gb343)); have n6_ := Aside0.mk ((by rw [hg]; exact Nat.ne_of_gt (blk_lt (g := gb342) (o := .cells #[.slice A0_0 l0_0.length c0_0, .slice A0_1 l0_1.length c0_1, .int .i64 a0_2, .bool false] 25 (0, 0)) (kU BK342)) : gb343 ≠ gb342)); clear BK342; clear HB; have BK342 := n0_; have HB := n1_; have BK343 := n2_; have GW343 := n3_; have GE343 := n4_; have NB342_343 := n5_; have NB343_342 := n6_; clear n0_ n1_ n2_ n3_ n4_ n5_ n6_; clear hb hbox hg; have hnb34 := NB342_343.out; have hnc34 := NB343_342.out; have hcz35_0 : w33.cell? ⟨gb342, 0, none⟩ = some (.slice A0_0 l0_0.length c0_0) := (blk_cell BK342.out 0).trans rfl; have hcz35_1 : w33.cell? ⟨gb342, 1, none⟩ = some (.slice A0_1 l0_1.length c0_1) := (blk_cell BK342.out 1).trans rfl; have hcz35_2 : w33.cell? ⟨gb342, 2, none⟩ = some (.int .i64 a0_2) := (blk_cell BK342.out 2).trans rfl; have hcz35_3 : w33.cell? ⟨gb342, 3, none⟩ = some (.bool false) := (blk_cell BK342.out 3).trans rfl; have hfz35_0 := blk_frozen BK342.out 0; have hfz35_1 := blk_frozen BK342.out 1; have hfz35_2 := blk_frozen BK342.out 2; have hfz35_3 := blk_frozen BK342.out 3) | ((with_reducible refine gate_callee (f := 27) rfl ?_); refine goesL_ (some 12) rfl rfl Try.func27 (by kernel_rfl) rfl #[.agg #[.slice A0_0 l0_0.length c0_0, .slice A0_1 l0_1.length c0_1, .int .i64 a0_2, .bool false]] rfl (by (try simp only [List.map_toArray, List.map_cons, List.map_nil]); first | done | rfl | (simp only [List.length_drop, List.length_take]; rfl)) ?_; (with_reducible refine (dev_spend.calls _ _ l0_0 _ _ l0_1 a0_2 false t352 t355 t358 t359 t360 _ ?side1 ?side2 ?side3 ?side4 A12.out).mono ?_); (case side1 => exact cU (Kd.C_below HR0_0.out HB.out)); (case side2 => exact HC0_0.out); (case side3 => exact cU (Kd.C_below HR0_1.out HB.out)); (case side4 => exact HC0_1.out); rintro e w36 ⟨v353, v356, rfl, ho0, ho1, hb⟩; refine ⟨_, rfl, ?_⟩; have n0_ := Aside0.mk (Kd.R_lower ho0 (below_size (bU HB))); have n1_ := Aside0.mk (Kd.R_lower ho1 (below_size (bU HB))); have n2_ := Aside0.mk (blk_below (kU BK342) hb); have n3_ := Aside0.mk (blk_below (kU BK343) hb); have n4_ := Aside0.mk (below_step (bU HB) hb); clear BK342; clear BK343; clear HB; have HO354 := n0_; have HO357 := n1_; have BK342 := n2_; have BK343 := n3_; have HB := n4_; clear n0_ n1_ n2_ n3_ n4_; (try clear hb); (try clear hb2); (try clear hk); (try clear hi); (try clear ho0); (try clear ho1)) | ((with_reducible refine gate_dst (N := 4) rfl ?_); refine box_event ?hg (N := 4) ?hd (cs := #[.slice none 0 0, .slice none 0 0, .int .i64 0, .bool false]) (t := 25) ?hr ?_; (case hd => rfl); (case hg => rfl); (case hr => first | (go_simp; done) | (go_simp; rfl)); intro gb361 hg w37 hbox hb; have n0_ := Aside0.mk (Kd.R_below (rU HO354) hb); have n1_ := Aside0.mk (Kd.R_below (rU HO357) hb); have n2_ := Aside0.mk (blk_below (kU BK342) hb); have n3_ := Aside0.mk (blk_below (kU BK343) hb); have n4_ := Aside0.mk (below_step (bU HB) hb); have n5_ := Aside0.mk (hbox); have n6_ := Aside0.mk ((by rw [hg]; exact (below_size (bU HB)) : w.heap.size ≤ gb361)); have n7_ := Aside0.mk ((by rw [hg]; exact (below_size (bU HB)) : w.heap.size ≤ gb361)); have n8_ := Aside0.mk ((by rw [hg]; exact Nat.ne_of_lt (blk_lt (g := gb342) (o := .cells #[.slice A0_0 l0_0.length c0_0, .slice A0_1 l0_1.length c0_1, .int .i64 a0_2, .bool false] 25 (0, 0)) (kU BK342)) : gb342 ≠ gb361)); have n9_ := Aside0.mk ((by rw [hg]; exact Nat.ne_of_gt (blk_lt (g := gb342) (o := .cells #[.slice A0_0 l0_0.length c0_0, .slice A0_1 l0_1.length c0_1, .int .i64 a0_2, .bool false] 25 (0, 0)) (kU BK342)) : gb361 ≠ gb342)); have n10_ := Aside0.mk ((by rw [hg]; exact Nat.ne_of_lt (blk_lt (g := gb343) (o := .cells #[.slice none 0 0, .slice none 0 0, .int .i64 0, .bool false] 25 (0, 0)) (kU BK343)) : gb343 ≠ gb361)); have n11_ := Aside0.mk ((by rw [hg]; exact Nat.ne_of_gt (blk_lt (g := gb343) (o := .cells #[.slice none 0 0, .slice none 0 0, .int .i64 0, .bool false] 25 (0, 0)) (kU BK343)) : gb361 ≠ gb343)); clear HO354; clear HO357; clear BK342; clear BK343; clear HB; have HO354 := n0_; have HO357 := n1_; have BK342 := n2_; have BK343 := n3_; have HB := n4_; have BK361 := n5_; have GW361 := n6_; have GE361 := n7_; have NB342_361 := n8_; have NB361_342 := n9_; have NB343_361 := n10_; have NB361_343 := n11_; clear n0_ n1_ n2_ n3_ n4_ n5_ n6_ n7_ n8_ n9_ n10_ n11_; clear hb hbox hg; obtain ⟨Ao38, co38, eo38⟩ := Kd.R_slice HO354.out; subst eo38; have hnb39 := NB361_342.out; have hnc39 := NB342_361.out; have hnb40 := NB361_343.out; have hnc40 := NB343_361.out; have hcz41_0 : w37.cell? ⟨gb361, 0, none⟩ = some (.slice none 0 0) := (blk_cell BK361.out 0).trans rfl; have hcz41_1 : w37.cell? ⟨gb361, 1, none⟩ = some (.slice none 0 0) := (blk_cell BK361.out 1).trans rfl; have hcz41_2 : w37.cell? ⟨gb361, 2, none⟩ = some (.int .i64 0) := (blk_cell BK361.out 2).trans rfl; have hcz41_3 : w37.cell? ⟨gb361, 3, none⟩ = some (.bool false) := (blk_cell BK361.out 3).trans rfl; have hfz41_0 := blk_frozen BK361.out 0; have hfz41_1 := blk_frozen BK361.out 1; have hfz41_2 := blk_frozen BK361.out 2; have hfz41_3 := blk_frozen BK361.out 3; obtain ⟨Ao42, co42, eo42⟩ := Kd.R_slice HO357.out; subst eo42; have hcz43_0 : w37.cell? ⟨gb343, 0, none⟩ = some (.slice none 0 0) := (blk_cell BK343.out 0).trans rfl; have hcz43_1 : w37.cell? ⟨gb343, 1, none⟩ = some (.slice none 0 0) := (blk_cell BK343.out 1).trans rfl; have hcz43_2 : w37.cell? ⟨gb343, 2, none⟩ = some (.int .i64 0) := (blk_cell BK343.out 2).trans rfl; have hcz43_3 : w37.cell? ⟨gb343, 3, none⟩ = some (.bool false) := (blk_cell BK343.out 3).trans rfl; have hfz43_0 := blk_frozen BK343.out 0; have hfz43_1 := blk_frozen BK343.out 1; have hfz43_2 := blk_frozen BK343.out 2; have hfz43_3 := blk_frozen BK343.out 3))
   refine bodyPost_ret (results_ct rfl _ _ gb343 25 #[.slice Ao38 t352.length co38, .slice Ao42 t355.length co42, .int .i64 t358, .bool t359] (0, 0) _ rfl (kP BK343) Try.underlying25 rfl (by kernel_rfl)) rfl ?_
   exact ⟨_, _, eqU, by (with_reducible repeat (first | apply Kd.R_alloc | apply Kd.R_drewN | apply Kd.R_drew)); exact Kd.R_mono (Kd.R_far (p := ⟨gb343, 3, none⟩) (Kd.R_far (p := ⟨gb343, 2, none⟩) (Kd.R_far (p := ⟨gb343, 1, none⟩) (Kd.R_far (p := ⟨gb343, 0, none⟩) (Kd.R_far (p := ⟨gb361, 3, none⟩) (Kd.R_far (p := ⟨gb361, 2, none⟩) (Kd.R_far (p := ⟨gb361, 1, none⟩) (Kd.R_far (p := ⟨gb361, 0, none⟩) (Kd.R_types (Kd.R_types HO354.out BK361.out (by decide)) BK343.out (by decide)) (fun _ hk => hk.1.2) (.slice Ao38 t352.length co38)) (fun _ hk => hk.1.2) (.slice Ao42 t355.length co42)) (fun _ hk => hk.1.2) (.int .i64 t358)) (fun _ hk => hk.1.2) (.bool t359)) (fun _ hk => hk.2) (.slice Ao38 t352.length co38)) (fun _ hk => hk.2) (.slice Ao42 t355.length co42)) (fun _ hk => hk.2) (.int .i64 t358)) (fun _ hk => hk.2) (.bool t359)) (fun _ hk => trivial), by (with_reducible repeat (first | apply Kd.R_alloc | apply Kd.R_drewN | apply Kd.R_drew)); exact Kd.R_mono (Kd.R_far (p := ⟨gb343, 3, none⟩) (Kd.R_far (p := ⟨gb343, 2, none⟩) (Kd.R_far (p := ⟨gb343, 1, none⟩) (Kd.R_far (p := ⟨gb343, 0, none⟩) (Kd.R_far (p := ⟨gb361, 3, none⟩) (Kd.R_far (p := ⟨gb361, 2, none⟩) (Kd.R_far (p := ⟨gb361, 1, none⟩) (Kd.R_far (p := ⟨gb361, 0, none⟩) (Kd.R_types (Kd.R_types HO357.out BK361.out (by decide)) BK343.out (by decide)) (fun _ hk => hk.1.2) (.slice Ao38 t352.length co38)) (fun _ hk => hk.1.2) (.slice Ao42 t355.length co42)) (fun _ hk => hk.1.2) (.int .i64 t358)) (fun _ hk => hk.1.2) (.bool t359)) (fun _ hk => hk.2) (.slice Ao38 t352.length co38)) (fun _ hk => hk.2) (.slice Ao42 t355.length co42)) (fun _ hk => hk.2) (.int .i64 t358)) (fun _ hk => hk.2) (.bool t359)) (fun _ hk => trivial), bU HB⟩

end Go.Proofs.Ytaocplhijfkicaa.PD
-- written by a program of this work (mk.sh, over the kit's print; stubs are proved by hand)
namespace Go.Proofs.Ytaocplhijfkicaa.PD
open Go.RowKit Go.Proofs.YtaocplhijfkicaaW.PrintWords Go.Proofs.YtaocplhijfkicaaW.PrintLast Go.Proofs.YtaocplhijfkicaaW.PrintMore
attribute [local go_sem] isSome_setCell max2_int min2_int max_two min_two   -- for this text's walks alone
set_option linter.unusedVariables false
set_option linter.unusedSimpArgs false

/-! ### dev_place: function 31 -/
def dev_place.f (l0_0 : List ByteArray) (l0_1 : List (S40)) (a0_2 : Int) (a0_3 : Bool) (a1 : Int) : Option (Bool) := if a1 ≥ 0 then (some (decide (a1 < (l0_0.length : Int)))) else (some false)
set_option maxHeartbeats 8000000 in
set_option maxRecDepth 100000 in
theorem dev_place.calls (A0_0 : Option Addr) (c0_0 : Nat) (l0_0 : List ByteArray) (A0_1 : Option Addr) (c0_1 : Nat) (l0_1 : List (S40)) (a0_2 : Int) (a0_3 : Bool) (a1 : Int) (r : Bool) (w : World) (hr0_0 : Kd.C Kd.string w A0_0 l0_0.length l0_0) (hc0_0 : l0_0.length ≤ c0_0) (hr0_1 : Kd.C k40 w A0_1 l0_1.length l0_1) (hc0_1 : l0_1.length ≤ c0_1) (h : dev_place.f l0_0 l0_1 a0_2 a0_3 a1 = some r) :
  Calls Try.prog 31 #[.agg #[.slice A0_0 l0_0.length c0_0, .slice A0_1 l0_1.length c0_1, .int .i64 a0_2, .bool a0_3], .int .i64 a1] w fun e w' => e = .returned (.bool r) ∧ Below w.heap.size w w' := by
 have hu25 := Try.underlying25
 have HR0_0 := Aside0.mk hr0_0
 have HC0_0 := Aside0.mk hc0_0
 clear hr0_0 hc0_0
 have HR0_1 := Aside0.mk hr0_1
 have HC0_1 := Aside0.mk hc0_1
 clear hr0_1 hc0_1
 have HB := Aside0.mk (Below.refl w.heap.size w)
 have H : (if a1 ≥ 0 then (some (decide (a1 < (l0_0.length : Int)))) else (some false)) = some r := h
 clear h
 by_cases c3 : a1 ≥ 0
 ·rw [if_pos c3] at H
  have c3b0 : decide (0 ≤ a1) = true := decide_eq_true c3
  clear c3
  obtain rfl := Option.some.inj H
  go_enter Try.func31, Try.ntmps31
  go_wp2_with (first | ((with_reducible refine gate_dst (N := 2) rfl ?_); (try (refine gate_guard (by rfl) ?_; dsimp only)); refine box_event ?hg (N := 2) ?hd (cs := #[.slice A0_0 l0_0.length c0_0, .slice A0_1 l0_1.length c0_1, .int .i64 a0_2, .bool a0_3]) (t := 25) ?hr ?_; (case hd => rfl); (case hg => rfl); (case hr => first | (go_simp; done) | (go_simp; rfl)); intro gb101 hg w4 hbox hb; have n0_ := Aside0.mk (below_step (bU HB) hb); have n1_ := Aside0.mk (hbox); have n2_ := Aside0.mk ((by rw [hg]; exact (below_size (bU HB)) : w.heap.size ≤ gb101)); have n3_ := Aside0.mk ((by rw [hg]; exact (below_size (bU HB)) : w.heap.size ≤ gb101)); clear HB; have HB := n0_; have BK101 := n1_; have GW101 := n2_; have GE101 := n3_; clear n0_ n1_ n2_ n3_; clear hb hbox hg; have hcz5_0 : w4.cell? ⟨gb101, 0, none⟩ = some (.slice A0_0 l0_0.length c0_0) := (blk_cell BK101.out 0).trans rfl; have hcz5_1 : w4.cell? ⟨gb101, 1, none⟩ = some (.slice A0_1 l0_1.length c0_1) := (blk_cell BK101.out 1).trans rfl; have hcz5_2 : w4.cell? ⟨gb101, 2, none⟩ = some (.int .i64 a0_2) := (blk_cell BK101.out 2).trans rfl; have hcz5_3 : w4.cell? ⟨gb101, 3, none⟩ = some (.bool a0_3) := (blk_cell BK101.out 3).trans rfl; have hfz5_0 := blk_frozen BK101.out 0; have hfz5_1 := blk_frozen BK101.out 1; have hfz5_2 := blk_frozen BK101.out 2; have hfz5_3 := blk_frozen BK101.out 3))
  go_ret
  exact ⟨eqU, bU HB⟩
 ·rw [if_neg c3] at H
  have c3b0 : decide (0 ≤ a1) = false := decide_eq_false c3
  clear c3
  obtain rfl := Option.some.inj H
  go_enter Try.func31, Try.ntmps31
  go_wp2_with (first | ((with_reducible refine gate_dst (N := 2) rfl ?_); (try (refine gate_guard (by rfl) ?_; dsimp only)); refine box_event ?hg (N := 2) ?hd (cs := #[.slice A0_0 l0_0.length c0_0, .slice A0_1 l0_1.length c0_1, .int .i64 a0_2, .bool a0_3]) (t := 25) ?hr ?_; (case hd => rfl); (case hg => rfl); (case hr => first | (go_simp; done) | (go_simp; rfl)); intro gb101 hg w6 hbox hb; have n0_ := Aside0.mk (below_step (bU HB) hb); have n1_ := Aside0.mk (hbox); have n2_ := Aside0.mk ((by rw [hg]; exact (below_size (bU HB)) : w.heap.size ≤ gb101)); have n3_ := Aside0.mk ((by rw [hg]; exact (below_size (bU HB)) : w.heap.size ≤ gb101)); clear HB; have HB := n0_; have BK101 := n1_; have GW101 := n2_; have GE101 := n3_; clear n0_ n1_ n2_ n3_; clear hb hbox hg))
  go_ret
  exact ⟨eqU, bU HB⟩

end Go.Proofs.Ytaocplhijfkicaa.PD
-- written by a program of this work (mk.sh, over the kit's print; stubs are proved by hand)
namespace Go.Proofs.Ytaocplhijfkicaa.PD
open Go.RowKit Go.Proofs.YtaocplhijfkicaaW.PrintWords Go.Proofs.YtaocplhijfkicaaW.PrintLast Go.Proofs.YtaocplhijfkicaaW.PrintMore
attribute [local go_sem] isSome_setCell max2_int min2_int max_two min_two   -- for this text's walks alone
set_option linter.unusedVariables false
set_option linter.unusedSimpArgs false

/-! ### dev_whole: function 32 -/
def dev_whole.f (a0 : ByteArray) : Option (Bool) := some ((a0.size : Int) == 128)
set_option maxHeartbeats 8000000 in
set_option maxRecDepth 100000 in
theorem dev_whole.calls (a0 : ByteArray) (r : Bool) (w : World) (h : dev_whole.f a0 = some r) :
  Calls Try.prog 32 #[.string a0] w fun e w' => e = .returned (.bool r) ∧ Drawn0 w w' := by
 have H : (some ((a0.size : Int) == 128)) = some r := h
 clear h
 obtain rfl := Option.some.inj H
 go_enter Try.func32, Try.ntmps32
 go_wp2
 go_ret
 exact ⟨by first | rfl | (simp; done) | (simp [*]; done), by repeat (first | exact Drawn0.refl _ | apply Drawn0.step)⟩

end Go.Proofs.Ytaocplhijfkicaa.PD
/- The contracts of the function literals in dev.Fit and dev.Crash: stubs of the print. -/
namespace Go.Proofs.Ytaocplhijfkicaa.PD
open Go.RowKit Go.Proofs.YtaocplhijfkicaaW.PrintWords Go.Proofs.YtaocplhijfkicaaW.PrintLast Go.Proofs.YtaocplhijfkicaaW.PrintMore
attribute [local go_sem] isSome_setCell max2_int min2_int max_two min_two
set_option linter.unusedVariables false
set_option linter.unusedSimpArgs false
def dev_Crash_1.f (a0 : Int) (l1 : List Bool) : Option (Bool) := if a0 < (l1.length : Int) then (if 0 ≤ a0 then (some (rdOf false l1 a0)) else (none)) else (some false)
set_option maxHeartbeats 800000 in
theorem dev_Crash_1.calls (a0 : Int) (A1 : Option Addr) (c1 : Nat) (l1 : List Bool) (r : Bool) (w : World) (hr1 : Kd.C Kd.bool w A1 l1.length l1) (hc1 : l1.length ≤ c1) (h : dev_Crash_1.f a0 l1 = some r) (gq : Nat) (hbk : w.heap[gq]? = some (.cells #[.slice A1 l1.length c1] 32 (0, 0))) :
    Calls Try.prog 30 #[.int .i64 a0, .pointer (some ⟨gq, 0, none⟩)] w fun e w' => e = .returned (.bool r) ∧ Drawn0 w w' := by
  have hqc : w.cell? ⟨gq, 0, none⟩ = some (.slice A1 l1.length c1) := (blk_cell hbk 0).trans rfl
  clear hbk
  have HR1 := Aside0.mk hr1
  have HC1 := Aside0.mk hc1
  clear hr1 hc1
  have H : (if a0 < (l1.length : Int) then (if 0 ≤ a0 then (some (rdOf false l1 a0)) else (none)) else (some false)) = some r := h
  clear h
  by_cases c3 : a0 < (l1.length : Int)
  · rw [if_pos c3] at H
    have c3b0 : decide (a0 < (l1.length : Int)) = true := decide_eq_true c3
    clear c3
    by_cases c4 : 0 ≤ a0
    · rw [if_pos c4] at H
      have c4b0 : decide (0 ≤ a0) = true := decide_eq_true c4
      clear c4
      obtain rfl := Option.some.inj H
      have p104 : 0 ≤ (a0 : Int) := of_decide_eq_true (by assumption)
      have q104 : a0 < (l1.length : Int) := of_decide_eq_true (by assumption)
      obtain ⟨ad104, e104, hx104_0⟩ := Kd.at_bool HR1.out a0 p104 q104
      cases e104
      replace p104 := eq_true p104
      replace q104 := eq_true q104
      go_enter Try.func30, Try.ntmps30
      go_wp2
      go_ret
      exact ⟨by first | rfl | (simp; done) | (simp [*]; done), by repeat (first | exact Drawn0.refl _ | apply Drawn0.step)⟩
    · rw [if_neg c4] at H
      exact absurd H (by simp)
  · rw [if_neg c3] at H
    have c3b0 : decide (a0 < (l1.length : Int)) = false := decide_eq_false c3
    clear c3
    obtain rfl := Option.some.inj H
    go_enter Try.func30, Try.ntmps30
    go_wp2
    go_ret
    exact ⟨by first | rfl | (simp; done) | (simp [*]; done), by repeat (first | exact Drawn0.refl _ | apply Drawn0.step)⟩

/-- A write that has no place, or no block's data. -/
def dev_Fit_1.f (a0_0 : Int) (a0_1 : ByteArray) (a1 : Int) : Option (Bool) := some (!(decide (0 ≤ a0_0) && decide (a0_0 < a1)) || !(a0_1.size == 128))
set_option maxHeartbeats 800000 in
theorem dev_Fit_1.calls (a0_0 : Int) (a0_1 : ByteArray) (a1 : Int) (r : Bool) (w : World) (h : dev_Fit_1.f a0_0 a0_1 a1 = some r) (gq : Nat) (hbk : BoxD w gq a1) :
    Calls Try.prog 34 #[.agg #[.int .i64 a0_0, .string a0_1], .pointer (some ⟨gq, 0, none⟩)] w fun e w' => e = .returned (.bool r) ∧ Below w.heap.size w w' := by
  obtain ⟨A0, c0, l0, A1, c1, l1, a2, a3, rfl, hh, h0, hc0, h1, hc1⟩ := hbk
  obtain rfl := Option.some.inj h
  clear h
  have hgl : gq < w.heap.size := (Array.getElem?_eq_some_iff.1 hh).1
  have hq0 : w.cell? ⟨gq, 0, none⟩ = some (.slice A0 l0.length c0) := (blk_cell hh 0).trans rfl
  have hq1 : w.cell? ⟨gq, 1, none⟩ = some (.slice A1 l1.length c1) := (blk_cell hh 1).trans rfl
  have hq2 : w.cell? ⟨gq, 2, none⟩ = some (.int .i64 a2) := (blk_cell hh 2).trans rfl
  have hq3 : w.cell? ⟨gq, 3, none⟩ = some (.bool a3) := (blk_cell hh 3).trans rfl
  have hu25 := Try.underlying25
  have hu40 := Try.underlying40
  have H0 := Aside0.mk h0
  have H1 := Aside0.mk h1
  have HC := Aside0.mk hc0
  have HD := Aside0.mk hc1
  clear h0 h1 hc0 hc1 hh
  have HB1 := Aside0.mk ((Below.refl w.heap.size w).alloc (Nat.le_refl _) (.cells #[.int .i64 a0_0, .string a0_1] 40))
  by_cases hp : 0 ≤ a0_0 ∧ a0_0 < (l0.length : Int)
  · have hpf : dev_place.f l0 l1 a2 a3 a0_0 = some true := by unfold dev_place.f; rw [if_pos hp.1]; simp [hp.2]
    have hwf : dev_whole.f a0_1 = some (a0_1.size == 128) := by unfold dev_whole.f; congr 1; rw [Bool.eq_iff_iff, beq_iff_eq, beq_iff_eq]; omega
    have HP := Aside0.mk hpf
    have HW := Aside0.mk hwf
    have HR := Aside0.mk (show (!(decide (0 ≤ a0_0) && decide (a0_0 < (l0.length : Int))) || !(a0_1.size == 128)) = !(a0_1.size == 128) by simp [hp.1, hp.2])
    clear hpf hwf hp
    rw [HR.out]
    generalize hzz : (a0_1.size == 128) = zz at *
    clear hzz HR
    go_enter Try.func34, Try.ntmps34
    go_wp2_with (first
      | (go_at_call 31; (with_reducible refine (dev_place.calls _ _ l0 _ _ l1 a2 a3 a0_0 true _ ?s1 HC.out ?s2 HD.out HP.out).mono ?_); (case s1 => exact Kd.C_below H0.out HB1.out); (case s2 => exact Kd.C_below H1.out HB1.out); rintro e w2 ⟨rfl, hb⟩; have hx := (hb.cell (p := ⟨w.heap.size, 1, none⟩) (by simp)).trans ((World.cell?_alloc_new w #[.int .i64 a0_0, .string a0_1] 40 1).trans rfl); have HB2 := Aside0.mk (HB1.out.trans (hb.mono (by simp))); clear hb HB1)
      | (go_at_call 32; (with_reducible refine (dev_whole.calls a0_1 zz _ HW.out).mono ?_); rintro e w3 ⟨rfl, hb⟩; have HB3 := Aside0.mk (HB2.out.trans (hb.below.mono HB2.out.size)); clear hb HB2))
    go_ret
    exact ⟨rfl, HB3.out⟩
  · have hpf : dev_place.f l0 l1 a2 a3 a0_0 = some false := by
      unfold dev_place.f
      split
      · simp; omega
      · rfl
    have HP := Aside0.mk hpf
    have HR := Aside0.mk (show (!(decide (0 ≤ a0_0) && decide (a0_0 < (l0.length : Int))) || !(a0_1.size == 128)) = true by simp; omega)
    clear hpf hp
    rw [HR.out]
    clear HR
    go_enter Try.func34, Try.ntmps34
    go_wp2_with (go_at_call 31; (with_reducible refine (dev_place.calls _ _ l0 _ _ l1 a2 a3 a0_0 false _ ?s1 HC.out ?s2 HD.out HP.out).mono ?_); (case s1 => exact Kd.C_below H0.out HB1.out); (case s2 => exact Kd.C_below H1.out HB1.out); rintro e w2 ⟨rfl, hb⟩; have HB2 := Aside0.mk (HB1.out.trans (hb.mono (by simp))); clear hb HB1)
    go_ret
    exact ⟨rfl, HB2.out⟩
end Go.Proofs.Ytaocplhijfkicaa.PD
-- written by a program of this work (mk.sh, over the kit's print; stubs are proved by hand)
namespace Go.Proofs.Ytaocplhijfkicaa.PD
open Go.RowKit Go.Proofs.YtaocplhijfkicaaW.PrintWords Go.Proofs.YtaocplhijfkicaaW.PrintLast Go.Proofs.YtaocplhijfkicaaW.PrintMore
attribute [local go_sem] isSome_setCell max2_int min2_int max_two min_two   -- for this text's walks alone
set_option linter.unusedVariables false
set_option linter.unusedSimpArgs false

/-! ### dev_doneC: function 28 -/
def dev_doneC.l0 : Nat → List Bool → List (S40) → Int → Int → List ByteArray → List (S40) → Int → Bool → Option (List ByteArray × (List (S40)) × Int × Bool)
 | 0, _, _, _, _, _, _, _, _ => none
 | k + 1, x1, x8, x9, x10, x124000, x124001, x124002, x124003 => if x10 < x9 then (if 0 ≤ x10 then (if x10 < (x8.length : Int) then ((dev_Crash_1.f x10 x1).bind fun t127 => (if t127 = true then (if 0 ≤ ((rd_T40 x8 x10).f0) then (if ((rd_T40 x8 x10).f0) < (x124000.length : Int) then (dev_doneC.l0 k x1 x8 x9 (wrap64 (x10 + 1)) (x124000.set (((rd_T40 x8 x10).f0) : Int).toNat ((rd_T40 x8 x10).f1)) x124001 x124002 x124003) else (none)) else (none)) else (dev_doneC.l0 k x1 x8 x9 (wrap64 (x10 + 1)) x124000 x124001 x124002 x124003))) else (none)) else (none)) else (some (x124000, ([] : List (S40)), x124002, x124003))
def dev_doneC.f (k : Nat) (l0_0 : List ByteArray) (l0_1 : List (S40)) (a0_2 : Int) (a0_3 : Bool) (l1 : List Bool) : Option (List ByteArray × (List (S40)) × Int × Bool) := dev_doneC.l0 k l1 l0_1 (l0_1.length : Int) 0 l0_0 l0_1 a0_2 a0_3
theorem dev_doneC.mono_l : ∀ k, (∀ y0 y1 y2 y3 y4 y5 y6 y7, LeO (dev_doneC.l0 k y0 y1 y2 y3 y4 y5 y6 y7) (dev_doneC.l0 (k + 1) y0 y1 y2 y3 y4 y5 y6 y7))
 | 0 => fun _ _ _ _ _ _ _ _ r h => by simp [dev_doneC.l0] at h
 | k + 1 => by
  have ih0 := dev_doneC.mono_l k
  ·intro y0 y1 y2 y3 y4 y5 y6 y7
   unfold dev_doneC.l0
   repeat' first
   | (with_reducible exact ih0 _ _ _ _ _ _ _ _)
   | (with_reducible exact LeO.refl _)
   | (with_reducible exact LeO.none _)
   | (with_reducible refine LeO.ite ?_ ?_)
   | (with_reducible refine LeO.bind ?_ (fun _ => ?_))
   | exact ih0 _ _ _ _ _ _ _ _
   | exact LeO.none _
   | refine LeO.ite ?_ ?_
   | refine LeO.bind ?_ (fun _ => ?_)
theorem dev_doneC.mono : ∀ a0 a1 a2 a3 a4 k, LeO (dev_doneC.f k a0 a1 a2 a3 a4) (dev_doneC.f (k + 1) a0 a1 a2 a3 a4) := by
 intro a0 a1 a2 a3 a4 k
 have ih0 := dev_doneC.mono_l k
 unfold dev_doneC.f
 repeat' first
   | (with_reducible exact ih0 _ _ _ _ _ _ _ _)
   | (with_reducible exact LeO.refl _)
   | (with_reducible exact LeO.none _)
   | (with_reducible refine LeO.ite ?_ ?_)
   | (with_reducible refine LeO.bind ?_ (fun _ => ?_))
   | exact ih0 _ _ _ _ _ _ _ _
   | exact LeO.none _
   | refine LeO.ite ?_ ?_
   | refine LeO.bind ?_ (fun _ => ?_)
set_option maxHeartbeats 8000000 in
set_option maxRecDepth 100000 in
theorem dev_doneC.calls (k : Nat) (P0_0_ : Nat → Prop) (u9000_ : Value) (l0_0 : List ByteArray) (A0_1 : Option Addr) (c0_1 : Nat) (l0_1 : List (S40)) (a0_2 : Int) (a0_3 : Bool) (A1 : Option Addr) (c1 : Nat) (l1 : List Bool) (r1 : List ByteArray) (r2 : List (S40)) (r3 : Int) (r4 : Bool) (w0 w : World) (hB : Below w0.heap.size w0 w) (ho0_0 : Kd.R Kd.string 9 w w0.heap.size P0_0_ u9000_ l0_0) (hr0_1 : ∀ W_, Kept w W_ (fun k_ => P0_0_ k_) → Kd.C k40 W_ A0_1 l0_1.length l0_1) (hc0_1 : l0_1.length ≤ c0_1) (hr1 : ∀ W_, Kept w W_ (fun k_ => P0_0_ k_) → Kd.C Kd.bool W_ A1 l1.length l1) (hc1 : l1.length ≤ c1) (h : dev_doneC.f k l0_0 l0_1 a0_2 a0_3 l1 = some (r1, r2, r3, r4)) (gq : Nat) (hgq : ¬ P0_0_ gq) (hbk : w.heap[gq]? = some (.cells #[.slice A1 l1.length c1] 32 (0, 0))) :
  Calls Try.prog 28 #[.agg #[u9000_, .slice A0_1 l0_1.length c0_1, .int .i64 a0_2, .bool a0_3], .func (.func 30) #[] #[.pointer (some ⟨gq, 0, none⟩)]] w fun e w' => ∃ v0_ v1_ : Value, e = .returned (.agg #[v0_, v1_, .int .i64 r3, .bool r4]) ∧ Kd.R Kd.string 9 w' w0.heap.size (fun k_ => (P0_0_ k_ ∨ w.heap.size ≤ k_)) v0_ r1 ∧ Kd.R k40 40 w' w0.heap.size (fun k_ => (P0_0_ k_ ∨ w.heap.size ≤ k_)) v1_ r2 ∧ Below w0.heap.size w0 w' ∧ Kept w w' (fun k_ => P0_0_ k_) := by
 have HGQ := Aside0.mk hgq
 have HBK := Aside0.mk hbk
 clear hgq hbk
 have hu25 := Try.underlying25
 have hu40 := Try.underlying40
 have HO0_0 := Aside0.mk (show Kd.R Kd.string 9 w w0.heap.size (fun k_ => (P0_0_ k_ ∨ w.heap.size ≤ k_)) u9000_ l0_0 from Kd.R_mono ho0_0 (fun k_ hk => (.inl hk)))
 have HR0_1 := Aside0.mk hr0_1
 have HC0_1 := Aside0.mk hc0_1
 clear hr0_1 hc0_1
 have HR1 := Aside0.mk hr1
 have HC1 := Aside0.mk hc1
 clear hr1 hc1
 have HK := Aside0.mk (Kept.refl w (fun k_ => P0_0_ k_))
 have HW0 := Aside0.mk hB.size
 have HB := Aside0.mk hB
 clear hB
 have H : (dev_doneC.l0 k l1 l0_1 (l0_1.length : Int) 0 l0_0 l0_1 a0_2 a0_3) = some (r1, r2, r3, r4) := h
 clear h
 have H' := Aside0.mk H
 clear H
 obtain ⟨Ao3, co3, eo3⟩ := Kd.R_slice HO0_0.out
 subst eo3
 go_enter Try.func28, Try.ntmps28
 go_wp2_with (first | ((with_reducible refine gate_dst (N := 2) rfl ?_); refine box_event ?hg (N := 2) ?hd (cs := #[.slice Ao3 l0_0.length co3, .slice A0_1 l0_1.length c0_1, .int .i64 a0_2, .bool a0_3]) (t := 25) ?hr ?_; (case hd => rfl); (case hg => rfl); (case hr => first | (go_simp; done) | (go_simp; rfl)); intro gb123 hg w4 hbox hb; have n0_ := Aside0.mk (Kd.R_below (rU HO0_0) hb); have n1_ := Aside0.mk (Kept.below (S := (fun k_ => P0_0_ k_)) (by repeat (first | (with_reducible first | exact HK.out | apply Kept.alloc | apply Kept.drewN | apply Kept.drew) | exact HK.out)) hb); have n2_ := Aside0.mk (below_step (bU HB) hb); have n3_ := Aside0.mk (hbox); have n4_ := Aside0.mk ((by rw [hg]; exact (by first | exact HK.out.1 | exact (show Kept w _ (fun k_ => P0_0_ k_) from by repeat (first | (with_reducible first | exact HK.out | apply Kept.alloc | apply Kept.drewN | apply Kept.drew) | exact HK.out)).1) : w.heap.size ≤ gb123)); have n5_ := Aside0.mk ((by rw [hg]; exact (below_size (bU HB)) : w0.heap.size ≤ gb123)); clear HO0_0; clear HK; clear HB; have HO0_0 := n0_; have HK := n1_; have HB := n2_; have BK123 := n3_; have GW123 := n4_; have GE123 := n5_; clear n0_ n1_ n2_ n3_ n4_ n5_; clear hb hbox hg) | ((with_reducible refine gate_dst (N := 4) rfl ?_); refine box_event ?hg (N := 4) ?hd (cs := #[.slice none 0 0, .slice none 0 0, .int .i64 0, .bool false]) (t := 25) ?hr ?_; (case hd => rfl); (case hg => rfl); (case hr => first | (go_simp; done) | (go_simp; rfl)); intro gb124 hg w5 hbox hb; have n0_ := Aside0.mk (Kd.R_below (rU HO0_0) hb); have n1_ := Aside0.mk (blk_below (kU BK123) hb); have n2_ := Aside0.mk (Kept.below (S := (fun k_ => P0_0_ k_)) (by repeat (first | (with_reducible first | exact HK.out | apply Kept.alloc | apply Kept.drewN | apply Kept.drew | refine Kept.setCell ?_ (.inr GW123.out) _) | exact HK.out)) hb); have n3_ := Aside0.mk (below_step (bU HB) hb); have n4_ := Aside0.mk (hbox); have n5_ := Aside0.mk ((by rw [hg]; exact (by first | exact HK.out.1 | exact (show Kept w _ (fun k_ => P0_0_ k_) from by repeat (first | (with_reducible first | exact HK.out | apply Kept.alloc | apply Kept.drewN | apply Kept.drew | refine Kept.setCell ?_ (.inr GW123.out) _) | exact HK.out)).1) : w.heap.size ≤ gb124)); have n6_ := Aside0.mk ((by rw [hg]; exact (below_size (bU HB)) : w0.heap.size ≤ gb124)); have n7_ := Aside0.mk ((by rw [hg]; exact Nat.ne_of_lt (blk_lt (g := gb123) (o := .cells #[.slice Ao3 l0_0.length co3, .slice A0_1 l0_1.length c0_1, .int .i64 a0_2, .bool a0_3] 25 (0, 0)) (kU BK123)) : gb123 ≠ gb124)); have n8_ := Aside0.mk ((by rw [hg]; exact Nat.ne_of_gt (blk_lt (g := gb123) (o := .cells #[.slice Ao3 l0_0.length co3, .slice A0_1 l0_1.length c0_1, .int .i64 a0_2, .bool a0_3] 25 (0, 0)) (kU BK123)) : gb124 ≠ gb123)); clear HO0_0; clear BK123; clear HK; clear HB; have HO0_0 := n0_; have BK123 := n1_; have HK := n2_; have HB := n3_; have BK124 := n4_; have GW124 := n5_; have GE124 := n6_; have NB123_124 := n7_; have NB124_123 := n8_; clear n0_ n1_ n2_ n3_ n4_ n5_ n6_ n7_ n8_; clear hb hbox hg; have hnb6 := NB123_124.out; have hnc6 := NB124_123.out; have hcz7_0 : w5.cell? ⟨gb123, 0, none⟩ = some (.slice Ao3 l0_0.length co3) := (blk_cell BK123.out 0).trans rfl; have hcz7_1 : w5.cell? ⟨gb123, 1, none⟩ = some (.slice A0_1 l0_1.length c0_1) := (blk_cell BK123.out 1).trans rfl; have hcz7_2 : w5.cell? ⟨gb123, 2, none⟩ = some (.int .i64 a0_2) := (blk_cell BK123.out 2).trans rfl; have hcz7_3 : w5.cell? ⟨gb123, 3, none⟩ = some (.bool a0_3) := (blk_cell BK123.out 3).trans rfl; have hfz7_0 := blk_frozen BK123.out 0; have hfz7_1 := blk_frozen BK123.out 1; have hfz7_2 := blk_frozen BK123.out 2; have hfz7_3 := blk_frozen BK123.out 3))
 go_loopg [10] k (fun kq v10 w' => ∃ (x10_1 : Int) (x124000_1 : List ByteArray) (u124000 : Value), v10 = .int .i64 x10_1 ∧ Aside0 (dev_doneC.l0 kq l1 l0_1 (l0_1.length : Int) x10_1 x124000_1 l0_1 a0_2 a0_3 = some (r1, r2, r3, r4)) ∧ Aside0 (kq ≤ k) ∧ Aside0 (Kd.R Kd.string 9 w' w0.heap.size (fun k_ => (P0_0_ k_ ∨ w.heap.size ≤ k_)) u124000 x124000_1) ∧ Aside0 (w'.heap[gb123]? = some (.cells #[u124000, (.slice A0_1 l0_1.length c0_1), .int .i64 a0_2, .bool a0_3] 25 (0, 0))) ∧ Aside0 (w'.heap[gb124]? = some (.cells #[(.slice none 0 0), (.slice none 0 0), .int .i64 0, .bool false] 25 (0, 0))) ∧ Aside0 (Kept w w' (fun k_ => P0_0_ k_)) ∧ Aside0 (Below w0.heap.size w0 w'))
 case atStart => exact ⟨(0), (l0_0), (.slice Ao3 l0_0.length co3), (by first | rfl | (simp; done) | (simp [*]; done)), H', ⟨Nat.le_refl _⟩, ⟨rU HO0_0⟩, ⟨kU BK123⟩, ⟨kU BK124⟩, ⟨by repeat (first | (with_reducible first | exact HK.out | apply Kept.alloc | apply Kept.drewN | apply Kept.drew | refine Kept.setCell ?_ (.inr GW123.out) _ | refine Kept.setCell ?_ (.inr GW124.out) _) | exact HK.out)⟩, ⟨bU HB⟩⟩
 case round =>
  clear H'
  try clear c1
  try clear c2
  try clear p2
  try clear c6
  try clear hcz7_0 hcz7_1 hcz7_2 hcz7_3 hfz7_0 hfz7_1 hfz7_2 hfz7_3
  obtain ⟨x10_1, x124000_1, u124000, rfl, HA, HK1, HO_124000, BK123, BK124, HK, HB⟩ := hrel
  cases gk with
  | zero => exact absurd HA.out (by simp [dev_doneC.l0])
  | succ k1 =>
   have H := HA.out
   clear HA
   simp only [dev_doneC.l0] at H
   by_cases c8 : x10_1 < (l0_1.length : Int)
   ·rw [if_pos c8] at H
    have c8b0 : decide (x10_1 < (l0_1.length : Int)) = true := decide_eq_true c8
    clear c8
    by_cases c9 : 0 ≤ x10_1
    ·rw [if_pos c9] at H
     have c9b0 : decide (0 ≤ x10_1) = true := decide_eq_true c9
     clear c9
     by_cases c10 : x10_1 < (l0_1.length : Int)
     ·rw [if_pos c10] at H
      have c10b0 : decide (x10_1 < (l0_1.length : Int)) = true := decide_eq_true c10
      clear c10
      replace H := Option.bind_eq_some_iff.mp H
      obtain ⟨t127, A110, H⟩ := H
      replace H : (if t127 = true then (if 0 ≤ ((rd_T40 l0_1 x10_1).f0) then (if ((rd_T40 l0_1 x10_1).f0) < (x124000_1.length : Int) then (dev_doneC.l0 k1 l1 l0_1 (l0_1.length : Int) (wrap64 (x10_1 + 1)) (x124000_1.set (((rd_T40 l0_1 x10_1).f0) : Int).toNat ((rd_T40 l0_1 x10_1).f1)) l0_1 a0_2 a0_3) else (none)) else (none)) else (dev_doneC.l0 k1 l1 l0_1 (l0_1.length : Int) (wrap64 (x10_1 + 1)) x124000_1 l0_1 a0_2 a0_3)) = some (r1, r2, r3, r4) := H
      have A11 := Aside0.mk A110
      clear A110
      by_cases c12 : t127 = true
      ·subst c12
       have H1 : (if 0 ≤ ((rd_T40 l0_1 x10_1).f0) then (if ((rd_T40 l0_1 x10_1).f0) < (x124000_1.length : Int) then (dev_doneC.l0 k1 l1 l0_1 (l0_1.length : Int) (wrap64 (x10_1 + 1)) (x124000_1.set (((rd_T40 l0_1 x10_1).f0) : Int).toNat ((rd_T40 l0_1 x10_1).f1)) l0_1 a0_2 a0_3) else (none)) else (none)) = some (r1, r2, r3, r4) := by rw [if_pos rfl] at H; exact H
       clear H
       have H := H1
       clear H1
       by_cases c13 : 0 ≤ ((rd_T40 l0_1 x10_1).f0)
       ·rw [if_pos c13] at H
        have c13b0 : decide (0 ≤ ((rd_T40 l0_1 x10_1).f0)) = true := decide_eq_true c13
        clear c13
        by_cases c14 : ((rd_T40 l0_1 x10_1).f0) < (x124000_1.length : Int)
        ·rw [if_pos c14] at H
         have c14b0 : decide (((rd_T40 l0_1 x10_1).f0) < (x124000_1.length : Int)) = true := decide_eq_true c14
         clear c14
         obtain ⟨y128, hy128⟩ : ∃ y_ : List ByteArray, y_ = (x124000_1.set (((rd_T40 l0_1 x10_1).f0) : Int).toNat ((rd_T40 l0_1 x10_1).f1)) := ⟨_, rfl⟩
         replace H : (dev_doneC.l0 k1 l1 l0_1 (l0_1.length : Int) (wrap64 (x10_1 + 1)) y128 l0_1 a0_2 a0_3) = some (r1, r2, r3, r4) := by first | (rw [hy128]; with_reducible exact H) | (have H2_ := (Option.bind_some _ _).symm.trans H; rw [hy128]; with_reducible exact H2_) | (have H2_ := (Option.bind_some _ _).symm.trans H; with_reducible exact H2_) | with_reducible exact H | (rw [hy128]; exact H) | exact H
         have Ny128 := Aside0.mk hy128
         clear hy128
         have H' := Aside0.mk H
         clear H
         have p125 : 0 ≤ (x10_1 : Int) := of_decide_eq_true (by first | (with_reducible assumption) | assumption)
         have q125 : x10_1 < (l0_1.length : Int) := of_decide_eq_true (by first | (with_reducible assumption) | assumption)
         obtain ⟨ad125, e125, hx125_0, hx125_1⟩ := at_T40 (Kd.C_kept_now HR0_1.out HK.out) x10_1 p125 q125
         cases e125
         replace p125 := eq_true p125
         replace q125 := eq_true q125
         go_wp2_with (first | ((with_reducible refine gate_dst (N := 6) rfl ?_); refine box_event ?hg (N := 6) ?hd (cs := #[.int .i64 0, .string (⟨#[]⟩ : ByteArray)]) (t := 40) ?hr ?_; (case hd => rfl); (case hg => rfl); (case hr => first | (go_simp; done) | (go_simp; rfl)); intro gb126 hg w16 hbox hb; have n0_ := Aside0.mk (Kd.R_below (rU HO_124000) hb); have n1_ := Aside0.mk (blk_below (kU BK123) hb); have n2_ := Aside0.mk (blk_below (kU BK124) hb); have n3_ := Aside0.mk (Kept.below (S := (fun k_ => P0_0_ k_)) (by repeat (first | (with_reducible first | exact HK.out | apply Kept.alloc | apply Kept.drewN | apply Kept.drew | refine Kept.setCell ?_ (.inr GW123.out) _ | refine Kept.setCell ?_ (.inr GW124.out) _) | exact HK.out)) hb); have n4_ := Aside0.mk (below_step (bU HB) hb); have n5_ := Aside0.mk (hbox); have n6_ := Aside0.mk ((by rw [hg]; exact (by first | exact HK.out.1 | exact (show Kept w _ (fun k_ => P0_0_ k_) from by repeat (first | (with_reducible first | exact HK.out | apply Kept.alloc | apply Kept.drewN | apply Kept.drew | refine Kept.setCell ?_ (.inr GW123.out) _ | refine Kept.setCell ?_ (.inr GW124.out) _) | exact HK.out)).1) : w.heap.size ≤ gb126)); have n7_ := Aside0.mk ((by rw [hg]; exact (below_size (bU HB)) : w0.heap.size ≤ gb126)); have n8_ := Aside0.mk ((by rw [hg]; exact Nat.ne_of_lt (blk_lt (g := gb123) (o := .cells #[u124000, .slice (some ad125) l0_1.length c0_1, .int .i64 a0_2, .bool a0_3] 25 (0, 0)) (kU BK123)) : gb123 ≠ gb126)); have n9_ := Aside0.mk ((by rw [hg]; exact Nat.ne_of_gt (blk_lt (g := gb123) (o := .cells #[u124000, .slice (some ad125) l0_1.length c0_1, .int .i64 a0_2, .bool a0_3] 25 (0, 0)) (kU BK123)) : gb126 ≠ gb123)); have n10_ := Aside0.mk ((by rw [hg]; exact Nat.ne_of_lt (blk_lt (g := gb124) (o := .cells #[.slice none 0 0, .slice none 0 0, .int .i64 0, .bool false] 25 (0, 0)) (kU BK124)) : gb124 ≠ gb126)); have n11_ := Aside0.mk ((by rw [hg]; exact Nat.ne_of_gt (blk_lt (g := gb124) (o := .cells #[.slice none 0 0, .slice none 0 0, .int .i64 0, .bool false] 25 (0, 0)) (kU BK124)) : gb126 ≠ gb124)); clear HO_124000; clear BK123; clear BK124; clear HK; clear HB; have HO_124000 := n0_; have BK123 := n1_; have BK124 := n2_; have HK := n3_; have HB := n4_; have BK126 := n5_; have GW126 := n6_; have GE126 := n7_; have NB123_126 := n8_; have NB126_123 := n9_; have NB124_126 := n10_; have NB126_124 := n11_; clear n0_ n1_ n2_ n3_ n4_ n5_ n6_ n7_ n8_ n9_ n10_ n11_; clear hb hbox hg; have hnb17 := NB126_123.out; have hnc17 := NB123_126.out; have hnb18 := NB126_124.out; have hnc18 := NB124_126.out; have hcz19_0 : w16.cell? ⟨gb126, 0, none⟩ = some (.int .i64 0) := (blk_cell BK126.out 0).trans rfl; have hcz19_1 : w16.cell? ⟨gb126, 1, none⟩ = some (.string (⟨#[]⟩ : ByteArray)) := (blk_cell BK126.out 1).trans rfl; have hfz19_0 := blk_frozen BK126.out 0; have hfz19_1 := blk_frozen BK126.out 1) | ((with_reducible refine gate_store (t := 40) (p := 6) rfl ?_); refine store_event (t := 40) (p := 6) (v := ?vo_w20) (w1 := ((w16.setCell ⟨gb126, 0, none⟩ (.int .i64 ((rd_T40 l0_1 x10_1).f0))).setCell ⟨gb126, 1, none⟩ (.string ((rd_T40 l0_1 x10_1).f1)))) ?hg ?ho ?hn ?hr ?_; (case ho => rfl); (case hg => rfl); (case hn => rfl); (case hr => first | (go_simp; done) | (go_simp; rfl)); intro w20 hw; have n0_ : Aside0 (Kd.R Kd.string 9 w20 w0.heap.size (fun k_ => (P0_0_ k_ ∨ w.heap.size ≤ k_)) u124000 x124000_1) := ⟨(by rw [hw]; exact (by (with_reducible repeat (first | apply Kd.R_alloc | apply Kd.R_drewN | apply Kd.R_drew)); exact Kd.R_mono (Kd.R_far (p := ⟨gb126, 1, none⟩) (Kd.R_far (p := ⟨gb126, 0, none⟩) (Kd.R_types HO_124000.out BK126.out (by decide)) (fun _ hk => hk.2) (.int .i64 ((rd_T40 l0_1 x10_1).f0))) (fun _ hk => hk.2) (.string ((rd_T40 l0_1 x10_1).f1))) (fun _ hk => hk.1)))⟩; have n1_ : Aside0 (w20.heap[gb123]? = some (.cells #[u124000, .slice (some ad125) l0_1.length c0_1, .int .i64 a0_2, .bool a0_3] 25 (0, 0))) := ⟨(by rw [hw]; exact (kF BK123))⟩; have n2_ : Aside0 (w20.heap[gb124]? = some (.cells #[.slice none 0 0, .slice none 0 0, .int .i64 0, .bool false] 25 (0, 0))) := ⟨(by rw [hw]; exact (kF BK124))⟩; have n3_ : Aside0 (w20.heap[gb126]? = some (.cells #[.int .i64 ((rd_T40 l0_1 x10_1).f0), .string ((rd_T40 l0_1 x10_1).f1)] 40 (0, 0))) := ⟨(by rw [hw]; exact (kP BK126))⟩; have n4_ : Aside0 (Kept w w20 (fun k_ => P0_0_ k_)) := ⟨(by rw [hw]; exact (by repeat (first | (with_reducible first | exact HK.out | apply Kept.alloc | apply Kept.drewN | apply Kept.drew | refine Kept.setCell ?_ (.inr GW123.out) _ | refine Kept.setCell ?_ (.inr GW124.out) _ | refine Kept.setCell ?_ (.inr GW126.out) _) | exact HK.out)))⟩; have n5_ : Aside0 (Below w0.heap.size w0 w20) := ⟨(by rw [hw]; exact (bU HB))⟩; clear hw; clear HO_124000; clear BK123; clear BK124; clear BK126; clear HK; clear HB; have HO_124000 := n0_; have BK123 := n1_; have BK124 := n2_; have BK126 := n3_; have HK := n4_; have HB := n5_; clear n0_ n1_ n2_ n3_ n4_ n5_) | ((with_reducible refine gate_tmp (t := 15) rfl ?_); refine goesF_ (some 17) rfl rfl Try.func30 (by kernel_rfl) rfl #[.int .i64 x10_1, .pointer (some ⟨gq, 0, none⟩)] rfl rfl (by (try simp only [List.map_toArray, List.map_cons, List.map_nil]); first | done | rfl | (simp only [List.length_drop, List.length_take]; rfl)) ?_; (with_reducible refine (dev_Crash_1.calls x10_1 A1 c1 l1 true _ ?side1 ?side2 A11.out gq ?bk).mono ?_); (case bk => exact kept_blk (by repeat (first | (with_reducible first | exact HK.out | apply Kept.alloc | apply Kept.drewN | apply Kept.drew | refine Kept.setCell ?_ (.inr GW123.out) _ | refine Kept.setCell ?_ (.inr GW124.out) _ | refine Kept.setCell ?_ (.inr GW126.out) _) | exact HK.out)) HGQ.out HBK.out); (case side1 => exact Kd.C_kept_now HR1.out (by repeat (first | (with_reducible first | exact HK.out | apply Kept.alloc | apply Kept.drewN | apply Kept.drew | refine Kept.setCell ?_ (.inr GW123.out) _ | refine Kept.setCell ?_ (.inr GW124.out) _ | refine Kept.setCell ?_ (.inr GW126.out) _) | exact HK.out))); (case side2 => exact HC1.out); rintro e w' ⟨rfl, ⟨nd, rfl⟩⟩; refine ⟨_, rfl, ?_⟩; (try (rw [drewN_self w20]; generalize hq_ : World.drewN w20 _ = w20; have n0_ : Aside0 (Kd.R Kd.string 9 w20 w0.heap.size (fun k_ => (P0_0_ k_ ∨ w.heap.size ≤ k_)) u124000 x124000_1) := ⟨by rw [← hq_]; exact (rU HO_124000)⟩; have n1_ : Aside0 (w20.heap[gb123]? = some (.cells #[u124000, .slice (some ad125) l0_1.length c0_1, .int .i64 a0_2, .bool a0_3] 25 (0, 0))) := ⟨by rw [← hq_]; exact (kU BK123)⟩; have n2_ : Aside0 (w20.heap[gb124]? = some (.cells #[.slice none 0 0, .slice none 0 0, .int .i64 0, .bool false] 25 (0, 0))) := ⟨by rw [← hq_]; exact (kU BK124)⟩; have n3_ : Aside0 (w20.heap[gb126]? = some (.cells #[.int .i64 ((rd_T40 l0_1 x10_1).f0), .string ((rd_T40 l0_1 x10_1).f1)] 40 (0, 0))) := ⟨by rw [← hq_]; exact (kU BK126)⟩; have n4_ : Aside0 (Kept w w20 (fun k_ => P0_0_ k_)) := ⟨by rw [← hq_]; exact (by repeat (first | (with_reducible first | exact HK.out | apply Kept.alloc | apply Kept.drewN | apply Kept.drew | refine Kept.setCell ?_ (.inr GW123.out) _ | refine Kept.setCell ?_ (.inr GW124.out) _ | refine Kept.setCell ?_ (.inr GW126.out) _) | exact HK.out))⟩; have n5_ : Aside0 (Below w0.heap.size w0 w20) := ⟨by rw [← hq_]; exact (bU HB)⟩; clear HO_124000 BK123 BK124 BK126 HK HB hq_; have HO_124000 := n0_; have BK123 := n1_; have BK124 := n2_; have BK126 := n3_; have HK := n4_; have HB := n5_; clear n0_ n1_ n2_ n3_ n4_ n5_)); have hnb21 := NB123_124.out; have hnc21 := NB124_123.out; have hcz22_0 : w20.cell? ⟨gb123, 0, none⟩ = some (u124000) := (blk_cell BK123.out 0).trans rfl; have hcz22_1 : w20.cell? ⟨gb123, 1, none⟩ = some (.slice (some ad125) l0_1.length c0_1) := (blk_cell BK123.out 1).trans rfl; have hcz22_2 : w20.cell? ⟨gb123, 2, none⟩ = some (.int .i64 a0_2) := (blk_cell BK123.out 2).trans rfl; have hcz22_3 : w20.cell? ⟨gb123, 3, none⟩ = some (.bool a0_3) := (blk_cell BK123.out 3).trans rfl; have hfz22_0 := blk_frozen BK123.out 0; have hfz22_1 := blk_frozen BK123.out 1; have hfz22_2 := blk_frozen BK123.out 2; have hfz22_3 := blk_frozen BK123.out 3; have hcz23_0 : w20.cell? ⟨gb126, 0, none⟩ = some (.int .i64 ((rd_T40 l0_1 x10_1).f0)) := (blk_cell BK126.out 0).trans rfl; have hcz23_1 : w20.cell? ⟨gb126, 1, none⟩ = some (.string ((rd_T40 l0_1 x10_1).f1)) := (blk_cell BK126.out 1).trans rfl; have hfz23_0 := blk_frozen BK126.out 0; have hfz23_1 := blk_frozen BK126.out 1; have p15 : 0 ≤ (((rd_T40 l0_1 x10_1).f0) : Int) := of_decide_eq_true (by first | (with_reducible assumption) | assumption); have q15 : (((rd_T40 l0_1 x10_1).f0) : Int) < ((x124000_1.length : Int) : Int) := of_decide_eq_true (by first | (with_reducible assumption) | assumption); obtain ⟨go15, co15, eo15, gb15, gl15, cl15, HG15⟩ := Kd.R_form HO_124000.out (by omega); (first | cases eo15 | (injection eo15 with ea_ en_ ec_; (first | subst ea_ | (injection ea_ with ea_; subst ea_)); subst ec_; clear en_)); have GB15 := Aside0.mk gb15; have GG15 := Aside0.mk HG15; clear gb15 gl15 HG15; have HMgo15 := Aside0.mk (show (P0_0_ go15 ∨ w.heap.size ≤ go15) from (HO_124000.out.1 _ rfl)); obtain ⟨hx15_0, hf15_0⟩ := Kd.R_celln (⟨#[]⟩ : ByteArray) HO_124000.out (((rd_T40 l0_1 x10_1).f0) : Int) p15 q15; replace p15 := eq_true p15; replace q15 := eq_true q15; obtain ⟨hy24_, hz24_⟩ := Kd.R_celln (⟨#[]⟩ : ByteArray) HO_124000.out (((rd_T40 l0_1 x10_1).f0) : Int) (of_decide_eq_true (by first | (with_reducible assumption) | assumption)) (of_decide_eq_true (by first | (with_reducible assumption) | assumption)); have HP24 := Kd.R_putg HO_124000.out (((rd_T40 l0_1 x10_1).f0) : Int) ((rd_T40 l0_1 x10_1).f1)) | ((with_reducible refine gate_store (t := 9) (p := 24) rfl ?_); refine store_event (t := 9) (p := 24) (v := ?vo_w25) (w1 := (w20.setCell ⟨go15, (((rd_T40 l0_1 x10_1).f0) : Int).toNat, none⟩ (.string ((rd_T40 l0_1 x10_1).f1)))) ?hg ?ho ?hn ?hr ?_; (case ho => rfl); (case hg => rfl); (case hn => rfl); (case hr => first | (go_simp; done) | (go_simp; rfl)); intro w25 hw; have hg : w20.grownBy w25 (some go15) := (by rw [hw]; exact HP24.2); have hp_ : Kd.R Kd.string 9 w25 w0.heap.size (fun k_ => (P0_0_ k_ ∨ w.heap.size ≤ k_)) (.slice (some ⟨go15, 0, none⟩) x124000_1.length co15) y128 := (by rw [hw, Ny128.out]; exact HP24.1); clear HP24; have n0_ := Aside0.mk (hp_); have n1_ := Aside0.mk (blk_grown (g := gb123) (o := .cells #[.slice (some ⟨go15, 0, none⟩) x124000_1.length co15, .slice (some ad125) l0_1.length c0_1, .int .i64 a0_2, .bool a0_3] 25 (0, 0)) (kU BK123) hg (Kd.R_ne HO_124000.out BK123.out (by decide))); have n2_ := Aside0.mk (blk_grown (g := gb124) (o := .cells #[.slice none 0 0, .slice none 0 0, .int .i64 0, .bool false] 25 (0, 0)) (kU BK124) hg (Kd.R_ne HO_124000.out BK124.out (by decide))); have n3_ := Aside0.mk (blk_grown (g := gb126) (o := .cells #[.int .i64 ((rd_T40 l0_1 x10_1).f0), .string ((rd_T40 l0_1 x10_1).f1)] 40 (0, 0)) (kU BK126) hg (Kd.R_ne HO_124000.out BK126.out (by decide))); have n4_ := Aside0.mk ((by rw [hw]; exact below_set (HB.out) GB15.out : Below w0.heap.size w0 w25)); have n5_ := Aside0.mk (Kept.of_grown (S := (fun k_ => P0_0_ k_)) hg (by repeat (first | (with_reducible first | exact HK.out | apply Kept.alloc | apply Kept.drewN | apply Kept.drew | refine Kept.setCell ?_ (.inr GW123.out) _ | refine Kept.setCell ?_ (.inr GW124.out) _ | refine Kept.setCell ?_ (.inr GW126.out) _) | exact HK.out)) (fun k_ e_ => (HO_124000.out.1 k_ e_))); clear HO_124000; clear BK123; clear BK124; clear BK126; clear HB; clear HK; have HO_124000 := n0_; have BK123 := n1_; have BK124 := n2_; have BK126 := n3_; have HB := n4_; have HK := n5_; clear n0_ n1_ n2_ n3_ n4_ n5_; clear hg hw hp_))
         go_roundg k1
         case measure => have := HK1.out; omega
         case rel => exact ⟨(wrap64 (x10_1 + 1)), (y128), (.slice (some ⟨go15, 0, none⟩) x124000_1.length co15), (by first | rfl | (simp; done) | (simp [*]; done)), H', ⟨by have := HK1.out; omega⟩, ⟨rU HO_124000⟩, ⟨kU BK123⟩, ⟨kU BK124⟩, ⟨by repeat (first | (with_reducible first | exact HK.out | apply Kept.alloc | apply Kept.drewN | apply Kept.drew | refine Kept.setCell ?_ (.inr GW123.out) _ | refine Kept.setCell ?_ (.inr GW124.out) _ | refine Kept.setCell ?_ (.inr GW126.out) _) | exact HK.out)⟩, ⟨bU HB⟩⟩
        ·rw [if_neg c14] at H
         exact absurd H (by simp)
       ·rw [if_neg c13] at H
        exact absurd H (by simp)
      ·replace c12 := Bool.eq_false_iff.mpr c12
       subst c12
       have H1 : (dev_doneC.l0 k1 l1 l0_1 (l0_1.length : Int) (wrap64 (x10_1 + 1)) x124000_1 l0_1 a0_2 a0_3) = some (r1, r2, r3, r4) := by rw [if_neg (show ¬ (false = true) by decide)] at H; exact H
       clear H
       have H := H1
       clear H1
       have H' := Aside0.mk H
       clear H
       have p125 : 0 ≤ (x10_1 : Int) := of_decide_eq_true (by first | (with_reducible assumption) | assumption)
       have q125 : x10_1 < (l0_1.length : Int) := of_decide_eq_true (by first | (with_reducible assumption) | assumption)
       obtain ⟨ad125, e125, hx125_0, hx125_1⟩ := at_T40 (Kd.C_kept_now HR0_1.out HK.out) x10_1 p125 q125
       cases e125
       replace p125 := eq_true p125
       replace q125 := eq_true q125
       go_wp2_with (first | ((with_reducible refine gate_dst (N := 6) rfl ?_); refine box_event ?hg (N := 6) ?hd (cs := #[.int .i64 0, .string (⟨#[]⟩ : ByteArray)]) (t := 40) ?hr ?_; (case hd => rfl); (case hg => rfl); (case hr => first | (go_simp; done) | (go_simp; rfl)); intro gb126 hg w26 hbox hb; have n0_ := Aside0.mk (Kd.R_below (rU HO_124000) hb); have n1_ := Aside0.mk (blk_below (kU BK123) hb); have n2_ := Aside0.mk (blk_below (kU BK124) hb); have n3_ := Aside0.mk (Kept.below (S := (fun k_ => P0_0_ k_)) (by repeat (first | (with_reducible first | exact HK.out | apply Kept.alloc | apply Kept.drewN | apply Kept.drew | refine Kept.setCell ?_ (.inr GW123.out) _ | refine Kept.setCell ?_ (.inr GW124.out) _) | exact HK.out)) hb); have n4_ := Aside0.mk (below_step (bU HB) hb); have n5_ := Aside0.mk (hbox); have n6_ := Aside0.mk ((by rw [hg]; exact (by first | exact HK.out.1 | exact (show Kept w _ (fun k_ => P0_0_ k_) from by repeat (first | (with_reducible first | exact HK.out | apply Kept.alloc | apply Kept.drewN | apply Kept.drew | refine Kept.setCell ?_ (.inr GW123.out) _ | refine Kept.setCell ?_ (.inr GW124.out) _) | exact HK.out)).1) : w.heap.size ≤ gb126)); have n7_ := Aside0.mk ((by rw [hg]; exact (below_size (bU HB)) : w0.heap.size ≤ gb126)); have n8_ := Aside0.mk ((by rw [hg]; exact Nat.ne_of_lt (blk_lt (g := gb123) (o := .cells #[u124000, .slice (some ad125) l0_1.length c0_1, .int .i64 a0_2, .bool a0_3] 25 (0, 0)) (kU BK123)) : gb123 ≠ gb126)); have n9_ := Aside0.mk ((by rw [hg]; exact Nat.ne_of_gt (blk_lt (g := gb123) (o := .cells #[u124000, .slice (some ad125) l0_1.length c0_1, .int .i64 a0_2, .bool a0_3] 25 (0, 0)) (kU BK123)) : gb126 ≠ gb123)); have n10_ := Aside0.mk ((by rw [hg]; exact Nat.ne_of_lt (blk_lt (g := gb124) (o := .cells #[.slice none 0 0, .slice none 0 0, .int .i64 0, .bool false] 25 (0, 0)) (kU BK124)) : gb124 ≠ gb126)); have n11_ := Aside0.mk ((by rw [hg]; exact Nat.ne_of_gt (blk_lt (g := gb124) (o := .cells #[.slice none 0 0, .slice none 0 0, .int .i64 0, .bool false] 25 (0, 0)) (kU BK124)) : gb126 ≠ gb124)); clear HO_124000; clear BK123; clear BK124; clear HK; clear HB; have HO_124000 := n0_; have BK123 := n1_; have BK124 := n2_; have HK := n3_; have HB := n4_; have BK126 := n5_; have GW126 := n6_; have GE126 := n7_; have NB123_126 := n8_; have NB126_123 := n9_; have NB124_126 := n10_; have NB126_124 := n11_; clear n0_ n1_ n2_ n3_ n4_ n5_ n6_ n7_ n8_ n9_ n10_ n11_; clear hb hbox hg; have hnb27 := NB126_123.out; have hnc27 := NB123_126.out; have hnb28 := NB126_124.out; have hnc28 := NB124_126.out; have hcz29_0 : w26.cell? ⟨gb126, 0, none⟩ = some (.int .i64 0) := (blk_cell BK126.out 0).trans rfl; have hcz29_1 : w26.cell? ⟨gb126, 1, none⟩ = some (.string (⟨#[]⟩ : ByteArray)) := (blk_cell BK126.out 1).trans rfl; have hfz29_0 := blk_frozen BK126.out 0; have hfz29_1 := blk_frozen BK126.out 1) | ((with_reducible refine gate_tmp (t := 15) rfl ?_); refine goesF_ (some 17) rfl rfl Try.func30 (by kernel_rfl) rfl #[.int .i64 x10_1, .pointer (some ⟨gq, 0, none⟩)] rfl rfl (by (try simp only [List.map_toArray, List.map_cons, List.map_nil]); first | done | rfl | (simp only [List.length_drop, List.length_take]; rfl)) ?_; (with_reducible refine (dev_Crash_1.calls x10_1 A1 c1 l1 false _ ?side1 ?side2 A11.out gq ?bk).mono ?_); (case bk => exact kept_blk (by repeat (first | (with_reducible first | exact HK.out | apply Kept.alloc | apply Kept.drewN | apply Kept.drew | refine Kept.setCell ?_ (.inr GW123.out) _ | refine Kept.setCell ?_ (.inr GW124.out) _ | refine Kept.setCell ?_ (.inr GW126.out) _) | exact HK.out)) HGQ.out HBK.out); (case side1 => exact Kd.C_kept_now HR1.out (by repeat (first | (with_reducible first | exact HK.out | apply Kept.alloc | apply Kept.drewN | apply Kept.drew | refine Kept.setCell ?_ (.inr GW123.out) _ | refine Kept.setCell ?_ (.inr GW124.out) _ | refine Kept.setCell ?_ (.inr GW126.out) _) | exact HK.out))); (case side2 => exact HC1.out); rintro e w' ⟨rfl, ⟨nd, rfl⟩⟩; refine ⟨_, rfl, ?_⟩))
       go_roundg k1
       case measure => have := HK1.out; omega
       case rel => exact ⟨(wrap64 (x10_1 + 1)), (x124000_1), (u124000), (by first | rfl | (simp; done) | (simp [*]; done)), H', ⟨by have := HK1.out; omega⟩, ⟨by (with_reducible repeat (first | apply Kd.R_alloc | apply Kd.R_drewN | apply Kd.R_drew)); exact Kd.R_mono (Kd.R_far (p := ⟨gb126, 1, none⟩) (Kd.R_far (p := ⟨gb126, 0, none⟩) (Kd.R_types HO_124000.out BK126.out (by decide)) (fun _ hk => hk.2) (.int .i64 ((rd_T40 l0_1 x10_1).f0))) (fun _ hk => hk.2) (.string ((rd_T40 l0_1 x10_1).f1))) (fun _ hk => hk.1)⟩, ⟨kF BK123⟩, ⟨kF BK124⟩, ⟨by repeat (first | (with_reducible first | exact HK.out | apply Kept.alloc | apply Kept.drewN | apply Kept.drew | refine Kept.setCell ?_ (.inr GW123.out) _ | refine Kept.setCell ?_ (.inr GW124.out) _ | refine Kept.setCell ?_ (.inr GW126.out) _) | exact HK.out)⟩, ⟨bU HB⟩⟩
     ·rw [if_neg c10] at H
      exact absurd H (by simp)
    ·rw [if_neg c9] at H
     exact absurd H (by simp)
   ·rw [if_neg c8] at H
    have c8b0 : decide (x10_1 < (l0_1.length : Int)) = false := decide_eq_false c8
    clear c8
    simp only [Option.some.injEq, Prod.mk.injEq] at H
    obtain ⟨rfl, rfl, rfl, rfl⟩ := H
    have hnb30 := NB123_124.out
    have hnc30 := NB124_123.out
    obtain ⟨hcz31_0, hcz31_1, hcz31_2, hcz31_3, hfz31_0, hfz31_1, hfz31_2, hfz31_3⟩ := k4 BK123
    obtain ⟨Ao32, co32, eo32⟩ := Kd.R_slice HO_124000.out
    subst eo32
    obtain ⟨hcz33_0, hcz33_1, hcz33_2, hcz33_3, hfz33_0, hfz33_1, hfz33_2, hfz33_3⟩ := k4 BK124
    go_wp2
    refine bodyPost_ret (results_cell_row rfl _ _ gb124 25 #[.slice Ao32 x124000_1.length co32, .slice none 0 0, .int .i64 a0_2, .bool a0_3] (0, 0) _ rfl (kP BK124) Try.underlying25 rfl (by kernel_rfl)) rfl ?_
    exact ⟨_, _, eqU, by (with_reducible repeat (first | apply Kd.R_alloc | apply Kd.R_drewN | apply Kd.R_drew)); exact Kd.R_mono (Kd.R_far (p := ⟨gb124, 3, none⟩) (Kd.R_far (p := ⟨gb124, 2, none⟩) (Kd.R_far (p := ⟨gb124, 1, none⟩) (Kd.R_far (p := ⟨gb124, 0, none⟩) (Kd.R_far (p := ⟨gb123, 1, none⟩) (Kd.R_types (Kd.R_types HO_124000.out BK123.out (by decide)) BK124.out (by decide)) (fun _ hk => hk.1.2) (.slice none 0 0)) (fun _ hk => hk.2) (.slice Ao32 x124000_1.length co32)) (fun _ hk => hk.2) (.slice none 0 0)) (fun _ hk => hk.2) (.int .i64 a0_2)) (fun _ hk => hk.2) (.bool a0_3)) (fun _ hk => hk.1.1), by first | exact Kd.R_nil _ _ _ _ _ | exact Kd.N_nil _ _ _ _ _ | exact Kd.V_nil _ _ _ _ _ | exact Kd.Q_nil _ _ _ _ _ | exact Kd.S_nil _ _ _ _ _, bU HB, by repeat (first | (with_reducible first | exact HK.out | apply Kept.alloc | apply Kept.drewN | apply Kept.drew | refine Kept.setCell ?_ (.inr GW123.out) _ | refine Kept.setCell ?_ (.inr GW124.out) _) | exact HK.out)⟩

end Go.Proofs.Ytaocplhijfkicaa.PD
/- The contracts of dev.done, dev.Flush and dev.Crash: stubs of the print. -/
namespace Go.Proofs.Ytaocplhijfkicaa.PD
open Go.RowKit Go.Proofs.YtaocplhijfkicaaW.PrintWords Go.Proofs.YtaocplhijfkicaaW.PrintLast Go.Proofs.YtaocplhijfkicaaW.PrintMore
attribute [local go_sem] isSome_setCell max2_int min2_int max_two min_two
set_option linter.unusedVariables false
set_option linter.unusedSimpArgs false
/-- The blocks behind the writes of ca (the i-th stands at place n + i), those alone that p counts. -/
def doneL (p : Nat → Bool) : Nat → List ByteArray → List S40 → List ByteArray
  | _, bl, [] => bl
  | n, bl, w :: r => doneL p (n + 1) (if p n then bl.set w.f0.toNat w.f1 else bl) r
/-- Each write that is counted has a block. -/
def fitW (p : Nat → Bool) (m : Nat) : Nat → List S40 → Bool
  | _, [] => true
  | n, w :: r => (!p n || (decide (0 ≤ w.f0) && decide (w.f0 < m))) && fitW p m (n + 1) r
def kept (keep : List Bool) (i : Nat) : Bool := keep.getD i false
theorem wrap_up {i : Nat} (h : i ≤ 5864062014805) : wrap64 ((i : Int) + 1) = ((i + 1 : Nat) : Int) := by unfold wrap64; omega
theorem drop_cons {α : Type} (l : List α) (i : Nat) (d : α) (h : i < l.length) : l.drop i = l.getD i d :: l.drop (i + 1) := by
  rw [List.drop_eq_getElem_cons h, List.getD_eq_getElem?_getD, List.getElem?_eq_getElem h]; rfl
theorem rd_nat (l : List S40) (i : Nat) : rd_T40 l (i : Int) = l.getD i z40 := by unfold rd_T40; rw [Int.toNat_natCast]
theorem doneF_l0 (l1 : List S40) (hl : l1.length < 5864062014805) (a2 : Int) (a3 : Bool) : ∀ (d k i : Nat) (bl : List ByteArray), i ≤ l1.length → l1.length - i = d → d < k → fitW (fun _ => true) bl.length i (l1.drop i) = true →
    dev_doneF.l0 k l1 (l1.length : Int) (i : Int) bl l1 a2 a3 = some (doneL (fun _ => true) i bl (l1.drop i), [], a2, a3) := by
  intro d
  induction d with
  | zero =>
    intro k i bl hi hd hk hf
    obtain ⟨k, rfl⟩ : ∃ m, k = m + 1 := ⟨k - 1, by omega⟩
    have hil : i = l1.length := by omega
    simp only [dev_doneF.l0]
    rw [if_neg (by omega), hil, List.drop_length]
    rfl
  | succ d ih =>
    intro k i bl hi hd hk hf
    obtain ⟨k, rfl⟩ : ∃ m, k = m + 1 := ⟨k - 1, by omega⟩
    have hlt : i < l1.length := by omega
    rw [drop_cons l1 i z40 hlt] at hf ⊢
    simp only [fitW, Bool.not_true, Bool.false_or, Bool.and_eq_true, decide_eq_true_eq] at hf
    obtain ⟨⟨h0, h1⟩, hf⟩ := hf
    simp only [dev_doneF.l0, dev_Flush_1.f]
    rw [if_pos (by omega), if_pos (by omega), if_pos (by omega)]
    simp only [Option.bind_some, if_true, rd_nat]
    rw [if_pos h0, if_pos h1, wrap_up (by omega)]
    rw [ih k (i + 1) _ (by omega) (by omega) (by omega) (by rw [List.length_set]; exact hf)]
    simp only [doneL, if_true]
theorem crash1 (keep : List Bool) (i : Nat) : dev_Crash_1.f (i : Int) keep = some (kept keep i) := by
  unfold dev_Crash_1.f kept
  by_cases h : i < keep.length
  · rw [if_pos (by omega), if_pos (by omega)]
    unfold rdOf
    rw [Int.toNat_natCast]
  · rw [if_neg (by omega), List.getD_eq_getElem?_getD, List.getElem?_eq_none (by omega)]
    rfl
theorem doneC_l0 (keep : List Bool) (l1 : List S40) (hl : l1.length < 5864062014805) (a2 : Int) (a3 : Bool) : ∀ (d k i : Nat) (bl : List ByteArray), i ≤ l1.length → l1.length - i = d → d < k → fitW (kept keep) bl.length i (l1.drop i) = true →
    dev_doneC.l0 k keep l1 (l1.length : Int) (i : Int) bl l1 a2 a3 = some (doneL (kept keep) i bl (l1.drop i), [], a2, a3) := by
  intro d
  induction d with
  | zero =>
    intro k i bl hi hd hk hf
    obtain ⟨k, rfl⟩ : ∃ m, k = m + 1 := ⟨k - 1, by omega⟩
    have hil : i = l1.length := by omega
    simp only [dev_doneC.l0]
    rw [if_neg (by omega), hil, List.drop_length]
    rfl
  | succ d ih =>
    intro k i bl hi hd hk hf
    obtain ⟨k, rfl⟩ : ∃ m, k = m + 1 := ⟨k - 1, by omega⟩
    have hlt : i < l1.length := by omega
    rw [drop_cons l1 i z40 hlt] at hf ⊢
    simp only [fitW, Bool.and_eq_true, Bool.or_eq_true, Bool.not_eq_true', decide_eq_true_eq] at hf
    obtain ⟨hp, hf⟩ := hf
    simp only [dev_doneC.l0]
    rw [if_pos (by omega), if_pos (by omega), if_pos (by omega), crash1]
    simp only [Option.bind_some, rd_nat]
    rw [wrap_up (by omega)]
    cases hk' : kept keep i with
    | false =>
      simp only [Bool.false_eq_true, if_false]
      rw [ih k (i + 1) _ (by omega) (by omega) (by omega) hf]
      simp only [doneL, hk', Bool.false_eq_true, if_false]
    | true =>
      rcases hp with hp | ⟨h0, h1⟩
      · rw [hk'] at hp; cases hp
      · simp only [if_true]
        rw [if_pos h0, if_pos h1]
        rw [ih k (i + 1) _ (by omega) (by omega) (by omega) (by rw [List.length_set]; exact hf)]
        simp only [doneL, hk', if_true]
theorem owned_f (l0 : List ByteArray) (l1 : List S40) (a2 : Int) (a3 : Bool) (h0 : l0.length < 8796093022208) (h1 : l1.length < 5864062014805) : dev_owned.f l0 l1 a2 a3 = some (l0, l1, a2, a3) := by
  unfold dev_owned.f slices_Clone_string_string.f api_Wr_45.f
  rw [if_pos h0, if_pos h1]; rfl
theorem spend_f (l0 : List ByteArray) (l1 : List S40) (a2 : Int) (a3 : Bool) (h0 : l0.length < 8796093022208) (h1 : l1.length < 5864062014805) (hlo : -1 ≤ a2) (hhi : a2 ≤ 9223372036854775807) :
    dev_spend.f l0 l1 a2 a3 = if a2 = 0 then some (l0, l1, a2, true, 16) else some (l0, l1, (if a2 > 0 then a2 - 1 else a2), a3, 0) := by
  unfold dev_spend.f
  rw [owned_f l0 l1 a2 a3 h0 h1]
  simp only [Option.bind_some]
  by_cases h : a2 = 0
  · rw [if_pos h, if_pos h]
  · rw [if_neg h, if_neg h]
    by_cases hp : a2 > 0
    · rw [if_pos hp, if_pos hp, show wrap64 (a2 - 1) = a2 - 1 from by unfold wrap64; omega]
    · rw [if_neg hp, if_neg hp]
def dev_Flush.f (l0_0 : List ByteArray) (l0_1 : List (S40)) (a0_2 : Int) (a0_3 : Bool) : Option (List ByteArray × (List (S40)) × Int × Bool × Int) :=
  if l0_0.length < 8796093022208 ∧ l0_1.length < 5864062014805 ∧ fitW (fun _ => true) l0_0.length 0 l0_1 = true ∧ -1 ≤ a0_2 ∧ a0_2 ≤ 9223372036854775807 then
    (if a0_3 = true then some (l0_0, l0_1, a0_2, a0_3, 17) else if a0_2 = 0 then some (l0_0, l0_1, a0_2, true, 16) else some (doneL (fun _ => true) 0 l0_0 l0_1, [], (if a0_2 > 0 then a0_2 - 1 else a0_2), a0_3, 0)) else none
theorem dev_Flush.calls (A0_0 : Option Addr) (c0_0 : Nat) (l0_0 : List ByteArray) (A0_1 : Option Addr) (c0_1 : Nat) (l0_1 : List (S40)) (a0_2 : Int) (a0_3 : Bool) (r1 : List ByteArray) (r2 : List (S40)) (r3 : Int) (r4 : Bool) (r5 : Int) (w : World) (hr0_0 : Kd.C Kd.string w A0_0 l0_0.length l0_0) (hc0_0 : l0_0.length ≤ c0_0) (hr0_1 : Kd.C k40 w A0_1 l0_1.length l0_1) (hc0_1 : l0_1.length ≤ c0_1) (h : dev_Flush.f l0_0 l0_1 a0_2 a0_3 = some (r1, r2, r3, r4, r5)) :
    Calls Try.prog 10 #[.agg #[.slice A0_0 l0_0.length c0_0, .slice A0_1 l0_1.length c0_1, .int .i64 a0_2, .bool a0_3]] w fun e w' => ∃ v0_ v1_ : Value, e = .returned (.tuple #[.agg #[v0_, v1_, .int .i64 r3, .bool r4], .int .i64 r5]) ∧ Kd.R Kd.string 9 w' w.heap.size (fun _ => True) v0_ r1 ∧ Kd.R k40 40 w' w.heap.size (fun _ => True) v1_ r2 ∧ Below w.heap.size w w' := by
  unfold dev_Flush.f at h
  split at h
  case isFalse => cases h
  rename_i hc
  obtain ⟨h0, h1, hf, hlo, hhi⟩ := hc
  refine dev_FlushF.calls (l0_1.length + 1) A0_0 c0_0 l0_0 A0_1 c0_1 l0_1 a0_2 a0_3 r1 r2 r3 r4 r5 w hr0_0 hc0_0 hr0_1 hc0_1 ?_
  rw [← h]
  unfold dev_FlushF.f
  by_cases hd : a0_3 = true
  · rw [if_pos hd, if_pos hd, owned_f l0_0 l0_1 a0_2 a0_3 h0 h1]
    rfl
  · rw [if_neg hd, if_neg hd, spend_f l0_0 l0_1 a0_2 a0_3 h0 h1 hlo hhi]
    by_cases hz : a0_2 = 0
    · rw [if_pos hz, if_pos hz]
      simp
    · rw [if_neg hz, if_neg hz]
      simp only [Option.bind_some, if_true]
      unfold dev_doneF.f
      have hx := doneF_l0 l0_1 h1 (if a0_2 > 0 then a0_2 - 1 else a0_2) a0_3 l0_1.length (l0_1.length + 1) 0 l0_0 (Nat.zero_le _) (by omega) (by omega) (by rw [List.drop_zero]; exact hf)
      rw [List.drop_zero] at hx
      rw [show ((0 : Nat) : Int) = 0 from rfl] at hx
      rw [hx]
      rfl
def dev_Crash.f (l0_0 : List ByteArray) (l0_1 : List (S40)) (a0_2 : Int) (a0_3 : Bool) (l1 : List Bool) : Option (List ByteArray × (List (S40)) × Int × Bool) :=
  if l0_0.length < 8796093022208 ∧ l0_1.length < 5864062014805 ∧ fitW (kept l1) l0_0.length 0 l0_1 = true then some (doneL (kept l1) 0 l0_0 l0_1, [], -1, false) else none
set_option maxRecDepth 100000 in
set_option maxHeartbeats 1600000 in
theorem dev_Crash.calls (A0_0 : Option Addr) (c0_0 : Nat) (l0_0 : List ByteArray) (A0_1 : Option Addr) (c0_1 : Nat) (l0_1 : List (S40)) (a0_2 : Int) (a0_3 : Bool) (A1 : Option Addr) (c1 : Nat) (l1 : List Bool) (r1 : List ByteArray) (r2 : List (S40)) (r3 : Int) (r4 : Bool) (w : World) (hr0_0 : Kd.C Kd.string w A0_0 l0_0.length l0_0) (hc0_0 : l0_0.length ≤ c0_0) (hr0_1 : Kd.C k40 w A0_1 l0_1.length l0_1) (hc0_1 : l0_1.length ≤ c0_1) (hr1 : Kd.C Kd.bool w A1 l1.length l1) (hc1 : l1.length ≤ c1) (h : dev_Crash.f l0_0 l0_1 a0_2 a0_3 l1 = some (r1, r2, r3, r4)) :
    Calls Try.prog 11 #[.agg #[.slice A0_0 l0_0.length c0_0, .slice A0_1 l0_1.length c0_1, .int .i64 a0_2, .bool a0_3], .slice A1 l1.length c1] w fun e w' => ∃ v0_ v1_ : Value, e = .returned (.agg #[v0_, v1_, .int .i64 r3, .bool r4]) ∧ Kd.R Kd.string 9 w' w.heap.size (fun _ => True) v0_ r1 ∧ Kd.R k40 40 w' w.heap.size (fun _ => True) v1_ r2 ∧ Below w.heap.size w w' := by
  unfold dev_Crash.f at h
  split at h
  case isFalse => cases h
  rename_i hc
  obtain ⟨hl0, hl1, hf⟩ := hc
  simp only [Option.some.injEq, Prod.mk.injEq] at h
  obtain ⟨rfl, rfl, rfl, rfl⟩ := h
  have hdone : dev_doneC.f (l0_1.length + 1) l0_0 l0_1 a0_2 a0_3 l1 = some (doneL (kept l1) 0 l0_0 l0_1, [], a0_2, a0_3) := by
    unfold dev_doneC.f
    have hx := doneC_l0 l1 l0_1 hl1 a0_2 a0_3 l0_1.length (l0_1.length + 1) 0 l0_0 (Nat.zero_le _) (by omega) (by omega) (by rw [List.drop_zero]; exact hf)
    rw [List.drop_zero] at hx
    exact hx
  have HOW := Aside0.mk (owned_f l0_0 l0_1 a0_2 a0_3 hl0 hl1)
  have HDN := Aside0.mk hdone
  clear hdone hf hl0 hl1
  have hu25 := Try.underlying25
  have HR0 := Aside0.mk hr0_0
  have HC0 := Aside0.mk hc0_0
  have HR1 := Aside0.mk hr0_1
  have HC1 := Aside0.mk hc0_1
  have HR2 := Aside0.mk hr1
  have HC2 := Aside0.mk hc1
  clear hr0_0 hc0_0 hr0_1 hc0_1 hr1 hc1
  generalize hdl : doneL (kept l1) 0 l0_0 l0_1 = dl at *
  clear hdl
  obtain ⟨W1, hW1⟩ : ∃ W1, W1 = ((w.alloc (.cells #[.slice A0_0 l0_0.length c0_0, .slice A0_1 l0_1.length c0_1, .int .i64 a0_2, .bool a0_3] 25)).alloc (.cells #[.slice A1 l1.length c1] 32)).alloc (.cells #[.slice none 0 0, .slice none 0 0, .int .i64 0, .bool false] 25) := ⟨_, rfl⟩
  go_enter Try.func11, Try.ntmps11
  go_upto_region 1 with (fail)
  rw [← hW1]
  have hsz : W1.heap.size = w.heap.size + 3 := by rw [hW1]; simp
  have hbW : Below w.heap.size w W1 := by rw [hW1]; exact (((Below.refl _ _).alloc (Nat.le_refl _) _).alloc (by simp) _).alloc (by simp; omega) _
  have hk2 : W1.heap[w.heap.size]? = some (.cells #[.slice A0_0 l0_0.length c0_0, .slice A0_1 l0_1.length c0_1, .int .i64 a0_2, .bool a0_3] 25 (0, 0)) := by
    rw [hW1, Below.heap_alloc _ _ _ (by simp; omega), Below.heap_alloc _ _ _ (by simp)]; exact heap_alloc_new _ _
  have hk3 : W1.heap[w.heap.size + 1]? = some (.cells #[.slice A1 l1.length c1] 32 (0, 0)) := by
    rw [hW1, Below.heap_alloc _ _ _ (by simp)]
    have := heap_alloc_new (w.alloc (.cells #[.slice A0_0 l0_0.length c0_0, .slice A0_1 l0_1.length c0_1, .int .i64 a0_2, .bool a0_3] 25)) (.cells #[.slice A1 l1.length c1] 32)
    simpa using this
  have hk4 : W1.heap[w.heap.size + 2]? = some (.cells #[.slice none 0 0, .slice none 0 0, .int .i64 0, .bool false] 25 (0, 0)) := by
    rw [hW1]
    have := heap_alloc_new ((w.alloc (.cells #[.slice A0_0 l0_0.length c0_0, .slice A0_1 l0_1.length c0_1, .int .i64 a0_2, .bool a0_3] 25)).alloc (.cells #[.slice A1 l1.length c1] 32)) (.cells #[.slice none 0 0, .slice none 0 0, .int .i64 0, .bool false] 25)
    simpa using this
  clear hW1
  have HSZ := Aside0.mk hsz
  have HBW := Aside0.mk hbW
  have HK3 := Aside0.mk hk3
  have HK4 := Aside0.mk hk4
  have q0 : W1.cell? ⟨w.heap.size, 0, none⟩ = some (.slice A0_0 l0_0.length c0_0) := (blk_cell hk2 0).trans rfl
  have q1 : W1.cell? ⟨w.heap.size, 1, none⟩ = some (.slice A0_1 l0_1.length c0_1) := (blk_cell hk2 1).trans rfl
  have q2 : W1.cell? ⟨w.heap.size, 2, none⟩ = some (.int .i64 a0_2) := (blk_cell hk2 2).trans rfl
  have q3 : W1.cell? ⟨w.heap.size, 3, none⟩ = some (.bool a0_3) := (blk_cell hk2 3).trans rfl
  clear hsz hbW hk2 hk3 hk4
  go_upto_region 2 with (first
    | ((with_reducible refine gate_callee (f := 26) rfl ?_); refine goesL_ (some 7) rfl rfl Try.func26 (by kernel_rfl) rfl #[.agg #[.slice A0_0 l0_0.length c0_0, .slice A0_1 l0_1.length c0_1, .int .i64 a0_2, .bool a0_3]] rfl (by (try simp only [List.map_toArray, List.map_cons, List.map_nil]); first | done | rfl | (simp only [List.length_drop, List.length_take]; rfl)) ?_; (with_reducible refine (dev_owned.calls _ _ l0_0 _ _ l0_1 a0_2 a0_3 l0_0 l0_1 a0_2 a0_3 W1 ?s1 HC0.out ?s2 HC1.out HOW.out).mono ?_); (case s1 => exact Kd.C_below HR0.out HBW.out); (case s2 => exact Kd.C_below HR1.out HBW.out); rintro e W2 ⟨v0, v1, rfl, ho0, ho1, hb⟩; refine ⟨_, rfl, ?_⟩; obtain ⟨Ao, co, eo⟩ := Kd.R_slice ho0; subst eo; obtain ⟨Ap, cp, ep⟩ := Kd.R_slice ho1; subst ep; have HO0 := Aside0.mk ho0; have HO1 := Aside0.mk ho1; have HB2 := Aside0.mk hb; clear ho0 ho1 hb q0 q1 q2 q3)
    | ((with_reducible refine gate_callee (f := 28) rfl ?_); refine goesL_ (some 9) rfl rfl Try.func28 (by kernel_rfl) rfl #[.agg #[.slice Ao l0_0.length co, .slice Ap l0_1.length cp, .int .i64 a0_2, .bool a0_3], .func (.func 30) #[] #[.pointer (some ⟨w.heap.size + 1, 0, none⟩)]] rfl (by (try simp only [List.map_toArray, List.map_cons, List.map_nil]); first | done | rfl | (simp only [List.length_drop, List.length_take]; rfl)) ?_; (with_reducible refine (dev_doneC.calls (l0_1.length + 1) (fun k_ => some k_ = (.slice Ao l0_0.length co : Value).ownBlock) (.slice Ao l0_0.length co) l0_0 _ _ l0_1 a0_2 a0_3 A1 c1 l1 dl [] a0_2 a0_3 W1 W2 HB2.out ?s1 ?s2 ?s3 ?s4 HC2.out HDN.out (w.heap.size + 1) ?s5 ?s6).mono ?_); (case s1 => exact Kd.R_tight rfl HO0.out); (case s2 => exact Kd.C_kept_own (Kd.R_apart' HO1.out (Kd.R_typed HO0.out) (by decide)) (fun k_ hk_ hs_ => (hk_.2) hs_)); (case s3 => exact (Kd.R_reads' HO1.out).2.1); (case s4 => exact Kd.C_kept_came Kd.heap_bool (Kd.C_below HR2.out HBW.out) HB2.out (fun k_ hs_ => Kd.R_base HO0.out k_ hs_.symm)); (case s5 => intro he; have := Kd.R_base HO0.out _ he.symm; have := HSZ.out; omega); (case s6 => exact (HB2.out.block _ (by have := HSZ.out; omega)).trans HK3.out); rintro e W3 ⟨v2, v3, rfl, ho2, ho3, hb3, hkp⟩; refine ⟨_, rfl, ?_⟩; obtain ⟨Aq, cq, eq_⟩ := Kd.R_slice ho2; subst eq_; obtain ⟨Ar, cr, er⟩ := Kd.R_slice ho3; subst er; have HO2 := Aside0.mk ho2; have HO3 := Aside0.mk ho3; have HB3 := Aside0.mk hb3; have HK := Aside0.mk hkp; clear ho2 ho3 hb3 hkp))
  have hb4 : W3.heap[w.heap.size + 1 + 1]? = some (.cells #[.slice none 0 0, .slice none 0 0, .int .i64 0, .bool false] 25 (0, 0)) := by
    have h2 : W2.heap[w.heap.size + 2]? = _ := (HB2.out.block _ (by have := HSZ.out; omega)).trans HK4.out
    exact kept_blk HK.out (fun he => by have := Kd.R_base HO0.out _ he.symm; have := HSZ.out; omega) h2
  have HB4 := Aside0.mk hb4
  have x0 : W3.cell? ⟨w.heap.size + 1 + 1, 0, none⟩ = some (.slice none 0 0) := (blk_cell hb4 0).trans rfl
  have x1 : W3.cell? ⟨w.heap.size + 1 + 1, 1, none⟩ = some (.slice none 0 0) := (blk_cell hb4 1).trans rfl
  have x2 : W3.cell? ⟨w.heap.size + 1 + 1, 2, none⟩ = some (.int .i64 0) := (blk_cell hb4 2).trans rfl
  have x3 : W3.cell? ⟨w.heap.size + 1 + 1, 3, none⟩ = some (.bool false) := (blk_cell hb4 3).trans rfl
  have y0 := blk_frozen hb4 0
  have y1 := blk_frozen hb4 1
  have y2 := blk_frozen hb4 2
  have y3 := blk_frozen hb4 3
  have hlt : w.heap.size + 1 + 1 < W3.heap.size := (Array.getElem?_eq_some_iff.1 hb4).1
  have hne : ¬ (w.heap.size + 1 + 1 = W3.heap.size) := by omega
  have hne' : ¬ (W3.heap.size = w.heap.size + 1 + 1) := by omega
  clear hb4
  go_wp2
  have hpb : ∀ k, some k = (.slice Ao l0_0.length co : Value).ownBlock ∨ W2.heap.size ≤ k → W1.heap.size ≤ k := fun k hk => by
    rcases hk with hk | hk
    · exact Kd.R_base HO0.out _ hk.symm
    · exact Nat.le_trans HB2.out.size hk
  refine bodyPost_ret (results_cell_row rfl _ _ (w.heap.size + 1 + 1) 25 #[.slice Aq dl.length cq, .slice Ar 0 cr, .int .i64 (-1), .bool false] (0, 0) _ rfl ?blk Try.underlying25 rfl (by kernel_rfl)) rfl ?_
  case blk =>
    refine blk_alloc ?_ _
    refine blk_put (cs := #[.slice Aq dl.length cq, .slice Ar 0 cr, .int .i64 (-1), .bool false]) ?_ 3 _ rfl
    refine blk_put (cs := #[.slice Aq dl.length cq, .slice Ar 0 cr, .int .i64 0, .bool false]) ?_ 2 _ rfl
    refine blk_put (cs := #[.slice Aq dl.length cq, .slice none 0 0, .int .i64 0, .bool false]) ?_ 1 _ rfl
    refine blk_put (cs := #[.slice none 0 0, .slice none 0 0, .int .i64 0, .bool false]) ?_ 0 _ rfl
    exact HB4.out
  have hs := HSZ.out
  refine ⟨_, _, rfl, ?_, ?_, ?_⟩
  · refine Kd.R_mono (Kd.R_lower (Kd.R_step HO2.out (fun k hk hlk => ?_)) (by omega)) (fun _ _ => trivial)
    have := hpb k hk
    rw [Below.heap_alloc _ _ _ (by simp [World.setCell]; exact hlk), Below.heap_setCell _ _ _ _ (by show k ≠ w.heap.size + 1 + 1; omega), Below.heap_setCell _ _ _ _ (by show k ≠ w.heap.size + 1 + 1; omega), Below.heap_setCell _ _ _ _ (by show k ≠ w.heap.size + 1 + 1; omega), Below.heap_setCell _ _ _ _ (by show k ≠ w.heap.size + 1 + 1; omega)]
  · refine Kd.R_mono (Kd.R_lower (Kd.R_step HO3.out (fun k hk hlk => ?_)) (by omega)) (fun _ _ => trivial)
    have := hpb k hk
    rw [Below.heap_alloc _ _ _ (by simp [World.setCell]; exact hlk), Below.heap_setCell _ _ _ _ (by show k ≠ w.heap.size + 1 + 1; omega), Below.heap_setCell _ _ _ _ (by show k ≠ w.heap.size + 1 + 1; omega), Below.heap_setCell _ _ _ _ (by show k ≠ w.heap.size + 1 + 1; omega), Below.heap_setCell _ _ _ _ (by show k ≠ w.heap.size + 1 + 1; omega)]
  · have hb := HBW.out.trans (HB3.out.mono (by omega))
    exact ((((hb.setCell (p := ⟨w.heap.size + 1 + 1, 0, none⟩) (by show w.heap.size ≤ w.heap.size + 1 + 1; omega) _).setCell (p := ⟨w.heap.size + 1 + 1, 1, none⟩) (by show w.heap.size ≤ w.heap.size + 1 + 1; omega) _).setCell (p := ⟨w.heap.size + 1 + 1, 2, none⟩) (by show w.heap.size ≤ w.heap.size + 1 + 1; omega) _).setCell (p := ⟨w.heap.size + 1 + 1, 3, none⟩) (by show w.heap.size ≤ w.heap.size + 1 + 1; omega) _).alloc (by simp [World.setCell]; omega) _
end Go.Proofs.Ytaocplhijfkicaa.PD
-- written by a program of this work (mk.sh, over the kit's print; stubs are proved by hand)
namespace Go.Proofs.Ytaocplhijfkicaa.PD
open Go.RowKit Go.Proofs.YtaocplhijfkicaaW.PrintWords Go.Proofs.YtaocplhijfkicaaW.PrintLast Go.Proofs.YtaocplhijfkicaaW.PrintMore
attribute [local go_sem] isSome_setCell max2_int min2_int max_two min_two   -- for this text's walks alone
set_option linter.unusedVariables false
set_option linter.unusedSimpArgs false

/-! ### dev_Arm: function 12 -/
def dev_Arm.f (l0_0 : List ByteArray) (l0_1 : List (S40)) (a0_2 : Int) (a0_3 : Bool) (a1 : Int) : Option (List ByteArray × (List (S40)) × Int × Bool) := (dev_owned.f l0_0 l0_1 a0_2 a0_3).bind fun bt133 => (if bt133.2.2.2 = true then (some (bt133.1, bt133.2.1, bt133.2.2.1, bt133.2.2.2)) else (some (bt133.1, bt133.2.1, mx a1 (-1), bt133.2.2.2)))
set_option maxHeartbeats 8000000 in
set_option maxRecDepth 100000 in
theorem dev_Arm.calls (A0_0 : Option Addr) (c0_0 : Nat) (l0_0 : List ByteArray) (A0_1 : Option Addr) (c0_1 : Nat) (l0_1 : List (S40)) (a0_2 : Int) (a0_3 : Bool) (a1 : Int) (r1 : List ByteArray) (r2 : List (S40)) (r3 : Int) (r4 : Bool) (w : World) (hr0_0 : Kd.C Kd.string w A0_0 l0_0.length l0_0) (hc0_0 : l0_0.length ≤ c0_0) (hr0_1 : Kd.C k40 w A0_1 l0_1.length l0_1) (hc0_1 : l0_1.length ≤ c0_1) (h : dev_Arm.f l0_0 l0_1 a0_2 a0_3 a1 = some (r1, r2, r3, r4)) :
  Calls Try.prog 12 #[.agg #[.slice A0_0 l0_0.length c0_0, .slice A0_1 l0_1.length c0_1, .int .i64 a0_2, .bool a0_3], .int .i64 a1] w fun e w' => ∃ v0_ v1_ : Value, e = .returned (.agg #[v0_, v1_, .int .i64 r3, .bool r4]) ∧ Kd.R Kd.string 9 w' w.heap.size (fun _ => True) v0_ r1 ∧ Kd.R k40 40 w' w.heap.size (fun _ => True) v1_ r2 ∧ Below w.heap.size w w' := by
 have hu25 := Try.underlying25
 have HR0_0 := Aside0.mk hr0_0
 have HC0_0 := Aside0.mk hc0_0
 clear hr0_0 hc0_0
 have HR0_1 := Aside0.mk hr0_1
 have HC0_1 := Aside0.mk hc0_1
 clear hr0_1 hc0_1
 have HB := Aside0.mk (Below.refl w.heap.size w)
 have H : ((dev_owned.f l0_0 l0_1 a0_2 a0_3).bind fun bt133 => (if bt133.2.2.2 = true then (some (bt133.1, bt133.2.1, bt133.2.2.1, bt133.2.2.2)) else (some (bt133.1, bt133.2.1, mx a1 (-1), bt133.2.2.2)))) = some (r1, r2, r3, r4) := h
 clear h
 replace H := Option.bind_eq_some_iff.mp H
 obtain ⟨⟨t133, t136, t139, t140⟩, A30, H⟩ := H
 replace H : (if t140 = true then (some (t133, t136, t139, t140)) else (some (t133, t136, mx a1 (-1), t140))) = some (r1, r2, r3, r4) := H
 have A3 := Aside0.mk A30
 clear A30
 by_cases c4 : t140 = true
 ·subst c4
  have H1 : (some (t133, t136, t139, true)) = some (r1, r2, r3, r4) := by rw [if_pos rfl] at H; exact H
  clear H
  have H := H1
  clear H1
  simp only [Option.some.injEq, Prod.mk.injEq] at H
  obtain ⟨rfl, rfl, rfl, rfl⟩ := H
  go_enter Try.func12, Try.ntmps12
  go_wp2_with (first | ((with_reducible refine gate_dst (N := 2) rfl ?_); refine box_event ?hg (N := 2) ?hd (cs := #[.slice A0_0 l0_0.length c0_0, .slice A0_1 l0_1.length c0_1, .int .i64 a0_2, .bool a0_3]) (t := 25) ?hr ?_; (case hd => rfl); (case hg => rfl); (case hr => first | (go_simp; done) | (go_simp; rfl)); intro gb131 hg w5 hbox hb; have n0_ := Aside0.mk (below_step (bU HB) hb); have n1_ := Aside0.mk (hbox); have n2_ := Aside0.mk ((by rw [hg]; exact (below_size (bU HB)) : w.heap.size ≤ gb131)); have n3_ := Aside0.mk ((by rw [hg]; exact (below_size (bU HB)) : w.heap.size ≤ gb131)); clear HB; have HB := n0_; have BK131 := n1_; have GW131 := n2_; have GE131 := n3_; clear n0_ n1_ n2_ n3_; clear hb hbox hg) | ((with_reducible refine gate_dst (N := 4) rfl ?_); refine box_event ?hg (N := 4) ?hd (cs := #[.slice none 0 0, .slice none 0 0, .int .i64 0, .bool false]) (t := 25) ?hr ?_; (case hd => rfl); (case hg => rfl); (case hr => first | (go_simp; done) | (go_simp; rfl)); intro gb132 hg w6 hbox hb; have n0_ := Aside0.mk (blk_below (kU BK131) hb); have n1_ := Aside0.mk (below_step (bU HB) hb); have n2_ := Aside0.mk (hbox); have n3_ := Aside0.mk ((by rw [hg]; exact (below_size (bU HB)) : w.heap.size ≤ gb132)); have n4_ := Aside0.mk ((by rw [hg]; exact (below_size (bU HB)) : w.heap.size ≤ gb132)); have n5_ := Aside0.mk ((by rw [hg]; exact Nat.ne_of_lt (blk_lt (g := gb131) (o := .cells #[.slice A0_0 l0_0.length c0_0, .slice A0_1 l0_1.length c0_1, .int .i64 a0_2, .bool a0_3] 25 (0, 0)) (kU BK131)) : gb131 ≠ gb132)); have n6_ := Aside0.mk ((by rw [hg]; exact Nat.ne_of_gt (blk_lt (g := gb131) (o := .cells #[.slice A0_0 l0_0.length c0_0, .slice A0_1 l0_1.length c0_1, .int .i64 a0_2, .bool a0_3] 25 (0, 0)) (kU BK131)) : gb132 ≠ gb131)); clear BK131; clear HB; have BK131 := n0_; have HB := n1_; have BK132 := n2_; have GW132 := n3_; have GE132 := n4_; have NB131_132 := n5_; have NB132_131 := n6_; clear n0_ n1_ n2_ n3_ n4_ n5_ n6_; clear hb hbox hg; have hnb7 := NB131_132.out; have hnc7 := NB132_131.out; have hcz8_0 : w6.cell? ⟨gb131, 0, none⟩ = some (.slice A0_0 l0_0.length c0_0) := (blk_cell BK131.out 0).trans rfl; have hcz8_1 : w6.cell? ⟨gb131, 1, none⟩ = some (.slice A0_1 l0_1.length c0_1) := (blk_cell BK131.out 1).trans rfl; have hcz8_2 : w6.cell? ⟨gb131, 2, none⟩ = some (.int .i64 a0_2) := (blk_cell BK131.out 2).trans rfl; have hcz8_3 : w6.cell? ⟨gb131, 3, none⟩ = some (.bool a0_3) := (blk_cell BK131.out 3).trans rfl; have hfz8_0 := blk_frozen BK131.out 0; have hfz8_1 := blk_frozen BK131.out 1; have hfz8_2 := blk_frozen BK131.out 2; have hfz8_3 := blk_frozen BK131.out 3) | ((with_reducible refine gate_callee (f := 26) rfl ?_); refine goesL_ (some 7) rfl rfl Try.func26 (by kernel_rfl) rfl #[.agg #[.slice A0_0 l0_0.length c0_0, .slice A0_1 l0_1.length c0_1, .int .i64 a0_2, .bool a0_3]] rfl (by (try simp only [List.map_toArray, List.map_cons, List.map_nil]); first | done | rfl | (simp only [List.length_drop, List.length_take]; rfl)) ?_; (with_reducible refine (dev_owned.calls _ _ l0_0 _ _ l0_1 a0_2 a0_3 t133 t136 t139 true _ ?side1 ?side2 ?side3 ?side4 A3.out).mono ?_); (case side1 => exact cU (Kd.C_below HR0_0.out HB.out)); (case side2 => exact HC0_0.out); (case side3 => exact cU (Kd.C_below HR0_1.out HB.out)); (case side4 => exact HC0_1.out); rintro e w9 ⟨v134, v137, rfl, ho0, ho1, hb⟩; refine ⟨_, rfl, ?_⟩; have n0_ := Aside0.mk (Kd.R_lower ho0 (below_size (bU HB))); have n1_ := Aside0.mk (Kd.R_lower ho1 (below_size (bU HB))); have n2_ := Aside0.mk (blk_below (kU BK131) hb); have n3_ := Aside0.mk (blk_below (kU BK132) hb); have n4_ := Aside0.mk (below_step (bU HB) hb); clear BK131; clear BK132; clear HB; have HO135 := n0_; have HO138 := n1_; have BK131 := n2_; have BK132 := n3_; have HB := n4_; clear n0_ n1_ n2_ n3_ n4_; (try clear hb); (try clear hb2); (try clear hk); (try clear hi); (try clear ho0); (try clear ho1)) | ((with_reducible refine gate_dst (N := 5) rfl ?_); refine box_event ?hg (N := 5) ?hd (cs := #[.slice none 0 0, .slice none 0 0, .int .i64 0, .bool false]) (t := 25) ?hr ?_; (case hd => rfl); (case hg => rfl); (case hr => first | (go_simp; done) | (go_simp; rfl)); intro gb141 hg w10 hbox hb; have n0_ := Aside0.mk (Kd.R_below (rU HO135) hb); have n1_ := Aside0.mk (Kd.R_below (rU HO138) hb); have n2_ := Aside0.mk (blk_below (kU BK131) hb); have n3_ := Aside0.mk (blk_below (kU BK132) hb); have n4_ := Aside0.mk (below_step (bU HB) hb); have n5_ := Aside0.mk (hbox); have n6_ := Aside0.mk ((by rw [hg]; exact (below_size (bU HB)) : w.heap.size ≤ gb141)); have n7_ := Aside0.mk ((by rw [hg]; exact (below_size (bU HB)) : w.heap.size ≤ gb141)); have n8_ := Aside0.mk ((by rw [hg]; exact Nat.ne_of_lt (blk_lt (g := gb131) (o := .cells #[.slice A0_0 l0_0.length c0_0, .slice A0_1 l0_1.length c0_1, .int .i64 a0_2, .bool a0_3] 25 (0, 0)) (kU BK131)) : gb131 ≠ gb141)); have n9_ := Aside0.mk ((by rw [hg]; exact Nat.ne_of_gt (blk_lt (g := gb131) (o := .cells #[.slice A0_0 l0_0.length c0_0, .slice A0_1 l0_1.length c0_1, .int .i64 a0_2, .bool a0_3] 25 (0, 0)) (kU BK131)) : gb141 ≠ gb131)); have n10_ := Aside0.mk ((by rw [hg]; exact Nat.ne_of_lt (blk_lt (g := gb132) (o := .cells #[.slice none 0 0, .slice none 0 0, .int .i64 0, .bool false] 25 (0, 0)) (kU BK132)) : gb132 ≠ gb141)); have n11_ := Aside0.mk ((by rw [hg]; exact Nat.ne_of_gt (blk_lt (g := gb132) (o := .cells #[.slice none 0 0, .slice none 0 0, .int .i64 0, .bool false] 25 (0, 0)) (kU BK132)) : gb141 ≠ gb132)); clear HO135; clear HO138; clear BK131; clear BK132; clear HB; have HO135 := n0_; have HO138 := n1_; have BK131 := n2_; have BK132 := n3_; have HB := n4_; have BK141 := n5_; have GW141 := n6_; have GE141 := n7_; have NB131_141 := n8_; have NB141_131 := n9_; have NB132_141 := n10_; have NB141_132 := n11_; clear n0_ n1_ n2_ n3_ n4_ n5_ n6_ n7_ n8_ n9_ n10_ n11_; clear hb hbox hg; obtain ⟨Ao11, co11, eo11⟩ := Kd.R_slice HO135.out; subst eo11; have hnb12 := NB141_131.out; have hnc12 := NB131_141.out; have hnb13 := NB141_132.out; have hnc13 := NB132_141.out; have hcz14_0 : w10.cell? ⟨gb141, 0, none⟩ = some (.slice none 0 0) := (blk_cell BK141.out 0).trans rfl; have hcz14_1 : w10.cell? ⟨gb141, 1, none⟩ = some (.slice none 0 0) := (blk_cell BK141.out 1).trans rfl; have hcz14_2 : w10.cell? ⟨gb141, 2, none⟩ = some (.int .i64 0) := (blk_cell BK141.out 2).trans rfl; have hcz14_3 : w10.cell? ⟨gb141, 3, none⟩ = some (.bool false) := (blk_cell BK141.out 3).trans rfl; have hfz14_0 := blk_frozen BK141.out 0; have hfz14_1 := blk_frozen BK141.out 1; have hfz14_2 := blk_frozen BK141.out 2; have hfz14_3 := blk_frozen BK141.out 3; obtain ⟨Ao15, co15, eo15⟩ := Kd.R_slice HO138.out; subst eo15; have hcz16_0 : w10.cell? ⟨gb132, 0, none⟩ = some (.slice none 0 0) := (blk_cell BK132.out 0).trans rfl; have hcz16_1 : w10.cell? ⟨gb132, 1, none⟩ = some (.slice none 0 0) := (blk_cell BK132.out 1).trans rfl; have hcz16_2 : w10.cell? ⟨gb132, 2, none⟩ = some (.int .i64 0) := (blk_cell BK132.out 2).trans rfl; have hcz16_3 : w10.cell? ⟨gb132, 3, none⟩ = some (.bool false) := (blk_cell BK132.out 3).trans rfl; have hfz16_0 := blk_frozen BK132.out 0; have hfz16_1 := blk_frozen BK132.out 1; have hfz16_2 := blk_frozen BK132.out 2; have hfz16_3 := blk_frozen BK132.out 3))
  refine bodyPost_ret (results_cell_row rfl _ _ gb132 25 #[.slice Ao11 t133.length co11, .slice Ao15 t136.length co15, .int .i64 t139, .bool true] (0, 0) _ rfl (kP BK132) Try.underlying25 rfl (by kernel_rfl)) rfl ?_
  exact ⟨_, _, eqU, by (with_reducible repeat (first | apply Kd.R_alloc | apply Kd.R_drewN | apply Kd.R_drew)); exact Kd.R_mono (Kd.R_far (p := ⟨gb132, 3, none⟩) (Kd.R_far (p := ⟨gb132, 2, none⟩) (Kd.R_far (p := ⟨gb132, 1, none⟩) (Kd.R_far (p := ⟨gb132, 0, none⟩) (Kd.R_far (p := ⟨gb141, 3, none⟩) (Kd.R_far (p := ⟨gb141, 2, none⟩) (Kd.R_far (p := ⟨gb141, 1, none⟩) (Kd.R_far (p := ⟨gb141, 0, none⟩) (Kd.R_types (Kd.R_types HO135.out BK141.out (by decide)) BK132.out (by decide)) (fun _ hk => hk.1.2) (.slice Ao11 t133.length co11)) (fun _ hk => hk.1.2) (.slice Ao15 t136.length co15)) (fun _ hk => hk.1.2) (.int .i64 t139)) (fun _ hk => hk.1.2) (.bool true)) (fun _ hk => hk.2) (.slice Ao11 t133.length co11)) (fun _ hk => hk.2) (.slice Ao15 t136.length co15)) (fun _ hk => hk.2) (.int .i64 t139)) (fun _ hk => hk.2) (.bool true)) (fun _ hk => trivial), by (with_reducible repeat (first | apply Kd.R_alloc | apply Kd.R_drewN | apply Kd.R_drew)); exact Kd.R_mono (Kd.R_far (p := ⟨gb132, 3, none⟩) (Kd.R_far (p := ⟨gb132, 2, none⟩) (Kd.R_far (p := ⟨gb132, 1, none⟩) (Kd.R_far (p := ⟨gb132, 0, none⟩) (Kd.R_far (p := ⟨gb141, 3, none⟩) (Kd.R_far (p := ⟨gb141, 2, none⟩) (Kd.R_far (p := ⟨gb141, 1, none⟩) (Kd.R_far (p := ⟨gb141, 0, none⟩) (Kd.R_types (Kd.R_types HO138.out BK141.out (by decide)) BK132.out (by decide)) (fun _ hk => hk.1.2) (.slice Ao11 t133.length co11)) (fun _ hk => hk.1.2) (.slice Ao15 t136.length co15)) (fun _ hk => hk.1.2) (.int .i64 t139)) (fun _ hk => hk.1.2) (.bool true)) (fun _ hk => hk.2) (.slice Ao11 t133.length co11)) (fun _ hk => hk.2) (.slice Ao15 t136.length co15)) (fun _ hk => hk.2) (.int .i64 t139)) (fun _ hk => hk.2) (.bool true)) (fun _ hk => trivial), bU HB⟩
 ·replace c4 := Bool.eq_false_iff.mpr c4
  subst c4
  have H1 : (some (t133, t136, mx a1 (-1), false)) = some (r1, r2, r3, r4) := by rw [if_neg (show ¬ (false = true) by decide)] at H; exact H
  clear H
  have H := H1
  clear H1
  obtain ⟨ji17, hji17⟩ : ∃ j_ : Int, (mx a1 (-1)) = j_ := ⟨_, rfl⟩
  replace H : (some (t133, t136, ji17, false)) = some (r1, r2, r3, r4) := by first | (rw [hji17] at H; exact H) | (simp only [hji17] at H ⊢; exact H)
  (try rw [hji17] at A3)
  have hji17_ : (if a1 < (-1) then (-1) else a1) = ji17 := hji17
  simp only [Option.some.injEq, Prod.mk.injEq] at H
  obtain ⟨rfl, rfl, rfl, rfl⟩ := H
  go_enter Try.func12, Try.ntmps12
  go_wp2_with (first | ((with_reducible refine gate_dst (N := 2) rfl ?_); refine box_event ?hg (N := 2) ?hd (cs := #[.slice A0_0 l0_0.length c0_0, .slice A0_1 l0_1.length c0_1, .int .i64 a0_2, .bool a0_3]) (t := 25) ?hr ?_; (case hd => rfl); (case hg => rfl); (case hr => first | (go_simp; done) | (go_simp; rfl)); intro gb131 hg w18 hbox hb; have n0_ := Aside0.mk (below_step (bU HB) hb); have n1_ := Aside0.mk (hbox); have n2_ := Aside0.mk ((by rw [hg]; exact (below_size (bU HB)) : w.heap.size ≤ gb131)); have n3_ := Aside0.mk ((by rw [hg]; exact (below_size (bU HB)) : w.heap.size ≤ gb131)); clear HB; have HB := n0_; have BK131 := n1_; have GW131 := n2_; have GE131 := n3_; clear n0_ n1_ n2_ n3_; clear hb hbox hg) | ((with_reducible refine gate_dst (N := 4) rfl ?_); refine box_event ?hg (N := 4) ?hd (cs := #[.slice none 0 0, .slice none 0 0, .int .i64 0, .bool false]) (t := 25) ?hr ?_; (case hd => rfl); (case hg => rfl); (case hr => first | (go_simp; done) | (go_simp; rfl)); intro gb132 hg w19 hbox hb; have n0_ := Aside0.mk (blk_below (kU BK131) hb); have n1_ := Aside0.mk (below_step (bU HB) hb); have n2_ := Aside0.mk (hbox); have n3_ := Aside0.mk ((by rw [hg]; exact (below_size (bU HB)) : w.heap.size ≤ gb132)); have n4_ := Aside0.mk ((by rw [hg]; exact (below_size (bU HB)) : w.heap.size ≤ gb132)); have n5_ := Aside0.mk ((by rw [hg]; exact Nat.ne_of_lt (blk_lt (g := gb131) (o := .cells #[.slice A0_0 l0_0.length c0_0, .slice A0_1 l0_1.length c0_1, .int .i64 a0_2, .bool a0_3] 25 (0, 0)) (kU BK131)) : gb131 ≠ gb132)); have n6_ := Aside0.mk ((by rw [hg]; exact Nat.ne_of_gt (blk_lt (g := gb131) (o := .cells #[.slice A0_0 l0_0.length c0_0, .slice A0_1 l0_1.length c0_1, .int .i64 a0_2, .bool a0_3] 25 (0, 0)) (kU BK131)) : gb132 ≠ gb131)); clear BK131; clear HB; have BK131 := n0_; have HB := n1_; have BK132 := n2_; have GW132 := n3_; have GE132 := n4_; have NB131_132 := n5_; have NB132_131 := n6_; clear n0_ n1_ n2_ n3_ n4_ n5_ n6_; clear hb hbox hg; have hnb20 := NB131_132.out; have hnc20 := NB132_131.out; have hcz21_0 : w19.cell? ⟨gb131, 0, none⟩ = some (.slice A0_0 l0_0.length c0_0) := (blk_cell BK131.out 0).trans rfl; have hcz21_1 : w19.cell? ⟨gb131, 1, none⟩ = some (.slice A0_1 l0_1.length c0_1) := (blk_cell BK131.out 1).trans rfl; have hcz21_2 : w19.cell? ⟨gb131, 2, none⟩ = some (.int .i64 a0_2) := (blk_cell BK131.out 2).trans rfl; have hcz21_3 : w19.cell? ⟨gb131, 3, none⟩ = some (.bool a0_3) := (blk_cell BK131.out 3).trans rfl; have hfz21_0 := blk_frozen BK131.out 0; have hfz21_1 := blk_frozen BK131.out 1; have hfz21_2 := blk_frozen BK131.out 2; have hfz21_3 := blk_frozen BK131.out 3) | ((with_reducible refine gate_callee (f := 26) rfl ?_); refine goesL_ (some 7) rfl rfl Try.func26 (by kernel_rfl) rfl #[.agg #[.slice A0_0 l0_0.length c0_0, .slice A0_1 l0_1.length c0_1, .int .i64 a0_2, .bool a0_3]] rfl (by (try simp only [List.map_toArray, List.map_cons, List.map_nil]); first | done | rfl | (simp only [List.length_drop, List.length_take]; rfl)) ?_; (with_reducible refine (dev_owned.calls _ _ l0_0 _ _ l0_1 a0_2 a0_3 t133 t136 t139 false _ ?side1 ?side2 ?side3 ?side4 A3.out).mono ?_); (case side1 => exact cU (Kd.C_below HR0_0.out HB.out)); (case side2 => exact HC0_0.out); (case side3 => exact cU (Kd.C_below HR0_1.out HB.out)); (case side4 => exact HC0_1.out); rintro e w22 ⟨v134, v137, rfl, ho0, ho1, hb⟩; refine ⟨_, rfl, ?_⟩; have n0_ := Aside0.mk (Kd.R_lower ho0 (below_size (bU HB))); have n1_ := Aside0.mk (Kd.R_lower ho1 (below_size (bU HB))); have n2_ := Aside0.mk (blk_below (kU BK131) hb); have n3_ := Aside0.mk (blk_below (kU BK132) hb); have n4_ := Aside0.mk (below_step (bU HB) hb); clear BK131; clear BK132; clear HB; have HO135 := n0_; have HO138 := n1_; have BK131 := n2_; have BK132 := n3_; have HB := n4_; clear n0_ n1_ n2_ n3_ n4_; (try clear hb); (try clear hb2); (try clear hk); (try clear hi); (try clear ho0); (try clear ho1)) | ((with_reducible refine gate_dst (N := 5) rfl ?_); refine box_event ?hg (N := 5) ?hd (cs := #[.slice none 0 0, .slice none 0 0, .int .i64 0, .bool false]) (t := 25) ?hr ?_; (case hd => rfl); (case hg => rfl); (case hr => first | (go_simp; done) | (go_simp; rfl)); intro gb141 hg w23 hbox hb; have n0_ := Aside0.mk (Kd.R_below (rU HO135) hb); have n1_ := Aside0.mk (Kd.R_below (rU HO138) hb); have n2_ := Aside0.mk (blk_below (kU BK131) hb); have n3_ := Aside0.mk (blk_below (kU BK132) hb); have n4_ := Aside0.mk (below_step (bU HB) hb); have n5_ := Aside0.mk (hbox); have n6_ := Aside0.mk ((by rw [hg]; exact (below_size (bU HB)) : w.heap.size ≤ gb141)); have n7_ := Aside0.mk ((by rw [hg]; exact (below_size (bU HB)) : w.heap.size ≤ gb141)); have n8_ := Aside0.mk ((by rw [hg]; exact Nat.ne_of_lt (blk_lt (g := gb131) (o := .cells #[.slice A0_0 l0_0.length c0_0, .slice A0_1 l0_1.length c0_1, .int .i64 a0_2, .bool a0_3] 25 (0, 0)) (kU BK131)) : gb131 ≠ gb141)); have n9_ := Aside0.mk ((by rw [hg]; exact Nat.ne_of_gt (blk_lt (g := gb131) (o := .cells #[.slice A0_0 l0_0.length c0_0, .slice A0_1 l0_1.length c0_1, .int .i64 a0_2, .bool a0_3] 25 (0, 0)) (kU BK131)) : gb141 ≠ gb131)); have n10_ := Aside0.mk ((by rw [hg]; exact Nat.ne_of_lt (blk_lt (g := gb132) (o := .cells #[.slice none 0 0, .slice none 0 0, .int .i64 0, .bool false] 25 (0, 0)) (kU BK132)) : gb132 ≠ gb141)); have n11_ := Aside0.mk ((by rw [hg]; exact Nat.ne_of_gt (blk_lt (g := gb132) (o := .cells #[.slice none 0 0, .slice none 0 0, .int .i64 0, .bool false] 25 (0, 0)) (kU BK132)) : gb141 ≠ gb132)); clear HO135; clear HO138; clear BK131; clear BK132; clear HB; have HO135 := n0_; have HO138 := n1_; have BK131 := n2_; have BK132 := n3_; have HB := n4_; have BK141 := n5_; have GW141 := n6_; have GE141 := n7_; have NB131_141 := n8_; have NB141_131 := n9_; have NB132_141 := n10_; have NB141_132 := n11_; clear n0_ n1_ n2_ n3_ n4_ n5_ n6_ n7_ n8_ n9_ n10_ n11_; clear hb hbox hg; obtain ⟨Ao24, co24, eo24⟩ := Kd.R_slice HO135.out; subst eo24; have hnb25 := NB141_131.out; have hnc25 := NB131_141.out; have hnb26 := NB141_132.out; have hnc26 := NB132_141.out; have hcz27_0 : w23.cell? ⟨gb141, 0, none⟩ = some (.slice none 0 0) := (blk_cell BK141.out 0).trans rfl; have hcz27_1 : w23.cell? ⟨gb141, 1, none⟩ = some (.slice none 0 0) := (blk_cell BK141.out 1).trans rfl; have hcz27_2 : w23.cell? ⟨gb141, 2, none⟩ = some (.int .i64 0) := (blk_cell BK141.out 2).trans rfl; have hcz27_3 : w23.cell? ⟨gb141, 3, none⟩ = some (.bool false) := (blk_cell BK141.out 3).trans rfl; have hfz27_0 := blk_frozen BK141.out 0; have hfz27_1 := blk_frozen BK141.out 1; have hfz27_2 := blk_frozen BK141.out 2; have hfz27_3 := blk_frozen BK141.out 3; obtain ⟨Ao28, co28, eo28⟩ := Kd.R_slice HO138.out; subst eo28; have hcz29_0 : w23.cell? ⟨gb132, 0, none⟩ = some (.slice none 0 0) := (blk_cell BK132.out 0).trans rfl; have hcz29_1 : w23.cell? ⟨gb132, 1, none⟩ = some (.slice none 0 0) := (blk_cell BK132.out 1).trans rfl; have hcz29_2 : w23.cell? ⟨gb132, 2, none⟩ = some (.int .i64 0) := (blk_cell BK132.out 2).trans rfl; have hcz29_3 : w23.cell? ⟨gb132, 3, none⟩ = some (.bool false) := (blk_cell BK132.out 3).trans rfl; have hfz29_0 := blk_frozen BK132.out 0; have hfz29_1 := blk_frozen BK132.out 1; have hfz29_2 := blk_frozen BK132.out 2; have hfz29_3 := blk_frozen BK132.out 3))
  refine bodyPost_ret (results_cell_row rfl _ _ gb132 25 #[.slice Ao24 t133.length co24, .slice Ao28 t136.length co28, .int .i64 ji17, .bool false] (0, 0) _ rfl (kP BK132) Try.underlying25 rfl (by kernel_rfl)) rfl ?_
  exact ⟨_, _, by first | rfl | (simp [errW_none, errW_some] <;> rfl) | (simp only [← hji17]; first | rfl | (simp [errW_none, errW_some] <;> rfl)) | (simp [*, errW_none, errW_some] <;> rfl), by (with_reducible repeat (first | apply Kd.R_alloc | apply Kd.R_drewN | apply Kd.R_drew)); exact Kd.R_mono (Kd.R_far (p := ⟨gb132, 3, none⟩) (Kd.R_far (p := ⟨gb132, 2, none⟩) (Kd.R_far (p := ⟨gb132, 1, none⟩) (Kd.R_far (p := ⟨gb132, 0, none⟩) (Kd.R_far (p := ⟨gb141, 2, none⟩) (Kd.R_far (p := ⟨gb141, 3, none⟩) (Kd.R_far (p := ⟨gb141, 2, none⟩) (Kd.R_far (p := ⟨gb141, 1, none⟩) (Kd.R_far (p := ⟨gb141, 0, none⟩) (Kd.R_types (Kd.R_types HO135.out BK141.out (by decide)) BK132.out (by decide)) (fun _ hk => hk.1.2) (.slice Ao24 t133.length co24)) (fun _ hk => hk.1.2) (.slice Ao28 t136.length co28)) (fun _ hk => hk.1.2) (.int .i64 t139)) (fun _ hk => hk.1.2) (.bool false)) (fun _ hk => hk.1.2) (.int .i64 ji17)) (fun _ hk => hk.2) (.slice Ao24 t133.length co24)) (fun _ hk => hk.2) (.slice Ao28 t136.length co28)) (fun _ hk => hk.2) (.int .i64 ji17)) (fun _ hk => hk.2) (.bool false)) (fun _ hk => trivial), by (with_reducible repeat (first | apply Kd.R_alloc | apply Kd.R_drewN | apply Kd.R_drew)); exact Kd.R_mono (Kd.R_far (p := ⟨gb132, 3, none⟩) (Kd.R_far (p := ⟨gb132, 2, none⟩) (Kd.R_far (p := ⟨gb132, 1, none⟩) (Kd.R_far (p := ⟨gb132, 0, none⟩) (Kd.R_far (p := ⟨gb141, 2, none⟩) (Kd.R_far (p := ⟨gb141, 3, none⟩) (Kd.R_far (p := ⟨gb141, 2, none⟩) (Kd.R_far (p := ⟨gb141, 1, none⟩) (Kd.R_far (p := ⟨gb141, 0, none⟩) (Kd.R_types (Kd.R_types HO138.out BK141.out (by decide)) BK132.out (by decide)) (fun _ hk => hk.1.2) (.slice Ao24 t133.length co24)) (fun _ hk => hk.1.2) (.slice Ao28 t136.length co28)) (fun _ hk => hk.1.2) (.int .i64 t139)) (fun _ hk => hk.1.2) (.bool false)) (fun _ hk => hk.1.2) (.int .i64 ji17)) (fun _ hk => hk.2) (.slice Ao24 t133.length co24)) (fun _ hk => hk.2) (.slice Ao28 t136.length co28)) (fun _ hk => hk.2) (.int .i64 ji17)) (fun _ hk => hk.2) (.bool false)) (fun _ hk => trivial), bU HB⟩

end Go.Proofs.Ytaocplhijfkicaa.PD
