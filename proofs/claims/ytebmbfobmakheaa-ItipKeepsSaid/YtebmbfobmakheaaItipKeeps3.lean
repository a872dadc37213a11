/- Part 3 of the texts that the claim leans on: the functions' walks, and what they compute. -/
import Derived.Test.YtebmbfobmakheaaItipKeeps2
import Derived.Scope
import Derived.Shelf.Abstract
import Derived.Maps.AppendAt
import Derived.Shelf.RegionOpen
import Derived.Test.YtebmbfobmakheaaRows
import Derived.Test.YtebmbfobmakheaaItipKeeps1
import Derived.WalkKit
import Derived.ProofKit
import Derived.OpenShut
import Derived.ShutString
import Derived.ChangeOld
import Derived.Below
import Derived.SizedLaws
namespace Go.Proofs.Ytebmbfobmakheaa.PD
open Go.RowKit Go.Shelf Go.Proofs.YtebmbfobmakheaaW.PrintWords Go.Proofs.YtebmbfobmakheaaW.PrintLast Go.Proofs.YtebmbfobmakheaaW.PrintMore
attribute [local go_sem] isSome_setCell Oper.semAt_some wide_fn wide_depth
set_option linter.unusedVariables false
set_option linter.unusedSimpArgs false
def eqL {α : Type} (p : α → α → Bool) (l m : List α) : Bool := decide (l.length = m.length) && (l.zip m).all fun q => p q.1 q.2
theorem eqL_true {α : Type} (p : α → α → Bool) (l m : List α) (h : l.length = m.length) (hp : ∀ j (hj : j < l.length), p l[j] (m[j]'(by omega)) = true) : eqL p l m = true := by
  unfold eqL
  rw [decide_eq_true h, Bool.true_and, List.all_eq_true]
  intro q hq
  obtain ⟨j, hj, rfl⟩ := List.getElem_of_mem hq
  rw [List.length_zip] at hj
  rw [List.getElem_zip]
  exact hp j (by omega)
theorem eqL_false {α : Type} (p : α → α → Bool) (l m : List α) (h : l.length = m.length) (j : Nat) (hj : j < l.length) (hp : p l[j] (m[j]'(by omega)) = false) : eqL p l m = false := by
  unfold eqL
  rw [decide_eq_true h, Bool.true_and]
  rw [List.all_eq_false]
  refine ⟨(l.zip m)[j]'(by rw [List.length_zip]; omega), List.getElem_mem _, ?_⟩
  rw [List.getElem_zip]
  simp [hp]
set_option maxRecDepth 100000 in
set_option maxHeartbeats 4000000 in
theorem eqF77 (p : S77 → S77 → Bool) (A0 : Option Addr) (c0 : Nat) (l : List S77) (A1 : Option Addr) (c1 : Nat) (m : List S77) (w : World) (hr0 : Kd.C k77 w A0 l.length l) (hr1 : Kd.C k77 w A1 m.length m)
    (hp : ∀ x ∈ l, ∀ y ∈ m, ∀ A2 c2 A3 c3 W, Below w.heap.size w W → x.f1.length ≤ c2 ∧ Kd.C Kd.string W A2 x.f1.length x.f1 ∧ y.f1.length ≤ c3 ∧ Kd.C Kd.string W A3 y.f1.length y.f1 → Calls Try.prog 86 #[.agg #[.string x.f0, .slice A2 x.f1.length c2], .agg #[.string y.f0, .slice A3 y.f1.length c3]] W fun e W' => e = .returned (.bool (p x y)) ∧ Below W.heap.size W W') :
    Calls Try.prog 85 #[.slice A0 l.length c0, .slice A1 m.length c1, .func (.func 86) #[] #[]] w fun e w' => e = .returned (.bool (eqL p l m)) ∧ Below w.heap.size w w' := by
  have HR0 := Aside0.mk hr0
  have HR1 := Aside0.mk hr1
  have hml : l.length ≤ 9223372036854775807 := by have := hr0.2.1; unfold maxLen at this; omega
  have hmm : m.length ≤ 9223372036854775807 := by have := hr1.2.1; unfold maxLen at this; omega
  have HP := Aside0.mk hp
  have HB := Aside0.mk (Below.refl w.heap.size w)
  clear hr0 hr1 hp
  refine (callsIn_wide (n := 51)).1 ?_
  refine callsIn_of_wp Try.func85 rfl trivial ?_ rfl
  simp only [Try.ntmps85, List.size_toArray, List.length_cons, List.length_nil, Nat.reduceAdd, Nat.reduceSub, Array.replicate_succ, Array.replicate_zero, List.push_toArray, List.append_toArray, List.nil_append, List.cons_append]
  by_cases hlen : l.length = m.length
  · have e1 : ((l.length : Int) == (m.length : Int)) = true := beq_iff_eq.2 (by omega)
    have e2 : ((l.length : Int) != (m.length : Int)) = false := by simp [hlen]
    have e3 : ((l.length : Int) = (m.length : Int)) = True := eq_true (by omega)
    have HL := Aside0.mk hlen
    have hl1 : ∀ j, j < l.length → j < m.length := fun j h => by omega
    have HL1 := Aside0.mk hl1
    clear hlen hl1
    gi_wp2
    gi_loopw [17] (fun v wr => ∃ k : Nat, v = .int .i64 k ∧ k ≤ l.length ∧ Aside0 (∀ j, (hj : j < l.length) → j < k → p l[j] (m[j]'(HL1.out j hj)) = true) ∧ Aside0 (Below w.heap.size w wr)) (fun v _ => l.length - (intOf v).toNat)
    case atStart => exact ⟨0, rfl, Nat.zero_le _, ⟨fun j _ hj => absurd hj (Nat.not_lt_zero _)⟩, HB⟩
    case round =>
      obtain ⟨k, rfl, hk, hyes, hb⟩ := hrel
      by_cases hlt : k < l.length
      · have hlt0 : decide ((k : Int) < (l.length : Int)) = true := decide_eq_true (by omega)
        have hltm : k < m.length := HL1.out k hlt
        have q1 : ((k : Int) < (m.length : Int)) = True := eq_true (by omega)
        obtain ⟨ad, A2, c2, e, hx0, hx1, h2x, h3x⟩ := at_T77 HR0.out (k : Int) (by omega) (by omega)
        obtain ⟨ad', A3, c3, e', hy0, hy1, h2y, h3y⟩ := at_T77 HR1.out (k : Int) (by omega) (by omega)
        subst e
        subst e'
        replace hx0 := (hb.out.cell (World.block_lt_of_cell? w _ hx0)).trans hx0
        replace hx1 := (hb.out.cell (World.block_lt_of_cell? w _ hx1)).trans hx1
        replace hy0 := (hb.out.cell (World.block_lt_of_cell? w _ hy0)).trans hy0
        replace hy1 := (hb.out.cell (World.block_lt_of_cell? w _ hy1)).trans hy1
        have hget : rd_T77 l (k : Int) = l[k] := by simp only [rd_T77, Int.toNat_natCast]; simp [hlt]
        have hget' : rd_T77 m (k : Int) = m[k] := by simp only [rd_T77, Int.toNat_natCast]; simp [hltm]
        rw [hget] at hx0 hx1 h2x h3x
        rw [hget'] at hy0 hy1 h2y h3y
        simp only [Int.toNat_natCast] at hx0 hx1 hy0 hy1
        have hbb : Below w.heap.size w ((wr.alloc (.cells #[.string l[k].f0, .slice A2 l[k].f1.length c2] 77)).alloc (.cells #[.string m[k].f0, .slice A3 m[k].f1.length c3] 77)) := hb.out.trans ((below_alloc (below_alloc (Below.refl wr.heap.size wr) _) _).mono hb.out.size)
        have HC := Aside0.mk (HP.out l[k] (List.getElem_mem hlt) m[k] (List.getElem_mem hltm) A2 c2 A3 c3 _ hbb ⟨h2x, Kd.C_below h3x hbb, h2y, Kd.C_below h3y hbb⟩)
        have hw0 := ((below_alloc (Below.refl wr.heap.size wr) (.cells #[.string l[k].f0, .slice A2 l[k].f1.length c2] 77)).cell (World.block_lt_of_cell? wr _ hy0)).trans hy0
        have hw1 := ((below_alloc (Below.refl wr.heap.size wr) (.cells #[.string l[k].f0, .slice A2 l[k].f1.length c2] 77)).cell (World.block_lt_of_cell? wr _ hy1)).trans hy1
        have HG := Aside0.mk (And.intro hget hget')
        clear hget hget'
        gi_wp2
        gi_at_call 86
        refine (callsIn_wide.2 HC.out).mono ?_
        rintro e W' ⟨rfl, hb'⟩
        have HB' := Aside0.mk (hbb.trans (hb'.mono (hbb).size))
        clear hb'
        cases hpk : p l[k] m[k] with
        | true =>
          have HPK := Aside0.mk hpk
          clear hpk
          gi_wp2
          go_roundw
          case rel =>
            refine ⟨k + 1, by simp, hlt, ⟨fun j hj hjk => ?_⟩, HB'⟩
            rcases Nat.lt_or_ge j k with h | h
            · exact hyes.out j hj h
            · obtain rfl : j = k := by omega
              exact HPK.out
          case measure =>
            show l.length - ((k : Int) + 1).toNat < l.length - (k : Int).toNat
            omega
        | false =>
          have HPK := Aside0.mk hpk
          clear hpk
          gi_wp2
          go_ret
          refine ⟨?_, HB'.out⟩
          rw [eqL_false p l m HL.out k hlt HPK.out]
          rfl
      · have hlt0 : decide ((k : Int) < (l.length : Int)) = false := decide_eq_false (by omega)
        gi_wp2
        go_ret
        refine ⟨?_, hb.out⟩
        rw [eqL_true p l m HL.out (fun j hj => hyes.out j hj (by omega))]
        rfl
  · have e1 : ((l.length : Int) == (m.length : Int)) = false := beq_eq_false_iff_ne.2 (by omega)
    have e2 : ((l.length : Int) != (m.length : Int)) = true := bne_iff_ne.2 (by omega)
    have e3 : ((l.length : Int) = (m.length : Int)) = False := eq_false (by omega)
    gi_wp2
    go_ret
    refine ⟨?_, HB.out⟩
    rw [show eqL p l m = false by unfold eqL; rw [decide_eq_false hlen]; rfl]
    rfl
set_option maxRecDepth 100000 in
set_option maxHeartbeats 4000000 in
theorem eqF45 (p : S45 → S45 → Bool) (A0 : Option Addr) (c0 : Nat) (l : List S45) (A1 : Option Addr) (c1 : Nat) (m : List S45) (w : World) (hr0 : Kd.C k45 w A0 l.length l) (hr1 : Kd.C k45 w A1 m.length m)
    (hp : ∀ x ∈ l, ∀ y ∈ m, ∀ A2 c2 A3 c3 W, Below w.heap.size w W → x.f1.length ≤ c2 ∧ Kd.C k77 W A2 x.f1.length x.f1 ∧ y.f1.length ≤ c3 ∧ Kd.C k77 W A3 y.f1.length y.f1 → Calls Try.prog 56 #[.agg #[.string x.f0, .slice A2 x.f1.length c2, .string x.f2], .agg #[.string y.f0, .slice A3 y.f1.length c3, .string y.f2]] W fun e W' => e = .returned (.bool (p x y)) ∧ Below W.heap.size W W') :
    Calls Try.prog 55 #[.slice A0 l.length c0, .slice A1 m.length c1, .func (.func 56) #[] #[]] w fun e w' => e = .returned (.bool (eqL p l m)) ∧ Below w.heap.size w w' := by
  have HR0 := Aside0.mk hr0
  have HR1 := Aside0.mk hr1
  have hml : l.length ≤ 9223372036854775807 := by have := hr0.2.1; unfold maxLen at this; omega
  have hmm : m.length ≤ 9223372036854775807 := by have := hr1.2.1; unfold maxLen at this; omega
  have HP := Aside0.mk hp
  have HB := Aside0.mk (Below.refl w.heap.size w)
  clear hr0 hr1 hp
  refine (callsIn_wide (n := 51)).1 ?_
  refine callsIn_of_wp Try.func55 rfl trivial ?_ rfl
  simp only [Try.ntmps55, List.size_toArray, List.length_cons, List.length_nil, Nat.reduceAdd, Nat.reduceSub, Array.replicate_succ, Array.replicate_zero, List.push_toArray, List.append_toArray, List.nil_append, List.cons_append]
  by_cases hlen : l.length = m.length
  · have e1 : ((l.length : Int) == (m.length : Int)) = true := beq_iff_eq.2 (by omega)
    have e2 : ((l.length : Int) != (m.length : Int)) = false := by simp [hlen]
    have e3 : ((l.length : Int) = (m.length : Int)) = True := eq_true (by omega)
    have HL := Aside0.mk hlen
    have hl1 : ∀ j, j < l.length → j < m.length := fun j h => by omega
    have HL1 := Aside0.mk hl1
    clear hlen hl1
    gi_wp2
    gi_loopw [17] (fun v wr => ∃ k : Nat, v = .int .i64 k ∧ k ≤ l.length ∧ Aside0 (∀ j, (hj : j < l.length) → j < k → p l[j] (m[j]'(HL1.out j hj)) = true) ∧ Aside0 (Below w.heap.size w wr)) (fun v _ => l.length - (intOf v).toNat)
    case atStart => exact ⟨0, rfl, Nat.zero_le _, ⟨fun j _ hj => absurd hj (Nat.not_lt_zero _)⟩, HB⟩
    case round =>
      obtain ⟨k, rfl, hk, hyes, hb⟩ := hrel
      by_cases hlt : k < l.length
      · have hlt0 : decide ((k : Int) < (l.length : Int)) = true := decide_eq_true (by omega)
        have hltm : k < m.length := HL1.out k hlt
        have q1 : ((k : Int) < (m.length : Int)) = True := eq_true (by omega)
        obtain ⟨ad, A2, c2, e, hx0, hx1, hx2, h2x, h3x⟩ := at_T45 HR0.out (k : Int) (by omega) (by omega)
        obtain ⟨ad', A3, c3, e', hy0, hy1, hy2, h2y, h3y⟩ := at_T45 HR1.out (k : Int) (by omega) (by omega)
        subst e
        subst e'
        replace hx0 := (hb.out.cell (World.block_lt_of_cell? w _ hx0)).trans hx0
        replace hx1 := (hb.out.cell (World.block_lt_of_cell? w _ hx1)).trans hx1
        replace hx2 := (hb.out.cell (World.block_lt_of_cell? w _ hx2)).trans hx2
        replace hy0 := (hb.out.cell (World.block_lt_of_cell? w _ hy0)).trans hy0
        replace hy1 := (hb.out.cell (World.block_lt_of_cell? w _ hy1)).trans hy1
        replace hy2 := (hb.out.cell (World.block_lt_of_cell? w _ hy2)).trans hy2
        have hget : rd_T45 l (k : Int) = l[k] := by simp only [rd_T45, Int.toNat_natCast]; simp [hlt]
        have hget' : rd_T45 m (k : Int) = m[k] := by simp only [rd_T45, Int.toNat_natCast]; simp [hltm]
        rw [hget] at hx0 hx1 hx2 h2x h3x
        rw [hget'] at hy0 hy1 hy2 h2y h3y
        simp only [Int.toNat_natCast] at hx0 hx1 hx2 hy0 hy1 hy2
        have hbb : Below w.heap.size w ((wr.alloc (.cells #[.string l[k].f0, .slice A2 l[k].f1.length c2, .string l[k].f2] 45)).alloc (.cells #[.string m[k].f0, .slice A3 m[k].f1.length c3, .string m[k].f2] 45)) := hb.out.trans ((below_alloc (below_alloc (Below.refl wr.heap.size wr) _) _).mono hb.out.size)
        have HC := Aside0.mk (HP.out l[k] (List.getElem_mem hlt) m[k] (List.getElem_mem hltm) A2 c2 A3 c3 _ hbb ⟨h2x, Kd.C_below h3x hbb, h2y, Kd.C_below h3y hbb⟩)
        have hw0 := ((below_alloc (Below.refl wr.heap.size wr) (.cells #[.string l[k].f0, .slice A2 l[k].f1.length c2, .string l[k].f2] 45)).cell (World.block_lt_of_cell? wr _ hy0)).trans hy0
        have hw1 := ((below_alloc (Below.refl wr.heap.size wr) (.cells #[.string l[k].f0, .slice A2 l[k].f1.length c2, .string l[k].f2] 45)).cell (World.block_lt_of_cell? wr _ hy1)).trans hy1
        have hw2 := ((below_alloc (Below.refl wr.heap.size wr) (.cells #[.string l[k].f0, .slice A2 l[k].f1.length c2, .string l[k].f2] 45)).cell (World.block_lt_of_cell? wr _ hy2)).trans hy2
        have HG := Aside0.mk (And.intro hget hget')
        clear hget hget'
        gi_wp2
        gi_at_call 56
        refine (callsIn_wide.2 HC.out).mono ?_
        rintro e W' ⟨rfl, hb'⟩
        have HB' := Aside0.mk (hbb.trans (hb'.mono (hbb).size))
        clear hb'
        cases hpk : p l[k] m[k] with
        | true =>
          have HPK := Aside0.mk hpk
          clear hpk
          gi_wp2
          go_roundw
          case rel =>
            refine ⟨k + 1, by simp, hlt, ⟨fun j hj hjk => ?_⟩, HB'⟩
            rcases Nat.lt_or_ge j k with h | h
            · exact hyes.out j hj h
            · obtain rfl : j = k := by omega
              exact HPK.out
          case measure =>
            show l.length - ((k : Int) + 1).toNat < l.length - (k : Int).toNat
            omega
        | false =>
          have HPK := Aside0.mk hpk
          clear hpk
          gi_wp2
          go_ret
          refine ⟨?_, HB'.out⟩
          rw [eqL_false p l m HL.out k hlt HPK.out]
          rfl
      · have hlt0 : decide ((k : Int) < (l.length : Int)) = false := decide_eq_false (by omega)
        gi_wp2
        go_ret
        refine ⟨?_, hb.out⟩
        rw [eqL_true p l m HL.out (fun j hj => hyes.out j hj (by omega))]
        rfl
  · have e1 : ((l.length : Int) == (m.length : Int)) = false := beq_eq_false_iff_ne.2 (by omega)
    have e2 : ((l.length : Int) != (m.length : Int)) = true := bne_iff_ne.2 (by omega)
    have e3 : ((l.length : Int) = (m.length : Int)) = False := eq_false (by omega)
    gi_wp2
    go_ret
    refine ⟨?_, HB.out⟩
    rw [show eqL p l m = false by unfold eqL; rw [decide_eq_false hlen]; rfl]
    rfl
end Go.Proofs.Ytebmbfobmakheaa.PD
namespace Go.Proofs.Ytebmbfobmakheaa.PD
open Go.RowKit Go.Shelf Go.Proofs.YtebmbfobmakheaaW.PrintWords Go.Proofs.YtebmbfobmakheaaW.PrintLast Go.Proofs.YtebmbfobmakheaaW.PrintMore
attribute [local go_sem] isSome_setCell Oper.semAt_some wide_fn wide_depth
set_option linter.unusedVariables false
set_option linter.unusedSimpArgs false
def sameB (a b : ByteArray) : Bool := a.toList == b.toList
theorem w64n {i : Nat} (h : i < 9223372036854775807) : wrap64 ((i : Int) + 1) = ((i + 1 : Nat) : Int) := by unfold wrap64; omega
theorem str_l0 (l m : List ByteArray) (h : l.length = m.length) (hb : l.length ≤ 9223372036854775807) : ∀ (d j : Nat), l.length - j = d → j ≤ l.length → slices_Equal_string_string.l0 (d + 1) l m (l.length : Int) (j : Int) = some ((l.drop j).zip (m.drop j) |>.all fun q => sameB q.1 q.2)
  | 0, j, hd, hj => by
    unfold slices_Equal_string_string.l0
    rw [if_neg (by omega), List.drop_eq_nil_of_le (by omega)]
    rfl
  | d + 1, j, hd, hj => by
    unfold slices_Equal_string_string.l0
    have hjl : j < l.length := by omega
    have hjm : j < m.length := by omega
    rw [if_pos (by omega), if_pos (by omega), if_pos (by omega), if_pos (by omega), List.drop_eq_getElem_cons hjl, List.drop_eq_getElem_cons hjm, List.zip_cons_cons, List.all_cons]
    have e0 : rdOf ByteArray.empty l (j : Int) = l[j] := by simp [rdOf, hjl]
    have e1 : rdOf ByteArray.empty m (j : Int) = m[j] := by simp [rdOf, hjm]
    rw [e0, e1, w64n (by omega), str_l0 l m h hb d (j + 1) (by omega) (by omega)]
    by_cases hs : l[j].toList = m[j].toList
    · rw [if_pos hs]; simp [sameB, hs]
    · rw [if_neg hs]; simp [sameB, hs]
theorem equal_str (l m : List ByteArray) (hb : l.length ≤ 9223372036854775807) : slices_Equal_string_string.f (l.length + 1) l m = some (eqL sameB l m) := by
  unfold slices_Equal_string_string.f eqL
  by_cases h : l.length = m.length
  · rw [if_pos (by omega), decide_eq_true h, Bool.true_and]
    exact str_l0 l m h hb l.length 0 (by omega) (by omega)
  · rw [if_neg (by omega), decide_eq_false h, Bool.false_and]
def sameV (x y : S77) : Bool := sameB x.f0 y.f0 && eqL sameB x.f1 y.f1
def sameP (x y : S45) : Bool := (sameB x.f0 y.f0 && sameB x.f2 y.f2) && eqL sameV x.f1 y.f1
set_option maxRecDepth 100000 in
set_option maxHeartbeats 1600000 in
theorem same1_walk (x y : S77) (A2 : Option Addr) (c2 : Nat) (A3 : Option Addr) (c3 : Nat) (w : World) (hx : x.f1.length ≤ c2) (hxc : Kd.C Kd.string w A2 x.f1.length x.f1) (hy : y.f1.length ≤ c3) (hyc : Kd.C Kd.string w A3 y.f1.length y.f1) :
    Calls Try.prog 86 #[.agg #[.string x.f0, .slice A2 x.f1.length c2], .agg #[.string y.f0, .slice A3 y.f1.length c3]] w fun e w' => e = .returned (.bool (sameV x y)) ∧ Below w.heap.size w w' := by
  have hl : x.f1.length ≤ 9223372036854775807 := by have := hxc.2.1; unfold maxLen at this; omega
  have hb : Below w.heap.size w ((w.alloc (.cells #[.string x.f0, .slice A2 x.f1.length c2] 77)).alloc (.cells #[.string y.f0, .slice A3 y.f1.length c3] 77)) := below_alloc (below_alloc (Below.refl _ _) _) _
  have HB := Aside0.mk hb
  have HC := Aside0.mk (slices_Equal_string_string.calls (x.f1.length + 1) A2 c2 x.f1 A3 c3 y.f1 _ _ (Kd.C_below hxc hb) hx (Kd.C_below hyc hb) hy (equal_str x.f1 y.f1 hl))
  clear hb hxc hyc hl hx hy
  refine (callsIn_wide (n := 51)).1 ?_
  refine callsIn_of_wp Try.func86 rfl trivial ?_ rfl
  simp only [Try.ntmps86, List.size_toArray, List.length_cons, List.length_nil, Nat.reduceAdd, Nat.reduceSub, Array.replicate_succ, Array.replicate_zero, List.push_toArray, List.append_toArray, List.nil_append, List.cons_append]
  cases hn : sameB x.f0 y.f0 with
  | false =>
    have e1 : (x.f0.toList == y.f0.toList) = false := hn
    have e2 : (x.f0.toList = y.f0.toList) = False := eq_false (by simpa [sameB] using hn)
    rw [show sameV x y = false by unfold sameV; rw [hn]; rfl]
    clear hn
    gi_wp2
    go_ret
    exact ⟨rfl, HB.out⟩
  | true =>
    have e1 : (x.f0.toList == y.f0.toList) = true := hn
    have e2 : (x.f0.toList = y.f0.toList) = True := eq_true (by simpa [sameB] using hn)
    rw [show sameV x y = eqL sameB x.f1 y.f1 by unfold sameV; rw [hn]; rfl]
    clear hn
    gi_wp2
    gi_at_call 87
    refine (callsIn_wide.2 HC.out).mono ?_
    rintro e W' ⟨rfl, hd⟩
    have HD := Aside0.mk hd
    clear hd
    gi_wp2
    go_ret
    exact ⟨rfl, HB.out.trans (HD.out.below.mono HB.out.size)⟩
set_option maxRecDepth 100000 in
set_option maxHeartbeats 3200000 in
theorem same_walk (x y : S45) (A2 : Option Addr) (c2 : Nat) (A3 : Option Addr) (c3 : Nat) (w : World) (hx : x.f1.length ≤ c2) (hxc : Kd.C k77 w A2 x.f1.length x.f1) (hy : y.f1.length ≤ c3) (hyc : Kd.C k77 w A3 y.f1.length y.f1) :
    Calls Try.prog 56 #[.agg #[.string x.f0, .slice A2 x.f1.length c2, .string x.f2], .agg #[.string y.f0, .slice A3 y.f1.length c3, .string y.f2]] w fun e w' => e = .returned (.bool (sameP x y)) ∧ Below w.heap.size w w' := by
  have hb : Below w.heap.size w ((w.alloc (.cells #[.string x.f0, .slice A2 x.f1.length c2, .string x.f2] 45)).alloc (.cells #[.string y.f0, .slice A3 y.f1.length c3, .string y.f2] 45)) := below_alloc (below_alloc (Below.refl _ _) _) _
  have HB := Aside0.mk hb
  have HC := Aside0.mk (eqF77 sameV A2 c2 x.f1 A3 c3 y.f1 _ (Kd.C_below hxc hb) (Kd.C_below hyc hb) (fun a _ b _ B2 d2 B3 d3 W _ h => same1_walk a b B2 d2 B3 d3 W h.1 h.2.1 h.2.2.1 h.2.2.2))
  clear hb hxc hyc hx hy
  refine (callsIn_wide (n := 51)).1 ?_
  refine callsIn_of_wp Try.func56 rfl trivial ?_ rfl
  simp only [Try.ntmps56, List.size_toArray, List.length_cons, List.length_nil, Nat.reduceAdd, Nat.reduceSub, Array.replicate_succ, Array.replicate_zero, List.push_toArray, List.append_toArray, List.nil_append, List.cons_append]
  cases hn : sameB x.f0 y.f0 with
  | false =>
    have e1 : (x.f0.toList == y.f0.toList) = false := hn
    have e2 : (x.f0.toList = y.f0.toList) = False := eq_false (by simpa [sameB] using hn)
    rw [show sameP x y = false by unfold sameP; rw [hn]; rfl]
    clear hn
    gi_wp2
    go_ret
    exact ⟨rfl, HB.out⟩
  | true =>
    have e1 : (x.f0.toList == y.f0.toList) = true := hn
    have e2 : (x.f0.toList = y.f0.toList) = True := eq_true (by simpa [sameB] using hn)
    cases hv : sameB x.f2 y.f2 with
    | false =>
      have e3 : (x.f2.toList == y.f2.toList) = false := hv
      have e4 : (x.f2.toList = y.f2.toList) = False := eq_false (by simpa [sameB] using hv)
      rw [show sameP x y = false by unfold sameP; rw [hn, hv]; rfl]
      clear hn hv
      gi_wp2
      go_ret
      exact ⟨rfl, HB.out⟩
    | true =>
      have e3 : (x.f2.toList == y.f2.toList) = true := hv
      have e4 : (x.f2.toList = y.f2.toList) = True := eq_true (by simpa [sameB] using hv)
      rw [show sameP x y = eqL sameV x.f1 y.f1 by unfold sameP; rw [hn, hv]; rfl]
      clear hn hv
      gi_wp2
      gi_at_call 85
      refine (callsIn_wide.2 HC.out).mono ?_
      rintro e W' ⟨rfl, hd⟩
      have HD := Aside0.mk hd
      clear hd
      gi_wp2
      go_ret
      exact ⟨rfl, HB.out.trans (HD.out.mono HB.out.size)⟩
set_option maxRecDepth 100000 in
set_option maxHeartbeats 1600000 in
theorem sig2_walk (A : Option Addr) (c : Nat) (l : List S45) (B : Option Addr) (d : Nat) (m : List S45) (w : World) (hl : Kd.C k45 w A l.length l) (hm : Kd.C k45 w B m.length m) :
    Calls Try.prog 54 #[.slice A l.length c, .slice B m.length d] w fun e w' => e = .returned (.bool (eqL sameP l m)) ∧ Below w.heap.size w w' := by
  have HC := Aside0.mk (eqF45 sameP A c l B d m w hl hm (fun a _ b _ B2 d2 B3 d3 W _ h => same_walk a b B2 d2 B3 d3 W h.1 h.2.1 h.2.2.1 h.2.2.2))
  clear hl hm
  refine (callsIn_wide (n := 51)).1 ?_
  refine callsIn_of_wp Try.func54 rfl trivial ?_ rfl
  simp only [Try.ntmps54, List.size_toArray, List.length_cons, List.length_nil, Nat.reduceAdd, Nat.reduceSub, Array.replicate_succ, Array.replicate_zero, List.push_toArray, List.append_toArray, List.nil_append, List.cons_append]
  gi_wp2
  gi_at_call 55
  refine (callsIn_wide.2 HC.out).mono ?_
  rintro e W' ⟨rfl, hd⟩
  have HD := Aside0.mk hd
  clear hd
  gi_wp2
  go_ret
  exact ⟨rfl, HD.out⟩
end Go.Proofs.Ytebmbfobmakheaa.PD
namespace Go.Proofs.Ytebmbfobmakheaa.PD
open Go.RowKit Go.Shelf Go.Proofs.YtebmbfobmakheaaW.PrintWords Go.Proofs.YtebmbfobmakheaaW.PrintLast Go.Proofs.YtebmbfobmakheaaW.PrintMore
attribute [local go_sem] isSome_setCell Oper.semAt_some wide_fn wide_depth
set_option linter.unusedVariables false
set_option linter.unusedSimpArgs false
theorem C45_cells {X Y : World} {A : Option Addr} {n : Nat} {xs : List S45} (h : Kd.C k45 X A n xs) (hc : ∀ p u, X.cell? p = some u → Y.cell? p = some u) : Kd.C k45 Y A n xs :=
  rows_cells h hc (fun x cs hk => by
    obtain ⟨A1, c1, rfl, hl, hC⟩ := k45_open hk
    exact k45_mk Y x hl (C77_cells hC hc))
def CL (W : World) (ok : Nat → Prop) (A : Option Addr) (x : List S45) : Prop := ∀ Y : World, (∀ p u, W.cell? p = some u → ok p.block → Y.cell? p = some u) → Kd.C k45 Y A x.length x
open Classical in
theorem CL_of_F {W : World} {ok : Nat → Prop} {A : Option Addr} {x : List S45} (h : Kd.F k45 W ok A x.length x) : CL W ok A x := fun Y hY => by
  obtain ⟨V, hV⟩ : ∃ V : World, ({ W with heap := W.heap.mapIdx fun i o => if ok i then o else Obj.deferred none } : World) = V := ⟨_, rfl⟩
  have hh : ∀ k : Nat, V.heap[k]? = (W.heap[k]?).map fun o => if ok k then o else Obj.deferred none := fun k => by rw [← hV]; simp [Array.getElem?_mapIdx]
  refine C45_cells (h V (fun k hk _ => ?_)) (fun p u hp => ?_)
  · rw [hh]; simp [hk]
  · by_cases hk : ok p.block
    · refine hY p u ?_ hk
      rw [← hp]
      refine (World.cell?_of_block ?_).symm
      rw [hh]; simp [hk]
    · exfalso
      unfold World.cell? at hp
      rw [hh] at hp
      cases hw : W.heap[p.block]? with
      | none => rw [hw] at hp; simp at hp
      | some o => rw [hw] at hp; simp [hk] at hp
theorem CL.step {X Y : World} {ok ok' : Nat → Prop} {A : Option Addr} {x : List S45} (h : CL X ok A x) (hc : ∀ p u, X.cell? p = some u → ok p.block → Y.cell? p = some u ∧ ok' p.block) : CL Y ok' A x :=
  fun Z hZ => h Z (fun p u hp hk => hZ p u (hc p u hp hk).1 (hc p u hp hk).2)
theorem CL.now {W : World} {ok : Nat → Prop} {A : Option Addr} {x : List S45} (h : CL W ok A x) : Kd.C k45 W A x.length x := h W (fun _ _ h _ => h)
def okR (w : World) (v : Value) (k : Nat) : Prop := k < w.heap.size ∨ (w.heap.size + 2 ≤ k ∧ some k ≠ v.ownBlock)
def AccR (w : World) (xs : List (List S45)) (W : World) : Prop := ∃ (v : Value) (cs : List Value), (W.heap[w.heap.size + 1]? = some (.cells #[v] 61 (0, 0)) ∧ v.ownBlock ≠ some (w.heap.size + 1)) ∧ W.ownsRow (w.heap.size + 2) 22 1 v cs.length cs ∧ Below w.heap.size w W ∧ cs.length = xs.length ∧ ∀ (j : Nat) (x : List S45), xs[j]? = some x → ∃ A cap, cs[j]? = some (.slice A x.length cap) ∧ CL W (okR w v) A x
def OwR (w : World) (X : World) (k : Nat) : Prop := ∃ v : Value, X.heap[w.heap.size + 1]? = some (.cells #[v] 61 (0, 0)) ∧ v.ownBlock = some k
theorem accR_own (w : World) (B : Nat) (hB : w.heap.size + 2 ≤ B) : OwnZ NoZ B (fun (xs : List (List S45)) W => AccR w xs W) := by
  rintro s X Y row ⟨v, cs, ⟨h1, h2⟩, h3, h4, h5, h6⟩ hg hr
  refine ⟨v, cs, ⟨cell_own h1 hg hr, h2⟩, h3.kept hg ?_, below_own h4 (by omega) hg hr, h5, fun j x hx => ?_⟩
  · cases hv : v.ownBlock with
    | none => exact .inl rfl
    | some g =>
      refine .inr (fun e => ?_)
      obtain ⟨_, _, cells, hcl⟩ := owns_typed h3 hv
      rcases hr g e.symm with h | ⟨_, o, ho, hoc⟩
      · exact h
      · rw [hcl] at ho; cases ho; cases hoc
  · obtain ⟨A, cap, e, hC⟩ := h6 j x hx
    exact ⟨A, cap, e, hC.step (fun p u hp hk => ⟨cells_own hg hr p u hp, hk⟩)⟩
theorem one_cell {X : World} {S : Nat} {v v' : Value} {t : TypeId} (h : X.heap[S]? = some (.cells #[v] t (0, 0))) (h' : X.heap[S]? = some (.cells #[v'] t (0, 0))) : v = v' := by
  rw [h] at h'
  injection h' with h; injection h with h; simpa using h
theorem accR_ownS {β : Type} (w : World) (B : Nat) (p : β → List (List S45)) : OwnS NoZ (OwR w) B (fun (s : β) W => AccR w (p s) W) := by
  refine ⟨?_, ?_⟩
  · rintro s X Y row ⟨v, cs, ⟨h1, h2⟩, h3, h4, _⟩ hg hr k ⟨v', hv', hk⟩
    exact ⟨v, h1, by rw [one_cell (cell_own h1 hg hr) hv']; exact hk⟩
  · rintro s X ⟨v, cs, ⟨h1, h2⟩, h3, h4, _⟩ k ⟨v', hv', hk⟩
    exact (owns_typed h3 (by rw [one_cell h1 hv']; exact hk)).2.1
theorem accR_at {W w1 : World} {S : Nat} {v u : Value} {t t' : TypeId} (h1 : W.heap[S]? = some (.cells #[v] t' (0, 0))) (h2 : v.ownBlock ≠ some S) (hg : (W.alloc (.cells #[u] t)).grownBy w1 v.ownBlock) :
    w1.heap[S]? = some (.cells #[v] t' (0, 0)) ∧ w1.cell? ⟨S, 0, none⟩ = some v ∧ w1.frozen? ⟨S, 0, none⟩ = false := by
  have h := blk_grown (blk_alloc h1 (.cells #[u] t)) hg (fun e => h2 e.symm)
  exact ⟨h, (blk_cell h 0).trans rfl, blk_frozen h 0⟩
theorem accR_step {w W W0 w1 : World} {B : Nat} {v : Value} {cs : List Value} {xs : List (List S45)} {x : List S45} {A5 : Option Addr} {c5 g cap : Nat} (hb0 : Below W0.heap.size W0 W) (h10 : W0.heap[w.heap.size + 1]? = some (.cells #[v] 61 (0, 0))) (h2 : v.ownBlock ≠ some (w.heap.size + 1)) (h30 : W0.ownsRow (w.heap.size + 2) 22 1 v cs.length cs) (h40 : Below w.heap.size w W0)
    (h5 : cs.length = xs.length) (h6 : ∀ (j : Nat) (x : List S45), xs[j]? = some x → ∃ A cap, cs[j]? = some (.slice A x.length cap) ∧ CL W0 (okR w v) A x)
    (hx : CL W (fun k => k < w.heap.size ∨ (W0.heap.size ≤ k ∧ k < W.heap.size)) A5 x)
    (hg : (W.alloc (.cells #[.slice A5 x.length c5] 22)).grownBy w1 v.ownBlock) (ho : w1.ownsRow (w.heap.size + 2) 22 1 (.slice (some ⟨g, 0, none⟩) (cs.length + 1) cap) (cs.length + 1) (cs ++ [.slice A5 x.length c5])) (hat : some g = v.ownBlock ∨ some g = some (W.alloc (.cells #[.slice A5 x.length c5] 22)).heap.size) (hB : w.heap.size + 2 ≤ B) :
    KO (OwR w) B W0 (w1.setCell ⟨w.heap.size + 1, 0, none⟩ (.slice (some ⟨g, 0, none⟩) (cs.length + 1) cap)) ∧ Below w.heap.size W0 (w1.setCell ⟨w.heap.size + 1, 0, none⟩ (.slice (some ⟨g, 0, none⟩) (cs.length + 1) cap)) ∧ AccR w (xs ++ [x]) (w1.setCell ⟨w.heap.size + 1, 0, none⟩ (.slice (some ⟨g, 0, none⟩) (cs.length + 1) cap)) := by
  have h1 := blk_below h10 hb0
  have h3 : W.ownsRow (w.heap.size + 2) 22 1 v cs.length cs := h30.kept (row := none) (gb_below hb0) (by cases hv : v.ownBlock with | none => exact .inl rfl | some g => exact .inr (by simp))
  have h4 := h40.trans (hb0.mono h40.size)
  have hlt0 : ∀ k, v.ownBlock = some k → k < W0.heap.size := fun k e => (owns_typed h30 e).2.1
  clear h30
  obtain ⟨S, hS⟩ : ∃ S, w.heap.size + 1 = S := ⟨_, rfl⟩
  have hS2 : w.heap.size + 2 = S + 1 := by omega
  have hok : ∀ k (v : Value), okR w v k = (k < w.heap.size ∨ (S + 1 ≤ k ∧ some k ≠ v.ownBlock)) := fun k v => by unfold okR; rw [hS2]
  unfold AccR OwR
  rw [hS2] at h3 ho hB
  rw [hS2]
  rw [hS] at h1 h10 h2 ⊢
  obtain ⟨X, hX⟩ : ∃ X, w1.setCell ⟨S, 0, none⟩ (.slice (some ⟨g, 0, none⟩) (cs.length + 1) cap) = X := ⟨_, rfl⟩
  have hsz : w1.heap.size = X.heap.size := by rw [← hX]; simp [World.setCell]
  have hsw : W.heap.size + 1 ≤ w1.heap.size := by have := hg.size; rw [World.size_alloc] at this; omega
  have hs0 := hb0.size
  have far : ∀ k, k ≠ S → X.heap[k]? = w1.heap[k]? := fun k hk => by rw [← hX]; exact Below.heap_setCell _ _ _ k hk
  have hv : ∀ k, v.ownBlock = some k → S + 1 ≤ k := fun k e => (owns_typed h3 e).1
  have old : ∀ k, k < W.heap.size → some k ≠ v.ownBlock → w1.heap[k]? = W.heap[k]? := fun k hk hne => (hg.block k (by rw [World.size_alloc]; omega) hne).trans (Below.heap_alloc _ _ _ hk)
  have hgS : g ≠ S := by have := (owns_typed ho (k := g) (by simp [Value.ownBlock])).1; omega
  have hbl : Below w.heap.size W X := ⟨by rw [← hX]; exact hg.os, by rw [← hX]; exact hg.tape, by rw [← hX]; exact hg.output, by omega, fun k hk => (far k (by omega)).trans (old k (by have := h4.size; omega) (fun e => by have := hv k e.symm; omega))⟩
  have hb1 := (accR_at h1 h2 hg).1
  have hXS : X.heap[S]? = some (.cells #[.slice (some ⟨g, 0, none⟩) (cs.length + 1) cap] 61 (0, 0)) := by rw [← hX]; exact blk_set hb1 0 _
  have hS0 := (Array.getElem?_eq_some_iff.1 h10).1
  have hw0 : w.heap.size ≤ W0.heap.size := by omega
  have hgat : some g = v.ownBlock ∨ g = W.heap.size + 1 := hat.imp id (fun h => by injection h with h; rw [World.size_alloc] at h; exact h)
  have same : ∀ k, k < W.heap.size → k ≠ S → some k ≠ v.ownBlock → X.heap[k]? = W.heap[k]? := fun k hk h1 h2 => (far k h1).trans (old k hk h2)
  rw [hX]
  refine ⟨⟨by omega, fun i o hi ho' hc => ?_, fun k hk => ?_⟩, (hb0.mono hw0).trans hbl, ⟨_, cs ++ [.slice A5 x.length c5], ⟨hXS, by simpa [Value.ownBlock] using hgS⟩, ?_, h4.trans hbl, by simp [h5], fun j y hj => ?_⟩⟩
  · have hil := (Array.getElem?_eq_some_iff.1 ho').1
    rw [far i (by omega), old i (by omega) (fun e => ?_)]
    · exact (hb0.block i hil).trans ho'
    · obtain ⟨_, _, cells, hcl⟩ := owns_typed h3 e.symm
      rw [hb0.block i hil, ho'] at hcl
      injection hcl with hcl
      exact hc (by rw [hcl]; rfl) ⟨v, h10, e.symm⟩
  · obtain ⟨v', hv', hk'⟩ := hk
    have hvv := one_cell hXS hv'
    rw [← hvv] at hk'
    have hgk : g = k := by simpa [Value.ownBlock] using hk'
    subst hgk
    rcases hgat with h | h
    · exact .inl ⟨v, h10, h.symm⟩
    · exact .inr (by omega)
  · rw [List.length_append, List.length_singleton]
    refine ho.kept (row := some S) ⟨by rw [← hX]; rfl, by rw [← hX]; rfl, by rw [← hX]; rfl, by omega, fun k _ hk => far k (fun e => hk (by rw [e]))⟩ (.inr (by simpa [Value.ownBlock] using hgS))
  · have hgv : (Value.slice (some ⟨g, 0, none⟩) (cs.length + 1) cap).ownBlock = some g := rfl
    rcases Nat.lt_or_ge j xs.length with hjl | hjl
    · rw [List.getElem?_append_left hjl] at hj
      obtain ⟨A, cp, e, hC⟩ := h6 j y hj
      refine ⟨A, cp, by rw [List.getElem?_append_left (by omega)]; exact e, hC.step (fun p u hp hk => ?_)⟩
      have hpl := World.block_lt_of_cell? _ _ hp
      rw [hok] at hk ⊢
      rw [hgv]
      have hne : some p.block ≠ v.ownBlock := fun e => by
        rcases hk with h | h
        · have := hv p.block e.symm; omega
        · exact h.2 e
      have hnS : p.block ≠ S := by omega
      have hp' : W.cell? p = some u := (World.cell?_of_block (hb0.block p.block hpl)).trans hp
      refine ⟨(World.cell?_of_block (same p.block (by omega) hnS hne)).trans hp', hk.imp id (fun h => ⟨h.1, fun e => ?_⟩)⟩
      injection e with e
      rcases hgat with h' | h'
      · exact hne (by rw [e, h'])
      · omega
    · rw [List.getElem?_append_right hjl] at hj
      have hj0 : j - xs.length = 0 := by
        rcases Nat.eq_zero_or_pos (j - xs.length) with h | h
        · exact h
        · rw [List.getElem?_eq_none (by simp; omega)] at hj; cases hj
      rw [hj0] at hj
      obtain rfl : x = y := by simpa using hj
      refine ⟨A5, c5, by rw [List.getElem?_append_right (by omega), show j - cs.length = 0 by omega]; rfl, hx.step (fun p u hp hk => ?_)⟩
      rw [hok, hgv]
      have hpl := World.block_lt_of_cell? _ _ hp
      have hne : some p.block ≠ v.ownBlock := fun e => by
        rcases hk with h | h
        · have := hv p.block e.symm; omega
        · have := hlt0 p.block e.symm; omega
      refine ⟨(World.cell?_of_block (same p.block hpl (by omega) hne)).trans hp, hk.imp id (fun h => ⟨by omega, fun e => ?_⟩)⟩
      injection e with e
      rcases hgat with h' | h'
      · exact hne (by rw [e, h'])
      · omega
theorem info22 : (Try.prog.info? 22).map (fun i => (i.zero, i.size, i.bytes)) = some (some (.slice none 0 0), 1, 24) := by kernel_rfl
theorem oper_append_at {F : Fence} {n : Nat} {P : Program} (w : World) {o : Oper} {a : Act} {K : Act → World → Prop} {Q : Exit → Act → World → Prop}
    (s x : Operand) (t : TypeId) (hop : o.op = Op.call { callee := Callee.builtin Builtin.append, args := #[s, x], argTypes := #[t, t] })
    (base : Nat) (e : TypeId) (i : TypeInfo) (z : Value) (size bytes : Nat) (h1 : P.underlying t = some (.slice e)) (h2 : P.info? e = some i) (h3 : i.zero = some z) (h4 : i.size = size) (h5 : i.bytes = bytes) (h6 : z.cells.size = size) (h7 : 0 < size)
    (v : Value) (k : Nat) (xs : List Value) (hs : a.eval s = v) (hown : w.ownsRow base e size v k xs) (ad : Addr) (m c : Nat) (news : List Value) (hx : a.eval x = .slice (some ad) m c) (hn : news.length = m * size)
    (hc : ∀ j u, news[j]? = some u → w.cell? (ad.add j) = some u) (h1c : ∀ u ∈ news, u.oneCell' = true) (b1 : k + m ≤ maxLen) (b2 : (k + m) * bytes ≤ 140737488355328) (b3 : base ≤ w.heap.size)
    (hK : ∀ v' w', w'.ownsRow base e size v' (k + m) (xs ++ news) → w.grownBy w' v.ownBlock → (v'.ownBlock = v.ownBlock ∨ v'.ownBlock = some w.heap.size) → K (a.put o.dst v') w') :
    Oper.wpIn F n P o a w K Q := by
  obtain ⟨v', w', hrun, r1, r2, r3, r4⟩ := run_append_own_at (P := P) w base t o.type e i z size bytes h1 h2 h3 h4 h5 h6 h7 v k xs hown ad m c news hn hc h1c b1 b2 b3
  unfold Oper.wpIn
  refine ⟨?_, ?_⟩
  · simp [Oper.about, hop, resolve, Target.leads, Sem.run_pure]
  · rw [Oper.semAt_plain F _ _ (by rw [hop]; intro c hc'; cases hc')]
    simp [execOp, hop, resolve, invoke, builtin, hs, hx, hrun, Result.andThen]
    exact hK _ _ r1 r2 r4
def rowsP (l : List S25) : List (List S45) := (othI 0 l).map fun i => toldP (l.getD i z25).f1
end Go.Proofs.Ytebmbfobmakheaa.PD
namespace Go.Proofs.Ytebmbfobmakheaa.PD
open Go.RowKit Go.Shelf Go.Proofs.YtebmbfobmakheaaW.PrintWords Go.Proofs.YtebmbfobmakheaaW.PrintLast Go.Proofs.YtebmbfobmakheaaW.PrintMore
attribute [local go_sem] isSome_setCell Oper.semAt_some wide_fn wide_depth
set_option linter.unusedVariables false
set_option linter.unusedSimpArgs false
theorem oth_len : ∀ (i : Nat) (l : List S25), (othI i l).length ≤ l.length
  | _, [] => Nat.le_refl _
  | i, x :: r => by
    unfold othI
    split
    · exact Nat.le_trans (oth_len (i + 1) r) (by simp)
    · simpa using oth_len (i + 1) r
def RowsC (W : World) (A : Option Addr) (n : Nat) (xs : List (List S45)) : Prop := xs.length ≤ 9223372036854775807 ∧ ∀ (j : Nat) (hj : j < xs.length), ∃ ad A2 c2, A = some ad ∧ W.cell? (ad.add j) = some (.slice A2 (xs[j]'hj).length c2) ∧ Kd.C k45 W A2 (xs[j]'hj).length (xs[j]'hj)
theorem RowsC.below {W W' : World} {A : Option Addr} {n : Nat} {xs : List (List S45)} (h : RowsC W A n xs) (hb : Below W.heap.size W W') : RowsC W' A n xs := ⟨h.1, fun j hj => by
  obtain ⟨ad, A2, c2, e, h1, h2⟩ := h.2 j hj
  exact ⟨ad, A2, c2, e, (hb.cell (World.block_lt_of_cell? W _ h1)).trans h1, Kd.C_below h2 hb⟩⟩
theorem acc_rows {w W : World} {xs : List (List S45)} {D : Nat} (o : Obj) (h : AccR w xs W) (hl : xs.length ≤ 9223372036854775807) (hD : W.heap[D]? = some (.deferred (some []))) (hDw : w.heap.size ≤ D) : ∃ A c, W.cell? ⟨w.heap.size + 1, 0, none⟩ = some (.slice A xs.length c) ∧ RowsC (W.putObj D o) A xs.length xs ∧ Below w.heap.size w W := by
  obtain ⟨v, cs, ⟨h1, h2⟩, h3, h4, h5, h6⟩ := h
  obtain ⟨A, c, ev⟩ : ∃ A c, v = .slice A xs.length c := by
    rcases h3.2 with ⟨rfl, h0⟩ | ⟨g, cap, cur, rfl, _⟩
    · exact ⟨none, 0, by rw [← h5, h0]⟩
    · exact ⟨_, cap, by rw [← h5]⟩
  refine ⟨A, c, by rw [← ev]; exact (blk_cell h1 0).trans rfl, ⟨hl, fun j hj => ?_⟩, h4⟩
  obtain ⟨A2, c2, e2, hC⟩ := h6 j _ (List.getElem?_eq_getElem hj)
  have hput : ∀ p u, W.cell? p = some u → (W.putObj D o).cell? p = some u := fun p u hp => by
    refine (World.cell?_of_block (World.putObj_heap_other (fun e => ?_))).trans hp
    unfold World.cell? at hp
    rw [e, hD] at hp
    cases hp
  rcases h3.2 with ⟨rfl, h0⟩ | ⟨g, cap, cur, hv, hb, hg, _⟩
  · omega
  · rw [hv] at ev
    injection ev with eA _ _
    refine ⟨⟨g, 0, none⟩, A2, c2, eA.symm, hput _ _ (h3.cells (g := g) (by rw [hv]; rfl) j _ e2), C45_cells hC.now hput⟩
theorem own_drew_below {W w5 : World} {v : Value} {cs : List Value} {b : Nat} (h : W.ownsRow b 22 1 v cs.length cs) (hb : Below W.drew.heap.size W.drew w5) : w5.ownsRow b 22 1 v cs.length cs :=
  (World.ownsRow.drew h).kept (row := none) (gb_below hb) (by cases hv : v.ownBlock with | none => exact .inl rfl | some g => exact .inr (by simp))
theorem rows_end {w W0 w5 w1 : World} {B : Nat} {v : Value} {cs : List Value} (l : List S25) (x : CC × Nat) (pre : List (CC × Nat)) (hpl : pre.length ≤ l.length) {m : List S45} {A5 : Option Addr} {c5 g cap : Nat} (hG : toldP (l.getD x.2 z25).f1 = m)
    (hn : Kd.N k45 45 w5 W0.drew.heap.size (fun k_ => k_ < w.heap.size ∨ W0.drew.heap.size ≤ k_) (.slice A5 m.length c5) m) (hb : Below W0.drew.heap.size W0.drew w5)
    (h1 : W0.heap[w.heap.size + 1]? = some (.cells #[v] 61 (0, 0))) (h2 : v.ownBlock ≠ some (w.heap.size + 1)) (h3 : W0.ownsRow (w.heap.size + 2) 22 1 v cs.length cs) (h4 : Below w.heap.size w W0)
    (h5 : cs.length = (pre.map fun p => toldP (l.getD p.2 z25).f1).length) (h6 : ∀ (j : Nat) (x : List S45), (pre.map fun p => toldP (l.getD p.2 z25).f1)[j]? = some x → ∃ A cap, cs[j]? = some (.slice A x.length cap) ∧ CL W0 (okR w v) A x)
    (hg : (w5.alloc (.cells #[.slice A5 m.length c5] 22)).grownBy w1 v.ownBlock) (ho : w1.ownsRow (w.heap.size + 2) 22 1 (.slice (some ⟨g, 0, none⟩) (cs.length + 1) cap) (cs.length + 1) (cs ++ [.slice A5 m.length c5])) (hat : some g = v.ownBlock ∨ some g = some (w5.alloc (.cells #[.slice A5 m.length c5] 22)).heap.size) (hB : w.heap.size + 2 ≤ B) :
    KO (OwR w) B W0 (w1.setCell ⟨w.heap.size + 1, 0, none⟩ (.slice (some ⟨g, 0, none⟩) (cs.length + 1) cap)) ∧ Below w.heap.size W0 (w1.setCell ⟨w.heap.size + 1, 0, none⟩ (.slice (some ⟨g, 0, none⟩) (cs.length + 1) cap)) ∧ SameZ NoZ W0 (w1.setCell ⟨w.heap.size + 1, 0, none⟩ (.slice (some ⟨g, 0, none⟩) (cs.length + 1) cap)) ∧ AccR w ((pre ++ [x]).map fun p => toldP (l.getD p.2 z25).f1) (w1.setCell ⟨w.heap.size + 1, 0, none⟩ (.slice (some ⟨g, 0, none⟩) (cs.length + 1) cap)) := by
  have hb0 : Below W0.heap.size W0 w5 := (below_drew (Below.refl W0.heap.size W0)).trans hb
  have hcl : CL w5 (fun k => k < w.heap.size ∨ (W0.heap.size ≤ k ∧ k < w5.heap.size)) A5 m := CL_of_F (Kd.N_F (Kd.N_mono (Kd.N_bound hn) (fun k hk => hk.1.imp id (fun h => ⟨h, hk.2⟩))))
  obtain ⟨k1, k2, k3⟩ := accR_step hb0 h1 h2 h3 h4 h5 h6 hcl hg ho hat hB
  exact ⟨k1, k2, fun _ h => h.elim, by rw [List.map_append, List.map_cons, List.map_nil, hG]; exact k3⟩
set_option maxRecDepth 100000 in
set_option maxHeartbeats 8000000 in
theorem rows_walk (nm : ByteArray) (A1 : Option Addr) (n1 c1 : Nat) (A : Option Addr) (c : Nat) (l : List S25) (w : World) (hr : Kd.C k25 w A l.length l) (hlim : ∀ x ∈ l, x.f1.length < 2513169434917) (hlt : ∀ x ∈ l, (toldP x.f1).length < 2513169434916) (hll : l.length ≤ 1000000000) :
    Calls Try.prog 51 #[.agg #[.string nm, .slice A1 n1 c1, .slice A l.length c]] w fun e w' => ∃ A' c', e = .returned (.slice A' (rowsP l).length c') ∧ RowsC w' A' (rowsP l).length (rowsP l) ∧ Below w.heap.size w w' := by
  obtain ⟨L, hLl, hOk, hRd⟩ := cc_of hr
  have HOK := Aside0.mk hOk
  have HRD := Aside0.mk hRd
  have hmap := oth_map L l 0 hLl (fun j hi hj => (hOk j hi hj).1)
  have HMAP := Aside0.mk hmap
  have HLIM := Aside0.mk hlim
  have HLT := Aside0.mk hlt
  clear hr hOk hRd hmap hlim hlt
  have HV : Aside0 (AccR w [] ((w.alloc (.cells #[.string nm, .slice A1 n1 c1, .slice A l.length c] 25)).alloc (.cells #[.slice none 0 0] 61))) := ⟨.slice none 0 0, [], ⟨by
      have := heap_alloc_new (w.alloc (.cells #[.string nm, .slice A1 n1 c1, .slice A l.length c] 25)) (.cells #[.slice none 0 0] 61)
      rw [World.size_alloc] at this
      exact this, by simp [Value.ownBlock]⟩, World.ownsRow_nil _ _ _ _, below_alloc (below_alloc (Below.refl _ _) _) _, rfl, fun j x h => by simp at h⟩
  refine (callsIn_wide (n := 51)).1 ?_
  refine callsIn_of_wp_marks Try.func51 rfl trivial ?_ rfl
  simp only [Try.ntmps51, List.size_toArray, List.length_cons, List.length_nil, Nat.reduceAdd, Nat.reduceSub, Array.replicate_succ, Array.replicate_zero, List.push_toArray, List.append_toArray, List.nil_append, List.cons_append]
  gi_wp2
  gi_at_call 41
  refine (callsIn_wide.2 (comps_made nm A1 n1 c1 A l.length c _)).mono ?_
  rintro e w4 ⟨rfl, rfl⟩
  gi_wp2
  obtain ⟨V, hVe⟩ : ∃ V, ((w.alloc (.cells #[.string nm, .slice A1 n1 c1, .slice A l.length c] 25)).alloc (.cells #[.slice none 0 0] 61)).alloc (.cells #[.string nm, .slice A1 n1 c1, .slice A l.length c] 25) = V := ⟨_, rfl⟩
  have hz : V.heap.size = w.heap.size + 3 := by rw [← hVe]; simp
  have q1 : V.heap[w.heap.size + 1 + 1]? = some (.cells #[.string nm, .slice A1 n1 c1, .slice A L.length c] 25 (0, 0)) := by
    have := heap_alloc_new ((w.alloc (.cells #[.string nm, .slice A1 n1 c1, .slice A l.length c] 25)).alloc (.cells #[.slice none 0 0] 61)) (.cells #[.string nm, .slice A1 n1 c1, .slice A l.length c] 25)
    rw [World.size_alloc, World.size_alloc, hVe] at this
    rw [hLl]
    exact this
  have HOG := Aside0.mk (show AccR w [] V from by
    obtain ⟨v, cs, ⟨a1, a2⟩, a3, a4, a5, a6⟩ := HV.out
    rw [← hVe]
    exact ⟨v, cs, ⟨blk_alloc a1 _, a2⟩, a3.alloc _, below_alloc a4 _, a5, fun j x h => by simp at h⟩)
  rw [hVe]
  clear hVe HV
  have hLm : L.length ≤ 9223372036854775807 := by omega
  refine range_z (n₀ := w.heap.size) (Z := NoZ) (gf := 79) (lb := #[.pointer (some ⟨w.heap.size + 1 + 1, 0, none⟩)]) (En := fun x ar _ => ar = encC x) (xs := othersF 0 L) (Rd := fun pre W => RdAt A L (nextI pre) W) (Own := OwR w) rfl (enters_of Try.func79 (by kernel_rfl) rfl) (by omega) (fun b hb => hb.elim)
    (fun l' J Jx W hW hJ hJx hRd _ _ hY h0 => (callsIn_wide (n := 51)).1 (comps_in A c L hLm nm A1 n1 c1 l' (w.heap.size + 1 + 1) w.heap.size J Jx W hJ hRd (fun pre x W1 h1 h2 => hY pre x _ W1 h1 h2 rfl) ((hW.block (w.heap.size + 1 + 1) (by omega)).trans q1) h0)) (fun x ar _ e => by rw [e]; rfl)
    (fun pre W => AccR w (pre.map fun p => toldP (l.getD p.2 z25).f1) W)
    (fun pre W h => by obtain ⟨_, _, _, _, h, _⟩ := h; exact HRD.out.below h (Nat.zero_le _))
    (fun cd pre W => False)
    (fun s X Y row hs hg hr => accR_own w V.heap.size (by omega) (s.map fun p => toldP (l.getD p.2 z25).f1) X Y row hs hg hr) (fun cd => fun s X Y row h hg hr => h) (accR_ownS w _ (fun pre : List (CC × Nat) => pre.map fun p => toldP (l.getD p.2 z25).f1)) (fun cd => ⟨fun _ _ _ _ h => h.elim, fun _ _ h => h.elim⟩) HOG.out
    (fun x a' W => ∃ G, w.heap.size + 3 ≤ G ∧ a' = { tmps := #[.agg #[.string nm, .slice A1 n1 c1, .slice A l.length c], .pointer (some ⟨w.heap.size, 0, none⟩), .slice none 0 0, .pointer (some ⟨w.heap.size + 1, 0, none⟩), undef, .pointer (some ⟨G, 0, none⟩), .agg #[.string nm, .slice A1 n1 c1, .slice A l.length c], .func (.func 79) #[] #[.pointer (some ⟨w.heap.size + 1 + 1, 0, none⟩)], .int .i64 x.2, x.1.enc, undef, undef, undef, undef, undef, undef], defers := [] } ∧ W.heap[G]? = some (.cells x.1.cells 25 (0, 0)))
    (fun x a' _ X Y row h hg hr => by
      obtain ⟨G, hG, e, hb⟩ := h
      exact ⟨G, hG, e, cell_own hb hg hr⟩) ?assign ?body ?done ?stop
  case assign =>
    rintro l' pre x ar W K hI hpx rfl hW hK
    gi_wp2
    have hb : Below W.heap.size W (W.alloc (.cells x.1.cells 25)) := below_alloc (Below.refl _ _) _
    have hst := (accR_ownS w V.heap.size (fun pre : List (CC × Nat) => pre.map fun p => toldP (l.getD p.2 z25).f1)).below (s := pre) hI hb
    refine hK _ _ ((kf_below hb).koS hst) (hb.mono (by obtain ⟨_, _, _, _, h, _⟩ := hI; exact h.size)) (fun _ h => h.elim) ((accR_own w V.heap.size (by omega)).below hI hb) ⟨W.heap.size, by omega, by simp, heap_alloc_new W _⟩
  case body =>
    rintro l' pre x a' W ⟨v, cs, ⟨h1, h2⟩, h3, h4, h5, h6⟩ hpx hWs ⟨G, hG, rfl, hb⟩
    obtain ⟨hxi, hxe⟩ := oth_at (p := x) (hpx.subset (List.mem_append_right _ List.mem_cons_self))
    have hxl : x.2 < l.length := by omega
    have hok := HOK.out x.2 hxi hxl
    rw [hxe] at hok
    obtain ⟨hk1, hk2, hk3, hk4, hk5, hk6, _⟩ := hok
    rw [hk2] at hk3
    have hgd : l.getD x.2 z25 = l[x.2] := by simp [hxl]
    have HG := Aside0.mk hgd
    have hpl : pre.length ≤ l.length := by
      have q1 := hpx.length_le
      have q2 := congrArg List.length HMAP.out
      have q3 : (othI 0 l).length ≤ l.length := oth_len 0 l
      rw [List.length_map] at q2
      rw [List.length_append, List.length_singleton] at q1
      omega
    obtain ⟨hts, hls⟩ := And.intro (HLT.out l[x.2] (List.getElem_mem hxl)) (HLIM.out l[x.2] (List.getElem_mem hxl))
    have HVp := Aside0.mk (show Kd.V k45 45 W.drew W.heap.size (fun k_ => k_ < w.heap.size) (.slice x.1.a1 l[x.2].f1.length x.1.c1) l[x.2].f1 from Kd.V_drew (Kd.V_mk hk3 (Foot.step (Kd.C_F k45_heap hk4) (fun k hk _ => h4.block k hk))))
    have HTC := Aside0.mk (told_walk x.1.s (fun k_ => k_ < w.heap.size) x.1.a1 x.1.c1 l[x.2].f1 x.1.a2 l[x.2].f2.length x.1.c2 W.drew HVp.out hls hts)
    have H1 := Aside0.mk h1
    have H2 := Aside0.mk h2
    have H3 := Aside0.mk h3
    have H4 := Aside0.mk h4
    have H5 := Aside0.mk h5
    have H6 := Aside0.mk h6
    have cS : W.drew.cell? ⟨w.heap.size + 1, 0, none⟩ = some v := (blk_cell h1 0).trans rfl
    have g0 : W.drew.cell? ⟨G, 0, none⟩ = some (.string x.1.s) := (blk_cell hb 0).trans rfl
    have g1 : W.drew.cell? ⟨G, 1, none⟩ = some (.slice x.1.a1 x.1.n1 x.1.c1) := (blk_cell hb 1).trans rfl
    have g2 : W.drew.cell? ⟨G, 2, none⟩ = some (.slice x.1.a2 x.1.n2 x.1.c2) := (blk_cell hb 2).trans rfl
    rw [hk2] at g1
    rw [hk5] at g2
    rw [List.length_map] at h5
    have hcl : cs.length ≤ 1000000000 := by omega
    clear h5
    obtain ⟨m, hm⟩ : ∃ m, toldP l[x.2].f1 = m := ⟨_, rfl⟩
    have HM := Aside0.mk (show toldP (l.getD x.2 z25).f1 = m by rw [hgd]; exact hm)
    rw [hm] at HTC
    clear h1 h2 h3 h4 hk1 hk2 hk3 hk4 hk5 hk6 hxe h6 hb hgd hpx hm hts hls HG
    gi_wp2
    obtain ⟨i0, hi, hzz⟩ := Option.map_eq_some_iff.1 info22
    simp only [Prod.mk.injEq] at hzz
    obtain ⟨hz0, hz1, hz2⟩ := hzz
    refine wpIn_region_any (by kernel_rfl) ?_
    change wpAnyIn _ _ _ _ _ _ _ _ _ (World.drew _)
    refine wpAnyIn_ready (rs := [0, 1]) (by kernel_rfl) (by simp) (AllReadyIn.cons rfl (fun K hK => ?_) (AllReadyIn.cons rfl (fun K hK => ?_) AllReadyIn.nil))
    · go_simp
      refine hK _ _ ?_
      clear hK K
      refine wpAnyIn_ready (rs := [1]) (by kernel_rfl) (by simp) (AllReadyIn.cons rfl (fun K hK => ?_) AllReadyIn.nil)
      go_simp
      refine hK _ _ ?_
      clear hK K
      refine wpAnyIn_ready (rs := [2]) (by kernel_rfl) (by simp) (AllReadyIn.cons rfl (fun K hK => ?_) AllReadyIn.nil)
      go_simp
      (refine (CallsIn.inRound l' (callsIn_wide.2 HTC.out)).mono ?_; rintro e w5 ⟨v5, rfl, hn5, hb5⟩; obtain ⟨A5, c5, e5⟩ := Kd.N_slice hn5; subst e5; have HN5 := Aside0.mk hn5; have HB5 := Aside0.mk hb5; have cS5 : w5.cell? ⟨w.heap.size + 1, 0, none⟩ = some v := (blk_cell (blk_below (w := W.drew) H1.out hb5) 0).trans rfl; clear hn5 hb5)
      refine hK _ _ ?_
      clear hK K
      refine wpAnyIn_ready (rs := [3]) (by kernel_rfl) (by simp) (AllReadyIn.cons rfl (fun K hK => ?_) AllReadyIn.nil)
      go_simp
      refine hK _ _ ?_
      clear hK K
      refine wpAnyIn_ready (rs := [4]) (by kernel_rfl) (by simp) (AllReadyIn.cons rfl (fun K hK => ?_) AllReadyIn.nil)
      try rw [if_pos (by rfl)]
      refine oper_append_at _ _ _ 61 rfl (w.heap.size + 2) 22 i0 (.slice none 0 0) 1 24 Try.underlying61 hi hz0 hz1 hz2 rfl (by decide) v cs.length cs rfl ((own_drew_below H3.out HB5.out).alloc _) ⟨w5.heap.size, 0, none⟩ 1 1 [.slice A5 m.length c5] rfl rfl (cell_one_new _ _ _) (by simp [Value.oneCell']) (by unfold maxLen; omega) (by omega) (by have := HB5.out.size; have hdr : W.drew.heap.size = W.heap.size := rfl; rw [World.size_alloc]; omega) ?_
      intro v' w1 hown hgrow hat
      obtain ⟨g', cap', rfl⟩ := own_succ hown
      obtain ⟨HS1, hc1, hf1⟩ := accR_at (blk_below (w := W.drew) H1.out HB5.out) H2.out hgrow
      have HO := Aside0.mk hown
      have HGR := Aside0.mk hgrow
      have HAT := Aside0.mk hat
      clear hown hgrow hat
      refine hK _ _ ?_
      clear hK K
      refine wpAnyIn_ready (rs := [5]) (by kernel_rfl) (by simp) (AllReadyIn.cons rfl (fun K hK => ?_) AllReadyIn.nil)
      go_simp
      refine hK _ _ ?_
      clear hK K
      refine wpAnyIn_done (by kernel_rfl) ?_ _
      gi_wp2
      exact rows_end (B := V.heap.size) l x pre hpl HM.out HN5.out HB5.out H1.out H2.out H3.out H4.out H5.out H6.out HGR.out HO.out HAT.out (by omega)
    · go_simp
      refine hK _ _ ?_
      clear hK K
      refine wpAnyIn_ready (rs := [0, 2]) (by kernel_rfl) (by simp) (AllReadyIn.cons rfl (fun K hK => ?_) (AllReadyIn.cons rfl (fun K hK => ?_) AllReadyIn.nil))
      · go_simp
        refine hK _ _ ?_
        clear hK K
        refine wpAnyIn_ready (rs := [2]) (by kernel_rfl) (by simp) (AllReadyIn.cons rfl (fun K hK => ?_) AllReadyIn.nil)
        go_simp
        (refine (CallsIn.inRound l' (callsIn_wide.2 HTC.out)).mono ?_; rintro e w5 ⟨v5, rfl, hn5, hb5⟩; obtain ⟨A5, c5, e5⟩ := Kd.N_slice hn5; subst e5; have HN5 := Aside0.mk hn5; have HB5 := Aside0.mk hb5; have cS5 : w5.cell? ⟨w.heap.size + 1, 0, none⟩ = some v := (blk_cell (blk_below (w := W.drew) H1.out hb5) 0).trans rfl; clear hn5 hb5)
        refine hK _ _ ?_
        clear hK K
        refine wpAnyIn_ready (rs := [3]) (by kernel_rfl) (by simp) (AllReadyIn.cons rfl (fun K hK => ?_) AllReadyIn.nil)
        go_simp
        refine hK _ _ ?_
        clear hK K
        refine wpAnyIn_ready (rs := [4]) (by kernel_rfl) (by simp) (AllReadyIn.cons rfl (fun K hK => ?_) AllReadyIn.nil)
        try rw [if_pos (by rfl)]
        refine oper_append_at _ _ _ 61 rfl (w.heap.size + 2) 22 i0 (.slice none 0 0) 1 24 Try.underlying61 hi hz0 hz1 hz2 rfl (by decide) v cs.length cs rfl ((own_drew_below H3.out HB5.out).alloc _) ⟨w5.heap.size, 0, none⟩ 1 1 [.slice A5 m.length c5] rfl rfl (cell_one_new _ _ _) (by simp [Value.oneCell']) (by unfold maxLen; omega) (by omega) (by have := HB5.out.size; have hdr : W.drew.heap.size = W.heap.size := rfl; rw [World.size_alloc]; omega) ?_
        intro v' w1 hown hgrow hat
        obtain ⟨g', cap', rfl⟩ := own_succ hown
        obtain ⟨HS1, hc1, hf1⟩ := accR_at (blk_below (w := W.drew) H1.out HB5.out) H2.out hgrow
        have HO := Aside0.mk hown
        have HGR := Aside0.mk hgrow
        have HAT := Aside0.mk hat
        clear hown hgrow hat
        refine hK _ _ ?_
        clear hK K
        refine wpAnyIn_ready (rs := [5]) (by kernel_rfl) (by simp) (AllReadyIn.cons rfl (fun K hK => ?_) AllReadyIn.nil)
        go_simp
        refine hK _ _ ?_
        clear hK K
        refine wpAnyIn_done (by kernel_rfl) ?_ _
        gi_wp2
        exact rows_end (B := V.heap.size) l x pre hpl HM.out HN5.out HB5.out H1.out H2.out H3.out H4.out H5.out H6.out HGR.out HO.out HAT.out (by omega)
      · go_simp
        (refine (CallsIn.inRound l' (callsIn_wide.2 HTC.out)).mono ?_; rintro e w5 ⟨v5, rfl, hn5, hb5⟩; obtain ⟨A5, c5, e5⟩ := Kd.N_slice hn5; subst e5; have HN5 := Aside0.mk hn5; have HB5 := Aside0.mk hb5; have cS5 : w5.cell? ⟨w.heap.size + 1, 0, none⟩ = some v := (blk_cell (blk_below (w := W.drew) H1.out hb5) 0).trans rfl; clear hn5 hb5)
        refine hK _ _ ?_
        clear hK K
        refine wpAnyIn_ready (rs := [0, 3]) (by kernel_rfl) (by simp) (AllReadyIn.cons rfl (fun K hK => ?_) (AllReadyIn.cons rfl (fun K hK => ?_) AllReadyIn.nil))
        · go_simp
          refine hK _ _ ?_
          clear hK K
          refine wpAnyIn_ready (rs := [3]) (by kernel_rfl) (by simp) (AllReadyIn.cons rfl (fun K hK => ?_) AllReadyIn.nil)
          go_simp
          refine hK _ _ ?_
          clear hK K
          refine wpAnyIn_ready (rs := [4]) (by kernel_rfl) (by simp) (AllReadyIn.cons rfl (fun K hK => ?_) AllReadyIn.nil)
          try rw [if_pos (by rfl)]
          refine oper_append_at _ _ _ 61 rfl (w.heap.size + 2) 22 i0 (.slice none 0 0) 1 24 Try.underlying61 hi hz0 hz1 hz2 rfl (by decide) v cs.length cs rfl ((own_drew_below H3.out HB5.out).alloc _) ⟨w5.heap.size, 0, none⟩ 1 1 [.slice A5 m.length c5] rfl rfl (cell_one_new _ _ _) (by simp [Value.oneCell']) (by unfold maxLen; omega) (by omega) (by have := HB5.out.size; have hdr : W.drew.heap.size = W.heap.size := rfl; rw [World.size_alloc]; omega) ?_
          intro v' w1 hown hgrow hat
          obtain ⟨g', cap', rfl⟩ := own_succ hown
          obtain ⟨HS1, hc1, hf1⟩ := accR_at (blk_below (w := W.drew) H1.out HB5.out) H2.out hgrow
          have HO := Aside0.mk hown
          have HGR := Aside0.mk hgrow
          have HAT := Aside0.mk hat
          clear hown hgrow hat
          refine hK _ _ ?_
          clear hK K
          refine wpAnyIn_ready (rs := [5]) (by kernel_rfl) (by simp) (AllReadyIn.cons rfl (fun K hK => ?_) AllReadyIn.nil)
          go_simp
          refine hK _ _ ?_
          clear hK K
          refine wpAnyIn_done (by kernel_rfl) ?_ _
          gi_wp2
          exact rows_end (B := V.heap.size) l x pre hpl HM.out HN5.out HB5.out H1.out H2.out H3.out H4.out H5.out H6.out HGR.out HO.out HAT.out (by omega)
        · go_simp
          refine hK _ _ ?_
          clear hK K
          have cS6 : (w5.alloc (.cells #[.slice A5 m.length c5] 22)).cell? ⟨w.heap.size + 1, 0, none⟩ = some v := (blk_cell (blk_alloc (blk_below (w := W.drew) H1.out HB5.out) _) 0).trans rfl
          refine wpAnyIn_ready (rs := [0]) (by kernel_rfl) (by simp) (AllReadyIn.cons rfl (fun K hK => ?_) AllReadyIn.nil)
          go_simp
          refine hK _ _ ?_
          clear hK K
          refine wpAnyIn_ready (rs := [4]) (by kernel_rfl) (by simp) (AllReadyIn.cons rfl (fun K hK => ?_) AllReadyIn.nil)
          try rw [if_pos (by rfl)]
          refine oper_append_at _ _ _ 61 rfl (w.heap.size + 2) 22 i0 (.slice none 0 0) 1 24 Try.underlying61 hi hz0 hz1 hz2 rfl (by decide) v cs.length cs rfl ((own_drew_below H3.out HB5.out).alloc _) ⟨w5.heap.size, 0, none⟩ 1 1 [.slice A5 m.length c5] rfl rfl (cell_one_new _ _ _) (by simp [Value.oneCell']) (by unfold maxLen; omega) (by omega) (by have := HB5.out.size; have hdr : W.drew.heap.size = W.heap.size := rfl; rw [World.size_alloc]; omega) ?_
          intro v' w1 hown hgrow hat
          obtain ⟨g', cap', rfl⟩ := own_succ hown
          obtain ⟨HS1, hc1, hf1⟩ := accR_at (blk_below (w := W.drew) H1.out HB5.out) H2.out hgrow
          have HO := Aside0.mk hown
          have HGR := Aside0.mk hgrow
          have HAT := Aside0.mk hat
          clear hown hgrow hat
          refine hK _ _ ?_
          clear hK K
          refine wpAnyIn_ready (rs := [5]) (by kernel_rfl) (by simp) (AllReadyIn.cons rfl (fun K hK => ?_) AllReadyIn.nil)
          go_simp
          refine hK _ _ ?_
          clear hK K
          refine wpAnyIn_done (by kernel_rfl) ?_ _
          gi_wp2
          exact rows_end (B := V.heap.size) l x pre hpl HM.out HN5.out HB5.out H1.out H2.out H3.out H4.out H5.out H6.out HGR.out HO.out HAT.out (by omega)
  case done =>
    rintro D2 W hD2 hI hK
    have hrl : (rowsP l).length ≤ 9223372036854775807 := by
      have := oth_len 0 l
      unfold rowsP
      rw [List.length_map]
      omega
    have hRe : (othersF 0 L).map (fun p => toldP (l.getD p.2 z25).f1) = rowsP l := by
      unfold rowsP
      rw [← HMAP.out, List.map_map]
      rfl
    rw [hRe] at hI
    obtain ⟨A', c', e1, e2, e3⟩ := acc_rows (.deferred none) hI hrl hK (by omega)
    have E2 := Aside0.mk e2
    have E3 := Aside0.mk e3
    clear hI hRe e2 e3
    gi_wp2
    refine ⟨by simp, .inl ⟨_, _, rfl, run_takeDeferred hK, ?_⟩⟩
    refine ⟨_, results_tmp rfl _ _ _, A', c', rfl, E2.out, E3.out.trans (below_put _ (by omega))⟩
  case stop =>
    rintro D2 cd pre W hD2 hpre h hK
    exact h.elim
end Go.Proofs.Ytebmbfobmakheaa.PD
namespace Go.Proofs.Ytebmbfobmakheaa.PD
open Go.RowKit Go.Shelf Go.Proofs.YtebmbfobmakheaaW.PrintWords Go.Proofs.YtebmbfobmakheaaW.PrintLast Go.Proofs.YtebmbfobmakheaaW.PrintMore
attribute [local go_sem] isSome_setCell Oper.semAt_some wide_fn wide_depth
set_option linter.unusedVariables false
set_option linter.unusedSimpArgs false
set_option maxRecDepth 100000 in
set_option maxHeartbeats 4000000 in
theorem eqF22 (A0 : Option Addr) (c0 : Nat) (l : List (List S45)) (A1 : Option Addr) (c1 : Nat) (m : List (List S45)) (w : World) (hr0 : RowsC w A0 l.length l) (hr1 : RowsC w A1 m.length m) :
    Calls Try.prog 53 #[.slice A0 l.length c0, .slice A1 m.length c1, .func (.func 54) #[] #[]] w fun e w' => e = .returned (.bool (eqL (eqL sameP) l m)) ∧ Below w.heap.size w w' := by
  have HR0 := Aside0.mk hr0
  have HR1 := Aside0.mk hr1
  have hml : l.length ≤ 9223372036854775807 := hr0.1
  have hmm : m.length ≤ 9223372036854775807 := hr1.1
  have HB := Aside0.mk (Below.refl w.heap.size w)
  clear hr0 hr1
  refine (callsIn_wide (n := 51)).1 ?_
  refine callsIn_of_wp Try.func53 rfl trivial ?_ rfl
  simp only [Try.ntmps53, List.size_toArray, List.length_cons, List.length_nil, Nat.reduceAdd, Nat.reduceSub, Array.replicate_succ, Array.replicate_zero, List.push_toArray, List.append_toArray, List.nil_append, List.cons_append]
  by_cases hlen : l.length = m.length
  · have e1 : ((l.length : Int) == (m.length : Int)) = true := beq_iff_eq.2 (by omega)
    have e2 : ((l.length : Int) != (m.length : Int)) = false := by simp [hlen]
    have e3 : ((l.length : Int) = (m.length : Int)) = True := eq_true (by omega)
    have HL := Aside0.mk hlen
    have hl1 : ∀ j, j < l.length → j < m.length := fun j h => by omega
    have HL1 := Aside0.mk hl1
    clear hlen hl1
    gi_wp2
    gi_loopw [17] (fun v wr => ∃ k : Nat, v = .int .i64 k ∧ k ≤ l.length ∧ Aside0 (∀ j, (hj : j < l.length) → j < k → eqL sameP l[j] (m[j]'(HL1.out j hj)) = true) ∧ Aside0 (Below w.heap.size w wr)) (fun v _ => l.length - (intOf v).toNat)
    case atStart => exact ⟨0, rfl, Nat.zero_le _, ⟨fun j _ hj => absurd hj (Nat.not_lt_zero _)⟩, HB⟩
    case round =>
      obtain ⟨k, rfl, hk, hyes, hb⟩ := hrel
      by_cases hlt : k < l.length
      · have hlt0 : decide ((k : Int) < (l.length : Int)) = true := decide_eq_true (by omega)
        have hltm : k < m.length := HL1.out k hlt
        have q1 : ((k : Int) < (m.length : Int)) = True := eq_true (by omega)
        obtain ⟨ad, A2, c2, e, hx0, h3x⟩ := HR0.out.2 k hlt
        obtain ⟨ad', A3, c3, e', hy0, h3y⟩ := HR1.out.2 k hltm
        subst e
        subst e'
        replace hx0 := (hb.out.cell (World.block_lt_of_cell? w _ hx0)).trans hx0
        replace hy0 := (hb.out.cell (World.block_lt_of_cell? w _ hy0)).trans hy0
        obtain ⟨x, hx⟩ : ∃ x, l[k] = x := ⟨_, rfl⟩
        obtain ⟨y, hy⟩ : ∃ y, m[k] = y := ⟨_, rfl⟩
        rw [hx] at hx0 h3x
        rw [hy] at hy0 h3y
        have HX := Aside0.mk hx
        have HY := Aside0.mk hy
        have HC := Aside0.mk (sig2_walk A2 c2 x A3 c3 y wr (Kd.C_below h3x hb.out) (Kd.C_below h3y hb.out))
        clear hx hy h3x h3y
        gi_wp2
        gi_at_call 54
        refine (callsIn_wide.2 HC.out).mono ?_
        rintro e W' ⟨rfl, hb'⟩
        have HB' := Aside0.mk (hb.out.trans (hb'.mono hb.out.size))
        clear hb'
        cases hpk : eqL sameP x y with
        | true =>
          have HPK := Aside0.mk hpk
          clear hpk
          gi_wp2
          go_roundw
          case rel =>
            refine ⟨k + 1, by simp, hlt, ⟨fun j hj hjk => ?_⟩, HB'⟩
            rcases Nat.lt_or_ge j k with h | h
            · exact hyes.out j hj h
            · obtain rfl : j = k := by omega
              rw [HX.out, HY.out]
              exact HPK.out
          case measure =>
            show l.length - ((k : Int) + 1).toNat < l.length - (k : Int).toNat
            omega
        | false =>
          have HPK := Aside0.mk hpk
          clear hpk
          gi_wp2
          go_ret
          refine ⟨?_, HB'.out⟩
          rw [eqL_false (eqL sameP) l m HL.out k hlt (by rw [HX.out, HY.out]; exact HPK.out)]
          rfl
      · have hlt0 : decide ((k : Int) < (l.length : Int)) = false := decide_eq_false (by omega)
        gi_wp2
        go_ret
        refine ⟨?_, hb.out⟩
        rw [eqL_true (eqL sameP) l m HL.out (fun j hj => hyes.out j hj (by omega))]
        rfl
  · have e1 : ((l.length : Int) == (m.length : Int)) = false := beq_eq_false_iff_ne.2 (by omega)
    have e2 : ((l.length : Int) != (m.length : Int)) = true := bne_iff_ne.2 (by omega)
    have e3 : ((l.length : Int) = (m.length : Int)) = False := eq_false (by omega)
    gi_wp2
    go_ret
    refine ⟨?_, HB.out⟩
    rw [show eqL (eqL sameP) l m = false by unfold eqL; rw [decide_eq_false hlen]; rfl]
    rfl
def significantP (l m : List S25) : Bool := !(eqL (eqL sameP) (rowsP l) (rowsP m))
def okT (l : List S25) : Bool := (l.all fun x => decide (x.f1.length < 2513169434917) && decide ((toldP x.f1).length < 2513169434916)) && decide (l.length ≤ 1000000000)
theorem okT_iff {l : List S25} (h : okT l = true) : (∀ x ∈ l, x.f1.length < 2513169434917) ∧ (∀ x ∈ l, (toldP x.f1).length < 2513169434916) ∧ l.length ≤ 1000000000 := by
  unfold okT at h
  simp only [Bool.and_eq_true, decide_eq_true_eq, List.all_eq_true] at h
  exact ⟨fun x hx => (h.1 x hx).1, fun x hx => (h.1 x hx).2, h.2⟩
set_option maxRecDepth 100000 in
set_option maxHeartbeats 8000000 in
theorem significant_walk (n0 : ByteArray) (A0 : Option Addr) (m0 c0 : Nat) (A : Option Addr) (c : Nat) (l : List S25) (n1 : ByteArray) (A1 : Option Addr) (m1 c1 : Nat) (B : Option Addr) (d : Nat) (m : List S25) (w : World) (hl : Kd.C k25 w A l.length l) (hm : Kd.C k25 w B m.length m) (okl : okT l = true) (okm : okT m = true) :
    Calls Try.prog 17 #[.agg #[.string n0, .slice A0 m0 c0, .slice A l.length c], .agg #[.string n1, .slice A1 m1 c1, .slice B m.length d]] w fun e w' => e = .returned (.bool (significantP l m)) ∧ Below w.heap.size w w' := by
  obtain ⟨W0, hW0⟩ : ∃ W0, (w.alloc (.cells #[.string n0, .slice A0 m0 c0, .slice A l.length c] 25)).alloc (.cells #[.string n1, .slice A1 m1 c1, .slice B m.length d] 25) = W0 := ⟨_, rfl⟩
  have hb0 : Below w.heap.size w W0 := by rw [← hW0]; exact below_alloc (below_alloc (Below.refl _ _) _) _
  have k0 : W0.heap[w.heap.size]? = some (.cells #[.string n0, .slice A0 m0 c0, .slice A l.length c] 25 (0, 0)) := by rw [← hW0]; exact blk_alloc (heap_alloc_new w _) _
  have k1 : W0.heap[w.heap.size + 1]? = some (.cells #[.string n1, .slice A1 m1 c1, .slice B m.length d] 25 (0, 0)) := by
    have := heap_alloc_new (w.alloc (.cells #[.string n0, .slice A0 m0 c0, .slice A l.length c] 25)) (.cells #[.string n1, .slice A1 m1 c1, .slice B m.length d] 25)
    rw [World.size_alloc, hW0] at this
    exact this
  obtain ⟨a1, a2, a3⟩ := okT_iff okl
  obtain ⟨b1, b2, b3⟩ := okT_iff okm
  have HA := Aside0.mk (fun (W : World) (h : Below w.heap.size w W) => rows_walk n0 A0 m0 c0 A c l W (Kd.C_below hl h) a1 a2 a3)
  have HC := Aside0.mk (fun (W : World) (h : Below w.heap.size w W) => rows_walk n1 A1 m1 c1 B d m W (Kd.C_below hm h) b1 b2 b3)
  have HB0 := Aside0.mk hb0
  have K0 := Aside0.mk k0
  have K1 := Aside0.mk k1
  have x0 : W0.drew.cell? ⟨w.heap.size, 0, none⟩ = some (.string n0) := (blk_cell (w := W0) k0 0).trans rfl
  have x1 : W0.drew.cell? ⟨w.heap.size, 1, none⟩ = some (.slice A0 m0 c0) := (blk_cell (w := W0) k0 1).trans rfl
  have x2 : W0.drew.cell? ⟨w.heap.size, 2, none⟩ = some (.slice A l.length c) := (blk_cell (w := W0) k0 2).trans rfl
  have y0 : W0.drew.cell? ⟨w.heap.size + 1, 0, none⟩ = some (.string n1) := (blk_cell (w := W0) k1 0).trans rfl
  have y1 : W0.drew.cell? ⟨w.heap.size + 1, 1, none⟩ = some (.slice A1 m1 c1) := (blk_cell (w := W0) k1 1).trans rfl
  have y2 : W0.drew.cell? ⟨w.heap.size + 1, 2, none⟩ = some (.slice B m.length d) := (blk_cell (w := W0) k1 2).trans rfl
  have hbd : Below w.heap.size w W0.drew := below_drew hb0
  have HBD := Aside0.mk hbd
  unfold significantP
  obtain ⟨rl, hrl⟩ : ∃ rl, rowsP l = rl := ⟨_, rfl⟩
  obtain ⟨rm, hrm⟩ : ∃ rm, rowsP m = rm := ⟨_, rfl⟩
  rw [hrl] at HA ⊢
  rw [hrm] at HC ⊢
  clear hl hm okl okm a1 a2 a3 b1 b2 b3 hb0 k0 k1 hbd hrl hrm
  go_enter Try.func17, Try.ntmps17
  go_wp2
  try rw [hW0]
  clear hW0
  go_region_with (first | (go_at_call 51; refine (HA.out _ HBD.out).mono ?_; rintro e w5 ⟨A5, c5, rfl, hr5, hb5⟩; clear HA; have HR5 := Aside0.mk hr5; have HB5 := Aside0.mk (HBD.out.trans (hb5.mono HBD.out.size)); have z0 : w5.cell? ⟨w.heap.size + 1, 0, none⟩ = some (.string n1) := (blk_cell (blk_below (w := W0.drew) K1.out hb5) 0).trans rfl; have z1 : w5.cell? ⟨w.heap.size + 1, 1, none⟩ = some (.slice A1 m1 c1) := (blk_cell (blk_below (w := W0.drew) K1.out hb5) 1).trans rfl; have z2 : w5.cell? ⟨w.heap.size + 1, 2, none⟩ = some (.slice B m.length d) := (blk_cell (blk_below (w := W0.drew) K1.out hb5) 2).trans rfl; clear hr5 hb5) | (go_at_call 51; refine (HC.out _ HB5.out).mono ?_; rintro e w6 ⟨A6, c6, rfl, hr6, hb6⟩; clear HC; have HR6 := Aside0.mk hr6; have HR56 := Aside0.mk (HR5.out.below hb6); have HB6 := Aside0.mk (HB5.out.trans (hb6.mono HB5.out.size)); clear hr6 hb6) | (go_at_call 53; refine (eqF22 A5 c5 rl A6 c6 rm _ HR56.out HR6.out).mono ?_; rintro e w7 ⟨rfl, hb7⟩; have HB7 := Aside0.mk (HB6.out.trans (hb7.mono HB6.out.size)); clear hb7))
  all_goals go_wp2
  all_goals go_ret
  all_goals exact ⟨rfl, HB7.out⟩
def itip_Significant.f (a0_0 : ByteArray) (l0_1 : List (S45)) (l0_2 : List (S25)) (a1_0 : ByteArray) (l1_1 : List (S45)) (l1_2 : List (S25)) : Option (Bool) := if (okT l0_2 && okT l1_2) = true then some (significantP l0_2 l1_2) else none
theorem itip_Significant.calls (a0_0 : ByteArray) (A0_1 : Option Addr) (c0_1 : Nat) (l0_1 : List (S45)) (A0_2 : Option Addr) (c0_2 : Nat) (l0_2 : List (S25)) (a1_0 : ByteArray) (A1_1 : Option Addr) (c1_1 : Nat) (l1_1 : List (S45)) (A1_2 : Option Addr) (c1_2 : Nat) (l1_2 : List (S25)) (r : Bool) (w : World) (hr0_1 : Kd.C k45 w A0_1 l0_1.length l0_1) (hc0_1 : l0_1.length ≤ c0_1) (hr0_2 : Kd.C k25 w A0_2 l0_2.length l0_2) (hc0_2 : l0_2.length ≤ c0_2) (hr1_1 : Kd.C k45 w A1_1 l1_1.length l1_1) (hc1_1 : l1_1.length ≤ c1_1) (hr1_2 : Kd.C k25 w A1_2 l1_2.length l1_2) (hc1_2 : l1_2.length ≤ c1_2) (h : itip_Significant.f a0_0 l0_1 l0_2 a1_0 l1_1 l1_2 = some r) :
    Calls Try.prog 17 #[.agg #[.string a0_0, .slice A0_1 l0_1.length c0_1, .slice A0_2 l0_2.length c0_2], .agg #[.string a1_0, .slice A1_1 l1_1.length c1_1, .slice A1_2 l1_2.length c1_2]] w fun e w' => e = .returned (.bool r) ∧ Below w.heap.size w w' := by
  unfold itip_Significant.f at h
  split at h
  case isFalse => cases h
  rename_i hc
  simp only [Bool.and_eq_true] at hc
  obtain rfl := Option.some.inj h
  exact significant_walk a0_0 A0_1 _ c0_1 A0_2 c0_2 l0_2 a1_0 A1_1 _ c1_1 A1_2 c1_2 l1_2 w hr0_2 hr1_2 hc.1 hc.2
end Go.Proofs.Ytebmbfobmakheaa.PD
namespace Go.Proofs.Ytebmbfobmakheaa.PD
open Go.RowKit Go.Proofs.YtebmbfobmakheaaW.PrintWords Go.Proofs.YtebmbfobmakheaaW.PrintLast Go.Proofs.YtebmbfobmakheaaW.PrintMore
attribute [local go_sem] isSome_setCell max2_int min2_int max_two min_two max_three min_three max_four min_four
set_option linter.unusedVariables false
set_option linter.unusedSimpArgs false
mutual
def almanacref11_Same.j0 : Nat → Bool → ByteArray → List (S77) → ByteArray → ByteArray → List (S77) → ByteArray → Option (Bool)
  | 0, _, _, _, _, _, _, _ => none
  | k + 1, x26, x242000, x242001, x242002, x243000, x243001, x243002 => if x26 = true then (some false) else (almanacref11_Same.l0 k 0 x242000 x242001 x242002 x243000 x243001 x243002)
def almanacref11_Same.l0 : Nat → Int → ByteArray → List (S77) → ByteArray → ByteArray → List (S77) → ByteArray → Option (Bool)
  | 0, _, _, _, _, _, _, _ => none
  | k + 1, x5, x242000, x242001, x242002, x243000, x243001, x243002 => if x5 < (x242001.length : Int) then (if 0 ≤ x5 then (if x5 < (x243001.length : Int) then (if ((rd_T77 x242001 x5).f0).toList = ((rd_T77 x243001 x5).f0).toList then ((almanacref08_Texts.f k ((rd_T77 x242001 x5).f1) ((rd_T77 x243001 x5).f1)).bind fun t247 => (if t247 = true then (almanacref11_Same.l0 k (wrap64 (x5 + 1)) x242000 x242001 x242002 x243000 x243001 x243002) else (some false))) else (some false)) else (none)) else (none)) else (some true)
end
def almanacref11_Same.f (k : Nat) (a0_0 : ByteArray) (l0_1 : List (S77)) (a0_2 : ByteArray) (a1_0 : ByteArray) (l1_1 : List (S77)) (a1_2 : ByteArray) : Option (Bool) := if a0_0.toList = a1_0.toList then (if a0_2.toList = a1_2.toList then (almanacref11_Same.j0 k ((l0_1.length : Int) != (l1_1.length : Int)) a0_0 l0_1 a0_2 a1_0 l1_1 a1_2) else (almanacref11_Same.j0 k true a0_0 l0_1 a0_2 a1_0 l1_1 a1_2)) else (almanacref11_Same.j0 k true a0_0 l0_1 a0_2 a1_0 l1_1 a1_2)
end Go.Proofs.Ytebmbfobmakheaa.PD
namespace Go.Proofs.Ytebmbfobmakheaa.PD
open Go.RowKit Go.Proofs.YtebmbfobmakheaaW.PrintWords Go.Proofs.YtebmbfobmakheaaW.PrintLast Go.Proofs.YtebmbfobmakheaaW.PrintMore
attribute [local go_sem] isSome_setCell max2_int min2_int max_two min_two max_three min_three max_four min_four
set_option linter.unusedVariables false
set_option linter.unusedSimpArgs false
def almanacref12_Rows.l0 : Nat → List (S45) → List (S45) → Int → Option (Bool)
  | 0, _, _, _ => none
  | k + 1, x0, x1, x5 => if x5 < (x0.length : Int) then (if 0 ≤ x5 then (if x5 < (x1.length : Int) then ((almanacref11_Same.f k ((rd_T45 x0 x5).f0) ((rd_T45 x0 x5).f1) ((rd_T45 x0 x5).f2) ((rd_T45 x1 x5).f0) ((rd_T45 x1 x5).f1) ((rd_T45 x1 x5).f2)).bind fun t250 => (if t250 = true then (almanacref12_Rows.l0 k x0 x1 (wrap64 (x5 + 1))) else (some false))) else (none)) else (none)) else (some true)
def almanacref12_Rows.f (k : Nat) (l0 : List (S45)) (l1 : List (S45)) : Option (Bool) := if (l0.length : Int) = (l1.length : Int) then (almanacref12_Rows.l0 k l0 l1 0) else (some false)
end Go.Proofs.Ytebmbfobmakheaa.PD
namespace Go.Proofs.Ytebmbfobmakheaa.PD
open Go.RowKit Go.Proofs.YtebmbfobmakheaaW.PrintWords Go.Proofs.YtebmbfobmakheaaW.PrintLast Go.Proofs.YtebmbfobmakheaaW.PrintMore
set_option linter.unusedVariables false
set_option linter.unusedSimpArgs false
theorem ev_eq {α : Type} (p : α → α → Bool) (l m : List α) (hlen : l.length = m.length) (g : Nat → Int → Option Bool) (hend : ∀ k, g (k + 1) (l.length : Int) = some true)
    (hstep : ∀ (i : Nat) (h : i < l.length) (h' : i < m.length) (r : Bool), (p l[i] m[i] = true → Ev (fun k => g k ((i + 1 : Nat) : Int)) r) → (p l[i] m[i] = false → r = false) → Ev (fun k => g k (i : Int)) r) : Ev (fun k => g k 0) (eqL p l m) := by
  have key : ∀ d i : Nat, l.length - i = d → i ≤ l.length → Ev (fun k => g k (i : Int)) (((l.drop i).zip (m.drop i)).all fun q => p q.1 q.2) := by
    intro d
    induction d with
    | zero =>
      intro i hd hi
      have : i = l.length := by omega
      subst this
      refine ⟨1, fun k hk => ?_⟩
      obtain ⟨k, rfl⟩ : ∃ m, k = m + 1 := ⟨k - 1, by omega⟩
      show g (k + 1) _ = _
      rw [hend, List.drop_length]
      rfl
    | succ d ih =>
      intro i hd hi
      have hlt : i < l.length := by omega
      have hlt' : i < m.length := by omega
      rw [List.drop_eq_getElem_cons hlt, List.drop_eq_getElem_cons hlt', List.zip_cons_cons, List.all_cons]
      refine hstep i hlt hlt' _ (fun hp => ?_) (fun hp => by simp [hp])
      simp only [hp, Bool.true_and]
      exact ih (i + 1) (by omega) (by omega)
  have h0 := key l.length 0 (by omega) (by omega)
  unfold eqL
  rw [decide_eq_true hlen, Bool.true_and]
  exact h0
theorem eqL_len {α : Type} (p : α → α → Bool) {l m : List α} (h : l.length ≠ m.length) : eqL p l m = false := by unfold eqL; rw [decide_eq_false h, Bool.false_and]
theorem rtexts (l m : List ByteArray) (hl : l.length ≤ 9223372036854775807) : Ev (fun k => almanacref08_Texts.f k l m) (eqL sameB l m) := by
  unfold almanacref08_Texts.f
  by_cases hlen : l.length = m.length
  · refine Ev.congr (fun k => if_pos (by omega)) ?_
    refine ev_eq sameB l m hlen (fun k i => almanacref08_Texts.l0 k l m i) (fun k => ?_) (fun i h h' r h1 h2 => ?_)
    · simp only [almanacref08_Texts.l0]
      rw [if_neg (by omega)]
    · refine Ev.step (f := fun k => if l[i].toList = m[i].toList then almanacref08_Texts.l0 k l m ((i + 1 : Nat) : Int) else some false) (fun k => ?_) ?_
      · simp only [almanacref08_Texts.l0]
        rw [if_pos (by omega), if_pos (by omega), if_pos (by omega), wrap_next h (by omega), rdB_at l i h, rdB_at m i h']
      · by_cases he : l[i].toList = m[i].toList
        · exact Ev.congr (fun k => if_pos he) (h1 (by unfold sameB; exact beq_iff_eq.2 he))
        · rw [h2 (by unfold sameB; simpa using he)]
          exact ⟨0, fun k _ => if_neg he⟩
  · rw [eqL_len sameB hlen]
    exact ⟨0, fun k _ => if_neg (by omega)⟩
def LimP (p : S45) : Prop := p.f1.length ≤ 9223372036854775807 ∧ ∀ q ∈ p.f1, q.f1.length ≤ 9223372036854775807
theorem rsame11 (x y : S45) (hx : LimP x) : Ev (fun k => almanacref11_Same.f k x.f0 x.f1 x.f2 y.f0 y.f1 y.f2) (sameP x y) := by
  have hxl := hx.1
  unfold almanacref11_Same.f sameP sameB
  have hj : ∀ b : Bool, Ev (fun k => almanacref11_Same.l0 k 0 x.f0 x.f1 x.f2 y.f0 y.f1 y.f2) (eqL sameV x.f1 y.f1) ∨ b = true → Ev (fun k => almanacref11_Same.j0 k b x.f0 x.f1 x.f2 y.f0 y.f1 y.f2) (if b = true then false else eqL sameV x.f1 y.f1) := by
    intro b hb
    cases b with
    | true =>
      refine ⟨1, fun k hk => ?_⟩
      obtain ⟨k, rfl⟩ : ∃ m, k = m + 1 := ⟨k - 1, by omega⟩
      simp only [almanacref11_Same.j0]
      rfl
    | false =>
      rw [if_neg (by simp)]
      refine Ev.step (f := fun k => almanacref11_Same.l0 k 0 x.f0 x.f1 x.f2 y.f0 y.f1 y.f2) (fun k => ?_) (hb.resolve_right (by simp))
      simp only [almanacref11_Same.j0]
      rw [if_neg (by simp)]
  by_cases h1 : x.f0.toList = y.f0.toList
  · refine Ev.congr (fun k => if_pos h1) ?_
    rw [beq_iff_eq.2 h1, Bool.true_and]
    by_cases h2 : x.f2.toList = y.f2.toList
    · refine Ev.congr (fun k => if_pos h2) ?_
      rw [beq_iff_eq.2 h2, Bool.true_and]
      by_cases hlen : x.f1.length = y.f1.length
      · have e : ((x.f1.length : Int) != (y.f1.length : Int)) = false := bne_eq_false_iff_eq.2 (by omega)
        rw [e]
        have := hj false (.inl ?_)
        · exact this
        · refine ev_eq sameV x.f1 y.f1 hlen (fun k i => almanacref11_Same.l0 k i x.f0 x.f1 x.f2 y.f0 y.f1 y.f2) (fun k => ?_) (fun i h h' r g1 g2 => ?_)
          · simp only [almanacref11_Same.l0]
            rw [if_neg (by omega)]
          · refine Ev.step (f := fun k => if x.f1[i].f0.toList = y.f1[i].f0.toList then ((almanacref08_Texts.f k x.f1[i].f1 y.f1[i].f1).bind fun t247 => (if t247 = true then (almanacref11_Same.l0 k ((i + 1 : Nat) : Int) x.f0 x.f1 x.f2 y.f0 y.f1 y.f2) else (some false))) else some false) (fun k => ?_) ?_
            · simp only [almanacref11_Same.l0]
              rw [if_pos (by omega), if_pos (by omega), if_pos (by omega), wrap_next h (by omega), rd77_at x.f1 i h, rd77_at y.f1 i h']
            · by_cases he : x.f1[i].f0.toList = y.f1[i].f0.toList
              · refine Ev.congr (fun k => if_pos he) ?_
                refine Ev.bind (rtexts x.f1[i].f1 y.f1[i].f1 (hx.2 _ (List.getElem_mem h))) ?_
                have hv : sameV x.f1[i] y.f1[i] = eqL sameB x.f1[i].f1 y.f1[i].f1 := by unfold sameV sameB; rw [beq_iff_eq.2 he, Bool.true_and]
                cases hb : eqL sameB x.f1[i].f1 y.f1[i].f1 with
                | true =>
                  refine Ev.congr (fun k => ?_) (g1 (by rw [hv, hb]))
                  rw [if_pos rfl]
                | false =>
                  rw [g2 (by rw [hv, hb])]
                  exact ⟨0, fun k _ => rfl⟩
              · rw [g2 (by unfold sameV sameB; rw [beq_eq_false_iff_ne.2 he, Bool.false_and])]
                exact ⟨0, fun k _ => if_neg he⟩
      · have e : ((x.f1.length : Int) != (y.f1.length : Int)) = true := bne_iff_ne.2 (by omega)
        rw [e, eqL_len sameV hlen]
        exact hj true (.inr rfl)
    · rw [beq_eq_false_iff_ne.2 h2, Bool.false_and]
      exact Ev.congr (fun k => if_neg h2) (hj true (.inr rfl))
  · rw [beq_eq_false_iff_ne.2 h1, Bool.false_and, Bool.false_and]
    exact Ev.congr (fun k => if_neg h1) (hj true (.inr rfl))
theorem rrows (l m : List S45) (hl : l.length ≤ 9223372036854775807) (hp : ∀ x ∈ l, LimP x) : Ev (fun k => almanacref12_Rows.f k l m) (eqL sameP l m) := by
  unfold almanacref12_Rows.f
  by_cases hlen : l.length = m.length
  · refine Ev.congr (fun k => if_pos (by omega)) ?_
    refine ev_eq sameP l m hlen (fun k i => almanacref12_Rows.l0 k l m i) (fun k => ?_) (fun i h h' r h1 h2 => ?_)
    · simp only [almanacref12_Rows.l0]
      rw [if_neg (by omega)]
    · refine Ev.step (f := fun k => (almanacref11_Same.f k l[i].f0 l[i].f1 l[i].f2 m[i].f0 m[i].f1 m[i].f2).bind fun t250 => (if t250 = true then (almanacref12_Rows.l0 k l m ((i + 1 : Nat) : Int)) else (some false))) (fun k => ?_) ?_
      · simp only [almanacref12_Rows.l0]
        rw [if_pos (by omega), if_pos (by omega), if_pos (by omega), wrap_next h (by omega), rd45_at l i h, rd45_at m i h']
      · refine Ev.bind (rsame11 l[i] m[i] (hp _ (List.getElem_mem h))) ?_
        cases hb : sameP l[i] m[i] with
        | true =>
          refine Ev.congr (fun k => ?_) (h1 hb)
          rw [if_pos rfl]
        | false =>
          rw [h2 hb]
          exact ⟨0, fun k _ => rfl⟩
  · rw [eqL_len sameP hlen]
    exact ⟨0, fun k _ => if_neg (by omega)⟩
theorem rowsP_oth (l : List S25) : rowsP l = (oth l).map fun x => toldP x.f1 := by
  unfold rowsP
  rw [← oth_map0, List.map_map]
  rfl
theorem toldP_len (l : List S45) : (toldP l).length ≤ 8 * l.length := by
  have : ∀ ns : List ByteArray, (ns.flatMap (byN l)).length ≤ ns.length * l.length := by
    intro ns
    induction ns with
    | nil => simp
    | cons n r ih =>
      rw [List.flatMap_cons, List.length_append, List.length_cons, Nat.succ_mul]
      have h1 : (byN l n).length ≤ l.length := List.length_filter_le _ _
      omega
  exact this toldN
end Go.Proofs.Ytebmbfobmakheaa.PD
namespace Go.Proofs.Ytebmbfobmakheaa.PD
open Go.RowKit Go.Proofs.YtebmbfobmakheaaW.PrintWords Go.Proofs.YtebmbfobmakheaaW.PrintLast Go.Proofs.YtebmbfobmakheaaW.PrintMore
attribute [local go_sem] isSome_setCell max2_int min2_int max_two min_two max_three min_three max_four min_four
set_option linter.unusedVariables false
set_option linter.unusedSimpArgs false
mutual
def almanacref12_Small.l0 : Nat → Int → Int → ByteArray → List (S45) → List (S25) → Option (Int)
  | 0, _, _, _, _, _ => none
  | k + 1, x1, x5, x102000, x102001, x102002 => if x5 < (x102001.length : Int) then (almanacref12_Small.j1 k x1 x5 (decide (x1 ≥ 0)) x102000 x102001 x102002) else (almanacref12_Small.j1 k x1 x5 false x102000 x102001 x102002)
def almanacref12_Small.j1 : Nat → Int → Int → Bool → ByteArray → List (S45) → List (S25) → Option (Int)
  | 0, _, _, _, _, _, _ => none
  | k + 1, x1, x5, x18, x102000, x102001, x102002 => if x18 = true then (if 0 ≤ x5 then (if x5 < (x102001.length : Int) then (almanacref12_Small.l1 k (wrap64 ((wrap64 (x1 - 1)) - (((rd_T45 x102001 x5).f1).length : Int))) x5 0 x102000 x102001 x102002) else (none)) else (none)) else (almanacref12_Small.l2 k x1 0 x102000 x102001 x102002)
def almanacref12_Small.l1 : Nat → Int → Int → Int → ByteArray → List (S45) → List (S25) → Option (Int)
  | 0, _, _, _, _, _, _ => none
  | k + 1, x1, x5, x6, x102000, x102001, x102002 => if 0 ≤ x5 then (if x5 < (x102001.length : Int) then (if x6 < (((rd_T45 x102001 x5).f1).length : Int) then (if x1 ≥ 0 then (if 0 ≤ x6 then (almanacref12_Small.l1 k (wrap64 (x1 - (((rd_T77 ((rd_T45 x102001 x5).f1) x6).f1).length : Int))) x5 (wrap64 (x6 + 1)) x102000 x102001 x102002) else (none)) else (almanacref12_Small.l0 k x1 (wrap64 (x5 + 1)) x102000 x102001 x102002)) else (almanacref12_Small.l0 k x1 (wrap64 (x5 + 1)) x102000 x102001 x102002)) else (none)) else (none)
def almanacref12_Small.l2 : Nat → Int → Int → ByteArray → List (S45) → List (S25) → Option (Int)
  | 0, _, _, _, _, _ => none
  | k + 1, x1, x7, x102000, x102001, x102002 => if x7 < (x102002.length : Int) then (if x1 ≥ 0 then (if 0 ≤ x7 then ((almanacref12_Small.f k ((rd_T25 x102002 x7).f0) ((rd_T25 x102002 x7).f1) ((rd_T25 x102002 x7).f2) x1).bind fun t107 => (almanacref12_Small.l2 k t107 (wrap64 (x7 + 1)) x102000 x102001 x102002)) else (none)) else (some x1)) else (some x1)
def almanacref12_Small.f : Nat → ByteArray → List (S45) → List (S25) → Int → Option (Int)
  | 0, _, _, _, _ => none
  | k + 1, a0_0, l0_1, l0_2, a1 => almanacref12_Small.l0 k (wrap64 (a1 - 1)) 0 a0_0 l0_1 l0_2
end
set_option maxHeartbeats 8000000 in
set_option maxRecDepth 100000 in
theorem almanacref12_Small.calls (k : Nat) : ∀ (a0_0 : ByteArray) (A0_1 : Option Addr) (c0_1 : Nat) (l0_1 : List (S45)) (A0_2 : Option Addr) (c0_2 : Nat) (l0_2 : List (S25)) (a1 : Int) (r : Int) (w : World) (hr0_1 : Kd.C k45 w A0_1 l0_1.length l0_1) (hc0_1 : l0_1.length ≤ c0_1) (hr0_2 : Kd.C k25 w A0_2 l0_2.length l0_2) (hc0_2 : l0_2.length ≤ c0_2) (h : almanacref12_Small.f k a0_0 l0_1 l0_2 a1 = some r),
    Calls Try.prog 33 #[.agg #[.string a0_0, .slice A0_1 l0_1.length c0_1, .slice A0_2 l0_2.length c0_2], .int .i64 a1] w fun e w' => e = .returned (.int .i64 r) ∧ Below w.heap.size w w' := by
  induction k using Nat.strongRecOn with
  | _ k ih =>
  intro a0_0 A0_1 c0_1 l0_1 A0_2 c0_2 l0_2 a1 r w hr0_1 hc0_1 hr0_2 hc0_2 h
  cases k with
  | zero => exact absurd h (by simp [almanacref12_Small.f])
  | succ k =>
  simp only [almanacref12_Small.f] at h
  have hu25 := Try.underlying25
  have HR0_1 := Aside0.mk hr0_1
  have HC0_1 := Aside0.mk hc0_1
  clear hr0_1 hc0_1
  have HR0_2 := Aside0.mk hr0_2
  have HC0_2 := Aside0.mk hc0_2
  clear hr0_2 hc0_2
  have HB := Aside0.mk (Below.refl w.heap.size w)
  have H : (almanacref12_Small.l0 k (wrap64 (a1 - 1)) 0 a0_0 l0_1 l0_2) = some r := h
  clear h
  have H' := Aside0.mk H
  clear H
  go_enter Try.func33, Try.ntmps33
  go_wp2_with (first | ((with_reducible refine gate_dst (N := 2) rfl ?_); refine box_event ?hg (N := 2) ?hd (cs := #[.string a0_0, .slice A0_1 l0_1.length c0_1, .slice A0_2 l0_2.length c0_2]) (t := 25) ?hr ?_; (case hd => rfl); (case hg => rfl); (case hr => first | (go_simp; done) | (go_simp; rfl)); intro gb101 hg w3 hbox hb; have n0_ := Aside0.mk (below_step (by repeat (first | (with_reducible first | exact HB.out | apply below_alloc | apply pw_below_drewN | apply below_drew1) | exact HB.out)) hb); have n1_ := Aside0.mk (hbox); have n2_ := Aside0.mk ((by rw [hg]; exact (below_size (by repeat (first | (with_reducible first | exact HB.out | apply below_alloc | apply pw_below_drewN | apply below_drew1) | exact HB.out))) : w.heap.size ≤ gb101)); have n3_ := Aside0.mk ((by rw [hg]; exact (below_size (by repeat (first | (with_reducible first | exact HB.out | apply below_alloc | apply pw_below_drewN | apply below_drew1) | exact HB.out))) : w.heap.size ≤ gb101)); clear HB; have HB := n0_; have BK101 := n1_; have GW101 := n2_; have GE101 := n3_; clear n0_ n1_ n2_ n3_; clear hb hbox hg))
  go_loopg [1, 5] k (fun kq v1 v5 w' => ∃ (x1_1 : Int) (x5_1 : Int), v1 = .int .i64 x1_1 ∧ v5 = .int .i64 x5_1 ∧ Aside0 (almanacref12_Small.l0 kq x1_1 x5_1 a0_0 l0_1 l0_2 = some r) ∧ Aside0 (kq ≤ k) ∧ Aside0 (w'.heap[gb101]? = some (.cells #[.string a0_0, (.slice A0_1 l0_1.length c0_1), (.slice A0_2 l0_2.length c0_2)] 25 (0, 0))) ∧ Aside0 (Below w.heap.size w w'))
  case atStart => exact ⟨(wrap64 (a1 - 1)), (0), (by first | rfl | (simp; done) | (simp [*]; done)), (by first | rfl | (simp; done) | (simp [*]; done)), H', ⟨Nat.le_refl _⟩, ⟨by (with_reducible repeat (first | refine blk_drewN ?_ _ | refine blk_drew ?_ | refine blk_alloc ?_ _)); exact BK101.out⟩, ⟨by repeat (first | (with_reducible first | exact HB.out | apply below_alloc | apply pw_below_drewN | apply below_drew1 | refine below_set ?_ GE101.out) | exact HB.out)⟩⟩
  case round =>
    clear H'
    try clear p2
    try clear c3
    obtain ⟨x1_1, x5_1, rfl, rfl, HA, HK1, BK101, HB⟩ := hrel
    cases gk with
    | zero => exact absurd HA.out (by simp [almanacref12_Small.l0])
    | succ k1 =>
      have H := HA.out
      clear HA
      simp only [almanacref12_Small.l0] at H
      have HC4 := Aside0.mk H
      clear H
      go_upto_region 3 with (fail)
      go_cut [18] (fun v18 wc => ∃ (kq : Nat) (x18_3 : Bool), v18 = .bool x18_3 ∧ Aside0 (almanacref12_Small.j1 kq x1_1 x5_1 x18_3 a0_0 l0_1 l0_2 = some r) ∧ Aside0 (kq ≤ k1) ∧ Aside0 (wc.heap[gb101]? = some (.cells #[.string a0_0, (.slice A0_1 l0_1.length c0_1), (.slice A0_2 l0_2.length c0_2)] 25 (0, 0))) ∧ Aside0 (Below w.heap.size w wc))
      case first =>
        have H := HC4.out
        clear HC4
        by_cases c5 : x5_1 < (l0_1.length : Int)
        · rw [if_pos c5] at H
          have c5b0 : decide (x5_1 < (l0_1.length : Int)) = true := decide_eq_true c5
          clear c5
          (first | rw [c5b0] | (simp only [i64_w, i32_w]; rw [c5b0]) | skip)
          have H' := Aside0.mk H
          clear H
          have hcz6_0 : wr.cell? ⟨gb101, 0, none⟩ = some (.string a0_0) := (blk_cell BK101.out 0).trans rfl
          have hcz6_1 : wr.cell? ⟨gb101, 1, none⟩ = some (.slice A0_1 l0_1.length c0_1) := (blk_cell BK101.out 1).trans rfl
          have hcz6_2 : wr.cell? ⟨gb101, 2, none⟩ = some (.slice A0_2 l0_2.length c0_2) := (blk_cell BK101.out 2).trans rfl
          have hfz6_0 := blk_frozen BK101.out 0
          have hfz6_1 := blk_frozen BK101.out 1
          have hfz6_2 := blk_frozen BK101.out 2
          go_wp2
          go_meet
          case rel => exact ⟨_, (decide (x1_1 ≥ 0)), (by first | rfl | (simp; done) | (simp [*]; done)), H', ⟨by have := HK1.out; first | omega | exact Nat.le_refl _⟩, ⟨by (with_reducible repeat (first | refine blk_drewN ?_ _ | refine blk_drew ?_ | refine blk_alloc ?_ _)); exact BK101.out⟩, ⟨by repeat (first | (with_reducible first | exact HB.out | apply below_alloc | apply pw_below_drewN | apply below_drew1 | refine below_set ?_ GE101.out) | exact HB.out)⟩⟩
        · rw [if_neg c5] at H
          have c5b0 : decide (x5_1 < (l0_1.length : Int)) = false := decide_eq_false c5
          clear c5
          (first | rw [c5b0] | (simp only [i64_w, i32_w]; rw [c5b0]) | skip)
          have H' := Aside0.mk H
          clear H
          have hcz7_0 : wr.cell? ⟨gb101, 0, none⟩ = some (.string a0_0) := (blk_cell BK101.out 0).trans rfl
          have hcz7_1 : wr.cell? ⟨gb101, 1, none⟩ = some (.slice A0_1 l0_1.length c0_1) := (blk_cell BK101.out 1).trans rfl
          have hcz7_2 : wr.cell? ⟨gb101, 2, none⟩ = some (.slice A0_2 l0_2.length c0_2) := (blk_cell BK101.out 2).trans rfl
          have hfz7_0 := blk_frozen BK101.out 0
          have hfz7_1 := blk_frozen BK101.out 1
          have hfz7_2 := blk_frozen BK101.out 2
          go_wp2
          go_meet
          case rel => exact ⟨_, (false), (by first | rfl | (simp; done) | (simp [*]; done)), H', ⟨by have := HK1.out; first | omega | exact Nat.le_refl _⟩, ⟨by (with_reducible repeat (first | refine blk_drewN ?_ _ | refine blk_drew ?_ | refine blk_alloc ?_ _)); exact BK101.out⟩, ⟨by repeat (first | (with_reducible first | exact HB.out | apply below_alloc | apply pw_below_drewN | apply below_drew1 | refine below_set ?_ GE101.out) | exact HB.out)⟩⟩
      case rest =>
        clear HC4
        try clear p2
        try clear c3
        try clear c5
        try clear c5b0
        try clear p6
        try clear hcz6_0
        try clear hcz6_1
        try clear hcz6_2
        try clear hcz7_0
        try clear hcz7_1
        try clear hcz7_2
        try clear hfz6_0
        try clear hfz6_1
        try clear hfz6_2
        try clear hfz7_0
        try clear hfz7_1
        try clear hfz7_2
        try clear p2
        obtain ⟨kq, x18_3, rfl, HA, HJ3, BK101, HB⟩ := hcut
        cases kq with
        | zero => exact absurd HA.out (by simp [almanacref12_Small.j1])
        | succ kj3 =>
          have H := HA.out
          clear HA
          simp only [almanacref12_Small.j1] at H
          by_cases c8 : x18_3 = true
          · subst c8
            have H1 : (if 0 ≤ x5_1 then (if x5_1 < (l0_1.length : Int) then (almanacref12_Small.l1 kj3 (wrap64 ((wrap64 (x1_1 - 1)) - (((rd_T45 l0_1 x5_1).f1).length : Int))) x5_1 0 a0_0 l0_1 l0_2) else (none)) else (none)) = some r := by rw [if_pos rfl] at H; exact H
            clear H
            have H := H1
            clear H1
            by_cases c9 : 0 ≤ x5_1
            · rw [if_pos c9] at H
              have c9b0 : decide (0 ≤ x5_1) = true := decide_eq_true c9
              clear c9
              by_cases c10 : x5_1 < (l0_1.length : Int)
              · rw [if_pos c10] at H
                have c10b0 : decide (x5_1 < (l0_1.length : Int)) = true := decide_eq_true c10
                clear c10
                have H' := Aside0.mk H
                clear H
                have hcz11_0 : wc.cell? ⟨gb101, 0, none⟩ = some (.string a0_0) := (blk_cell BK101.out 0).trans rfl
                have hcz11_1 : wc.cell? ⟨gb101, 1, none⟩ = some (.slice A0_1 l0_1.length c0_1) := (blk_cell BK101.out 1).trans rfl
                have hcz11_2 : wc.cell? ⟨gb101, 2, none⟩ = some (.slice A0_2 l0_2.length c0_2) := (blk_cell BK101.out 2).trans rfl
                have hfz11_0 := blk_frozen BK101.out 0
                have hfz11_1 := blk_frozen BK101.out 1
                have hfz11_2 := blk_frozen BK101.out 2
                have p102 : 0 ≤ (x5_1 : Int) := of_decide_eq_true (by first | (with_reducible assumption) | assumption)
                have q102 : x5_1 < (l0_1.length : Int) := of_decide_eq_true (by first | (with_reducible assumption) | assumption)
                obtain ⟨ad102, A102_1, c102_1, e102, hx102_0, hx102_1, hx102_2, hl102_1, hi102_1⟩ := at_T45 HR0_1.out x5_1 p102 q102
                cases e102
                replace hx102_0 := (HB.out.cell (World.block_lt_of_cell? w _ hx102_0)).trans hx102_0
                replace hx102_1 := (HB.out.cell (World.block_lt_of_cell? w _ hx102_1)).trans hx102_1
                replace hx102_2 := (HB.out.cell (World.block_lt_of_cell? w _ hx102_2)).trans hx102_2
                have HR102_1 := Aside0.mk hi102_1
                have HC102_1 := Aside0.mk hl102_1
                clear hi102_1 hl102_1
                replace p102 := eq_true p102
                replace q102 := eq_true q102
                go_wp2
                go_loopg [1, 6] kj3 (fun kq v1 v6 w' => ∃ (x1_3 : Int) (x6_3 : Int), v1 = .int .i64 x1_3 ∧ v6 = .int .i64 x6_3 ∧ Aside0 (almanacref12_Small.l1 kq x1_3 x5_1 x6_3 a0_0 l0_1 l0_2 = some r) ∧ Aside0 (kq ≤ kj3) ∧ Aside0 (w'.heap[gb101]? = some (.cells #[.string a0_0, (.slice (some ad102) l0_1.length c0_1), (.slice A0_2 l0_2.length c0_2)] 25 (0, 0))) ∧ Aside0 (Below w.heap.size w w'))
                case atStart => exact ⟨(wrap64 ((wrap64 (x1_1 - 1)) - (((rd_T45 l0_1 x5_1).f1).length : Int))), (0), (by first | rfl | (simp; done) | (simp [*]; done)), (by first | rfl | (simp; done) | (simp [*]; done)), H', ⟨Nat.le_refl _⟩, ⟨by (with_reducible repeat (first | refine blk_drewN ?_ _ | refine blk_drew ?_ | refine blk_alloc ?_ _)); exact BK101.out⟩, ⟨by repeat (first | (with_reducible first | exact HB.out | apply below_alloc | apply pw_below_drewN | apply below_drew1 | refine below_set ?_ GE101.out) | exact HB.out)⟩⟩
                case round =>
                  clear H'
                  try clear c1
                  try clear p1
                  try clear q1
                  try clear hx1
                  try clear p2
                  try clear c3
                  try clear c5
                  try clear c5b0
                  try clear p6
                  try clear c8
                  try clear c9
                  try clear c9b0
                  try clear c10
                  try clear c10b0
                  try clear p10
                  try clear q10
                  try clear hx10
                  try clear hcz11_0
                  try clear hcz11_1
                  try clear hcz11_2
                  try clear hcz6_0
                  try clear hcz6_1
                  try clear hcz6_2
                  try clear hcz7_0
                  try clear hcz7_1
                  try clear hcz7_2
                  try clear hfz11_0
                  try clear hfz11_1
                  try clear hfz11_2
                  try clear hfz6_0
                  try clear hfz6_1
                  try clear hfz6_2
                  try clear hfz7_0
                  try clear hfz7_1
                  try clear hfz7_2
                  try clear hx102_0
                  try clear hx102_1
                  try clear hx102_2
                  try clear p102
                  try clear p2
                  try clear p6
                  try clear q102
                  obtain ⟨x1_3, x6_3, rfl, rfl, HA, HK3, BK101, HB⟩ := hrel
                  cases gk with
                  | zero => exact absurd HA.out (by simp [almanacref12_Small.l1])
                  | succ k3 =>
                    have H := HA.out
                    clear HA
                    simp only [almanacref12_Small.l1] at H
                    by_cases c12 : 0 ≤ x5_1
                    · rw [if_pos c12] at H
                      have c12b0 : decide (0 ≤ x5_1) = true := decide_eq_true c12
                      clear c12
                      by_cases c13 : x5_1 < (l0_1.length : Int)
                      · rw [if_pos c13] at H
                        have c13b0 : decide (x5_1 < (l0_1.length : Int)) = true := decide_eq_true c13
                        clear c13
                        by_cases c14 : x6_3 < (((rd_T45 l0_1 x5_1).f1).length : Int)
                        · rw [if_pos c14] at H
                          have c14b0 : decide (x6_3 < (((rd_T45 l0_1 x5_1).f1).length : Int)) = true := decide_eq_true c14
                          clear c14
                          by_cases c15 : x1_3 ≥ 0
                          · rw [if_pos c15] at H
                            have c15b0 : decide (0 ≤ x1_3) = true := decide_eq_true c15
                            clear c15
                            by_cases c16 : 0 ≤ x6_3
                            · rw [if_pos c16] at H
                              have c16b0 : decide (0 ≤ x6_3) = true := decide_eq_true c16
                              clear c16
                              have H' := Aside0.mk H
                              clear H
                              have hcz17_0 : wr.cell? ⟨gb101, 0, none⟩ = some (.string a0_0) := (blk_cell BK101.out 0).trans rfl
                              have hcz17_1 : wr.cell? ⟨gb101, 1, none⟩ = some (.slice (some ad102) l0_1.length c0_1) := (blk_cell BK101.out 1).trans rfl
                              have hcz17_2 : wr.cell? ⟨gb101, 2, none⟩ = some (.slice A0_2 l0_2.length c0_2) := (blk_cell BK101.out 2).trans rfl
                              have hfz17_0 := blk_frozen BK101.out 0
                              have hfz17_1 := blk_frozen BK101.out 1
                              have hfz17_2 := blk_frozen BK101.out 2
                              have p103 : 0 ≤ (x5_1 : Int) := of_decide_eq_true (by first | (with_reducible assumption) | assumption)
                              have q103 : x5_1 < (l0_1.length : Int) := of_decide_eq_true (by first | (with_reducible assumption) | assumption)
                              obtain ⟨ad103, A103_1, c103_1, e103, hx103_0, hx103_1, hx103_2, hl103_1, hi103_1⟩ := at_T45 HR0_1.out x5_1 p103 q103
                              obtain rfl : ad102 = ad103 := (by injection e103)
                              replace hx103_0 := (HB.out.cell (World.block_lt_of_cell? w _ hx103_0)).trans hx103_0
                              replace hx103_1 := (HB.out.cell (World.block_lt_of_cell? w _ hx103_1)).trans hx103_1
                              replace hx103_2 := (HB.out.cell (World.block_lt_of_cell? w _ hx103_2)).trans hx103_2
                              have HR103_1 := Aside0.mk hi103_1
                              have HC103_1 := Aside0.mk hl103_1
                              clear hi103_1 hl103_1
                              replace p103 := eq_true p103
                              replace q103 := eq_true q103
                              have p104 : 0 ≤ (x5_1 : Int) := of_decide_eq_true (by first | (with_reducible assumption) | assumption)
                              have q104 : x5_1 < (l0_1.length : Int) := of_decide_eq_true (by first | (with_reducible assumption) | assumption)
                              obtain ⟨ad104, A104_1, c104_1, e104, hx104_0, hx104_1, hx104_2, hl104_1, hi104_1⟩ := at_T45 HR0_1.out x5_1 p104 q104
                              obtain rfl : ad102 = ad104 := (by injection e104)
                              replace hx104_0 := (HB.out.cell (World.block_lt_of_cell? w _ hx104_0)).trans hx104_0
                              replace hx104_1 := (HB.out.cell (World.block_lt_of_cell? w _ hx104_1)).trans hx104_1
                              replace hx104_2 := (HB.out.cell (World.block_lt_of_cell? w _ hx104_2)).trans hx104_2
                              have HR104_1 := Aside0.mk hi104_1
                              have HC104_1 := Aside0.mk hl104_1
                              clear hi104_1 hl104_1
                              replace p104 := eq_true p104
                              replace q104 := eq_true q104
                              have ea_ := Option.some.inj (hx103_1.symm.trans hx104_1)
                              injection ea_ with ea_ en_ ec_
                              subst ea_
                              subst ec_
                              clear en_
                              have p105 : 0 ≤ (x6_3 : Int) := of_decide_eq_true (by first | (with_reducible assumption) | assumption)
                              have q105 : x6_3 < (((rd_T45 l0_1 x5_1).f1).length : Int) := of_decide_eq_true (by first | (with_reducible assumption) | assumption)
                              obtain ⟨ad105, A105_1, c105_1, e105, hx105_0, hx105_1, hl105_1, hi105_1⟩ := at_T77 HR104_1.out x6_3 p105 q105
                              cases e105
                              replace hx105_0 := (HB.out.cell (World.block_lt_of_cell? w _ hx105_0)).trans hx105_0
                              replace hx105_1 := (HB.out.cell (World.block_lt_of_cell? w _ hx105_1)).trans hx105_1
                              have HR105_1 := Aside0.mk hi105_1
                              have HC105_1 := Aside0.mk hl105_1
                              clear hi105_1 hl105_1
                              replace p105 := eq_true p105
                              replace q105 := eq_true q105
                              go_wp2
                              go_roundg k3
                              case measure => have := HK1.out; have := HJ3.out; have := HK3.out; omega
                              case rel => exact ⟨(wrap64 (x1_3 - (((rd_T77 ((rd_T45 l0_1 x5_1).f1) x6_3).f1).length : Int))), (wrap64 (x6_3 + 1)), (by first | rfl | (simp; done) | (simp [*]; done)), (by first | rfl | (simp; done) | (simp [*]; done)), H', ⟨by have := HK1.out; have := HJ3.out; have := HK3.out; omega⟩, ⟨by (with_reducible repeat (first | refine blk_drewN ?_ _ | refine blk_drew ?_ | refine blk_alloc ?_ _)); exact BK101.out⟩, ⟨by repeat (first | (with_reducible first | exact HB.out | apply below_alloc | apply pw_below_drewN | apply below_drew1 | refine below_set ?_ GE101.out) | exact HB.out)⟩⟩
                            · rw [if_neg c16] at H
                              exact absurd H (by simp)
                          · rw [if_neg c15] at H
                            have c15b0 : decide (0 ≤ x1_3) = false := decide_eq_false c15
                            clear c15
                            have H' := Aside0.mk H
                            clear H
                            have hcz18_0 : wr.cell? ⟨gb101, 0, none⟩ = some (.string a0_0) := (blk_cell BK101.out 0).trans rfl
                            have hcz18_1 : wr.cell? ⟨gb101, 1, none⟩ = some (.slice (some ad102) l0_1.length c0_1) := (blk_cell BK101.out 1).trans rfl
                            have hcz18_2 : wr.cell? ⟨gb101, 2, none⟩ = some (.slice A0_2 l0_2.length c0_2) := (blk_cell BK101.out 2).trans rfl
                            have hfz18_0 := blk_frozen BK101.out 0
                            have hfz18_1 := blk_frozen BK101.out 1
                            have hfz18_2 := blk_frozen BK101.out 2
                            have p103 : 0 ≤ (x5_1 : Int) := of_decide_eq_true (by first | (with_reducible assumption) | assumption)
                            have q103 : x5_1 < (l0_1.length : Int) := of_decide_eq_true (by first | (with_reducible assumption) | assumption)
                            obtain ⟨ad103, A103_1, c103_1, e103, hx103_0, hx103_1, hx103_2, hl103_1, hi103_1⟩ := at_T45 HR0_1.out x5_1 p103 q103
                            obtain rfl : ad102 = ad103 := (by injection e103)
                            replace hx103_0 := (HB.out.cell (World.block_lt_of_cell? w _ hx103_0)).trans hx103_0
                            replace hx103_1 := (HB.out.cell (World.block_lt_of_cell? w _ hx103_1)).trans hx103_1
                            replace hx103_2 := (HB.out.cell (World.block_lt_of_cell? w _ hx103_2)).trans hx103_2
                            have HR103_1 := Aside0.mk hi103_1
                            have HC103_1 := Aside0.mk hl103_1
                            clear hi103_1 hl103_1
                            replace p103 := eq_true p103
                            replace q103 := eq_true q103
                            go_wp2
                            go_roundg k3
                            case measure => have := HK1.out; have := HJ3.out; have := HK3.out; omega
                            case rel => exact ⟨(x1_3), (wrap64 (x5_1 + 1)), (by first | rfl | (simp; done) | (simp [*]; done)), (by first | rfl | (simp; done) | (simp [*]; done)), H', ⟨by have := HK1.out; have := HJ3.out; have := HK3.out; omega⟩, ⟨by (with_reducible repeat (first | refine blk_drewN ?_ _ | refine blk_drew ?_ | refine blk_alloc ?_ _)); exact BK101.out⟩, ⟨by repeat (first | (with_reducible first | exact HB.out | apply below_alloc | apply pw_below_drewN | apply below_drew1 | refine below_set ?_ GE101.out) | exact HB.out)⟩⟩
                        · rw [if_neg c14] at H
                          have c14b0 : decide (x6_3 < (((rd_T45 l0_1 x5_1).f1).length : Int)) = false := decide_eq_false c14
                          clear c14
                          have H' := Aside0.mk H
                          clear H
                          have hcz19_0 : wr.cell? ⟨gb101, 0, none⟩ = some (.string a0_0) := (blk_cell BK101.out 0).trans rfl
                          have hcz19_1 : wr.cell? ⟨gb101, 1, none⟩ = some (.slice (some ad102) l0_1.length c0_1) := (blk_cell BK101.out 1).trans rfl
                          have hcz19_2 : wr.cell? ⟨gb101, 2, none⟩ = some (.slice A0_2 l0_2.length c0_2) := (blk_cell BK101.out 2).trans rfl
                          have hfz19_0 := blk_frozen BK101.out 0
                          have hfz19_1 := blk_frozen BK101.out 1
                          have hfz19_2 := blk_frozen BK101.out 2
                          have p103 : 0 ≤ (x5_1 : Int) := of_decide_eq_true (by first | (with_reducible assumption) | assumption)
                          have q103 : x5_1 < (l0_1.length : Int) := of_decide_eq_true (by first | (with_reducible assumption) | assumption)
                          obtain ⟨ad103, A103_1, c103_1, e103, hx103_0, hx103_1, hx103_2, hl103_1, hi103_1⟩ := at_T45 HR0_1.out x5_1 p103 q103
                          obtain rfl : ad102 = ad103 := (by injection e103)
                          replace hx103_0 := (HB.out.cell (World.block_lt_of_cell? w _ hx103_0)).trans hx103_0
                          replace hx103_1 := (HB.out.cell (World.block_lt_of_cell? w _ hx103_1)).trans hx103_1
                          replace hx103_2 := (HB.out.cell (World.block_lt_of_cell? w _ hx103_2)).trans hx103_2
                          have HR103_1 := Aside0.mk hi103_1
                          have HC103_1 := Aside0.mk hl103_1
                          clear hi103_1 hl103_1
                          replace p103 := eq_true p103
                          replace q103 := eq_true q103
                          go_wp2
                          go_roundg k3
                          case measure => have := HK1.out; have := HJ3.out; have := HK3.out; omega
                          case rel => exact ⟨(x1_3), (wrap64 (x5_1 + 1)), (by first | rfl | (simp; done) | (simp [*]; done)), (by first | rfl | (simp; done) | (simp [*]; done)), H', ⟨by have := HK1.out; have := HJ3.out; have := HK3.out; omega⟩, ⟨by (with_reducible repeat (first | refine blk_drewN ?_ _ | refine blk_drew ?_ | refine blk_alloc ?_ _)); exact BK101.out⟩, ⟨by repeat (first | (with_reducible first | exact HB.out | apply below_alloc | apply pw_below_drewN | apply below_drew1 | refine below_set ?_ GE101.out) | exact HB.out)⟩⟩
                      · rw [if_neg c13] at H
                        exact absurd H (by simp)
                    · rw [if_neg c12] at H
                      exact absurd H (by simp)
              · rw [if_neg c10] at H
                exact absurd H (by simp)
            · rw [if_neg c9] at H
              exact absurd H (by simp)
          · replace c8 := Bool.eq_false_iff.mpr c8
            subst c8
            have H1 : (almanacref12_Small.l2 kj3 x1_1 0 a0_0 l0_1 l0_2) = some r := by rw [if_neg (show ¬ (false = true) by decide)] at H; exact H
            clear H
            have H := H1
            clear H1
            have H' := Aside0.mk H
            clear H
            go_wp2
            go_loopg [1, 7] kj3 (fun kq v1 v7 w' => ∃ (x1_3 : Int) (x7_3 : Int), v1 = .int .i64 x1_3 ∧ v7 = .int .i64 x7_3 ∧ Aside0 (almanacref12_Small.l2 kq x1_3 x7_3 a0_0 l0_1 l0_2 = some r) ∧ Aside0 (kq ≤ kj3) ∧ Aside0 (w'.heap[gb101]? = some (.cells #[.string a0_0, (.slice A0_1 l0_1.length c0_1), (.slice A0_2 l0_2.length c0_2)] 25 (0, 0))) ∧ Aside0 (Below w.heap.size w w'))
            case atStart => exact ⟨(x1_1), (0), (by first | rfl | (simp; done) | (simp [*]; done)), (by first | rfl | (simp; done) | (simp [*]; done)), H', ⟨Nat.le_refl _⟩, ⟨by (with_reducible repeat (first | refine blk_drewN ?_ _ | refine blk_drew ?_ | refine blk_alloc ?_ _)); exact BK101.out⟩, ⟨by repeat (first | (with_reducible first | exact HB.out | apply below_alloc | apply pw_below_drewN | apply below_drew1 | refine below_set ?_ GE101.out) | exact HB.out)⟩⟩
            case round =>
              clear H'
              try clear c1
              try clear p1
              try clear q1
              try clear hx1
              try clear p2
              try clear c3
              try clear c5
              try clear c5b0
              try clear p6
              try clear c8
              try clear c9
              try clear c9b0
              try clear c10
              try clear c10b0
              try clear p10
              try clear q10
              try clear hx10
              try clear c12
              try clear c12b0
              try clear c13
              try clear c13b0
              try clear c14
              try clear c14b0
              try clear c15
              try clear c15b0
              try clear c16
              try clear c16b0
              try clear hcz11_0
              try clear hcz11_1
              try clear hcz11_2
              try clear hcz17_0
              try clear hcz17_1
              try clear hcz17_2
              try clear hcz18_0
              try clear hcz18_1
              try clear hcz18_2
              try clear hcz19_0
              try clear hcz19_1
              try clear hcz19_2
              try clear hcz6_0
              try clear hcz6_1
              try clear hcz6_2
              try clear hcz7_0
              try clear hcz7_1
              try clear hcz7_2
              try clear hfz11_0
              try clear hfz11_1
              try clear hfz11_2
              try clear hfz17_0
              try clear hfz17_1
              try clear hfz17_2
              try clear hfz18_0
              try clear hfz18_1
              try clear hfz18_2
              try clear hfz19_0
              try clear hfz19_1
              try clear hfz19_2
              try clear hfz6_0
              try clear hfz6_1
              try clear hfz6_2
              try clear hfz7_0
              try clear hfz7_1
              try clear hfz7_2
              try clear hx102_0
              try clear hx102_1
              try clear hx102_2
              try clear hx103_0
              try clear hx103_1
              try clear hx103_2
              try clear hx104_0
              try clear hx104_1
              try clear hx104_2
              try clear hx105_0
              try clear hx105_1
              try clear p1
              try clear p10
              try clear p102
              try clear p103
              try clear p104
              try clear p105
              try clear p2
              try clear p6
              try clear q1
              try clear q10
              try clear q102
              try clear q103
              try clear q104
              try clear q105
              obtain ⟨x1_3, x7_3, rfl, rfl, HA, HK3, BK101, HB⟩ := hrel
              cases gk with
              | zero => exact absurd HA.out (by simp [almanacref12_Small.l2])
              | succ k3 =>
                have H := HA.out
                clear HA
                simp only [almanacref12_Small.l2] at H
                by_cases c20 : x7_3 < (l0_2.length : Int)
                · rw [if_pos c20] at H
                  have c20b0 : decide (x7_3 < (l0_2.length : Int)) = true := decide_eq_true c20
                  clear c20
                  by_cases c21 : x1_3 ≥ 0
                  · rw [if_pos c21] at H
                    have c21b0 : decide (0 ≤ x1_3) = true := decide_eq_true c21
                    clear c21
                    by_cases c22 : 0 ≤ x7_3
                    · rw [if_pos c22] at H
                      have c22b0 : decide (0 ≤ x7_3) = true := decide_eq_true c22
                      clear c22
                      replace H := Option.bind_eq_some_iff.mp H
                      obtain ⟨t107, A230, H⟩ := H
                      replace H : (almanacref12_Small.l2 k3 t107 (wrap64 (x7_3 + 1)) a0_0 l0_1 l0_2) = some r := H
                      have A23 := Aside0.mk A230
                      clear A230
                      have H' := Aside0.mk H
                      clear H
                      have hcz24_0 : wr.cell? ⟨gb101, 0, none⟩ = some (.string a0_0) := (blk_cell BK101.out 0).trans rfl
                      have hcz24_1 : wr.cell? ⟨gb101, 1, none⟩ = some (.slice A0_1 l0_1.length c0_1) := (blk_cell BK101.out 1).trans rfl
                      have hcz24_2 : wr.cell? ⟨gb101, 2, none⟩ = some (.slice A0_2 l0_2.length c0_2) := (blk_cell BK101.out 2).trans rfl
                      have hfz24_0 := blk_frozen BK101.out 0
                      have hfz24_1 := blk_frozen BK101.out 1
                      have hfz24_2 := blk_frozen BK101.out 2
                      have p106 : 0 ≤ (x7_3 : Int) := of_decide_eq_true (by first | (with_reducible assumption) | assumption)
                      have q106 : x7_3 < (l0_2.length : Int) := of_decide_eq_true (by first | (with_reducible assumption) | assumption)
                      obtain ⟨ad106, A106_1, c106_1, A106_2, c106_2, e106, hx106_0, hx106_1, hx106_2, hl106_1, hi106_1, hl106_2, hi106_2⟩ := at_T25 HR0_2.out x7_3 p106 q106
                      cases e106
                      replace hx106_0 := (HB.out.cell (World.block_lt_of_cell? w _ hx106_0)).trans hx106_0
                      replace hx106_1 := (HB.out.cell (World.block_lt_of_cell? w _ hx106_1)).trans hx106_1
                      replace hx106_2 := (HB.out.cell (World.block_lt_of_cell? w _ hx106_2)).trans hx106_2
                      have HR106_1 := Aside0.mk hi106_1
                      have HC106_1 := Aside0.mk hl106_1
                      clear hi106_1 hl106_1
                      have HR106_2 := Aside0.mk hi106_2
                      have HC106_2 := Aside0.mk hl106_2
                      clear hi106_2 hl106_2
                      replace p106 := eq_true p106
                      replace q106 := eq_true q106
                      go_wp2_with (first | ((with_reducible refine gate_callee (f := 33) rfl ?_); refine goesL_ (some 76) rfl rfl Try.func33 (by kernel_rfl) rfl #[.agg #[.string ((rd_T25 l0_2 x7_3).f0), .slice A106_1 ((rd_T25 l0_2 x7_3).f1).length c106_1, .slice A106_2 ((rd_T25 l0_2 x7_3).f2).length c106_2], .int .i64 x1_3] rfl (by (try simp only [List.map_toArray, List.map_cons, List.map_nil]); first | done | rfl | (simp only [List.length_drop, List.length_take]; rfl)) ?_; (with_reducible refine (ih k3 (by have := HK1.out; have := HJ3.out; have := HK3.out; omega) ((rd_T25 l0_2 x7_3).f0) _ _ ((rd_T25 l0_2 x7_3).f1) _ _ ((rd_T25 l0_2 x7_3).f2) x1_3 t107 _ ?side1 ?side2 ?side3 ?side4 A23.out).mono ?_); (case side1 => repeat (first | exact (Kd.C_below HR106_1.out HB.out) | (with_reducible refine Kd.C_alloc ?_ _) | (with_reducible refine Kd.C_drewN ?_ _) | (with_reducible refine Kd.C_drew ?_))); (case side2 => exact HC106_1.out); (case side3 => repeat (first | exact (Kd.C_below HR106_2.out HB.out) | (with_reducible refine Kd.C_alloc ?_ _) | (with_reducible refine Kd.C_drewN ?_ _) | (with_reducible refine Kd.C_drew ?_))); (case side4 => exact HC106_2.out); rintro e w25 ⟨rfl, hb⟩; refine ⟨_, rfl, ?_⟩; have n0_ := Aside0.mk (blk_below (g := gb101) (o := .cells #[.string a0_0, .slice A0_1 l0_1.length c0_1, .slice (some ad106) l0_2.length c0_2] 25 (0, 0)) (by (with_reducible repeat (first | refine blk_drewN ?_ _ | refine blk_drew ?_ | refine blk_alloc ?_ _)); exact BK101.out) hb); have n1_ := Aside0.mk (below_step (by repeat (first | (with_reducible first | exact HB.out | apply below_alloc | apply pw_below_drewN | apply below_drew1 | refine below_set ?_ GE101.out) | exact HB.out)) hb); clear BK101; clear HB; have BK101 := n0_; have HB := n1_; clear n0_ n1_; (try clear hb); (try clear hb2); (try clear hk); (try clear hi)))
                      go_roundg k3
                      case measure => have := HK1.out; have := HJ3.out; have := HK3.out; omega
                      case rel => exact ⟨(t107), (wrap64 (x7_3 + 1)), (by first | rfl | (simp; done) | (simp [*]; done)), (by first | rfl | (simp; done) | (simp [*]; done)), H', ⟨by have := HK1.out; have := HJ3.out; have := HK3.out; omega⟩, ⟨by (with_reducible repeat (first | refine blk_drewN ?_ _ | refine blk_drew ?_ | refine blk_alloc ?_ _)); exact BK101.out⟩, ⟨by repeat (first | (with_reducible first | exact HB.out | apply below_alloc | apply pw_below_drewN | apply below_drew1 | refine below_set ?_ GE101.out) | exact HB.out)⟩⟩
                    · rw [if_neg c22] at H
                      exact absurd H (by simp)
                  · rw [if_neg c21] at H
                    have c21b0 : decide (0 ≤ x1_3) = false := decide_eq_false c21
                    clear c21
                    obtain rfl := Option.some.inj H
                    have hcz26_0 : wr.cell? ⟨gb101, 0, none⟩ = some (.string a0_0) := (blk_cell BK101.out 0).trans rfl
                    have hcz26_1 : wr.cell? ⟨gb101, 1, none⟩ = some (.slice A0_1 l0_1.length c0_1) := (blk_cell BK101.out 1).trans rfl
                    have hcz26_2 : wr.cell? ⟨gb101, 2, none⟩ = some (.slice A0_2 l0_2.length c0_2) := (blk_cell BK101.out 2).trans rfl
                    have hfz26_0 := blk_frozen BK101.out 0
                    have hfz26_1 := blk_frozen BK101.out 1
                    have hfz26_2 := blk_frozen BK101.out 2
                    go_wp2
                    go_ret
                    exact ⟨by first | rfl | (simp [errW_none, errW_some] <;> rfl) | (simp [*, errW_none, errW_some] <;> rfl), by repeat (first | (with_reducible first | exact HB.out | apply below_alloc | apply pw_below_drewN | apply below_drew1 | refine below_set ?_ GE101.out) | exact HB.out)⟩
                · rw [if_neg c20] at H
                  have c20b0 : decide (x7_3 < (l0_2.length : Int)) = false := decide_eq_false c20
                  clear c20
                  obtain rfl := Option.some.inj H
                  have hcz27_0 : wr.cell? ⟨gb101, 0, none⟩ = some (.string a0_0) := (blk_cell BK101.out 0).trans rfl
                  have hcz27_1 : wr.cell? ⟨gb101, 1, none⟩ = some (.slice A0_1 l0_1.length c0_1) := (blk_cell BK101.out 1).trans rfl
                  have hcz27_2 : wr.cell? ⟨gb101, 2, none⟩ = some (.slice A0_2 l0_2.length c0_2) := (blk_cell BK101.out 2).trans rfl
                  have hfz27_0 := blk_frozen BK101.out 0
                  have hfz27_1 := blk_frozen BK101.out 1
                  have hfz27_2 := blk_frozen BK101.out 2
                  go_wp2
                  go_ret
                  exact ⟨by first | rfl | (simp [errW_none, errW_some] <;> rfl) | (simp [*, errW_none, errW_some] <;> rfl), by repeat (first | (with_reducible first | exact HB.out | apply below_alloc | apply pw_below_drewN | apply below_drew1 | refine below_set ?_ GE101.out) | exact HB.out)⟩
end Go.Proofs.Ytebmbfobmakheaa.PD
namespace Go.Proofs.Ytebmbfobmakheaa.PD
open Go.RowKit Go.Proofs.YtebmbfobmakheaaW.PrintWords Go.Proofs.YtebmbfobmakheaaW.PrintLast Go.Proofs.YtebmbfobmakheaaW.PrintMore
attribute [local go_sem] isSome_setCell max2_int min2_int max_two min_two max_three min_three max_four min_four
set_option linter.unusedVariables false
set_option linter.unusedSimpArgs false
def almanacref12_Light.f (k : Nat) (a0_0 : ByteArray) (l0_1 : List (S45)) (l0_2 : List (S25)) : Option (Bool) := (almanacref12_Small.f k a0_0 l0_1 l0_2 5000).bind fun t109 => (some (decide (t109 ≥ 0)))
set_option maxHeartbeats 8000000 in
set_option maxRecDepth 100000 in
theorem almanacref12_Light.calls (k : Nat) (a0_0 : ByteArray) (A0_1 : Option Addr) (c0_1 : Nat) (l0_1 : List (S45)) (A0_2 : Option Addr) (c0_2 : Nat) (l0_2 : List (S25)) (r : Bool) (w : World) (hr0_1 : Kd.C k45 w A0_1 l0_1.length l0_1) (hc0_1 : l0_1.length ≤ c0_1) (hr0_2 : Kd.C k25 w A0_2 l0_2.length l0_2) (hc0_2 : l0_2.length ≤ c0_2) (h : almanacref12_Light.f k a0_0 l0_1 l0_2 = some r) :
    Calls Try.prog 6 #[.agg #[.string a0_0, .slice A0_1 l0_1.length c0_1, .slice A0_2 l0_2.length c0_2]] w fun e w' => e = .returned (.bool r) ∧ Below w.heap.size w w' := by
  have hu25 := Try.underlying25
  have HR0_1 := Aside0.mk hr0_1
  have HC0_1 := Aside0.mk hc0_1
  clear hr0_1 hc0_1
  have HR0_2 := Aside0.mk hr0_2
  have HC0_2 := Aside0.mk hc0_2
  clear hr0_2 hc0_2
  have HB := Aside0.mk (Below.refl w.heap.size w)
  have H : ((almanacref12_Small.f k a0_0 l0_1 l0_2 5000).bind fun t109 => (some (decide (t109 ≥ 0)))) = some r := h
  clear h
  replace H := Option.bind_eq_some_iff.mp H
  obtain ⟨t109, A20, H⟩ := H
  replace H : (some (decide (t109 ≥ 0))) = some r := H
  have A2 := Aside0.mk A20
  clear A20
  obtain rfl := Option.some.inj H
  go_enter Try.func6, Try.ntmps6
  go_wp2_with (first | ((with_reducible refine gate_dst (N := 1) rfl ?_); refine box_event ?hg (N := 1) ?hd (cs := #[.string a0_0, .slice A0_1 l0_1.length c0_1, .slice A0_2 l0_2.length c0_2]) (t := 25) ?hr ?_; (case hd => rfl); (case hg => rfl); (case hr => first | (go_simp; done) | (go_simp; rfl)); intro gb108 hg w3 hbox hb; have n0_ := Aside0.mk (below_step (by repeat (first | (with_reducible first | exact HB.out | apply below_alloc | apply pw_below_drewN | apply below_drew1) | exact HB.out)) hb); have n1_ := Aside0.mk (hbox); have n2_ := Aside0.mk ((by rw [hg]; exact (below_size (by repeat (first | (with_reducible first | exact HB.out | apply below_alloc | apply pw_below_drewN | apply below_drew1) | exact HB.out))) : w.heap.size ≤ gb108)); have n3_ := Aside0.mk ((by rw [hg]; exact (below_size (by repeat (first | (with_reducible first | exact HB.out | apply below_alloc | apply pw_below_drewN | apply below_drew1) | exact HB.out))) : w.heap.size ≤ gb108)); clear HB; have HB := n0_; have BK108 := n1_; have GW108 := n2_; have GE108 := n3_; clear n0_ n1_ n2_ n3_; clear hb hbox hg; have hcz4_0 : w3.cell? ⟨gb108, 0, none⟩ = some (.string a0_0) := (blk_cell BK108.out 0).trans rfl; have hcz4_1 : w3.cell? ⟨gb108, 1, none⟩ = some (.slice A0_1 l0_1.length c0_1) := (blk_cell BK108.out 1).trans rfl; have hcz4_2 : w3.cell? ⟨gb108, 2, none⟩ = some (.slice A0_2 l0_2.length c0_2) := (blk_cell BK108.out 2).trans rfl; have hfz4_0 := blk_frozen BK108.out 0; have hfz4_1 := blk_frozen BK108.out 1; have hfz4_2 := blk_frozen BK108.out 2) | ((with_reducible refine gate_callee (f := 33) rfl ?_); refine goesL_ (some 4) rfl rfl Try.func33 (by kernel_rfl) rfl #[.agg #[.string a0_0, .slice A0_1 l0_1.length c0_1, .slice A0_2 l0_2.length c0_2], .int .i64 5000] rfl (by (try simp only [List.map_toArray, List.map_cons, List.map_nil]); first | done | rfl | (simp only [List.length_drop, List.length_take]; rfl)) ?_; (with_reducible refine (almanacref12_Small.calls k a0_0 _ _ l0_1 _ _ l0_2 5000 t109 _ ?side1 ?side2 ?side3 ?side4 A2.out).mono ?_); (case side1 => repeat (first | exact (Kd.C_below HR0_1.out HB.out) | (with_reducible refine Kd.C_alloc ?_ _) | (with_reducible refine Kd.C_drewN ?_ _) | (with_reducible refine Kd.C_drew ?_))); (case side2 => exact HC0_1.out); (case side3 => repeat (first | exact (Kd.C_below HR0_2.out HB.out) | (with_reducible refine Kd.C_alloc ?_ _) | (with_reducible refine Kd.C_drewN ?_ _) | (with_reducible refine Kd.C_drew ?_))); (case side4 => exact HC0_2.out); rintro e w5 ⟨rfl, hb⟩; refine ⟨_, rfl, ?_⟩; have n0_ := Aside0.mk (blk_below (g := gb108) (o := .cells #[.string a0_0, .slice A0_1 l0_1.length c0_1, .slice A0_2 l0_2.length c0_2] 25 (0, 0)) (by (with_reducible repeat (first | refine blk_drewN ?_ _ | refine blk_drew ?_ | refine blk_alloc ?_ _)); exact BK108.out) hb); have n1_ := Aside0.mk (below_step (by repeat (first | (with_reducible first | exact HB.out | apply below_alloc | apply pw_below_drewN | apply below_drew1 | refine below_set ?_ GE108.out) | exact HB.out)) hb); clear BK108; clear HB; have BK108 := n0_; have HB := n1_; clear n0_ n1_; (try clear hb); (try clear hb2); (try clear hk); (try clear hi)))
  go_ret
  exact ⟨by first | rfl | (simp [errW_none, errW_some] <;> rfl) | (simp [*, errW_none, errW_some] <;> rfl), by repeat (first | (with_reducible first | exact HB.out | apply below_alloc | apply pw_below_drewN | apply below_drew1 | refine below_set ?_ GE108.out) | exact HB.out)⟩
end Go.Proofs.Ytebmbfobmakheaa.PD
namespace Go.Proofs.Ytebmbfobmakheaa.PD
open Go.RowKit Go.Proofs.YtebmbfobmakheaaW.PrintWords Go.Proofs.YtebmbfobmakheaaW.PrintLast Go.Proofs.YtebmbfobmakheaaW.PrintMore
set_option linter.unusedVariables false
set_option linter.unusedSimpArgs false
def SzP (p : S45) : Prop := p.f2.size ≤ 140737488351232 ∧ p.f1.length ≤ 140737488355328 ∧ ∀ q ∈ p.f1, q.f1.length ≤ 140737488355328 ∧ ∀ v ∈ q.f1, v.size ≤ 140737488351232
inductive Sz : S25 → Prop
  | mk (x : S25) : x.f1.length ≤ 140737488355328 → (∀ p ∈ x.f1, SzP p) → x.f2.length ≤ 140737488355328 → (∀ y ∈ x.f2, Sz y) → Sz x
theorem Sz.f1l {x : S25} (h : Sz x) : x.f1.length ≤ 140737488355328 := by cases h; assumption
theorem Sz.f1p {x : S25} (h : Sz x) : ∀ p ∈ x.f1, SzP p := by cases h; assumption
theorem Sz.f2l {x : S25} (h : Sz x) : x.f2.length ≤ 140737488355328 := by cases h; assumption
theorem Sz.f2p {x : S25} (h : Sz x) : ∀ y ∈ x.f2, Sz y := by cases h; assumption
def PB (n : Int) (l : List S45) : Prop := (l.length : Int) ≤ n ∧ ∀ p ∈ l, (p.f1.length : Int) ≤ n ∧ ∀ q ∈ p.f1, (q.f1.length : Int) ≤ n
def SL : List S25 → Nat
  | [] => 0
  | y :: r => y.f1.length + SL r
def CB (n : Int) (l : List S25) : Prop := (l.length : Int) ≤ n ∧ (∀ y ∈ l, PB n y.f1) ∧ (SL l : Int) ≤ n
theorem PB.mono {n m : Int} {l : List S45} (h : PB n l) (hn : n ≤ m) : PB m l := ⟨Int.le_trans h.1 hn, fun p hp => ⟨Int.le_trans (h.2 p hp).1 hn, fun q hq => Int.le_trans ((h.2 p hp).2 q hq) hn⟩⟩
theorem CB.mono {n m : Int} {l : List S25} (h : CB n l) (hn : n ≤ m) : CB m l := ⟨Int.le_trans h.1 hn, fun y hy => (h.2.1 y hy).mono hn, Int.le_trans h.2.2 hn⟩
def Told (left r : Int) (P : Prop) : Prop := r ≤ left ∧ -281474976710656 ≤ r ∧ (0 ≤ r → P)
theorem rsmall : ∀ (n : Nat) (a : ByteArray) (l1 : List S45) (l2 : List S25) (left : Int), left ≤ n → 0 ≤ left → (n : Int) ≤ 1000000 → l1.length ≤ 140737488355328 → (∀ p ∈ l1, SzP p) → l2.length ≤ 140737488355328 → (∀ y ∈ l2, Sz y) →
    ∃ r, Ev (fun k => almanacref12_Small.f k a l1 l2 left) r ∧ Told (left - 1) r (r + 1 + l1.length ≤ left ∧ PB (left - 1) l1 ∧ CB (left - 1) l2) := by
  intro n
  induction n with
  | zero =>
    intro a l1 l2 left hn h0 hm hl1 hp1 hl2 hp2
    have : left = 0 := by omega
    subst this
    refine ⟨-1, ?_, by omega, by omega, fun h => by omega⟩
    refine Ev.step (f := fun k => almanacref12_Small.l0 k (-1) 0 a l1 l2) (fun k => ?_) ?_
    · simp only [almanacref12_Small.f]
      rw [show wrap64 (0 - 1) = -1 by unfold wrap64; omega]
    · refine Ev.step (f := fun k => almanacref12_Small.j1 k (-1) 0 false a l1 l2) (fun k => ?_) ?_
      · simp only [almanacref12_Small.l0]
        split <;> rfl
      · refine Ev.step (f := fun k => almanacref12_Small.l2 k (-1) 0 a l1 l2) (fun k => ?_) ?_
        · simp only [almanacref12_Small.j1]
          rfl
        · refine Ev.step (f := fun k => some (-1)) (fun k => ?_) (Ev.now _)
          simp only [almanacref12_Small.l2]
          split
          · rfl
          · rfl
  | succ n ihn =>
    intro a l1 l2 left hn h0 hm hl1 hp1 hl2 hp2
    have s2 : ∀ (d i : Nat) (x : Int), l2.length - i = d → i ≤ l2.length → x ≤ n → -281474976710656 ≤ x → ∃ r, Ev (fun k => almanacref12_Small.l2 k x i a l1 l2) r ∧ Told x r (r + SL (l2.drop i) ≤ x ∧ CB x (l2.drop i)) := by
      intro d
      induction d with
      | zero =>
        intro i x hd hi hx hxl
        refine ⟨x, Ev.step (f := fun k => some x) (fun k => ?_) (Ev.now _), Int.le_refl _, hxl, fun h => ?_⟩
        · simp only [almanacref12_Small.l2]
          rw [if_neg (by omega)]
        · rw [List.drop_eq_nil_of_le (by omega)]
          exact ⟨by show x + 0 ≤ x; omega, h, fun y hy => (by cases hy), h⟩
      | succ d ih =>
        intro i x hd hi hx hxl
        have hlt : i < l2.length := by omega
        by_cases hx0 : x ≥ 0
        · have hsz := hp2 l2[i] (List.getElem_mem hlt)
          obtain ⟨r1, e1, t1, t2, t3⟩ := ihn l2[i].f0 l2[i].f1 l2[i].f2 x hx hx0 (by omega) hsz.f1l hsz.f1p hsz.f2l hsz.f2p
          obtain ⟨r, e, u1, u2, u3⟩ := ih (i + 1) r1 (by omega) (by omega) (by omega) t2
          refine ⟨r, ?_, by omega, u2, fun h => ?_⟩
          · refine Ev.step (f := fun k => (almanacref12_Small.f k l2[i].f0 l2[i].f1 l2[i].f2 x).bind fun t107 => almanacref12_Small.l2 k t107 ((i + 1 : Nat) : Int) a l1 l2) (fun k => ?_) (Ev.bind e1 e)
            simp only [almanacref12_Small.l2]
            rw [if_pos (by omega), if_pos hx0, if_pos (by omega), wrap_next hlt (by omega), rd25_at l2 i hlt]
          · obtain ⟨p0, p1, p2⟩ := t3 (by omega)
            obtain ⟨g0, g1⟩ := u3 h
            obtain ⟨c1, c2, c3⟩ := g1.mono (show r1 ≤ x - 1 by omega)
            rw [List.drop_eq_getElem_cons hlt]
            have hsl : (SL (l2[i] :: l2.drop (i + 1)) : Int) = (l2[i].f1.length : Int) + (SL (l2.drop (i + 1)) : Int) := by show (((l2[i].f1.length + SL (l2.drop (i + 1)) : Nat)) : Int) = _; omega
            refine ⟨by omega, by rw [List.length_cons]; omega, fun y hy => ?_, by omega⟩
            rcases List.mem_cons.1 hy with rfl | hy
            · exact p1.mono (by omega)
            · exact (c2 y hy).mono (by omega)
        · refine ⟨x, Ev.step (f := fun k => some x) (fun k => ?_) (Ev.now _), Int.le_refl _, hxl, fun h => by omega⟩
          simp only [almanacref12_Small.l2]
          rw [if_pos (by omega), if_neg hx0]
    have s0 : ∀ (d i : Nat) (x : Int), l1.length - i = d → i ≤ l1.length → x ≤ n → -281474976710656 ≤ x → ∃ r, Ev (fun k => almanacref12_Small.l0 k x i a l1 l2) r ∧ Told x r (r + ((l1.drop i).length : Int) ≤ x ∧ PB x (l1.drop i) ∧ CB x l2) := by
      intro d
      induction d with
      | zero =>
        intro i x hd hi hx hxl
        obtain ⟨r, e, u1, u2, u3⟩ := s2 l2.length 0 x (by omega) (by omega) hx hxl
        refine ⟨r, ?_, u1, u2, fun h => ⟨by rw [List.drop_eq_nil_of_le (by omega)]; show r + 0 ≤ x; omega, ?_, (u3 h).2⟩⟩
        · refine Ev.step (f := fun k => almanacref12_Small.j1 k x i false a l1 l2) (fun k => ?_) (Ev.step (f := fun k => almanacref12_Small.l2 k x 0 a l1 l2) (fun k => ?_) e)
          · simp only [almanacref12_Small.l0]
            rw [if_neg (by omega)]
          · simp only [almanacref12_Small.j1]
            rw [if_neg (by simp)]
        · rw [List.drop_eq_nil_of_le (by omega)]
          exact ⟨Int.le_trans h u1, fun p hp => by cases hp⟩
      | succ d ih =>
        intro i x hd hi hx hxl
        have hlt : i < l1.length := by omega
        by_cases hx0 : x ≥ 0
        · have hsz := hp1 l1[i] (List.getElem_mem hlt)
          have hpl := hsz.2.1
          have s1 : ∀ (e j : Nat) (y : Int), l1[i].f1.length - j = e → j ≤ l1[i].f1.length → y ≤ n → -281474976710656 ≤ y → ∃ r, Ev (fun k => almanacref12_Small.l1 k y i j a l1 l2) r ∧ Told y r (r + ((l1.drop (i + 1)).length : Int) ≤ y ∧ (∀ q ∈ l1[i].f1.drop j, (q.f1.length : Int) ≤ y) ∧ PB y (l1.drop (i + 1)) ∧ CB y l2) := by
            intro e
            induction e with
            | zero =>
              intro j y he hj hy hyl
              obtain ⟨r, ev, u1, u2, u3⟩ := ih (i + 1) y (by omega) (by omega) hy hyl
              refine ⟨r, Ev.step (f := fun k => almanacref12_Small.l0 k y ((i + 1 : Nat) : Int) a l1 l2) (fun k => ?_) ev, u1, u2, fun h => ⟨(u3 h).1, ?_, (u3 h).2⟩⟩
              · simp only [almanacref12_Small.l1]
                rw [if_pos (by omega), if_pos (by omega), rd45_at l1 i hlt, if_neg (by omega), wrap_next hlt (by omega)]
              · rw [List.drop_eq_nil_of_le (by omega)]
                intro q hq; cases hq
            | succ e ihe =>
              intro j y he hj hy hyl
              have hltj : j < l1[i].f1.length := by omega
              have hql := (hsz.2.2 _ (List.getElem_mem hltj)).1
              by_cases hy0 : y ≥ 0
              · obtain ⟨r, ev, u1, u2, u3⟩ := ihe (j + 1) (y - (l1[i].f1[j].f1.length : Int)) (by omega) (by omega) (by omega) (by omega)
                refine ⟨r, Ev.step (f := fun k => almanacref12_Small.l1 k (y - (l1[i].f1[j].f1.length : Int)) i ((j + 1 : Nat) : Int) a l1 l2) (fun k => ?_) ev, by omega, u2, fun h => ?_⟩
                · simp only [almanacref12_Small.l1]
                  rw [if_pos (by omega), if_pos (by omega), rd45_at l1 i hlt, if_pos (by omega), if_pos hy0, if_pos (by omega), rd77_at l1[i].f1 j hltj, wrap_next hltj (by omega), show wrap64 (y - (l1[i].f1[j].f1.length : Int)) = y - (l1[i].f1[j].f1.length : Int) by unfold wrap64; omega]
                · obtain ⟨v0, v1, v2, v3⟩ := u3 h
                  rw [List.drop_eq_getElem_cons hltj]
                  refine ⟨by omega, fun q hq => ?_, v2.mono (by omega), v3.mono (by omega)⟩
                  rcases List.mem_cons.1 hq with rfl | hq
                  · omega
                  · exact Int.le_trans (v1 q hq) (by omega)
              · obtain ⟨r, ev, u1, u2, u3⟩ := ih (i + 1) y (by omega) (by omega) hy hyl
                refine ⟨r, Ev.step (f := fun k => almanacref12_Small.l0 k y ((i + 1 : Nat) : Int) a l1 l2) (fun k => ?_) ev, u1, u2, fun h => by omega⟩
                simp only [almanacref12_Small.l1]
                rw [if_pos (by omega), if_pos (by omega), rd45_at l1 i hlt, if_pos (by omega), if_neg hy0, wrap_next hlt (by omega)]
          obtain ⟨r, ev, u1, u2, u3⟩ := s1 l1[i].f1.length 0 (x - 1 - (l1[i].f1.length : Int)) (by omega) (by omega) (by omega) (by omega)
          refine ⟨r, ?_, by omega, u2, fun h => ?_⟩
          · refine Ev.step (f := fun k => almanacref12_Small.j1 k x i true a l1 l2) (fun k => ?_) (Ev.step (f := fun k => almanacref12_Small.l1 k (x - 1 - (l1[i].f1.length : Int)) i 0 a l1 l2) (fun k => ?_) ev)
            · simp only [almanacref12_Small.l0]
              rw [if_pos (by omega), decide_eq_true hx0]
            · simp only [almanacref12_Small.j1]
              rw [if_pos trivial, if_pos (by omega), if_pos (by omega), rd45_at l1 i hlt, show wrap64 (x - 1) = x - 1 by unfold wrap64; omega, show wrap64 (x - 1 - (l1[i].f1.length : Int)) = x - 1 - (l1[i].f1.length : Int) by unfold wrap64; omega]
          · obtain ⟨v0, v1, v2, v3⟩ := u3 h
            rw [List.drop_zero] at v1
            have w2 := v2.mono (show x - 1 - (l1[i].f1.length : Int) ≤ x - 1 by omega)
            rw [List.drop_eq_getElem_cons hlt]
            refine ⟨by rw [List.length_cons]; omega, ⟨by rw [List.length_cons]; have := w2.1; omega, fun p hp => ?_⟩, v3.mono (by omega)⟩
            rcases List.mem_cons.1 hp with rfl | hp
            · exact ⟨by omega, fun q hq => Int.le_trans (v1 q hq) (by omega)⟩
            · exact (v2.mono (show x - 1 - (l1[i].f1.length : Int) ≤ x by omega)).2 p hp
        · obtain ⟨r, e, u1, u2, u3⟩ := s2 l2.length 0 x (by omega) (by omega) hx hxl
          refine ⟨r, ?_, u1, u2, fun h => by omega⟩
          refine Ev.step (f := fun k => almanacref12_Small.j1 k x i false a l1 l2) (fun k => ?_) (Ev.step (f := fun k => almanacref12_Small.l2 k x 0 a l1 l2) (fun k => ?_) e)
          · simp only [almanacref12_Small.l0]
            rw [if_pos (by omega), decide_eq_false hx0]
          · simp only [almanacref12_Small.j1]
            rw [if_neg (by simp)]
    obtain ⟨r, ev, u1, u2, u3⟩ := s0 l1.length 0 (left - 1) (by omega) (by omega) (by omega) (by omega)
    refine ⟨r, Ev.step (f := fun k => almanacref12_Small.l0 k (left - 1) 0 a l1 l2) (fun k => ?_) ev, u1, u2, fun h => ?_⟩
    · simp only [almanacref12_Small.f]
      rw [show wrap64 (left - 1) = left - 1 by unfold wrap64; omega]
    · have := u3 h
      rw [List.drop_zero] at this
      exact ⟨by have := this.1; omega, this.2⟩
theorem rlight (a : ByteArray) (l1 : List S45) (l2 : List S25) (hl1 : l1.length ≤ 140737488355328) (hp1 : ∀ p ∈ l1, SzP p) (hl2 : l2.length ≤ 140737488355328) (hp2 : ∀ y ∈ l2, Sz y) :
    ∃ b, Ev (fun k => almanacref12_Light.f k a l1 l2) b ∧ (b = true → PB 5000 l1 ∧ CB 5000 l2) := by
  obtain ⟨r, e, u1, u2, u3⟩ := rsmall 5000 a l1 l2 5000 (by omega) (by omega) (by omega) hl1 hp1 hl2 hp2
  refine ⟨decide (r ≥ 0), ?_, fun h => ?_⟩
  · unfold almanacref12_Light.f
    exact Ev.bind e (Ev.now _)
  · obtain ⟨_, h1, h2⟩ := u3 (of_decide_eq_true h)
    exact ⟨h1.mono (by omega), h2.mono (by omega)⟩
end Go.Proofs.Ytebmbfobmakheaa.PD
namespace Go.Proofs.Ytebmbfobmakheaa.PD
open Go.ChangeShapes Go.WideShapes Go.ChangeAt Go.RowKit Go.Proofs.YtebmbfobmakheaaW.PrintWords
set_option linter.unusedVariables false
theorem op_param : Op Try.prog 77 k77 (fun x => x.f0.size ≤ reachBytes ∧ (x.f1.length * 16 ≤ reachBytes ∧ ∀ v ∈ x.f1, v.size ≤ reachBytes)) :=
  op_iso (fun x : S77 => (x.f0, x.f1)) (fun a => ⟨a.1, a.2⟩) (fun _ => rfl)
    (op_struct (L := [(0, 9), (1, 33)]) Try.underlying77 rfl (by kernel_rfl) (opF_cons (op_string Try.underlying9) (by kernel_rfl) (opF_one (op_slice Try.underlying33 (by kernel_rfl) (by kernel_rfl) (op_string Try.underlying9)) (by kernel_rfl))))
def PropOk (x : S45) : Prop := x.f0.size ≤ reachBytes ∧ (x.f1.length * 40 ≤ reachBytes ∧ ∀ q ∈ x.f1, q.f0.size ≤ reachBytes ∧ (q.f1.length * 16 ≤ reachBytes ∧ ∀ v ∈ q.f1, v.size ≤ reachBytes)) ∧ x.f2.size ≤ reachBytes
theorem op_prop : Op Try.prog 45 k45 PropOk :=
  op_iso (fun x : S45 => (x.f0, x.f1, x.f2)) (fun a => ⟨a.1, a.2.1, a.2.2⟩) (fun _ => rfl)
    (op_struct (L := [(0, 9), (1, 43), (2, 9)]) Try.underlying45 rfl (by kernel_rfl) (opF_cons (op_string Try.underlying9) (by kernel_rfl) (opF_cons (op_slice Try.underlying43 (by kernel_rfl) (by kernel_rfl) op_param) (by kernel_rfl) (opF_one (op_string Try.underlying9) (by kernel_rfl)))))
theorem szP_of {x : S45} (h : PropOk x) : SzP x := by
  obtain ⟨_, ⟨h1, h2⟩, h3⟩ := h
  unfold reachBytes at *
  exact ⟨h3, by omega, fun q hq => ⟨by have := (h2 q hq).2.1; omega, (h2 q hq).2.2⟩⟩
theorem ops_comp : ∀ N : Nat, OpS N Try.prog 25 k25 (fun x => x.f0.size ≤ reachBytes ∧ Sz x)
  | 0 => fun enc w base spare held fuel cs x hN _ _ => absurd hN (Nat.not_lt_zero _)
  | N + 1 => fun enc w base spare held fuel cs x hN h hs => by
    have h1 : OpS (N + 1) Try.prog 25 (Kd.pair Kd.string (Kd.pair (Kd.slice 45 k45) (Kd.slice 25 k25))) (fun x => x.1.size ≤ reachBytes ∧ ((x.2.1.length * 56 ≤ reachBytes ∧ ∀ p ∈ x.2.1, PropOk p) ∧ (x.2.2.length * 64 ≤ reachBytes ∧ ∀ y ∈ x.2.2, y.f0.size ≤ reachBytes ∧ Sz y))) :=
      ops_struct (L := [(0, 9), (1, 22), (2, 23)]) Try.underlying25 rfl (by kernel_rfl) (opfs_cons (op_s N (op_string Try.underlying9)) (by kernel_rfl) (opfs_cons (op_s N (op_slice Try.underlying22 (by kernel_rfl) (by kernel_rfl) op_prop)) (by kernel_rfl) (opfs_one (ops_slice Try.underlying23 (by kernel_rfl) (by kernel_rfl) (ops_comp N)) (by kernel_rfl))))
    obtain ⟨⟨s, p, c⟩, hK, h2, ⟨h3, h4⟩, h5, h6⟩ := h1 enc w base spare held fuel cs x hN h hs
    obtain ⟨_, _, rfl, rfl, ⟨_, _, rfl, ⟨A1, c1, rfl, l1, g1⟩, ⟨A2, c2, rfl, l2, g2⟩⟩⟩ := hK
    refine ⟨⟨s, p, c⟩, k25_mk w ⟨s, p, c⟩ l1 g1 l2 g2, h2, Sz.mk _ ?_ (fun q hq => szP_of (h4 q hq)) ?_ (fun y hy => (h6 y hy).2)⟩
    · show p.length ≤ 140737488355328
      have h3' : p.length * 56 ≤ reachBytes := h3
      unfold reachBytes at h3'
      omega
    · show c.length ≤ 140737488355328
      have h5' : c.length * 64 ≤ reachBytes := h5
      unfold reachBytes at h5'
      omega
set_option maxRecDepth 100000 in
theorem open_comp {H : Type} {enc : TypeId × Value → H} {w : World} {base : Nat} {spare : Nat → Bool} {held : Bool} {r : Reach} {b0 : Nat} {v : Value} {d : DataW H} {p : List MemPlace} (hv : Value.okWide Try.prog w r b0 25 v) (h : DataW.Trod enc Try.prog w base spare held 25 v d p)
    (hs : ∀ n ∈ d.weights Try.prog 25, n ≤ reachBytes) : ∃ (s : ByteArray) (A1 : Option Addr) (c1 : Nat) (l1 : List S45) (A2 : Option Addr) (c2 : Nat) (l2 : List S25), v = .agg #[.string s, .slice A1 l1.length c1, .slice A2 l2.length c2] ∧ Kd.C k45 w A1 l1.length l1 ∧ l1.length ≤ c1 ∧ Kd.C k25 w A2 l2.length l2 ∧ l2.length ≤ c2 ∧ l1.length ≤ 140737488355328 ∧ (∀ q ∈ l1, SzP q) ∧ l2.length ≤ 140737488355328 ∧ ∀ y ∈ l2, Sz y := by
  obtain ⟨cs, rfl, hsz⟩ := okWide_struct Try.underlying25 hv
  obtain ⟨fuel, hf⟩ := h
  obtain ⟨x, hK, _, hx⟩ := ops_comp _ enc w base spare held fuel _ _ (Nat.lt_succ_self _) hf hs
  obtain ⟨A1, c1, A2, c2, hcs, l1, g1, l2, g2⟩ := k25_open hK
  have hcs' : cs.toList = [.string x.f0, .slice A1 x.f1.length c1, .slice A2 x.f2.length c2] := by simpa [Value.cells] using hcs
  exact ⟨x.f0, A1, c1, x.f1, A2, c2, x.f2, by rw [show cs = cs.toList.toArray by simp, hcs'], g1, l1, g2, l2, hx.f1l, hx.f1p, hx.f2l, hx.f2p⟩
theorem own : ownKnob Try.prog.godebug = none := by kernel_rfl
theorem laidOut : laidOutB Try.prog = true := by kernel_rfl
theorem weighs {H : Type} {P : Program} {ts : List TypeId} {ds : List (DataW H)} (h : (DataW.weightsEach P ts ds).all (· ≤ reachBytes) = true) {j : Nat} {t : TypeId} {d : DataW H} (ht : ts[j]? = some t) (hd : ds[j]? = some d) : ∀ n ∈ d.weights P t, n ≤ reachBytes :=
  fun n hn => by simpa using List.all_eq_true.1 h n (DataW.weights_mem_each (j := j) ht hd n hn)
end Go.Proofs.Ytebmbfobmakheaa.PD
namespace Go.Proofs.Ytebmbfobmakheaa.PD
open Go.RowKit Go.Shelf Go.Proofs.YtebmbfobmakheaaW.PrintWords Go.Proofs.YtebmbfobmakheaaW.PrintLast Go.Proofs.YtebmbfobmakheaaW.PrintMore
set_option linter.unusedVariables false
set_option linter.unusedSimpArgs false
structure CellsK {α : Type} (d : Kd α) : Prop where
  K : ∀ {X Y : World} {x : α} {cs : List Value}, (∀ p u, X.cell? p = some u → Y.cell? p = some u) → d.K X x cs → d.K Y x cs
theorem CellsK.C {α : Type} {d : Kd α} (hd : CellsK d) {X Y : World} {A : Option Addr} {n : Nat} {xs : List α} (hc : ∀ p u, X.cell? p = some u → Y.cell? p = some u) (h : d.C X A n xs) : d.C Y A n xs := rows_cells h hc (fun _ _ hk => hd.K hc hk)
theorem ck_string : CellsK Kd.string := ⟨fun _ h => h⟩
theorem ck_slice {α : Type} {d : Kd α} (e : Nat) (hd : CellsK d) : CellsK (Kd.slice e d) := ⟨by
  rintro X Y x cs hc ⟨A, c, rfl, hl, hr⟩
  exact ⟨A, c, rfl, hl, hd.C hc hr⟩⟩
theorem ck_pair {α β : Type} {a : Kd α} {b : Kd β} (ha : CellsK a) (hb : CellsK b) : CellsK (Kd.pair a b) := ⟨by
  rintro X Y x cs hc ⟨c0, c1, rfl, h0, h1⟩
  exact ⟨c0, c1, rfl, ha.K hc h0, hb.K hc h1⟩⟩
theorem ck_iso {α β : Type} {d : Kd α} (f : β → α) (hd : CellsK d) : CellsK (Kd.iso d f) := ⟨fun hc h => hd.K hc h⟩
theorem ck_bot {α : Type} (sz : Nat) (E : List Nat) : CellsK (Kd.bot sz E : Kd α) := ⟨fun _ h => h⟩
theorem ck_upto {α : Type} {F : Kd α → Kd α} {sz : Nat} {E : List Nat} (hF : ∀ d, CellsK d → CellsK (F d)) : ∀ n, CellsK (Kd.upto F sz E n)
  | 0 => ck_bot sz E
  | n + 1 => hF _ (ck_upto hF n)
theorem ck_fix {α : Type} {F : Kd α → Kd α} {sz : Nat} {E : List Nat} {hs : ∀ n, (Kd.upto F sz E n).sz = sz} {hE : ∀ n q, q ∈ (Kd.upto F sz E n).E → q ∈ E} (hF : ∀ d, CellsK d → CellsK (F d)) : CellsK (Kd.fix F sz E hs hE) := ⟨by
  rintro X Y x cs hc ⟨n, h⟩
  exact ⟨n, (ck_upto hF n).K hc h⟩⟩
theorem ck77 : CellsK k77 := ck_iso _ (ck_pair ck_string (ck_slice 9 ck_string))
theorem ck45 : CellsK k45 := ck_iso _ (ck_pair ck_string (ck_pair (ck_slice 77 ck77) ck_string))
theorem ck25 : CellsK k25 := ck_fix (fun _ h => ck_iso _ (ck_pair ck_string (ck_pair (ck_slice 45 ck45) (ck_slice 25 h))))
open Classical in
theorem foot_cells {P : World → Prop} (hP : ∀ X Y : World, (∀ p u, X.cell? p = some u → Y.cell? p = some u) → P X → P Y) {W Y : World} {ok : Nat → Prop} (h : Foot P W ok) (hY : ∀ p u, W.cell? p = some u → ok p.block → Y.cell? p = some u) : P Y := by
  obtain ⟨V, hV⟩ : ∃ V : World, ({ W with heap := W.heap.mapIdx fun i o => if ok i then o else Obj.deferred none } : World) = V := ⟨_, rfl⟩
  have hh : ∀ k : Nat, V.heap[k]? = (W.heap[k]?).map fun o => if ok k then o else Obj.deferred none := fun k => by rw [← hV]; simp [Array.getElem?_mapIdx]
  refine hP V Y (fun p u hp => ?_) (h V (fun k hk _ => ?_))
  · by_cases hk : ok p.block
    · refine hY p u ?_ hk
      rw [← hp]
      refine (World.cell?_of_block ?_).symm
      rw [hh]; simp [hk]
    · exfalso
      unfold World.cell? at hp
      rw [hh] at hp
      cases hw : W.heap[p.block]? with
      | none => rw [hw] at hp; simp at hp
      | some o => rw [hw] at hp; simp [hk] at hp
  · rw [hh]; simp [hk]
theorem foot_move {P : World → Prop} (hP : ∀ X Y : World, (∀ p u, X.cell? p = some u → Y.cell? p = some u) → P X → P Y) {X Y : World} {ok : Nat → Prop} (h : Foot P X ok) (hc : ∀ p u, X.cell? p = some u → ok p.block → Y.cell? p = some u) : Foot P Y ok := fun W' hW =>
  foot_cells hP h (fun p u hp hk => by
    have h1 := hc p u hp hk
    exact (World.cell?_of_block (hW p.block hk (World.block_lt_of_cell? Y _ h1))).trans h1)
theorem FK_move {α : Type} {d : Kd α} (hd : CellsK d) {X Y : World} {ok : Nat → Prop} {x : α} {c : List Value} (h : Kd.FK d X ok x c) (hc : ∀ p u, X.cell? p = some u → ok p.block → Y.cell? p = some u) : Kd.FK d Y ok x c := foot_move (fun _ _ h k => hd.K h k) h hc
theorem N_own {α : Type} {d : Kd α} (hd : CellsK d) {e : Nat} {X Y : World} {base B : Nat} {ok : Nat → Prop} {v : Value} {xs : List α} {row : Option Nat} (h : Kd.N d e X base ok v xs) (hg : X.grownBy Y row) (hr : ∀ r, row = some r → NoZ r ∨ (B ≤ r ∧ ∃ o : Obj, X.heap[r]? = some o ∧ o.isCells = false)) : Kd.N d e Y base ok v xs := by
  have hty := Kd.N_typed h
  obtain ⟨h0, rows, hl, hR, hf⟩ := h
  refine ⟨h0, rows, hl, Kd.R_step hR (fun k hk hlt => hg.block k hlt (fun e => ?_)), fun j x c hx hc => FK_move hd (hf j x c hx hc) (fun p u hp _ => cells_own hg hr p u hp)⟩
  obtain ⟨cells, hcl⟩ := hty k hk.symm
  rcases hr k e.symm with h | ⟨_, o, ho, hoc⟩
  · exact h
  · rw [hcl] at ho; cases ho; cases hoc
theorem drop_take_set {α : Type} (l : List α) (sz i j f : Nat) (u : α) (hf : f < sz) (hij : i ≠ j) : ((l.set (i * sz + f) u).drop (j * sz)).take sz = (l.drop (j * sz)).take sz := by
  apply List.ext_getElem?
  intro k
  by_cases hk : k < sz
  · rw [List.getElem?_take_of_lt hk, List.getElem?_take_of_lt hk, List.getElem?_drop, List.getElem?_drop, List.getElem?_set_ne]
    intro e
    rcases Nat.lt_or_gt_of_ne hij with h | h
    · have : (i + 1) * sz ≤ j * sz := Nat.mul_le_mul_right sz h
      rw [Nat.succ_mul] at this; omega
    · have : (j + 1) * sz ≤ i * sz := Nat.mul_le_mul_right sz h
      rw [Nat.succ_mul] at this; omega
  · rw [List.getElem?_take_eq_none (by omega), List.getElem?_take_eq_none (by omega)]
theorem drop_take_set_same {α : Type} (l : List α) (sz i f : Nat) (u : α) (hf : f < sz) : ((l.set (i * sz + f) u).drop (i * sz)).take sz = ((l.drop (i * sz)).take sz).set f u := by
  rw [List.drop_set, if_neg (by omega), show i * sz + f - i * sz = f by omega, List.take_set]
theorem R_set {sz e g n cap base : Nat} {W : World} {ok : Nat → Prop} {rows : List (List Value)} (h : (Kd.raw sz).R e W base ok (.slice (some ⟨g, 0, none⟩) n cap) rows) (i f : Nat) (u : Value) (hf : f < sz) (hu : u.oneCell' = true) (c : List Value) (hc : rows[i]? = some c) :
    (Kd.raw sz).R e (W.setCell ⟨g, i * sz + f, none⟩ u) base ok (.slice (some ⟨g, 0, none⟩) n cap) (rows.set i (c.set f u)) ∧ W.grownBy (W.setCell ⟨g, i * sz + f, none⟩ u) (some g) := by
  obtain ⟨h0, inner, ho, hl, hr⟩ := h
  have hn : rows.length = n := by
    rcases ho.2 with ⟨h', _⟩ | ⟨g', cap', cur, h', _⟩
    · cases h'
    · injection h' with _ h2 _; exact h2.symm
  rw [hn] at ho
  obtain ⟨s1, s2⟩ := ho.stored (i * sz + f) u
  refine ⟨⟨h0, inner.set (i * sz + f) u, by rw [List.length_set, hn]; exact s1, by rw [List.length_set, List.length_set]; exact hl, fun j x hj => ?_⟩, s2⟩
  rw [List.getElem?_set] at hj
  by_cases hij : i = j
  · subst hij
    have hil : i < rows.length := (List.getElem?_eq_some_iff.1 hc).1
    rw [if_pos rfl, if_pos hil] at hj
    obtain rfl := Option.some.inj hj
    have k1 : (inner.drop (i * sz)).take sz = c := (hr i c hc).1
    have k23 := (hr i c hc).2
    rw [show List.take (Kd.raw sz).sz (List.drop (i * (Kd.raw sz).sz) inner) = c from k1] at k23
    have e : List.take (Kd.raw sz).sz (List.drop (i * (Kd.raw sz).sz) (inner.set (i * sz + f) u)) = c.set f u := (drop_take_set_same inner sz i f u hf).trans (by rw [k1])
    rw [e]
    refine ⟨rfl, by rw [List.length_set]; exact k23.1, fun y hy => ?_⟩
    rcases List.mem_or_eq_of_mem_set hy with h | h
    · exact k23.2 y h
    · rw [h]; exact hu
  · rw [if_neg hij] at hj
    have e : List.take (Kd.raw sz).sz (List.drop (j * (Kd.raw sz).sz) (inner.set (i * sz + f) u)) = List.take (Kd.raw sz).sz (List.drop (j * (Kd.raw sz).sz) inner) := drop_take_set inner sz i j f u hf hij
    rw [e]
    exact hr j x hj
theorem N_get25 {W : World} {base : Nat} {ok : Nat → Prop} {v : Value} {xs : List S25} (h : Kd.N k25 25 W base ok v xs) (i : Nat) (hi : i < xs.length) :
    ∃ g cap A1 c1 A2 c2, v = .slice (some ⟨g, 0, none⟩) xs.length cap ∧ W.cell? ⟨g, i * 3, none⟩ = some (.string xs[i].f0) ∧ W.cell? ⟨g, i * 3 + 1, none⟩ = some (.slice A1 xs[i].f1.length c1) ∧ W.cell? ⟨g, i * 3 + 2, none⟩ = some (.slice A2 xs[i].f2.length c2) ∧ (∀ j, W.frozen? ⟨g, j, none⟩ = false) ∧
      xs[i].f1.length ≤ c1 ∧ Kd.F k45 W (fun k => ok k ∧ k ≠ g) A1 xs[i].f1.length xs[i].f1 ∧ xs[i].f2.length ≤ c2 ∧ Kd.F k25 W (fun k => ok k ∧ k ≠ g) A2 xs[i].f2.length xs[i].f2 := by
  obtain ⟨h0, rows, hl, hR, hf⟩ := h
  obtain ⟨_, inner, ho, hll, hr⟩ := hR
  rw [hl] at ho
  obtain ⟨g, cap, ev⟩ : ∃ g cap, v = .slice (some ⟨g, 0, none⟩) xs.length cap := by
    rcases ho.2 with ⟨_, h'⟩ | ⟨g', cap', cur, h', _⟩
    · omega
    · exact ⟨g', cap', h'⟩
  subst ev
  obtain ⟨c, hc⟩ : ∃ c, rows[i]? = some c := ⟨_, List.getElem?_eq_getElem (by omega)⟩
  have hFK := hf i xs[i] c (List.getElem?_eq_getElem hi) hc
  have hgo : (fun k => ok k ∧ some k ≠ (Value.slice (some ⟨g, 0, none⟩) xs.length cap).ownBlock) = (fun k => ok k ∧ k ≠ g) := funext fun k => propext ⟨fun h => ⟨h.1, fun e => h.2 (by rw [e]; rfl)⟩, fun h => ⟨h.1, fun e => h.2 (by injection e)⟩⟩
  rw [hgo] at hFK
  obtain ⟨A1, c1, A2, c2, rfl, l1, f1, l2, f2⟩ := k25_openF hFK
  have hk1 : (inner.drop (i * 3)).take 3 = [.string xs[i].f0, .slice A1 xs[i].f1.length c1, .slice A2 xs[i].f2.length c2] := (hr i _ hc).1
  have hin : ∀ f, f < 3 → inner[i * 3 + f]? = [Value.string xs[i].f0, .slice A1 xs[i].f1.length c1, .slice A2 xs[i].f2.length c2][f]? := fun f hf => by
    rw [← hk1, List.getElem?_take_of_lt hf, List.getElem?_drop]
  have hat : ∀ f, f < 3 → W.cell? ⟨g, i * 3 + f, none⟩ = inner[i * 3 + f]? := fun f hf => ho.cellAt (i * 3 + f) (by show i * 3 + f < xs.length * 3; omega)
  exact ⟨g, cap, A1, c1, A2, c2, rfl, (hat 0 (by omega)).trans (hin 0 (by omega)), (hat 1 (by omega)).trans (hin 1 (by omega)), (hat 2 (by omega)).trans (hin 2 (by omega)), fun j => ho.frozenAt j, l1, f1, l2, f2⟩
theorem N_put25 {W : World} {base g cap : Nat} {ok : Nat → Prop} {xs : List S25} (h : Kd.N k25 25 W base ok (.slice (some ⟨g, 0, none⟩) xs.length cap) xs) (i : Nat) (hi : i < xs.length) (y : List S45) (A : Option Addr) (c : Nat) (hyc : y.length ≤ c) (hy : Kd.F k45 W (fun k => ok k ∧ k ≠ g) A y.length y) :
    Kd.N k25 25 (W.setCell ⟨g, i * 3 + 1, none⟩ (.slice A y.length c)) base ok (.slice (some ⟨g, 0, none⟩) xs.length cap) (xs.set i { xs[i] with f1 := y }) ∧ W.grownBy (W.setCell ⟨g, i * 3 + 1, none⟩ (.slice A y.length c)) (some g) := by
  obtain ⟨h0, rows, hl, hR, hf⟩ := h
  obtain ⟨cs, hc⟩ : ∃ c, rows[i]? = some c := ⟨_, List.getElem?_eq_getElem (by omega)⟩
  have hFK := hf i xs[i] cs (List.getElem?_eq_getElem hi) hc
  obtain ⟨A1, c1, A2, c2, rfl, l1, f1, l2, f2⟩ := k25_openF hFK
  have hgo : (fun k => ok k ∧ some k ≠ (Value.slice (some ⟨g, 0, none⟩) xs.length cap).ownBlock) = (fun k => ok k ∧ k ≠ g) := funext fun k => propext ⟨fun h => ⟨h.1, fun e => h.2 (by rw [e]; rfl)⟩, fun h => ⟨h.1, fun e => h.2 (by injection e)⟩⟩
  obtain ⟨s1, s2⟩ := R_set hR i 1 (.slice A y.length c) (by decide) rfl _ hc
  have hm : ∀ k, (ok k ∧ some k ≠ (Value.slice (some ⟨g, 0, none⟩) xs.length cap).ownBlock) → k < W.heap.size → (W.setCell ⟨g, i * 3 + 1, none⟩ (.slice A y.length c)).heap[k]? = W.heap[k]? := fun k hk hlt => s2.block k hlt hk.2
  refine ⟨⟨h0, _, by rw [List.length_set, List.length_set]; exact hl, s1, fun j x cj hx hj => ?_⟩, s2⟩
  rw [List.getElem?_set] at hx hj
  by_cases hij : i = j
  · subst hij
    rw [if_pos rfl, if_pos hi] at hx
    rw [if_pos rfl, if_pos (by omega)] at hj
    obtain rfl := Option.some.inj hx
    obtain rfl := Option.some.inj hj
    refine Kd.FK_step ?_ hm
    refine k25_mkF W _ { xs[i] with f1 := y } hyc ?_ l2 f2
    rw [hgo]
    exact hy
  · rw [if_neg hij] at hx hj
    exact Kd.FK_step (hf j x cj hx hj) hm
end Go.Proofs.Ytebmbfobmakheaa.PD
namespace Go.Proofs.Ytebmbfobmakheaa.PD
open Go.RowKit Go.Proofs.YtebmbfobmakheaaW.PrintWords Go.Proofs.YtebmbfobmakheaaW.PrintLast Go.Proofs.YtebmbfobmakheaaW.PrintMore
set_option linter.unusedVariables false
set_option linter.unusedSimpArgs false
def noDefer (ops : Array Oper) : Bool := ops.toList.all fun o => match o.op with | .defer _ => false | _ => true
theorem noDefer_at {ops : Array Oper} (h : noDefer ops = true) {i : Nat} {o : Oper} (ho : ops[i]? = some o) : ∀ c, o.op ≠ .defer c := fun c hc => by
  have := List.all_eq_true.1 h o (Array.mem_toList_iff.2 (Array.mem_of_getElem? ho))
  rw [hc] at this
  cases this
theorem oper_inRound {l n : Nat} {P : Program} {o : Oper} {a : Act} {w : World} {K K' : Act → World → Prop} {Q : Exit → Act → World → Prop} (hd : ∀ c, o.op ≠ .defer c) (hK : ∀ a w, K a w → K' a w) (h : Oper.wp P o a w K Q) : Oper.wpIn (Fence.wide.inRound l) n P o a w K' Q := by
  unfold Oper.wp at h
  unfold Oper.wpIn
  refine ⟨fun _ _ => trivial, ?_⟩
  rw [Oper.semAt_plain _ _ _ hd]
  cases hr : (execOp a.eval o).run P w with
  | ok nx w' =>
    rw [hr] at h
    cases nx with
    | value v => exact hK _ _ h
    | skip => exact hK _ _ h
    | defer d => exact hK _ _ h
    | enter f args =>
      refine ⟨fun hx => Bool.noConfusion hx, ?_⟩
      refine (CallsIn.inRound l (callsIn_wide.2 h)).mono fun e w'' hh => ?_
      cases e with
      | returned v => exact hK _ _ hh
      | panicked c => exact hh
      | outgrown => exact hh
    | row row args =>
      refine ⟨fun hx => Bool.noConfusion hx, fun c cs _ => ?_⟩
      obtain ⟨v, w'', r, s⟩ := h c cs
      exact ⟨v, w'', hK _ _ r, stepsIn_wide.2 s⟩
    | _ => exact h.elim
  | halt hl w' =>
    rw [hr] at h
    cases hl with
    | panic v => exact h
    | _ => exact h.elim
theorem wpAny_inRound {l n : Nat} {P : Program} {md : Region.Mode} {ops : Array Oper} {Q : Exit → Act → World → Prop} (hd : noDefer ops = true) (hQ : ¬ LetsOut Q) : ∀ (fuel : Nat) (listed : Array Bool) (a : Act) (w : World), wpAny P md ops Q fuel listed a w → wpAnyIn (Fence.wide.inRound l) n P md ops Q fuel listed a w
  | 0, _, _, _, h => h
  | fuel + 1, listed, a, w, h => ⟨h.1, fun i hi => by
    have h2 := h.2 i hi
    unfold wpOp at h2
    unfold wpOpIn
    cases ho : ops[i]? with
    | none => rw [ho] at h2; exact wpAny_inRound hd hQ fuel _ _ _ h2
    | some o =>
      rw [ho] at h2
      simp only at h2 ⊢
      split at h2
      · rename_i hw
        rw [if_pos hw]
        exact oper_inRound (noDefer_at hd ho) (wpAny_inRound hd hQ fuel _) (h2.resolve_right (fun h => hQ h.2))
      · rename_i hw
        rw [if_neg hw]
        exact ⟨fun _ _ => trivial, wpAny_inRound hd hQ fuel _ _ _ h2⟩⟩
theorem start_in {l' m : Nat} {P : Program} {ops : Array Oper} {Q : Exit → Act → World → Prop} {S : World → Prop} {ds : List Nat} {id n : Nat} {a : Act} {w : World} (hQ : ¬ LetsOut Q) (hd : noDefer ops = true) (l : Array Bool) (hm : P.follows .mixedOrders = true) (hn : ops.size = n) (hl : Array.replicate n false = l) (hS : S w.drew)
    (h : S w.drew → wpAnyLast P .any ops Q S ds n l a w.drew) : (Code.region id ops true).wpIn (Fence.wide.inRound l') m P Q a w := by
  subst hn
  subst hl
  exact wpIn_region_any hm (wpAny_inRound hd hQ _ _ _ _ (wpAny_of_last _ _ _ _ (h hS)))
end Go.Proofs.Ytebmbfobmakheaa.PD
namespace Go.Proofs.Ytebmbfobmakheaa.PD
open Go.RowKit Go.Shelf Go.Proofs.YtebmbfobmakheaaW.PrintWords Go.Proofs.YtebmbfobmakheaaW.PrintLast Go.Proofs.YtebmbfobmakheaaW.PrintMore
set_option linter.unusedVariables false
set_option linter.unusedSimpArgs false
theorem goesV_ {P : Program} {ops : Array Oper} {Q : Exit → Act → World → Prop} {oi : Oper} {N : Option Tmp} {a : Act} {w : World} {K : Act → World → Prop} {f : FuncId} {fn : Func} {xs : Array Operand} {ts : Array TypeId} {c : Operand} {lb : Array Value} (hf : P.funcs[f]? = some fn) (hname : (fn.name == "runtime.NumGoroutine") = false) (hb : fn.body.isSome = true) (args : Array Value)
    (hw : Region.wanted oi (yielded ops a.tmps) = true) (hN : oi.dst = N) (hop : oi.op = .call { callee := .value c, args := xs, argTypes := ts }) (hc : a.eval c = .func (.func f) #[] lb) (hargs : xs.map a.eval ++ lb = args)
    (h : Calls P f args w fun e w' => ∃ v, e = .returned v ∧ K (a.put N v) w') : if Region.wanted oi (yielded ops a.tmps) = true then Oper.wp P oi a w K Q else K (a.put N undef) w := by
  refine call_ f args hw hN ?_ h
  have he := enters_ hf hname hb args w
  unfold execOp
  simp [hop, resolve, Deferred.ofValue, invoke, hc, hargs, he]
structure Maker (w : World) (fid : Nat) (lb : Array Value) (S : Nat → Prop) (Ok : List S45 → Prop) (G : List S45 → List S45) : Prop where
  calls : ∀ (W : World) (b : Nat) (ok : Nat → Prop) (v : Value) (xs : List S45), Below w.heap.size w W → w.heap.size ≤ b → b ≤ W.heap.size → (∀ k, b ≤ k → ok k) → (∀ k, S k → ok k) → Ok xs → Kd.N k45 45 W b ok v xs →
    Calls Try.prog fid (#[v] ++ lb) W fun e W' => ∃ v', e = .returned v' ∧ Kd.N k45 45 W' b ok v' (G xs) ∧ Below b W W'
theorem Maker.below {w w1 : World} {fid : Nat} {lb : Array Value} {S : Nat → Prop} {Ok : List S45 → Prop} {G : List S45 → List S45} (h : Maker w fid lb S Ok G) (hb : Below w.heap.size w w1) : Maker w1 fid lb S Ok G :=
  ⟨fun W b ok v xs hW hb1 => h.calls W b ok v xs (hb.trans (hW.mono hb.size)) (Nat.le_trans hb.size hb1)⟩
def updP (G : List S45 → List S45) (is : List Nat) (l : List S25) : List S25 := l.mapIdx fun i x => if i ∈ is then { x with f1 := G x.f1 } else x
theorem updP_len (G : List S45 → List S45) (is : List Nat) (l : List S25) : (updP G is l).length = l.length := by unfold updP; simp
theorem updP_nil (G : List S45 → List S45) (l : List S25) : updP G [] l = l := by
  unfold updP
  apply List.ext_getElem?
  intro j
  rw [List.getElem?_mapIdx]
  cases l[j]? <;> simp
theorem updP_at (G : List S45 → List S45) (is : List Nat) (l : List S25) (j : Nat) (hj : j < (updP G is l).length) (hl : j < l.length) (h : j ∉ is) : (updP G is l)[j] = l[j] := by
  apply Option.some.inj
  rw [← List.getElem?_eq_getElem hj, ← List.getElem?_eq_getElem hl]
  unfold updP
  rw [List.getElem?_mapIdx, List.getElem?_eq_getElem hl]
  simp [h]
theorem updP_snoc (G : List S45 → List S45) (is : List Nat) (l : List S25) (i : Nat) (hl : i < l.length) (h : i ∉ is) : updP G (is ++ [i]) l = (updP G is l).set i { l[i] with f1 := G l[i].f1 } := by
  apply List.ext_getElem?
  intro j
  rw [List.getElem?_set, updP_len]
  unfold updP
  rw [List.getElem?_mapIdx, List.getElem?_mapIdx]
  by_cases hij : i = j
  · subst hij
    rw [if_pos rfl, if_pos hl, List.getElem?_eq_getElem hl]
    simp
  · rw [if_neg hij]
    have : (j ∈ is ++ [i]) = (j ∈ is) := by simp [Ne.symm hij]
    simp [this]
def chgP (G : List S45 → List S45) (l : List S25) : List S25 := l.map fun x => if isTz x.f0 = true then x else { x with f1 := G x.f1 }
theorem othI_ge : ∀ (l : List S25) (i j : Nat), j ∈ othI i l → i ≤ j
  | [], _, _, h => by simp [othI] at h
  | x :: r, i, j, h => by
    unfold othI at h
    split at h
    · have := othI_ge r (i + 1) j h; omega
    · rcases List.mem_cons.1 h with rfl | h
      · exact Nat.le_refl _
      · have := othI_ge r (i + 1) j h; omega
theorem othI_lt : ∀ (l : List S25) (i : Nat), (othI i l).Pairwise (· < ·)
  | [], _ => by simp [othI]
  | x :: r, i => by
    unfold othI
    split
    · exact othI_lt r (i + 1)
    · exact List.pairwise_cons.2 ⟨fun j hj => by have := othI_ge r (i + 1) j hj; omega, othI_lt r (i + 1)⟩
theorem othI_mem : ∀ (l : List S25) (i j : Nat) (hj : j < l.length), (i + j ∈ othI i l) ↔ isTz l[j].f0 = false
  | [], _, j, hj => by simp at hj
  | x :: r, i, 0, hj => by
    unfold othI
    simp only [List.getElem_cons_zero, Nat.add_zero]
    split
    · rename_i h
      constructor
      · intro hm; have := othI_ge r (i + 1) i hm; omega
      · intro hf; rw [h] at hf; cases hf
    · rename_i h
      simp at h
      simp [h]
  | x :: r, i, j + 1, hj => by
    have ih := othI_mem r (i + 1) j (by simpa using hj)
    have e : i + 1 + j = i + (j + 1) := by omega
    rw [e] at ih
    unfold othI
    simp only [List.getElem_cons_succ]
    split
    · exact ih
    · rw [List.mem_cons]
      constructor
      · rintro (h | h)
        · omega
        · exact ih.1 h
      · exact fun h => .inr (ih.2 h)
theorem updP_oth (G : List S45 → List S45) (l : List S25) : updP G (othI 0 l) l = chgP G l := by
  unfold updP chgP
  apply List.ext_getElem?
  intro j
  rw [List.getElem?_mapIdx, List.getElem?_map]
  by_cases hj : j < l.length
  · rw [List.getElem?_eq_getElem hj]
    have h := othI_mem l 0 j hj
    rw [Nat.zero_add] at h
    simp only [Option.map_some]
    by_cases ht : isTz l[j].f0 = true
    · rw [if_neg (fun hm => by rw [h.1 hm] at ht; cases ht), if_pos ht]
    · have : isTz l[j].f0 = false := by simpa using ht
      rw [if_pos (h.2 this), if_neg ht]
  · rw [List.getElem?_eq_none (by omega)]; rfl
theorem oth_new {L : List CC} {l : List S25} (hm : (othersF 0 L).map Prod.snd = othI 0 l) {pre : List (CC × Nat)} {x : CC × Nat} (h : pre ++ [x] <+: othersF 0 L) : x.2 ∉ pre.map Prod.snd ∧ nextI pre ≤ x.2 ∧ (∀ j ∈ pre.map Prod.snd, j < nextI pre) := by
  have hp := othI_lt l 0
  rw [← hm] at hp
  have h1 : (pre.map Prod.snd ++ [x.2]).Pairwise (· < ·) := by
    have := (h.map Prod.snd).sublist
    rw [List.map_append] at this
    exact hp.sublist this
  rw [List.pairwise_append] at h1
  obtain ⟨hpp, _, hx⟩ := h1
  have hlt : ∀ j ∈ pre.map Prod.snd, j < x.2 := fun j hj => hx j hj x.2 (by simp)
  refine ⟨fun hc => Nat.lt_irrefl _ (hlt _ hc), ?_, ?_⟩
  · unfold nextI
    cases hg : pre.getLast? with
    | none => exact Nat.zero_le _
    | some p =>
      have := hlt p.2 (List.mem_map.2 ⟨p, List.mem_of_getLast? hg, rfl⟩)
      show p.2 + 1 ≤ x.2
      omega
  · intro j hj
    unfold nextI
    rcases List.eq_nil_or_concat pre with rfl | ⟨q, p, rfl⟩
    · simp at hj
    · rw [List.concat_eq_append] at hpp hj ⊢
      rw [List.map_append, List.pairwise_append] at hpp
      simp only [List.getLast?_append, List.getLast?_singleton, Option.some_or]
      rw [List.map_append, List.mem_append] at hj
      rcases hj with hj | hj
      · have := hpp.2.2 j hj p.2 (by simp)
        omega
      · simp at hj; omega
end Go.Proofs.Ytebmbfobmakheaa.PD
namespace Go.Proofs.Ytebmbfobmakheaa.PD
open Go.RowKit Go.Shelf Go.Proofs.YtebmbfobmakheaaW.PrintWords Go.Proofs.YtebmbfobmakheaaW.PrintLast Go.Proofs.YtebmbfobmakheaaW.PrintMore
attribute [local go_sem] isSome_setCell Oper.semAt_some wide_fn wide_depth
set_option linter.unusedVariables false
set_option linter.unusedSimpArgs false
theorem box3_at {W : World} {S : Nat} {a b c : Value} {t : TypeId} (x y z : Value) (h : W.heap[S]? = some (.cells #[a, b, c] t (0, 0))) :
    (((W.setCell ⟨S, 0, none⟩ x).setCell ⟨S, 1, none⟩ y).setCell ⟨S, 2, none⟩ z).heap[S]? = some (.cells #[x, y, z] t (0, 0)) := by
  have h3 := blk_set (blk_set (blk_set h 0 x) 1 y) 2 z
  simpa using h3
theorem results_box25 (f : Func) (n : Nat) (hf : f.results = [ResultVar.cell n 25].toArray) (tmps : Array Value) (w : World) (S : Nat) (s : ByteArray) (A1 A2 : Option Addr) (n1 c1 n2 c2 : Nat) (h2 : tmps.getD n undef = .pointer (some ⟨S, 0, none⟩)) (q : w.heap[S]? = some (.cells #[.string s, .slice A1 n1 c1, .slice A2 n2 c2] 25 (0, 0))) :
    (results f tmps).run Try.prog w = .ok (.agg #[.string s, .slice A1 n1 c1, .slice A2 n2 c2]) w := by
  have d0 := (blk_cell q 0).trans rfl
  have d1 := (blk_cell q 1).trans rfl
  have d2 := (blk_cell q 2).trans rfl
  unfold results
  rw [hf, List.mapM_toArray]
  simp only [Sem.run_bind, Sem.run_map, List.mapM_cons, List.mapM_nil, h2]
  simp [asAddr, loadVar, go_sem, d0, d1, d2, Try.underlying25]
set_option maxRecDepth 100000 in
set_option maxHeartbeats 8000000 in
theorem changed_walk (fid : Nat) (fn : Func) (hfn : Try.prog.funcs[fid]? = some fn) (hname : (fn.name == "runtime.NumGoroutine") = false) (hbody : fn.body.isSome = true) (lb : Array Value) (Ok : List S45 → Prop) (G : List S45 → List S45) (S P : Nat → Prop)
    (nm : ByteArray) (A1 : Option Addr) (n1 c1 : Nat) (A : Option Addr) (c : Nat) (l : List S25) (w : World) (hmk : Maker w fid lb S Ok G) (hS : ∀ k, S k → P k ∧ k < w.heap.size) (hs : Kd.V k25 25 w w.heap.size P (.slice A l.length c) l) (hll : l.length ≤ 1000000000) (hlim : ∀ x ∈ l, x.f1.length < 2513169434917) (hok : ∀ x ∈ l, Ok x.f1) :
    Calls Try.prog 62 #[.agg #[.string nm, .slice A1 n1 c1, .slice A l.length c], .func (.func fid) #[] lb] w fun e w' => ∃ v : Value, e = .returned (.agg #[.string nm, .slice A1 n1 c1, v]) ∧ Kd.N k25 25 w' w.heap.size (fun k => P k ∨ w.heap.size ≤ k) v (chgP G l) ∧ Below w.heap.size w w' := by
  have HV := Aside0.mk hs
  have HMK := Aside0.mk hmk
  have HLIM := Aside0.mk hlim
  have HOK := Aside0.mk hok
  clear hs hmk hlim hok
  refine (callsIn_wide (n := 51)).1 ?_
  refine callsIn_of_wp_marks Try.func62 rfl trivial ?_ rfl
  simp only [Try.ntmps62, List.size_toArray, List.length_cons, List.length_nil, Nat.reduceAdd, Nat.reduceSub, Array.replicate_succ, Array.replicate_zero, List.push_toArray, List.append_toArray, List.nil_append, List.cons_append]
  gi_wp2
  gi_at_call 94
  obtain ⟨W3, hW3⟩ : ∃ W3, ((w.alloc (Obj.cells #[Value.string nm, Value.slice A1 n1 c1, Value.slice A l.length c] 25)).alloc (Obj.cells #[Value.func (Fn.func fid) #[] lb] 74)).alloc (Obj.cells #[Value.string { data := #[] }, Value.slice none 0 0, Value.slice none 0 0] 25) = W3 := ⟨_, rfl⟩
  have hz3 : W3.heap.size = w.heap.size + 3 := by rw [← hW3]; simp
  have hb3 : Below w.heap.size w W3 := by rw [← hW3]; exact below_alloc (below_alloc (below_alloc (Below.refl _ _) _) _) _
  have kC : W3.heap[w.heap.size]? = some (.cells #[.string nm, .slice A1 n1 c1, .slice A l.length c] 25 (0, 0)) := by
    rw [← hW3]; exact blk_alloc (blk_alloc (heap_alloc_new w _) _) _
  have kO : W3.heap[w.heap.size + 1]? = some (.cells #[.func (.func fid) #[] lb] 74 (0, 0)) := by
    rw [← hW3]; have := heap_alloc_new (w.alloc (.cells #[.string nm, .slice A1 n1 c1, .slice A l.length c] 25)) (.cells #[.func (.func fid) #[] lb] 74); rw [World.size_alloc] at this; exact blk_alloc this _
  have kR : W3.heap[w.heap.size + 1 + 1]? = some (.cells #[.string ⟨#[]⟩, .slice none 0 0, .slice none 0 0] 25 (0, 0)) := by
    rw [← hW3]; have := heap_alloc_new ((w.alloc (.cells #[.string nm, .slice A1 n1 c1, .slice A l.length c] 25)).alloc (.cells #[.func (.func fid) #[] lb] 74)) (.cells #[.string ⟨#[]⟩, .slice none 0 0, .slice none 0 0] 25); rw [World.size_alloc, World.size_alloc] at this; exact this
  rw [hW3]
  clear hW3
  refine (callsIn_wide.2 (clone25 (fun k => P k ∧ k < w.heap.size) A c l W3 (Kd.V_below (Kd.V_bound HV.out) hb3) (by omega))).mono ?_
  rintro e w4 ⟨v, rfl, hn, hb⟩
  obtain ⟨A', c', rfl⟩ := Kd.N_slice hn
  replace kC := blk_below kC hb
  replace kO := blk_below kO hb
  replace kR := blk_below kR hb
  have hz4 := hb.size
  have hb4 := hb3.trans (hb.mono (by omega))
  have cC2 : w4.cell? ⟨w.heap.size, 2, none⟩ = some (.slice A l.length c) := (blk_cell kC 2).trans rfl
  have fC : w4.frozen? ⟨w.heap.size, 2, none⟩ = false := blk_frozen kC 2
  have HN := Aside0.mk hn
  have HB4 := Aside0.mk hb4
  clear hn hb hb3 hb4
  obtain ⟨W5, hW5⟩ : ∃ W5, w4.setCell ⟨w.heap.size, 2, none⟩ (.slice A' l.length c') = W5 := ⟨_, rfl⟩
  have jC := blk_set kC 2 (.slice A' l.length c')
  have jO : W5.heap[w.heap.size + 1]? = some (.cells #[.func (.func fid) #[] lb] 74 (0, 0)) := by rw [← hW5]; exact (Below.heap_setCell _ _ _ _ (by simp)).trans kO
  have jR : W5.heap[w.heap.size + 1 + 1]? = some (.cells #[.string ⟨#[]⟩, .slice none 0 0, .slice none 0 0] 25 (0, 0)) := by rw [← hW5]; exact (Below.heap_setCell _ _ _ _ (by simp; omega)).trans kR
  have HW5 := Aside0.mk hW5
  clear hW5
  have c0 : w4.cell? ⟨w.heap.size, 0, none⟩ = some (.string nm) := (blk_cell kC 0).trans rfl
  have c1' : w4.cell? ⟨w.heap.size, 1, none⟩ = some (.slice A1 n1 c1) := (blk_cell kC 1).trans rfl
  have d0 : (w4.setCell ⟨w.heap.size, 2, none⟩ (.slice A' l.length c')).cell? ⟨w.heap.size, 0, none⟩ = some (.string nm) := (blk_cell jC 0).trans rfl
  have d1 : (w4.setCell ⟨w.heap.size, 2, none⟩ (.slice A' l.length c')).cell? ⟨w.heap.size, 1, none⟩ = some (.slice A1 n1 c1) := (blk_cell jC 1).trans rfl
  have d2 : (w4.setCell ⟨w.heap.size, 2, none⟩ (.slice A' l.length c')).cell? ⟨w.heap.size, 2, none⟩ = some (.slice A' l.length c') := (blk_cell jC 2).trans rfl
  gi_wp2
  rw [HW5.out] at jC ⊢
  gi_at_call 41
  refine (callsIn_wide.2 (comps_made nm A1 n1 c1 A' l.length c' _)).mono ?_
  rintro e w6 ⟨rfl, rfl⟩
  clear d0 d1 d2 cC2 fC c0 c1'
  gi_wp2
  obtain ⟨V, hVe⟩ : ∃ V, W5.alloc (.cells #[.string nm, .slice A1 n1 c1, .slice A' l.length c'] 25) = V := ⟨_, rfl⟩
  have hz5 : W5.heap.size = w4.heap.size := by rw [← HW5.out]; simp [World.setCell]
  have hVz : V.heap.size = w4.heap.size + 1 := by rw [← hVe, World.size_alloc, hz5]
  obtain ⟨okc, hokc⟩ : ∃ okc : Nat → Prop, okc = fun k => P k ∧ k < w.heap.size ∨ w.heap.size + 3 ≤ k := ⟨_, rfl⟩
  have hoks : ∀ k, S k → okc k := fun k hk => by rw [hokc]; exact .inl (hS k hk)
  have hokn : ∀ k, w.heap.size + 3 ≤ k → okc k := fun k hk => by rw [hokc]; exact .inr hk
  have HNV := Aside0.mk (show Kd.N k25 25 V w.heap.size okc (.slice A' l.length c') (updP G [] l) from by
    rw [updP_nil, ← hVe, ← HW5.out]
    refine Kd.N_alloc (Kd.N_mono (Kd.N_lower (Kd.N_far HN.out (p := ⟨w.heap.size, 2, none⟩) (fun k hk => ?_) _) (by omega)) (fun k hk => ?_)) _
    · show k ≠ w.heap.size
      rcases hk with hk | hk <;> omega
    · rw [hokc]; rcases hk with hk | hk
      · exact .inl hk
      · exact .inr (by omega))
  have hgb := Kd.N_base HN.out
  rw [hz3] at hgb
  have HBV := Aside0.mk (show Below w.heap.size w V from by
    rw [← hVe, ← HW5.out]; exact below_alloc (below_set HB4.out (Nat.le_refl _)) _)
  have q1 : V.heap[W5.heap.size]? = some (.cells #[.string nm, .slice A1 n1 c1, .slice A' l.length c'] 25 (0, 0)) := by
    rw [← hVe]; exact heap_alloc_new _ _
  have qC : V.heap[w.heap.size]? = some (.cells #[.string nm, .slice A1 n1 c1, .slice A' l.length c'] 25 (0, 0)) := by
    rw [← hVe]; exact blk_alloc jC _
  have qO : V.heap[w.heap.size + 1]? = some (.cells #[.func (.func fid) #[] lb] 74 (0, 0)) := by
    rw [← hVe]; exact blk_alloc jO _
  have qR : V.heap[w.heap.size + 1 + 1]? = some (.cells #[.string ⟨#[]⟩, .slice none 0 0, .slice none 0 0] 25 (0, 0)) := by
    rw [← hVe]; exact blk_alloc jR _
  rw [hVe]
  have HOC := Aside0.mk hokc
  clear hokc hVe HN HB4 jC jO jR kC kO kR HW5
  obtain ⟨L, hLl, hOk, hRd⟩ := cc_of (by have := (Kd.N_reads' HNV.out).2.2; rw [updP_nil] at this; exact this)
  have HOKC := Aside0.mk hOk
  have HMAP := Aside0.mk (oth_map L l 0 hLl (fun j hi hj => (hOk j hi hj).1))
  have HRD := Aside0.mk hRd
  clear hOk hRd
  have hLm : L.length ≤ 9223372036854775807 := by omega
  obtain ⟨I, hI⟩ : ∃ I : List (CC × Nat) → World → Prop, I = fun pre W => Kd.N k25 25 W w.heap.size okc (.slice A' l.length c') (updP G (pre.map Prod.snd) l) ∧ RdAt A' L (nextI pre) W ∧ W.heap[w.heap.size]? = some (.cells #[.string nm, .slice A1 n1 c1, .slice A' l.length c'] 25 (0, 0)) ∧ W.heap[w.heap.size + 1]? = some (.cells #[.func (.func fid) #[] lb] 74 (0, 0)) ∧ W.heap[w.heap.size + 1 + 1]? = some (.cells #[.string ⟨#[]⟩, .slice none 0 0, .slice none 0 0] 25 (0, 0)) ∧ Below w.heap.size w W := ⟨_, rfl⟩
  have HIV := Aside0.mk (show I [] V by rw [hI]; exact ⟨HNV.out, HRD.out, qC, qO, qR, HBV.out⟩)
  have HI0 := Aside0.mk (show OwnZ NoZ V.heap.size I by
    rw [hI]
    rintro s X Y row ⟨h1, h2, h3, h4, h5, h6⟩ hg hr
    refine ⟨N_own ck25 h1 hg hr, fun j hj hl => ?_, cell_own h3 hg hr, cell_own h4 hg hr, cell_own h5 hg hr, below_own h6 (by omega) hg hr⟩
    obtain ⟨ad, e, h0, h1, h2⟩ := h2 j hj hl
    exact ⟨ad, e, cells_own hg hr _ _ h0, cells_own hg hr _ _ h1, cells_own hg hr _ _ h2⟩)
  have hlr : (.slice A' L.length c' : Value) = .slice A' l.length c' := by rw [hLl]
  refine range_z (n₀ := w.heap.size) (Z := NoZ) (gf := 79) (lb := #[.pointer (some ⟨W5.heap.size, 0, none⟩)]) (En := fun x ar _ => ar = encC x) (xs := othersF 0 L) (Rd := fun pre W => RdAt A' L (nextI pre) W) (Own := fun _ _ => False) rfl (enters_of Try.func79 (by kernel_rfl) rfl) (by omega) (fun b hb => hb.elim)
    (fun l' J Jx W hW hJ hJx hRd _ _ hY h0 => (callsIn_wide (n := 51)).1 (comps_in A' c' L hLm nm A1 n1 c1 l' W5.heap.size w.heap.size J Jx W hJ hRd (fun pre x W1 h1 h2 => hY pre x _ W1 h1 h2 rfl) (by rw [hlr]; exact (hW.block W5.heap.size (by omega)).trans q1) h0)) (fun x ar _ e => by rw [e]; rfl)
    I (fun pre W h => by rw [hI] at h; exact h.2.1) (fun cd pre W => False) HI0.out (fun cd => fun s X Y row h hg hr => h) (OwnS.none _ _ _) (fun cd => OwnS.none _ _ _) HIV.out
    (fun x a' W => ∃ gk, V.heap.size ≤ gk ∧ a' = { tmps := #[.agg #[.string nm, .slice A1 n1 c1, .slice A l.length c], .func (.func fid) #[] lb, .pointer (some ⟨w.heap.size, 0, none⟩), .pointer (some ⟨w.heap.size + 1, 0, none⟩), .pointer (some ⟨w.heap.size + 1 + 1, 0, none⟩), .int .i64 x.2, .pointer (some ⟨gk, 0, none⟩), .pointer (some ⟨w.heap.size, 2, none⟩), .slice A l.length c, .slice A' l.length c', .pointer (some ⟨w.heap.size, 2, none⟩), .agg #[.string nm, .slice A1 n1 c1, .slice A' l.length c'], .func (.func 79) #[] #[.pointer (some ⟨W5.heap.size, 0, none⟩)], .int .i64 x.2, x.1.enc, undef, undef, undef, undef, undef, undef, undef, undef, undef, undef, undef], defers := [] } ∧ W.heap[gk]? = some (.cells x.1.cells 25 (0, 0)))
    (fun x a' _ X Y row h hg hr => by
      obtain ⟨gk, hG, e, hb⟩ := h
      exact ⟨gk, hG, e, cell_own hb hg hr⟩) ?assign ?body ?done ?stop
  case assign =>
    rintro l' pre x ar W K hI1 hpx rfl hW hK
    gi_wp2
    have hb : Below W.heap.size W (W.alloc (.cells x.1.cells 25)) := below_alloc (Below.refl _ _) _
    refine hK _ _ ((kf_below hb).koS (fun _ h => h)) (hb.mono (by omega)) (fun _ h => h.elim) (HI0.out.below hI1 hb) ⟨W.heap.size, by omega, by simp, heap_alloc_new W _⟩
  case body =>
    rintro l' pre x a' W hI1 hpx hWs ⟨gk, hG, rfl, hb⟩
    have HI1 := Aside0.mk hI1
    rw [hI] at hI1
    obtain ⟨h1, h2, hC, hO, hR, hBW0⟩ := hI1
    obtain ⟨hxi, hxe⟩ := oth_at (p := x) (hpx.subset (List.mem_append_right _ List.mem_cons_self))
    have hxl : x.2 < l.length := by omega
    obtain ⟨hnew, hnx, hpn⟩ := oth_new HMAP.out hpx
    have hxu : x.2 < (updP G (pre.map Prod.snd) l).length := by rw [updP_len]; exact hxl
    obtain ⟨g, cap, A1', c1', A2', c2', ev, e0, e1, e2, ef, le1, f1, le2, f2⟩ := N_get25 h1 x.2 hxu
    have hup := updP_at G (pre.map Prod.snd) l x.2 hxu hxl hnew
    rw [hup] at e0 e1 e2 le1 f1 le2 f2
    rw [updP_len] at ev
    have hgw := hgb g (by rw [ev]; rfl)
    have hgV := Kd.N_lt HNV.out g (by rw [ev]; rfl)
    injection ev with eA _ ecap
    subst eA
    subst ecap
    obtain ⟨ad, ead, r0, r1, r2⟩ := h2 x.2 hnx hxi
    injection ead with ead
    subst ead
    rw [add_at, hxe, Nat.zero_add] at r1
    have er : Value.slice A1' l[x.2].f1.length c1' = .slice x.1.a1 x.1.n1 x.1.c1 := Option.some.inj (e1.symm.trans r1)
    injection er with ea1 hk2 ec1
    subst ea1
    subst ec1
    have hlx := HLIM.out l[x.2] (List.getElem_mem hxl)
    have HVk := Aside0.mk (show Kd.V k45 45 W.drew W.drew.heap.size (fun k => okc k ∧ k ≠ g) (.slice x.1.a1 l[x.2].f1.length x.1.c1) l[x.2].f1 from Kd.V_drew (Kd.V_mk le1 f1))
    have hC6 : W.drew.heap[w.heap.size]? = some (.cells #[.string nm, .slice A1 n1 c1, .slice (some ⟨g, 0, none⟩) l.length c'] 25 (0, 0)) := hC
    have hO6 : W.drew.heap[w.heap.size + 1]? = some (.cells #[.func (.func fid) #[] lb] 74 (0, 0)) := hO
    have hG6 : W.drew.heap[gk]? = some (.cells x.1.cells 25 (0, 0)) := hb
    have hBW := Aside0.mk (show Below w.heap.size w W.drew from below_drew hBW0)
    have hWs0 : w.heap.size ≤ W.drew.heap.size := hBW0.size
    have hWd : W.drew.heap.size = W.heap.size := rfl
    have s0 : W.drew.cell? ⟨w.heap.size, 2, none⟩ = some (.slice (some ⟨g, 0, none⟩) l.length c') := (blk_cell hC6 2).trans rfl
    have s1 : W.drew.cell? ⟨w.heap.size + 1, 0, none⟩ = some (.func (.func fid) #[] lb) := (blk_cell hO6 0).trans rfl
    have s2 : W.drew.cell? ⟨gk, 1, none⟩ = some (.slice x.1.a1 l[x.2].f1.length x.1.c1) := (blk_cell hG6 1).trans (by rw [hk2]; rfl)
    have hgc0 := Aside0.mk (show ∀ W', Below W.drew.heap.size W.drew W' → W'.cell? ⟨g, x.2 * 3 + 1, none⟩ = some (.slice x.1.a1 l[x.2].f1.length x.1.c1) from fun W' hb => (hb.cell (World.block_lt_of_cell? W.drew _ e1)).trans e1)
    have hgf0 := Aside0.mk (show ∀ W', Below W.drew.heap.size W.drew W' → W'.frozen? ⟨g, x.2 * 3 + 1, none⟩ = false from fun W' hb => by
      obtain ⟨cells, hcl⟩ := Kd.N_typed h1 g rfl
      exact blk_frozen (blk_below (w := W.drew) hcl hb) _)
    have H1 := Aside0.mk h1
    have HK2 := Aside0.mk hk2
    clear hk2
    have H2 := Aside0.mk h2
    have hR6 := Aside0.mk hR
    clear h1 h2 e0 e1 e2 ef f1 f2 r0 r1 r2 hC hO hb hR le1 le2 hup
    gi_wp2
    refine start_in (n := 11) (S := fun w' => w'.cell? ⟨w.heap.size, 2, none⟩ = some (.slice (some ⟨g, 0, none⟩) l.length c') ∧ w'.cell? ⟨w.heap.size + 1, 0, none⟩ = some (.func (.func fid) #[] lb) ∧ w'.cell? ⟨gk, 1, none⟩ = some (.slice x.1.a1 l[x.2].f1.length x.1.c1)) (ds := [10]) (by rintro ⟨_, _, h_⟩; exact h_) (by kernel_rfl) #[false, false, false, false, false, false, false, false, false, false, false] (by kernel_rfl) rfl rfl ⟨s0, s1, s2⟩ (fun hHeld => ?_)
    clear s0 s1 s2
    refine pure_ (i := 0) (N := some 15) (v := ?_) (a' := ?_) #[true, false, false, false, false, false, false, false, false, false, false] rfl rfl (by kernel_rfl) (fun _ _ _ h => h) (Or.inl ⟨by rfl, ?_⟩) ?_ ?_
    rotate_left
    · intro w'
      go_simp
      with_reducible rfl
    rotate_left
    · simp only [Act.put, List.setIfInBounds_toArray, List.set_cons_zero, List.set_cons_succ, i64_w, i32_w]
      rfl
    refine take_ (i := 1) (N := some 16) (v := ?_) (a' := ?_) #[true, true, false, false, false, false, false, false, false, false, false] rfl rfl (by kernel_rfl) (fun _ _ _ h => h) (Or.inl ⟨by rfl, ?_⟩) hHeld ?_ ?_
    rotate_left
    · rintro w' ⟨s0, s1, s2⟩
      go_simp
      with_reducible rfl
    rotate_left
    · simp only [Act.put, List.setIfInBounds_toArray, List.set_cons_zero, List.set_cons_succ, i64_w, i32_w]
      rfl
    refine pure_ (i := 2) (N := some 17) (v := ?_) (a' := ?_) #[true, true, true, false, false, false, false, false, false, false, false] rfl rfl (by kernel_rfl) (fun _ _ _ h => h) (Or.inl ⟨by rfl, ?_⟩) ?_ ?_
    rotate_left
    · intro w'
      go_simp
      with_reducible rfl
    rotate_left
    · simp only [Act.put, List.setIfInBounds_toArray, List.set_cons_zero, List.set_cons_succ, i64_w, i32_w]
      rfl
    refine take_ (i := 3) (N := some 18) (v := ?_) (a' := ?_) #[true, true, true, true, false, false, false, false, false, false, false] rfl rfl (by kernel_rfl) (fun _ _ _ h => h) (Or.inl ⟨by rfl, ?_⟩) hHeld ?_ ?_
    rotate_left
    · rintro w' ⟨s0, s1, s2⟩
      go_simp
      with_reducible rfl
    rotate_left
    · simp only [Act.put, List.setIfInBounds_toArray, List.set_cons_zero, List.set_cons_succ, i64_w, i32_w]
      rfl
    refine pure_ (i := 4) (N := some 19) (v := ?_) (a' := ?_) #[true, true, true, true, true, false, false, false, false, false, false] rfl rfl (by kernel_rfl) (fun _ _ _ h => h) (Or.inl ⟨by rfl, ?_⟩) ?_ ?_
    rotate_left
    · intro w'
      go_simp
      with_reducible rfl
    rotate_left
    · simp only [Act.put, List.setIfInBounds_toArray, List.set_cons_zero, List.set_cons_succ, i64_w, i32_w]
      rfl
    refine take_ (i := 5) (N := some 20) (v := ?_) (a' := ?_) #[true, true, true, true, true, true, false, false, false, false, false] rfl rfl (by kernel_rfl) (fun _ _ _ h => h) (Or.inl ⟨by rfl, ?_⟩) hHeld ?_ ?_
    rotate_left
    · rintro w' ⟨s0, s1, s2⟩
      go_simp
      with_reducible rfl
    rotate_left
    · simp only [Act.put, List.setIfInBounds_toArray, List.set_cons_zero, List.set_cons_succ, i64_w, i32_w]
      rfl
    refine one_ (i := 6) (N := some 21) #[true, true, true, true, true, true, true, false, false, false, false] rfl rfl (by kernel_rfl) (by decide) (fun K hK => ?_)
    refine goes_ Try.func95 (by kernel_rfl) rfl #[.slice x.1.a1 l[x.2].f1.length x.1.c1] (by rfl) rfl rfl (by (try simp only [List.map_toArray, List.map_cons, List.map_nil]); first | done | rfl) ?_
    refine (clone45 _ _ _ l[x.2].f1 _ HVk.out hlx).mono ?_
    rintro e w7 ⟨v7, rfl, hn7, hb7⟩
    refine ⟨_, rfl, ?_⟩
    have hC7 := blk_below hC6 hb7
    have hO7 := blk_below hO6 hb7
    have hG7 := blk_below hG6 hb7
    have HN7 := Aside0.mk hn7
    have HB7 := Aside0.mk hb7
    clear hn7 hb7
    refine hK.out _ _ (⟨(blk_cell hC7 2).trans rfl, (blk_cell hO7 0).trans rfl, (blk_cell hG7 1).trans (by rw [HK2.out]; rfl)⟩) (fun hHeld => ?_)
    clear hK K
    refine norm_ (a' := ?_) ?_ ?_
    rotate_left
    · show Act.put _ (some 21) _ = _
      simp only [Act.put, List.setIfInBounds_toArray, List.set_cons_zero, List.set_cons_succ, i64_w, i32_w]
      rfl
    have HM7 := Aside0.mk (HMK.out.calls w7 W.drew.heap.size (fun k => okc k ∧ k ≠ g) v7 l[x.2].f1 (hBW.out.trans (HB7.out.mono hWs0)) hWs0 HB7.out.size (fun k hk => ⟨hokn _ (by omega), by omega⟩) (fun k hk => ⟨hoks k hk, by have := (hS k hk).2; omega⟩) (HOK.out _ (List.getElem_mem hxl)) (Kd.N_mono HN7.out (fun k hk => hk.elim id (fun hk => ⟨hokn _ (by omega), by omega⟩))))
    refine one_ (i := 7) (N := some 22) #[true, true, true, true, true, true, true, true, false, false, false] rfl rfl (by kernel_rfl) (by decide) (fun K hK => ?_)
    refine goesV_ hfn hname hbody (#[v7] ++ lb) (by rfl) rfl rfl (by rfl) (by (try simp only [List.map_toArray, List.map_cons, List.map_nil]); first | done | rfl) ?_
    refine HM7.out.mono ?_
    rintro e w8 ⟨v8, rfl, hn8, hb8⟩
    refine ⟨_, rfl, ?_⟩
    have hb8' : Below W.drew.heap.size W.drew w8 := HB7.out.trans hb8
    have hC8 := blk_below hC6 hb8'
    have hO8 := blk_below hO6 hb8'
    have hG8 := blk_below hG6 hb8'
    have HN8 := Aside0.mk hn8
    have HB8 := Aside0.mk hb8'
    clear hn8 hb8 hb8'
    refine hK.out _ _ (⟨(blk_cell hC8 2).trans rfl, (blk_cell hO8 0).trans rfl, (blk_cell hG8 1).trans (by rw [HK2.out]; rfl)⟩) (fun hHeld => ?_)
    clear hK K
    refine norm_ (a' := ?_) ?_ ?_
    rotate_left
    · show Act.put _ (some 22) _ = _
      simp only [Act.put, List.setIfInBounds_toArray, List.set_cons_zero, List.set_cons_succ, i64_w, i32_w]
      rfl
    refine pure_ (i := 8) (N := some 23) (v := ?_) (a' := ?_) #[true, true, true, true, true, true, true, true, true, false, false] rfl rfl (by kernel_rfl) (fun _ _ _ h => h) (Or.inl ⟨by rfl, ?_⟩) ?_ ?_
    rotate_left
    · intro w'
      go_simp
      with_reducible rfl
    rotate_left
    · simp only [Act.put, List.setIfInBounds_toArray, List.set_cons_zero, List.set_cons_succ, i64_w, i32_w]
      rfl
    refine pure_ (i := 9) (N := some 24) (v := ?_) (a' := ?_) #[true, true, true, true, true, true, true, true, true, true, false] rfl rfl (by kernel_rfl) (fun _ _ _ h => h) (Or.inl ⟨by rfl, ?_⟩) ?_ ?_
    rotate_left
    · intro w'
      go_simp
      with_reducible rfl
    rotate_left
    · simp only [Act.put, List.setIfInBounds_toArray, List.set_cons_zero, List.set_cons_succ, i64_w, i32_w]
      rfl
    obtain ⟨A8, c8, e8⟩ := Kd.N_slice HN8.out
    subst e8
    have hgc := hgc0.out _ (HB8.out)
    have hgf : w8.frozen? ⟨g, x.2 * 3 + 1, none⟩ = false := hgf0.out _ HB8.out
    refine last_ (i := 10) (N := none) #[true, true, true, true, true, true, true, true, true, true, true] rfl rfl (by kernel_rfl) (by decide) (fun K hKK => ?_)
    refine skip_ (w1 := ?_) (by rfl) rfl ?_ ?_
    rotate_left
    · go_simp
      rfl
    refine hKK.out _ _ ?_
    clear hKK K
    refine done_ (by kernel_rfl) ?_
    have hb8 := HB8.out
    have hz8 := hb8.size
    have hnb : Kd.N k25 25 w8 w.heap.size okc (.slice (some ⟨g, 0, none⟩) (updP G (pre.map Prod.snd) l).length c') (updP G (pre.map Prod.snd) l) := by
      rw [updP_len]; exact Kd.N_below (w := W.drew) (Kd.N_drew H1.out) hb8
    obtain ⟨hput, hgrow⟩ := N_put25 hnb x.2 hxu (G l[x.2].f1) A8 c8 (Kd.N_reads' HN8.out).2.1 (Kd.N_F HN8.out)
    rw [updP_at G (pre.map Prod.snd) l x.2 hxu hxl hnew, updP_len, ← updP_snoc G (pre.map Prod.snd) l x.2 hxl hnew] at hput
    have far : ∀ k, k ≠ g → (w8.setCell ⟨g, x.2 * 3 + 1, none⟩ (.slice A8 (G l[x.2].f1).length c8)).heap[k]? = w8.heap[k]? := fun k hk => Below.heap_setCell _ _ _ k hk
    have hblk : ∀ k, k < W.drew.heap.size → k ≠ g → (w8.setCell ⟨g, x.2 * 3 + 1, none⟩ (.slice A8 (G l[x.2].f1).length c8)).heap[k]? = W.heap[k]? := fun k hk hn => (far k hn).trans (hb8.block k hk)
    have hgw' : w.heap.size ≤ g := by omega
    have hbl : Below w.heap.size W (w8.setCell ⟨g, x.2 * 3 + 1, none⟩ (.slice A8 (G l[x.2].f1).length c8)) := ((below_drew (Below.refl W.heap.size W)).trans hb8).mono hBW0.size |>.trans (below_gb hgrow (by omega) hgw')
    refine ⟨⟨?_, fun i o hi ho _ => ?_, fun k h => h.elim⟩, hbl, fun _ h => h.elim, ?_⟩
    · have := hgrow.size; omega
    · have hil := (Array.getElem?_eq_some_iff.1 ho).1
      exact (hblk i (by omega) (by omega)).trans ho
    · rw [hI]
      refine ⟨?_, fun j hj hl => ?_, ?_, ?_, ?_, hBW0.trans hbl⟩
      · rw [List.map_append]; exact hput
      · rw [nextI_snoc] at hj
        obtain ⟨ad, e, h0, h1, h2⟩ := H2.out j (by omega) hl
        injection e with e
        subst e
        rw [add_at, Nat.zero_add] at h0 h1 h2
        have mv : ∀ (o : Nat) (u : Value), o ≠ x.2 * 3 + 1 → W.cell? ⟨g, o, none⟩ = some u → (w8.setCell ⟨g, x.2 * 3 + 1, none⟩ (.slice A8 (G l[x.2].f1).length c8)).cell? ⟨g, o, none⟩ = some u := fun o u ho hc => by
          have hne : (⟨g, x.2 * 3 + 1, none⟩ : Addr) ≠ ⟨g, o, none⟩ := fun e => ho (by injection e with _ e; exact e.symm)
          refine (World.cell?_setCell_other _ _ _ _ hne).trans ?_
          exact (hb8.cell (World.block_lt_of_cell? W.drew _ hc)).trans hc
        refine ⟨⟨g, 0, none⟩, rfl, ?_, ?_, ?_⟩
        · rw [add_at, Nat.zero_add]; exact mv (j * 3) _ (by omega) h0
        · rw [add_at, Nat.zero_add]; exact mv (j * 3 + 1) _ (by omega) h1
        · rw [add_at, Nat.zero_add]; exact mv (j * 3 + 2) _ (by omega) h2
      · exact (far _ (by omega)).trans hC8
      · exact (far _ (by omega)).trans hO8
      · exact (far _ (by omega)).trans ((hb8.block _ (by have := hBW0.size; omega)).trans hR6.out)
  case done =>
    rintro D2 W hD2 hI1 hK
    rw [hI] at hI1
    obtain ⟨h1, h2, hC, hO, hR, hBW⟩ := hI1
    rw [HMAP.out, updP_oth] at h1
    have H1 := Aside0.mk h1
    have HR := Aside0.mk hR
    have c0 : W.cell? ⟨w.heap.size, 0, none⟩ = some (.string nm) := (blk_cell hC 0).trans rfl
    have c1' : W.cell? ⟨w.heap.size, 1, none⟩ = some (.slice A1 n1 c1) := (blk_cell hC 1).trans rfl
    have c2' : W.cell? ⟨w.heap.size, 2, none⟩ = some (.slice A' l.length c') := (blk_cell hC 2).trans rfl
    have r0 : W.cell? ⟨w.heap.size + 1 + 1, 0, none⟩ = some (.string ⟨#[]⟩) := (blk_cell hR 0).trans rfl
    have r1 : W.cell? ⟨w.heap.size + 1 + 1, 1, none⟩ = some (.slice none 0 0) := (blk_cell hR 1).trans rfl
    have r2 : W.cell? ⟨w.heap.size + 1 + 1, 2, none⟩ = some (.slice none 0 0) := (blk_cell hR 2).trans rfl
    have t0 : W.frozen? ⟨w.heap.size + 1 + 1, 0, none⟩ = false := blk_frozen hR 0
    have t1 : W.frozen? ⟨w.heap.size + 1 + 1, 1, none⟩ = false := blk_frozen hR 1
    have t2 : W.frozen? ⟨w.heap.size + 1 + 1, 2, none⟩ = false := blk_frozen hR 2
    clear h1 h2 hC hO hR
    gi_wp2
    have hne : ∀ k, k ≠ w.heap.size + 1 + 1 → (((W.setCell ⟨w.heap.size + 1 + 1, 0, none⟩ (.string nm)).setCell ⟨w.heap.size + 1 + 1, 1, none⟩ (.slice A1 n1 c1)).setCell ⟨w.heap.size + 1 + 1, 2, none⟩ (.slice A' l.length c')).heap[k]? = W.heap[k]? := fun k hk =>
      ((Below.heap_setCell _ _ _ k hk).trans (Below.heap_setCell _ _ _ k hk)).trans (Below.heap_setCell _ _ _ k hk)
    refine ⟨by simp, .inl ⟨_, _, rfl, run_takeDeferred ((hne D2 (by omega)).trans hK), ?_⟩⟩
    refine ⟨_, results_box25 _ 4 rfl _ _ (w.heap.size + 1 + 1) nm A1 (A') n1 c1 l.length c' rfl ((World.putObj_heap_other (by omega)).trans (box3_at _ _ _ HR.out)), _, rfl, ?_, ?_⟩
    · refine Kd.N_mono (N_own ck25 (B := 0) (Kd.N_step H1.out (fun k hk hlt => ?_)) (grownBy_putObj' _ D2 _) (fun r e => ?_)) (fun k hk => ?_)
      · have hk' : P k ∧ k < w.heap.size ∨ w.heap.size + 3 ≤ k := by have h_ := hk; rw [HOC.out] at h_; exact h_
        exact hne k (by rcases hk' with hk' | hk' <;> omega)
      · cases e; exact .inr ⟨Nat.zero_le _, _, (hne D2 (by omega)).trans hK, rfl⟩
      · have hk' : P k ∧ k < w.heap.size ∨ w.heap.size + 3 ≤ k := by have h_ := hk; rw [HOC.out] at h_; exact h_
        rcases hk' with hk' | hk'
        · exact .inl hk'.1
        · exact .inr (by omega)
    · exact below_put _ (by omega) |> (below_set (below_set (below_set hBW (by show w.heap.size ≤ w.heap.size + 1 + 1; omega)) (by show w.heap.size ≤ w.heap.size + 1 + 1; omega)) (by show w.heap.size ≤ w.heap.size + 1 + 1; omega)).trans
  case stop =>
    rintro D2 cd pre W hD2 hpre h hK
    exact h.elim
end Go.Proofs.Ytebmbfobmakheaa.PD
namespace Go.Proofs.Ytebmbfobmakheaa.PD
open Go.RowKit Go.Proofs.YtebmbfobmakheaaW.PrintWords Go.Proofs.YtebmbfobmakheaaW.PrintLast Go.Proofs.YtebmbfobmakheaaW.PrintMore
attribute [local go_sem] isSome_setCell max2_int min2_int max_two min_two
set_option linter.unusedVariables false
set_option linter.unusedSimpArgs false
def isAtt (s : ByteArray) : Bool := s.toList == ([65, 84, 84, 69, 78, 68, 69, 69] : List UInt8)
set_option maxRecDepth 100000 in
set_option maxHeartbeats 1600000 in
theorem only11_calls (ab : Nat) (addr s : ByteArray) (A : Option Addr) (n c : Nat) (t : ByteArray) (W : World) (hG : W.heap[ab]? = some (.cells #[.string addr] 9 (0, 0))) (ha : shortB addr = true) (ht : isAtt s = true → shortB t = true) :
    Calls Try.prog 65 (#[.agg #[.string s, .slice A n c, .string t]] ++ #[.pointer (some ⟨ab, 0, none⟩)]) W fun e W' => e = .returned (.bool (isAtt s && !alikeB t addr)) ∧ Below W.heap.size W W' := by
  have hc : (W.alloc (.cells #[.string s, .slice A n c, .string t] 45)).cell? ⟨ab, 0, none⟩ = some (.string addr) := (blk_cell (blk_alloc hG _) 0).trans rfl
  have HB0 := Aside0.mk (below_alloc (Below.refl W.heap.size W) (.cells #[.string s, .slice A n c, .string t] 45))
  cases hn : isAtt s with
  | true =>
    have q3 : (s.toList == ([65, 84, 84, 69, 78, 68, 69, 69] : List UInt8)) = true := hn
    have q4 : (s.toList = ([65, 84, 84, 69, 78, 68, 69, 69] : List UInt8)) = True := eq_true (beq_iff_eq.1 hn)
    have HT := Aside0.mk (ht hn)
    clear ht hn
    go_enter Try.func65, Try.ntmps65
    go_wp2_with (go_at_call 48; refine (alike_calls t addr HT.out ha _).mono ?_; rintro e w5 ⟨rfl, hb5⟩; have HB5 := Aside0.mk (below_step HB0.out hb5); clear hb5)
    go_ret
    exact ⟨by simp, HB5.out⟩
  | false =>
    have q3 : (s.toList == ([65, 84, 84, 69, 78, 68, 69, 69] : List UInt8)) = false := hn
    have q4 : (s.toList = ([65, 84, 84, 69, 78, 68, 69, 69] : List UInt8)) = False := eq_false (beq_eq_false_iff_ne.1 hn)
    clear ht hn
    go_enter Try.func65, Try.ntmps65
    go_wp2
    go_ret
    exact ⟨by simp, HB0.out⟩
def onlyF (addr : ByteArray) (l : List S45) : List S45 := l.filter fun x => !(isAtt x.f0 && !alikeB x.f2 addr)
theorem base_far {W : World} {b k : Nat} {ok : Nat → Prop} {v : Value} {xs : List S45} (h : Kd.N k45 45 W b ok v xs) (hk : k < b) : some k ≠ v.ownBlock := fun e => by have := Kd.N_base h k e.symm; omega
set_option maxRecDepth 100000 in
set_option maxHeartbeats 1600000 in
theorem only1_maker (w : World) (ab : Nat) (addr : ByteArray) (hG : w.heap[ab]? = some (.cells #[.string addr] 9 (0, 0))) (ha : shortB addr = true) :
    Maker w 63 #[.pointer (some ⟨ab, 0, none⟩)] (fun _ => False) (fun l => ∀ x ∈ l, isAtt x.f0 = true → shortB x.f2 = true) (onlyF addr) := ⟨by
  intro W b ok v xs hW hb hbW hokb _ hok hn
  have hlt := (Array.getElem?_eq_some_iff.1 hG).1
  have hG1 := blk_below hG hW
  have HG := Aside0.mk hG1
  have HN := Aside0.mk hn
  have HOK := Aside0.mk hok
  have hne := base_far hn (show ab < b by omega)
  have HNE := Aside0.mk hne
  obtain ⟨Av, cv, rfl⟩ := Kd.N_slice hn
  clear hG hG1 hn hok hW hne
  go_enter Try.func63, Try.ntmps63
  go_wp2_with (go_at_call 64; refine (deleteN 65 _ Try.func65 (by kernel_rfl) rfl #[.pointer (some ⟨ab, 0, none⟩)] (fun s t => isAtt s && !alikeB t addr) b ok _ xs _ HN.out hbW (fun x hx A n c W1 hW1 => only11_calls ab addr x.f0 A n c x.f2 W1 (blk_grown HG.out hW1 HNE.out) ha (HOK.out x hx))).mono ?_; rintro e w5 ⟨v5, rfl, hn5, hb5⟩; have HN5 := Aside0.mk hn5; have HB5 := Aside0.mk hb5; clear hn5 hb5)
  go_ret
  refine ⟨_, rfl, HN5.out, ?_⟩
  have hg := HB5.out
  exact ⟨hg.os, hg.tape, hg.output, hg.size, fun k hk => hg.block k (by omega) (base_far HN.out hk)⟩⟩
end Go.Proofs.Ytebmbfobmakheaa.PD
namespace Go.Proofs.Ytebmbfobmakheaa.PD
open Go.RowKit Go.Proofs.YtebmbfobmakheaaW.PrintWords Go.Proofs.YtebmbfobmakheaaW.PrintLast Go.Proofs.YtebmbfobmakheaaW.PrintMore
attribute [local go_sem] isSome_setCell max2_int min2_int max_two min_two
set_option linter.unusedVariables false
set_option linter.unusedSimpArgs false
def limO (l : List S25) : Bool := decide (l.length ≤ 1000000000) && l.all fun x => decide (x.f1.length < 2513169434916) && x.f1.all fun p => !isAtt p.f0 || (shortB p.f2 && decide (p.f1.length < 3518437208882))
theorem limO_len {l : List S25} (h : limO l = true) : l.length ≤ 1000000000 := by unfold limO at h; simp only [Bool.and_eq_true, decide_eq_true_eq] at h; exact h.1
theorem limO_at {l : List S25} (h : limO l = true) (x : S25) (hx : x ∈ l) : x.f1.length < 2513169434916 ∧ ∀ p ∈ x.f1, isAtt p.f0 = true → shortB p.f2 = true ∧ p.f1.length < 3518437208882 := by
  unfold limO at h
  simp only [Bool.and_eq_true, decide_eq_true_eq, List.all_eq_true, Bool.or_eq_true, Bool.not_eq_true'] at h
  obtain ⟨h1, h2⟩ := h.2 x hx
  exact ⟨h1, fun p hp ha => (h2 p hp).resolve_left (by rw [ha]; simp)⟩
theorem V_beside {w w' : World} {P1 P2 : Nat → Prop} {A1 : Option Addr} {c1 : Nat} {l1 : List S45} {v2 : Value} {l2 : List S25} {ok : Nat → Prop} (h : Kd.V k45 45 w w.heap.size P1 (.slice A1 l1.length c1) l1) (hb : Below w.heap.size w w') (h2 : Kd.N k25 25 w' w.heap.size ok v2 l2) :
    Kd.V k45 45 w' w.heap.size (fun k_ => ((P1 k_ ∨ P2 k_) ∨ w.heap.size ≤ k_) ∧ some k_ ≠ (v2 : Value).ownBlock) (.slice A1 l1.length c1) l1 :=
  Kd.V_mono (Kd.V_below (Kd.V_bound h) hb) (fun k hk => ⟨.inl (.inl hk.1), fun e => by have := Kd.N_base h2 k e.symm; have := hk.2; omega⟩)
theorem N_boxed {w5 : World} {base n m R : Nat} {P : Nat → Prop} {v : Value} {l : List S25} (h : Kd.N k25 25 w5 base (fun k => (P k ∧ k < n) ∨ m ≤ k) v l) (h1 : n ≤ R) (h2 : R < m) (x y z : Value) :
    Kd.N k25 25 (((w5.setCell ⟨R, 0, none⟩ x).setCell ⟨R, 1, none⟩ y).setCell ⟨R, 2, none⟩ z) base (fun k => P k ∨ n ≤ k) v l :=
  Kd.N_mono (Kd.N_step h (fun k hk _ => by
    have hne : k ≠ R := by rcases hk with hk | hk <;> omega
    exact ((Below.heap_setCell _ _ _ k hne).trans (Below.heap_setCell _ _ _ k hne)).trans (Below.heap_setCell _ _ _ k hne))) (fun k hk => hk.elim (fun hk => .inl hk.1) (fun hk => .inr (by omega)))
theorem below_boxed {w w5 : World} {R : Nat} (h : Below w.heap.size w w5) (h1 : w.heap.size ≤ R) (x y z : Value) : Below w.heap.size w (((w5.setCell ⟨R, 0, none⟩ x).setCell ⟨R, 1, none⟩ y).setCell ⟨R, 2, none⟩ z) := below_set (below_set (below_set h h1) h1) h1
set_option maxRecDepth 100000 in
set_option maxHeartbeats 1600000 in
theorem only_walk (nm : ByteArray) (A1 : Option Addr) (n1 c1 : Nat) (P : Nat → Prop) (A : Option Addr) (c : Nat) (l : List S25) (addr : ByteArray) (w : World) (hs : Kd.V k25 25 w w.heap.size P (.slice A l.length c) l) (hlim : limO l = true) (ha : shortB addr = true) :
    Calls Try.prog 22 #[.agg #[.string nm, .slice A1 n1 c1, .slice A l.length c], .string addr] w fun e w' => ∃ v : Value, e = .returned (.agg #[.string nm, .slice A1 n1 c1, v]) ∧ Kd.N k25 25 w' w.heap.size (fun k => P k ∨ w.heap.size ≤ k) v (chgP (onlyF addr) l) ∧ Below w.heap.size w w' := by
  have HV := Aside0.mk hs
  clear hs
  go_enter Try.func22, Try.ntmps22
  go_wp2_with (go_at_call 62; refine Aside0.out ?_)
  refine ⟨?_⟩
  obtain ⟨W3, hW3⟩ : ∃ W3, ((w.alloc (Obj.cells #[Value.string nm, Value.slice A1 n1 c1, Value.slice A l.length c] 25)).alloc (Obj.cells #[Value.string addr] 9)).alloc (Obj.cells #[Value.string { data := #[] }, Value.slice none 0 0, Value.slice none 0 0] 25) = W3 := ⟨_, rfl⟩
  have hz3 : W3.heap.size = w.heap.size + 3 := by rw [← hW3]; simp
  have hb3 : Below w.heap.size w W3 := by rw [← hW3]; exact below_alloc (below_alloc (below_alloc (Below.refl _ _) _) _) _
  have kO : W3.heap[w.heap.size + 1]? = some (.cells #[.string addr] 9 (0, 0)) := by
    rw [← hW3]; have := heap_alloc_new (w.alloc (.cells #[.string nm, .slice A1 n1 c1, .slice A l.length c] 25)) (.cells #[.string addr] 9); rw [World.size_alloc] at this; exact blk_alloc this _
  have kR : W3.heap[w.heap.size + 1 + 1]? = some (.cells #[.string ⟨#[]⟩, .slice none 0 0, .slice none 0 0] 25 (0, 0)) := by
    rw [← hW3]; have := heap_alloc_new ((w.alloc (.cells #[.string nm, .slice A1 n1 c1, .slice A l.length c] 25)).alloc (.cells #[.string addr] 9)) (.cells #[.string ⟨#[]⟩, .slice none 0 0, .slice none 0 0] 25); rw [World.size_alloc, World.size_alloc] at this; exact this
  rw [hW3]
  clear hW3
  refine (changed_walk 63 _ Try.func63 rfl rfl _ _ _ (fun _ => False) (fun k => P k ∧ k < w.heap.size) nm A1 n1 c1 A c l W3 (only1_maker W3 (w.heap.size + 1) addr kO ha) (fun _ h => h.elim) (Kd.V_below (Kd.V_bound HV.out) hb3) (limO_len hlim) (fun x hx => by have := (limO_at hlim x hx).1; omega) (fun x hx p hp h => ((limO_at hlim x hx).2 p hp h).1)).mono ?_
  rintro e w5 ⟨v5, rfl, hn5, hb5⟩
  obtain ⟨A5, c5, rfl⟩ := Kd.N_slice hn5
  have hR5 := blk_below kR hb5
  have r0 : w5.cell? ⟨w.heap.size + 1 + 1, 0, none⟩ = some (.string ⟨#[]⟩) := (blk_cell hR5 0).trans rfl
  have r1 : w5.cell? ⟨w.heap.size + 1 + 1, 1, none⟩ = some (.slice none 0 0) := (blk_cell hR5 1).trans rfl
  have r2 : w5.cell? ⟨w.heap.size + 1 + 1, 2, none⟩ = some (.slice none 0 0) := (blk_cell hR5 2).trans rfl
  have t0 : w5.frozen? ⟨w.heap.size + 1 + 1, 0, none⟩ = false := blk_frozen hR5 0
  have t1 : w5.frozen? ⟨w.heap.size + 1 + 1, 1, none⟩ = false := blk_frozen hR5 1
  have t2 : w5.frozen? ⟨w.heap.size + 1 + 1, 2, none⟩ = false := blk_frozen hR5 2
  have HN5 := Aside0.mk (Kd.N_lower hn5 (show w.heap.size ≤ W3.heap.size by omega))
  rw [hz3] at HN5
  have HB5 := Aside0.mk (hb3.trans (hb5.mono (by omega)))
  have HR5 := Aside0.mk hR5
  clear hn5 hb5 hb3 hR5 kO kR
  go_wp2
  refine bodyPost_ret (results_box25 _ 4 rfl _ _ (w.heap.size + 1 + 1) nm A1 A5 n1 c1 _ c5 rfl (box3_at _ _ _ HR5.out)) rfl ?_
  exact ⟨_, rfl, N_boxed HN5.out (by omega) (by omega) _ _ _, below_boxed HB5.out (by omega) _ _ _⟩
def itip_Only.f (k : Nat) (a0_0 : ByteArray) (l0_1 : List (S45)) (l0_2 : List (S25)) (a1 : ByteArray) : Option (ByteArray × (List (S45)) × (List (S25))) := if (limO l0_2 && shortB a1) = true then some (a0_0, l0_1, chgP (onlyF a1) l0_2) else none
theorem itip_Only.calls (k : Nat) (a0_0 : ByteArray) (P0_1_ : Nat → Prop) (A0_1 : Option Addr) (c0_1 : Nat) (l0_1 : List (S45)) (P0_2_ : Nat → Prop) (A0_2 : Option Addr) (c0_2 : Nat) (l0_2 : List (S25)) (a1 : ByteArray) (r1 : ByteArray) (r2 : List (S45)) (r3 : List (S25)) (w : World) (hs0_1 : Kd.V k45 45 w w.heap.size (fun k_ => P0_1_ k_) (.slice A0_1 l0_1.length c0_1) l0_1) (hs0_2 : Kd.V k25 25 w w.heap.size (fun k_ => P0_2_ k_) (.slice A0_2 l0_2.length c0_2) l0_2) (h : itip_Only.f k a0_0 l0_1 l0_2 a1 = some (r1, r2, r3)) :
    Calls Try.prog 22 #[.agg #[.string a0_0, .slice A0_1 l0_1.length c0_1, .slice A0_2 l0_2.length c0_2], .string a1] w fun e w' => ∃ v1_ v2_ : Value, e = .returned (.agg #[.string r1, v1_, v2_]) ∧ Kd.V k45 45 w' w.heap.size (fun k_ => ((P0_1_ k_ ∨ P0_2_ k_) ∨ w.heap.size ≤ k_) ∧ some k_ ≠ (v2_ : Value).ownBlock) v1_ r2 ∧ Kd.N k25 25 w' w.heap.size (fun k_ => ((P0_1_ k_ ∨ P0_2_ k_) ∨ w.heap.size ≤ k_)) v2_ r3 ∧ Below w.heap.size w w' := by
  unfold itip_Only.f at h
  split at h
  case isFalse => cases h
  rename_i hc
  simp only [Bool.and_eq_true] at hc
  simp only [Option.some.injEq, Prod.mk.injEq] at h
  obtain ⟨rfl, rfl, rfl⟩ := h
  refine (only_walk a0_0 A0_1 _ c0_1 P0_2_ A0_2 c0_2 l0_2 a1 w hs0_2 hc.1 hc.2).mono ?_
  rintro e w' ⟨v, rfl, hn, hb⟩
  exact ⟨_, v, rfl, V_beside hs0_1 hb hn, Kd.N_mono hn (fun k hk => hk.imp (fun h => .inr h) id), hb⟩
end Go.Proofs.Ytebmbfobmakheaa.PD
namespace Go.Proofs.Ytebmbfobmakheaa.PD
open Go.RowKit Go.Proofs.YtebmbfobmakheaaW.PrintWords Go.Proofs.YtebmbfobmakheaaW.PrintLast Go.Proofs.YtebmbfobmakheaaW.PrintMore
attribute [local go_sem] isSome_setCell max2_int min2_int max_two min_two
set_option linter.unusedVariables false
set_option linter.unusedSimpArgs false
theorem N_get45 {W : World} {base : Nat} {ok : Nat → Prop} {v : Value} {xs : List S45} (h : Kd.N k45 45 W base ok v xs) (i : Nat) (hi : i < xs.length) :
    ∃ g cap A1 c1, v = .slice (some ⟨g, 0, none⟩) xs.length cap ∧ W.cell? ⟨g, i * 3, none⟩ = some (.string xs[i].f0) ∧ W.cell? ⟨g, i * 3 + 1, none⟩ = some (.slice A1 xs[i].f1.length c1) ∧ W.cell? ⟨g, i * 3 + 2, none⟩ = some (.string xs[i].f2) ∧ (∀ j, W.frozen? ⟨g, j, none⟩ = false) ∧ base ≤ g ∧ g < W.heap.size ∧
      xs[i].f1.length ≤ c1 ∧ Kd.F k77 W (fun k => ok k ∧ k ≠ g) A1 xs[i].f1.length xs[i].f1 := by
  obtain ⟨g, cap, rfl, hb, hlt, cells, hcl⟩ := Kd.N_form h (by omega)
  obtain ⟨c, hl, hK, hc, hf⟩ := Kd.N_elem h z45 (i : Int) (by omega) (by omega)
  have hg : xs.getD (i : Int).toNat z45 = xs[i] := by simp [hi]
  rw [hg] at hK
  rw [Int.toNat_natCast] at hc hf
  obtain ⟨A1, c1, rfl, l1, f1⟩ := k45_openF hK
  exact ⟨g, cap, A1, c1, rfl, hc 0 _ rfl, hc 1 _ rfl, hc 2 _ rfl, fun j => blk_frozen hcl j, hb, hlt, l1, f1⟩
theorem N_put45 {W : World} {base g cap : Nat} {ok : Nat → Prop} {xs : List S45} (h : Kd.N k45 45 W base ok (.slice (some ⟨g, 0, none⟩) xs.length cap) xs) (i : Nat) (hi : i < xs.length) (y : List S77) (A : Option Addr) (c : Nat) (hyc : y.length ≤ c) (hy : Kd.F k77 W (fun k => ok k ∧ k ≠ g) A y.length y) :
    Kd.N k45 45 (W.setCell ⟨g, i * 3 + 1, none⟩ (.slice A y.length c)) base ok (.slice (some ⟨g, 0, none⟩) xs.length cap) (xs.set i { xs[i] with f1 := y }) ∧ W.grownBy (W.setCell ⟨g, i * 3 + 1, none⟩ (.slice A y.length c)) (some g) := by
  obtain ⟨cs, hl, hK, hc, hf⟩ := Kd.N_elem h z45 (i : Int) (by omega) (by omega)
  have hg : xs.getD (i : Int).toNat z45 = xs[i] := by simp [hi]
  rw [hg] at hK
  obtain ⟨A1, c1, rfl, l1, f1⟩ := k45_openF hK
  have := Kd.N_seg h (i : Int) (by omega) (by omega) (c := [.string xs[i].f0, .slice A1 xs[i].f1.length c1, .string xs[i].f2]) (seg := [.slice A y.length c]) (j := 1) (x' := { xs[i] with f1 := y }) (okp := fun k => ok k ∧ k ≠ g) hl hc (by show 1 + 1 ≤ 3; omega) (k45_mkF W _ { xs[i] with f1 := y } hyc hy) (fun _ hk => hk)
  rw [Int.toNat_natCast] at this
  exact this
theorem N_put77 {W : World} {base g cap : Nat} {ok : Nat → Prop} {xs : List S77} (h : Kd.N k77 77 W base ok (.slice (some ⟨g, 0, none⟩) xs.length cap) xs) (i : Nat) (hi : i < xs.length) (y : S77) (A : Option Addr) (c : Nat) (hyc : y.f1.length ≤ c) (hy : Kd.F Kd.string W (fun k => ok k ∧ k ≠ g) A y.f1.length y.f1) :
    Kd.N k77 77 ((W.setCell ⟨g, i * 2, none⟩ (.string y.f0)).setCell ⟨g, i * 2 + 1, none⟩ (.slice A y.f1.length c)) base ok (.slice (some ⟨g, 0, none⟩) xs.length cap) (xs.set i y) ∧ W.grownBy ((W.setCell ⟨g, i * 2, none⟩ (.string y.f0)).setCell ⟨g, i * 2 + 1, none⟩ (.slice A y.f1.length c)) (some g) := by
  obtain ⟨cs, hl, hK, hc, hf⟩ := Kd.N_elem h (⟨⟨#[]⟩, []⟩ : S77) (i : Int) (by omega) (by omega)
  have hg : xs.getD (i : Int).toNat (⟨⟨#[]⟩, []⟩ : S77) = xs[i] := by simp [hi]
  rw [hg] at hK
  obtain ⟨A1, c1, rfl, l1, f1⟩ := k77_openF hK
  have := Kd.N_seg h (i : Int) (by omega) (by omega) (c := [.string xs[i].f0, .slice A1 xs[i].f1.length c1]) (seg := [.string y.f0, .slice A y.f1.length c]) (j := 0) (x' := y) (okp := fun k => ok k ∧ k ≠ g) hl hc (by show 0 + 2 ≤ 2; omega) (k77_mkF W _ y hyc hy) (fun _ hk => hk)
  rw [Int.toNat_natCast] at this
  exact this
theorem F_one {W : World} {vb : Nat} {value : ByteArray} (h : W.heap[vb]? = some (.cells #[.string value] 9 (0, 0))) : Kd.F Kd.string W (fun k => k = vb) (some ⟨vb, 0, none⟩) [value].length [value] := fun W' hW => by
  have hb := (hW vb rfl (Array.getElem?_eq_some_iff.1 h).1).trans h
  refine ⟨rfl, by simp, fun _ => ⟨_, rfl, fun j p hj => ?_⟩⟩
  rcases j with _ | j
  · simp only [List.getElem?_cons_zero, Option.some.injEq] at hj
    subst hj
    refine ⟨[.string value], rfl, rfl, fun i u hu => ?_⟩
    rcases i with _ | i
    · simp only [List.getElem?_cons_zero, Option.some.injEq] at hu
      subst hu
      exact (blk_cell hb 0).trans rfl
    · simp at hu
  · simp at hj
def paramF (name value : ByteArray) (l : List S77) : List S77 := if 0 ≤ idxP (fun y : S77 => y.f0.toList == name.toList) l then l.set (idxP (fun y : S77 => y.f0.toList == name.toList) l).toNat ⟨name, [value]⟩ else l ++ [⟨name, [value]⟩]
def hitB (addr : ByteArray) (x : S45) : Bool := isAtt x.f0 && alikeB x.f2 addr
def setF (addr name value : ByteArray) (l : List S45) : List S45 := l.map fun x => if hitB addr x = true then { x with f1 := paramF name value x.f1 } else x
def setK (addr name value : ByteArray) (k : Nat) (l : List S45) : List S45 := setF addr name value (l.take k) ++ l.drop k
theorem setK_len (addr name value : ByteArray) (k : Nat) (l : List S45) : (setK addr name value k l).length = l.length := by unfold setK setF; simp; omega
theorem setK_zero (addr name value : ByteArray) (l : List S45) : setK addr name value 0 l = l := by unfold setK setF; simp
theorem setK_all (addr name value : ByteArray) (l : List S45) (k : Nat) (h : l.length ≤ k) : setK addr name value k l = setF addr name value l := by unfold setK; rw [List.take_of_length_le h, List.drop_eq_nil_of_le h, List.append_nil]
theorem setK_at (addr name value : ByteArray) (l : List S45) (k : Nat) (hk : k < l.length) (hk' : k < (setK addr name value k l).length) : (setK addr name value k l)[k] = l[k] := by
  apply Option.some.inj
  rw [← List.getElem?_eq_getElem hk', ← List.getElem?_eq_getElem hk]
  unfold setK setF
  rw [List.getElem?_append_right (by simp; omega), List.getElem?_drop]
  congr 1
  simp
  omega
theorem setK_skip (addr name value : ByteArray) (l : List S45) (k : Nat) (hk : k < l.length) (h : hitB addr l[k] = false) : setK addr name value (k + 1) l = setK addr name value k l := by
  unfold setK setF
  rw [List.take_succ_eq_append_getElem hk, List.map_append, List.append_assoc, List.drop_eq_getElem_cons hk]
  simp [h]
theorem setK_hit (addr name value : ByteArray) (l : List S45) (k : Nat) (hk : k < l.length) (h : hitB addr l[k] = true) : setK addr name value (k + 1) l = (setK addr name value k l).set k { l[k] with f1 := paramF name value l[k].f1 } := by
  unfold setK setF
  rw [List.take_succ_eq_append_getElem hk, List.map_append, List.append_assoc, List.drop_eq_getElem_cons hk, List.set_append_right _ _ (by simp; omega)]
  simp [h, Nat.min_eq_left (Nat.le_of_lt hk)]
  rw [List.drop_eq_getElem_cons hk]
  rfl
set_option maxRecDepth 100000 in
set_option maxHeartbeats 1600000 in
theorem setN_calls (nm : ByteArray) (G : Nat) (s : ByteArray) (A : Option Addr) (n c : Nat) (W : World) (hG : W.heap[G]? = some (.cells #[.string nm] 9 (0, 0))) :
    Calls Try.prog 92 (#[.agg #[.string s, .slice A n c]] ++ #[.pointer (some ⟨G, 0, none⟩)]) W fun e W' => e = .returned (.bool (s.toList == nm.toList)) ∧ Below W.heap.size W W' := by
  have hc : (W.alloc (.cells #[.string s, .slice A n c] 77)).cell? ⟨G, 0, none⟩ = some (.string nm) := (blk_cell (blk_alloc hG _) 0).trans rfl
  have HB0 := Aside0.mk (below_alloc (Below.refl W.heap.size W) (.cells #[.string s, .slice A n c] 77))
  go_enter Try.func92, Try.ntmps92
  go_wp2
  go_ret
  exact ⟨rfl, HB0.out⟩
end Go.Proofs.Ytebmbfobmakheaa.PD
namespace Go.Proofs.Ytebmbfobmakheaa.PD
open Go.RowKit Go.Proofs.YtebmbfobmakheaaW.PrintWords Go.Proofs.YtebmbfobmakheaaW.PrintLast Go.Proofs.YtebmbfobmakheaaW.PrintMore
attribute [local go_sem] isSome_setCell max2_int min2_int max_two min_two
set_option linter.unusedVariables false
set_option linter.unusedSimpArgs false
theorem set_end {W W9 : World} {b g cap k c9 : Nat} {ok : Nat → Prop} {ls xs : List S45} {x : S45} {y : List S77} {A9 : Option Addr} {base : Nat} (h : Kd.N k45 45 W b ok (.slice (some ⟨g, 0, none⟩) xs.length cap) ls) (hl : ∀ _k : Nat, ls.length = xs.length) (hb : Below W.heap.size W W9) (hk : k < xs.length) (hku : k < ls.length) (hx : ls[k] = x)
    (hn : Kd.N k77 77 W9 base (fun q => ok q ∧ q ≠ g) (.slice A9 y.length c9) y) :
    Kd.N k45 45 (W9.setCell ⟨g, k * 3 + 1, none⟩ (.slice A9 y.length c9)) b ok (.slice (some ⟨g, 0, none⟩) xs.length cap) (ls.set k { x with f1 := y }) ∧ W9.grownBy (W9.setCell ⟨g, k * 3 + 1, none⟩ (.slice A9 y.length c9)) (some g) := by
  have h9 := Kd.N_below h hb
  rw [← hl 0] at h9
  have := N_put45 h9 k hku y A9 c9 (Kd.N_reads' hn).2.1 (Kd.N_F hn)
  rw [hx, hl 0] at this
  exact this
set_option maxRecDepth 100000 in
set_option maxHeartbeats 8000000 in
theorem set1_maker (w : World) (ab nb xb vb : Nat) (addr name value : ByteArray) (hA : w.heap[ab]? = some (.cells #[.string addr] 9 (0, 0))) (hN : w.heap[nb]? = some (.cells #[.string name] 9 (0, 0))) (hX : w.heap[xb]? = some (.cells #[.string name, .slice (some ⟨vb, 0, none⟩) 1 1] 77 (0, 0))) (hVb : w.heap[vb]? = some (.cells #[.string value] 9 (0, 0))) (ha : shortB addr = true) :
    Maker w 89 #[.pointer (some ⟨ab, 0, none⟩), .pointer (some ⟨nb, 0, none⟩), .pointer (some ⟨xb, 0, none⟩)] (fun k => k = vb) (fun l => l.length ≤ 2513169434917 ∧ ∀ x ∈ l, isAtt x.f0 = true → shortB x.f2 = true ∧ x.f1.length < 3518437208882) (setF addr name value) := ⟨by
  intro W b ok v xs hW hb hbW hokb hokS hok hn
  have hu45 := Try.underlying45
  obtain ⟨hxl, hxs⟩ := hok
  obtain ⟨Av, cv, rfl⟩ := Kd.N_slice hn
  have hml : xs.length ≤ 9223372036854775807 := by omega
  have hltA := (Array.getElem?_eq_some_iff.1 hA).1
  have hltN := (Array.getElem?_eq_some_iff.1 hN).1
  have hltX := (Array.getElem?_eq_some_iff.1 hX).1
  have hltV := (Array.getElem?_eq_some_iff.1 hVb).1
  have HA := Aside0.mk (blk_below hA hW)
  have HN0 := Aside0.mk (blk_below hN hW)
  have HX := Aside0.mk (blk_below hX hW)
  have HVb := Aside0.mk (blk_below hVb hW)
  have HXS := Aside0.mk hxs
  have HN := Aside0.mk (show Kd.N k45 45 W b ok (.slice Av xs.length cv) (setK addr name value 0 xs) by rw [setK_zero]; exact hn)
  have hsl : ∀ k, (setK addr name value k xs).length = xs.length := fun k => setK_len _ _ _ _ _
  have HS := Aside0.mk hsl
  have hokvb := hokS vb rfl
  clear hn hW hA hN hX hVb hxs hsl
  show Calls Try.prog 89 #[.slice Av xs.length cv, .pointer (some ⟨ab, 0, none⟩), .pointer (some ⟨nb, 0, none⟩), .pointer (some ⟨xb, 0, none⟩)] W _
  go_enter Try.func89, Try.ntmps89
  go_wp2
  go_loopw [12] (fun v wr => ∃ k : Nat, v = .int .i64 k ∧ k ≤ xs.length ∧ Aside0 (Kd.N k45 45 wr b ok (.slice Av xs.length cv) (setK addr name value k xs)) ∧ Aside0 (Below b W wr)) (fun v _ => xs.length - (intOf v).toNat)
  case atStart => exact ⟨0, rfl, Nat.zero_le _, HN, ⟨Below.mono (Below.refl _ _) hbW⟩⟩
  case round =>
    obtain ⟨k, rfl, hk, HNk, hbk⟩ := hrel
    by_cases hlt : k < xs.length
    · have hlt0 : decide ((k : Int) < (xs.length : Int)) = true := decide_eq_true (by omega)
      have hku : k < (setK addr name value k xs).length := by rw [HS.out]; exact hlt
      obtain ⟨g, cap, A1, c1, ev, e0, e1, e2, hfz, hgb, hglt, le1, f1⟩ := N_get45 HNk.out k hku
      rw [setK_at addr name value xs k hlt hku] at e0 e1 e2 le1 f1
      rw [HS.out] at ev
      injection ev with eA _ ecv
      subst eA
      subst ecv
      obtain ⟨x, ex⟩ : ∃ x, xs[k] = x := ⟨_, rfl⟩
      have hxm : x ∈ xs := by rw [← ex]; exact List.getElem_mem hlt
      rw [ex] at e0 e1 e2 le1 f1
      have BA := Aside0.mk ((hbk.out.block ab (by omega)).trans HA.out)
      have BN := Aside0.mk ((hbk.out.block nb (by omega)).trans HN0.out)
      have BX := Aside0.mk ((hbk.out.block xb (by omega)).trans HX.out)
      have BV := Aside0.mk ((hbk.out.block vb (by omega)).trans HVb.out)
      have u0 : (wr.alloc (.cells #[.string x.f0, .slice A1 x.f1.length c1, .string x.f2] 45)).cell? ⟨ab, 0, none⟩ = some (.string addr) := (blk_cell (blk_alloc BA.out _) 0).trans rfl
      have E1 := Aside0.mk e1
      have F1 := Aside0.mk f1
      have HF := Aside0.mk hfz
      have EX := Aside0.mk ex
      clear f1 hfz ex
      cases hat : isAtt x.f0 with
      | false =>
        have q3 : (x.f0.toList == ([65, 84, 84, 69, 78, 68, 69, 69] : List UInt8)) = false := hat
        have q4 : (x.f0.toList = ([65, 84, 84, 69, 78, 68, 69, 69] : List UInt8)) = False := eq_false (beq_eq_false_iff_ne.1 hat)
        have q5 : (x.f0.toList != ([65, 84, 84, 69, 78, 68, 69, 69] : List UInt8)) = true := by rw [bne, q3]; rfl
        have hsk := Aside0.mk (setK_skip addr name value xs k hlt (by rw [EX.out]; unfold hitB; rw [hat]; rfl))
        clear hat
        go_wp2
        exact ⟨⟨k + 1, by simp, hlt, ⟨by rw [hsk.out]; exact Kd.N_alloc HNk.out _⟩, ⟨hbk.out.alloc (Nat.le_trans hbW hbk.out.size) _⟩⟩, by show xs.length - ((k : Int) + 1).toNat < xs.length - (k : Int).toNat; omega⟩
      | true =>
        have q3 : (x.f0.toList == ([65, 84, 84, 69, 78, 68, 69, 69] : List UInt8)) = true := hat
        have q4 : (x.f0.toList = ([65, 84, 84, 69, 78, 68, 69, 69] : List UInt8)) = True := eq_true (beq_iff_eq.1 hat)
        have q5 : (x.f0.toList != ([65, 84, 84, 69, 78, 68, 69, 69] : List UInt8)) = false := by rw [bne, q3]; rfl
        obtain ⟨hxsh, hxp⟩ := HXS.out x hxm hat
        have hc := alike_calls x.f2 addr hxsh ha (wr.alloc (.cells #[.string x.f0, .slice A1 x.f1.length c1, .string x.f2] 45))
        cases hal : alikeB x.f2 addr with
        | false =>
          have hsk := Aside0.mk (setK_skip addr name value xs k hlt (by rw [EX.out]; unfold hitB; rw [hal]; simp))
          rw [hal] at hc
          have HC := Aside0.mk hc
          clear hat hc hal
          go_wp2_with (go_at_call 48; refine HC.out.mono ?_; rintro e w5 ⟨rfl, hb5⟩; have HB5 := Aside0.mk hb5; clear hb5)
          have hbW5 : Below wr.heap.size wr w5 := (below_alloc (Below.refl _ _) _).trans (HB5.out.mono (by simp))
          exact ⟨⟨k + 1, by simp, hlt, ⟨by rw [hsk.out]; exact Kd.N_below HNk.out hbW5⟩, ⟨hbk.out.trans (hbW5.mono (Nat.le_trans hbW hbk.out.size))⟩⟩, by show xs.length - ((k : Int) + 1).toNat < xs.length - (k : Int).toNat; omega⟩
        | true =>
          have hsk := Aside0.mk (setK_hit addr name value xs k hlt (by rw [EX.out]; unfold hitB; rw [hal, hat]; rfl))
          rw [EX.out] at hsk
          rw [hal] at hc
          have HC := Aside0.mk hc
          clear hat hc hal
          go_wp2_with (first | (go_at_call 48; refine HC.out.mono ?_; rintro e w5 ⟨rfl, hb5⟩; have BP := Aside0.mk (blk_below (heap_alloc_new wr (.cells #[.string x.f0, .slice A1 x.f1.length c1, .string x.f2] 45)) hb5); have p1 : w5.cell? ⟨wr.heap.size, 1, none⟩ = some (.slice A1 x.f1.length c1) := (blk_cell BP.out 1).trans rfl; have HB5 := Aside0.mk ((below_alloc (Below.refl wr.heap.size wr) (.cells #[.string x.f0, .slice A1 x.f1.length c1, .string x.f2] 45)).trans (hb5.mono (by simp))); clear hb5) | (go_at_call 90; refine Aside0.out ?_))
          refine ⟨?_⟩
          refine (clone77 (fun q => ok q ∧ q ≠ g) A1 c1 x.f1 _ (Kd.V_mk le1 (Kd.F_below F1.out HB5.out)) (by omega)).mono ?_
          rintro e w7 ⟨v7, rfl, hn7, hb7⟩
          obtain ⟨A7, c7, rfl⟩ := Kd.N_slice hn7
          have HN7 := Aside0.mk hn7
          have HB7 := Aside0.mk hb7
          have BN7 := Aside0.mk (blk_below (blk_below BN.out HB5.out) hb7)
          clear hn7 hb7
          go_wp2_with (go_at_call 91; refine Aside0.out ?_)
          refine ⟨?_⟩
          refine (index77 92 _ Try.func92 (by kernel_rfl) rfl #[.pointer (some ⟨nb, 0, none⟩)] (fun y => y.f0.toList == name.toList) A7 c7 x.f1 w7 (Kd.N_reads' HN7.out).2.2 (fun y hy A c W1 hW1 => setN_calls name nb y.f0 A y.f1.length c W1 (blk_below BN7.out hW1))).mono ?_
          rintro e w8 ⟨rfl, hb8⟩
          have HB58 := Aside0.mk (HB7.out.trans (hb8.mono HB7.out.size))
          have hg5 : g < w5.heap.size := Nat.lt_of_lt_of_le hglt HB5.out.size
          have hb5 : b ≤ w5.heap.size := Nat.le_trans (Nat.le_trans hbW hbk.out.size) HB5.out.size
          have HN8 := Aside0.mk (show Kd.N k77 77 w8 w5.heap.size (fun q => ok q ∧ q ≠ g) (.slice A7 x.f1.length c7) x.f1 from Kd.N_mono (Kd.N_below HN7.out hb8) (fun q hq => hq.elim id (fun hq => ⟨hokb q (by omega), by omega⟩)))
          have HB8 := Aside0.mk (HB5.out.trans (HB58.out.mono HB5.out.size))
          have hXc := blk_below BX.out HB8.out
          have xc0 : w8.cell? ⟨xb, 0, none⟩ = some (.string name) := (blk_cell hXc 0).trans rfl
          have xc1 : w8.cell? ⟨xb, 1, none⟩ = some (.slice (some ⟨vb, 0, none⟩) 1 1) := (blk_cell hXc 1).trans rfl
          have HV8 := Aside0.mk (blk_below BV.out HB8.out)
          clear hb8 hXc
          rcases idx_find (fun y : S77 => y.f0.toList == name.toList) x.f1 with ⟨hi, _⟩ | ⟨i, hil, hi, _⟩
          · obtain ⟨y, hy⟩ : ∃ y, x.f1 ++ [(⟨name, [value]⟩ : S77)] = y := ⟨_, rfl⟩
            have hpf := Aside0.mk (show paramF name value x.f1 = y by rw [← hy]; unfold paramF; rw [hi, if_neg (by omega)])
            have HY := Aside0.mk hy
            clear hy
            rw [hi]
            clear hi
            go_wp2_with ((with_reducible refine gate_builtin (b := .append) (xs := #[.tmp 39, .tmp 41]) rfl ?_); refine Aside0.out ?_)
            refine ⟨?_⟩
            at_builtin
            refine Kd.N_append k77 (w0 := w5) w5.heap.size rfl (.tmp 39) (.tmp 41) 43 77 (.agg #[(.string ⟨#[]⟩), (.slice none 0 0)]) 40 rfl Try.underlying43 info77 rfl (by decide) (by omega) (.slice A7 x.f1.length c7) x.f1 (⟨name, [value]⟩ : S77) [.string name, .slice (some ⟨vb, 0, none⟩) 1 1] (fun q => ok q ∧ q ≠ g) (fun q => q = vb) rfl (by first | (go_simp; done) | (go_simp; rfl)) ?aP ?aQ ?aF ?aO ?aB ?aS ?aL ?_
            case aP => exact k77_mkF _ _ (⟨name, [value]⟩ : S77) (Nat.le_refl _) (F_one HV8.out)
            case aQ => rintro q rfl; exact ⟨⟨hokvb, by omega⟩, fun e => by have := Kd.N_base HN8.out q e.symm; omega⟩
            case aF => exact fun q hq => ⟨hokb q (by have := HB58.out.size; omega), by have := HB58.out.size; omega⟩
            case aO => exact HN8.out
            case aB => exact HB58.out
            case aS => exact HB58.out.size
            case aL => omega
            intro v9 w9 hn9 hb9 hg9 hat9
            rw [HY.out] at hn9
            obtain ⟨A9, c9, rfl⟩ := Kd.N_slice hn9
            have HN9 := Aside0.mk hn9
            have HB9 := Aside0.mk (HB5.out.trans (hb9.mono HB5.out.size))
            have z0 : w9.cell? ⟨g, k * 3 + 1, none⟩ = some (.slice A1 x.f1.length c1) := (HB9.out.cell (World.block_lt_of_cell? wr _ E1.out)).trans E1.out
            have z1 : w9.frozen? ⟨g, k * 3 + 1, none⟩ = false := by
              obtain ⟨cells, hcl⟩ := Kd.N_typed HNk.out g rfl
              exact blk_frozen (blk_below hcl HB9.out) _
            clear hn9 hb9 hg9 hat9
            go_wp2
            exact ⟨⟨k + 1, by simp, hlt, ⟨by rw [hsk.out, hpf.out]; exact (set_end HNk.out (fun _ => HS.out k) HB9.out hlt hku (by rw [setK_at addr name value xs k hlt hku, EX.out]) HN9.out).1⟩, ⟨hbk.out.trans ((HB9.out.mono (Nat.le_trans hbW hbk.out.size)).trans (below_gb (set_end HNk.out (fun _ => HS.out k) HB9.out hlt hku (by rw [setK_at addr name value xs k hlt hku, EX.out]) HN9.out).2 (by have := HB9.out.size; omega) (by omega)))⟩⟩, by show xs.length - ((k : Int) + 1).toNat < xs.length - (k : Int).toNat; omega⟩
          · have hpf := Aside0.mk (show paramF name value x.f1 = x.f1.set i ⟨name, [value]⟩ by unfold paramF; rw [hi, if_pos (by omega), Int.toNat_natCast])
            obtain ⟨q, cq, eq7, hq1, hq2, qcells, hqc⟩ := Kd.N_form HN8.out (by omega)
            injection eq7 with eq7 _ ecq
            subst eq7
            subst ecq
            have hs5 := HB5.out.size
            rw [hi]
            clear hi
            obtain ⟨qc, qcl, qK, qcc, qcf⟩ := Kd.N_elem HN8.out (⟨⟨#[]⟩, []⟩ : S77) (i : Int) (by omega) (by omega)
            rw [Int.toNat_natCast] at qcc qcf qK
            obtain ⟨Aq, cqq, rfl, _, _⟩ := k77_openF qK
            have y0 : w8.cell? ⟨q, i * 2, none⟩ = _ := qcc 0 _ rfl
            have y1 : w8.cell? ⟨q, i * 2 + 1, none⟩ = _ := qcc 1 _ rfl
            have y2 : w8.frozen? ⟨q, i * 2, none⟩ = false := qcf 0
            have y3 : w8.frozen? ⟨q, i * 2 + 1, none⟩ = false := qcf 1
            have hqg : q ≠ g := by omega
            have hgq : g ≠ q := by omega
            have z0 : w8.cell? ⟨g, k * 3 + 1, none⟩ = some (.slice A1 x.f1.length c1) := (HB8.out.cell (World.block_lt_of_cell? wr _ E1.out)).trans E1.out
            have z1 : w8.frozen? ⟨g, k * 3 + 1, none⟩ = false := by
              obtain ⟨cells, hcl⟩ := Kd.N_typed HNk.out g rfl
              exact blk_frozen (blk_below hcl HB8.out) _
            obtain ⟨hn9, hg9⟩ := N_put77 HN8.out i hil (⟨name, [value]⟩ : S77) (some ⟨vb, 0, none⟩) 1 (Nat.le_refl _) (Kd.F_mono (F_one HV8.out) (fun q' hq' => ⟨⟨by rw [hq']; exact hokvb, by omega⟩, by omega⟩))
            have hb9 : Below wr.heap.size wr _ := HB8.out.trans (below_gb hg9 HB8.out.size (by omega))
            have hlen : (x.f1.set i (⟨name, [value]⟩ : S77)).length = x.f1.length := List.length_set
            rw [← hlen] at hn9
            have hx2 : (setK addr name value k xs)[k] = x := by rw [setK_at addr name value xs k hlt hku, EX.out]
            obtain ⟨f1', f2'⟩ := set_end HNk.out (fun _ => HS.out k) hb9 hlt hku hx2 hn9
            rw [hlen] at f1' f2'
            rw [show [value].length = 1 from rfl] at f1' f2' hb9
            have HF1 := Aside0.mk f1'
            have HF2 := Aside0.mk (hbk.out.trans ((hb9.mono (Nat.le_trans hbW hbk.out.size)).trans (below_gb f2' (by have := hb9.size; omega) (by omega))))
            clear f1' f2' hn9 hg9 hb9 hlen qcc qcf qK
            go_wp2
            exact ⟨⟨k + 1, by simp, hlt, ⟨by rw [hsk.out, hpf.out]; exact HF1.out⟩, ⟨HF2.out⟩⟩, by show xs.length - ((k : Int) + 1).toNat < xs.length - (k : Int).toNat; omega⟩
    · have hlt0 : decide ((k : Int) < (xs.length : Int)) = false := decide_eq_false (by omega)
      go_wp2
      go_ret
      exact ⟨_, rfl, by rw [setK_all addr name value xs k (by omega)] at HNk; exact HNk.out, hbk.out⟩⟩
end Go.Proofs.Ytebmbfobmakheaa.PD
namespace Go.Proofs.Ytebmbfobmakheaa.PD
open Go.RowKit Go.Proofs.YtebmbfobmakheaaW.PrintWords Go.Proofs.YtebmbfobmakheaaW.PrintLast Go.Proofs.YtebmbfobmakheaaW.PrintMore
attribute [local go_sem] isSome_setCell max2_int min2_int max_two min_two
set_option linter.unusedVariables false
set_option linter.unusedSimpArgs false
theorem alloc_at {w : World} {k : Nat} {cs : Array Value} {t : TypeId} (hk : k = w.heap.size) : (w.alloc (.cells cs t)).heap[k]? = some (.cells cs t (0, 0)) := by rw [hk]; exact heap_alloc_new w _
set_option maxRecDepth 100000 in
set_option maxHeartbeats 1600000 in
theorem set_walk (nm : ByteArray) (A1 : Option Addr) (n1 c1 : Nat) (P : Nat → Prop) (A : Option Addr) (c : Nat) (l : List S25) (addr name value : ByteArray) (w : World) (hs : Kd.V k25 25 w w.heap.size P (.slice A l.length c) l) (hlim : limO l = true) (ha : shortB addr = true) :
    Calls Try.prog 59 #[.agg #[.string nm, .slice A1 n1 c1, .slice A l.length c], .string addr, .string name, .string value] w fun e w' => ∃ v : Value, e = .returned (.agg #[.string nm, .slice A1 n1 c1, v]) ∧ Kd.N k25 25 w' w.heap.size (fun k => P k ∨ w.heap.size ≤ k) v (chgP (setF addr name value) l) ∧ Below w.heap.size w w' := by
  have HV := Aside0.mk hs
  clear hs
  go_enter Try.func59, Try.ntmps59
  go_wp2_with (go_at_call 62; refine Aside0.out ?_)
  refine ⟨?_⟩
  obtain ⟨W3, hW3⟩ : ∃ W3, ((((((w.alloc (Obj.cells #[Value.string nm, Value.slice A1 n1 c1, Value.slice A l.length c] 25)).alloc (Obj.cells #[Value.string addr] 9)).alloc (Obj.cells #[Value.string name] 9)).alloc (Obj.cells #[Value.string { data := #[] }, Value.slice none 0 0, Value.slice none 0 0] 25)).alloc (Obj.cells #[Value.string value] 9)).alloc (Obj.cells #[Value.string name, Value.slice (some { block := w.heap.size + 1 + 1 + 1 + 1, off := 0 }) 1 1] 77)) = W3 := ⟨_, rfl⟩
  have hz3 : W3.heap.size = w.heap.size + 6 := by rw [← hW3]; simp
  have hb3 : Below w.heap.size w W3 := by rw [← hW3]; exact below_alloc (below_alloc (below_alloc (below_alloc (below_alloc (below_alloc (Below.refl _ _) _) _) _) _) _) _
  have kO : W3.heap[w.heap.size + 1]? = some (.cells #[.string addr] 9 (0, 0)) := by rw [← hW3]; exact blk_alloc (blk_alloc (blk_alloc (blk_alloc (alloc_at (by simp)) _) _) _) _
  have kN : W3.heap[w.heap.size + 1 + 1]? = some (.cells #[.string name] 9 (0, 0)) := by rw [← hW3]; exact blk_alloc (blk_alloc (blk_alloc (alloc_at (by simp)) _) _) _
  have kR : W3.heap[w.heap.size + 1 + 1 + 1]? = some (.cells #[.string ⟨#[]⟩, .slice none 0 0, .slice none 0 0] 25 (0, 0)) := by rw [← hW3]; exact blk_alloc (blk_alloc (alloc_at (by simp)) _) _
  have kV : W3.heap[w.heap.size + 1 + 1 + 1 + 1]? = some (.cells #[.string value] 9 (0, 0)) := by rw [← hW3]; exact blk_alloc (alloc_at (by simp)) _
  have kX : W3.heap[w.heap.size + 1 + 1 + 1 + 1 + 1]? = some (.cells #[.string name, .slice (some ⟨w.heap.size + 1 + 1 + 1 + 1, 0, none⟩) 1 1] 77 (0, 0)) := by rw [← hW3]; exact alloc_at (by simp)
  rw [hW3]
  clear hW3
  refine (changed_walk 89 _ Try.func89 rfl rfl _ _ _ (fun k => k = w.heap.size + 1 + 1 + 1 + 1) (fun k => (P k ∧ k < w.heap.size) ∨ k = w.heap.size + 1 + 1 + 1 + 1) nm A1 n1 c1 A c l W3 (set1_maker W3 _ _ _ _ addr name value kO kN kX kV ha) (fun k hk => ⟨.inr hk, by omega⟩) (Kd.V_mono (Kd.V_below (Kd.V_bound HV.out) hb3) (fun _ hk => .inl hk)) (limO_len hlim) (fun x hx => by have := (limO_at hlim x hx).1; omega) (fun x hx => ⟨by have := (limO_at hlim x hx).1; omega, (limO_at hlim x hx).2⟩)).mono ?_
  rintro e w5 ⟨v5, rfl, hn5, hb5⟩
  obtain ⟨A5, c5, rfl⟩ := Kd.N_slice hn5
  have hR5 := blk_below kR hb5
  have r0 : w5.cell? ⟨w.heap.size + 1 + 1 + 1, 0, none⟩ = some (.string ⟨#[]⟩) := (blk_cell hR5 0).trans rfl
  have r1 : w5.cell? ⟨w.heap.size + 1 + 1 + 1, 1, none⟩ = some (.slice none 0 0) := (blk_cell hR5 1).trans rfl
  have r2 : w5.cell? ⟨w.heap.size + 1 + 1 + 1, 2, none⟩ = some (.slice none 0 0) := (blk_cell hR5 2).trans rfl
  have t0 : w5.frozen? ⟨w.heap.size + 1 + 1 + 1, 0, none⟩ = false := blk_frozen hR5 0
  have t1 : w5.frozen? ⟨w.heap.size + 1 + 1 + 1, 1, none⟩ = false := blk_frozen hR5 1
  have t2 : w5.frozen? ⟨w.heap.size + 1 + 1 + 1, 2, none⟩ = false := blk_frozen hR5 2
  have HN5 := Aside0.mk (Kd.N_lower hn5 (show w.heap.size ≤ W3.heap.size by omega))
  rw [hz3] at HN5
  have HB5 := Aside0.mk (hb3.trans (hb5.mono (by omega)))
  have HR5 := Aside0.mk hR5
  clear hn5 hb5 hb3 hR5 kO kN kR kV kX
  go_wp2
  refine bodyPost_ret (results_box25 _ 8 rfl _ _ (w.heap.size + 1 + 1 + 1) nm A1 A5 n1 c1 _ c5 rfl (box3_at _ _ _ HR5.out)) rfl ?_
  refine ⟨_, rfl, Kd.N_mono (Kd.N_step HN5.out (fun k hk _ => ?_)) (fun k hk => ?_), below_boxed HB5.out (by omega) _ _ _⟩
  · have hne : k ≠ w.heap.size + 1 + 1 + 1 := by rcases hk with (hk | hk) | hk <;> omega
    exact ((Below.heap_setCell _ _ _ k hne).trans (Below.heap_setCell _ _ _ k hne)).trans (Below.heap_setCell _ _ _ k hne)
  · rcases hk with (hk | hk) | hk
    · exact .inl hk.1
    · exact .inr (by omega)
    · exact .inr (by omega)
end Go.Proofs.Ytebmbfobmakheaa.PD
namespace Go.Proofs.Ytebmbfobmakheaa.PD
open Go.RowKit Go.Proofs.YtebmbfobmakheaaW.PrintWords Go.Proofs.YtebmbfobmakheaaW.PrintLast Go.Proofs.YtebmbfobmakheaaW.PrintMore
attribute [local go_sem] isSome_setCell max2_int min2_int max_two min_two
set_option linter.unusedVariables false
set_option linter.unusedSimpArgs false
set_option maxRecDepth 100000 in
set_option maxHeartbeats 1600000 in
theorem setStatus_walk (nm : ByteArray) (A1 : Option Addr) (n1 c1 : Nat) (P : Nat → Prop) (A : Option Addr) (c : Nat) (l : List S25) (addr value : ByteArray) (w : World) (hs : Kd.V k25 25 w w.heap.size P (.slice A l.length c) l) (hlim : limO l = true) (ha : shortB addr = true) :
    Calls Try.prog 19 #[.agg #[.string nm, .slice A1 n1 c1, .slice A l.length c], .string addr, .string value] w fun e w' => ∃ v : Value, e = .returned (.agg #[.string nm, .slice A1 n1 c1, v]) ∧ Kd.N k25 25 w' w.heap.size (fun k => P k ∨ w.heap.size ≤ k) v (chgP (setF addr (⟨#[80, 65, 82, 84, 83, 84, 65, 84]⟩ : ByteArray) value) l) ∧ Below w.heap.size w w' := by
  have HV := Aside0.mk hs
  clear hs
  go_enter Try.func19, Try.ntmps19
  go_wp2_with (go_at_call 59; refine Aside0.out ?_)
  refine ⟨?_⟩
  obtain ⟨W3, hW3⟩ : ∃ W3, (w.alloc (Obj.cells #[Value.string nm, Value.slice A1 n1 c1, Value.slice A l.length c] 25)).alloc (Obj.cells #[Value.string { data := #[] }, Value.slice none 0 0, Value.slice none 0 0] 25) = W3 := ⟨_, rfl⟩
  have hz3 : W3.heap.size = w.heap.size + 2 := by rw [← hW3]; simp
  have hb3 : Below w.heap.size w W3 := by rw [← hW3]; exact below_alloc (below_alloc (Below.refl _ _) _) _
  have kR : W3.heap[w.heap.size + 1]? = some (.cells #[.string ⟨#[]⟩, .slice none 0 0, .slice none 0 0] 25 (0, 0)) := by rw [← hW3]; exact alloc_at (by simp)
  rw [hW3]
  clear hW3
  refine (set_walk nm A1 n1 c1 (fun k => P k ∧ k < w.heap.size) A c l addr (⟨#[80, 65, 82, 84, 83, 84, 65, 84]⟩ : ByteArray) value W3 (Kd.V_below (Kd.V_bound HV.out) hb3) hlim ha).mono ?_
  rintro e w5 ⟨v5, rfl, hn5, hb5⟩
  obtain ⟨A5, c5, rfl⟩ := Kd.N_slice hn5
  have hR5 := blk_below kR hb5
  have r0 : w5.cell? ⟨w.heap.size + 1, 0, none⟩ = some (.string ⟨#[]⟩) := (blk_cell hR5 0).trans rfl
  have r1 : w5.cell? ⟨w.heap.size + 1, 1, none⟩ = some (.slice none 0 0) := (blk_cell hR5 1).trans rfl
  have r2 : w5.cell? ⟨w.heap.size + 1, 2, none⟩ = some (.slice none 0 0) := (blk_cell hR5 2).trans rfl
  have t0 : w5.frozen? ⟨w.heap.size + 1, 0, none⟩ = false := blk_frozen hR5 0
  have t1 : w5.frozen? ⟨w.heap.size + 1, 1, none⟩ = false := blk_frozen hR5 1
  have t2 : w5.frozen? ⟨w.heap.size + 1, 2, none⟩ = false := blk_frozen hR5 2
  have HN5 := Aside0.mk (Kd.N_lower hn5 (show w.heap.size ≤ W3.heap.size by omega))
  rw [hz3] at HN5
  have HB5 := Aside0.mk (hb3.trans (hb5.mono (by omega)))
  have HR5 := Aside0.mk hR5
  clear hn5 hb5 hb3 hR5 kR
  go_wp2
  refine bodyPost_ret (results_box25 _ 6 rfl _ _ (w.heap.size + 1) nm A1 A5 n1 c1 _ c5 rfl (box3_at _ _ _ HR5.out)) rfl ?_
  exact ⟨_, rfl, N_boxed HN5.out (by omega) (by omega) _ _ _, below_boxed HB5.out (by omega) _ _ _⟩
def itip_SetStatus.f (k : Nat) (a0_0 : ByteArray) (l0_1 : List (S45)) (l0_2 : List (S25)) (a1 : ByteArray) (a2 : ByteArray) : Option (ByteArray × (List (S45)) × (List (S25))) := if (limO l0_2 && shortB a1) = true then some (a0_0, l0_1, chgP (setF a1 (⟨#[80, 65, 82, 84, 83, 84, 65, 84]⟩ : ByteArray) a2) l0_2) else none
theorem itip_SetStatus.calls (k : Nat) (a0_0 : ByteArray) (P0_1_ : Nat → Prop) (A0_1 : Option Addr) (c0_1 : Nat) (l0_1 : List (S45)) (P0_2_ : Nat → Prop) (A0_2 : Option Addr) (c0_2 : Nat) (l0_2 : List (S25)) (a1 : ByteArray) (a2 : ByteArray) (r1 : ByteArray) (r2 : List (S45)) (r3 : List (S25)) (w : World) (hs0_1 : Kd.V k45 45 w w.heap.size (fun k_ => P0_1_ k_) (.slice A0_1 l0_1.length c0_1) l0_1) (hs0_2 : Kd.V k25 25 w w.heap.size (fun k_ => P0_2_ k_) (.slice A0_2 l0_2.length c0_2) l0_2) (h : itip_SetStatus.f k a0_0 l0_1 l0_2 a1 a2 = some (r1, r2, r3)) :
    Calls Try.prog 19 #[.agg #[.string a0_0, .slice A0_1 l0_1.length c0_1, .slice A0_2 l0_2.length c0_2], .string a1, .string a2] w fun e w' => ∃ v1_ v2_ : Value, e = .returned (.agg #[.string r1, v1_, v2_]) ∧ Kd.V k45 45 w' w.heap.size (fun k_ => ((P0_1_ k_ ∨ P0_2_ k_) ∨ w.heap.size ≤ k_) ∧ some k_ ≠ (v2_ : Value).ownBlock) v1_ r2 ∧ Kd.N k25 25 w' w.heap.size (fun k_ => ((P0_1_ k_ ∨ P0_2_ k_) ∨ w.heap.size ≤ k_)) v2_ r3 ∧ Below w.heap.size w w' := by
  unfold itip_SetStatus.f at h
  split at h
  case isFalse => cases h
  rename_i hc
  simp only [Bool.and_eq_true] at hc
  simp only [Option.some.injEq, Prod.mk.injEq] at h
  obtain ⟨rfl, rfl, rfl⟩ := h
  refine (setStatus_walk a0_0 A0_1 _ c0_1 P0_2_ A0_2 c0_2 l0_2 a1 a2 w hs0_2 hc.1 hc.2).mono ?_
  rintro e w' ⟨v, rfl, hn, hb⟩
  exact ⟨_, v, rfl, V_beside hs0_1 hb hn, Kd.N_mono hn (fun k hk => hk.imp (fun h => .inr h) id), hb⟩
end Go.Proofs.Ytebmbfobmakheaa.PD
namespace Go.Proofs.Ytebmbfobmakheaa.PD
open Go.RowKit Go.Proofs.YtebmbfobmakheaaW.PrintWords Go.Proofs.YtebmbfobmakheaaW.PrintLast Go.Proofs.YtebmbfobmakheaaW.PrintMore
attribute [local go_sem] isSome_setCell max2_int min2_int max_two min_two max_three min_three max_four min_four
set_option linter.unusedVariables false
set_option linter.unusedSimpArgs false
def itip_Message.f (k : Nat) (a0_0 : ByteArray) (l0_1 : List (S45)) (l0_2 : List (S25)) (a1 : ByteArray) : Option (ByteArray × (List (S45)) × (List (S25))) := (itip_without.f k l0_1 (⟨#[77, 69, 84, 72, 79, 68]⟩ : ByteArray)).bind fun t174 => (if a1.toList = ([] : List UInt8) then (some (a0_0, t174, l0_2)) else (if t174.length < 2513169434916 then (some (a0_0, (t174 ++ [(⟨(⟨#[77, 69, 84, 72, 79, 68]⟩ : ByteArray), ([] : List (S77)), a1⟩ : S45)]), l0_2)) else (none)))
set_option maxHeartbeats 8000000 in
set_option maxRecDepth 100000 in
theorem itip_Message.calls (k : Nat) (a0_0 : ByteArray) (P0_1_ : Nat → Prop) (A0_1 : Option Addr) (c0_1 : Nat) (l0_1 : List (S45)) (P0_2_ : Nat → Prop) (A0_2 : Option Addr) (c0_2 : Nat) (l0_2 : List (S25)) (a1 : ByteArray) (r1 : ByteArray) (r2 : List (S45)) (r3 : List (S25)) (w : World) (hs0_1 : Kd.V k45 45 w w.heap.size (fun k_ => P0_1_ k_) (.slice A0_1 l0_1.length c0_1) l0_1) (hs0_2 : Kd.V k25 25 w w.heap.size (fun k_ => P0_2_ k_) (.slice A0_2 l0_2.length c0_2) l0_2) (h : itip_Message.f k a0_0 l0_1 l0_2 a1 = some (r1, r2, r3)) :
    Calls Try.prog 23 #[.agg #[.string a0_0, .slice A0_1 l0_1.length c0_1, .slice A0_2 l0_2.length c0_2], .string a1] w fun e w' => ∃ v1_ v2_ : Value, e = .returned (.agg #[.string r1, v1_, v2_]) ∧ Kd.N k45 45 w' w.heap.size (fun k_ => ((P0_1_ k_ ∨ P0_2_ k_) ∨ w.heap.size ≤ k_)) v1_ r2 ∧ Kd.V k25 25 w' w.heap.size (fun k_ => ((P0_1_ k_ ∨ P0_2_ k_) ∨ w.heap.size ≤ k_) ∧ some k_ ≠ (v1_ : Value).ownBlock) v2_ r3 ∧ Below w.heap.size w w' := by
  have hu25 := Try.underlying25
  have hu45 := Try.underlying45
  have HO0_1 := Aside0.mk (show Kd.V k45 45 w w.heap.size (fun k_ => ((P0_1_ k_ ∨ P0_2_ k_) ∨ w.heap.size ≤ k_)) (.slice A0_1 l0_1.length c0_1) l0_1 from Kd.V_mono hs0_1 (fun k_ hk => .inl (.inl hk)))
  have HO0_2 := Aside0.mk (show Kd.V k25 25 w w.heap.size (fun k_ => ((P0_1_ k_ ∨ P0_2_ k_) ∨ w.heap.size ≤ k_)) (.slice A0_2 l0_2.length c0_2) l0_2 from Kd.V_mono hs0_2 (fun k_ hk => .inl (.inr hk)))
  have HB := Aside0.mk (Below.refl w.heap.size w)
  have H : ((itip_without.f k l0_1 (⟨#[77, 69, 84, 72, 79, 68]⟩ : ByteArray)).bind fun t174 => (if a1.toList = ([] : List UInt8) then (some (a0_0, t174, l0_2)) else (if t174.length < 2513169434916 then (some (a0_0, (t174 ++ [(⟨(⟨#[77, 69, 84, 72, 79, 68]⟩ : ByteArray), ([] : List (S77)), a1⟩ : S45)]), l0_2)) else (none)))) = some (r1, r2, r3) := h
  clear h
  replace H := Option.bind_eq_some_iff.mp H
  obtain ⟨t174, A30, H⟩ := H
  replace H : (if a1.toList = ([] : List UInt8) then (some (a0_0, t174, l0_2)) else (if t174.length < 2513169434916 then (some (a0_0, (t174 ++ [(⟨(⟨#[77, 69, 84, 72, 79, 68]⟩ : ByteArray), ([] : List (S77)), a1⟩ : S45)]), l0_2)) else (none))) = some (r1, r2, r3) := H
  have A3 := Aside0.mk A30
  clear A30
  by_cases c4 : a1.toList = ([] : List UInt8)
  · rw [if_pos c4] at H
    have c4b0 : (a1.toList == ([] : List UInt8)) = true := beq_iff_eq.mpr c4
    have c4b1 : (a1.toList != ([] : List UInt8)) = false := bne_eq_false_iff_eq.mpr c4
    clear c4
    simp only [Option.some.injEq, Prod.mk.injEq] at H
    obtain ⟨rfl, rfl, rfl⟩ := H
    go_enter Try.func23, Try.ntmps23
    go_wp2_with (first | ((with_reducible refine gate_dst (N := 2) rfl ?_); refine box_event ?hg (N := 2) ?hd (cs := #[.string a0_0, .slice A0_1 l0_1.length c0_1, .slice A0_2 l0_2.length c0_2]) (t := 25) ?hr ?_; (case hd => rfl); (case hg => rfl); (case hr => first | (go_simp; done) | (go_simp; rfl)); intro gb172 hg w5 hbox hb; have n0_ := Aside0.mk (Kd.V_below (Kd.V_elderB (by (with_reducible repeat (first | apply Kd.V_alloc | apply Kd.V_drewN | apply Kd.V_drew)); exact HO0_1.out) gb172 (Nat.le_of_eq hg.symm)) hb); have n1_ := Aside0.mk (Kd.V_below (Kd.V_elderB (by (with_reducible repeat (first | apply Kd.V_alloc | apply Kd.V_drewN | apply Kd.V_drew)); exact HO0_2.out) gb172 (Nat.le_of_eq hg.symm)) hb); have n2_ := Aside0.mk (below_step (by repeat (first | (with_reducible first | exact HB.out | apply below_alloc | apply pw_below_drewN | apply below_drew1) | exact HB.out)) hb); have n3_ := Aside0.mk (hbox); have n4_ := Aside0.mk ((by rw [hg]; exact (below_size (by repeat (first | (with_reducible first | exact HB.out | apply below_alloc | apply pw_below_drewN | apply below_drew1) | exact HB.out))) : w.heap.size ≤ gb172)); have n5_ := Aside0.mk ((by rw [hg]; exact (below_size (by repeat (first | (with_reducible first | exact HB.out | apply below_alloc | apply pw_below_drewN | apply below_drew1) | exact HB.out))) : w.heap.size ≤ gb172)); clear HO0_1; clear HO0_2; clear HB; have HO0_1 := n0_; have HO0_2 := n1_; have HB := n2_; have BK172 := n3_; have GW172 := n4_; have GE172 := n5_; clear n0_ n1_ n2_ n3_ n4_ n5_; clear hb hbox hg) | ((with_reducible refine gate_dst (N := 4) rfl ?_); refine box_event ?hg (N := 4) ?hd (cs := #[.string (⟨#[]⟩ : ByteArray), .slice none 0 0, .slice none 0 0]) (t := 25) ?hr ?_; (case hd => rfl); (case hg => rfl); (case hr => first | (go_simp; done) | (go_simp; rfl)); intro gb173 hg w6 hbox hb; have n0_ := Aside0.mk (Kd.V_below (Kd.V_elderB (by (with_reducible repeat (first | apply Kd.V_alloc | apply Kd.V_drewN | apply Kd.V_drew)); exact HO0_1.out) gb173 (Nat.le_of_eq hg.symm)) hb); have n1_ := Aside0.mk (Kd.V_below (Kd.V_elderB (by (with_reducible repeat (first | apply Kd.V_alloc | apply Kd.V_drewN | apply Kd.V_drew)); exact HO0_2.out) gb173 (Nat.le_of_eq hg.symm)) hb); have n2_ := Aside0.mk (blk_below (g := gb172) (o := .cells #[.string a0_0, .slice A0_1 l0_1.length c0_1, .slice A0_2 l0_2.length c0_2] 25 (0, 0)) (by (with_reducible repeat (first | refine blk_drewN ?_ _ | refine blk_drew ?_ | refine blk_alloc ?_ _)); exact BK172.out) hb); have n3_ := Aside0.mk (below_step (by repeat (first | (with_reducible first | exact HB.out | apply below_alloc | apply pw_below_drewN | apply below_drew1 | refine below_set ?_ GE172.out) | exact HB.out)) hb); have n4_ := Aside0.mk (hbox); have n5_ := Aside0.mk ((by rw [hg]; exact (below_size (by repeat (first | (with_reducible first | exact HB.out | apply below_alloc | apply pw_below_drewN | apply below_drew1 | refine below_set ?_ GE172.out) | exact HB.out))) : w.heap.size ≤ gb173)); have n6_ := Aside0.mk ((by rw [hg]; exact (below_size (by repeat (first | (with_reducible first | exact HB.out | apply below_alloc | apply pw_below_drewN | apply below_drew1 | refine below_set ?_ GE172.out) | exact HB.out))) : w.heap.size ≤ gb173)); have n7_ := Aside0.mk ((by rw [hg]; exact Nat.ne_of_lt (blk_lt (g := gb172) (o := .cells #[.string a0_0, .slice A0_1 l0_1.length c0_1, .slice A0_2 l0_2.length c0_2] 25 (0, 0)) (by (with_reducible repeat (first | refine blk_drewN ?_ _ | refine blk_drew ?_ | refine blk_alloc ?_ _)); exact BK172.out)) : gb172 ≠ gb173)); have n8_ := Aside0.mk ((by rw [hg]; exact Nat.ne_of_gt (blk_lt (g := gb172) (o := .cells #[.string a0_0, .slice A0_1 l0_1.length c0_1, .slice A0_2 l0_2.length c0_2] 25 (0, 0)) (by (with_reducible repeat (first | refine blk_drewN ?_ _ | refine blk_drew ?_ | refine blk_alloc ?_ _)); exact BK172.out)) : gb173 ≠ gb172)); clear HO0_1; clear HO0_2; clear BK172; clear HB; have HO0_1 := n0_; have HO0_2 := n1_; have BK172 := n2_; have HB := n3_; have BK173 := n4_; have GW173 := n5_; have GE173 := n6_; have NB172_173 := n7_; have NB173_172 := n8_; clear n0_ n1_ n2_ n3_ n4_ n5_ n6_ n7_ n8_; clear hb hbox hg; have hnb7 := NB172_173.out; have hnc7 := NB173_172.out; have hcz8_0 : w6.cell? ⟨gb172, 0, none⟩ = some (.string a0_0) := (blk_cell BK172.out 0).trans rfl; have hcz8_1 : w6.cell? ⟨gb172, 1, none⟩ = some (.slice A0_1 l0_1.length c0_1) := (blk_cell BK172.out 1).trans rfl; have hcz8_2 : w6.cell? ⟨gb172, 2, none⟩ = some (.slice A0_2 l0_2.length c0_2) := (blk_cell BK172.out 2).trans rfl; have hfz8_0 := blk_frozen BK172.out 0; have hfz8_1 := blk_frozen BK172.out 1; have hfz8_2 := blk_frozen BK172.out 2) | ((with_reducible refine gate_callee (f := 66) rfl ?_); refine goesL_ (some 7) rfl rfl Try.func66 (by kernel_rfl) rfl #[.slice A0_1 l0_1.length c0_1, .string (⟨#[77, 69, 84, 72, 79, 68]⟩ : ByteArray)] rfl (by (try simp only [List.map_toArray, List.map_cons, List.map_nil]); first | done | rfl | (simp only [List.length_drop, List.length_take]; rfl)) ?_; (with_reducible refine (itip_without.calls k (fun k_ => ((((P0_1_ k_ ∨ P0_2_ k_) ∨ w.heap.size ≤ k_) ∧ k_ ≠ gb172) ∧ k_ ≠ gb173)) _ _ l0_1 (⟨#[77, 69, 84, 72, 79, 68]⟩ : ByteArray) t174 _ ?side1 A3.out).mono ?_); (case side1 => exact HO0_1.out); rintro e w9 ⟨v175, rfl, ho0, hb⟩; refine ⟨_, rfl, ?_⟩; have n0_ := Aside0.mk (Kd.V_elder' (by (with_reducible repeat (first | apply Kd.V_alloc | apply Kd.V_drewN | apply Kd.V_drew)); exact HO0_1.out) (Kd.N_base ho0) hb); have n1_ := Aside0.mk (Kd.V_elder' (by (with_reducible repeat (first | apply Kd.V_alloc | apply Kd.V_drewN | apply Kd.V_drew)); exact HO0_2.out) (Kd.N_base ho0) hb); have n2_ := Aside0.mk (Kd.N_lower (Kd.N_mono (ok' := fun k_ => ((P0_1_ k_ ∨ P0_2_ k_) ∨ w.heap.size ≤ k_) ∧ k_ ≠ gb172 ∧ k_ ≠ gb173) ho0 (fun k_ hk_ => ⟨Or.elim hk_ (fun hs_ => hs_.1.1) (fun hn_ => (.inr (Nat.le_trans (below_size (by repeat (first | (with_reducible first | exact HB.out | apply below_alloc | apply pw_below_drewN | apply below_drew1 | refine below_set ?_ GE172.out | refine below_set ?_ GE173.out) | exact HB.out))) hn_))), Or.elim hk_ (fun hs_ => hs_.1.2) (fun hn_ => (Kd.freshB (g := gb172) (o := .cells #[.string a0_0, .slice A0_1 l0_1.length c0_1, .slice A0_2 l0_2.length c0_2] 25 (0, 0)) (by (with_reducible repeat (first | refine blk_drewN ?_ _ | refine blk_drew ?_ | refine blk_alloc ?_ _)); exact BK172.out) k_ hn_)), Or.elim hk_ (fun hs_ => hs_.2) (fun hn_ => (Kd.freshB (g := gb173) (o := .cells #[.string (⟨#[]⟩ : ByteArray), .slice none 0 0, .slice none 0 0] 25 (0, 0)) (by (with_reducible repeat (first | refine blk_drewN ?_ _ | refine blk_drew ?_ | refine blk_alloc ?_ _)); exact BK173.out) k_ hn_))⟩)) (below_size (by repeat (first | (with_reducible first | exact HB.out | apply below_alloc | apply pw_below_drewN | apply below_drew1 | refine below_set ?_ GE172.out | refine below_set ?_ GE173.out) | exact HB.out)))); have n3_ := Aside0.mk (blk_below (g := gb172) (o := .cells #[.string a0_0, .slice A0_1 l0_1.length c0_1, .slice A0_2 l0_2.length c0_2] 25 (0, 0)) (by (with_reducible repeat (first | refine blk_drewN ?_ _ | refine blk_drew ?_ | refine blk_alloc ?_ _)); exact BK172.out) hb); have n4_ := Aside0.mk (blk_below (g := gb173) (o := .cells #[.string (⟨#[]⟩ : ByteArray), .slice none 0 0, .slice none 0 0] 25 (0, 0)) (by (with_reducible repeat (first | refine blk_drewN ?_ _ | refine blk_drew ?_ | refine blk_alloc ?_ _)); exact BK173.out) hb); have n5_ := Aside0.mk (below_step (by repeat (first | (with_reducible first | exact HB.out | apply below_alloc | apply pw_below_drewN | apply below_drew1 | refine below_set ?_ GE172.out | refine below_set ?_ GE173.out) | exact HB.out)) hb); clear HO0_1; clear HO0_2; clear BK172; clear BK173; clear HB; have HO0_1 := n0_; have HO0_2 := n1_; have HO176 := n2_; have BK172 := n3_; have BK173 := n4_; have HB := n5_; clear n0_ n1_ n2_ n3_ n4_ n5_; (try clear hb); (try clear hb2); (try clear hk); (try clear hi); (try clear ho0); obtain ⟨Ao10, co10, eo10⟩ := Kd.N_slice HO176.out; subst eo10; have hcz11_0 : w9.cell? ⟨gb172, 0, none⟩ = some (.string a0_0) := (blk_cell BK172.out 0).trans rfl; have hcz11_1 : w9.cell? ⟨gb172, 1, none⟩ = some (.slice A0_1 l0_1.length c0_1) := (blk_cell BK172.out 1).trans rfl; have hcz11_2 : w9.cell? ⟨gb172, 2, none⟩ = some (.slice A0_2 l0_2.length c0_2) := (blk_cell BK172.out 2).trans rfl; have hfz11_0 := blk_frozen BK172.out 0; have hfz11_1 := blk_frozen BK172.out 1; have hfz11_2 := blk_frozen BK172.out 2; have hcz12_0 : w9.cell? ⟨gb173, 0, none⟩ = some (.string (⟨#[]⟩ : ByteArray)) := (blk_cell BK173.out 0).trans rfl; have hcz12_1 : w9.cell? ⟨gb173, 1, none⟩ = some (.slice none 0 0) := (blk_cell BK173.out 1).trans rfl; have hcz12_2 : w9.cell? ⟨gb173, 2, none⟩ = some (.slice none 0 0) := (blk_cell BK173.out 2).trans rfl; have hfz12_0 := blk_frozen BK173.out 0; have hfz12_1 := blk_frozen BK173.out 1; have hfz12_2 := blk_frozen BK173.out 2))
    refine bodyPost_ret (results_cell_row rfl _ _ gb173 25 #[.string a0_0, .slice Ao10 t174.length co10, .slice A0_2 l0_2.length c0_2] (0, 0) _ rfl (by (with_reducible repeat (first | refine blk_drewN ?_ _ | refine blk_drew ?_ | refine blk_alloc ?_ _)); refine blk_put (cs := #[.string a0_0, .slice Ao10 t174.length co10, .slice none 0 0]) ?_ 2 _ rfl; (with_reducible repeat (first | refine blk_drewN ?_ _ | refine blk_drew ?_ | refine blk_alloc ?_ _)); refine blk_put (cs := #[.string a0_0, .slice none 0 0, .slice none 0 0]) ?_ 1 _ rfl; (with_reducible repeat (first | refine blk_drewN ?_ _ | refine blk_drew ?_ | refine blk_alloc ?_ _)); refine blk_put (cs := #[.string (⟨#[]⟩ : ByteArray), .slice none 0 0, .slice none 0 0]) ?_ 0 _ rfl; (with_reducible repeat (first | refine blk_drewN ?_ _ | refine blk_drew ?_ | refine blk_alloc ?_ _)); refine blk_far ?_ NB173_172.out _; (with_reducible repeat (first | refine blk_drewN ?_ _ | refine blk_drew ?_ | refine blk_alloc ?_ _)); exact BK173.out) Try.underlying25 rfl (by kernel_rfl)) rfl ?_
    exact ⟨_, _, by first | rfl | (simp [errW_none, errW_some] <;> rfl) | (simp [*, errW_none, errW_some] <;> rfl), by (with_reducible repeat (first | apply Kd.N_alloc | apply Kd.N_drewN | apply Kd.N_drew)); exact Kd.N_mono (Kd.N_far (p := ⟨gb173, 2, none⟩) (Kd.N_far (p := ⟨gb173, 1, none⟩) (Kd.N_far (p := ⟨gb173, 0, none⟩) (Kd.N_far (p := ⟨gb172, 1, none⟩) (Kd.N_mono (Kd.N_mono HO176.out (fun k_ hk => (⟨hk, hk.2.1⟩ : _ ∧ k_ ≠ gb172))) (fun k_ hk => (⟨hk, hk.1.2.2⟩ : _ ∧ k_ ≠ gb173))) (fun _ hk => hk.1.2) (.slice Ao10 t174.length co10)) (fun _ hk => hk.2) (.string a0_0)) (fun _ hk => hk.2) (.slice Ao10 t174.length co10)) (fun _ hk => hk.2) (.slice A0_2 l0_2.length c0_2)) (fun _ hk => hk.1.1.1), by (with_reducible repeat (first | apply Kd.V_alloc | apply Kd.V_drewN | apply Kd.V_drew)); exact Kd.V_mono (Kd.V_far (p := ⟨gb173, 2, none⟩) (Kd.V_far (p := ⟨gb173, 1, none⟩) (Kd.V_far (p := ⟨gb173, 0, none⟩) (Kd.V_far (p := ⟨gb172, 1, none⟩) (Kd.V_mono (Kd.V_mono HO0_2.out (fun k_ hk => (⟨hk, hk.1.1.2⟩ : _ ∧ k_ ≠ gb172))) (fun k_ hk => (⟨hk, hk.1.1.2⟩ : _ ∧ k_ ≠ gb173))) (fun _ hk => hk.1.2) (.slice Ao10 t174.length co10)) (fun _ hk => hk.2) (.string a0_0)) (fun _ hk => hk.2) (.slice Ao10 t174.length co10)) (fun _ hk => hk.2) (.slice A0_2 l0_2.length c0_2)) (fun _ hk => ⟨hk.1.1.1.1.1, hk.1.1.2⟩), by repeat (first | (with_reducible first | exact HB.out | apply below_alloc | apply pw_below_drewN | apply below_drew1 | refine below_set ?_ GE172.out | refine below_set ?_ GE173.out) | exact HB.out)⟩
  · rw [if_neg c4] at H
    have c4b0 : (a1.toList == ([] : List UInt8)) = false := beq_eq_false_iff_ne.mpr c4
    have c4b1 : (a1.toList != ([] : List UInt8)) = true := bne_iff_ne.mpr c4
    by_cases c13 : t174.length < 2513169434916
    · rw [if_pos c13] at H
      have LMc13 := Aside0.mk c13
      clear c13
      obtain ⟨y177, hy177⟩ : ∃ y_ : List (S45), y_ = (t174 ++ [(⟨(⟨#[77, 69, 84, 72, 79, 68]⟩ : ByteArray), ([] : List (S77)), a1⟩ : S45)]) := ⟨_, rfl⟩
      replace H : (some (a0_0, y177, l0_2)) = some (r1, r2, r3) := by first | (rw [hy177]; with_reducible exact H) | (have H2_ := (Option.bind_some _ _).symm.trans H; rw [hy177]; with_reducible exact H2_) | (have H2_ := (Option.bind_some _ _).symm.trans H; with_reducible exact H2_) | with_reducible exact H | (rw [hy177]; exact H) | exact H
      have Ny177 := Aside0.mk hy177
      clear hy177
      simp only [Option.some.injEq, Prod.mk.injEq] at H
      obtain ⟨rfl, rfl, rfl⟩ := H
      go_enter Try.func23, Try.ntmps23
      go_wp2_with (first | ((with_reducible refine gate_dst (N := 2) rfl ?_); refine box_event ?hg (N := 2) ?hd (cs := #[.string a0_0, .slice A0_1 l0_1.length c0_1, .slice A0_2 l0_2.length c0_2]) (t := 25) ?hr ?_; (case hd => rfl); (case hg => rfl); (case hr => first | (go_simp; done) | (go_simp; rfl)); intro gb172 hg w14 hbox hb; have n0_ := Aside0.mk (Kd.V_below (Kd.V_elderB (by (with_reducible repeat (first | apply Kd.V_alloc | apply Kd.V_drewN | apply Kd.V_drew)); exact HO0_1.out) gb172 (Nat.le_of_eq hg.symm)) hb); have n1_ := Aside0.mk (Kd.V_below (Kd.V_elderB (by (with_reducible repeat (first | apply Kd.V_alloc | apply Kd.V_drewN | apply Kd.V_drew)); exact HO0_2.out) gb172 (Nat.le_of_eq hg.symm)) hb); have n2_ := Aside0.mk (below_step (by repeat (first | (with_reducible first | exact HB.out | apply below_alloc | apply pw_below_drewN | apply below_drew1) | exact HB.out)) hb); have n3_ := Aside0.mk (hbox); have n4_ := Aside0.mk ((by rw [hg]; exact (below_size (by repeat (first | (with_reducible first | exact HB.out | apply below_alloc | apply pw_below_drewN | apply below_drew1) | exact HB.out))) : w.heap.size ≤ gb172)); have n5_ := Aside0.mk ((by rw [hg]; exact (below_size (by repeat (first | (with_reducible first | exact HB.out | apply below_alloc | apply pw_below_drewN | apply below_drew1) | exact HB.out))) : w.heap.size ≤ gb172)); clear HO0_1; clear HO0_2; clear HB; have HO0_1 := n0_; have HO0_2 := n1_; have HB := n2_; have BK172 := n3_; have GW172 := n4_; have GE172 := n5_; clear n0_ n1_ n2_ n3_ n4_ n5_; clear hb hbox hg) | ((with_reducible refine gate_dst (N := 4) rfl ?_); refine box_event ?hg (N := 4) ?hd (cs := #[.string (⟨#[]⟩ : ByteArray), .slice none 0 0, .slice none 0 0]) (t := 25) ?hr ?_; (case hd => rfl); (case hg => rfl); (case hr => first | (go_simp; done) | (go_simp; rfl)); intro gb173 hg w15 hbox hb; have n0_ := Aside0.mk (Kd.V_below (Kd.V_elderB (by (with_reducible repeat (first | apply Kd.V_alloc | apply Kd.V_drewN | apply Kd.V_drew)); exact HO0_1.out) gb173 (Nat.le_of_eq hg.symm)) hb); have n1_ := Aside0.mk (Kd.V_below (Kd.V_elderB (by (with_reducible repeat (first | apply Kd.V_alloc | apply Kd.V_drewN | apply Kd.V_drew)); exact HO0_2.out) gb173 (Nat.le_of_eq hg.symm)) hb); have n2_ := Aside0.mk (blk_below (g := gb172) (o := .cells #[.string a0_0, .slice A0_1 l0_1.length c0_1, .slice A0_2 l0_2.length c0_2] 25 (0, 0)) (by (with_reducible repeat (first | refine blk_drewN ?_ _ | refine blk_drew ?_ | refine blk_alloc ?_ _)); exact BK172.out) hb); have n3_ := Aside0.mk (below_step (by repeat (first | (with_reducible first | exact HB.out | apply below_alloc | apply pw_below_drewN | apply below_drew1 | refine below_set ?_ GE172.out) | exact HB.out)) hb); have n4_ := Aside0.mk (hbox); have n5_ := Aside0.mk ((by rw [hg]; exact (below_size (by repeat (first | (with_reducible first | exact HB.out | apply below_alloc | apply pw_below_drewN | apply below_drew1 | refine below_set ?_ GE172.out) | exact HB.out))) : w.heap.size ≤ gb173)); have n6_ := Aside0.mk ((by rw [hg]; exact (below_size (by repeat (first | (with_reducible first | exact HB.out | apply below_alloc | apply pw_below_drewN | apply below_drew1 | refine below_set ?_ GE172.out) | exact HB.out))) : w.heap.size ≤ gb173)); have n7_ := Aside0.mk ((by rw [hg]; exact Nat.ne_of_lt (blk_lt (g := gb172) (o := .cells #[.string a0_0, .slice A0_1 l0_1.length c0_1, .slice A0_2 l0_2.length c0_2] 25 (0, 0)) (by (with_reducible repeat (first | refine blk_drewN ?_ _ | refine blk_drew ?_ | refine blk_alloc ?_ _)); exact BK172.out)) : gb172 ≠ gb173)); have n8_ := Aside0.mk ((by rw [hg]; exact Nat.ne_of_gt (blk_lt (g := gb172) (o := .cells #[.string a0_0, .slice A0_1 l0_1.length c0_1, .slice A0_2 l0_2.length c0_2] 25 (0, 0)) (by (with_reducible repeat (first | refine blk_drewN ?_ _ | refine blk_drew ?_ | refine blk_alloc ?_ _)); exact BK172.out)) : gb173 ≠ gb172)); clear HO0_1; clear HO0_2; clear BK172; clear HB; have HO0_1 := n0_; have HO0_2 := n1_; have BK172 := n2_; have HB := n3_; have BK173 := n4_; have GW173 := n5_; have GE173 := n6_; have NB172_173 := n7_; have NB173_172 := n8_; clear n0_ n1_ n2_ n3_ n4_ n5_ n6_ n7_ n8_; clear hb hbox hg; have hnb16 := NB172_173.out; have hnc16 := NB173_172.out; have hcz17_0 : w15.cell? ⟨gb172, 0, none⟩ = some (.string a0_0) := (blk_cell BK172.out 0).trans rfl; have hcz17_1 : w15.cell? ⟨gb172, 1, none⟩ = some (.slice A0_1 l0_1.length c0_1) := (blk_cell BK172.out 1).trans rfl; have hcz17_2 : w15.cell? ⟨gb172, 2, none⟩ = some (.slice A0_2 l0_2.length c0_2) := (blk_cell BK172.out 2).trans rfl; have hfz17_0 := blk_frozen BK172.out 0; have hfz17_1 := blk_frozen BK172.out 1; have hfz17_2 := blk_frozen BK172.out 2) | ((with_reducible refine gate_callee (f := 66) rfl ?_); refine goesL_ (some 7) rfl rfl Try.func66 (by kernel_rfl) rfl #[.slice A0_1 l0_1.length c0_1, .string (⟨#[77, 69, 84, 72, 79, 68]⟩ : ByteArray)] rfl (by (try simp only [List.map_toArray, List.map_cons, List.map_nil]); first | done | rfl | (simp only [List.length_drop, List.length_take]; rfl)) ?_; (with_reducible refine (itip_without.calls k (fun k_ => ((((P0_1_ k_ ∨ P0_2_ k_) ∨ w.heap.size ≤ k_) ∧ k_ ≠ gb172) ∧ k_ ≠ gb173)) _ _ l0_1 (⟨#[77, 69, 84, 72, 79, 68]⟩ : ByteArray) t174 _ ?side1 A3.out).mono ?_); (case side1 => exact HO0_1.out); rintro e w18 ⟨v175, rfl, ho0, hb⟩; refine ⟨_, rfl, ?_⟩; have n0_ := Aside0.mk (Kd.V_elder' (by (with_reducible repeat (first | apply Kd.V_alloc | apply Kd.V_drewN | apply Kd.V_drew)); exact HO0_1.out) (Kd.N_base ho0) hb); have n1_ := Aside0.mk (Kd.V_elder' (by (with_reducible repeat (first | apply Kd.V_alloc | apply Kd.V_drewN | apply Kd.V_drew)); exact HO0_2.out) (Kd.N_base ho0) hb); have n2_ := Aside0.mk (Kd.N_lower (Kd.N_mono (ok' := fun k_ => ((P0_1_ k_ ∨ P0_2_ k_) ∨ w.heap.size ≤ k_) ∧ k_ ≠ gb172 ∧ k_ ≠ gb173) ho0 (fun k_ hk_ => ⟨Or.elim hk_ (fun hs_ => hs_.1.1) (fun hn_ => (.inr (Nat.le_trans (below_size (by repeat (first | (with_reducible first | exact HB.out | apply below_alloc | apply pw_below_drewN | apply below_drew1 | refine below_set ?_ GE172.out | refine below_set ?_ GE173.out) | exact HB.out))) hn_))), Or.elim hk_ (fun hs_ => hs_.1.2) (fun hn_ => (Kd.freshB (g := gb172) (o := .cells #[.string a0_0, .slice A0_1 l0_1.length c0_1, .slice A0_2 l0_2.length c0_2] 25 (0, 0)) (by (with_reducible repeat (first | refine blk_drewN ?_ _ | refine blk_drew ?_ | refine blk_alloc ?_ _)); exact BK172.out) k_ hn_)), Or.elim hk_ (fun hs_ => hs_.2) (fun hn_ => (Kd.freshB (g := gb173) (o := .cells #[.string (⟨#[]⟩ : ByteArray), .slice none 0 0, .slice none 0 0] 25 (0, 0)) (by (with_reducible repeat (first | refine blk_drewN ?_ _ | refine blk_drew ?_ | refine blk_alloc ?_ _)); exact BK173.out) k_ hn_))⟩)) (below_size (by repeat (first | (with_reducible first | exact HB.out | apply below_alloc | apply pw_below_drewN | apply below_drew1 | refine below_set ?_ GE172.out | refine below_set ?_ GE173.out) | exact HB.out)))); have n3_ := Aside0.mk (blk_below (g := gb172) (o := .cells #[.string a0_0, .slice A0_1 l0_1.length c0_1, .slice A0_2 l0_2.length c0_2] 25 (0, 0)) (by (with_reducible repeat (first | refine blk_drewN ?_ _ | refine blk_drew ?_ | refine blk_alloc ?_ _)); exact BK172.out) hb); have n4_ := Aside0.mk (blk_below (g := gb173) (o := .cells #[.string (⟨#[]⟩ : ByteArray), .slice none 0 0, .slice none 0 0] 25 (0, 0)) (by (with_reducible repeat (first | refine blk_drewN ?_ _ | refine blk_drew ?_ | refine blk_alloc ?_ _)); exact BK173.out) hb); have n5_ := Aside0.mk (below_step (by repeat (first | (with_reducible first | exact HB.out | apply below_alloc | apply pw_below_drewN | apply below_drew1 | refine below_set ?_ GE172.out | refine below_set ?_ GE173.out) | exact HB.out)) hb); clear HO0_1; clear HO0_2; clear BK172; clear BK173; clear HB; have HO0_1 := n0_; have HO0_2 := n1_; have HO176 := n2_; have BK172 := n3_; have BK173 := n4_; have HB := n5_; clear n0_ n1_ n2_ n3_ n4_ n5_; (try clear hb); (try clear hb2); (try clear hk); (try clear hi); (try clear ho0); obtain ⟨Ao19, co19, eo19⟩ := Kd.N_slice HO176.out; subst eo19; have hcz20_0 : w18.cell? ⟨gb172, 0, none⟩ = some (.string a0_0) := (blk_cell BK172.out 0).trans rfl; have hcz20_1 : w18.cell? ⟨gb172, 1, none⟩ = some (.slice A0_1 l0_1.length c0_1) := (blk_cell BK172.out 1).trans rfl; have hcz20_2 : w18.cell? ⟨gb172, 2, none⟩ = some (.slice A0_2 l0_2.length c0_2) := (blk_cell BK172.out 2).trans rfl; have hfz20_0 := blk_frozen BK172.out 0; have hfz20_1 := blk_frozen BK172.out 1; have hfz20_2 := blk_frozen BK172.out 2) | ((with_reducible refine gate_builtin (b := .append) (xs := #[.tmp 12, .tmp 15]) rfl ?_); at_builtin; refine Kd.N_append k45 (w0 := w) w.heap.size rfl (.tmp 12) (.tmp 15) 22 45 (.agg #[(.string ⟨#[]⟩), (.slice none 0 0), (.string ⟨#[]⟩)]) 56 rfl Try.underlying22 info45 rfl (by decide) (by omega) (.slice Ao19 t174.length co19) t174 (⟨(⟨#[77, 69, 84, 72, 79, 68]⟩ : ByteArray), ([] : List (S77)), a1⟩ : S45) [.string (⟨#[77, 69, 84, 72, 79, 68]⟩ : ByteArray), .slice none 0 0, .string a1] (fun k_ => ((P0_1_ k_ ∨ P0_2_ k_) ∨ w.heap.size ≤ k_) ∧ k_ ≠ gb172 ∧ k_ ≠ gb173) (fun k_ => ((fun k_ => ((P0_1_ k_ ∨ P0_2_ k_) ∨ w.heap.size ≤ k_) ∧ k_ ≠ gb172 ∧ k_ ≠ gb173)) k_ ∧ some k_ ≠ (.slice Ao19 t174.length co19 : Value).ownBlock) rfl (by first | (go_simp; done) | (go_simp; rfl)) ?aP (fun _ hk => hk) ?aF ?aO ?aB ?aS ?aL ?_; (case aP => exact (k45_mkF _ _ (⟨(⟨#[77, 69, 84, 72, 79, 68]⟩ : ByteArray), ([] : List (S77)), a1⟩ : S45) (Nat.le_refl _) (Kd.F_nil _ _ _))); (case aB => exact (by repeat (first | (with_reducible first | exact HB.out | apply below_alloc | apply pw_below_drewN | apply below_drew1 | refine below_set ?_ GE172.out | refine below_set ?_ GE173.out) | exact HB.out))); (case aF => exact (fun k_ hk => ⟨(.inr (Nat.le_trans (below_size (by repeat (first | (with_reducible first | exact HB.out | apply below_alloc | apply pw_below_drewN | apply below_drew1 | refine below_set ?_ GE172.out | refine below_set ?_ GE173.out) | exact HB.out))) hk)), Kd.freshB (g := gb172) (o := .cells #[.string a0_0, .slice Ao19 t174.length co19, .slice A0_2 l0_2.length c0_2] 25 (0, 0)) (by (with_reducible repeat (first | refine blk_drewN ?_ _ | refine blk_drew ?_ | refine blk_alloc ?_ _)); refine blk_put (cs := #[.string a0_0, .slice A0_1 l0_1.length c0_1, .slice A0_2 l0_2.length c0_2]) ?_ 1 _ rfl; (with_reducible repeat (first | refine blk_drewN ?_ _ | refine blk_drew ?_ | refine blk_alloc ?_ _)); exact BK172.out) k_ hk, Kd.freshB (g := gb173) (o := .cells #[.string (⟨#[]⟩ : ByteArray), .slice none 0 0, .slice none 0 0] 25 (0, 0)) (by (with_reducible repeat (first | refine blk_drewN ?_ _ | refine blk_drew ?_ | refine blk_alloc ?_ _)); refine blk_far ?_ NB173_172.out _; (with_reducible repeat (first | refine blk_drewN ?_ _ | refine blk_drew ?_ | refine blk_alloc ?_ _)); exact BK173.out) k_ hk⟩)); (case aO => exact (by (with_reducible repeat (first | apply Kd.N_alloc | apply Kd.N_drewN | apply Kd.N_drew)); exact Kd.N_mono (Kd.N_far (p := ⟨gb172, 1, none⟩) (Kd.N_mono HO176.out (fun k_ hk => (⟨hk, hk.2.1⟩ : _ ∧ k_ ≠ gb172))) (fun _ hk => hk.2) (.slice Ao19 t174.length co19)) (fun _ hk => ⟨hk.1.1, ⟨hk.1.2.1, hk.1.2.2⟩⟩))); (case aS => exact (below_size (by repeat (first | (with_reducible first | exact HB.out | apply below_alloc | apply pw_below_drewN | apply below_drew1 | refine below_set ?_ GE172.out | refine below_set ?_ GE173.out) | exact HB.out)))); (case aL => have := LMc13.out; omega); intro v178 w21 ho hb hg hat; rw [← Ny177.out] at ho; have n0_ := Aside0.mk (Kd.V_afterv (ok := (fun k_ => ((P0_1_ k_ ∨ P0_2_ k_) ∨ w.heap.size ≤ k_) ∧ k_ ≠ gb172 ∧ k_ ≠ gb173)) (by (with_reducible repeat (first | apply Kd.V_alloc | apply Kd.V_drewN | apply Kd.V_drew)); exact Kd.V_mono (Kd.V_far (p := ⟨gb172, 1, none⟩) (Kd.V_mono HO0_1.out (fun k_ hk => (⟨hk, hk.1.1.2⟩ : _ ∧ k_ ≠ gb172))) (fun _ hk => hk.2) (.slice Ao19 t174.length co19)) (fun _ hk => ⟨⟨hk.1.1.1.1, ⟨hk.1.1.1.2, hk.1.1.2⟩⟩, hk.1.2⟩)) hg hat); have n1_ := Aside0.mk (Kd.V_afterv (ok := (fun k_ => ((P0_1_ k_ ∨ P0_2_ k_) ∨ w.heap.size ≤ k_) ∧ k_ ≠ gb172 ∧ k_ ≠ gb173)) (by (with_reducible repeat (first | apply Kd.V_alloc | apply Kd.V_drewN | apply Kd.V_drew)); exact Kd.V_mono (Kd.V_far (p := ⟨gb172, 1, none⟩) (Kd.V_mono HO0_2.out (fun k_ hk => (⟨hk, hk.1.1.2⟩ : _ ∧ k_ ≠ gb172))) (fun _ hk => hk.2) (.slice Ao19 t174.length co19)) (fun _ hk => ⟨⟨hk.1.1.1.1, ⟨hk.1.1.1.2, hk.1.1.2⟩⟩, hk.1.2⟩)) hg hat); have n2_ := Aside0.mk (blk_grown (g := gb172) (o := .cells #[.string a0_0, .slice Ao19 t174.length co19, .slice A0_2 l0_2.length c0_2] 25 (0, 0)) (by (with_reducible repeat (first | refine blk_drewN ?_ _ | refine blk_drew ?_ | refine blk_alloc ?_ _)); refine blk_put (cs := #[.string a0_0, .slice A0_1 l0_1.length c0_1, .slice A0_2 l0_2.length c0_2]) ?_ 1 _ rfl; (with_reducible repeat (first | refine blk_drewN ?_ _ | refine blk_drew ?_ | refine blk_alloc ?_ _)); exact BK172.out) hg (Kd.N_ne HO176.out BK172.out (by decide))); have n3_ := Aside0.mk (blk_grown (g := gb173) (o := .cells #[.string (⟨#[]⟩ : ByteArray), .slice none 0 0, .slice none 0 0] 25 (0, 0)) (by (with_reducible repeat (first | refine blk_drewN ?_ _ | refine blk_drew ?_ | refine blk_alloc ?_ _)); refine blk_far ?_ NB173_172.out _; (with_reducible repeat (first | refine blk_drewN ?_ _ | refine blk_drew ?_ | refine blk_alloc ?_ _)); exact BK173.out) hg (Kd.N_ne HO176.out BK173.out (by decide))); have n4_ := Aside0.mk (hb); have n5_ := Aside0.mk (ho); clear HO0_1; clear HO0_2; clear BK172; clear BK173; clear HB; clear HO176; have HO0_1 := n0_; have HO0_2 := n1_; have BK172 := n2_; have BK173 := n3_; have HB := n4_; have HO179 := n5_; clear n0_ n1_ n2_ n3_ n4_ n5_; clear ho hb hg hat; obtain ⟨Ao22, co22, eo22⟩ := Kd.N_slice HO179.out; subst eo22; have hcz23_0 : w21.cell? ⟨gb172, 0, none⟩ = some (.string a0_0) := (blk_cell BK172.out 0).trans rfl; have hcz23_1 : w21.cell? ⟨gb172, 1, none⟩ = some (.slice Ao19 t174.length co19) := (blk_cell BK172.out 1).trans rfl; have hcz23_2 : w21.cell? ⟨gb172, 2, none⟩ = some (.slice A0_2 l0_2.length c0_2) := (blk_cell BK172.out 2).trans rfl; have hfz23_0 := blk_frozen BK172.out 0; have hfz23_1 := blk_frozen BK172.out 1; have hfz23_2 := blk_frozen BK172.out 2; have hcz24_0 : w21.cell? ⟨gb173, 0, none⟩ = some (.string (⟨#[]⟩ : ByteArray)) := (blk_cell BK173.out 0).trans rfl; have hcz24_1 : w21.cell? ⟨gb173, 1, none⟩ = some (.slice none 0 0) := (blk_cell BK173.out 1).trans rfl; have hcz24_2 : w21.cell? ⟨gb173, 2, none⟩ = some (.slice none 0 0) := (blk_cell BK173.out 2).trans rfl; have hfz24_0 := blk_frozen BK173.out 0; have hfz24_1 := blk_frozen BK173.out 1; have hfz24_2 := blk_frozen BK173.out 2))
      refine bodyPost_ret (results_cell_row rfl _ _ gb173 25 #[.string a0_0, .slice Ao22 y177.length co22, .slice A0_2 l0_2.length c0_2] (0, 0) _ rfl (by (with_reducible repeat (first | refine blk_drewN ?_ _ | refine blk_drew ?_ | refine blk_alloc ?_ _)); refine blk_put (cs := #[.string a0_0, .slice Ao22 y177.length co22, .slice none 0 0]) ?_ 2 _ rfl; (with_reducible repeat (first | refine blk_drewN ?_ _ | refine blk_drew ?_ | refine blk_alloc ?_ _)); refine blk_put (cs := #[.string a0_0, .slice none 0 0, .slice none 0 0]) ?_ 1 _ rfl; (with_reducible repeat (first | refine blk_drewN ?_ _ | refine blk_drew ?_ | refine blk_alloc ?_ _)); refine blk_put (cs := #[.string (⟨#[]⟩ : ByteArray), .slice none 0 0, .slice none 0 0]) ?_ 0 _ rfl; (with_reducible repeat (first | refine blk_drewN ?_ _ | refine blk_drew ?_ | refine blk_alloc ?_ _)); refine blk_far ?_ NB173_172.out _; (with_reducible repeat (first | refine blk_drewN ?_ _ | refine blk_drew ?_ | refine blk_alloc ?_ _)); exact BK173.out) Try.underlying25 rfl (by kernel_rfl)) rfl ?_
      exact ⟨_, _, by first | rfl | (simp [errW_none, errW_some] <;> rfl) | (simp [*, errW_none, errW_some] <;> rfl), by (with_reducible repeat (first | apply Kd.N_alloc | apply Kd.N_drewN | apply Kd.N_drew)); exact Kd.N_mono (Kd.N_far (p := ⟨gb173, 2, none⟩) (Kd.N_far (p := ⟨gb173, 1, none⟩) (Kd.N_far (p := ⟨gb173, 0, none⟩) (Kd.N_far (p := ⟨gb172, 1, none⟩) (Kd.N_mono (Kd.N_mono HO179.out (fun k_ hk => (⟨hk, hk.2.1⟩ : _ ∧ k_ ≠ gb172))) (fun k_ hk => (⟨hk, hk.1.2.2⟩ : _ ∧ k_ ≠ gb173))) (fun _ hk => hk.1.2) (.slice Ao22 y177.length co22)) (fun _ hk => hk.2) (.string a0_0)) (fun _ hk => hk.2) (.slice Ao22 y177.length co22)) (fun _ hk => hk.2) (.slice A0_2 l0_2.length c0_2)) (fun _ hk => hk.1.1.1), by (with_reducible repeat (first | apply Kd.V_alloc | apply Kd.V_drewN | apply Kd.V_drew)); exact Kd.V_mono (Kd.V_far (p := ⟨gb173, 2, none⟩) (Kd.V_far (p := ⟨gb173, 1, none⟩) (Kd.V_far (p := ⟨gb173, 0, none⟩) (Kd.V_far (p := ⟨gb172, 1, none⟩) (Kd.V_mono (Kd.V_mono HO0_2.out (fun k_ hk => (⟨hk, hk.1.2.1⟩ : _ ∧ k_ ≠ gb172))) (fun k_ hk => (⟨hk, hk.1.1.2.2⟩ : _ ∧ k_ ≠ gb173))) (fun _ hk => hk.1.2) (.slice Ao22 y177.length co22)) (fun _ hk => hk.2) (.string a0_0)) (fun _ hk => hk.2) (.slice Ao22 y177.length co22)) (fun _ hk => hk.2) (.slice A0_2 l0_2.length c0_2)) (fun _ hk => ⟨hk.1.1.1.1, hk.1.1.2⟩), by repeat (first | (with_reducible first | exact HB.out | apply below_alloc | apply pw_below_drewN | apply below_drew1 | refine below_set ?_ GE172.out | refine below_set ?_ GE173.out) | exact HB.out)⟩
    · rw [if_neg c13] at H
      exact absurd H (by simp)
end Go.Proofs.Ytebmbfobmakheaa.PD
namespace Go.Proofs.Ytebmbfobmakheaa.PD
open Go.RowKit Go.Shelf Go.Proofs.YtebmbfobmakheaaW.PrintWords Go.Proofs.YtebmbfobmakheaaW.PrintLast Go.Proofs.YtebmbfobmakheaaW.PrintMore
set_option linter.unusedVariables false
set_option linter.unusedSimpArgs false
abbrev sMU : ByteArray := ⟨#[77, 65, 73, 76, 84, 79, 58, 117, 64, 65, 108, 109, 97, 110, 97, 99]⟩
abbrev sAB : ByteArray := ⟨#[109, 97, 105, 108, 116, 111, 58, 97, 32, 98, 64, 97, 108, 109, 97, 110, 97, 99]⟩
abbrev sU : ByteArray := ⟨#[117]⟩
abbrev sOrg : ByteArray := ⟨#[79, 82, 71, 65, 78, 73, 90, 69, 82]⟩
abbrev smU : ByteArray := ⟨#[109, 97, 105, 108, 116, 111, 58, 117, 64, 97, 108, 109, 97, 110, 97, 99]⟩
abbrev sAtt : ByteArray := ⟨#[65, 84, 84, 69, 78, 68, 69, 69]⟩
abbrev smV : ByteArray := ⟨#[109, 97, 105, 108, 116, 111, 58, 118, 64, 97, 108, 109, 97, 110, 97, 99]⟩
abbrev sMV : ByteArray := ⟨#[77, 65, 73, 76, 84, 79, 58, 118, 64, 97, 108, 109, 97, 110, 97, 99]⟩
abbrev sDts : ByteArray := ⟨#[68, 84, 83, 84, 65, 82, 84]⟩
abbrev sDay : ByteArray := ⟨#[50, 48, 50, 53, 48, 49, 48, 49]⟩
abbrev sEv : ByteArray := ⟨#[86, 69, 86, 69, 78, 84]⟩
abbrev sCal : ByteArray := ⟨#[86, 67, 65, 76, 69, 78, 68, 65, 82]⟩
abbrev sAcc : ByteArray := ⟨#[65, 67, 67, 69, 80, 84, 69, 68]⟩
abbrev sNeeds : ByteArray := ⟨#[78, 69, 69, 68, 83, 45, 65, 67, 84, 73, 79, 78]⟩
abbrev sReq : ByteArray := ⟨#[82, 69, 81, 85, 69, 83, 84]⟩
abbrev sPart : ByteArray := ⟨#[80, 65, 82, 84, 83, 84, 65, 84]⟩
abbrev sNo : ByteArray := ⟨#[]⟩
abbrev cProps : List S45 := [⟨sOrg, [], smU⟩, ⟨sAtt, [], smV⟩, ⟨sDts, [], sDay⟩]
abbrev cComps : List S25 := [⟨sEv, cProps, []⟩]
abbrev dComps : List S25 := [⟨sEv, [⟨sOrg, [], smU⟩, ⟨sAtt, [⟨sPart, [sAcc]⟩], smV⟩, ⟨sDts, [], sDay⟩], []⟩]
theorem pu1 : itip_User.f 1 sMU = some (sU, true) := by rw [user_val 0 _ (by decide)]; decide +kernel
theorem pu2 : itip_User.f 1 sAB = some (sNo, false) := by rw [user_val 0 _ (by decide)]; decide +kernel
theorem pset : itip_SetStatus.f 0 sCal [] cComps sMV sAcc = some (sCal, [], dComps) := by kernel_rfl
theorem porg : itip_Organizer.f 0 sCal [] cComps = some smU := by decide +kernel
theorem patt : itip_Attendees.f 0 sCal [] cComps = some [smV] := by decide +kernel
theorem ptx : almanacref08_Texts.f 5 [smV] [smV] = some true := by decide +kernel
theorem pst1 : itip_Status.f 0 sCal [] cComps smV = some sNeeds := by decide +kernel
theorem pst2 : itip_Status.f 0 sCal [] dComps smV = some sAcc := by decide +kernel
theorem pms1 : itip_Message.f 0 sNo [] [] sNo = some (sNo, [], []) := by kernel_rfl
theorem psig : itip_Significant.f sCal [] cComps sNo [] [] = some true := by decide +kernel
theorem pms2 : itip_Message.f 0 sCal [] cComps sReq = some (sCal, [⟨⟨#[77, 69, 84, 72, 79, 68]⟩, [], sReq⟩], cComps) := by kernel_rfl
end Go.Proofs.Ytebmbfobmakheaa.PD
namespace Go.Proofs.Ytebmbfobmakheaa.PD
open Go.RowKit Go.Proofs.YtebmbfobmakheaaW.PrintWords Go.Proofs.YtebmbfobmakheaaW.PrintLast Go.Proofs.YtebmbfobmakheaaW.PrintMore
attribute [local go_sem] isSome_setCell max2_int min2_int max_two min_two
set_option linter.unusedVariables false
set_option linter.unusedSimpArgs false
def chg1 (G : List S45 → List S45) (x : S25) : S25 := if isTz x.f0 = true then x else { x with f1 := G x.f1 }
end Go.Proofs.Ytebmbfobmakheaa.PD
namespace Go.Proofs.Ytebmbfobmakheaa.PD
open Go.RowKit Go.Proofs.YtebmbfobmakheaaW.PrintWords Go.Proofs.YtebmbfobmakheaaW.PrintLast Go.Proofs.YtebmbfobmakheaaW.PrintMore
attribute [local go_sem] isSome_setCell max2_int min2_int max_two min_two
set_option linter.unusedVariables false
set_option linter.unusedSimpArgs false
structure St (w : World) (nm : ByteArray) (A1 : Option Addr) (n1 c1 : Nat) (A' : Option Addr) (c' : Nat) (P : Nat → Prop) (len : Nat) (m : List S25) (W : World) : Prop where
  N : Kd.N k25 25 W (w.heap.size + 4) (fun k => (P k ∧ k < w.heap.size) ∨ w.heap.size + 4 ≤ k) (.slice A' len c') m
  C : W.heap[w.heap.size]? = some (.cells #[.string nm, .slice A1 n1 c1, .slice A' len c'] 25 (0, 0))
  R : W.heap[w.heap.size + 1]? = some (.cells #[.string ⟨#[]⟩, .slice none 0 0, .slice none 0 0] 25 (0, 0))
  B : Below w.heap.size w W
theorem St.below {w W W' : World} {nm : ByteArray} {A1 : Option Addr} {n1 c1 : Nat} {A' : Option Addr} {c' : Nat} {P : Nat → Prop} {len : Nat} {m : List S25} (h : St w nm A1 n1 c1 A' c' P len m W) (hb : Below W.heap.size W W') : St w nm A1 n1 c1 A' c' P len m W' :=
  ⟨Kd.N_below h.N hb, blk_below h.C hb, blk_below h.R hb, h.B.trans (hb.mono h.B.size)⟩
theorem St.put {w W W' : World} {nm : ByteArray} {A1 : Option Addr} {n1 c1 g c' A8c : Nat} {P : Nat → Prop} {len : Nat} {m : List S25} {y : List S45} {A8 : Option Addr} (h : St w nm A1 n1 c1 (some ⟨g, 0, none⟩) c' P len m W) (hb : Below W.heap.size W W') (hl : len = m.length) (i : Nat) (hi : i < m.length) {base : Nat}
    (hn : Kd.N k45 45 W' base (fun k => ((P k ∧ k < w.heap.size) ∨ w.heap.size + 4 ≤ k) ∧ k ≠ g) (.slice A8 y.length A8c) y) :
    St w nm A1 n1 c1 (some ⟨g, 0, none⟩) c' P len (m.set i { m[i] with f1 := y }) (W'.setCell ⟨g, i * 3 + 1, none⟩ (.slice A8 y.length A8c)) := by
  have h' := h.below hb
  have hg := Kd.N_base h.N g rfl
  have hN := h'.N
  subst hl
  obtain ⟨k1, k2⟩ := N_put25 hN i hi y A8 A8c (Kd.N_reads' hn).2.1 (Kd.N_F hn)
  exact ⟨k1, (Below.heap_setCell _ _ _ _ (by show w.heap.size ≠ g; omega)).trans h'.C, (Below.heap_setCell _ _ _ _ (by show w.heap.size + 1 ≠ g; omega)).trans h'.R, below_set h'.B (by show w.heap.size ≤ g; omega)⟩
theorem St.start {w : World} {nm : ByteArray} {A1 : Option Addr} {n1 c1 : Nat} {A' : Option Addr} {c' : Nat} {P : Nat → Prop} {l : List S25} {A : Option Addr} {c : Nat} {W3 w5 : World} (hz : W3.heap.size = w.heap.size + 2) (hb3 : Below w.heap.size w W3)
    (kC : W3.heap[w.heap.size]? = some (.cells #[.string nm, .slice A1 n1 c1, .slice A l.length c] 25 (0, 0))) (kR : W3.heap[w.heap.size + 1]? = some (.cells #[.string ⟨#[]⟩, .slice none 0 0, .slice none 0 0] 25 (0, 0)))
    (hn : Kd.N k25 25 w5 (W3.heap.size + 2) (fun k => ((P k ∧ k < w.heap.size) ∧ k < W3.heap.size) ∨ W3.heap.size + 2 ≤ k) (.slice A' l.length c') l) (hb : Below W3.heap.size W3 w5) :
    St w nm A1 n1 c1 A' c' P l.length l (((w5.setCell ⟨w.heap.size, 0, none⟩ (.string nm)).setCell ⟨w.heap.size, 1, none⟩ (.slice A1 n1 c1)).setCell ⟨w.heap.size, 2, none⟩ (.slice A' l.length c')) := by
  have kC5 := blk_below kC hb
  have kR5 := blk_below kR hb
  rw [hz] at hn
  refine ⟨Kd.N_step (Kd.N_mono hn (fun k hk => hk.imp (fun h => h.1) (fun h => by omega))) (fun k hk _ => ?_), box3_at _ _ _ kC5, ?_, below_boxed (hb3.trans (hb.mono (by omega))) (Nat.le_refl _) _ _ _⟩
  · have hne : k ≠ w.heap.size := by rcases hk with hk | hk <;> omega
    exact ((Below.heap_setCell _ _ _ k hne).trans (Below.heap_setCell _ _ _ k hne)).trans (Below.heap_setCell _ _ _ k hne)
  · have hne : w.heap.size + 1 ≠ w.heap.size := by omega
    exact (((Below.heap_setCell _ _ _ _ hne).trans (Below.heap_setCell _ _ _ _ hne)).trans (Below.heap_setCell _ _ _ _ hne)).trans kR5
end Go.Proofs.Ytebmbfobmakheaa.PD
namespace Go.Proofs.Ytebmbfobmakheaa.PD
open Go.RowKit Go.Proofs.YtebmbfobmakheaaW.PrintWords Go.Proofs.YtebmbfobmakheaaW.PrintLast Go.Proofs.YtebmbfobmakheaaW.PrintMore
attribute [local go_sem] isSome_setCell max2_int min2_int max_two min_two
set_option linter.unusedVariables false
set_option linter.unusedSimpArgs false
theorem results_box45 (f : Func) (n : Nat) (hf : f.results = [ResultVar.cell n 45].toArray) (tmps : Array Value) (w : World) (S : Nat) (s : ByteArray) (A1 : Option Addr) (n1 c1 : Nat) (t : ByteArray) (h2 : tmps.getD n undef = .pointer (some ⟨S, 0, none⟩)) (q : w.heap[S]? = some (.cells #[.string s, .slice A1 n1 c1, .string t] 45 (0, 0))) :
    (results f tmps).run Try.prog w = .ok (.agg #[.string s, .slice A1 n1 c1, .string t]) w := by
  have d0 := (blk_cell q 0).trans rfl
  have d1 := (blk_cell q 1).trans rfl
  have d2 := (blk_cell q 2).trans rfl
  unfold results
  rw [hf, List.mapM_toArray]
  simp only [Sem.run_bind, Sem.run_map, List.mapM_cons, List.mapM_nil, h2]
  simp [asAddr, loadVar, go_sem, d0, d1, d2, Try.underlying45]
end Go.Proofs.Ytebmbfobmakheaa.PD
