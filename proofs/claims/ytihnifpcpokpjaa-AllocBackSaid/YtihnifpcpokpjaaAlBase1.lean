/- Part 1 of the texts that the claim leans on: the functions' walks, and what they compute. -/
import Derived.WalkKit
import Derived.Test.YtihnifpcpokpjaaProg
import Derived.Below
import Derived.Deep.Draws
import Derived.Deep.AppendLies
import Derived.Maps.AppendAt
import Derived.OwnWalk
import Derived.Laws.BytesArg
import Derived.Laws.MakeOwn
import Derived.Laws.OwnMore
import Derived.Deep.OwnRows
import Derived.Tactics
import Derived.Lib.ConvBytes
import Derived.Laws.Slices
import Derived.KernelRfl
import Derived.RowKit3
import Derived.Deep.LoopGhost
import Derived.Deep.QuietTactic
import Derived.BigQuiet
import Derived.WideLaws
import Derived.Deep.DeepCutAuto
import Derived.Deep.CutBlock
import Derived.Deep.RegionHeld3
import Derived.Laws.Rows
import Derived.Lib.AppendStr
import Derived.ArgAppend
import Derived.Laws.IdiomCopy
import Derived.OrdersHeld
import Derived.Laws.BitsLemmas
import Derived.RowKit
import Derived.Test.YtihnifpcpokpjaaWWords
import Derived.Test.YtihnifpcpokpjaaWLast
import Derived.Test.YtihnifpcpokpjaaWTab
import Derived.Test.YtihnifpcpokpjaaWFour
import Derived.Test.YtihnifpcpokpjaaWQPut
import Derived.Test.YtihnifpcpokpjaaWApart
import Derived.Test.YtihnifpcpokpjaaWArr
import Derived.Test.YtihnifpcpokpjaaWZeros
import Derived.Test.YtihnifpcpokpjaaWFoot
import Derived.Test.YtihnifpcpokpjaaWKept
import Derived.Test.YtihnifpcpokpjaaWShare
import Derived.Test.YtihnifpcpokpjaaWN
import Derived.Test.YtihnifpcpokpjaaWFootNe
import Derived.Test.YtihnifpcpokpjaaWAt
import Derived.Test.YtihnifpcpokpjaaWEqStruct
import Derived.Test.YtihnifpcpokpjaaWRepsOne
import Derived.Test.YtihnifpcpokpjaaWInv
import Derived.Test.YtihnifpcpokpjaaWInvWords
import Derived.Test.YtihnifpcpokpjaaWGuard
import Derived.Test.YtihnifpcpokpjaaWNEv
import Derived.Test.YtihnifpcpokpjaaWMore
import Derived.Laws.IdiomStrings
import Derived.Lib.SliceRun
import Derived.Lib.BufferWrite
import Derived.Lib.SlBuf
import Derived.Laws.CopyOwn
import Derived.Deep.RegionLaw
import Derived.Shelf.Strings.Builder2
import Derived.Shelf.Sort.Plain
import Derived.Shelf.Bits.Mul64
import Derived.Shelf.Strings.Repeat
import Derived.Ground.Names2Prog
import Derived.Shelf.Slices.Clone
import Derived.Shelf.Slices.CompactI
import Derived.Shelf.Slices.In.SortNone
import Derived.RangeFuncNested
import Derived.RangeFuncLeaves
import Derived.RangeFuncWrites
import Derived.Shelf.Abstract
import Derived.WalkMore
import Derived.OwnWalkIn
import Derived.TacticsInMore
import Derived.LoopNIn
import Derived.LoopIn
import Derived.Deep.RegionWith
import Derived.RangeFuncBox
import Derived.RangeFuncCalls
import Derived.Stop.RegionWithIn
import Derived.Sort.OwnSortedInts
/- A store leaves the same places there: a law that the walk's simp takes, whatever the cell. -/
namespace Go.Proofs.Ytihnifpcpokpjaa.PD
theorem isSome_setCell (w : World) (p q : Addr) (x : Value) : ((w.setCell p x).cell? q).isSome = (w.cell? q).isSome := by
  by_cases e : p = q
  · subst e
    cases h : w.cell? p with
    | some v => rw [World.cell?_setCell_same w p x h]; rfl
    | none =>
      unfold World.cell? at h
      simp only [World.setCell, World.cell?, Array.getElem?_modify, if_true]
      cases hb : w.heap[p.block]? with
      | none => simp
      | some o =>
        cases o <;> simp_all
  · rw [World.cell?_setCell_other w p q x e]
end Go.Proofs.Ytihnifpcpokpjaa.PD
-- written by a program of this work (mk.sh, over the kit's print; stubs are proved by hand)
namespace Go.Proofs.Ytihnifpcpokpjaa.PD
open Go.RowKit Go.Proofs.YtihnifpcpokpjaaW.PrintWords Go.Proofs.YtihnifpcpokpjaaW.PrintLast Go.Proofs.YtihnifpcpokpjaaW.PrintMore
attribute [local go_sem] isSome_setCell max2_int min2_int max_two min_two max_three min_three max_four min_four   -- for this text's walks alone
set_option linter.unusedVariables false
set_option linter.unusedSimpArgs false



def errW : Option Int → Value
  | none => .nilIface
  | some c => .iface 0 (.int .i64 c)
theorem errW_none : errW none = .nilIface := rfl
theorem errW_some (c : Int) : errW (some c) = .iface 0 (.int .i64 c) := rfl

theorem info3 : (Try.prog.info? 3).map (fun i => (i.zero, i.size, i.bytes)) = some (some (.int .i64 0), 1, 8) := by kernel_rfl
theorem info5 : (Try.prog.info? 5).map (fun i => (i.zero, i.size, i.bytes)) = some (some (.int .u8 0), 1, 1) := by kernel_rfl
theorem info9 : (Try.prog.info? 9).map (fun i => (i.zero, i.size, i.bytes)) = some (some (.string ⟨#[]⟩), 1, 16) := by kernel_rfl
-- the values' own types

end Go.Proofs.Ytihnifpcpokpjaa.PD
/- Bits of a map of bytes: reading one, setting one, and maps that have the same bits. -/
namespace Go.Proofs.Ytihnifpcpokpjaa.PD
open Go.RowKit Go.Proofs.YtihnifpcpokpjaaW.PrintWords Go.Proofs.YtihnifpcpokpjaaW.PrintLast Go.Proofs.YtihnifpcpokpjaaW.PrintMore
def byteN (m : ByteArray) (i : Nat) : Nat := (m.data.getD i 0).toNat
theorem byteN_lt (m : ByteArray) (i : Nat) : byteN m i < 256 := by unfold byteN; exact UInt8.toNat_lt _
def bitB (m : ByteArray) (i : Nat) : Bool := (byteN m (i / 8)).testBit (i % 8)
def clearN (x k : Nat) : Nat := x &&& (255 ^^^ 2 ^ k)
def setN (x k : Nat) (is : Bool) : Nat := if is then clearN x k ||| 2 ^ k else clearN x k
def setBit (m : ByteArray) (i : Nat) (is : Bool) : ByteArray := ⟨m.data.setIfInBounds (i / 8) (UInt8.ofNat (setN (byteN m (i / 8)) (i % 8) is))⟩
theorem pow_lt8 {k : Nat} (hk : k < 8) : 2 ^ k < 256 := Nat.lt_of_le_of_lt (Nat.pow_le_pow_right (by omega) (show k ≤ 7 by omega)) (by decide)
theorem clearN_lt {x k : Nat} (hx : x < 256) : clearN x k < 256 := Nat.lt_of_le_of_lt Nat.and_le_left hx
theorem setN_lt {x k : Nat} (is : Bool) (hx : x < 256) (hk : k < 8) : setN x k is < 256 := by
  unfold setN
  split
  · exact Nat.or_lt_two_pow (n := 8) (clearN_lt hx) (pow_lt8 hk)
  · exact clearN_lt hx
theorem testBit_clearN {x k j : Nat} (hx : x < 256) : (clearN x k).testBit j = (x.testBit j && !decide (k = j)) := by
  unfold clearN
  rw [Nat.testBit_and, Nat.testBit_xor, Nat.testBit_two_pow, show (255 : Nat) = 2 ^ 8 - 1 from rfl, Nat.testBit_two_pow_sub_one]
  rcases Nat.lt_or_ge j 8 with hj | hj
  · simp [hj]
  · rw [Nat.testBit_lt_two_pow (Nat.lt_of_lt_of_le hx (show 256 ≤ 2 ^ j from Nat.pow_le_pow_right (n := 2) (by omega) hj))]
    simp
theorem testBit_setN {x k j : Nat} (is : Bool) (hx : x < 256) : (setN x k is).testBit j = if k = j then is else x.testBit j := by
  unfold setN
  cases is
  · simp only [Bool.false_eq_true, if_false]
    rw [testBit_clearN hx]
    by_cases h : k = j <;> simp [h]
  · simp only [if_true]
    rw [Nat.testBit_or, testBit_clearN hx, Nat.testBit_two_pow]
    by_cases h : k = j <;> simp [h]
theorem setBit_size (m : ByteArray) (i : Nat) (is : Bool) : (setBit m i is).size = m.size := Array.size_setIfInBounds
theorem byteN_setBit (m : ByteArray) (i : Nat) (is : Bool) (hi : i < 8 * m.size) (j : Nat) : byteN (setBit m i is) j = if j = i / 8 then setN (byteN m (i / 8)) (i % 8) is else byteN m j := by
  have hs : i / 8 < m.data.size := by show i / 8 < m.size; omega
  have hlt := setN_lt (k := i % 8) is (byteN_lt m (i / 8)) (by omega)
  unfold setBit
  by_cases h : j = i / 8
  · subst h
    rw [if_pos rfl]
    generalize setN (byteN m (i / 8)) (i % 8) is = q at hlt ⊢
    unfold byteN
    rw [Array.getD_eq_getD_getElem?, Array.getElem?_setIfInBounds_self, if_pos hs, Option.getD_some, UInt8.toNat_ofNat']
    omega
  · rw [if_neg h]
    unfold byteN
    rw [Array.getD_eq_getD_getElem?, Array.getElem?_setIfInBounds_ne (Ne.symm h), Array.getD_eq_getD_getElem?]
theorem bitB_setBit (m : ByteArray) (i : Nat) (is : Bool) (hi : i < 8 * m.size) (j : Nat) : bitB (setBit m i is) j = if j = i then is else bitB m j := by
  unfold bitB
  rw [byteN_setBit m i is hi]
  by_cases h : j / 8 = i / 8
  · rw [if_pos h, testBit_setN is (byteN_lt _ _)]
    by_cases h2 : i % 8 = j % 8
    · rw [if_pos h2, if_pos (by omega)]
    · rw [if_neg h2, if_neg (by rintro rfl; exact h2 rfl), h]
  · rw [if_neg h, if_neg (by rintro rfl; exact h rfl)]
theorem ext_bits {a b : ByteArray} (hs : a.size = b.size) (h : ∀ i, i < 8 * a.size → bitB a i = bitB b i) : a = b := by
  obtain ⟨a⟩ := a
  obtain ⟨b⟩ := b
  congr 1
  have hs' : a.size = b.size := hs
  apply Array.ext hs'
  intro i h1 h2
  apply UInt8.toNat_inj.1
  apply Nat.eq_of_testBit_eq
  intro k
  rcases Nat.lt_or_ge k 8 with hk | hk
  · have := h (8 * i + k) (by show 8 * i + k < 8 * a.size; omega)
    unfold bitB byteN at this
    rw [show (8 * i + k) / 8 = i by omega, show (8 * i + k) % 8 = k by omega] at this
    simpa [h1, h2] using this
  · have hp : 256 ≤ 2 ^ k := Nat.pow_le_pow_right (n := 2) (by omega) hk
    rw [Nat.testBit_lt_two_pow (Nat.lt_of_lt_of_le (UInt8.toNat_lt _) hp), Nat.testBit_lt_two_pow (Nat.lt_of_lt_of_le (UInt8.toNat_lt _) hp)]
/-- Some bits, one after another. -/
def markB (m : ByteArray) (l : List Int) (is : Bool) : ByteArray := l.foldl (fun m i => setBit m i.toNat is) m
theorem markB_size (l : List Int) (is : Bool) : ∀ m, (markB m l is).size = m.size := by
  induction l with
  | nil => intro m; rfl
  | cons x l ih => intro m; show (markB (setBit m x.toNat is) l is).size = _; rw [ih, setBit_size]
theorem bitB_markB (is : Bool) (j : Nat) : ∀ (l : List Int) (m : ByteArray), (∀ x ∈ l, 0 ≤ x ∧ x < 8 * (m.size : Int)) → bitB (markB m l is) j = if (j : Int) ∈ l then is else bitB m j
  | [], m, _ => by simp [markB]
  | x :: l, m, h => by
    have hx := h x (List.mem_cons_self ..)
    show bitB (markB (setBit m x.toNat is) l is) j = _
    rw [bitB_markB is j l _ (fun y hy => by rw [setBit_size]; exact h y (List.mem_cons_of_mem _ hy)), bitB_setBit m _ is (by omega)]
    by_cases h1 : (j : Int) ∈ l
    · simp [h1]
    · by_cases h2 : j = x.toNat
      · rw [if_neg h1, if_pos h2, if_pos (by rw [show (j : Int) = x by omega]; exact List.mem_cons_self ..)]
      · rw [if_neg h1, if_neg h2, if_neg (by simp [h1]; omega)]
/-! The machine's words for it. -/
theorem bits_andNot (x k : Nat) (hx : x < 256) (hk : k < 8) : Go.bits .andNot .u8 (x : Int) ((2 ^ k : Nat) : Int) = (clearN x k : Nat) := by
  have : ∀ k : Fin 8, ∀ x : Fin 256, Go.bits .andNot .u8 (x.val : Int) ((2 ^ k.val : Nat) : Int) = (clearN x.val k.val : Nat) := by decide +kernel
  exact this ⟨k, hk⟩ ⟨x, hx⟩
theorem bits_or (x k : Nat) (hx : x < 256) (hk : k < 8) : Go.bits .or .u8 (x : Int) ((2 ^ k : Nat) : Int) = (x ||| 2 ^ k : Nat) := by
  have : ∀ k : Fin 8, ∀ x : Fin 256, Go.bits .or .u8 (x.val : Int) ((2 ^ k.val : Nat) : Int) = (x.val ||| 2 ^ k.val : Nat) := by decide +kernel
  exact this ⟨k, hk⟩ ⟨x, hx⟩
theorem bit_and1 (x k : Nat) (hx : x < 256) (hk : k < 8) : (Go.bits .and .u8 (shr .u8 (x : Int) (k : Int)) 1 == 1) = x.testBit k := by
  have : ∀ k : Fin 8, ∀ x : Fin 256, (Go.bits .and .u8 (shr .u8 (x.val : Int) (k.val : Int)) 1 == 1) = x.val.testBit k.val := by decide +kernel
  exact this ⟨k, hk⟩ ⟨x, hx⟩
theorem bit_mod2 (x k : Nat) (hx : x < 256) (hk : k < 8) : (Int.tmod (shr .u8 (x : Int) (k : Int)) 2 == 1) = x.testBit k := by
  have : ∀ k : Fin 8, ∀ x : Fin 256, (Int.tmod (shr .u8 (x.val : Int) (k.val : Int)) 2 == 1) = x.val.testBit k.val := by decide +kernel
  exact this ⟨k, hk⟩ ⟨x, hx⟩
theorem bt_byteN (m : ByteArray) (i : Nat) : bt m (i : Int) = (byteN m i : Nat) := by
  unfold bt byteN
  simp only [Int.toNat_natCast, Array.getD_eq_getD_getElem?]
  split
  · rename_i h
    have h' : i < m.data.size := h
    rw [Array.getElem?_eq_getElem h']
    rfl
  · rename_i h
    have h' : m.data.size ≤ i := Nat.not_lt.1 h
    rw [Array.getElem?_eq_none h']
    rfl
end Go.Proofs.Ytihnifpcpokpjaa.PD
/- Definitions: what Free, Take, Give, marked, set and super compute. -/
namespace Go.Proofs.Ytihnifpcpokpjaa.PD
open Go.RowKit Go.Proofs.YtihnifpcpokpjaaW.PrintWords Go.Proofs.YtihnifpcpokpjaaW.PrintLast Go.Proofs.YtihnifpcpokpjaaW.PrintMore
attribute [local go_sem] max2_int min2_int max_two min_two
set_option linter.unusedVariables false
set_option linter.unusedSimpArgs false
def firstN (n : Nat) : Nat := 2 + (max 4 (n / 4 - n / 4 % 4) + 3) / 4
def zeroB : ByteArray := ⟨Array.replicate 128 0⟩
def mapOf (l : List ByteArray) : ByteArray := l.getD 1 ⟨#[]⟩
/-- What the walks want of an image. -/
def fitI (l : List ByteArray) : Prop := 8 ≤ l.length ∧ l.length ≤ 512 ∧ (mapOf l).size = 128
instance (l : List ByteArray) : Decidable (fitI l) := by unfold fitI; infer_instance
/-- The free blocks from i on. -/
def openFrom (l : List ByteArray) (i : Nat) : List Int := ((List.range' i (l.length - i)).filter (fun j => !bitB (mapOf l) j)).map Int.ofNat
def freeL (l : List ByteArray) : List Int := openFrom l (firstN l.length)
/-- Blocks made zero. -/
def zeroed (l : List ByteArray) (xs : List Int) : List ByteArray := xs.foldl (fun c i => c.set i.toNat zeroB) l
def takeB (l : List ByteArray) (xs : List Int) : List ByteArray := (zeroed l xs).set 1 (markB (mapOf (zeroed l xs)) xs true)
def giveB (l : List ByteArray) (xs : List Int) : List ByteArray := l.set 1 (markB (mapOf l) xs false)
def be2 (n : Nat) : List UInt8 := [UInt8.ofNat (n / 256), UInt8.ofNat n]
def superB (n : Nat) : ByteArray := ⟨([65, 70, 83, 49] ++ be2 n ++ be2 (max 4 (n / 4 - n / 4 % 4)) ++ List.replicate 120 0).toArray⟩
def alloc_marked.f (a0 : ByteArray) (l1 : List Int) (a2 : Bool) : Option (ByteArray) := if a0.size ≤ 4096 ∧ ∀ x ∈ l1, 0 ≤ x ∧ x < 8 * (a0.size : Int) then some (markB a0 l1 a2) else none
def almanacref04_set.f (l0 : List ByteArray) (a1 : Int) (a2 : Bool) : Option (List ByteArray) := if l0.length ≤ 4096 ∧ 2 ≤ l0.length ∧ (mapOf l0).size ≤ 4096 ∧ 0 ≤ a1 ∧ a1 < 8 * ((mapOf l0).size : Int) then some (l0.set 1 (setBit (mapOf l0) a1.toNat a2)) else none
def almanacref04_super.f (a0 : Int) : Option (ByteArray) := if 0 ≤ a0 ∧ a0 ≤ 4096 then some (superB a0.toNat) else none
def slices_ContainsFunc_string_string.f (l0 : List ByteArray) : Option (Bool) := some (l0.any fun s => decide (s.size ≠ 128))
def alloc_Free.f (l0 : List ByteArray) : Option (Int) := if fitI l0 then some ((freeL l0).length : Int) else none
def alloc_Take.f (l0 : List ByteArray) (a1 : Int) : Option (List ByteArray × List Int × Int) :=
  if fitI l0 then some (if a1 < 0 then (l0, [], 13) else if ((freeL l0).length : Int) < a1 then (l0, [], 18) else (takeB l0 ((freeL l0).take a1.toNat), (freeL l0).take a1.toNat, 0)) else none
/-- A place where no data lie. -/
def outside (l : List ByteArray) (x : Int) : Bool := decide (x < firstN l.length) || decide ((l.length : Int) ≤ x)
def alloc_Give.f (l0 : List ByteArray) (l1 : List Int) : Option (List ByteArray × Int) :=
  if fitI l0 ∧ l1.length * 8 ≤ 140737488355328 then some (if l1.any (outside l0) then (l0, 15) else if ¬ l1.Nodup ∨ ∃ x ∈ l1, bitB (mapOf l0) x.toNat = false then (l0, 20) else (giveB l0 l1, 0)) else none
end Go.Proofs.Ytihnifpcpokpjaa.PD
/- alloc.marked: a map with some bits set or not. -/
namespace Go.Proofs.Ytihnifpcpokpjaa.PD
open Go.RowKit Go.Proofs.YtihnifpcpokpjaaW.PrintWords Go.Proofs.YtihnifpcpokpjaaW.PrintLast Go.Proofs.YtihnifpcpokpjaaW.PrintMore
attribute [local go_sem] isSome_setCell max2_int min2_int max_two min_two
set_option linter.unusedVariables false
set_option linter.unusedSimpArgs false
/-- The block g holds the bytes of m, and they may be written. -/
def RowOf (W : World) (g : Nat) (m : ByteArray) : Prop := ∀ j, j < m.size → W.cell? ⟨g, j, none⟩ = some (.int .u8 (byteN m j : Nat)) ∧ W.frozen? ⟨g, j, none⟩ = false
theorem RowOf.new (w : World) (s : ByteArray) : RowOf (Lib.bytesWorld w 5 s) w.heap.size s := fun j hj => by
  refine ⟨?_, ?_⟩
  · rw [Lib.bytesWorld_cell w 5 s j hj]
    simp [byteN, List.getD_eq_getElem?_getD, Array.getD_eq_getD_getElem?]
  · have h := Lib.bytesWorld_at_new w 5 s
    have hs : s.size ≤ (Lib.bytesCells w 5 s).size := by unfold Lib.bytesCells; rw [Array.size_append, Array.size_map]; exact Nat.le_add_right _ _
    simp only [World.frozen?, h]
    simp
    omega
def setByte (m : ByteArray) (q v : Nat) : ByteArray := ⟨m.data.setIfInBounds q (UInt8.ofNat v)⟩
theorem setByte_size (m : ByteArray) (q v : Nat) : (setByte m q v).size = m.size := Array.size_setIfInBounds
theorem setByte_twice (m : ByteArray) (q v u : Nat) : setByte (setByte m q v) q u = setByte m q u := by simp [setByte]
theorem byteN_setByte (m : ByteArray) (q v : Nat) (hq : q < m.size) (hv : v < 256) (j : Nat) : byteN (setByte m q v) j = if j = q then v else byteN m j := by
  have hq' : q < m.data.size := hq
  unfold setByte byteN
  by_cases h : j = q
  · subst h
    rw [if_pos rfl, Array.getD_eq_getD_getElem?, Array.getElem?_setIfInBounds_self, if_pos hq', Option.getD_some, UInt8.toNat_ofNat']
    omega
  · rw [if_neg h, Array.getD_eq_getD_getElem?, Array.getElem?_setIfInBounds_ne (Ne.symm h), Array.getD_eq_getD_getElem?]
theorem frozen_setCell (W : World) (p q : Addr) (u : Value) : (W.setCell p u).frozen? q = W.frozen? q := by
  simp only [World.frozen?, World.setCell, Array.getElem?_modify]
  by_cases h : p.block = q.block
  · simp only [h, if_true]
    cases W.heap[q.block]? with
    | none => rfl
    | some o => cases o <;> simp
  · simp [h]
theorem RowOf.set {W : World} {g : Nat} {m : ByteArray} (h : RowOf W g m) (q v : Nat) (hq : q < m.size) (hv : v < 256) : RowOf (W.setCell ⟨g, q, none⟩ (.int .u8 (v : Nat))) g (setByte m q v) := fun j hj => by
  rw [setByte_size] at hj
  refine ⟨?_, by rw [frozen_setCell]; exact (h j hj).2⟩
  rw [byteN_setByte m q v hq hv]
  by_cases e : j = q
  · subst e
    rw [if_pos rfl, World.cell?_setCell_same W _ _ (h j hj).1]
  · rw [if_neg e, World.cell?_setCell_other W ⟨g, q, none⟩ ⟨g, j, none⟩ _ (by intro e'; injection e' with _ e2; exact e e2.symm)]
    exact (h j hj).1
theorem RowOf.below {W W' : World} {g : Nat} {m : ByteArray} (h : RowOf W g m) (hb : Below W.heap.size W W') : RowOf W' g m := fun j hj => by
  obtain ⟨h1, h2⟩ := h j hj
  have hl : g < W.heap.size := World.block_lt_of_cell? W _ h1
  refine ⟨(hb.cell hl).trans h1, ?_⟩
  rw [← h2]
  simp only [World.frozen?, hb.block g hl]
theorem RowOf.string {W : World} {g : Nat} {m : ByteArray} (h : RowOf W g m) (cap : Nat) : (convert 51 9 (.slice (some ⟨g, 0, none⟩) m.size cap)).run Try.prog W = .ok (.string m) W := by
  have hl : m.data.toList.length = m.size := Array.length_toList
  have := run_convert_bytes_back (P := Try.prog) W 51 9 5 ⟨g, 0, none⟩ cap m.data.toList Try.underlying51 Try.underlying5 Try.underlying9 (fun j hj => by
    have := (h j (by omega)).1
    rw [add_plain, this]
    have hj' : j < m.data.size := by simpa using hj
    simp only [byteN, Array.getD_eq_getD_getElem?, Array.getElem?_eq_getElem hj', Option.getD_some, Array.getElem_toList])
  rw [hl] at this
  simpa using this
set_option maxRecDepth 100000 in
set_option maxHeartbeats 4000000 in
theorem alloc_marked.calls (a0 : ByteArray) (A1 : Option Addr) (c1 : Nat) (l1 : List Int) (a2 : Bool) (r : ByteArray) (w : World) (hr1 : Kd.C (Kd.int .i64) w A1 l1.length l1) (hc1 : l1.length ≤ c1) (h : alloc_marked.f a0 l1 a2 = some r) :
    Calls Try.prog 30 #[.string a0, .slice A1 l1.length c1, .bool a2] w fun e w' => e = .returned (.string r) ∧ Below w.heap.size w w' := by
  unfold alloc_marked.f at h
  split at h
  case isFalse => cases h
  rename_i hh
  obtain ⟨hs, hl⟩ := hh
  obtain rfl := Option.some.inj h
  clear h
  have hml : l1.length ≤ 9223372036854775807 := by have := hr1.2.1; unfold maxLen at this; omega
  have HR1 := Aside0.mk hr1
  clear hr1
  have hcv := fun W => Lib.run_convert_string_bytes (P := Try.prog) W 9 51 5 a0 Try.underlying9 Try.underlying51 Try.underlying5
  have HL := Aside0.mk hl
  clear hl
  have hB1 : Below w.heap.size w (Lib.bytesWorld w 5 a0) := ⟨rfl, rfl, rfl, by rw [Lib.bytesWorld_size]; exact Nat.le_succ _, fun k hk => Lib.bytesWorld_at_old w 5 a0 k hk⟩
  have HB := Aside0.mk hB1
  clear hB1
  have HN := Aside0.mk (RowOf.new w a0)
  go_enter Try.func30, Try.ntmps30
  go_wp2
  go_loopw [14] (fun v wr => ∃ k : Nat, v = .int .i64 k ∧ k ≤ l1.length ∧ Aside0 (RowOf wr w.heap.size (markB a0 (l1.take k) a2)) ∧ Aside0 (Below w.heap.size w wr)) (fun v _ => l1.length - (intOf v).toNat)
  case atStart => exact ⟨0, rfl, Nat.zero_le _, HN, HB⟩
  case round =>
    obtain ⟨k, rfl, hk, hrow, hb⟩ := hrel
    by_cases hlt : k < l1.length
    · have hlt0 : decide ((k : Int) < (l1.length : Int)) = true := decide_eq_true (by omega)
      obtain ⟨ad, e, hx0⟩ := Kd.at_int HR1.out (k : Int) (by omega) (by omega)
      subst e
      replace hx0 := (hb.out.cell (World.block_lt_of_cell? w _ hx0)).trans hx0
      simp only [Int.toNat_natCast] at hx0
      have hget : rd l1 (k : Int) = l1[k] := by simp [rd, hlt]
      rw [hget] at hx0
      have hmem := HL.out l1[k] (List.getElem_mem hlt)
      have htake : l1.take (k + 1) = l1.take k ++ [l1[k]] := by rw [List.take_add_one, List.getElem?_eq_getElem hlt]; rfl
      have hmk : markB a0 (l1.take (k + 1)) a2 = setBit (markB a0 (l1.take k) a2) l1[k].toNat a2 := by rw [htake]; unfold markB; rw [List.foldl_append]; rfl
      obtain ⟨i, hi⟩ := Int.eq_ofNat_of_zero_le hmem.1
      rw [hi] at hx0 hmem hmk
      rw [Int.toNat_natCast] at hmk
      obtain ⟨m, hm⟩ : ∃ m, markB a0 (l1.take k) a2 = m := ⟨_, rfl⟩
      have hms : m.size = a0.size := by rw [← hm, markB_size]
      rw [hm] at hrow hmk
      have hq : i / 8 < m.size := by omega
      obtain ⟨hc, hf⟩ := hrow.out (i / 8) hq
      have e1 : IntKind.i64.wrap (Int.tdiv (i : Int) 8) = ((i / 8 : Nat) : Int) := by rw [Int.tdiv_eq_ediv_of_nonneg (by omega), IntKind.wrap_i64]; omega
      have e2 : Int.tmod (i : Int) 8 = ((i % 8 : Nat) : Int) := by rw [Int.tmod_eq_emod_of_nonneg (by omega)]; omega
      generalize hqq : i / 8 = q at *
      generalize hpp : i % 8 = p at *
      have hp8 : p < 8 := by omega
      have q1 : (q : Int) < (a0.size : Int) := by omega
      have q2 : (0 : Int) ≤ (q : Int) := by omega
      have q3 : q < a0.size := by omega
      have q4 : (0 : Int) ≤ (p : Int) := by omega
      have hp2 : ((2 : Int) ^ p % 256) = ((2 ^ p : Nat) : Int) := by rw [show ((2 : Int) ^ p) = ((2 ^ p : Nat) : Int) from by simp]; exact Int.emod_eq_of_lt (Int.natCast_nonneg _) (by exact_mod_cast pow_lt8 hp8)
      have hv1 : bits .andNot .u8 (byteN m q : Nat) ((2 : Int) ^ p % 256) = ((clearN (byteN m q) p : Nat) : Int) := by rw [hp2]; exact bits_andNot _ _ (byteN_lt _ _) hp8
      have hlt1 := clearN_lt (k := p) (byteN_lt m q)
      have hfin : ∀ is : Bool, setBit m i is = setByte m q (setN (byteN m q) p is) := fun is => by unfold setBit setByte; rw [hqq, hpp]
      have HV1 := Aside0.mk hv1
      have HP2 := Aside0.mk hp2
      have HF := Aside0.mk hfin
      clear hv1 hp2 hfin
      go_wp2
      go_region
      rw [HV1.out]
      have hr1 : RowOf (wr.setCell ⟨w.heap.size, q, none⟩ (.int .u8 (clearN (byteN m q) p : Nat))) w.heap.size (setByte m q (clearN (byteN m q) p)) := hrow.out.set q _ hq hlt1
      have hb1 : Below w.heap.size w (wr.setCell ⟨w.heap.size, q, none⟩ (.int .u8 (clearN (byteN m q) p : Nat))) := hb.out.setCell (by show w.heap.size ≤ w.heap.size; exact Nat.le_refl _) _
      obtain ⟨W1, hW1⟩ : ∃ W1, (wr.setCell ⟨w.heap.size, q, none⟩ (.int .u8 (clearN (byteN m q) p : Nat))).drew = W1 := ⟨_, rfl⟩
      have hr2 : RowOf W1 w.heap.size (setByte m q (clearN (byteN m q) p)) := by rw [← hW1]; exact hr1
      have hb2 : Below w.heap.size w W1 := by rw [← hW1]; exact below_drew hb1
      rw [hW1]
      clear hW1 hr1 hb1 hrow hb hc hf hx0
      have HB2 := Aside0.mk hb2
      clear hb2
      cases a2
      case false =>
        go_wp2
        go_roundw
        case rel =>
          refine ⟨k + 1, by simp, hlt, ⟨?_⟩, HB2⟩
          rw [hmk, HF.out]
          exact hr2
        case measure => show l1.length - (((k : Int) + 1)).toNat < l1.length - ((k : Int)).toNat; omega
      case true =>
        have hbb : byteN (setByte m q (clearN (byteN m q) p)) q = clearN (byteN m q) p := by rw [byteN_setByte m q _ hq hlt1, if_pos rfl]
        obtain ⟨hc, hf⟩ := hr2 q (by rw [setByte_size]; exact hq)
        rw [hbb] at hc
        have hv2 : bits .or .u8 (clearN (byteN m q) p : Nat) ((2 : Int) ^ p % 256) = ((setN (byteN m q) p true : Nat) : Int) := by rw [HP2.out]; exact bits_or _ _ hlt1 hp8
        have HV2 := Aside0.mk hv2
        clear hv2
        have hlt2 := setN_lt true (byteN_lt m q) hp8
        go_wp2
        go_region
        rw [HV2.out]
        have hr3 := hr2.set q (setN (byteN m q) p true) (by rw [setByte_size]; exact hq) hlt2
        rw [setByte_twice] at hr3
        have hb3 : Below w.heap.size w (W1.setCell ⟨w.heap.size, q, none⟩ (.int .u8 (setN (byteN m q) p true : Nat))) := HB2.out.setCell (by show w.heap.size ≤ w.heap.size; exact Nat.le_refl _) _
        obtain ⟨W3, hW3⟩ : ∃ W3, (W1.setCell ⟨w.heap.size, q, none⟩ (.int .u8 (setN (byteN m q) p true : Nat))).drew = W3 := ⟨_, rfl⟩
        have hr4 : RowOf W3 w.heap.size (setByte m q (setN (byteN m q) p true)) := by rw [← hW3]; exact hr3
        have hb4 : Below w.heap.size w W3 := by rw [← hW3]; exact below_drew hb3
        rw [hW3]
        clear hW3 hr3 hb3 hr2 hc hf
        have HB4 := Aside0.mk hb4
        clear hb4
        go_wp2
        go_roundw
        case rel =>
          refine ⟨k + 1, by simp, hlt, ⟨?_⟩, HB4⟩
          rw [hmk, HF.out]
          exact hr4
        case measure => show l1.length - (((k : Int) + 1)).toNat < l1.length - ((k : Int)).toNat; omega
    · have hlt0 : decide ((k : Int) < (l1.length : Int)) = false := decide_eq_false (by omega)
      have hkl : k = l1.length := by omega
      have hst := hrow.out.string (grownCap w a0.size 0 5)
      rw [markB_size] at hst
      rw [hkl, List.take_length] at hst
      go_wp2
      go_ret
      exact ⟨rfl, hb.out⟩
end Go.Proofs.Ytihnifpcpokpjaa.PD
-- written by a program of this work (mk.sh, over the kit's print; stubs are proved by hand)
namespace Go.Proofs.Ytihnifpcpokpjaa.PD
open Go.RowKit Go.Proofs.YtihnifpcpokpjaaW.PrintWords Go.Proofs.YtihnifpcpokpjaaW.PrintLast Go.Proofs.YtihnifpcpokpjaaW.PrintMore
attribute [local go_sem] isSome_setCell max2_int min2_int max_two min_two max_three min_three max_four min_four   -- for this text's walks alone
set_option linter.unusedVariables false
set_option linter.unusedSimpArgs false

/-! ### almanacref04_Count: function 41 -/
def almanacref04_Count.f (a0 : Int) : Option (Int) := some (mx 4 (wrap64 ((wrap64 (Int.tdiv a0 4)) - (Int.tmod (wrap64 (Int.tdiv a0 4)) 4))))
set_option maxHeartbeats 8000000 in
set_option maxRecDepth 100000 in
theorem almanacref04_Count.calls (a0 : Int) (r : Int) (w : World) (h : almanacref04_Count.f a0 = some r) :
    Calls Try.prog 41 #[.int .i64 a0] w fun e w' => e = .returned (.int .i64 r) ∧ Below w.heap.size w w' := by
  have HB := Aside0.mk (Below.refl w.heap.size w)
  have H : (some (mx 4 (wrap64 ((wrap64 (Int.tdiv a0 4)) - (Int.tmod (wrap64 (Int.tdiv a0 4)) 4))))) = some r := h
  clear h
  obtain ⟨ji2, hji2⟩ : ∃ j_ : Int, (mx 4 (wrap64 ((wrap64 (Int.tdiv a0 4)) - (Int.tmod (wrap64 (Int.tdiv a0 4)) 4)))) = j_ := ⟨_, rfl⟩
  replace H : (some ji2) = some r := by first | (rw [hji2] at H; exact H) | (simp only [hji2] at H ⊢; exact H)
  (try (have hji2l : 4 ≤ ji2 := by (rw [← hji2]; unfold mx; (repeat' split) <;> omega)))
  (try (have hji2m : 0 ≤ ji2 := by omega))
  have hji2_ : (if 4 < (wrap64 ((wrap64 (Int.tdiv a0 4)) - (Int.tmod (wrap64 (Int.tdiv a0 4)) 4))) then (wrap64 ((wrap64 (Int.tdiv a0 4)) - (Int.tmod (wrap64 (Int.tdiv a0 4)) 4))) else 4) = ji2 := hji2
  obtain rfl := Option.some.inj H
  go_enter Try.func41, Try.ntmps41
  go_wp2
  go_ret
  exact ⟨by first | rfl | (simp [errW_none, errW_some] <;> rfl) | (simp only [← hji2]; first | rfl | (simp [errW_none, errW_some] <;> rfl)) | (simp [*, errW_none, errW_some] <;> rfl), by repeat (first | (with_reducible first | exact HB.out | apply below_alloc | apply pw_below_drewN | apply below_drew1) | exact HB.out)⟩

end Go.Proofs.Ytihnifpcpokpjaa.PD
/- almanacref04.super. -/
namespace Go.Proofs.Ytihnifpcpokpjaa.PD
open Go.RowKit Go.Proofs.YtihnifpcpokpjaaW.PrintWords Go.Proofs.YtihnifpcpokpjaaW.PrintLast Go.Proofs.YtihnifpcpokpjaaW.PrintMore
attribute [local go_sem] isSome_setCell max2_int min2_int max_two min_two
set_option linter.unusedVariables false
set_option linter.unusedSimpArgs false
def cntN (n : Nat) : Nat := max 4 (n / 4 - n / 4 % 4)
theorem mx_nat (a b : Nat) : mx (a : Int) (b : Int) = ((max a b : Nat) : Int) := by unfold mx; split <;> omega
theorem w64 {x : Int} (h1 : -9223372036854775808 ≤ x) (h2 : x ≤ 9223372036854775807) : wrap64 x = x := by unfold wrap64; omega
theorem count_val (n : Nat) (hn : n ≤ 4096) : almanacref04_Count.f (n : Int) = some ((cntN n : Nat) : Int) := by
  unfold almanacref04_Count.f cntN
  have e1 : wrap64 (Int.tdiv (n : Int) 4) = ((n / 4 : Nat) : Int) := by rw [Int.tdiv_eq_ediv_of_nonneg (by omega), w64 (by omega) (by omega)]; omega
  rw [e1, Int.tmod_eq_emod_of_nonneg (by omega), show (((n / 4 : Nat) : Int) % 4) = ((n / 4 % 4 : Nat) : Int) by omega, w64 (by omega) (by omega), show ((n / 4 : Nat) : Int) - ((n / 4 % 4 : Nat) : Int) = ((n / 4 - n / 4 % 4 : Nat) : Int) by omega]
  exact congrArg some (mx_nat 4 _)
theorem run_copy_string_min {P : Program} (w : World) (dT sT ty elem : TypeId) (g dLen dCap : Nat) (s : ByteArray) (cur : Array Value) (t : TypeId)
    (hu : P.underlying dT = some (.slice elem)) (hs : (P.info? elem).map (·.size) = some 1) (hg : w.heap[g]? = some (.cells cur t (0, 0))) (hfit : min s.size dLen ≤ cur.size) :
    (Builtin.copy_ #[dT, sT] ty #[.slice (some ⟨g, 0, none⟩) dLen dCap, .string s]).run P w =
      .ok (goInt (min s.size dLen)) (w.setRow g ((Lib.byteCells s.data.toList).take (min s.size dLen) ++ cur.toList.drop (min s.size dLen)).toArray) := by
  have hlen : ((Lib.byteCells s.data.toList).take (min s.size dLen)).length = min s.size dLen := by
    rw [List.length_take, Lib.byteCells_length, ← Lib.size_eq]; exact Nat.min_eq_left (Nat.min_le_left _ _)
  have hst := run_storeCells_at P g 0 t ((Lib.byteCells s.data.toList).take (min s.size dLen)) 0 cur w hg (by rw [hlen]; simpa using hfit) (fun v hv => Lib.byteCells_one _ v (List.mem_of_mem_take hv))
  have htk : List.take (min s.size dLen) (List.map (fun b : UInt8 => Value.int IntKind.u8 (b.toNat : Int)) s.data.toList) = (Lib.byteCells s.data.toList).take (min s.size dLen) := rfl
  rw [hlen] at hst
  simp only [Nat.add_zero, Nat.zero_add, List.take_zero, List.nil_append] at hst
  generalize hk : min s.size dLen = k at *
  have hk' : Nat.min s.size dLen = k := hk
  cases hq : P.info? elem with
  | none => simp [hq] at hs
  | some i =>
    simp [Builtin.copy_, run_underlying hu, Builtin.lenOf, Builtin.firstCells, sizeOf, typeInfo, hq, hk']
    rw [htk, hst]
    simp only [Result.andThen_ok, Sem.run_pure]
    first | done | (simp [Result.andThen]; exact congrArg goInt (by omega))
def cur0 : Array Value := madeCells #[.int .u8 0] 128
def afs1 : ByteArray := ⟨#[65, 70, 83, 49]⟩
def start0 : ByteArray := ⟨(([65, 70, 83, 49, 0, 0, 0, 0] : List UInt8) ++ List.replicate 120 0).toArray⟩
theorem RowOf.of_map {W : World} {g : Nat} {m : ByteArray} (h : W.heap[g]? = some (.cells (m.data.map fun b => Value.int .u8 b.toNat) 5 (0, 0))) : RowOf W g m := fun j hj => by
  have hj' : j < m.data.size := hj
  refine ⟨?_, ?_⟩
  · simp only [World.cell?, h, Option.bind_some]
    simp [byteN, Array.getD_eq_getD_getElem?, Array.getElem?_eq_getElem hj']
  · simp only [World.frozen?, h]
    simp
theorem start_cells : (((Lib.byteCells afs1.data.toList).take (min afs1.size 128) ++ cur0.toList.drop (min afs1.size 128)).toArray) = start0.data.map fun b => Value.int .u8 b.toNat := by kernel_rfl
theorem superB_set (n : Nat) (hn : n ≤ 4096) : setByte (setByte (setByte (setByte start0 4 (n / 256)) 5 (n % 256)) 6 (cntN n / 256)) 7 (cntN n % 256) = superB n := by
  unfold superB be2 setByte start0 cntN
  have e : ∀ k : Nat, UInt8.ofNat (k % 256) = UInt8.ofNat k := fun k => by apply UInt8.toNat_inj.1; simp
  simp only [e, List.setIfInBounds_toArray, List.cons_append, List.nil_append, List.set_cons_succ, List.set_cons_zero]
set_option maxRecDepth 100000 in
set_option maxHeartbeats 4000000 in
theorem almanacref04_super.calls (a0 : Int) (r : ByteArray) (w : World) (h : almanacref04_super.f a0 = some r) :
    Calls Try.prog 26 #[.int .i64 a0] w fun e w' => e = .returned (.string r) ∧ Below w.heap.size w w' := by
  unfold almanacref04_super.f at h
  split at h
  case isFalse => cases h
  rename_i hh
  obtain ⟨h0, hn⟩ := hh
  obtain rfl := Option.some.inj h
  clear h
  obtain ⟨n, rfl⟩ := Int.eq_ofNat_of_zero_le h0
  have hn' : n ≤ 4096 := by omega
  simp only [Int.toNat_natCast]
  have HCN := Aside0.mk (count_val n hn')
  have HS := Aside0.mk (superB_set n hn')
  have hmk : ∀ W : World, (Instr.makeSlice 51 (.int .i64 128) (.int .i64 128)).run Try.prog W = .ok (.slice (some ⟨W.heap.size, 0, none⟩) 128 128) (W.alloc (.cells cur0 5)) := fun W => print_make (P := Try.prog) 51 5 .u8 1 Try.underlying51 info5 (by decide) 128 (by decide) W
  have hcp := run_copy_string_min (P := Try.prog) (w.alloc (.cells cur0 5)) 51 9 3 5 w.heap.size 128 128 ⟨#[65, 70, 83, 49]⟩ cur0 5 Try.underlying51 (by kernel_rfl) (heap_alloc_new w _) (by rw [show cur0.size = 128 from by simp [cur0, size_madeCells]]; exact Nat.min_le_right _ _)
  rw [show (((Lib.byteCells (⟨#[65, 70, 83, 49]⟩ : ByteArray).data.toList).take (min (⟨#[65, 70, 83, 49]⟩ : ByteArray).size 128) ++ cur0.toList.drop (min (⟨#[65, 70, 83, 49]⟩ : ByteArray).size 128)).toArray) = start0.data.map fun b => Value.int .u8 b.toNat from start_cells] at hcp
  generalize hW : ((w.alloc (.cells cur0 5)).setRow w.heap.size (start0.data.map fun b => Value.int .u8 b.toNat)) = W at hcp
  have hB : Below w.heap.size w W := by
    rw [← hW]
    exact below_setRow ((Below.refl _ _).alloc (Nat.le_refl _) _) (Nat.le_refl _) _
  have hR : RowOf W w.heap.size start0 := RowOf.of_map (by rw [← hW]; exact setRow_heap _ _ _ _ 5 (0, 0) (heap_alloc_new w _))
  clear hW
  have HB := Aside0.mk hB
  clear hB
  have HR := Aside0.mk hR
  clear hR
  obtain ⟨hc4, hf4⟩ := HR.out 4 (by decide)
  obtain ⟨hc5, hf5⟩ := HR.out 5 (by decide)
  have e1 : IntKind.i64.wrap (Int.tdiv (n : Int) 256) = ((n / 256 : Nat) : Int) := by rw [Int.tdiv_eq_ediv_of_nonneg (by omega), IntKind.wrap_i64]; omega
  have e2 : Int.tmod (n : Int) 256 = ((n % 256 : Nat) : Int) := by rw [Int.tmod_eq_emod_of_nonneg (by omega)]; omega
  have hcn : cntN n ≤ 4096 := by unfold cntN; omega
  have e3 : IntKind.i64.wrap (Int.tdiv (cntN n : Int) 256) = ((cntN n / 256 : Nat) : Int) := by rw [Int.tdiv_eq_ediv_of_nonneg (by omega), IntKind.wrap_i64]; omega
  have e4 : Int.tmod (cntN n : Int) 256 = ((cntN n % 256 : Nat) : Int) := by rw [Int.tmod_eq_emod_of_nonneg (by omega)]; omega
  generalize hcc : cntN n = c at *
  clear hcc
  go_enter Try.func26, Try.ntmps26
  go_wp2_with (first
    | (go_at_call 41; refine (almanacref04_Count.calls (n : Int) _ _ HCN.out).mono ?_; rintro e w2 ⟨rfl, hb⟩; have hr4 := HR.out.set 4 (n / 256) (by decide) (by omega); have hr5 := hr4.set 5 (n % 256) (by rw [setByte_size]; decide) (by omega); simp only [Int.natCast_ediv, Int.natCast_emod, Int.cast_ofNat_Int] at hr5; have hr5 := hr5.below hb; obtain ⟨hc6, hf6⟩ := hr5 6 (by rw [setByte_size, setByte_size]; decide); have HR2 := Aside0.mk hr5; have HB2 := Aside0.mk (((HB.out.setCell (p := ⟨w.heap.size, 4, none⟩) (Nat.le_refl _) _).setCell (p := ⟨w.heap.size, 5, none⟩) (Nat.le_refl _) _).trans (hb.mono (by simp [HB.out.size]))); clear hb hr4 hr5 hc4 hf4 hc5 hf5 hcp HR HB)
    | (go_at_call 41; refine (almanacref04_Count.calls (n : Int) _ _ HCN.out).mono ?_; rintro e w3 ⟨rfl, hb⟩; have hr6 := HR2.out.set 6 (c / 256) (by rw [setByte_size, setByte_size]; decide) (by omega); simp only [Int.natCast_ediv, Int.natCast_emod, Int.cast_ofNat_Int] at hr6; have hr6 := hr6.below hb; obtain ⟨hc7, hf7⟩ := hr6 7 (by rw [setByte_size, setByte_size, setByte_size]; decide); have hr7 := hr6.set 7 (c % 256) (by rw [setByte_size, setByte_size, setByte_size]; decide) (by omega); simp only [Int.natCast_ediv, Int.natCast_emod, Int.cast_ofNat_Int] at hr7; rw [HS.out] at hr7; have hst := hr7.string 128; rw [show (superB n).size = 128 from rfl] at hst; have HB3 := Aside0.mk ((HB2.out.setCell (p := ⟨w.heap.size, 6, none⟩) (Nat.le_refl _) _).trans (hb.mono (by simp [HB2.out.size]))); clear hb hr6 hr7 hc6 hf6 HR2 HB2))
  go_ret
  exact ⟨rfl, HB3.out.setCell (p := ⟨w.heap.size, 7, none⟩) (Nat.le_refl _) _⟩
end Go.Proofs.Ytihnifpcpokpjaa.PD
/-
  DERIVED: THE SHELF's CONTRACTS AT THIS DUMP, IN PLAIN WORDS (tools/lay-plain.mjs out of 'YtihnifpcpokpjaaRepeatS.lean', which tools/lay-shelf.mjs wrote): THE SAME DECLARATIONS UNDER THE SAME NAMES: 'import', 'namespace', 'open', 'def', 'theorem' AND NOTHING ELSE: no command of the shelf's: FOR A HAND-IN. Each laying: the table of numbers ('.._ren') and one theorem, a field a fact of the dump's own or the kernel's comparison; each contract: ONE APPLICATION.
-/
namespace Go.Proofs
open Go.Shelf
def Try.lays189_ren : Go.Shelf.Ren := ⟨fun | 189 => 36 | 125 => 52 | 257 => 51 | 128 => 69 | 129 => 70 | 294 => 60 | 295 => 61 | 296 => 62 | 297 => 63 | 298 => 64 | 299 => 65 | 216 => 66 | 300 => 67 | 301 => 68 | 328 => 76 | 329 => 77 | 330 => 78 | 331 => 79 | 332 => 80 | 215 => 81 | 343 => 84 | n => n, fun | 28 => 23 | 3 => 3 | 46 => 67 | 0 => 0 | 51 => 91 | 53 => 93 | 4 => 4 | 183 => 83 | 182 => 82 | 131 => 88 | 5 => 5 | 9 => 9 | 218 => 99 | 222 => 103 | 228 => 108 | 229 => 109 | n => n, fun | n => n⟩
theorem Try.lays189 : Go.Proofs.Lays.n189 Try.prog Try.lays189_ren := {
  mixed := by kernel_rfl
  f125 := Try.func52.trans (congrArg some (by kernel_rfl))
  f128 := Try.func69.trans (congrArg some (by kernel_rfl))
  f129 := Try.func70.trans (congrArg some (by kernel_rfl))
  f189 := Try.func36.trans (congrArg some (by kernel_rfl))
  f215 := Try.func81.trans (congrArg some (by kernel_rfl))
  f216 := Try.func66.trans (congrArg some (by kernel_rfl))
  f257 := Try.func51.trans (congrArg some (by kernel_rfl))
  f294 := Try.func60.trans (congrArg some (by kernel_rfl))
  f295 := Try.func61.trans (congrArg some (by kernel_rfl))
  f296 := Try.func62.trans (congrArg some (by kernel_rfl))
  f297 := Try.func63.trans (congrArg some (by kernel_rfl))
  f298 := Try.func64.trans (congrArg some (by kernel_rfl))
  f299 := Try.func65.trans (congrArg some (by kernel_rfl))
  f300 := Try.func67.trans (congrArg some (by kernel_rfl))
  f301 := Try.func68.trans (congrArg some (by kernel_rfl))
  f328 := Try.func76.trans (congrArg some (by kernel_rfl))
  f329 := Try.func77.trans (congrArg some (by kernel_rfl))
  f330 := Try.func78.trans (congrArg some (by kernel_rfl))
  f331 := Try.func79.trans (congrArg some (by kernel_rfl))
  f332 := Try.func80.trans (congrArg some (by kernel_rfl))
  f343 := Try.func84.trans (congrArg some (by kernel_rfl))
  t0 := Try.underlying0
  a0 := Try.isAgg0
  z0 := Try.sizeOf0
  v0 := Try.zeroValue0
  t3 := Try.underlying3
  a3 := Try.isAgg3
  z3 := Try.sizeOf3
  v3 := Try.zeroValue3
  t4 := Try.underlying4
  a4 := Try.isAgg4
  z4 := Try.sizeOf4
  v4 := Try.zeroValue4
  t5 := Try.underlying5
  a5 := Try.isAgg5
  z5 := Try.sizeOf5
  v5 := Try.zeroValue5
  t9 := Try.underlying9
  a9 := Try.isAgg9
  z9 := Try.sizeOf9
  v9 := Try.zeroValue9
  t28 := Try.underlying23
  a28 := Try.isAgg23
  z28 := Try.sizeOf23
  v28 := Try.zeroValue23
  t46 := Try.underlying67
  a46 := Try.isAgg67
  z46 := Try.sizeOf67
  v46 := Try.zeroValue67
  t51 := Try.underlying91
  a51 := Try.isAgg91
  z51 := Try.sizeOf91
  v51 := Try.zeroValue91
  t53 := Try.underlying93
  a53 := Try.isAgg93
  z53 := Try.sizeOf93
  v53 := Try.zeroValue93
  t131 := Try.underlying88
  a131 := Try.isAgg88
  z131 := Try.sizeOf88
  v131 := Try.zeroValue88
  t182 := Try.underlying82
  a182 := Try.isAgg82
  z182 := Try.sizeOf82
  v182 := Try.zeroValue82
  t183 := Try.underlying83
  a183 := Try.isAgg83
  z183 := Try.sizeOf83
  v183 := Try.zeroValue83
  t218 := Try.underlying99
  a218 := Try.isAgg99
  z218 := Try.sizeOf99
  v218 := Try.zeroValue99
  t222 := Try.underlying103
  a222 := Try.isAgg103
  z222 := Try.sizeOf103
  v222 := Try.zeroValue103
  t228 := Try.underlying108
  a228 := Try.isAgg108
  z228 := Try.sizeOf108
  v228 := Try.zeroValue108
  t229 := Try.underlying109
  a229 := Try.isAgg109
  z229 := Try.sizeOf109
  v229 := Try.zeroValue109 }
open Go.Sort Go.RowKit in
theorem Try.slices_Sort_int (blk off cap : Nat) (zs : List Int) (w : World) (hH : Holds (Value.int .i64) w blk off zs.toArray) (hblk : blk < w.heap.size) (hsz : zs.length < 4611686018427387904) :
    Calls Try.prog 36 #[.slice (some ⟨blk, off, none⟩) zs.length cap] w fun e w' =>
      e = .returned (.tuple #[]) ∧ ∃ n os, w' = grow (putRow (Value.int .i64) (Sort.ahead w n) blk off (zs.mergeSort fun x y => decide (x ≤ y)).toArray) os := Any.slices_Sort_int Try.lays189 blk off cap zs w hH hblk hsz
def Try.lays264_ren : Go.Shelf.Ren := ⟨fun | 264 => 72 | n => n, fun | 53 => 93 | 46 => 67 | n => n, fun | n => n⟩
theorem Try.lays264 : Go.Proofs.Lays.n264 Try.prog Try.lays264_ren := {
  mixed := by kernel_rfl
  f264 := Try.func72.trans (congrArg some (by kernel_rfl))
  t46 := Try.underlying67
  a46 := Try.isAgg67
  z46 := Try.sizeOf67
  v46 := Try.zeroValue67
  t53 := Try.underlying93
  a53 := Try.isAgg93
  z53 := Try.sizeOf93
  v53 := Try.zeroValue93 }
open Go.RowKit Go.Lib in
theorem Try.bits_Mul64 (x y : Nat) (hx : x < 18446744073709551616) (hy : y < 18446744073709551616) (w : World) :
    Calls Try.prog 72 #[.int .u64 x, .int .u64 y] w fun e w' => e = .returned (.tuple #[.int .u64 ((x * y / 18446744073709551616 : Nat) : Int), .int .u64 ((x * y % 18446744073709551616 : Nat) : Int)]) ∧ w' = w := Any.bits_Mul64 Try.lays264 x y hx hy w
def Try.lays212_ren : Go.Shelf.Ren := ⟨fun | 212 => 53 | 263 => 71 | 264 => 72 | n => n, fun | 46 => 67 | 51 => 91 | 146 => 94 | 53 => 93 | 148 => 96 | n => n, fun | n => n⟩
theorem Try.lays212 : Go.Proofs.Lays.n212 Try.prog Try.lays212_ren := {
  mixed := by kernel_rfl
  f212 := Try.func53.trans (congrArg some (by kernel_rfl))
  f263 := Try.func71.trans (congrArg some (by kernel_rfl))
  f264 := Try.func72.trans (congrArg some (by kernel_rfl))
  t46 := Try.underlying67
  a46 := Try.isAgg67
  z46 := Try.sizeOf67
  v46 := Try.zeroValue67
  t51 := Try.underlying91
  a51 := Try.isAgg91
  z51 := Try.sizeOf91
  v51 := Try.zeroValue91
  t53 := Try.underlying93
  a53 := Try.isAgg93
  z53 := Try.sizeOf93
  v53 := Try.zeroValue93
  t146 := Try.underlying94
  a146 := Try.isAgg94
  z146 := Try.sizeOf94
  v146 := Try.zeroValue94
  t148 := Try.underlying96
  a148 := Try.isAgg96
  z148 := Try.sizeOf96
  v148 := Try.zeroValue96 }
open Go.RowKit Go.Lib in
/-- math/bits.Mul: "Mul returns the full-width product of x and y": on a machine of 64 bits: Mul64's. (LAID: no walk: one application.) -/
theorem Try.bits_Mul (x y : Nat) (hx : x < 18446744073709551616) (hy : y < 18446744073709551616) (w : World) :
    Calls Try.prog 53 #[.int .u64 x, .int .u64 y] w fun e w' => e = .returned (.tuple #[.int .u64 ((x * y / 18446744073709551616 : Nat) : Int), .int .u64 ((x * y % 18446744073709551616 : Nat) : Int)]) ∧ w' = w := Any.bits_Mul Try.lays212 x y hx hy w
def Try.lays105_ren : Go.Shelf.Ren := ⟨fun | 105 => 49 | 212 => 53 | 99 => 55 | 165 => 56 | 166 => 57 | 170 => 58 | 169 => 59 | 263 => 71 | 264 => 72 | 206 => 73 | 240 => 74 | 241 => 75 | 276 => 82 | 277 => 83 | n => n, fun | 9 => 9 | 3 => 3 | 4 => 4 | 20 => 20 | 0 => 0 | 46 => 67 | 109 => 68 | 5 => 5 | 72 => 74 | 76 => 78 | 51 => 91 | 146 => 94 | 53 => 93 | 148 => 96 | 70 => 72 | 37 => 51 | 75 => 77 | 127 => 98 | 164 => 105 | 80 => 48 | n => n, fun | n => n⟩
theorem Try.lays105 : Go.Proofs.Lays.n105 Try.prog Try.lays105_ren := {
  mixed := by kernel_rfl
  f99 := Try.func55.trans (congrArg some (by kernel_rfl))
  f105 := Try.func49.trans (congrArg some (by kernel_rfl))
  f165 := Try.func56.trans (congrArg some (by kernel_rfl))
  f166 := Try.func57.trans (congrArg some (by kernel_rfl))
  f169 := Try.func59.trans (congrArg some (by kernel_rfl))
  f170 := Try.func58.trans (congrArg some (by kernel_rfl))
  f206 := Try.func73.trans (congrArg some (by kernel_rfl))
  f212 := Try.func53.trans (congrArg some (by kernel_rfl))
  f240 := Try.func74.trans (congrArg some (by kernel_rfl))
  f241 := Try.func75.trans (congrArg some (by kernel_rfl))
  f263 := Try.func71.trans (congrArg some (by kernel_rfl))
  f264 := Try.func72.trans (congrArg some (by kernel_rfl))
  f276 := Try.func82.trans (congrArg some (by kernel_rfl))
  f277 := Try.func83.trans (congrArg some (by kernel_rfl))
  t0 := Try.underlying0
  a0 := Try.isAgg0
  z0 := Try.sizeOf0
  v0 := Try.zeroValue0
  t3 := Try.underlying3
  a3 := Try.isAgg3
  z3 := Try.sizeOf3
  v3 := Try.zeroValue3
  t4 := Try.underlying4
  a4 := Try.isAgg4
  z4 := Try.sizeOf4
  v4 := Try.zeroValue4
  t5 := Try.underlying5
  a5 := Try.isAgg5
  z5 := Try.sizeOf5
  v5 := Try.zeroValue5
  t9 := Try.underlying9
  a9 := Try.isAgg9
  z9 := Try.sizeOf9
  v9 := Try.zeroValue9
  t20 := Try.underlying20
  a20 := Try.isAgg20
  z20 := Try.sizeOf20
  v20 := Try.zeroValue20
  t37 := Try.underlying51
  a37 := Try.isAgg51
  z37 := Try.sizeOf51
  v37 := Try.zeroValue51
  t46 := Try.underlying67
  a46 := Try.isAgg67
  z46 := Try.sizeOf67
  v46 := Try.zeroValue67
  t51 := Try.underlying91
  a51 := Try.isAgg91
  z51 := Try.sizeOf91
  v51 := Try.zeroValue91
  t53 := Try.underlying93
  a53 := Try.isAgg93
  z53 := Try.sizeOf93
  v53 := Try.zeroValue93
  t70 := Try.underlying72
  a70 := Try.isAgg72
  z70 := Try.sizeOf72
  v70 := Try.zeroValue72
  t72 := Try.underlying74
  a72 := Try.isAgg74
  z72 := Try.sizeOf74
  v72 := Try.zeroValue74
  t75 := Try.underlying77
  a75 := Try.isAgg77
  z75 := Try.sizeOf77
  v75 := Try.zeroValue77
  t76 := Try.underlying78
  a76 := Try.isAgg78
  z76 := Try.sizeOf78
  v76 := Try.zeroValue78
  t109 := Try.underlying68
  a109 := Try.isAgg68
  z109 := Try.sizeOf68
  v109 := Try.zeroValue68
  t127 := Try.underlying98
  a127 := Try.isAgg98
  z127 := Try.sizeOf98
  v127 := Try.zeroValue98
  t146 := Try.underlying94
  a146 := Try.isAgg94
  z146 := Try.sizeOf94
  v146 := Try.zeroValue94
  t148 := Try.underlying96
  a148 := Try.isAgg96
  z148 := Try.sizeOf96
  v148 := Try.zeroValue96
  t164 := Try.underlying105
  a164 := Try.isAgg105
  z164 := Try.sizeOf105
  v164 := Try.zeroValue105 }
theorem Try.Builder_Extra_105 : Builder.Extra Try.prog Try.lays105_ren := {
  sizeBuilder := by kernel_rfl
  liesBuilder := by kernel_rfl
  t5 := Try.underlying5
  a5 := Try.isAgg5
  z5 := Try.sizeOf5
  v5 := Try.zeroValue5
  infoByte := by kernel_rfl
  cellsByte := by kernel_rfl
  sizeByte := by kernel_rfl
  neB5 := by decide }
open Go.RowKit Go.Lib in
/-- **strings.Repeat: count ≥ 0, the result within one allocation: count copies of s.** (LAID: no walk: one application.) -/
theorem Try.strings_Repeat (s : ByteArray) (c : Nat) (w : World) (hc : c ≤ 9223372036854775807) (hlen : s.size * c ≤ 140737488355328) :
    Calls Try.prog 49 #[.string s, .int .i64 c] w fun e w' => e = .returned (.string ⟨(Lib.repeatL s.data.toList c).toArray⟩) ∧ Below w.heap.size w w' := Any.strings_Repeat Try.lays105 Try.Builder_Extra_105 s c w hc hlen
def Try.laysNm215_ren : Go.Shelf.Ren := ⟨fun | 15 => 35 | n => n, fun | 22 => 23 | 3 => 3 | 4 => 4 | n => n, fun | n => n⟩
theorem Try.laysNm215 : Go.Proofs.Lays2.n15 Try.prog Try.laysNm215_ren := {
  mixed := by kernel_rfl
  f15 := Try.func35.trans (congrArg some (by kernel_rfl))
  t3 := Try.underlying3
  a3 := Try.isAgg3
  z3 := Try.sizeOf3
  v3 := Try.zeroValue3
  t4 := Try.underlying4
  a4 := Try.isAgg4
  z4 := Try.sizeOf4
  v4 := Try.zeroValue4
  t22 := Try.underlying23
  a22 := Try.isAgg23
  z22 := Try.sizeOf23
  v22 := Try.zeroValue23
  i3 := by kernel_rfl }
open Go.RowKit Go.Lib in
/-- slices.Clone at []int: "Clone returns a copy of the slice. The elements are copied using assignment, so this is a shallow clone. The result may have additional unused capacity. The result preserves the nilness of s.": OF A SLICE THAT IS NOT nil IT RETURNS A SLICE THAT IS NOT nil, OF THE SAME ELEMENTS, IN MEMORY OF THE CALL's OWN: in the how-to's words (6f): 'w'.ownsRow B e 1 v' n cells': v' begins at the head of a row among the blocks from B on (B: the heap's size at the call), not frozen, whose first cells are the elements · 'Below B w w'': below B all is as it was. The capacity is whatever the run-time gives. 'zs': what the cells behind the slice's address hold; 'zs.take n': its elements. (LAID: no walk: one application.) -/
theorem Try.slices_Clone_int (b off n c : Nat) (zs : List Int) (w : World) (hz : n ≤ zs.length) (hbig : n * 8 ≤ 140737488355328) (hc : ∀ j, j < zs.length → w.cell? ⟨b, off + j, none⟩ = some (.int .i64 (zs.getD j 0))) :
    Calls Try.prog 35 #[.slice (some ⟨b, off, none⟩) n c] w fun e w' => ∃ v', e = .returned v' ∧ w'.ownsRow w.heap.size 3 1 v' n ((zs.take n).map (Value.int .i64)) ∧ v' ≠ .slice none 0 0 ∧ Below w.heap.size w w' := Any.slices_Clone_int Try.laysNm215 b off n c zs w hz hbig hc
open Go.RowKit Go.Lib in
/-- The same at nil: nil comes back; the world is as it was. (LAID: no walk: one application.) -/
theorem Try.slices_Clone_int_nil (n c : Nat) (w : World) :
    Calls Try.prog 35 #[.slice none n c] w fun e w' => e = .returned (.slice none 0 0) ∧ w' = w := Any.slices_Clone_int_nil Try.laysNm215 n c w
open Go.RowKit Go.Lib in
/-- The same at a slice of length 0 that is not nil, WHATEVER ITS ADDRESS (no cell is asked for): a slice that is not nil and owns nothing comes back. (LAID: no walk: one application.) -/
theorem Try.slices_Clone_int_zero (a : Addr) (c : Nat) (w : World) :
    Calls Try.prog 35 #[.slice (some a) 0 c] w fun e w' => ∃ v', e = .returned v' ∧ w'.ownsRow w.heap.size 3 1 v' 0 [] ∧ v' ≠ .slice none 0 0 ∧ Below w.heap.size w w' := Any.slices_Clone_int_zero Try.laysNm215 a c w
def Try.laysNm220_ren : Go.Shelf.Ren := ⟨fun | 20 => 37 | n => n, fun | 22 => 23 | 3 => 3 | 4 => 4 | 0 => 0 | n => n, fun | n => n⟩
theorem Try.laysNm220 : Go.Proofs.Lays2.n20 Try.prog Try.laysNm220_ren := {
  mixed := by kernel_rfl
  f20 := Try.func37.trans (congrArg some (by kernel_rfl))
  t0 := Try.underlying0
  a0 := Try.isAgg0
  z0 := Try.sizeOf0
  v0 := Try.zeroValue0
  t3 := Try.underlying3
  a3 := Try.isAgg3
  z3 := Try.sizeOf3
  v3 := Try.zeroValue3
  t4 := Try.underlying4
  a4 := Try.isAgg4
  z4 := Try.sizeOf4
  v4 := Try.zeroValue4
  t22 := Try.underlying23
  a22 := Try.isAgg23
  z22 := Try.sizeOf23
  v22 := Try.zeroValue23
  i3 := by kernel_rfl }
open Go.RowKit Go.Lib Go.Sort in
/-- slices.Compact at []int: "Compact replaces consecutive runs of equal elements with a single copy. This is like the uniq command found on Unix. Compact modifies the contents of the slice s and returns the modified slice, which may have a smaller length. Compact zeroes the elements between the new length and the original length. The result preserves the nilness of s.": IT RETURNS THE SLICE CUT TO 'Lib.compact zs'; ITS CELLS HOLD 'Lib.compact zs', THEN ZERO VALUES up to the old length; all else is as it was, but for the count of draws. IN THE WORDS OF slices.Sort's CONTRACT ('Holds', 'putRow'): so the everyday 'slices.Sort(xs); xs = slices.Compact(xs)' goes from the one contract to the other. It asks 'zs.length ≤ cap' (every slice's: the reslicing 's[:k]' looks at it). Length 0, nil: '.._empty'. (LAID: no walk: one application.) -/
theorem Try.slices_Compact_int (blk off cap : Nat) (zs : List Int) (w : World) (hH : Holds (Value.int .i64) w blk off zs.toArray) (hsz : zs.length ≤ 9223372036854775807) (hcap : zs.length ≤ cap) :
    Calls Try.prog 37 #[.slice (some ⟨blk, off, none⟩) zs.length cap] w fun e w' => e = .returned (.slice (some ⟨blk, off, none⟩) (Lib.compact zs).length cap) ∧ ∃ q, w' = putRow (Value.int .i64) (Sort.ahead w q) blk off (Lib.compact zs ++ List.replicate (zs.length - (Lib.compact zs).length) 0).toArray := Any.slices_Compact_int Try.laysNm220 blk off cap zs w hH hsz hcap
open Go.RowKit Go.Lib Go.Sort in
/-- The same at a slice of length 0, a nil one too: it comes back as it is. (LAID: no walk: one application.) -/
theorem Try.slices_Compact_int_empty (a : Option Addr) (cap : Nat) (w : World) :
    Calls Try.prog 37 #[.slice a 0 cap] w fun e w' => e = .returned (.slice a 0 cap) ∧ w' = w := Any.slices_Compact_int_empty Try.laysNm220 a cap w
open Go.RowKit Go.Sort in
/-- .. and plain. (LAID: no walk: one application.) -/
theorem Try.slices_Sort_int_none (p : Option Addr) (cap : Nat) (w : World) :
    Calls Try.prog 36 #[.slice p 0 cap] w fun e w' => e = .returned (.tuple #[]) ∧ w' = w := Any.slices_Sort_int_none Try.lays189 p cap w
end Go.Proofs
/- Contracts of slices.Clone (two instances), slices.Repeat, strings.Repeat and the law's filled: stubs of the print. -/
namespace Go.Proofs.Ytihnifpcpokpjaa.PD
open Go.RowKit Go.Proofs.YtihnifpcpokpjaaW.PrintWords Go.Proofs.YtihnifpcpokpjaaW.PrintLast Go.Proofs.YtihnifpcpokpjaaW.PrintMore
attribute [local go_sem] max2_int min2_int max_two min_two
set_option linter.unusedVariables false
set_option linter.unusedSimpArgs false
def slices_Clone_string_string.f (l0 : List ByteArray) : Option (List ByteArray) := if l0.length < 8796093022208 then some l0 else none
set_option maxHeartbeats 8000000 in
set_option maxRecDepth 100000 in
theorem slices_Clone_string_string.calls (A0 : Option Addr) (c0 : Nat) (l0 : List ByteArray) (r : List ByteArray) (w : World) (hr0 : Kd.C Kd.string w A0 l0.length l0) (hc0 : l0.length ≤ c0) (h : slices_Clone_string_string.f l0 = some r) :
    Calls Try.prog 27 #[.slice A0 l0.length c0] w fun e w' => ∃ v0_ : Value, e = .returned (v0_) ∧ Kd.R Kd.string 9 w' w.heap.size (fun _ => True) v0_ r ∧ Below w.heap.size w w' := by
  unfold slices_Clone_string_string.f at h
  split at h
  case isFalse => cases h
  rename_i hlim
  obtain rfl := Option.some.inj h
  clear h
  rcases A0 with _ | ad
  · have hl : l0 = [] := by
      rcases Nat.eq_zero_or_pos l0.length with h0 | h0
      · exact List.eq_nil_of_length_eq_zero h0
      · obtain ⟨ad, h', _⟩ := hr0.2.2 h0
        cases h'
    subst hl
    have hq : ∀ (W : World) (n c n' c' : Nat), (binOp .eql 22 (.slice none n c) (.slice none n' c')).run Try.prog W = .ok (.bool true) W := fun W n c n' c' => Lib.run_eql_slice_nil W _ _ none n c n' c' Try.underlying22
    go_enter Try.func27, Try.ntmps27
    go_wp2
    go_ret
    exact ⟨_, rfl, Kd.R_nil _ _ _ _ _, Below.refl _ _⟩
  have hq : ∀ (W : World) (n c n' c' : Nat), (binOp .eql 22 (.slice (some ad) n c) (.slice none n' c')).run Try.prog W = .ok (.bool false) W := fun W n c n' c' => Lib.run_eql_slice_nil W _ _ (some ad) n c n' c' Try.underlying22
  have HR0 := Aside0.mk hr0
  have HC0 := Aside0.mk hc0
  clear hr0 hc0
  have HB := Aside0.mk (Below.refl w.heap.size w)
  obtain ⟨y105, hy105⟩ : ∃ y_ : List ByteArray, y_ = (([] : List ByteArray)) := ⟨_, rfl⟩
  have Ny105 := Aside0.mk hy105
  clear hy105
  have c2 : y105.length + l0.length < 8796093022208 := by rw [Ny105.out]; simpa using hlim
  clear hlim
  have LMc2 := Aside0.mk c2
  clear c2
  obtain ⟨y108, hy108⟩ : ∃ y_ : List ByteArray, y_ = (y105 ++ l0) := ⟨_, rfl⟩
  have Ny108 := Aside0.mk hy108
  clear hy108
  have hyl : y108 = l0 := by rw [Ny108.out, Ny105.out]; rfl
  have HYL := Aside0.mk hyl
  clear hyl
  go_enter Try.func27, Try.ntmps27
  go_wp2_with (first | ((with_reducible refine gate_dst (N := 5) rfl ?_); refine Kd.R_lit Kd.string _ 9 ?hg (N := 5) ?hd (xs := ([] : List ByteArray)) (inner := []) (ok := fun _ => True) (okp := fun _ => True) ?hr ?hp (fun _ hk => hk) trivial (Below.refl _ _) (Nat.le_refl _) (by simp) ?_; (case hd => rfl); (case hg => rfl); (case hr => first | (go_simp; done) | (go_simp; rfl)); (case hp => exact (Reps.none _ _)); intro v106 w3 ho4 hb hg_ hnew_; clear hg_ hnew_; (first | rw [← Ny105.out] at ho4 | (simp only [Int.reduceToNat] at ho4; rw [← Ny105.out] at ho4)); have n0_ := Aside0.mk (Kd.R_lower ho4 (below_size (by repeat (first | (with_reducible first | exact HB.out | apply below_alloc | apply pw_below_drewN | apply below_drew1) | exact HB.out)))); have n1_ := Aside0.mk (below_step (by repeat (first | (with_reducible first | exact HB.out | apply below_alloc | apply pw_below_drewN | apply below_drew1) | exact HB.out)) hb); clear HB; have HO107 := n0_; have HB := n1_; clear n0_ n1_; clear hb ho4) | ((with_reducible refine gate_builtin (b := .append) (xs := #[.tmp 5, .tmp 6]) rfl ?_); at_builtin; refine Kd.R_append_rows Kd.string (w0 := w) w.heap.size rfl (.tmp 5) (.tmp 6) 22 9 (.string ⟨#[]⟩) 16 rfl Try.underlying22 info9 rfl (by decide) (by omega) v106 y105 l0 _ _ _ (fun _ => True) (fun _ => False) rfl rfl ?aO ?aR (fun _ _ h => h) (fun _ h => h.elim) ?aF ?aB ?aS ?aL ?_; (case aR => repeat (first | exact (Kd.C_below HR0.out HB.out) | (with_reducible refine Kd.C_alloc ?_ _) | (with_reducible refine Kd.C_drewN ?_ _) | (with_reducible refine Kd.C_drew ?_))); (case aB => exact (by repeat (first | (with_reducible first | exact HB.out | apply below_alloc | apply pw_below_drewN | apply below_drew1) | exact HB.out))); (case aF => exact (fun _ _ => trivial)); (case aO => exact (by (with_reducible repeat (first | apply Kd.R_alloc | apply Kd.R_drewN | apply Kd.R_drew)); exact HO107.out)); (case aS => exact (below_size (by repeat (first | (with_reducible first | exact HB.out | apply below_alloc | apply pw_below_drewN | apply below_drew1) | exact HB.out)))); (case aL => have := LMc2.out; omega); intro v109 w5 ho hb hg hat; rw [← Ny108.out] at ho; have n0_ := Aside0.mk (hb); have n1_ := Aside0.mk (ho); clear HB; clear HO107; have HB := n0_; have HO110 := n1_; clear n0_ n1_; clear ho hb hg hat))
  have HO110x := HO110.out
  go_ret
  exact ⟨_, by first | rfl | (simp [errW_none, errW_some] <;> rfl) | (simp [*, errW_none, errW_some] <;> rfl), by (with_reducible repeat (first | apply Kd.R_alloc | apply Kd.R_drewN | apply Kd.R_drew)); (rw [HYL.out] at HO110x); exact HO110x, by repeat (first | (with_reducible first | exact HB.out | apply below_alloc | apply pw_below_drewN | apply below_drew1) | exact HB.out)⟩
def slices_Repeat_string_string.f (l0 : List ByteArray) (a1 : Int) : Option (List ByteArray) := if l0.length = 1 ∧ 1 ≤ a1 ∧ a1 ≤ 4096 then some (List.replicate a1.toNat (l0.getD 0 ⟨#[]⟩)) else none
def strings_Repeat.f (a0 : ByteArray) (a1 : Int) : Option (ByteArray) := if 0 ≤ a1 ∧ a1 ≤ 9223372036854775807 ∧ a0.size * a1.toNat ≤ 140737488355328 then some ⟨(Lib.repeatL a0.data.toList a1.toNat).toArray⟩ else none
theorem strings_Repeat.calls (a0 : ByteArray) (a1 : Int) (r : ByteArray) (w : World) (h : strings_Repeat.f a0 a1 = some r) :
    Calls Try.prog 49 #[.string a0, .int .i64 a1] w fun e w' => e = .returned (.string r) ∧ Below w.heap.size w w' := by
  unfold strings_Repeat.f at h
  split at h
  · rename_i hc
    obtain ⟨h0, h1, h2⟩ := hc
    obtain ⟨c, rfl⟩ := Int.eq_ofNat_of_zero_le h0
    cases h
    simp only [Int.toNat_natCast] at h2 ⊢
    exact Try.strings_Repeat a0 c w (by omega) h2
  · cases h
theorem mul_one (n : Nat) (hn : n ≤ 4096) (w : World) : Calls Try.prog 53 #[.int .u64 1, .int .u64 n] w fun e w' => e = .returned (.tuple #[.int .u64 0, .int .u64 n]) ∧ w = w' := by
  refine (Try.bits_Mul 1 n (by omega) (by omega) w).mono ?_
  rintro e w' ⟨rfl, rfl⟩
  refine ⟨?_, rfl⟩
  rw [Nat.one_mul, Nat.div_eq_of_lt (by omega), Nat.mod_eq_of_lt (by omega)]
  rfl
/-- n cells, the first k of them s. -/
def rowK (s : ByteArray) (k n : Nat) : List Value := List.replicate k (.string s) ++ List.replicate (n - k) (.string ⟨#[]⟩)
theorem rowK_len (s : ByteArray) (k n : Nat) (h : k ≤ n) : (rowK s k n).length = n := by simp [rowK]; omega
theorem rowK_zero (s : ByteArray) (n : Nat) : (madeCells #[Value.string ⟨#[]⟩] n).toList = rowK s 0 n := by
  apply List.ext_getElem
  · simp [rowK, madeCells]
  · intro i h1 h2
    simp [rowK, madeCells, Nat.mod_one]
theorem rowK_splice (s : ByteArray) (k m n : Nat) (h : k + m ≤ n) : splice (rowK s k n) k (List.replicate m (.string s)) = rowK s (k + m) n := by
  have e1 : (rowK s k n).take k = List.replicate k (.string s) := by unfold rowK; rw [List.take_append_of_le_length (by simp), List.take_of_length_le (by simp)]
  have e2 : (rowK s k n).drop (k + m) = List.replicate (n - (k + m)) (.string ⟨#[]⟩) := by
    unfold rowK
    rw [List.drop_append, List.drop_of_length_le (by simp), List.nil_append, List.drop_replicate, List.length_replicate]
    congr 1
    omega
  unfold splice
  rw [List.length_replicate, e1, e2, ← List.append_assoc, List.replicate_append_replicate]
  rfl
set_option maxRecDepth 100000 in
set_option maxHeartbeats 1600000 in
theorem slices_Repeat_string_string.calls (A0 : Option Addr) (c0 : Nat) (l0 : List ByteArray) (a1 : Int) (r : List ByteArray) (w : World) (hr0 : Kd.C Kd.string w A0 l0.length l0) (hc0 : l0.length ≤ c0) (h : slices_Repeat_string_string.f l0 a1 = some r) :
    Calls Try.prog 43 #[.slice A0 l0.length c0, .int .i64 a1] w fun e w' => ∃ v0_ : Value, e = .returned (v0_) ∧ Kd.R Kd.string 9 w' w.heap.size (fun _ => True) v0_ r ∧ Below w.heap.size w w' := by
  unfold slices_Repeat_string_string.f at h
  split at h
  case isFalse => cases h
  rename_i hh
  obtain ⟨hl, h1, h2⟩ := hh
  obtain rfl := Option.some.inj h
  clear h
  obtain ⟨s, rfl⟩ : ∃ s, l0 = [s] := List.length_eq_one_iff.1 hl
  obtain ⟨n, rfl⟩ := Int.eq_ofNat_of_zero_le (show 0 ≤ a1 by omega)
  obtain ⟨ad, rfl, hcell⟩ : ∃ ad, A0 = some ad ∧ w.cell? ad = some (.string s) := by
    obtain ⟨ad, he, hc⟩ := hr0.2.2 (by simp)
    refine ⟨ad, he, ?_⟩
    obtain ⟨c, hcl, hK, hcell⟩ := hc 0 s rfl
    have hKs : c = [.string s] := hK
    subst hKs
    have h0 := hcell 0 _ rfl
    rwa [show ad.add (0 * Kd.string.sz + 0) = ad from by simp [Addr.add]] at h0
  clear hl hr0
  have hk1 : 1 ≤ n := by omega
  have hk2 : n ≤ 4096 := by omega
  have hmk : ∀ W : World, (Instr.makeSlice 22 (.int .i64 (n : Int)) (.int .i64 (n : Int))).run Try.prog W = .ok (.slice (some ⟨W.heap.size, 0, none⟩) n n) (W.alloc (.cells (rowK s 0 n).toArray 9)) := by
    have h := run_make_row' (P := Try.prog) 22 9 (.string ⟨#[]⟩) 16 Try.underlying22 info9 rfl .i64 .i64 n (by omega) (by omega)
    have e : (rowK s 0 n).toArray = madeCells #[Value.string ⟨#[]⟩] n := by rw [← rowK_zero]
    rw [e]; exact h
  have hB0 : Below w.heap.size w (w.alloc (.cells (rowK s 0 n).toArray 9)) := (Below.refl _ _).alloc (Nat.le_refl _) _
  have hG0 := Aside0.mk (heap_alloc_new w (.cells (rowK s 0 n).toArray 9))
  have hadl : ad.block < w.heap.size := World.block_lt_of_cell? w ad hcell
  have hcell1 : (w.alloc (.cells (rowK s 0 n).toArray 9)).cell? ad = some (.string s) := pw_cell_below hB0 hcell
  have hsrc : ∀ j v, [Value.string s][j]? = some v → (w.alloc (.cells (rowK s 0 n).toArray 9)).cell? (ad.add j) = some v := by
    intro j v hj
    rcases j with _ | j
    · simp at hj
      subst hj
      rwa [show ad.add 0 = ad from by simp [Addr.add]]
    · simp at hj
  have hn1 : [Value.string s].length = Nat.min 1 n := by show 1 = min 1 n; omega
  go_enter Try.func43, Try.ntmps43
  go_wp2_with (first | (go_at_call 53; refine (mul_one n hk2 _).mono ?_; rintro e w' ⟨rfl, rfl⟩) | ((with_reducible refine gate_builtin (b := .copy) (xs := #[.tmp 31, .tmp 32]) rfl ?_); go_loud (refine wpList_copy_splice rfl _ _ 22 22 rfl 9 Try.underlying22 (by kernel_rfl) _ _ n n 1 c0 rfl rfl w.heap.size 0 (rowK s 0 n) 9 hG0.out [.string s] hn1 (fun _ => ⟨rfl, ad, rfl, hsrc⟩) (by rw [rowK_len _ _ _ (by omega)]; simpa using hk1) (by intro v hv; simp at hv; subst hv; rfl) w.heap.size w hB0 (Nat.le_refl _) ?_); intro w1 hg1 hb1))
  have HG1 := Aside0.mk hg1.out
  clear hg1 hG0 hmk hcell1 hB0 hn1 hcell hsrc
  have HB1 := Aside0.mk hb1
  clear hb1
  rw [show splice (rowK s 0 n) 0 [Value.string s] = rowK s 1 n from rowK_splice s 0 1 n (by omega)] at HG1
  go_loopw [8] (fun v wr => ∃ k : Nat, 1 ≤ k ∧ k ≤ n ∧ v = .int .i64 k ∧ Aside0 (wr.heap[w.heap.size]? = some (.cells (rowK s k n).toArray 9 (0, 0))) ∧ Aside0 (Below w.heap.size w wr)) (fun v _ => n - (intOf v).toNat)
  case atStart => exact ⟨1, Nat.le_refl _, hk1, rfl, HG1, HB1⟩
  case round =>
    obtain ⟨k, hk, hkn, rfl, hgk, hbk⟩ := hrel
    by_cases hlt : k < n
    · go_wp2
      obtain ⟨m, hm⟩ : ∃ m, m = min k (n - k) := ⟨_, rfl⟩
      have hm1 : 1 ≤ m := by omega
      have hm2 : k + m ≤ n := by omega
      have hm3 : m ≤ k := by omega
      have hlo : ∀ W : World, (Instr.slice 22 (.slice (some ⟨w.heap.size, 0, none⟩) n n) (some (.int .i64 (k : Int))) none none).run Try.prog W = .ok (.slice (some ⟨w.heap.size, k, none⟩) (n - k) (n - k)) W := by
        intro W
        obtain ⟨i0, hi, _, hz1, _⟩ := info_parts info9
        have hc := cut_from (P := Try.prog) 22 9 .i64 Try.underlying22 hi 1 hz1 (some ⟨w.heap.size, 0, none⟩) n n (k : Int) (by omega) (by omega) W
        rw [Int.toNat_natCast, if_neg (by omega)] at hc
        rw [hc]
        simp [add_plain]
      have hhi : ∀ W : World, (Instr.slice 22 (.slice (some ⟨w.heap.size, 0, none⟩) n n) none (some (.int .i64 (k : Int))) none).run Try.prog W = .ok (.slice (some ⟨w.heap.size, 0, none⟩) k n) W := by
        intro W
        obtain ⟨i0, hi, _, hz1, _⟩ := info_parts info9
        have hc := cut_to (P := Try.prog) 22 9 .i64 Try.underlying22 hi (some ⟨w.heap.size, 0, none⟩) n n (k : Int) (by omega) (by omega) (Nat.le_refl _) W
        rw [Int.toNat_natCast] at hc
        exact hc
      have hsum : IntKind.i64.wrap ((k : Int) + (m : Int)) = ((k + m : Nat) : Int) := by rw [IntKind.wrap_i64]; omega
      have hn2 : (List.replicate m (Value.string s)).length = Nat.min k (n - k) := by rw [List.length_replicate]; exact hm
      have HN2 := Aside0.mk hn2
      clear hn2
      have hcells : ∀ j v, (List.replicate m (Value.string s))[j]? = some v → wr.cell? ((⟨w.heap.size, 0, none⟩ : Addr).add j) = some v := by
        intro j v hj
        have hjm : j < m := by
          rcases Nat.lt_or_ge j m with h | h
          · exact h
          · rw [List.getElem?_eq_none (by simpa using h)] at hj; cases hj
        rw [add_plain]
        have hv : v = .string s := by rw [List.getElem?_replicate] at hj; simp [hjm] at hj; exact hj.symm
        subst hv
        have hh := hgk.out
        simp only [World.cell?, hh]
        simp [rowK, List.getElem?_append, show j < k by omega]
      have HM := Aside0.mk hm
      clear hm
      go_region_law (refine step_copy_splice rfl (.tmp 41) (.tmp 44) 22 22 rfl 9 Try.underlying22 (by kernel_rfl) _ _ (n - k) (n - k) k n (by simp [Act.eval, Act.put]) (by simp [Act.eval, Act.put]) w.heap.size k (rowK s k n) 9 hgk.out (List.replicate m (.string s)) HN2.out (fun _ => ⟨rfl, _, rfl, hcells⟩) (by rw [rowK_len _ _ _ hkn, List.length_replicate]; exact hm2) (by intro v hv; rw [List.mem_replicate] at hv; rw [hv.2]; rfl) w.heap.size w (below_drew hbk.out) (Nat.le_refl _) ?_; intro w4 hg4 hb4)
      have HG4 := Aside0.mk hg4.out
      have HB4 := Aside0.mk hb4
      clear hg4 hb4 hlo hhi hcells
      rw [rowK_splice s k m n hm2] at HG4
      go_wp2
      refine ⟨?_, ?_⟩
      · iterate 14 (apply Exists.intro)
        refine And.intro ?_ rfl
        exact ⟨k + m, by omega, hm2, by simp, HG4, HB4⟩
      · have hx : n - (k + m) < n - k := by omega
        refine Nat.lt_of_le_of_lt (Nat.le_of_eq ?_) hx
        show n - (intOf (Value.int .i64 ((k : Int) + (m : Int)))).toNat = n - (k + m)
        have h0 : ((k : Int) + (m : Int)).toNat = k + m := by omega
        simp only [intOf, h0]
    · go_wp2
      go_ret
      obtain rfl : k = n := by omega
      refine ⟨_, rfl, ?_, hbk.out⟩
      have hl : (rowK s k k) = encs Value.string (List.replicate k s) := by simp [rowK, encs]
      have hg := hgk.out
      rw [hl] at hg
      have ho : wr.ownsRow w.heap.size 9 1 (.slice (some ⟨w.heap.size, 0, none⟩) k k) k (encs Value.string (List.replicate k s)) :=
        ⟨by simp [encs], .inr ⟨w.heap.size, k, _, rfl, Nat.le_refl _, hg, Nat.le_refl _, by unfold maxLen; omega, by simp [encs], by simp [encs]⟩⟩
      have e : (List.replicate (k : Int).toNat ([s].getD 0 ⟨#[]⟩)) = List.replicate k s := by simp
      rw [e]
      exact Kd.R_of_own (by rw [List.length_replicate]; exact ho) (fun _ _ => trivial)

end Go.Proofs.Ytihnifpcpokpjaa.PD
-- written by a program of this work (mk.sh, over the kit's print; stubs are proved by hand)
namespace Go.Proofs.Ytihnifpcpokpjaa.PD
open Go.RowKit Go.Proofs.YtihnifpcpokpjaaW.PrintWords Go.Proofs.YtihnifpcpokpjaaW.PrintLast Go.Proofs.YtihnifpcpokpjaaW.PrintMore
attribute [local go_sem] isSome_setCell max2_int min2_int max_two min_two max_three min_three max_four min_four   -- for this text's walks alone
set_option linter.unusedVariables false
set_option linter.unusedSimpArgs false

/-! ### alloc_zeros: function 29 -/
def alloc_zeros.f  : Option (ByteArray) := (strings_Repeat.f (⟨#[0]⟩ : ByteArray) 128).bind fun t122 => (some t122)
set_option maxHeartbeats 8000000 in
set_option maxRecDepth 100000 in
theorem alloc_zeros.calls  (r : ByteArray) (w : World) (h : alloc_zeros.f  = some r) :
    Calls Try.prog 29 #[] w fun e w' => e = .returned (.string r) ∧ Below w.heap.size w w' := by
  have HB := Aside0.mk (Below.refl w.heap.size w)
  have H : ((strings_Repeat.f (⟨#[0]⟩ : ByteArray) 128).bind fun t122 => (some t122)) = some r := h
  clear h
  replace H := Option.bind_eq_some_iff.mp H
  obtain ⟨t122, A10, H⟩ := H
  replace H : (some t122) = some r := H
  have A1 := Aside0.mk A10
  clear A10
  obtain rfl := Option.some.inj H
  go_enter Try.func29, Try.ntmps29
  go_wp2_with (first | ((with_reducible refine gate_callee (f := 49) rfl ?_); refine goesL_ (some 1) rfl rfl Try.func49 (by kernel_rfl) rfl #[.string (⟨#[0]⟩ : ByteArray), .int .i64 128] rfl (by (try simp only [List.map_toArray, List.map_cons, List.map_nil]); first | done | rfl | (simp only [List.length_drop, List.length_take]; rfl)) ?_; (with_reducible refine (strings_Repeat.calls (⟨#[0]⟩ : ByteArray) 128 t122 _ A1.out).mono ?_); rintro e w2 ⟨rfl, hb⟩; refine ⟨_, rfl, ?_⟩; have n0_ := Aside0.mk (below_step (by repeat (first | (with_reducible first | exact HB.out | apply below_alloc | apply pw_below_drewN | apply below_drew1) | exact HB.out)) hb); clear HB; have HB := n0_; clear n0_; (try clear hb); (try clear hb2); (try clear hk); (try clear hi)))
  go_ret
  exact ⟨by first | rfl | (simp [errW_none, errW_some] <;> rfl) | (simp [*, errW_none, errW_some] <;> rfl), by repeat (first | (with_reducible first | exact HB.out | apply below_alloc | apply pw_below_drewN | apply below_drew1) | exact HB.out)⟩

end Go.Proofs.Ytihnifpcpokpjaa.PD
-- written by a program of this work (mk.sh, over the kit's print; stubs are proved by hand)
namespace Go.Proofs.Ytihnifpcpokpjaa.PD
open Go.RowKit Go.Proofs.YtihnifpcpokpjaaW.PrintWords Go.Proofs.YtihnifpcpokpjaaW.PrintLast Go.Proofs.YtihnifpcpokpjaaW.PrintMore
attribute [local go_sem] isSome_setCell max2_int min2_int max_two min_two max_three min_three max_four min_four   -- for this text's walks alone
set_option linter.unusedVariables false
set_option linter.unusedSimpArgs false

/-! ### alloc_inodes: function 42 -/
def alloc_inodes.f (a0 : Int) : Option (Int) := some (mx 4 (Go.bits .andNot .i64 (wrap64 (Int.tdiv a0 4)) 3))
set_option maxHeartbeats 8000000 in
set_option maxRecDepth 100000 in
theorem alloc_inodes.calls (a0 : Int) (r : Int) (w : World) (h : alloc_inodes.f a0 = some r) :
    Calls Try.prog 42 #[.int .i64 a0] w fun e w' => e = .returned (.int .i64 r) ∧ Below w.heap.size w w' := by
  have HB := Aside0.mk (Below.refl w.heap.size w)
  have H : (some (mx 4 (Go.bits .andNot .i64 (wrap64 (Int.tdiv a0 4)) 3))) = some r := h
  clear h
  obtain ⟨ji2, hji2⟩ : ∃ j_ : Int, (mx 4 (Go.bits .andNot .i64 (wrap64 (Int.tdiv a0 4)) 3)) = j_ := ⟨_, rfl⟩
  replace H : (some ji2) = some r := by first | (rw [hji2] at H; exact H) | (simp only [hji2] at H ⊢; exact H)
  (try (have hji2l : 4 ≤ ji2 := by (rw [← hji2]; unfold mx; (repeat' split) <;> omega)))
  (try (have hji2m : 0 ≤ ji2 := by omega))
  have hji2_ : (if 4 < (Go.bits .andNot .i64 (wrap64 (Int.tdiv a0 4)) 3) then (Go.bits .andNot .i64 (wrap64 (Int.tdiv a0 4)) 3) else 4) = ji2 := hji2
  obtain rfl := Option.some.inj H
  go_enter Try.func42, Try.ntmps42
  go_wp2
  go_ret
  exact ⟨by first | rfl | (simp [errW_none, errW_some] <;> rfl) | (simp only [← hji2]; first | rfl | (simp [errW_none, errW_some] <;> rfl)) | (simp [*, errW_none, errW_some] <;> rfl), by repeat (first | (with_reducible first | exact HB.out | apply below_alloc | apply pw_below_drewN | apply below_drew1) | exact HB.out)⟩

end Go.Proofs.Ytihnifpcpokpjaa.PD
/- alloc.super. -/
namespace Go.Proofs.Ytihnifpcpokpjaa.PD
open Go.RowKit Go.Proofs.YtihnifpcpokpjaaW.PrintWords Go.Proofs.YtihnifpcpokpjaaW.PrintLast Go.Proofs.YtihnifpcpokpjaaW.PrintMore
attribute [local go_sem] max2_int min2_int max_two min_two
set_option linter.unusedVariables false
set_option linter.unusedSimpArgs false
def alloc_super.f (a0 : Int) : Option (ByteArray) := if 0 ≤ a0 ∧ a0 ≤ 4096 then some (superB a0.toNat) else none
theorem and_not3 (q : Nat) (hq : q ≤ 1024) : Go.bits .andNot .i64 (q : Int) 3 = ((q - q % 4 : Nat) : Int) := by
  have : ∀ q : Fin 1025, Go.bits .andNot .i64 (q.val : Int) 3 = ((q.val - q.val % 4 : Nat) : Int) := by decide +kernel
  exact this ⟨q, by omega⟩
theorem inodes_val (n : Nat) (hn : n ≤ 4096) : alloc_inodes.f (n : Int) = some ((cntN n : Nat) : Int) := by
  unfold alloc_inodes.f cntN
  have e1 : wrap64 (Int.tdiv (n : Int) 4) = ((n / 4 : Nat) : Int) := by rw [Int.tdiv_eq_ediv_of_nonneg (by omega), w64 (by omega) (by omega)]; omega
  rw [e1, and_not3 _ (by omega)]
  exact congrArg some (mx_nat 4 _)
theorem zeros_val : alloc_zeros.f = some zeroB := by kernel_rfl
def nums4 (n : Nat) : ByteArray := ⟨#[UInt8.ofNat (n / 256), UInt8.ofNat (n % 256), UInt8.ofNat (cntN n / 256), UInt8.ofNat (cntN n % 256)]⟩
theorem superB_cat (n : Nat) : ((⟨#[65, 70, 83, 49]⟩ : ByteArray) ++ nums4 n) ++ zeroB.extract 8 128 = superB n := by
  have e : ∀ k : Nat, UInt8.ofNat (k % 256) = UInt8.ofNat k := fun k => by apply UInt8.toNat_inj.1; simp
  apply ByteArray.ext
  apply Array.toList_inj.1
  simp only [ByteArray.data_append, ByteArray.data_extract, zeroB, nums4, superB, be2, Array.toList_append, Array.extract_replicate, Array.toList_replicate, e, cntN]
  rfl
set_option maxRecDepth 100000 in
set_option maxHeartbeats 4000000 in
theorem alloc_super.calls (a0 : Int) (r : ByteArray) (w : World) (h : alloc_super.f a0 = some r) :
    Calls Try.prog 44 #[.int .i64 a0] w fun e w' => e = .returned (.string r) ∧ Below w.heap.size w w' := by
  unfold alloc_super.f at h
  split at h
  case isFalse => cases h
  rename_i hh
  obtain ⟨h0, hn⟩ := hh
  obtain rfl := Option.some.inj h
  clear h
  obtain ⟨n, rfl⟩ := Int.eq_ofNat_of_zero_le h0
  have hn' : n ≤ 4096 := by omega
  simp only [Int.toNat_natCast]
  have HIN := Aside0.mk (inodes_val n hn')
  have HZ := Aside0.mk zeros_val
  have HS := Aside0.mk (superB_cat n)
  have hcn : cntN n ≤ 4096 := by unfold cntN; omega
  obtain ⟨m4, hm4⟩ : ∃ m4, nums4 n = m4 := ⟨_, rfl⟩
  have hs4 : m4.size = 4 := by rw [← hm4]; rfl
  rw [hm4] at HS
  have hs8 : ((⟨#[65, 70, 83, 49]⟩ : ByteArray) ++ m4).size = 8 := by rw [ByteArray.size_append, hs4]; rfl
  have hz8 : zeroB.size = 128 := by kernel_rfl
  have hcv : ∀ W : World, (convert 51 9 (.slice (some ⟨W.heap.size, 0, none⟩) 4 4)).run Try.prog (W.alloc (.cells #[.int .u8 ((n : Int) / 256), .int .u8 ((n : Int) % 256), .int .u8 ((cntN n : Int) / 256), .int .u8 ((cntN n : Int) % 256)] 5)) = .ok (.string m4) (W.alloc (.cells #[.int .u8 ((n : Int) / 256), .int .u8 ((n : Int) % 256), .int .u8 ((cntN n : Int) / 256), .int .u8 ((cntN n : Int) % 256)] 5)) := by
    intro W
    have hr : RowOf (W.alloc (.cells #[.int .u8 ((n : Int) / 256), .int .u8 ((n : Int) % 256), .int .u8 ((cntN n : Int) / 256), .int .u8 ((cntN n : Int) % 256)] 5)) W.heap.size m4 := by
      apply RowOf.of_map
      rw [heap_alloc_new, ← hm4]
      have u : ∀ k : Nat, k < 256 → ((UInt8.ofNat k).toNat : Int) = (k : Int) := fun k hk => by rw [UInt8.toNat_ofNat']; omega
      simp only [nums4, List.map_toArray, List.map_cons, List.map_nil]
      rw [u _ (by omega), u _ (by omega), u _ (by omega), u _ (by omega)]
      simp only [Int.natCast_ediv, Int.natCast_emod, Int.cast_ofNat_Int]
    have := hr.string 4
    rwa [hs4] at this
  clear hm4
  have HB := Aside0.mk (Below.refl w.heap.size w)
  go_enter Try.func44, Try.ntmps44
  go_wp2_with (first
    | (go_at_call 42; refine (alloc_inodes.calls (n : Int) _ _ HIN.out).mono ?_; rintro e w2 ⟨rfl, hb⟩; have n_ := Aside0.mk (HB.out.trans (hb.mono HB.out.size)); clear HB; have HB := n_; clear n_ hb)
    | (go_at_call 29; refine (alloc_zeros.calls _ _ HZ.out).mono ?_; rintro e w3 ⟨rfl, hb⟩))
  go_ret
  exact ⟨by rw [← HS.out]; rfl, (HB.out.alloc HB.out.size _).trans (hb.mono (by simp [HB.out.size]; exact Nat.le_succ_of_le HB.out.size))⟩
end Go.Proofs.Ytihnifpcpokpjaa.PD
-- written by a program of this work (mk.sh, over the kit's print; stubs are proved by hand)
namespace Go.Proofs.Ytihnifpcpokpjaa.PD
open Go.RowKit Go.Proofs.YtihnifpcpokpjaaW.PrintWords Go.Proofs.YtihnifpcpokpjaaW.PrintLast Go.Proofs.YtihnifpcpokpjaaW.PrintMore
attribute [local go_sem] isSome_setCell max2_int min2_int max_two min_two max_three min_three max_four min_four   -- for this text's walks alone
set_option linter.unusedVariables false
set_option linter.unusedSimpArgs false

/-! ### alloc_bit: function 40 -/
def alloc_bit.f (a0 : ByteArray) (a1 : Int) : Option (Bool) := if 0 ≤ (wrap64 (Int.tdiv a1 8)) then (if (wrap64 (Int.tdiv a1 8)) < (a0.size : Int) then (if 0 ≤ (Int.tmod a1 8) then (some ((Go.bits .and .u8 (shr .u8 (bt a0 (wrap64 (Int.tdiv a1 8))) (Int.tmod a1 8)) 1) == 1)) else (none)) else (none)) else (none)
set_option maxHeartbeats 8000000 in
set_option maxRecDepth 100000 in
theorem alloc_bit.calls (a0 : ByteArray) (a1 : Int) (r : Bool) (w : World) (h : alloc_bit.f a0 a1 = some r) :
    Calls Try.prog 40 #[.string a0, .int .i64 a1] w fun e w' => e = .returned (.bool r) ∧ Drawn0 w w' := by
  have H : (if 0 ≤ (wrap64 (Int.tdiv a1 8)) then (if (wrap64 (Int.tdiv a1 8)) < (a0.size : Int) then (if 0 ≤ (Int.tmod a1 8) then (some ((Go.bits .and .u8 (shr .u8 (bt a0 (wrap64 (Int.tdiv a1 8))) (Int.tmod a1 8)) 1) == 1)) else (none)) else (none)) else (none)) = some r := h
  clear h
  obtain ⟨ji3, hji3⟩ : ∃ j_ : Int, (wrap64 (Int.tdiv a1 8)) = j_ := ⟨_, rfl⟩
  replace H : (if 0 ≤ (ji3) then (if (ji3) < (a0.size : Int) then (if 0 ≤ (Int.tmod a1 8) then (some ((Go.bits .and .u8 (shr .u8 (bt a0 (ji3)) (Int.tmod a1 8)) 1) == 1)) else (none)) else (none)) else (none)) = some r := by first | (rw [hji3] at H; exact H) | (simp only [hji3] at H ⊢; exact H)
  have hji3w : (IntKind.i64.wrap (Int.tdiv a1 8)) = ji3 := (i64_w _).trans hji3
  by_cases c4 : 0 ≤ (ji3)
  · rw [if_pos c4] at H
    have c4b0 : decide (0 ≤ (ji3)) = true := decide_eq_true c4
    clear c4
    by_cases c5 : (ji3) < (a0.size : Int)
    · rw [if_pos c5] at H
      have c5b0 : decide ((ji3) < (a0.size : Int)) = true := decide_eq_true c5
      clear c5
      obtain ⟨ji7, hji7⟩ : ∃ j_ : Int, (Int.tmod a1 8) = j_ := ⟨_, rfl⟩
      replace H : (if 0 ≤ (ji7) then (some ((Go.bits .and .u8 (shr .u8 (bt a0 (ji3)) (ji7)) 1) == 1)) else (none)) = some r := by first | (rw [hji7] at H; exact H) | (simp only [hji7] at H ⊢; exact H)
      by_cases c8 : 0 ≤ (ji7)
      · rw [if_pos c8] at H
        have c8b0 := eq_true c8
        have c8b1 : decide (0 ≤ (ji7)) = true := decide_eq_true c8
        clear c8
        obtain ⟨ji9, hji9⟩ : ∃ j_ : Int, (shr .u8 (bt a0 (ji3)) (ji7)) = j_ := ⟨_, rfl⟩
        replace H : (some ((Go.bits .and .u8 (ji9) 1) == 1)) = some r := by first | (rw [hji9] at H; exact H) | (simp only [hji9] at H ⊢; exact H)
        have hji9_ : ((bt a0 (ji3)) / 2 ^ min (ji7).toNat 8) = ji9 := hji9
        have hji9z : (ji7) ≤ 8 → ((bt a0 (ji3)) / 2 ^ (ji7).toNat) = ji9 := shr_small hji9
        obtain rfl := Option.some.inj H
        have p6 : 0 ≤ ((ji3) : Int) := of_decide_eq_true (by first | (with_reducible assumption) | assumption)
        have q6 : (ji3) < (a0.size : Int) := of_decide_eq_true (by first | (with_reducible assumption) | assumption)
        have hx6 := bt_at a0 (ji3)
        replace p6 := eq_true p6
        replace q6 := eq_true q6
        go_enter Try.func40, Try.ntmps40
        go_wp2
        go_ret
        exact ⟨by first | rfl | (simp; done) | (simp only [← hji3, ← hji7, ← hji9] <;> (first | rfl | simp)) | (simp [*]; done), by repeat (first | exact Drawn0.refl _ | apply Drawn0.step)⟩
      · rw [if_neg c8] at H
        exact absurd H (by simp)
    · rw [if_neg c5] at H
      exact absurd H (by simp)
  · rw [if_neg c4] at H
    exact absurd H (by simp)

end Go.Proofs.Ytihnifpcpokpjaa.PD
-- written by a program of this work (mk.sh, over the kit's print; stubs are proved by hand)
namespace Go.Proofs.Ytihnifpcpokpjaa.PD
open Go.RowKit Go.Proofs.YtihnifpcpokpjaaW.PrintWords Go.Proofs.YtihnifpcpokpjaaW.PrintLast Go.Proofs.YtihnifpcpokpjaaW.PrintMore
attribute [local go_sem] isSome_setCell max2_int min2_int max_two min_two max_three min_three max_four min_four   -- for this text's walks alone
set_option linter.unusedVariables false
set_option linter.unusedSimpArgs false

/-! ### alloc_Taken: function 15 -/
def alloc_Taken.f (l0 : List ByteArray) (a1 : Int) : Option (Bool) := if a1 ≥ 0 then (if a1 < (l0.length : Int) then (if 1 < (l0.length : Int) then ((alloc_bit.f (rdOf ByteArray.empty l0 1) a1).bind fun t272 => (some t272)) else (none)) else (some false)) else (some false)
set_option maxHeartbeats 8000000 in
set_option maxRecDepth 100000 in
theorem alloc_Taken.calls (A0 : Option Addr) (c0 : Nat) (l0 : List ByteArray) (a1 : Int) (r : Bool) (w : World) (hr0 : Kd.C Kd.string w A0 l0.length l0) (hc0 : l0.length ≤ c0) (h : alloc_Taken.f l0 a1 = some r) :
    Calls Try.prog 15 #[.slice A0 l0.length c0, .int .i64 a1] w fun e w' => e = .returned (.bool r) ∧ Drawn0 w w' := by
  have HR0 := Aside0.mk hr0
  have HC0 := Aside0.mk hc0
  clear hr0 hc0
  have H : (if a1 ≥ 0 then (if a1 < (l0.length : Int) then (if 1 < (l0.length : Int) then ((alloc_bit.f (rdOf ByteArray.empty l0 1) a1).bind fun t272 => (some t272)) else (none)) else (some false)) else (some false)) = some r := h
  clear h
  by_cases c3 : a1 ≥ 0
  · rw [if_pos c3] at H
    have c3b0 : decide (0 ≤ a1) = true := decide_eq_true c3
    clear c3
    by_cases c4 : a1 < (l0.length : Int)
    · rw [if_pos c4] at H
      have c4b0 : decide (a1 < (l0.length : Int)) = true := decide_eq_true c4
      clear c4
      by_cases c5 : 1 < (l0.length : Int)
      · rw [if_pos c5] at H
        have c5b0 : decide (1 < (l0.length : Int)) = true := decide_eq_true c5
        have c5b1 : decide (1 < l0.length) = true := decide_eq_true (by omega)
        clear c5
        replace H := Option.bind_eq_some_iff.mp H
        obtain ⟨t272, A60, H⟩ := H
        replace H : (some t272) = some r := H
        have A6 := Aside0.mk A60
        clear A60
        obtain rfl := Option.some.inj H
        have p271 : 0 ≤ (1 : Int) := (by omega)
        have q271 : 1 < (l0.length : Int) := of_decide_eq_true (by first | (with_reducible assumption) | assumption)
        obtain ⟨ad271, e271, hx271_0⟩ := Kd.at_string HR0.out 1 p271 q271
        cases e271
        (try simp only [show (1 : Int).toNat = 1 from rfl, Nat.reduceMul, Nat.reduceEqDiff, Go.Addr.add, ↓reduceIte] at hx271_0)
        have qi271 : (1 < l0.length) = True := eq_true (by omega)
        (try rw [show ((1 : Int)).toNat = 1 from rfl] at hx271_0)
        replace p271 := eq_true p271
        replace q271 := eq_true q271
        go_enter Try.func15, Try.ntmps15
        go_wp2_with (first | (go_at_call 40; (with_reducible refine (alloc_bit.calls (rdOf ByteArray.empty l0 1) a1 t272 _ A6.out).mono ?_); rintro e w' ⟨rfl, ⟨nd, rfl⟩⟩))
        go_ret
        exact ⟨by first | rfl | (simp; done) | (simp [*]; done), by repeat (first | exact Drawn0.refl _ | apply Drawn0.step)⟩
      · rw [if_neg c5] at H
        exact absurd H (by simp)
    · rw [if_neg c4] at H
      have c4b0 : decide (a1 < (l0.length : Int)) = false := decide_eq_false c4
      clear c4
      obtain rfl := Option.some.inj H
      go_enter Try.func15, Try.ntmps15
      go_wp2
      go_ret
      exact ⟨by first | rfl | (simp; done) | (simp [*]; done), by repeat (first | exact Drawn0.refl _ | apply Drawn0.step)⟩
  · rw [if_neg c3] at H
    have c3b0 : decide (0 ≤ a1) = false := decide_eq_false c3
    clear c3
    obtain rfl := Option.some.inj H
    go_enter Try.func15, Try.ntmps15
    go_wp2
    go_ret
    exact ⟨by first | rfl | (simp; done) | (simp [*]; done), by repeat (first | exact Drawn0.refl _ | apply Drawn0.step)⟩

end Go.Proofs.Ytihnifpcpokpjaa.PD
-- written by a program of this work (mk.sh, over the kit's print; stubs are proved by hand)
namespace Go.Proofs.Ytihnifpcpokpjaa.PD
open Go.RowKit Go.Proofs.YtihnifpcpokpjaaW.PrintWords Go.Proofs.YtihnifpcpokpjaaW.PrintLast Go.Proofs.YtihnifpcpokpjaaW.PrintMore
attribute [local go_sem] isSome_setCell max2_int min2_int max_two min_two max_three min_three max_four min_four   -- for this text's walks alone
set_option linter.unusedVariables false
set_option linter.unusedSimpArgs false

/-! ### alloc_first: function 34 -/
def alloc_first.f (a0 : Int) : Option (Int) := (alloc_inodes.f a0).bind fun t273 => (some (wrap64 (2 + (wrap64 (Int.tdiv (wrap64 (t273 + 3)) 4)))))
set_option maxHeartbeats 8000000 in
set_option maxRecDepth 100000 in
theorem alloc_first.calls (a0 : Int) (r : Int) (w : World) (h : alloc_first.f a0 = some r) :
    Calls Try.prog 34 #[.int .i64 a0] w fun e w' => e = .returned (.int .i64 r) ∧ Below w.heap.size w w' := by
  have HB := Aside0.mk (Below.refl w.heap.size w)
  have H : ((alloc_inodes.f a0).bind fun t273 => (some (wrap64 (2 + (wrap64 (Int.tdiv (wrap64 (t273 + 3)) 4)))))) = some r := h
  clear h
  replace H := Option.bind_eq_some_iff.mp H
  obtain ⟨t273, A20, H⟩ := H
  replace H : (some (wrap64 (2 + (wrap64 (Int.tdiv (wrap64 (t273 + 3)) 4))))) = some r := H
  have A2 := Aside0.mk A20
  clear A20
  obtain rfl := Option.some.inj H
  go_enter Try.func34, Try.ntmps34
  go_wp2_with (first | ((with_reducible refine gate_callee (f := 42) rfl ?_); refine goesL_ (some 4) rfl rfl Try.func42 (by kernel_rfl) rfl #[.int .i64 a0] rfl (by (try simp only [List.map_toArray, List.map_cons, List.map_nil]); first | done | rfl | (simp only [List.length_drop, List.length_take]; rfl)) ?_; (with_reducible refine (alloc_inodes.calls a0 t273 _ A2.out).mono ?_); rintro e w3 ⟨rfl, hb⟩; refine ⟨_, rfl, ?_⟩; have n0_ := Aside0.mk (below_step (by repeat (first | (with_reducible first | exact HB.out | apply below_alloc | apply pw_below_drewN | apply below_drew1) | exact HB.out)) hb); clear HB; have HB := n0_; clear n0_; (try clear hb); (try clear hb2); (try clear hk); (try clear hi)))
  go_ret
  exact ⟨by first | rfl | (simp [errW_none, errW_some] <;> rfl) | (simp [*, errW_none, errW_some] <;> rfl), by repeat (first | (with_reducible first | exact HB.out | apply below_alloc | apply pw_below_drewN | apply below_drew1) | exact HB.out)⟩

end Go.Proofs.Ytihnifpcpokpjaa.PD
/- alloc.open's iterator: the free blocks, one after another. -/
namespace Go.Proofs.Ytihnifpcpokpjaa.PD
open Go.RowKit Go.Shelf Go.Proofs.YtihnifpcpokpjaaW.PrintWords Go.Proofs.YtihnifpcpokpjaaW.PrintLast Go.Proofs.YtihnifpcpokpjaaW.PrintMore
set_option linter.unusedVariables false
set_option linter.unusedSimpArgs false
theorem wide_fn (f : FuncId) : Fence.wide.fn f = True := rfl
theorem wide_depth : Fence.wide.depth = none := rfl
attribute [local go_sem] Oper.semAt_some wide_fn wide_depth
theorem firstN_le {n : Nat} (h1 : 8 ≤ n) : 3 ≤ firstN n ∧ firstN n ≤ n := by
  unfold firstN
  omega
theorem first_val (n : Nat) (hn : n ≤ 4096) : alloc_first.f (n : Int) = some ((firstN n : Nat) : Int) := by
  unfold alloc_first.f
  rw [inodes_val n hn, Option.bind_some]
  have hc : cntN n ≤ 4096 := by unfold cntN; omega
  have e1 : wrap64 (Int.tdiv (wrap64 (((cntN n : Nat) : Int) + 3)) 4) = (((cntN n + 3) / 4 : Nat) : Int) := by rw [w64 (x := ((cntN n : Nat) : Int) + 3) (by omega) (by omega), Int.tdiv_eq_ediv_of_nonneg (by omega), w64 (by omega) (by omega)]; omega
  rw [e1, w64 (by omega) (by omega)]
  show some _ = some _
  congr 1
theorem taken_val (im : List ByteArray) (hf : fitI im) (i : Nat) (hi : i < im.length) : alloc_Taken.f im (i : Int) = some (bitB (mapOf im) i) := by
  obtain ⟨h1, h2, h3⟩ := hf
  unfold alloc_Taken.f
  rw [if_pos (by omega), if_pos (by omega), if_pos (by omega)]
  rw [show rdOf ByteArray.empty im 1 = mapOf im from rfl]
  unfold alloc_bit.f
  have e1 : wrap64 (Int.tdiv (i : Int) 8) = ((i / 8 : Nat) : Int) := by rw [Int.tdiv_eq_ediv_of_nonneg (by omega), w64 (by omega) (by omega)]; omega
  have e2 : Int.tmod (i : Int) 8 = ((i % 8 : Nat) : Int) := by rw [Int.tmod_eq_emod_of_nonneg (by omega)]; omega
  rw [e1, e2, if_pos (by omega), if_pos (by rw [h3]; omega), if_pos (by omega), bt_byteN, bit_and1 _ _ (byteN_lt _ _) (by omega)]
  rfl
/-- The free blocks ahead of i. -/
def upTo (l : List ByteArray) (i : Nat) : List Int := ((List.range' (firstN l.length) (i - firstN l.length)).filter (fun j => !bitB (mapOf l) j)).map Int.ofNat
theorem upTo_succ (l : List ByteArray) (i : Nat) (hi : firstN l.length ≤ i) : upTo l (i + 1) = upTo l i ++ (if bitB (mapOf l) i then [] else [(i : Int)]) := by
  unfold upTo
  rw [show i + 1 - firstN l.length = (i - firstN l.length) + 1 by omega, List.range'_concat, List.filter_append, List.map_append]
  congr 1
  rw [show firstN l.length + 1 * (i - firstN l.length) = i by omega]
  cases hb : bitB (mapOf l) i <;> simp [List.filter, hb]
theorem upTo_prefix (l : List ByteArray) (i : Nat) (hi : firstN l.length ≤ i) (k : Nat) : upTo l i <+: upTo l (i + k) := by
  induction k with
  | zero => exact List.prefix_refl _
  | succ k ih => exact ih.trans (by rw [← Nat.add_assoc, upTo_succ _ _ (by omega)]; exact List.prefix_append _ _)
theorem upTo_all (l : List ByteArray) : upTo l l.length = freeL l := rfl
theorem upTo_first (l : List ByteArray) : upTo l (firstN l.length) = [] := by unfold upTo; rw [Nat.sub_self]; rfl
def valsF {n : Nat} (l : List (Fin n)) : List Int := l.map fun x => ((x.val : Nat) : Int)
def keepB (n₀ Bn : Nat) (A B : World) : Prop := Below n₀ A B ∧ B.cell? ⟨Bn, 0, none⟩ = A.cell? ⟨Bn, 0, none⟩
def intN : Value → Nat | .int _ q => q.toNat | _ => 0
theorem below_grown {W W' : World} (h : Below W.heap.size W W') : W.grownBy W' none := ⟨h.os, h.tape, h.output, h.size, fun k hk _ => h.block k hk⟩
set_option maxRecDepth 100000 in
set_option maxHeartbeats 4000000 in
theorem open_in (n : Nat) (hn : 1 ≤ n) (l Bn : Nat) (w0 : World) (A : Option Addr) (c : Nat) (im : List ByteArray) (J Jx : List (Fin im.length) → World → Prop) (hC : Kd.C Kd.string w0 A im.length im) (hcc : im.length ≤ c) (hfit : fitI im)
    (hY : ∀ pre x W, J pre W → pre.length < (freeL im).length → YieldAt Fence.wide (n - 1) Try.prog l #[.int .i64 ((x.val : Nat) : Int)] W fun e W' =>
      (e = .returned (.bool true) ∧ J (pre ++ [x]) W' ∧ keepB w0.heap.size Bn W W') ∨ (e = .returned (.bool false) ∧ Jx (pre ++ [x]) W'))
    (W : World) (hJ : AbidesFrom W.heap.size J) (hBn : W.cell? ⟨Bn, 0, none⟩ = some (.slice A im.length c)) (hB : Below w0.heap.size w0 W) (h0 : J [] W) :
    CallsIn Fence.wide n Try.prog 48 #[.func (.yield l) #[] #[], .pointer (some ⟨Bn, 0, none⟩)] W fun e W' => (∃ v, e = .returned v) ∧
      ((∃ ys, valsF ys = freeL im ∧ J ys W') ∨ (∃ pre, valsF pre <+: freeL im ∧ Jx pre W')) := by
  refine callsIn_of_wp Try.func48 rfl trivial ?_ rfl
  simp only [Try.ntmps48, List.size_toArray, List.length_cons, List.length_nil, Nat.reduceAdd, Nat.reduceSub, Array.replicate_succ, Array.replicate_zero, List.push_toArray, List.append_toArray, List.nil_append, List.cons_append]
  have HC := Aside0.mk hC
  have HCC := Aside0.mk hcc
  have HFit := Aside0.mk hfit
  obtain ⟨hl1, hl2, hms⟩ := hfit
  clear hC hcc
  have HY := Aside0.mk hY
  clear hY
  have H0 := Aside0.mk h0
  clear h0
  have HB := Aside0.mk hB
  clear hB
  have HJ := Aside0.mk hJ
  clear hJ
  have hgrow : ∀ pre X Y, J pre X → Below X.heap.size X Y → J pre Y := fun pre X Y h hb => HJ.out pre X Y none h (below_grown hb) (fun r e => by cases e)
  have HG := Aside0.mk hgrow
  clear hgrow
  have HF1 := Aside0.mk (first_val im.length (by omega))
  have hfl := firstN_le hl1
  gi_wp2_with (gi_at_call 34; refine (callsIn_wide.2 (alloc_first.calls (im.length : Int) _ _ HF1.out)).mono ?_; rintro e W1 ⟨rfl, hb⟩; have hBn1 := (hb.cell (World.block_lt_of_cell? W _ hBn)).trans hBn; have HJ1 := Aside0.mk (HG.out _ _ _ H0.out hb); have HB1 := Aside0.mk (HB.out.trans (hb.mono HB.out.size)); clear hb)
  gi_loopw [3] (fun p wr => ∃ (i : Nat) (pre : List (Fin im.length)), p = .int .i64 (i : Int) ∧ firstN im.length ≤ i ∧ i ≤ im.length ∧ valsF pre = upTo im i ∧ Aside0 (J pre wr) ∧ wr.cell? ⟨Bn, 0, none⟩ = some (.slice A im.length c) ∧ Aside0 (Below w0.heap.size w0 wr))
    (fun p _ => im.length - intN p)
  case atStart =>
    exact ⟨firstN im.length, [], rfl, Nat.le_refl _, hfl.2, by rw [upTo_first]; rfl, HJ1, hBn1, HB1⟩
  case round =>
    obtain ⟨i, pre, rfl, hi1, hi2, hpre, HJ2, hcB, HB2⟩ := hrel
    have HPre := Aside0.mk hpre
    clear hpre
    by_cases hlt : i < im.length
    · have hlt0 : decide ((i : Int) < (im.length : Int)) = true := decide_eq_true (by omega)
      have HT := Aside0.mk (taken_val im HFit.out i hlt)
      have hsu := upTo_succ im i hi1
      have hpx := upTo_prefix im (i + 1) (by omega) (im.length - (i + 1))
      rw [show i + 1 + (im.length - (i + 1)) = im.length by omega, upTo_all] at hpx
      have HSU := Aside0.mk hsu
      have HPX := Aside0.mk hpx
      clear hsu hpx
      cases hbit : bitB (mapOf im) i with
      | true =>
        rw [hbit] at HT HSU
        gi_wp2_with (gi_at_call 15; refine (callsIn_wide.2 (alloc_Taken.calls _ _ im (i : Int) true _ (Kd.C_below HC.out HB2.out) HCC.out HT.out)).mono ?_; rintro e W3 ⟨rfl, hb⟩; have hb := hb.below; have hcB3 := (hb.cell (World.block_lt_of_cell? _ _ hcB)).trans hcB; have HJ3 := Aside0.mk (HG.out _ _ _ HJ2.out hb); have HB3 := Aside0.mk (HB2.out.trans (hb.mono HB2.out.size)); clear hb)
        have hw : IntKind.i64.wrap ((i : Int) + 1) = ((i + 1 : Nat) : Int) := by rw [IntKind.wrap_i64]; omega
        go_roundw
        case rel => exact ⟨i + 1, pre, by simp, by omega, hlt, by rw [HPre.out, HSU.out]; simp, HJ3, hcB3, HB3⟩
        case measure => show im.length - ((i : Int) + 1).toNat < im.length - (i : Int).toNat; omega
      | false =>
        rw [hbit] at HT HSU
        have hlen : Aside0 (pre.length < (freeL im).length) := ⟨by
          have h1 : pre.length = (upTo im i).length := by rw [← HPre.out]; simp [valsF]
          have h2 := HPX.out.length_le
          rw [HSU.out] at h2
          simp at h2
          omega⟩
        gi_wp2_with (gi_at_call 15; refine (callsIn_wide.2 (alloc_Taken.calls _ _ im (i : Int) false _ (Kd.C_below HC.out HB2.out) HCC.out HT.out)).mono ?_; rintro e W3 ⟨rfl, hb⟩; have hb := hb.below; have hcB3 := (hb.cell (World.block_lt_of_cell? _ _ hcB)).trans hcB; have HJ3 := Aside0.mk (HG.out _ _ _ HJ2.out hb); have HB3 := Aside0.mk (HB2.out.trans (hb.mono HB2.out.size)); clear hb; obtain ⟨fn, tmps, assign, body, hy, hR⟩ := HY.out pre ⟨i, hlt⟩ W3 HJ3.out hlen.out; have HRr := Aside0.mk hR; clear hR)
        refine HRr.out.mono ?_
        rintro e W4 (⟨rfl, hJ4, hk4⟩ | ⟨rfl, hJx4⟩)
        · have hcB4 := hk4.2.trans hcB3
          gi_wp2
          go_roundw
          case rel => exact ⟨i + 1, pre ++ [⟨i, hlt⟩], by simp, by omega, hlt, by rw [HSU.out, ← HPre.out]; simp [valsF], ⟨hJ4⟩, hcB4, ⟨HB3.out.trans hk4.1⟩⟩
          case measure => show im.length - ((i : Int) + 1).toNat < im.length - (i : Int).toNat; omega
        · gi_wp2
          refine bodyPost_ret (results_none rfl _ _ _) rfl ?_
          refine ⟨⟨_, rfl⟩, .inr ⟨pre ++ [⟨i, hlt⟩], ?_, hJx4⟩⟩
          have := HPX.out
          rw [HSU.out, ← HPre.out] at this
          simpa [valsF] using this
    · have hlt0 : decide ((i : Int) < (im.length : Int)) = false := decide_eq_false (by omega)
      gi_wp2
      go_end0
      obtain rfl : i = im.length := by omega
      exact ⟨⟨_, rfl⟩, .inl ⟨pre, by rw [HPre.out, upTo_all], HJ2.out⟩⟩
end Go.Proofs.Ytihnifpcpokpjaa.PD
/- alloc.Free: how many blocks are not taken. -/
namespace Go.Proofs.Ytihnifpcpokpjaa.PD
open Go.RowKit Go.Shelf Go.Proofs.YtihnifpcpokpjaaW.PrintWords Go.Proofs.YtihnifpcpokpjaaW.PrintLast Go.Proofs.YtihnifpcpokpjaaW.PrintMore
set_option linter.unusedVariables false
set_option linter.unusedSimpArgs false
attribute [local go_sem] Oper.semAt_some wide_fn wide_depth
theorem open_stops (n : Nat) (hn : 1 ≤ n) (Bn : Nat) (w0 w : World) (A : Option Addr) (c : Nat) (im : List ByteArray) (hC : Kd.C Kd.string w0 A im.length im) (hcc : im.length ≤ c) (hfit : fitI im) (hlt : Bn < w.heap.size) (hB : Below w0.heap.size w0 w)
    (hc : w.cell? ⟨Bn, 0, none⟩ = some (.slice A im.length c)) :
    SeqStopsK Fence.wide n Try.prog 48 #[.pointer (some ⟨Bn, 0, none⟩)] (fun x : Fin im.length => #[.int .i64 ((x.val : Nat) : Int)]) (keepB w0.heap.size Bn) (fun ys => valsF ys = freeL im) (fun pre => valsF pre <+: freeL im) (freeL im).length w := fun l J Jx W hW hJ _ hY h0 => by
  refine (open_in n hn l Bn w0 A c im J Jx hC hcc hfit hY W hJ ((hW.cell (p := ⟨Bn, 0, none⟩) hlt).trans hc) (hB.trans (hW.mono hB.size)) h0).mono ?_
  rintro e W' ⟨h1, ⟨ys, h2, h3⟩ | ⟨ys, h2, h3⟩⟩
  · exact ⟨h1, .inl ⟨ys, h2, h3⟩⟩
  · exact ⟨h1, .inr ⟨ys, h2, h3⟩⟩
theorem keepB_t {n₀ Bn : Nat} {A B C : World} (h : keepB n₀ Bn A B) (k : keepB n₀ Bn B C) : keepB n₀ Bn A C := ⟨h.1.trans k.1, k.2.trans h.2⟩
theorem keepB_b {n₀ Bn : Nat} {w : World} (hn : n₀ ≤ w.heap.size) (hB : Bn < w.heap.size) (W : World) (l : Nat) (o o' : Obj) (hl : w.heap.size ≤ l) (h : W.heap[l]? = some o) (h1 : o.isCells = false) (h2 : o.isWalk = false) : keepB n₀ Bn W (W.putObj l o') :=
  ⟨belowK_b hn W l o o' hl h h1 h2, World.cell?_of_block (World.putObj_heap_other (by show Bn ≠ l; omega))⟩
theorem open28_in (n : Nat) (A : Option Addr) (m c : Nat) (w : World) :
    CallsIn Fence.wide n Try.prog 28 #[.slice A m c] w fun e w' => e = .returned (.func (.func 48) #[] #[.pointer (some ⟨w.heap.size, 0, none⟩)]) ∧ w' = w.alloc (.cells #[.slice A m c] 22) := by
  refine callsIn_of_wp Try.func28 rfl trivial ?_ rfl
  simp only [Try.ntmps28, List.size_toArray, List.length_cons, List.length_nil, Nat.reduceAdd, Nat.reduceSub, Array.replicate_succ, Array.replicate_zero, List.push_toArray, List.append_toArray, List.nil_append, List.cons_append]
  gi_wp2
  go_ret
  exact ⟨rfl, rfl⟩
set_option maxRecDepth 100000 in
set_option maxHeartbeats 4000000 in
theorem alloc_Free.calls (A0 : Option Addr) (c0 : Nat) (l0 : List ByteArray) (r : Int) (w : World) (hr0 : Kd.C Kd.string w A0 l0.length l0) (hc0 : l0.length ≤ c0) (h : alloc_Free.f l0 = some r) :
    Calls Try.prog 17 #[.slice A0 l0.length c0] w fun e w' => e = .returned (.int .i64 r) ∧ Below w.heap.size w w' := by
  unfold alloc_Free.f at h
  split at h
  case isFalse => cases h
  rename_i hfit
  obtain rfl := Option.some.inj h
  clear h
  have HR0 := Aside0.mk hr0
  have HC0 := Aside0.mk hc0
  have HFit := Aside0.mk hfit
  clear hr0 hc0
  obtain ⟨hl1, hl2, hms⟩ := hfit
  have HLen : Aside0 ((freeL l0).length ≤ 512) := ⟨by
    unfold freeL openFrom
    rw [List.length_map]
    refine Nat.le_trans (List.length_filter_le _ _) ?_
    rw [List.length_range']
    omega⟩
  refine (callsIn_wide (n := 50)).1 ?_
  refine callsIn_of_wp_marks Try.func17 rfl trivial ?_ rfl
  simp only [Try.ntmps17, List.size_toArray, List.length_cons, List.length_nil, Nat.reduceAdd, Nat.reduceSub, Array.replicate_succ, Array.replicate_zero, List.push_toArray, List.append_toArray, List.nil_append, List.cons_append]
  gi_wp2_with (gi_at_call 28; refine (open28_in (50 - 1) _ _ _ _).mono ?_; rintro e w' ⟨rfl, rfl⟩)
  have bN := Boxed.new w 3 (.int .i64 0)
  have hb1 : Below w.heap.size w (w.alloc (.cells #[.int .i64 0] 3)) := (Below.refl _ w).alloc (Nat.le_refl _) _
  have hz1 : (w.alloc (.cells #[.int .i64 0] 3)).heap.size = w.heap.size + 1 := by simp
  obtain ⟨W1, hW1⟩ : ∃ W1, w.alloc (.cells #[.int .i64 0] 3) = W1 := ⟨_, rfl⟩
  rw [hW1] at bN hb1 hz1 ⊢
  clear hW1
  have bI := Boxed.new W1 22 (.slice A0 l0.length c0)
  have bN2 := bN.alloc (.cells #[.slice A0 l0.length c0] 22)
  have hb2 := hb1.alloc hb1.size (.cells #[.slice A0 l0.length c0] 22)
  have hz2 : (W1.alloc (.cells #[.slice A0 l0.length c0] 22)).heap.size = w.heap.size + 2 := by simp [hz1]
  obtain ⟨V, hV⟩ : ∃ V, W1.alloc (.cells #[.slice A0 l0.length c0] 22) = V := ⟨_, rfl⟩
  rw [hV] at bI bN2 hb2 hz2 ⊢
  rw [hz1] at bI
  clear hV hb1 hz1 bN
  refine wpIn_rangeFunc_ownG rfl (by omega) (gf := 48) (lb := #[.pointer (some ⟨w.heap.size + 1, 0, none⟩)]) rfl trivial (enters_of Try.func48 (by kernel_rfl) rfl)
    (open_stops (50 - 1) (by omega) (w.heap.size + 1) w V A0 c0 l0 HR0.out HC0.out HFit.out (by omega) hb2 bI.cell) keepB_t (keepB_b (by omega) (by omega)) (Below.refl _ _) (fun _ => rfl)
    (fun pre W => Boxed W w.heap.size 3 (.int .i64 ((pre.length : Nat) : Int)) ∧ Below w.heap.size w W)
    (fun _ _ _ => False)
    (OwnFrom.and (Own.from (boxed_own w.heap.size 3 (fun pre : List (Fin l0.length) => Value.int .i64 ((pre.length : Nat) : Int))) _) (ownFrom_below (Nat.le_refl _) (by omega)))
    (fun _ _ _ _ _ hs _ _ => hs)
    ⟨bN2, hb2⟩
    (fun x => { tmps := #[.slice A0 l0.length c0, undef, .int .i64 0, .pointer (some ⟨w.heap.size, 0, none⟩), .slice A0 l0.length c0, .func (.func 48) #[] #[.pointer (some ⟨w.heap.size + 1, 0, none⟩)], .int .i64 ((x.val : Nat) : Int), undef, undef, undef], defers := [] }) ?assign ?body ?done ?stop
  case assign =>
    intro l x W K hK
    gi_wp2
    simpa using hK
  case body =>
    rintro l pre x W ⟨hb, hB⟩ hlt
    have hc := hb.cell
    have hf := hb.frozen
    have hlen := HLen.out
    have hw : IntKind.i64.wrap (((pre.length : Nat) : Int) + 1) = ((pre.length + 1 : Nat) : Int) := by rw [IntKind.wrap_i64]; omega
    gi_wp2
    have hbl : Below w.heap.size W (W.setCell ⟨w.heap.size, 0, none⟩ (.int .i64 (((pre.length : Nat) : Int) + 1))) := (Below.refl _ W).setCell (p := ⟨w.heap.size, 0, none⟩) (Nat.le_refl _) _
    refine ⟨KeepsFrom.of_grownBy (grownBy_setCell' W w.heap.size _) (fun j e => by cases e; omega), ⟨hbl, ?_⟩, ?_, hB.trans hbl⟩
    · exact World.cell?_setCell_other W ⟨w.heap.size, 0, none⟩ ⟨w.heap.size + 1, 0, none⟩ _ (by intro e; injection e with e1; omega)
    · have := hb.set (.int .i64 (((pre.length : Nat) : Int) + 1))
      simpa using this
  case done =>
    rintro D ys W hD hys ⟨hb, hB⟩ hK
    have hc := hb.cell
    gi_wp2
    refine ⟨by simp, .inl ⟨_, _, rfl, run_takeDeferred hK, ?_⟩⟩
    refine ⟨_, results_tmp rfl _ _ _, ?_, hB.trans (belowK_b (w := V) (by omega) W D _ _ hD hK rfl rfl)⟩
    have : ys.length = (freeL l0).length := by rw [← hys]; simp [valsF]
    rw [← this]
    rfl
  case stop =>
    rintro D c pre W _ _ h _
    exact h.elim
end Go.Proofs.Ytihnifpcpokpjaa.PD
/- alloc.Take. -/
namespace Go.Proofs.Ytihnifpcpokpjaa.PD
open Go.RowKit Go.Shelf Go.Proofs.YtihnifpcpokpjaaW.PrintWords Go.Proofs.YtihnifpcpokpjaaW.PrintLast Go.Proofs.YtihnifpcpokpjaaW.PrintMore
set_option linter.unusedVariables false
set_option linter.unusedSimpArgs false
attribute [local go_sem] Oper.semAt_some wide_fn wide_depth isSome_setCell
theorem then_good {K : Act → World → Prop} {Q : Exit → Act → World → Prop} {G : Act → World → Prop} {F : Fence} {n : Nat} {P : Program} {c : Code} {a : Act} {w : World} (h : c.wpIn F n P (Exit.then G (fun _ _ _ => False)) a w) (hk : ∀ a w, G a w → K a w) : c.wpIn F n P (Exit.then K Q) a w :=
  wpIn_mono h (by intro e a w h; cases e <;> first | exact hk _ _ h | exact h.elim)
theorem valsF_len {n : Nat} (l : List (Fin n)) : (valsF l).length = l.length := List.length_map _
theorem valsF_snoc {n : Nat} (l : List (Fin n)) (x : Fin n) : valsF (l ++ [x]) = valsF l ++ [((x.val : Nat) : Int)] := by simp [valsF]
theorem zeroed_snoc (l : List ByteArray) (xs : List Int) (i : Nat) : zeroed l (xs ++ [(i : Int)]) = (zeroed l xs).set i zeroB := by unfold zeroed; rw [List.foldl_append]; rfl
theorem zeroed_len (xs : List Int) : ∀ l : List ByteArray, (zeroed l xs).length = l.length := by
  induction xs with
  | nil => intro l; rfl
  | cons x xs ih => intro l; show (zeroed (l.set x.toNat zeroB) xs).length = _; rw [ih, List.length_set]
theorem rowC_own {β : Type} (b g n c : Nat) (f : β → List ByteArray) : Own (fun (s : β) W => Kd.R Kd.string 9 W b (fun k => k = g) (.slice (some ⟨g, 0, none⟩) n c) (f s)) := fun s X Y row hs hg hr =>
  Kd.R_move hs (fun k hk => by
    subst hk
    obtain ⟨cells, hc⟩ := Kd.R_typed hs k rfl
    refine hg.block k (Array.getElem?_eq_some_iff.1 hc).1 (fun e => ?_)
    obtain ⟨o, ho, h0⟩ := hr k e.symm
    rw [hc] at ho; cases ho; cases h0)
theorem rowC_kept {b g n c : Nat} {xs : List ByteArray} {W W' : World} (h : Kd.R Kd.string 9 W b (fun k => k = g) (.slice (some ⟨g, 0, none⟩) n c) xs) (hm : W'.heap[g]? = W.heap[g]?) : Kd.R Kd.string 9 W' b (fun k => k = g) (.slice (some ⟨g, 0, none⟩) n c) xs := Kd.R_move h (fun k hk => by subst hk; exact hm)
theorem rowC_lt {b g n c : Nat} {xs : List ByteArray} {W : World} (h : Kd.R Kd.string 9 W b (fun k => k = g) (.slice (some ⟨g, 0, none⟩) n c) xs) : g < W.heap.size := by obtain ⟨cells, hc⟩ := Kd.R_typed h g rfl; exact (Array.getElem?_eq_some_iff.1 hc).1
theorem map_zeroed (xs : List Int) : ∀ l : List ByteArray, (mapOf l).size = 128 → (mapOf (zeroed l xs)).size = 128 := by
  induction xs with
  | nil => intro l h; exact h
  | cons x xs ih =>
    intro l h
    refine ih (l.set x.toNat zeroB) ?_
    unfold mapOf
    rw [List.getD_eq_getElem?_getD, List.getElem?_set]
    split
    · split
      · rfl
      · rename_i h1 h2; unfold mapOf at h; rw [List.getD_eq_getElem?_getD, List.getElem?_eq_none (by omega)] at h; exact absurd h (by decide)
    · rw [← List.getD_eq_getElem?_getD]; exact h
theorem valsF_lt {n : Nat} (l : List (Fin n)) : ∀ x ∈ valsF l, 0 ≤ x ∧ x < (n : Int) := by
  intro x hx
  obtain ⟨y, _, rfl⟩ := List.mem_map.1 hx
  have := y.isLt
  omega
def TakeI (w : World) (cb S g cap : Nat) (A0 : Option Addr) (c0 : Nat) (l0 : List ByteArray) (a1 : Int) (pre : List (Fin l0.length)) (W : World) : Prop :=
  (((((Aside0 (((pre.length : Nat) : Int) ≤ a1) ∧ Boxed W w.heap.size 3 (.int .i64 a1)) ∧ Boxed W cb 22 (.slice (some ⟨g, 0, none⟩) l0.length cap)) ∧ Boxed W (S + 1) 22 (.slice A0 l0.length c0)) ∧ (∃ v, Boxed W S 23 v ∧ W.ownsRow S 3 1 v (valsF pre).length ((valsF pre).map (Value.int .i64)) ∧ True)) ∧ Kd.R Kd.string 9 W w.heap.size (fun k => k = g) (.slice (some ⟨g, 0, none⟩) l0.length cap) (zeroed l0 (valsF pre))) ∧ Below w.heap.size w W
theorem takeI_own (w : World) (cb S g cap : Nat) (A0 : Option Addr) (c0 : Nat) (l0 : List ByteArray) (a1 : Int) (B : Nat) (hB : w.heap.size ≤ B) : OwnFrom B (TakeI w cb S g cap A0 c0 l0 a1) :=
  OwnFrom.and (OwnFrom.and (OwnFrom.and (OwnFrom.and (OwnFrom.and (OwnFrom.and (ownFrom_pure _ (fun pre : List (Fin l0.length) => Aside0 (((pre.length : Nat) : Int) ≤ a1))) (Own.from (boxed_own _ _ _) _)) (Own.from (boxed_own _ _ _) _)) (Own.from (boxed_own _ _ _) _)) (Own.from (holdsRow_own S S 23 3 1 (fun pre : List (Fin l0.length) => (valsF pre).length) (fun pre => (valsF pre).map (Value.int .i64)) (fun _ _ => True)) _)) (Own.from (rowC_own w.heap.size g l0.length cap (fun pre : List (Fin l0.length) => zeroed l0 (valsF pre))) _)) (ownFrom_below (Nat.le_refl _) hB)
theorem boxed_below {b : Nat} {t : TypeId} {v : Value} {W W' : World} (h : Boxed W b t v) (hb : Below W.heap.size W W') : Boxed W' b t v := (hb.block b h.lt).trans h
set_option maxRecDepth 100000 in
set_option maxHeartbeats 16000000 in
theorem alloc_Take.calls (A0 : Option Addr) (c0 : Nat) (l0 : List ByteArray) (a1 : Int) (r1 : List ByteArray) (r2 : List Int) (r3 : Int) (w : World) (hr0 : Kd.C Kd.string w A0 l0.length l0) (hc0 : l0.length ≤ c0) (h : alloc_Take.f l0 a1 = some (r1, r2, r3)) :
    Calls Try.prog 9 #[.slice A0 l0.length c0, .int .i64 a1] w fun e w' => ∃ v0_ v1_ : Value, e = .returned (.tuple #[v0_, v1_, .int .i64 r3]) ∧ Kd.R Kd.string 9 w' w.heap.size (fun _ => True) v0_ r1 ∧ Kd.R (Kd.int .i64) 3 w' w.heap.size (fun _ => True) v1_ r2 ∧ Below w.heap.size w w' := by
  unfold alloc_Take.f at h
  split at h
  case isFalse => cases h
  rename_i hfit
  have h := Option.some.inj h
  have HR0 := Aside0.mk hr0
  have HC0 := Aside0.mk hc0
  have HFit := Aside0.mk hfit
  clear hr0 hc0
  obtain ⟨hl1, hl2, hms⟩ := hfit
  have HLen : Aside0 ((freeL l0).length ≤ 512) := ⟨by
    unfold freeL openFrom
    rw [List.length_map]
    refine Nat.le_trans (List.length_filter_le _ _) ?_
    rw [List.length_range']
    omega⟩
  have HCl : Aside0 (slices_Clone_string_string.f l0 = some l0) := ⟨by unfold slices_Clone_string_string.f; rw [if_pos (by omega)]⟩
  refine (callsIn_wide (n := 50)).1 ?_
  refine callsIn_of_wp_marks Try.func9 rfl trivial ?_ rfl
  simp only [Try.ntmps9, List.size_toArray, List.length_cons, List.length_nil, Nat.reduceAdd, Nat.reduceSub, Array.replicate_succ, Array.replicate_zero, List.push_toArray, List.append_toArray, List.nil_append, List.cons_append]
  have hb1 : Below w.heap.size w (w.alloc (.cells #[.int .i64 a1] 3)) := (Below.refl _ w).alloc (Nat.le_refl _) _
  have bN := Boxed.new w 3 (.int .i64 a1)
  have hz1 : (w.alloc (.cells #[.int .i64 a1] 3)).heap.size = w.heap.size + 1 := by simp
  gi_wp2_with fail
  refine wpIn_wide.2 (wp_scope_straight ((wpIn_wide (n := 50)).1 ?_))
  obtain ⟨W1, hW1⟩ : ∃ W1, w.alloc (.cells #[.int .i64 a1] 3) = W1 := ⟨_, rfl⟩
  rw [hW1] at bN hb1 hz1 ⊢
  clear hW1
  have HB1 := Aside0.mk hb1
  have HBN := Aside0.mk bN
  clear hb1 bN
  by_cases hneg : a1 < 0
  · have hdn : decide (a1 < 0) = true := decide_eq_true hneg
    rw [if_pos hneg] at h
    simp only [Prod.mk.injEq] at h
    obtain ⟨rfl, rfl, rfl⟩ := h
    gi_wp2_with (gi_at_call 27; refine (callsIn_wide.2 (slices_Clone_string_string.calls _ _ l0 l0 _ (Kd.C_below HR0.out HB1.out) HC0.out HCl.out)).mono ?_; rintro e w2 ⟨v0_, rfl, hR, hb⟩; obtain ⟨g, cap, rfl, hg1, hg2, _⟩ := Kd.R_form hR (by omega); have bN2 := (boxed_below HBN.out hb).alloc (.cells #[.slice (some ⟨g, 0, none⟩) l0.length cap] 22); have cN2 := bN2.cell; have HBN2 := Aside0.mk bN2; have HBC2 := Aside0.mk (Boxed.new w2 22 (.slice (some ⟨g, 0, none⟩) l0.length cap)); have cC2 := HBC2.out.cell; have hz2 := hb.size; have HB2 := Aside0.mk ((HB1.out.trans (hb.mono (by omega))).alloc (by omega) (.cells #[.slice (some ⟨g, 0, none⟩) l0.length cap] 22)); have HR2 := Aside0.mk (Kd.R_alloc hR (.cells #[.slice (some ⟨g, 0, none⟩) l0.length cap] 22)); clear hb hR bN2)
    exact ⟨_, results_tmp3 rfl _ _ _, _, _, rfl, Kd.R_lower HR2.out (by omega), Kd.R_nil _ _ _ _ _, HB2.out⟩
  · have hdn : decide (a1 < 0) = false := decide_eq_false hneg
    rw [if_neg hneg] at h
    have HFree : Aside0 (alloc_Free.f l0 = some ((freeL l0).length : Int)) := ⟨by unfold alloc_Free.f; rw [if_pos HFit.out]⟩
    gi_wp2_with (gi_at_call 27; refine (callsIn_wide.2 (slices_Clone_string_string.calls _ _ l0 l0 _ (Kd.C_below HR0.out HB1.out) HC0.out HCl.out)).mono ?_; rintro e w2 ⟨v0_, rfl, hR, hb⟩; obtain ⟨g, cap, rfl, hg1, hg2, _⟩ := Kd.R_form hR (by omega); have bN2 := (boxed_below HBN.out hb).alloc (.cells #[.slice (some ⟨g, 0, none⟩) l0.length cap] 22); have cN2 := bN2.cell; have HBN2 := Aside0.mk bN2; have HBC2 := Aside0.mk (Boxed.new w2 22 (.slice (some ⟨g, 0, none⟩) l0.length cap)); have cC2 := HBC2.out.cell; have hz2 := hb.size; have HB2 := Aside0.mk ((HB1.out.trans (hb.mono (by omega))).alloc (by omega) (.cells #[.slice (some ⟨g, 0, none⟩) l0.length cap] 22)); have HR2 := Aside0.mk (Kd.R_alloc hR (.cells #[.slice (some ⟨g, 0, none⟩) l0.length cap] 22)); clear hb hR bN2)
    obtain ⟨W3, hW3⟩ : ∃ W3, w2.alloc (.cells #[.slice (some ⟨g, 0, none⟩) l0.length cap] 22) = W3 := ⟨_, rfl⟩
    have hz3 : W3.heap.size = w2.heap.size + 1 := by rw [← hW3]; simp
    rw [hW3] at cN2 HBN2 HBC2 cC2 HB2 HR2 ⊢
    clear hW3
    refine then_good (G := fun a' w' => a' = { tmps := #[.slice A0 l0.length c0, .int .i64 a1, undef, .pointer (some ⟨w.heap.size, 0, none⟩), .slice none 0 0, .slice none 0 0, .int .i64 0, .pointer (some ⟨w2.heap.size, 0, none⟩), undef, undef, .slice A0 l0.length c0, .slice (some ⟨g, 0, none⟩) l0.length cap, .bool false, .int .i64 a1, .bool false, undef, .bool (decide (a1 > ((freeL l0).length : Int))), .int .i64 a1, .slice A0 l0.length c0, .int .i64 ((freeL l0).length : Int), .bool (decide (a1 > ((freeL l0).length : Int))), undef, undef, undef, undef, undef, undef, undef, undef, undef, undef, undef, undef, undef, undef, undef, undef, undef, undef, undef, undef, undef, undef, undef, undef, undef], defers := [] } ∧ w2.heap.size + 1 ≤ w'.heap.size ∧ Boxed w' w.heap.size 3 (.int .i64 a1) ∧ Boxed w' w2.heap.size 22 (.slice (some ⟨g, 0, none⟩) l0.length cap) ∧ Below w.heap.size w w' ∧ Kd.R Kd.string 9 w' w.heap.size (fun _ => True) (.slice (some ⟨g, 0, none⟩) l0.length cap) l0) ?_ ?_
    · refine wpIn_wide.2 ?_
      go_region_with (go_at_call 17; refine (alloc_Free.calls _ _ l0 _ _ (Kd.C_below HR0.out (below_drew HB2.out)) HC0.out HFree.out).mono ?_; rintro e w3 ⟨rfl, hb⟩; have HN3 := Aside0.mk (boxed_below (boxed_below HBN2.out (below_drew (Below.refl _ _))) hb); have HC3 := Aside0.mk (boxed_below (boxed_below HBC2.out (below_drew (Below.refl _ _))) hb); have HB3 := Aside0.mk ((below_drew HB2.out).trans (hb.mono (by simp [HB2.out.size]))); have HR3 := Aside0.mk (Kd.R_below (Kd.R_drew HR2.out) hb); have HZ3 := Aside0.mk hb.size; have cN3 := HN3.out.cell; have cC3 := HC3.out.cell; clear hb)
      all_goals exact ⟨rfl, by have := HZ3.out; simp at this; omega, HN3.out, HC3.out, HB3.out, Kd.R_lower HR3.out (by omega)⟩
    rintro a' w3 ⟨rfl, hz4, HN3, HC3, HB3, HR3⟩
    by_cases hfull : ((freeL l0).length : Int) < a1
    · have hdf : decide (a1 > ((freeL l0).length : Int)) = true := decide_eq_true hfull
      rw [if_pos hfull] at h
      simp only [Prod.mk.injEq] at h
      obtain ⟨rfl, rfl, rfl⟩ := h
      rw [hdf]
      have cC3 := HC3.cell
      gi_wp2
      exact ⟨_, results_tmp3 rfl _ _ _, _, _, rfl, HR3, Kd.R_nil _ _ _ _ _, HB3⟩
    · have hdf : decide (a1 > ((freeL l0).length : Int)) = false := decide_eq_false hfull
      rw [if_neg hfull] at h
      simp only [Prod.mk.injEq] at h
      obtain ⟨rfl, rfl, rfl⟩ := h
      rw [hdf]
      gi_wp2
      refine wpIn_label ?_
      obtain ⟨S, hS⟩ : ∃ S, w3.heap.size = S := ⟨_, rfl⟩
      have bL := Boxed.new w3 23 (.slice none 0 0)
      have bN4 := HN3.alloc (.cells #[.slice none 0 0] 23)
      have bC4 := HC3.alloc (.cells #[.slice none 0 0] 23)
      have hB4 := HB3.alloc HB3.size (.cells #[.slice none 0 0] 23)
      have hR4 := Kd.R_alloc HR3 (.cells #[.slice none 0 0] 23)
      have hz5 : (w3.alloc (.cells #[.slice none 0 0] 23)).heap.size = S + 1 := by simp [hS]
      have hSw : w2.heap.size + 1 ≤ S := by omega
      obtain ⟨W4, hW4⟩ : ∃ W4, w3.alloc (.cells #[.slice none 0 0] 23) = W4 := ⟨_, rfl⟩
      rw [hW4] at bL bN4 bC4 hB4 hR4 hz5 ⊢
      rw [hS] at bL ⊢
      clear hW4 HN3 HC3 HB3 HR3
      have HW4 := Aside0.mk hz5
      gi_wp2_with (gi_at_call 28; refine (open28_in (50 - 1) _ _ _ _).mono ?_; rintro e w' ⟨rfl, rfl⟩)
      have bI := Boxed.new W4 22 (.slice A0 l0.length c0)
      have bL5 := bL.alloc (.cells #[.slice A0 l0.length c0] 22)
      have bN5 := bN4.alloc (.cells #[.slice A0 l0.length c0] 22)
      have bC5 := bC4.alloc (.cells #[.slice A0 l0.length c0] 22)
      have hB5 := hB4.alloc hB4.size (.cells #[.slice A0 l0.length c0] 22)
      have hR5 := Kd.R_alloc hR4 (.cells #[.slice A0 l0.length c0] 22)
      have hz6 : (W4.alloc (.cells #[.slice A0 l0.length c0] 22)).heap.size = S + 2 := by simp [hz5]
      obtain ⟨V, hV⟩ : ∃ V, W4.alloc (.cells #[.slice A0 l0.length c0] 22) = V := ⟨_, rfl⟩
      rw [hV] at bI bL5 bN5 bC5 hB5 hR5 hz6 ⊢
      rw [hz5] at bI
      try rw [hz5]
      clear hV bL bN4 bC4 hB4 hR4
      have hC5 : Kd.R Kd.string 9 V w.heap.size (fun k => k = g) (.slice (some ⟨g, 0, none⟩) l0.length cap) (zeroed l0 []) := Kd.R_reok rfl hR5 (fun k hk => by simpa [Value.ownBlock] using hk.symm)
      have hgS : g < S := by omega
      have hwB : w.heap.size < S := by have := HB1.out.size; omega
      obtain ⟨i0, hi, hz0, hz1', hz2⟩ := info_parts info3
      have HZ := Aside0.mk zeros_val
      refine wpIn_rangeFunc_ownG rfl (by omega) (gf := 48) (lb := #[.pointer (some ⟨S + 1, 0, none⟩)]) rfl trivial (enters_of Try.func48 (by kernel_rfl) rfl)
        (open_stops (50 - 1) (by omega) (S + 1) w V A0 c0 l0 HR0.out HC0.out HFit.out (by omega) hB5 bI.cell) keepB_t (keepB_b (by omega) (by omega)) (Below.refl _ _) (fun _ => rfl)
        (TakeI w w2.heap.size S g cap A0 c0 l0 a1)
        (fun c pre' W => c = .exit 1 ∧ ∃ pre x, pre' = pre ++ [x] ∧ ((pre.length : Nat) : Int) = a1 ∧ TakeI w w2.heap.size S g cap A0 c0 l0 a1 pre W)
        ?own ?ownx ⟨⟨⟨⟨⟨⟨⟨by show ((0 : Nat) : Int) ≤ a1; omega⟩, bN5⟩, bC5⟩, bI⟩, ⟨_, bL5, World.ownsRow_nil _ _ _ _, trivial⟩⟩, hC5⟩, hB5⟩
        (fun x => { tmps := #[.slice A0 l0.length c0, .int .i64 a1, undef, .pointer (some ⟨w.heap.size, 0, none⟩), .slice none 0 0, .slice none 0 0, .int .i64 0, .pointer (some ⟨w2.heap.size, 0, none⟩), .pointer (some ⟨S, 0, none⟩), .int .i64 ((x.val : Nat) : Int), .slice A0 l0.length c0, .slice (some ⟨g, 0, none⟩) l0.length cap, .bool false, .int .i64 a1, .bool false, undef, .bool false, .int .i64 a1, .slice A0 l0.length c0, .int .i64 ((freeL l0).length : Int), .bool false, undef, .slice A0 l0.length c0, .func (.func 48) #[] #[.pointer (some ⟨S + 1, 0, none⟩)], .int .i64 ((x.val : Nat) : Int), undef, undef, undef, undef, undef, undef, undef, undef, undef, undef, undef, undef, undef, undef, undef, undef, undef, undef, undef, undef, undef], defers := [] }) ?assign ?body ?done ?stop
      case own => exact takeI_own _ _ _ _ _ _ _ _ _ _ (by omega)
      case ownx =>
        rintro c s X Y row ⟨h1, pre, x, h2, h3, h4⟩ hg hr
        exact ⟨h1, pre, x, h2, h3, takeI_own _ _ _ _ _ _ _ _ _ V.heap.size (by omega) pre X Y row h4 hg hr⟩
      case assign =>
        intro l x W K hK
        gi_wp2
        simpa using hK
      case body =>
        rintro l pre x W ⟨⟨⟨⟨⟨⟨hle, hN⟩, hC⟩, hI⟩, ⟨v, hL, hrow, -⟩⟩, hcr⟩, hB⟩ hlt
        rw [valsF_len] at hrow
        obtain ⟨A1, c1, rfl⟩ := own_slice hrow
        have cN := hN.cell
        have cC := hC.cell
        have cL := hL.cell
        have hln := HLen.out
        have hvl := Aside0.mk (valsF_len pre)
        have hle' := hle.out
        by_cases heq : ((pre.length : Nat) : Int) = a1
        · have hd : (((pre.length : Nat) : Int) == a1) = true := beq_iff_eq.2 heq
          gi_wp2
          exact ⟨KeepsFrom.refl _ _, rfl, pre, x, rfl, heq, ⟨⟨⟨⟨⟨hle, hN⟩, hC⟩, hI⟩, ⟨_, hL, by rw [valsF_len]; exact hrow, trivial⟩⟩, hcr⟩, hB⟩
        · have hd : (((pre.length : Nat) : Int) == a1) = false := beq_eq_false_iff_ne.2 heq
          have hgl := rowC_lt hcr
          gi_wp2_with (gi_at_builtin; refine wpListIn_append_own _ rfl _ _ 23 rfl S 3 i0 (.int .i64 0) 1 8 Try.underlying23 hi hz0 hz1' hz2 rfl (by decide) _ _ _ rfl (hrow.alloc _) ⟨W.heap.size, 0, none⟩ 1 1 [.int .i64 ((x.val : Nat) : Int)] rfl rfl (cell_one_new _ _ _) (by simp [Value.oneCell']) (by unfold maxLen; omega) (by omega) (by have := hL.lt; simp; omega) ?_; intro v' w1 hown' hgrow _; obtain ⟨g', cap', rfl⟩ := ownsRow_succ hown'; obtain ⟨hv1, hv2, hr2, hk2, hb2⟩ := hL.appended (by decide) hrow (by have := hL.lt; omega) (Nat.le_refl _) hown' hgrow; have hI2 := ((hI.alloc _).kept hgrow (hI.not_row (by decide) hrow)).other (B' := S) (by omega) (.slice (some ⟨g', 0, none⟩) (pre.length + 1) cap'); have hc1 := hv1.cell; have hf1 := hv1.frozen)
          have hk2f := hk2.from V.heap.size
          have hN6 : Boxed _ w.heap.size 3 (.int .i64 a1) := (hb2.block w.heap.size hwB).trans hN
          have hC6 : Boxed _ w2.heap.size 22 (.slice (some ⟨g, 0, none⟩) l0.length cap) := (hb2.block w2.heap.size (by omega)).trans hC
          have hcr6 := rowC_kept hcr (hb2.block g hgS)
          have hB6 := hB.trans (hb2.mono (by omega))
          have hbW := hb2.mono (show w.heap.size ≤ S by omega)
          obtain ⟨W6, hW6⟩ : ∃ W6, w1.setCell ⟨S, 0, none⟩ (.slice (some ⟨g', 0, none⟩) (pre.length + 1) cap') = W6 := ⟨_, rfl⟩
          rw [hW6] at hv2 hr2 hk2f hN6 hC6 hcr6 hB6 hI2 hbW ⊢
          clear hW6 hk2 hb2 hgrow hown' hv1 hc1 hf1 cN cC cL
          have HC6 := Aside0.mk hC6
          have cC6 := hC6.cell
          have HR6 := Aside0.mk hcr6
          have HB6 := Aside0.mk hB6
          have hx := x.isLt
          have hx0 : ((x.val : Nat) : Int) < (l0.length : Int) := by omega
          refine wpIn_mono (Q := Exit.then (fun _ W' => ∃ w7, Below W6.heap.size W6 w7 ∧ W' = w7.setCell ⟨g, x.val, none⟩ (.string zeroB)) (fun _ _ _ => False)) ?_ ?_
          · gi_region_with (gi_at_call 29; refine (CallsIn.inRound l (callsIn_wide.2 (alloc_zeros.calls _ _ HZ.out))).mono ?_; rintro e w7 ⟨rfl, hb⟩; have hb7 := Aside0.mk ((below_drew (Below.refl W6.heap.size W6)).trans (hb.mono (by simp))); have cC7 := (boxed_below HC6.out hb7.out).cell; obtain ⟨hy, hz⟩ := Kd.R_celln (⟨#[]⟩ : ByteArray) (rowC_kept HR6.out (hb7.out.block g (rowC_lt HR6.out))) ((x.val : Nat) : Int) (by omega) hx0; simp only [Int.toNat_natCast] at hy hz; clear hb)
            all_goals exact ⟨_, hb7.out, rfl⟩
          · intro e a' W' hG
            cases e <;> first | exact hG.elim | skip
            obtain ⟨w7, hb7, rfl⟩ := hG
            have hcr7 := rowC_kept HR6.out (hb7.block g (rowC_lt HR6.out))
            obtain ⟨hput, hgr⟩ := Kd.R_putg hcr7 ((x.val : Nat) : Int) zeroB
            simp only [Int.toNat_natCast] at hput hgr
            rw [← zeroed_snoc, ← valsF_snoc] at hput
            have hL7 := boxed_below hv2 hb7
            have hI7 := boxed_below hI2 hb7
            have hrl7 := pw_own_below hr2 hb7
            have hne : ∀ j, some g = some j → w.heap.size ≤ j := fun j e => by cases e; omega
            have hgl7 := hcr7.1
            refine ⟨⟨Nat.le_trans hk2f.size (Nat.le_trans hb7.size hgr.size), fun k o hk ho hoc => ?_⟩, ⟨(hbW.trans (hb7.mono hB6.size)).grown hgr (by have := hb7.size; have := hB6.size; omega) hne, ?_⟩, ?_⟩
            · have h6 := hk2f.same k o hk ho hoc
              have h7 := (hb7.block k (Array.getElem?_eq_some_iff.1 h6).1).trans h6
              exact (hgr.block k (Array.getElem?_eq_some_iff.1 h7).1 (by intro e; cases e; omega)).trans h7
            · exact (hI7.kept hgr (by intro e; cases e; omega)).cell.trans hI.cell.symm
            · refine ⟨⟨⟨⟨⟨⟨⟨?_⟩, (boxed_below hN6 hb7).kept hgr (by intro e; cases e; omega)⟩, (boxed_below HC6.out hb7).kept hgr (by intro e; cases e; omega)⟩, hI7.kept hgr (by intro e; cases e; omega)⟩, ⟨_, hL7.kept hgr (by intro e; cases e; omega), ?_, trivial⟩⟩, hput⟩, (HB6.out.trans (hb7.mono hB6.size)).grown hgr (by have := hb7.size; have := hB6.size; omega) hne⟩
              · have h1 := hle.out
                simp only [List.length_append, List.length_cons, List.length_nil]
                omega
              · have := own_other hrl7 hgr (own_type_ne hrl7 (Kd.own_of_R hcr7) (by decide))
                rw [valsF_snoc, List.length_append, valsF_len, List.map_append]
                exact this
      case done =>
        rintro D pre W hD hys ⟨⟨⟨⟨⟨⟨hle, hN⟩, hC⟩, hI⟩, ⟨v, hL, hrow, -⟩⟩, hcr⟩, hB⟩ hK
        have HX : Aside0 ((freeL l0).take a1.toNat = valsF pre) := ⟨by
          have h1 := hle.out
          have h2 := congrArg List.length hys
          rw [valsF_len] at h2
          rw [← hys, List.take_of_length_le (by rw [valsF_len]; omega)]⟩
        clear hys
        have hc := hC.cell
        have hl := hL.cell
        obtain ⟨A1, c1, rfl⟩ := own_slice hrow
        have hRl : Kd.R (Kd.int .i64) 3 W S (fun _ => True) (.slice A1 (valsF pre).length c1) (valsF pre) := Kd.R_of_own hrow (fun _ _ => trivial)
        obtain ⟨-, hlc, hCl⟩ := Kd.R_reads' hRl
        have HMk : Aside0 (alloc_marked.f (mapOf (zeroed l0 (valsF pre))) (valsF pre) true = some (markB (mapOf (zeroed l0 (valsF pre))) (valsF pre) true)) := ⟨by
          have hz := map_zeroed (valsF pre) l0 hms
          unfold alloc_marked.f
          rw [if_pos ⟨by omega, fun x hx => by have := valsF_lt pre x hx; rw [hz]; omega⟩]⟩
        obtain ⟨hy, hyf⟩ := Kd.R_celln (⟨#[]⟩ : ByteArray) hcr (1 : Int) (by omega) (by omega)
        rw [show ((1 : Int)).toNat = 1 from rfl] at hy hyf
        have hn2 : ((1 : Int) < (l0.length : Int)) = True := eq_true (by omega)
        have hmo : rdOf (⟨#[]⟩ : ByteArray) (zeroed l0 (valsF pre)) 1 = mapOf (zeroed l0 (valsF pre)) := rfl
        rw [hmo] at hy
        have HCW := Aside0.mk hC
        have HLW := Aside0.mk hL
        have HCR := Aside0.mk hcr
        have HCl := Aside0.mk hCl
        have hgW := rowC_lt hcr
        generalize hmm : mapOf (zeroed l0 (valsF pre)) = mm at *
        gi_wp2
        refine then_good (G := fun a' W' => a' = { tmps := #[.slice A0 l0.length c0, .int .i64 a1, undef, .pointer (some ⟨w.heap.size, 0, none⟩), .slice none 0 0, .slice none 0 0, .int .i64 0, .pointer (some ⟨w2.heap.size, 0, none⟩), .pointer (some ⟨S, 0, none⟩), undef, .slice A0 l0.length c0, .slice (some ⟨g, 0, none⟩) l0.length cap, .bool false, .int .i64 a1, .bool false, undef, .bool false, .int .i64 a1, .slice A0 l0.length c0, .int .i64 ((freeL l0).length : Int), .bool false, undef, .slice A0 l0.length c0, .func (.func 48) #[] #[.pointer (some ⟨S + 1, 0, none⟩)], undef, undef, undef, undef, undef, undef, undef, undef, undef, undef, undef, undef, undef, .slice (some ⟨g, 0, none⟩) l0.length cap, .slice (some ⟨g, 0, none⟩) l0.length cap, .pointer (some ⟨g, 1, none⟩), .string mm, .slice A1 (valsF pre).length c1, .string (markB mm (valsF pre) true), .pointer (some ⟨g, 1, none⟩), undef, undef], defers := [{ target := .collected D, args := #[] }] } ∧ ∃ w7, Below W.heap.size W w7 ∧ W' = w7.setCell ⟨g, 1, none⟩ (.string (markB mm (valsF pre) true))) ?_ ?_
        · refine wpIn_wide.2 ?_
          refine start_ (n := 8) (S := fun w' => w'.cell? ⟨w2.heap.size, 0, none⟩ = some (.slice (some ⟨g, 0, none⟩) l0.length cap) ∧ w'.cell? ⟨S, 0, none⟩ = some (.slice A1 (valsF pre).length c1) ∧ w'.cell? ⟨g, 1, none⟩ = some (.string mm)) (ds := [7]) #[false, false, false, false, false, false, false, false] (by kernel_rfl) rfl rfl ⟨HCW.out.cell, HLW.out.cell, hy⟩ (fun hHeld => ?_)
          refine take_ (i := 0) (N := some 37) (v := ?_) (a' := ?_) #[true, false, false, false, false, false, false, false] rfl rfl (by kernel_rfl) (fun _ _ _ h => h) (Or.inl ⟨by rfl, ?_⟩) hHeld ?_ ?_
          rotate_left
          · rintro w' ⟨s0, s1, s2⟩
            go_simp
            with_reducible rfl
          rotate_left
          · simp only [Act.put, List.setIfInBounds_toArray, List.set_cons_zero, List.set_cons_succ, i64_w, i32_w]
            rfl
          refine take_ (i := 1) (N := some 38) (v := ?_) (a' := ?_) #[true, true, false, false, false, false, false, false] rfl rfl (by kernel_rfl) (fun _ _ _ h => h) (Or.inl ⟨by rfl, ?_⟩) hHeld ?_ ?_
          rotate_left
          · rintro w' ⟨s0, s1, s2⟩
            go_simp
            with_reducible rfl
          rotate_left
          · simp only [Act.put, List.setIfInBounds_toArray, List.set_cons_zero, List.set_cons_succ, i64_w, i32_w]
            rfl
          refine pure_ (i := 2) (N := some 39) (v := ?_) (a' := ?_) #[true, true, true, false, false, false, false, false] rfl rfl (by kernel_rfl) (fun _ _ _ h => h) (Or.inl ⟨by rfl, ?_⟩) ?_ ?_
          rotate_left
          · intro w'
            go_simp
            with_reducible rfl
          rotate_left
          · simp only [Act.put, List.setIfInBounds_toArray, List.set_cons_zero, List.set_cons_succ, i64_w, i32_w]
            rfl
          refine take_ (i := 3) (N := some 40) (v := ?_) (a' := ?_) #[true, true, true, true, false, false, false, false] rfl rfl (by kernel_rfl) (fun _ _ _ h => h) (Or.inl ⟨by rfl, ?_⟩) hHeld ?_ ?_
          rotate_left
          · rintro w' ⟨s0, s1, s2⟩
            go_simp
            with_reducible rfl
          rotate_left
          · simp only [Act.put, List.setIfInBounds_toArray, List.set_cons_zero, List.set_cons_succ, i64_w, i32_w]
            rfl
          refine take_ (i := 4) (N := some 41) (v := ?_) (a' := ?_) #[true, true, true, true, true, false, false, false] rfl rfl (by kernel_rfl) (fun _ _ _ h => h) (Or.inl ⟨by rfl, ?_⟩) hHeld ?_ ?_
          rotate_left
          · rintro w' ⟨s0, s1, s2⟩
            go_simp
            with_reducible rfl
          rotate_left
          · simp only [Act.put, List.setIfInBounds_toArray, List.set_cons_zero, List.set_cons_succ, i64_w, i32_w]
            rfl
          refine one_ (i := 5) (N := some 42) #[true, true, true, true, true, true, false, false] rfl rfl (by kernel_rfl) (by decide) (fun K hKK => ?_)
          refine goes_ Try.func30 (by kernel_rfl) rfl #[.string mm, .slice A1 (valsF pre).length c1, .bool true] (by rfl) rfl rfl (by (try simp only [List.map_toArray, List.map_cons, List.map_nil]); first | done | rfl) ?_
          refine (alloc_marked.calls _ _ _ (valsF pre) true _ _ (Kd.C_below HCl.out (below_drew (Below.refl _ _))) hlc HMk.out).mono ?_
          rintro e w7 ⟨rfl, hb⟩
          refine ⟨_, rfl, ?_⟩
          have hb7 := Aside0.mk ((below_drew (Below.refl W.heap.size W)).trans (hb.mono (by simp)))
          clear hb
          have hcr7 := rowC_kept HCR.out (hb7.out.block g hgW)
          obtain ⟨hy7, hz7⟩ := Kd.R_celln (⟨#[]⟩ : ByteArray) hcr7 (1 : Int) (by omega) (by omega)
          rw [show ((1 : Int)).toNat = 1 from rfl, hmo] at hy7
          rw [show ((1 : Int)).toNat = 1 from rfl] at hz7
          refine hKK.out _ _ ⟨(boxed_below HCW.out hb7.out).cell, (boxed_below HLW.out hb7.out).cell, hy7⟩ (fun hHeld => ?_)
          clear hKK K
          refine norm_ (a' := ?_) ?_ ?_
          rotate_left
          · show Act.put _ (some 42) _ = _
            simp only [Act.put, List.setIfInBounds_toArray, List.set_cons_zero, List.set_cons_succ, i64_w, i32_w]
            rfl
          refine pure_ (i := 6) (N := some 43) (v := ?_) (a' := ?_) #[true, true, true, true, true, true, true, false] rfl rfl (by kernel_rfl) (fun _ _ _ h => h) (Or.inl ⟨by rfl, ?_⟩) ?_ ?_
          rotate_left
          · intro w'
            go_simp
            with_reducible rfl
          rotate_left
          · simp only [Act.put, List.setIfInBounds_toArray, List.set_cons_zero, List.set_cons_succ, i64_w, i32_w]
            rfl
          refine last_ (i := 7) (N := none) #[true, true, true, true, true, true, true, true] rfl rfl (by kernel_rfl) (by decide) (fun K hKK => ?_)
          refine skip_ (w1 := ?_) (by rfl) rfl ?_ ?_
          rotate_left
          · go_simp
            rfl
          refine hKK.out _ _ ?_
          clear hKK K
          refine done_ (by kernel_rfl) ?_
          exact ⟨rfl, _, hb7.out, rfl⟩
        rintro a' W' ⟨rfl, w7, hb7, rfl⟩
        have hcr7 := rowC_kept HCR.out (hb7.block g hgW)
        obtain ⟨hput, hgr⟩ := Kd.R_putg hcr7 (1 : Int) (markB mm (valsF pre) true)
        rw [show ((1 : Int)).toNat = 1 from rfl] at hput hgr
        have hL8 := (boxed_below HLW.out hb7).kept hgr (by intro e; cases e; omega)
        have hC8 := (boxed_below HCW.out hb7).kept hgr (by intro e; cases e; omega)
        have hrl8 := own_other (pw_own_below hrow hb7) hgr (own_type_ne (pw_own_below hrow hb7) (Kd.own_of_R hcr7) (by decide))
        have hDl := (Array.getElem?_eq_some_iff.1 hK).1
        have hK8 := (hgr.block D (by have := hb7.size; omega) (by intro e; cases e; omega)).trans ((hb7.block D hDl).trans hK)
        have hB8 : Below w.heap.size w _ := (hB.trans (hb7.mono hB.size)).grown hgr (by have := hb7.size; have := hB.size; omega) (fun j e => by cases e; omega)
        obtain ⟨W8, hW8⟩ : ∃ W8, w7.setCell ⟨g, 1, none⟩ (.string (markB mm (valsF pre) true)) = W8 := ⟨_, rfl⟩
        rw [hW8] at hput hgr hL8 hC8 hrl8 hK8 hB8 ⊢
        clear hW8 hy hyf hc hl
        have hc8 := hC8.cell
        have hl8 := hL8.cell
        gi_wp2
        refine then_good (G := fun a' W' => a' = { tmps := #[.slice A0 l0.length c0, .int .i64 a1, undef, .pointer (some ⟨w.heap.size, 0, none⟩), .slice (some ⟨g, 0, none⟩) l0.length cap, .slice A1 (valsF pre).length c1, .int .i64 0, .pointer (some ⟨w2.heap.size, 0, none⟩), .pointer (some ⟨S, 0, none⟩), undef, .slice A0 l0.length c0, .slice (some ⟨g, 0, none⟩) l0.length cap, .bool false, .int .i64 a1, .bool false, undef, .bool false, .int .i64 a1, .slice A0 l0.length c0, .int .i64 ((freeL l0).length : Int), .bool false, undef, .slice A0 l0.length c0, .func (.func 48) #[] #[.pointer (some ⟨S + 1, 0, none⟩)], undef, undef, undef, undef, undef, undef, undef, undef, undef, undef, undef, undef, undef, .slice (some ⟨g, 0, none⟩) l0.length cap, .slice (some ⟨g, 0, none⟩) l0.length cap, .pointer (some ⟨g, 1, none⟩), .string mm, .slice A1 (valsF pre).length c1, .string (markB mm (valsF pre) true), .pointer (some ⟨g, 1, none⟩), .slice (some ⟨g, 0, none⟩) l0.length cap, .slice A1 (valsF pre).length c1], defers := [{ target := .collected D, args := #[] }] } ∧ W' = W8.drew) ?_ ?_
        · refine wpIn_wide.2 ?_
          refine start_ (n := 5) (S := fun w' => w'.cell? ⟨w2.heap.size, 0, none⟩ = some (.slice (some ⟨g, 0, none⟩) l0.length cap) ∧ w'.cell? ⟨S, 0, none⟩ = some (.slice A1 (valsF pre).length c1)) (ds := []) #[false, false, false, false, false] (by kernel_rfl) rfl rfl ⟨hc8, hl8⟩ (fun hHeld => ?_)
          refine take_ (i := 0) (N := some 44) (v := ?_) (a' := ?_) #[true, false, false, false, false] rfl rfl (by kernel_rfl) (fun _ _ _ h => h) (Or.inl ⟨by rfl, ?_⟩) hHeld ?_ ?_
          rotate_left
          · rintro w' ⟨s0, s1⟩
            go_simp
            with_reducible rfl
          rotate_left
          · simp only [Act.put, List.setIfInBounds_toArray, List.set_cons_zero, List.set_cons_succ, i64_w, i32_w]
            rfl
          refine take_ (i := 1) (N := some 45) (v := ?_) (a' := ?_) #[true, true, false, false, false] rfl rfl (by kernel_rfl) (fun _ _ _ h => h) (Or.inl ⟨by rfl, ?_⟩) hHeld ?_ ?_
          rotate_left
          · rintro w' ⟨s0, s1⟩
            go_simp
            with_reducible rfl
          rotate_left
          · simp only [Act.put, List.setIfInBounds_toArray, List.set_cons_zero, List.set_cons_succ, i64_w, i32_w]
            rfl
          refine pure_ (i := 2) (N := some 4) (v := ?_) (a' := ?_) #[true, true, true, false, false] rfl rfl (by kernel_rfl) (fun _ _ _ h => h) (Or.inl ⟨by rfl, ?_⟩) ?_ ?_
          rotate_left
          · intro w'
            go_simp
            with_reducible rfl
          rotate_left
          · simp only [Act.put, List.setIfInBounds_toArray, List.set_cons_zero, List.set_cons_succ, i64_w, i32_w]
            rfl
          refine pure_ (i := 3) (N := some 5) (v := ?_) (a' := ?_) #[true, true, true, true, false] rfl rfl (by kernel_rfl) (fun _ _ _ h => h) (Or.inl ⟨by rfl, ?_⟩) ?_ ?_
          rotate_left
          · intro w'
            go_simp
            with_reducible rfl
          rotate_left
          · simp only [Act.put, List.setIfInBounds_toArray, List.set_cons_zero, List.set_cons_succ, i64_w, i32_w]
            rfl
          refine pure_ (i := 4) (N := some 6) (v := ?_) (a' := ?_) #[true, true, true, true, true] rfl rfl (by kernel_rfl) (fun _ _ _ h => h) (Or.inl ⟨by rfl, ?_⟩) ?_ ?_
          rotate_left
          · intro w'
            go_simp
            with_reducible rfl
          rotate_left
          · simp only [Act.put, List.setIfInBounds_toArray, List.set_cons_zero, List.set_cons_succ, i64_w, i32_w]
            rfl
          refine done_ (by kernel_rfl) ?_
          exact ⟨rfl, rfl⟩
        rintro a' W' ⟨rfl, rfl⟩
        gi_wp2
        refine ⟨by simp, .inl ⟨_, _, rfl, run_takeDeferred hK8, ?_⟩⟩
        refine ⟨_, results_tmp3 rfl _ _ _, _, _, rfl, ?_, ?_, ?_⟩
        · refine Kd.R_mono (ok := fun k => k = g) ?_ (fun _ _ => trivial)
          rw [HX.out]
          have h5 : takeB l0 (valsF pre) = (zeroed l0 (valsF pre)).set 1 (markB mm (valsF pre) true) := by unfold takeB; rw [hmm]
          rw [h5]
          exact rowC_kept (rowC_kept hput rfl) (World.putObj_heap_other (by have := rowC_lt hput; omega))
        · refine Kd.R_lower (base := S) (Kd.R_of_own ?_ (fun _ _ => trivial)) (by omega)
          rw [HX.out]
          exact ownsRow_putObj (pw_own_below hrl8 (below_drew (Below.refl _ _))) _ (by exact hK8) rfl
        · exact (below_drew hB8).trans (belowK_b (w := V) (by omega) W8.drew D _ _ hD hK8 rfl rfl)
      case stop =>
        rintro D c pre' W hD hpre ⟨rfl, pre, x, rfl, hal, ⟨⟨⟨⟨⟨⟨hle, hN⟩, hC⟩, hI⟩, ⟨v, hL, hrow, -⟩⟩, hcr⟩, hB⟩⟩ hK
        have HX : Aside0 ((freeL l0).take a1.toNat = valsF pre) := ⟨by
          obtain ⟨suf, hs⟩ := hpre
          rw [← hs, valsF_snoc, List.append_assoc, List.take_left' (by rw [valsF_len]; omega)]⟩
        have hc := hC.cell
        have hl := hL.cell
        obtain ⟨A1, c1, rfl⟩ := own_slice hrow
        have hRl : Kd.R (Kd.int .i64) 3 W S (fun _ => True) (.slice A1 (valsF pre).length c1) (valsF pre) := Kd.R_of_own hrow (fun _ _ => trivial)
        obtain ⟨-, hlc, hCl⟩ := Kd.R_reads' hRl
        have HMk : Aside0 (alloc_marked.f (mapOf (zeroed l0 (valsF pre))) (valsF pre) true = some (markB (mapOf (zeroed l0 (valsF pre))) (valsF pre) true)) := ⟨by
          have hz := map_zeroed (valsF pre) l0 hms
          unfold alloc_marked.f
          rw [if_pos ⟨by omega, fun x hx => by have := valsF_lt pre x hx; rw [hz]; omega⟩]⟩
        obtain ⟨hy, hyf⟩ := Kd.R_celln (⟨#[]⟩ : ByteArray) hcr (1 : Int) (by omega) (by omega)
        rw [show ((1 : Int)).toNat = 1 from rfl] at hy hyf
        have hn2 : ((1 : Int) < (l0.length : Int)) = True := eq_true (by omega)
        have hmo : rdOf (⟨#[]⟩ : ByteArray) (zeroed l0 (valsF pre)) 1 = mapOf (zeroed l0 (valsF pre)) := rfl
        rw [hmo] at hy
        have HCW := Aside0.mk hC
        have HLW := Aside0.mk hL
        have HCR := Aside0.mk hcr
        have HCl := Aside0.mk hCl
        have hgW := rowC_lt hcr
        generalize hmm : mapOf (zeroed l0 (valsF pre)) = mm at *
        gi_wp2
        refine then_good (G := fun a' W' => a' = { tmps := #[.slice A0 l0.length c0, .int .i64 a1, undef, .pointer (some ⟨w.heap.size, 0, none⟩), .slice none 0 0, .slice none 0 0, .int .i64 0, .pointer (some ⟨w2.heap.size, 0, none⟩), .pointer (some ⟨S, 0, none⟩), undef, .slice A0 l0.length c0, .slice (some ⟨g, 0, none⟩) l0.length cap, .bool false, .int .i64 a1, .bool false, undef, .bool false, .int .i64 a1, .slice A0 l0.length c0, .int .i64 ((freeL l0).length : Int), .bool false, undef, .slice A0 l0.length c0, .func (.func 48) #[] #[.pointer (some ⟨S + 1, 0, none⟩)], undef, undef, undef, undef, undef, undef, undef, undef, undef, undef, undef, undef, undef, .slice (some ⟨g, 0, none⟩) l0.length cap, .slice (some ⟨g, 0, none⟩) l0.length cap, .pointer (some ⟨g, 1, none⟩), .string mm, .slice A1 (valsF pre).length c1, .string (markB mm (valsF pre) true), .pointer (some ⟨g, 1, none⟩), undef, undef], defers := [{ target := .collected D, args := #[] }] } ∧ ∃ w7, Below W.heap.size W w7 ∧ W' = w7.setCell ⟨g, 1, none⟩ (.string (markB mm (valsF pre) true))) ?_ ?_
        · refine wpIn_wide.2 ?_
          refine start_ (n := 8) (S := fun w' => w'.cell? ⟨w2.heap.size, 0, none⟩ = some (.slice (some ⟨g, 0, none⟩) l0.length cap) ∧ w'.cell? ⟨S, 0, none⟩ = some (.slice A1 (valsF pre).length c1) ∧ w'.cell? ⟨g, 1, none⟩ = some (.string mm)) (ds := [7]) #[false, false, false, false, false, false, false, false] (by kernel_rfl) rfl rfl ⟨HCW.out.cell, HLW.out.cell, hy⟩ (fun hHeld => ?_)
          refine take_ (i := 0) (N := some 37) (v := ?_) (a' := ?_) #[true, false, false, false, false, false, false, false] rfl rfl (by kernel_rfl) (fun _ _ _ h => h) (Or.inl ⟨by rfl, ?_⟩) hHeld ?_ ?_
          rotate_left
          · rintro w' ⟨s0, s1, s2⟩
            go_simp
            with_reducible rfl
          rotate_left
          · simp only [Act.put, List.setIfInBounds_toArray, List.set_cons_zero, List.set_cons_succ, i64_w, i32_w]
            rfl
          refine take_ (i := 1) (N := some 38) (v := ?_) (a' := ?_) #[true, true, false, false, false, false, false, false] rfl rfl (by kernel_rfl) (fun _ _ _ h => h) (Or.inl ⟨by rfl, ?_⟩) hHeld ?_ ?_
          rotate_left
          · rintro w' ⟨s0, s1, s2⟩
            go_simp
            with_reducible rfl
          rotate_left
          · simp only [Act.put, List.setIfInBounds_toArray, List.set_cons_zero, List.set_cons_succ, i64_w, i32_w]
            rfl
          refine pure_ (i := 2) (N := some 39) (v := ?_) (a' := ?_) #[true, true, true, false, false, false, false, false] rfl rfl (by kernel_rfl) (fun _ _ _ h => h) (Or.inl ⟨by rfl, ?_⟩) ?_ ?_
          rotate_left
          · intro w'
            go_simp
            with_reducible rfl
          rotate_left
          · simp only [Act.put, List.setIfInBounds_toArray, List.set_cons_zero, List.set_cons_succ, i64_w, i32_w]
            rfl
          refine take_ (i := 3) (N := some 40) (v := ?_) (a' := ?_) #[true, true, true, true, false, false, false, false] rfl rfl (by kernel_rfl) (fun _ _ _ h => h) (Or.inl ⟨by rfl, ?_⟩) hHeld ?_ ?_
          rotate_left
          · rintro w' ⟨s0, s1, s2⟩
            go_simp
            with_reducible rfl
          rotate_left
          · simp only [Act.put, List.setIfInBounds_toArray, List.set_cons_zero, List.set_cons_succ, i64_w, i32_w]
            rfl
          refine take_ (i := 4) (N := some 41) (v := ?_) (a' := ?_) #[true, true, true, true, true, false, false, false] rfl rfl (by kernel_rfl) (fun _ _ _ h => h) (Or.inl ⟨by rfl, ?_⟩) hHeld ?_ ?_
          rotate_left
          · rintro w' ⟨s0, s1, s2⟩
            go_simp
            with_reducible rfl
          rotate_left
          · simp only [Act.put, List.setIfInBounds_toArray, List.set_cons_zero, List.set_cons_succ, i64_w, i32_w]
            rfl
          refine one_ (i := 5) (N := some 42) #[true, true, true, true, true, true, false, false] rfl rfl (by kernel_rfl) (by decide) (fun K hKK => ?_)
          refine goes_ Try.func30 (by kernel_rfl) rfl #[.string mm, .slice A1 (valsF pre).length c1, .bool true] (by rfl) rfl rfl (by (try simp only [List.map_toArray, List.map_cons, List.map_nil]); first | done | rfl) ?_
          refine (alloc_marked.calls _ _ _ (valsF pre) true _ _ (Kd.C_below HCl.out (below_drew (Below.refl _ _))) hlc HMk.out).mono ?_
          rintro e w7 ⟨rfl, hb⟩
          refine ⟨_, rfl, ?_⟩
          have hb7 := Aside0.mk ((below_drew (Below.refl W.heap.size W)).trans (hb.mono (by simp)))
          clear hb
          have hcr7 := rowC_kept HCR.out (hb7.out.block g hgW)
          obtain ⟨hy7, hz7⟩ := Kd.R_celln (⟨#[]⟩ : ByteArray) hcr7 (1 : Int) (by omega) (by omega)
          rw [show ((1 : Int)).toNat = 1 from rfl, hmo] at hy7
          rw [show ((1 : Int)).toNat = 1 from rfl] at hz7
          refine hKK.out _ _ ⟨(boxed_below HCW.out hb7.out).cell, (boxed_below HLW.out hb7.out).cell, hy7⟩ (fun hHeld => ?_)
          clear hKK K
          refine norm_ (a' := ?_) ?_ ?_
          rotate_left
          · show Act.put _ (some 42) _ = _
            simp only [Act.put, List.setIfInBounds_toArray, List.set_cons_zero, List.set_cons_succ, i64_w, i32_w]
            rfl
          refine pure_ (i := 6) (N := some 43) (v := ?_) (a' := ?_) #[true, true, true, true, true, true, true, false] rfl rfl (by kernel_rfl) (fun _ _ _ h => h) (Or.inl ⟨by rfl, ?_⟩) ?_ ?_
          rotate_left
          · intro w'
            go_simp
            with_reducible rfl
          rotate_left
          · simp only [Act.put, List.setIfInBounds_toArray, List.set_cons_zero, List.set_cons_succ, i64_w, i32_w]
            rfl
          refine last_ (i := 7) (N := none) #[true, true, true, true, true, true, true, true] rfl rfl (by kernel_rfl) (by decide) (fun K hKK => ?_)
          refine skip_ (w1 := ?_) (by rfl) rfl ?_ ?_
          rotate_left
          · go_simp
            rfl
          refine hKK.out _ _ ?_
          clear hKK K
          refine done_ (by kernel_rfl) ?_
          exact ⟨rfl, _, hb7.out, rfl⟩
        rintro a' W' ⟨rfl, w7, hb7, rfl⟩
        have hcr7 := rowC_kept HCR.out (hb7.block g hgW)
        obtain ⟨hput, hgr⟩ := Kd.R_putg hcr7 (1 : Int) (markB mm (valsF pre) true)
        rw [show ((1 : Int)).toNat = 1 from rfl] at hput hgr
        have hL8 := (boxed_below HLW.out hb7).kept hgr (by intro e; cases e; omega)
        have hC8 := (boxed_below HCW.out hb7).kept hgr (by intro e; cases e; omega)
        have hrl8 := own_other (pw_own_below hrow hb7) hgr (own_type_ne (pw_own_below hrow hb7) (Kd.own_of_R hcr7) (by decide))
        have hDl := (Array.getElem?_eq_some_iff.1 hK).1
        have hK8 := (hgr.block D (by have := hb7.size; omega) (by intro e; cases e; omega)).trans ((hb7.block D hDl).trans hK)
        have hB8 : Below w.heap.size w _ := (hB.trans (hb7.mono hB.size)).grown hgr (by have := hb7.size; have := hB.size; omega) (fun j e => by cases e; omega)
        obtain ⟨W8, hW8⟩ : ∃ W8, w7.setCell ⟨g, 1, none⟩ (.string (markB mm (valsF pre) true)) = W8 := ⟨_, rfl⟩
        rw [hW8] at hput hgr hL8 hC8 hrl8 hK8 hB8 ⊢
        clear hW8 hy hyf hc hl
        have hc8 := hC8.cell
        have hl8 := hL8.cell
        gi_wp2
        refine then_good (G := fun a' W' => a' = { tmps := #[.slice A0 l0.length c0, .int .i64 a1, undef, .pointer (some ⟨w.heap.size, 0, none⟩), .slice (some ⟨g, 0, none⟩) l0.length cap, .slice A1 (valsF pre).length c1, .int .i64 0, .pointer (some ⟨w2.heap.size, 0, none⟩), .pointer (some ⟨S, 0, none⟩), undef, .slice A0 l0.length c0, .slice (some ⟨g, 0, none⟩) l0.length cap, .bool false, .int .i64 a1, .bool false, undef, .bool false, .int .i64 a1, .slice A0 l0.length c0, .int .i64 ((freeL l0).length : Int), .bool false, undef, .slice A0 l0.length c0, .func (.func 48) #[] #[.pointer (some ⟨S + 1, 0, none⟩)], undef, undef, undef, undef, undef, undef, undef, undef, undef, undef, undef, undef, undef, .slice (some ⟨g, 0, none⟩) l0.length cap, .slice (some ⟨g, 0, none⟩) l0.length cap, .pointer (some ⟨g, 1, none⟩), .string mm, .slice A1 (valsF pre).length c1, .string (markB mm (valsF pre) true), .pointer (some ⟨g, 1, none⟩), .slice (some ⟨g, 0, none⟩) l0.length cap, .slice A1 (valsF pre).length c1], defers := [{ target := .collected D, args := #[] }] } ∧ W' = W8.drew) ?_ ?_
        · refine wpIn_wide.2 ?_
          refine start_ (n := 5) (S := fun w' => w'.cell? ⟨w2.heap.size, 0, none⟩ = some (.slice (some ⟨g, 0, none⟩) l0.length cap) ∧ w'.cell? ⟨S, 0, none⟩ = some (.slice A1 (valsF pre).length c1)) (ds := []) #[false, false, false, false, false] (by kernel_rfl) rfl rfl ⟨hc8, hl8⟩ (fun hHeld => ?_)
          refine take_ (i := 0) (N := some 44) (v := ?_) (a' := ?_) #[true, false, false, false, false] rfl rfl (by kernel_rfl) (fun _ _ _ h => h) (Or.inl ⟨by rfl, ?_⟩) hHeld ?_ ?_
          rotate_left
          · rintro w' ⟨s0, s1⟩
            go_simp
            with_reducible rfl
          rotate_left
          · simp only [Act.put, List.setIfInBounds_toArray, List.set_cons_zero, List.set_cons_succ, i64_w, i32_w]
            rfl
          refine take_ (i := 1) (N := some 45) (v := ?_) (a' := ?_) #[true, true, false, false, false] rfl rfl (by kernel_rfl) (fun _ _ _ h => h) (Or.inl ⟨by rfl, ?_⟩) hHeld ?_ ?_
          rotate_left
          · rintro w' ⟨s0, s1⟩
            go_simp
            with_reducible rfl
          rotate_left
          · simp only [Act.put, List.setIfInBounds_toArray, List.set_cons_zero, List.set_cons_succ, i64_w, i32_w]
            rfl
          refine pure_ (i := 2) (N := some 4) (v := ?_) (a' := ?_) #[true, true, true, false, false] rfl rfl (by kernel_rfl) (fun _ _ _ h => h) (Or.inl ⟨by rfl, ?_⟩) ?_ ?_
          rotate_left
          · intro w'
            go_simp
            with_reducible rfl
          rotate_left
          · simp only [Act.put, List.setIfInBounds_toArray, List.set_cons_zero, List.set_cons_succ, i64_w, i32_w]
            rfl
          refine pure_ (i := 3) (N := some 5) (v := ?_) (a' := ?_) #[true, true, true, true, false] rfl rfl (by kernel_rfl) (fun _ _ _ h => h) (Or.inl ⟨by rfl, ?_⟩) ?_ ?_
          rotate_left
          · intro w'
            go_simp
            with_reducible rfl
          rotate_left
          · simp only [Act.put, List.setIfInBounds_toArray, List.set_cons_zero, List.set_cons_succ, i64_w, i32_w]
            rfl
          refine pure_ (i := 4) (N := some 6) (v := ?_) (a' := ?_) #[true, true, true, true, true] rfl rfl (by kernel_rfl) (fun _ _ _ h => h) (Or.inl ⟨by rfl, ?_⟩) ?_ ?_
          rotate_left
          · intro w'
            go_simp
            with_reducible rfl
          rotate_left
          · simp only [Act.put, List.setIfInBounds_toArray, List.set_cons_zero, List.set_cons_succ, i64_w, i32_w]
            rfl
          refine done_ (by kernel_rfl) ?_
          exact ⟨rfl, rfl⟩
        rintro a' W' ⟨rfl, rfl⟩
        gi_wp2
        refine ⟨by simp, .inl ⟨_, _, rfl, run_takeDeferred hK8, ?_⟩⟩
        refine ⟨_, results_tmp3 rfl _ _ _, _, _, rfl, ?_, ?_, ?_⟩
        · refine Kd.R_mono (ok := fun k => k = g) ?_ (fun _ _ => trivial)
          rw [HX.out]
          have h5 : takeB l0 (valsF pre) = (zeroed l0 (valsF pre)).set 1 (markB mm (valsF pre) true) := by unfold takeB; rw [hmm]
          rw [h5]
          exact rowC_kept (rowC_kept hput rfl) (World.putObj_heap_other (by have := rowC_lt hput; omega))
        · refine Kd.R_lower (base := S) (Kd.R_of_own ?_ (fun _ _ => trivial)) (by omega)
          rw [HX.out]
          exact ownsRow_putObj (pw_own_below hrl8 (below_drew (Below.refl _ _))) _ (by exact hK8) rfl
        · exact (below_drew hB8).trans (belowK_b (w := V) (by omega) W8.drew D _ _ hD hK8 rfl rfl)
end Go.Proofs.Ytihnifpcpokpjaa.PD
/- Free and Take. -/

/- Laws on calls of function values, and on boxes, over the print's words. -/
namespace Go.Proofs.Ytihnifpcpokpjaa.PD
open Go.RowKit Go.Proofs.YtihnifpcpokpjaaW.PrintWords Go.Proofs.YtihnifpcpokpjaaW.PrintLast Go.Proofs.YtihnifpcpokpjaaW.PrintMore
section
variable {P : Program} {ops : Array Oper} {rest : List Oper} {o : Oper} {a : Act} {Q : Exit → Act → World → Prop} {W : World}
/-- The operation is a call of the function value in this slot. -/
theorem gate_tmp {t : Tmp} {xs : Array Operand} {ts : Array TypeId} (_ho : o.op = .call { callee := .value (.tmp t), args := xs, argTypes := ts }) (h : wpList P ops Q (o :: rest) a W) : wpList P ops Q (o :: rest) a W := h
/-- A call of a function value in a plain region: what it has captured stands behind the arguments. -/
theorem goesF_ {rest : List Oper} {oi : Oper} {a : Act} {w : World} (N : Option Tmp) (hd : oi.dst = N) (hg : oi.guard = none) {f : FuncId} {fn : Func} {xs : Array Operand} {ts : Array TypeId} (hf : P.funcs[f]? = some fn) (hname : (fn.name == "runtime.NumGoroutine") = false) (hb : fn.body.isSome = true) (args : Array Value)
    {c : Operand} {lb : Array Value} (hop : oi.op = .call { callee := .value c, args := xs, argTypes := ts }) (hc : a.eval c = .func (.func f) #[] lb) (hargs : xs.map a.eval ++ lb = args)
    (h : Calls P f args w fun e w' => ∃ v, e = .returned v ∧ wpList P ops Q rest (a.put N v) w') : wpList P ops Q (oi :: rest) a w := by
  refine wpList_plain hg fun K hK => ?_
  have he := enters_ hf hname hb args w
  have hrun : (execOp a.eval oi).run P w = .ok (.enter f args) w := by
    unfold execOp
    simp [hop, resolve, Deferred.ofValue, invoke, hc, hargs, he]
  unfold Oper.wp
  rw [hrun, Oper.upon_enter]
  refine h.mono fun e w'' hh => ?_
  obtain ⟨v, rfl, hk⟩ := hh
  subst hd
  exact hK _ _ hk
end
theorem kept_blk {w W : World} {S : Nat → Prop} {g : Nat} {o : Obj} (hk : Kept w W S) (hs : ¬ S g) (hb : w.heap[g]? = some o) : W.heap[g]? = some o :=
  (hk.2 g (Array.getElem?_eq_some_iff.1 hb).1 hs).trans hb
end Go.Proofs.Ytihnifpcpokpjaa.PD
/- slices.IndexFunc and ContainsFunc, with any closure that answers as a test does. -/
namespace Go.Proofs.Ytihnifpcpokpjaa.PD
open Go.RowKit Go.Proofs.YtihnifpcpokpjaaW.PrintWords Go.Proofs.YtihnifpcpokpjaaW.PrintLast Go.Proofs.YtihnifpcpokpjaaW.PrintMore
attribute [local go_sem] max2_int min2_int max_two min_two
set_option linter.unusedVariables false
set_option linter.unusedSimpArgs false
/-- The first place whose element passes, or -1. -/
def idxP {α : Type} (p : α → Bool) (l : List α) : Int := match l.findIdx? p with | some i => (i : Int) | none => -1
theorem idxP_ge {α : Type} (p : α → Bool) (l : List α) : decide (idxP p l ≥ 0) = l.any p := by
  unfold idxP
  cases h : l.findIdx? p with
  | none => rw [List.findIdx?_eq_none_iff] at h; simp; intro x hx; simpa using h x hx
  | some i => rw [List.findIdx?_eq_some_iff_getElem] at h; obtain ⟨hl, hp, _⟩ := h; simp; exact ⟨_, List.getElem_mem hl, hp⟩
theorem idxP_at {α : Type} (p : α → Bool) (l : List α) (i : Nat) (hi : i < l.length) (h : p l[i] = true) (hno : ∀ j (hj : j < i), p (l[j]'(by omega)) = false) : idxP p l = i := by
  unfold idxP
  rw [List.findIdx?_eq_some_iff_getElem.2 ⟨hi, h, fun j hj => by simp [hno j hj]⟩]
theorem idxP_none {α : Type} (p : α → Bool) (l : List α) (hno : ∀ j (hj : j < l.length), p l[j] = false) : idxP p l = -1 := by
  unfold idxP
  rw [List.findIdx?_eq_none_iff.2 (fun x hx => by obtain ⟨j, hj, rfl⟩ := List.getElem_of_mem hx; exact hno j hj)]
set_option maxRecDepth 100000 in
set_option maxHeartbeats 1600000 in
theorem indexS (fk : Nat) (fn : Func) (hfn : Try.prog.funcs[fk]? = some fn) (hname : (fn.name == "runtime.NumGoroutine") = false) (hbody : fn.body.isSome = true) (lb : Array Value) (p : ByteArray → Bool)
    (A0 : Option Addr) (c0 : Nat) (l0 : List ByteArray) (w : World) (hr0 : Kd.C Kd.string w A0 l0.length l0)
    (hp : ∀ x ∈ l0, ∀ W, Below w.heap.size w W → Calls Try.prog fk (#[.string x] ++ lb) W fun e W' => e = .returned (.bool (p x)) ∧ Below W.heap.size W W') :
    Calls Try.prog 54 #[.slice A0 l0.length c0, .func (.func fk) #[] lb] w fun e w' => e = .returned (.int .i64 (idxP p l0)) ∧ Below w.heap.size w w' := by
  have HR0 := Aside0.mk hr0
  have hml : l0.length ≤ 9223372036854775807 := by have := hr0.2.1; unfold maxLen at this; omega
  clear hr0
  have HP := Aside0.mk hp
  clear hp
  have HB := Aside0.mk (Below.refl w.heap.size w)
  go_enter Try.func54, Try.ntmps54
  go_wp2
  go_loopw [8] (fun v wr => ∃ k : Nat, v = .int .i64 k ∧ k ≤ l0.length ∧ Aside0 (∀ j, (hj : j < l0.length) → j < k → p l0[j] = false) ∧ Aside0 (Below w.heap.size w wr)) (fun v _ => l0.length - (intOf v).toNat)
  case atStart => exact ⟨0, rfl, Nat.zero_le _, ⟨fun j _ hj => absurd hj (Nat.not_lt_zero _)⟩, HB⟩
  case round =>
    obtain ⟨k, rfl, hk, hno, hb⟩ := hrel
    by_cases hlt : k < l0.length
    · have hlt0 : decide ((k : Int) < (l0.length : Int)) = true := decide_eq_true (by omega)
      obtain ⟨ad, e, hx0⟩ := Kd.at_string HR0.out (k : Int) (by omega) (by omega)
      subst e
      replace hx0 := (hb.out.cell (World.block_lt_of_cell? w _ hx0)).trans hx0
      have hget : rdOf ByteArray.empty l0 (k : Int) = l0[k] := by simp [rdOf, hlt]
      have hc := HP.out l0[k] (List.getElem_mem hlt) wr hb.out
      rw [hget] at hx0
      simp only [Int.toNat_natCast] at hx0
      cases hpk : p l0[k] with
      | true =>
        rw [hpk] at hc
        have HC := Aside0.mk hc
        clear hc
        go_wp2_with ((with_reducible refine gate_tmp (t := 11) rfl ?_); refine goesF_ (some 16) rfl rfl hfn hname hbody (args := #[.string l0[k]] ++ lb) rfl rfl (by (try simp only [List.map_toArray, List.map_cons, List.map_nil]); first | done | rfl) ?_; refine HC.out.mono ?_; rintro e W' ⟨rfl, hb'⟩; refine ⟨_, rfl, ?_⟩)
        go_ret
        refine ⟨?_, hb.out.trans (hb'.mono hb.out.size)⟩
        rw [idxP_at p l0 k hlt hpk (fun j hj => hno.out j (by omega) hj)]
        rfl
      | false =>
        rw [hpk] at hc
        have HC := Aside0.mk hc
        clear hc
        go_wp2_with ((with_reducible refine gate_tmp (t := 11) rfl ?_); refine goesF_ (some 16) rfl rfl hfn hname hbody (args := #[.string l0[k]] ++ lb) rfl rfl (by (try simp only [List.map_toArray, List.map_cons, List.map_nil]); first | done | rfl) ?_; refine HC.out.mono ?_; rintro e W' ⟨rfl, hb'⟩; refine ⟨_, rfl, ?_⟩)
        go_roundw
        case rel =>
          refine ⟨k + 1, by simp, hlt, ⟨fun j hj hjk => ?_⟩, ⟨hb.out.trans (hb'.mono hb.out.size)⟩⟩
          rcases Nat.lt_or_ge j k with h | h
          · exact hno.out j hj h
          · obtain rfl : j = k := by omega
            exact hpk
        case measure => show l0.length - (((k : Int) + 1)).toNat < l0.length - ((k : Int)).toNat; omega
    · have hlt0 : decide ((k : Int) < (l0.length : Int)) = false := decide_eq_false (by omega)
      go_wp2
      go_ret
      refine ⟨?_, hb.out⟩
      rw [idxP_none p l0 (fun j hj => hno.out j hj (by omega))]
      rfl
set_option maxRecDepth 100000 in
set_option maxHeartbeats 1600000 in
theorem indexI (fk : Nat) (fn : Func) (hfn : Try.prog.funcs[fk]? = some fn) (hname : (fn.name == "runtime.NumGoroutine") = false) (hbody : fn.body.isSome = true) (lb : Array Value) (p : Int → Bool)
    (A0 : Option Addr) (c0 : Nat) (l0 : List Int) (w : World) (hr0 : Kd.C (Kd.int .i64) w A0 l0.length l0)
    (hp : ∀ x ∈ l0, ∀ W, Below w.heap.size w W → Calls Try.prog fk (#[.int .i64 x] ++ lb) W fun e W' => e = .returned (.bool (p x)) ∧ Below W.heap.size W W') :
    Calls Try.prog 50 #[.slice A0 l0.length c0, .func (.func fk) #[] lb] w fun e w' => e = .returned (.int .i64 (idxP p l0)) ∧ Below w.heap.size w w' := by
  have HR0 := Aside0.mk hr0
  have hml : l0.length ≤ 9223372036854775807 := by have := hr0.2.1; unfold maxLen at this; omega
  clear hr0
  have HP := Aside0.mk hp
  clear hp
  have HB := Aside0.mk (Below.refl w.heap.size w)
  go_enter Try.func50, Try.ntmps50
  go_wp2
  go_loopw [8] (fun v wr => ∃ k : Nat, v = .int .i64 k ∧ k ≤ l0.length ∧ Aside0 (∀ j, (hj : j < l0.length) → j < k → p l0[j] = false) ∧ Aside0 (Below w.heap.size w wr)) (fun v _ => l0.length - (intOf v).toNat)
  case atStart => exact ⟨0, rfl, Nat.zero_le _, ⟨fun j _ hj => absurd hj (Nat.not_lt_zero _)⟩, HB⟩
  case round =>
    obtain ⟨k, rfl, hk, hno, hb⟩ := hrel
    by_cases hlt : k < l0.length
    · have hlt0 : decide ((k : Int) < (l0.length : Int)) = true := decide_eq_true (by omega)
      obtain ⟨ad, e, hx0⟩ := Kd.at_int HR0.out (k : Int) (by omega) (by omega)
      subst e
      replace hx0 := (hb.out.cell (World.block_lt_of_cell? w _ hx0)).trans hx0
      have hget : rd l0 (k : Int) = l0[k] := by simp [rd, hlt]
      have hc := HP.out l0[k] (List.getElem_mem hlt) wr hb.out
      rw [hget] at hx0
      simp only [Int.toNat_natCast] at hx0
      cases hpk : p l0[k] with
      | true =>
        rw [hpk] at hc
        have HC := Aside0.mk hc
        clear hc
        go_wp2_with ((with_reducible refine gate_tmp (t := 11) rfl ?_); refine goesF_ (some 16) rfl rfl hfn hname hbody (args := #[.int .i64 l0[k]] ++ lb) rfl rfl (by (try simp only [List.map_toArray, List.map_cons, List.map_nil]); first | done | rfl) ?_; refine HC.out.mono ?_; rintro e W' ⟨rfl, hb'⟩; refine ⟨_, rfl, ?_⟩)
        go_ret
        refine ⟨?_, hb.out.trans (hb'.mono hb.out.size)⟩
        rw [idxP_at p l0 k hlt hpk (fun j hj => hno.out j (by omega) hj)]
        rfl
      | false =>
        rw [hpk] at hc
        have HC := Aside0.mk hc
        clear hc
        go_wp2_with ((with_reducible refine gate_tmp (t := 11) rfl ?_); refine goesF_ (some 16) rfl rfl hfn hname hbody (args := #[.int .i64 l0[k]] ++ lb) rfl rfl (by (try simp only [List.map_toArray, List.map_cons, List.map_nil]); first | done | rfl) ?_; refine HC.out.mono ?_; rintro e W' ⟨rfl, hb'⟩; refine ⟨_, rfl, ?_⟩)
        go_roundw
        case rel =>
          refine ⟨k + 1, by simp, hlt, ⟨fun j hj hjk => ?_⟩, ⟨hb.out.trans (hb'.mono hb.out.size)⟩⟩
          rcases Nat.lt_or_ge j k with h | h
          · exact hno.out j hj h
          · obtain rfl : j = k := by omega
            exact hpk
        case measure => show l0.length - (((k : Int) + 1)).toNat < l0.length - ((k : Int)).toNat; omega
    · have hlt0 : decide ((k : Int) < (l0.length : Int)) = false := decide_eq_false (by omega)
      go_wp2
      go_ret
      refine ⟨?_, hb.out⟩
      rw [idxP_none p l0 (fun j hj => hno.out j hj (by omega))]
      rfl
set_option maxHeartbeats 800000 in
theorem containsS (fk : Nat) (fn : Func) (hfn : Try.prog.funcs[fk]? = some fn) (hname : (fn.name == "runtime.NumGoroutine") = false) (hbody : fn.body.isSome = true) (lb : Array Value) (p : ByteArray → Bool)
    (A0 : Option Addr) (c0 : Nat) (l0 : List ByteArray) (w : World) (hr0 : Kd.C Kd.string w A0 l0.length l0)
    (hp : ∀ x ∈ l0, ∀ W, Below w.heap.size w W → Calls Try.prog fk (#[.string x] ++ lb) W fun e W' => e = .returned (.bool (p x)) ∧ Below W.heap.size W W') :
    Calls Try.prog 46 #[.slice A0 l0.length c0, .func (.func fk) #[] lb] w fun e w' => e = .returned (.bool (l0.any p)) ∧ Below w.heap.size w w' := by
  have HC := Aside0.mk (indexS fk fn hfn hname hbody lb p A0 c0 l0 w hr0 hp)
  clear hp hr0
  have hge := idxP_ge p l0
  go_enter Try.func46, Try.ntmps46
  go_wp2_with (go_at_call 54; refine HC.out.mono ?_; rintro e w' ⟨rfl, hb⟩)
  go_ret
  exact ⟨by rw [← hge]; rfl, hb⟩
set_option maxHeartbeats 800000 in
theorem containsI (fk : Nat) (fn : Func) (hfn : Try.prog.funcs[fk]? = some fn) (hname : (fn.name == "runtime.NumGoroutine") = false) (hbody : fn.body.isSome = true) (lb : Array Value) (p : Int → Bool)
    (A0 : Option Addr) (c0 : Nat) (l0 : List Int) (w : World) (hr0 : Kd.C (Kd.int .i64) w A0 l0.length l0)
    (hp : ∀ x ∈ l0, ∀ W, Below w.heap.size w W → Calls Try.prog fk (#[.int .i64 x] ++ lb) W fun e W' => e = .returned (.bool (p x)) ∧ Below W.heap.size W W') :
    Calls Try.prog 32 #[.slice A0 l0.length c0, .func (.func fk) #[] lb] w fun e w' => e = .returned (.bool (l0.any p)) ∧ Below w.heap.size w w' := by
  have HC := Aside0.mk (indexI fk fn hfn hname hbody lb p A0 c0 l0 w hr0 hp)
  clear hp hr0
  have hge := idxP_ge p l0
  go_enter Try.func32, Try.ntmps32
  go_wp2_with (go_at_call 50; refine HC.out.mono ?_; rintro e w' ⟨rfl, hb⟩)
  go_ret
  exact ⟨by rw [← hge]; rfl, hb⟩
theorem fit1_calls (x : ByteArray) (w : World) : Calls Try.prog 47 #[.string x] w fun e w' => e = .returned (.bool (decide (x.size ≠ 128))) ∧ Below w.heap.size w w' := by
  have hde : decide ((x.size : Int) ≠ 128) = decide (x.size ≠ 128) := by congr 1; rw [eq_iff_iff]; omega
  go_enter Try.func47, Try.ntmps47
  go_wp2
  go_ret
  refine ⟨?_, Below.refl _ _⟩
  rw [← hde]
  refine congrArg Ending.returned ?_
  show Value.bool ((x.size : Int) != 128) = _
  congr 1
  rw [Bool.eq_iff_iff]
  simp
theorem slices_ContainsFunc_string_string.calls (A0 : Option Addr) (c0 : Nat) (l0 : List ByteArray) (r : Bool) (w : World) (hr0 : Kd.C Kd.string w A0 l0.length l0) (hc0 : l0.length ≤ c0) (h : slices_ContainsFunc_string_string.f l0 = some r) :
    Calls Try.prog 46 #[.slice A0 l0.length c0, .func (.func 47) #[] #[]] w fun e w' => e = .returned (.bool r) ∧ Below w.heap.size w w' := by
  obtain rfl := Option.some.inj h
  exact containsS 47 _ Try.func47 (by kernel_rfl) rfl #[] _ A0 c0 l0 w hr0 (fun x _ W _ => fit1_calls x W)
end Go.Proofs.Ytihnifpcpokpjaa.PD
/- What Give's calls of the library do: a copy of a list of numbers, sorted, and how many differ in it. -/
namespace Go.Proofs.Ytihnifpcpokpjaa.PD
open Go.RowKit Go.Shelf Go.Proofs.YtihnifpcpokpjaaW.PrintWords Go.Proofs.YtihnifpcpokpjaaW.PrintLast Go.Proofs.YtihnifpcpokpjaaW.PrintMore
set_option linter.unusedVariables false
set_option linter.unusedSimpArgs false
theorem cloneI (A1 : Option Addr) (c1 : Nat) (l1 : List Int) (w : World) (hr1 : Kd.C (Kd.int .i64) w A1 l1.length l1) (hbig : l1.length * 8 ≤ 140737488355328) :
    Calls Try.prog 35 #[.slice A1 l1.length c1] w fun e w' => ∃ v' : Value, e = .returned v' ∧ Kd.R (Kd.int .i64) 3 w' w.heap.size (fun _ => True) v' l1 ∧ Below w.heap.size w w' := by
  rcases Nat.eq_zero_or_pos l1.length with h0 | h0
  · have hl := List.eq_nil_of_length_eq_zero h0
    subst hl
    cases A1 with
    | none =>
      refine (Try.slices_Clone_int_nil 0 c1 w).mono ?_
      rintro e w' ⟨rfl, rfl⟩
      exact ⟨_, rfl, Kd.R_nil _ _ _ _ _, Below.refl _ _⟩
    | some ad =>
      refine (Try.slices_Clone_int_zero ad c1 w).mono ?_
      rintro e w' ⟨v', rfl, ho, -, hb⟩
      exact ⟨_, rfl, Kd.R_of_own ho (fun _ _ => trivial), hb⟩
  · obtain ⟨⟨b, off, sp⟩, rfl, hx⟩ := Kd.at_int hr1 0 (by omega) (by omega)
    have hsp : sp = none := by
      cases sp with
      | none => rfl
      | some q => simp [World.cell?, Addr.add] at hx; split at hx <;> simp_all
    subst hsp
    refine (Try.slices_Clone_int b off l1.length c1 l1 w (Nat.le_refl _) hbig (fun j hj => ?_)).mono ?_
    · obtain ⟨ad, he, hc⟩ := Kd.at_int hr1 (j : Int) (by omega) (by omega)
      cases he
      simp only [Int.toNat_natCast] at hc
      rw [show (⟨b, off + j, none⟩ : Addr) = (⟨b, off, none⟩ : Addr).add j from by simp only [Addr.add]; split <;> simp_all, hc]
      simp [rd, List.getD_eq_getElem?_getD]
    · rintro e w' ⟨v', rfl, ho, -, hb⟩
      refine ⟨_, rfl, Kd.R_of_own ?_ (fun _ _ => trivial), hb⟩
      rw [List.take_of_length_le (Nat.le_refl _)] at ho
      exact ho
def sortedI (l : List Int) : List Int := l.mergeSort fun x y => decide (x ≤ y)
/-- The sort, and what Compact hands back behind it. -/
theorem sortC (B : Nat) (v : Value) (l1 : List Int) (w : World) (hr : Kd.R (Kd.int .i64) 3 w B (fun _ => True) v l1) (hB : B ≤ w.heap.size) (hbig : l1.length < 4611686018427387904) :
    Calls Try.prog 36 #[v] w fun e w' => e = .returned (.tuple #[]) ∧ Below B w w' ∧
      Calls Try.prog 37 #[v] w' fun e w2 => (∃ A c, e = .returned (.slice A (Lib.compact (sortedI l1)).length c)) ∧ Below B w' w2 := by
  rcases Nat.eq_zero_or_pos l1.length with h0 | h0
  · have hl := List.eq_nil_of_length_eq_zero h0
    subst hl
    obtain ⟨A, c, rfl⟩ := Kd.R_slice hr
    refine (Try.slices_Sort_int_none A c w).mono ?_
    rintro e w' ⟨rfl, rfl⟩
    refine ⟨rfl, Below.refl _ _, (Try.slices_Compact_int_empty A c w').mono ?_⟩
    rintro e w2 ⟨rfl, rfl⟩
    exact ⟨⟨A, c, by simp [sortedI, Lib.compact, Lib.compactUpTo]⟩, Below.refl _ _⟩
  · obtain ⟨g, cap, rfl, hg1, hg2, -⟩ := Kd.R_form hr h0
    have ho := Kd.own_of_R hr
    rcases ho.2 with ⟨hv, -⟩ | ⟨g', cap', cur, hv, hg, hcell, h1, h2, h3, h4⟩
    · cases hv
    · cases hv
      rw [Nat.mul_one] at h4
      have hH := holds_of_blockI hcell h4
      refine (Try.slices_Sort_int g 0 cap l1 w hH hg2 hbig).mono ?_
      rintro e w' ⟨rfl, n, os, rfl⟩
      have hl : (sortedI l1).length = l1.length := List.length_mergeSort _
      have hg3 := grownBy_sortedI (w := w) (g := g) (n := n) (os := os) (sortedI l1).toArray
      have hb1 : Below B w _ := (Below.refl B w).grown hg3 hB (fun k e => by cases e; exact hg1)
      refine ⟨rfl, hb1, ?_⟩
      have hH2 := holds_of_blockI (ss := sortedI l1) (heap_sortedI (n := n) (os := os) (sortedI l1).toArray hcell) (take_putCellsI cur (sortedI l1) (by omega))
      have hcm := Try.slices_Compact_int g 0 cap (sortedI l1) _ hH2 (by omega) (by omega)
      rw [hl] at hcm
      refine hcm.mono ?_
      rintro e w2 ⟨rfl, q, rfl⟩
      refine ⟨⟨_, _, rfl⟩, ?_⟩
      have hg4 := grownBy_sortedI (w := (Go.Sort.grow (Go.Sort.putRow (Value.int .i64) (Go.Sort.ahead w n) g 0 (sortedI l1).toArray) os)) (g := g) (n := q) (os := #[]) (Lib.compact (sortedI l1) ++ List.replicate (l1.length - (Lib.compact (sortedI l1)).length) 0).toArray
      rw [Go.Sort.grow_empty] at hg4
      exact (Below.refl B _).grown hg4 (Nat.le_trans hB hb1.size) (fun k e => by cases e; exact hg1)
end Go.Proofs.Ytihnifpcpokpjaa.PD
/- alloc.Give. -/
namespace Go.Proofs.Ytihnifpcpokpjaa.PD
open Go.RowKit Go.Shelf Go.Proofs.YtihnifpcpokpjaaW.PrintWords Go.Proofs.YtihnifpcpokpjaaW.PrintLast Go.Proofs.YtihnifpcpokpjaaW.PrintMore
attribute [local go_sem] max2_int min2_int max_two min_two
set_option linter.unusedVariables false
set_option linter.unusedSimpArgs false
theorem give1_calls (B : Nat) (A0 : Option Addr) (c0 : Nat) (l0 : List ByteArray) (hl : l0.length ≤ 4096) (x : Int) (w : World) (hB : Boxed w B 22 (.slice A0 l0.length c0)) :
    Calls Try.prog 33 #[.int .i64 x, .pointer (some ⟨B, 0, none⟩)] w fun e w' => e = .returned (.bool (outside l0 x)) ∧ Below w.heap.size w w' := by
  have HF := Aside0.mk (first_val l0.length hl)
  have HB := Aside0.mk hB
  have hc := hB.cell
  clear hB
  by_cases h1 : x < (firstN l0.length : Int)
  · have hd : decide (x < (firstN l0.length : Int)) = true := decide_eq_true h1
    have ho : outside l0 x = true := by unfold outside; simp [h1]
    rw [ho]
    clear ho
    go_enter Try.func33, Try.ntmps33
    go_wp2_with (go_at_call 34; refine (alloc_first.calls (l0.length : Int) _ _ HF.out).mono ?_; rintro e w' ⟨rfl, hb⟩; have hc2 := (boxed_below HB.out hb).cell)
    go_ret
    exact ⟨rfl, hb⟩
  · have hd : decide (x < (firstN l0.length : Int)) = false := decide_eq_false h1
    have ho : outside l0 x = decide (x ≥ (l0.length : Int)) := by unfold outside; simp [h1]
    rw [ho]
    clear ho
    go_enter Try.func33, Try.ntmps33
    go_wp2_with (go_at_call 34; refine (alloc_first.calls (l0.length : Int) _ _ HF.out).mono ?_; rintro e w' ⟨rfl, hb⟩; have hc2 := (boxed_below HB.out hb).cell)
    go_ret
    exact ⟨rfl, hb⟩
theorem give2_calls (B : Nat) (w0 : World) (A0 : Option Addr) (c0 : Nat) (l0 : List ByteArray) (hr0 : Kd.C Kd.string w0 A0 l0.length l0) (hc0 : l0.length ≤ c0) (hfit : fitI l0) (x : Int) (h0 : 0 ≤ x) (h1 : x < (l0.length : Int)) (w : World) (hb0 : Below w0.heap.size w0 w) (hB : Boxed w B 22 (.slice A0 l0.length c0)) :
    Calls Try.prog 38 #[.int .i64 x, .pointer (some ⟨B, 0, none⟩)] w fun e w' => e = .returned (.bool (!bitB (mapOf l0) x.toNat)) ∧ Below w.heap.size w w' := by
  obtain ⟨i, rfl⟩ := Int.eq_ofNat_of_zero_le h0
  have HT := Aside0.mk (taken_val l0 hfit i (by omega))
  have HR := Aside0.mk (Kd.C_below hr0 hb0)
  have HC := Aside0.mk hc0
  have hc := hB.cell
  clear hB hr0 hc0
  simp only [Int.toNat_natCast]
  generalize bitB (mapOf l0) i = bb at *
  go_enter Try.func38, Try.ntmps38
  go_wp2_with (go_at_call 15; refine (alloc_Taken.calls _ _ l0 (i : Int) bb _ HR.out HC.out HT.out).mono ?_; rintro e w' ⟨rfl, hb⟩)
  go_ret
  exact ⟨rfl, hb.below⟩
theorem outside_not {l : List ByteArray} {x : Int} (h : outside l x = false) (h8 : 8 ≤ l.length) : 3 ≤ x ∧ x < (l.length : Int) := by
  unfold outside at h
  simp only [Bool.or_eq_false_iff, decide_eq_false_iff_not] at h
  have := firstN_le h8
  omega
theorem adjacent (s : List Int) (hp : s.Pairwise (fun a b => a ≤ b)) : (∃ j, j < s.length ∧ Lib.keeps s.toArray j = false) ↔ ¬ s.Nodup := by
  rw [List.pairwise_iff_getElem] at hp
  constructor
  · rintro ⟨j, hj, hk⟩ hnd
    unfold Lib.keeps at hk
    simp only [decide_eq_false_iff_not, not_or, Classical.not_not, List.getElem!_toArray] at hk
    obtain ⟨h0, he⟩ := hk
    rw [List.getElem!_eq_getElem?_getD, List.getElem!_eq_getElem?_getD, List.getElem?_eq_getElem hj, List.getElem?_eq_getElem (show j - 1 < s.length by omega), Option.getD_some, Option.getD_some] at he
    have := List.pairwise_iff_getElem.1 hnd (j - 1) j (by omega) hj (by omega)
    exact this he.symm
  · intro hnd
    apply Classical.byContradiction
    intro hno
    apply hnd
    unfold List.Nodup
    rw [List.pairwise_iff_getElem]
    intro i j hi hj hij he
    apply hno
    refine ⟨j, hj, ?_⟩
    unfold Lib.keeps
    simp only [decide_eq_false_iff_not, not_or, Classical.not_not, List.getElem!_toArray]
    refine ⟨by omega, ?_⟩
    rw [List.getElem!_eq_getElem?_getD, List.getElem!_eq_getElem?_getD, List.getElem?_eq_getElem hj, List.getElem?_eq_getElem (show j - 1 < s.length by omega), Option.getD_some, Option.getD_some]
    have h2 := hp (j - 1) j (by omega) hj (by omega)
    rcases Nat.lt_or_ge i (j - 1) with h | h
    · have h1 := hp i (j - 1) (by omega) (by omega) h
      omega
    · have e : i = j - 1 := by omega
      subst e
      exact he.symm
theorem compact_lt (l : List Int) : (Lib.compact (sortedI l)).length < l.length ↔ ¬ l.Nodup := by
  have hl : (sortedI l).length = l.length := List.length_mergeSort _
  have hn : l.Nodup ↔ (sortedI l).Nodup := (List.mergeSort_perm l _).nodup_iff.symm
  have hp : (sortedI l).Pairwise (fun a b => decide (a ≤ b) = true) := List.pairwise_mergeSort (fun a b c h1 h2 => by simp only [decide_eq_true_eq] at *; omega) (fun a b => by simp only [Bool.or_eq_true, decide_eq_true_eq]; omega) l
  rw [hn, ← adjacent _ (hp.imp fun h => by simpa using h)]
  unfold Lib.compact Lib.compactUpTo
  rw [List.length_map]
  have h1 : l.length = (List.range (sortedI l).length).length := by rw [List.length_range, hl]
  rw [h1, List.length_filter_lt_length_iff_exists]
  simp
set_option maxRecDepth 100000 in
set_option maxHeartbeats 8000000 in
theorem alloc_Give.calls (A0 : Option Addr) (c0 : Nat) (l0 : List ByteArray) (A1 : Option Addr) (c1 : Nat) (l1 : List Int) (r1 : List ByteArray) (r2 : Int) (w : World) (hr0 : Kd.C Kd.string w A0 l0.length l0) (hc0 : l0.length ≤ c0) (hr1 : Kd.C (Kd.int .i64) w A1 l1.length l1) (hc1 : l1.length ≤ c1) (h : alloc_Give.f l0 l1 = some (r1, r2)) :
    Calls Try.prog 11 #[.slice A0 l0.length c0, .slice A1 l1.length c1] w fun e w' => ∃ v0_ : Value, e = .returned (.tuple #[v0_, .int .i64 r2]) ∧ Kd.R Kd.string 9 w' w.heap.size (fun _ => True) v0_ r1 ∧ Below w.heap.size w w' := by
  unfold alloc_Give.f at h
  split at h
  case isFalse => cases h
  rename_i hh
  obtain ⟨hfit, hbig⟩ := hh
  have h := Option.some.inj h
  obtain ⟨hl1, hl2, hms⟩ := hfit
  have HFit : Aside0 (fitI l0) := ⟨⟨hl1, hl2, hms⟩⟩
  have HR0 := Aside0.mk hr0
  have HC0 := Aside0.mk hc0
  have HR1 := Aside0.mk hr1
  have HC1 := Aside0.mk hc1
  clear hr0 hc0 hr1 hc1
  have HCl : Aside0 (slices_Clone_string_string.f l0 = some l0) := ⟨by unfold slices_Clone_string_string.f; rw [if_pos (by omega)]⟩
  have hb1 : Below w.heap.size w (w.alloc (.cells #[.slice A0 l0.length c0] 22)) := (Below.refl _ w).alloc (Nat.le_refl _) _
  have bI := Boxed.new w 22 (.slice A0 l0.length c0)
  have hz1 : (w.alloc (.cells #[.slice A0 l0.length c0] 22)).heap.size = w.heap.size + 1 := by simp
  have HB1 := Aside0.mk hb1
  have HI1 := Aside0.mk bI
  have cI1 := bI.cell
  clear hb1 bI
  cases hout : l1.any (outside l0) with
  | true =>
    rw [hout, if_pos rfl] at h
    simp only [Prod.mk.injEq] at h
    obtain ⟨rfl, rfl⟩ := h
    have HO := Aside0.mk hout
    clear hout
    go_enter Try.func11, Try.ntmps11
    go_wp2_with (first
      | (go_at_call 27; refine (slices_Clone_string_string.calls _ _ l0 l0 _ (Kd.C_below HR0.out HB1.out) HC0.out HCl.out).mono ?_; rintro e w2 ⟨v0_, rfl, hR, hb⟩; have HB2 := Aside0.mk (HB1.out.trans (hb.mono (by omega))); have HI2 := Aside0.mk (boxed_below HI1.out hb); have HR2 := Aside0.mk hR; clear hR hb)
      | (go_at_call 32; refine (containsI 33 _ Try.func33 (by kernel_rfl) rfl #[.pointer (some ⟨w.heap.size, 0, none⟩)] (outside l0) A1 c1 l1 _ (Kd.C_below HR1.out HB2.out) (fun x hx W' hb' => give1_calls w.heap.size A0 c0 l0 (by omega) x W' (boxed_below HI2.out hb'))).mono ?_; rw [HO.out]; rintro e w3 ⟨rfl, hb⟩; have HB3 := Aside0.mk (HB2.out.trans (hb.mono HB2.out.size)); have HR3 := Aside0.mk (Kd.R_below HR2.out hb); clear hb))
    go_ret2
    exact ⟨_, rfl, Kd.R_lower HR3.out (by omega), HB3.out⟩
  | false =>
    rw [hout, if_neg (by simp)] at h
    have HIn : Aside0 (∀ x ∈ l1, 3 ≤ x ∧ x < (l0.length : Int)) := ⟨fun x hx => outside_not (by rw [List.any_eq_false] at hout; simpa using hout x hx) hl1⟩
    have HO := Aside0.mk hout
    clear hout
    have hn2 : ((1 : Int) < (l0.length : Int)) = True := eq_true (by omega)
    by_cases hdup : l1.Nodup
    · have hcl : ¬ (Lib.compact (sortedI l1)).length < l1.length := fun hc => (compact_lt l1).1 hc hdup
      have hcd : decide (((Lib.compact (sortedI l1)).length : Int) < (l1.length : Int)) = false := decide_eq_false (by omega)
      have hcn : ((Lib.compact (sortedI l1)).length < l1.length) = False := eq_false hcl
      cases hnt : l1.any (fun x => !bitB (mapOf l0) x.toNat) with
      | true =>
        have HN := Aside0.mk hnt
        rw [if_pos (.inr (by rw [List.any_eq_true] at hnt; obtain ⟨x, hx, hb⟩ := hnt; exact ⟨x, hx, by simpa using hb⟩))] at h
        simp only [Prod.mk.injEq] at h
        obtain ⟨rfl, rfl⟩ := h
        clear hnt hcl
        go_enter Try.func11, Try.ntmps11
        go_wp2_with (first | (go_at_call 27; refine (slices_Clone_string_string.calls _ _ l0 l0 _ (Kd.C_below HR0.out HB1.out) HC0.out HCl.out).mono ?_; rintro e w2 ⟨v0_, rfl, hR, hb⟩; obtain ⟨g, cap, rfl, hg1, hg2, _⟩ := Kd.R_form hR (by omega); have HB2 := Aside0.mk (HB1.out.trans (hb.mono (by omega))); have HI2 := Aside0.mk (boxed_below HI1.out hb); have HR2 := Aside0.mk hR; clear hR hb) | (go_at_call 32; refine (containsI 33 _ Try.func33 (by kernel_rfl) rfl #[.pointer (some ⟨w.heap.size, 0, none⟩)] (outside l0) A1 c1 l1 _ (Kd.C_below HR1.out HB2.out) (fun x hx W' hb' => give1_calls w.heap.size A0 c0 l0 (by omega) x W' (boxed_below HI2.out hb'))).mono ?_; rw [HO.out]; rintro e w3 ⟨rfl, hb⟩; have HB3 := Aside0.mk (HB2.out.trans (hb.mono HB2.out.size)); have HI3 := Aside0.mk (boxed_below HI2.out hb); have HR3 := Aside0.mk (Kd.R_below HR2.out hb); have hg3 := hb.size; have HX := Aside0.mk (Below.refl w3.heap.size w3); clear hb HO) | (go_at_call 35; refine (cloneI A1 c1 l1 _ (Kd.C_below HR1.out HB3.out) hbig).mono ?_; rintro e w4 ⟨v4, rfl, hR, hb⟩; obtain ⟨A4, c4, rfl⟩ := Kd.R_slice hR; have n_ := Aside0.mk (HX.out.trans hb); clear HX; have HX := n_; clear n_; have HS4 := Aside0.mk hR; have hz4 := hb.size; clear hb hR) | (go_at_call 36; refine (sortC _ _ l1 _ HS4.out hz4 (by omega)).mono ?_; rintro e w5 ⟨rfl, hb, hcomp⟩; have n_ := Aside0.mk (HX.out.trans hb); clear HX; have HX := n_; clear n_; have HCM := Aside0.mk hcomp; clear hb hcomp) | (go_at_call 37; refine HCM.out.mono ?_; rintro e w6 ⟨⟨A6, c6, rfl⟩, hb⟩; have n_ := Aside0.mk (HX.out.trans hb); clear HX; have HX := n_; clear n_; clear hb HCM) | (go_at_call 32; refine (containsI 38 _ Try.func38 (by kernel_rfl) rfl #[.pointer (some ⟨w.heap.size, 0, none⟩)] (fun x => !bitB (mapOf l0) x.toNat) A1 c1 l1 _ (Kd.C_below HR1.out (HB3.out.trans (HX.out.mono HB3.out.size))) (fun x hx W' hb' => give2_calls w.heap.size w A0 c0 l0 HR0.out HC0.out HFit.out x (by have := HIn.out x hx; omega) (HIn.out x hx).2 W' ((HB3.out.trans (HX.out.mono HB3.out.size)).trans (hb'.mono (HB3.out.trans (HX.out.mono HB3.out.size)).size)) (boxed_below (boxed_below HI3.out HX.out) hb'))).mono ?_; rw [HN.out]; rintro e w7 ⟨rfl, hb⟩; have n_ := Aside0.mk (HX.out.trans (hb.mono HX.out.size)); clear HX; have HX := n_; clear n_; obtain ⟨hy, hyf⟩ := Kd.R_celln (⟨#[]⟩ : ByteArray) (Kd.R_below HR3.out HX.out) (1 : Int) (by omega) (by omega); rw [show ((1 : Int)).toNat = 1 from rfl, show rdOf (⟨#[]⟩ : ByteArray) l0 1 = mapOf l0 from rfl] at hy; clear hyf hb))
        go_ret2
        exact ⟨_, rfl, Kd.R_lower (Kd.R_below HR3.out HX.out) (by omega), HB3.out.trans (HX.out.mono HB3.out.size)⟩
      | false =>
        have HN := Aside0.mk hnt
        rw [if_neg (by
          rintro (h1 | ⟨x, hx, hb⟩)
          · exact h1 hdup
          · rw [List.any_eq_false] at hnt
            have := hnt x hx
            rw [hb] at this
            simp at this)] at h
        simp only [Prod.mk.injEq] at h
        obtain ⟨rfl, rfl⟩ := h
        have HMk : Aside0 (alloc_marked.f (mapOf l0) l1 false = some (markB (mapOf l0) l1 false)) := ⟨by
          unfold alloc_marked.f
          rw [if_pos ⟨by omega, fun x hx => by have := HIn.out x hx; rw [hms]; omega⟩]⟩
        clear hnt hcl
        go_enter Try.func11, Try.ntmps11
        go_wp2_with (first | (go_at_call 27; refine (slices_Clone_string_string.calls _ _ l0 l0 _ (Kd.C_below HR0.out HB1.out) HC0.out HCl.out).mono ?_; rintro e w2 ⟨v0_, rfl, hR, hb⟩; obtain ⟨g, cap, rfl, hg1, hg2, _⟩ := Kd.R_form hR (by omega); have HB2 := Aside0.mk (HB1.out.trans (hb.mono (by omega))); have HI2 := Aside0.mk (boxed_below HI1.out hb); have HR2 := Aside0.mk hR; clear hR hb) | (go_at_call 32; refine (containsI 33 _ Try.func33 (by kernel_rfl) rfl #[.pointer (some ⟨w.heap.size, 0, none⟩)] (outside l0) A1 c1 l1 _ (Kd.C_below HR1.out HB2.out) (fun x hx W' hb' => give1_calls w.heap.size A0 c0 l0 (by omega) x W' (boxed_below HI2.out hb'))).mono ?_; rw [HO.out]; rintro e w3 ⟨rfl, hb⟩; have HB3 := Aside0.mk (HB2.out.trans (hb.mono HB2.out.size)); have HI3 := Aside0.mk (boxed_below HI2.out hb); have HR3 := Aside0.mk (Kd.R_below HR2.out hb); have hg3 := hb.size; have HX := Aside0.mk (Below.refl w3.heap.size w3); clear hb HO) | (go_at_call 35; refine (cloneI A1 c1 l1 _ (Kd.C_below HR1.out HB3.out) hbig).mono ?_; rintro e w4 ⟨v4, rfl, hR, hb⟩; obtain ⟨A4, c4, rfl⟩ := Kd.R_slice hR; have n_ := Aside0.mk (HX.out.trans hb); clear HX; have HX := n_; clear n_; have HS4 := Aside0.mk hR; have hz4 := hb.size; clear hb hR) | (go_at_call 36; refine (sortC _ _ l1 _ HS4.out hz4 (by omega)).mono ?_; rintro e w5 ⟨rfl, hb, hcomp⟩; have n_ := Aside0.mk (HX.out.trans hb); clear HX; have HX := n_; clear n_; have HCM := Aside0.mk hcomp; clear hb hcomp) | (go_at_call 37; refine HCM.out.mono ?_; rintro e w6 ⟨⟨A6, c6, rfl⟩, hb⟩; have n_ := Aside0.mk (HX.out.trans hb); clear HX; have HX := n_; clear n_; clear hb HCM) | (go_at_call 32; refine (containsI 38 _ Try.func38 (by kernel_rfl) rfl #[.pointer (some ⟨w.heap.size, 0, none⟩)] (fun x => !bitB (mapOf l0) x.toNat) A1 c1 l1 _ (Kd.C_below HR1.out (HB3.out.trans (HX.out.mono HB3.out.size))) (fun x hx W' hb' => give2_calls w.heap.size w A0 c0 l0 HR0.out HC0.out HFit.out x (by have := HIn.out x hx; omega) (HIn.out x hx).2 W' ((HB3.out.trans (HX.out.mono HB3.out.size)).trans (hb'.mono (HB3.out.trans (HX.out.mono HB3.out.size)).size)) (boxed_below (boxed_below HI3.out HX.out) hb'))).mono ?_; rw [HN.out]; rintro e w7 ⟨rfl, hb⟩; have n_ := Aside0.mk (HX.out.trans (hb.mono HX.out.size)); clear HX; have HX := n_; clear n_; obtain ⟨hy, hyf⟩ := Kd.R_celln (⟨#[]⟩ : ByteArray) (Kd.R_below HR3.out HX.out) (1 : Int) (by omega) (by omega); rw [show ((1 : Int)).toNat = 1 from rfl, show rdOf (⟨#[]⟩ : ByteArray) l0 1 = mapOf l0 from rfl] at hy; clear hyf hb) | (go_at_call 30; refine (alloc_marked.calls (mapOf l0) A1 c1 l1 false _ _ (Kd.C_below HR1.out (HB3.out.trans (HX.out.mono HB3.out.size))) HC1.out HMk.out).mono ?_; rintro e w8 ⟨rfl, hb⟩; have n_ := Aside0.mk (HX.out.trans (hb.mono HX.out.size)); clear HX; have HX := n_; clear n_; obtain ⟨hy8, hz8⟩ := Kd.R_celln (⟨#[]⟩ : ByteArray) (Kd.R_below HR3.out HX.out) (1 : Int) (by omega) (by omega); rw [show ((1 : Int)).toNat = 1 from rfl] at hy8 hz8; clear hb))
        go_ret2
        have hput := Kd.R_putg (Kd.R_below HR3.out HX.out) (1 : Int) (markB (mapOf l0) l1 false)
        rw [show ((1 : Int)).toNat = 1 from rfl] at hput
        exact ⟨_, rfl, Kd.R_lower hput.1 (by omega), (HB3.out.trans (HX.out.mono HB3.out.size)).setCell (p := ⟨g, 1, none⟩) (by show w.heap.size ≤ g; omega) _⟩
    · have hcl : (Lib.compact (sortedI l1)).length < l1.length := (compact_lt l1).2 hdup
      have hcd : decide (((Lib.compact (sortedI l1)).length : Int) < (l1.length : Int)) = true := decide_eq_true (by omega)
      have hcn : ((Lib.compact (sortedI l1)).length < l1.length) = True := eq_true hcl
      rw [if_pos (.inl hdup)] at h
      simp only [Prod.mk.injEq] at h
      obtain ⟨rfl, rfl⟩ := h
      clear hcl
      go_enter Try.func11, Try.ntmps11
      go_wp2_with (first | (go_at_call 27; refine (slices_Clone_string_string.calls _ _ l0 l0 _ (Kd.C_below HR0.out HB1.out) HC0.out HCl.out).mono ?_; rintro e w2 ⟨v0_, rfl, hR, hb⟩; obtain ⟨g, cap, rfl, hg1, hg2, _⟩ := Kd.R_form hR (by omega); have HB2 := Aside0.mk (HB1.out.trans (hb.mono (by omega))); have HI2 := Aside0.mk (boxed_below HI1.out hb); have HR2 := Aside0.mk hR; clear hR hb) | (go_at_call 32; refine (containsI 33 _ Try.func33 (by kernel_rfl) rfl #[.pointer (some ⟨w.heap.size, 0, none⟩)] (outside l0) A1 c1 l1 _ (Kd.C_below HR1.out HB2.out) (fun x hx W' hb' => give1_calls w.heap.size A0 c0 l0 (by omega) x W' (boxed_below HI2.out hb'))).mono ?_; rw [HO.out]; rintro e w3 ⟨rfl, hb⟩; have HB3 := Aside0.mk (HB2.out.trans (hb.mono HB2.out.size)); have HI3 := Aside0.mk (boxed_below HI2.out hb); have HR3 := Aside0.mk (Kd.R_below HR2.out hb); have hg3 := hb.size; have HX := Aside0.mk (Below.refl w3.heap.size w3); clear hb HO) | (go_at_call 35; refine (cloneI A1 c1 l1 _ (Kd.C_below HR1.out HB3.out) hbig).mono ?_; rintro e w4 ⟨v4, rfl, hR, hb⟩; obtain ⟨A4, c4, rfl⟩ := Kd.R_slice hR; have n_ := Aside0.mk (HX.out.trans hb); clear HX; have HX := n_; clear n_; have HS4 := Aside0.mk hR; have hz4 := hb.size; clear hb hR) | (go_at_call 36; refine (sortC _ _ l1 _ HS4.out hz4 (by omega)).mono ?_; rintro e w5 ⟨rfl, hb, hcomp⟩; have n_ := Aside0.mk (HX.out.trans hb); clear HX; have HX := n_; clear n_; have HCM := Aside0.mk hcomp; clear hb hcomp) | (go_at_call 37; refine HCM.out.mono ?_; rintro e w6 ⟨⟨A6, c6, rfl⟩, hb⟩; have n_ := Aside0.mk (HX.out.trans hb); clear HX; have HX := n_; clear n_; clear hb HCM))
      go_ret2
      exact ⟨_, rfl, Kd.R_lower (Kd.R_below HR3.out HX.out) (by omega), HB3.out.trans (HX.out.mono HB3.out.size)⟩
end Go.Proofs.Ytihnifpcpokpjaa.PD
-- written by a program of this work (mk.sh, over the kit's print; stubs are proved by hand)
namespace Go.Proofs.Ytihnifpcpokpjaa.PD
open Go.RowKit Go.Proofs.YtihnifpcpokpjaaW.PrintWords Go.Proofs.YtihnifpcpokpjaaW.PrintLast Go.Proofs.YtihnifpcpokpjaaW.PrintMore
attribute [local go_sem] isSome_setCell max2_int min2_int max_two min_two max_three min_three max_four min_four   -- for this text's walks alone
set_option linter.unusedVariables false
set_option linter.unusedSimpArgs false

/-! ### almanacref03_Ints: function 14 -/
def almanacref03_Ints.l0 : Nat → List Int → List Int → Int → Option (Bool)
  | 0, _, _, _ => none
  | k + 1, x0, x1, x5 => if x5 < (x0.length : Int) then (if 0 ≤ x5 then (if x5 < (x1.length : Int) then (if (rd x0 x5) = (rd x1 x5) then (almanacref03_Ints.l0 k x0 x1 (wrap64 (x5 + 1))) else (some false)) else (none)) else (none)) else (some true)
def almanacref03_Ints.f (k : Nat) (l0 : List Int) (l1 : List Int) : Option (Bool) := if (l0.length : Int) = (l1.length : Int) then (almanacref03_Ints.l0 k l0 l1 0) else (some false)
theorem almanacref03_Ints.mono_l : ∀ k, (∀ y0 y1 y2, LeO (almanacref03_Ints.l0 k y0 y1 y2) (almanacref03_Ints.l0 (k + 1) y0 y1 y2))
  | 0 => fun _ _ _ r h => by simp [almanacref03_Ints.l0] at h
  | k + 1 => by
    have ih0 := almanacref03_Ints.mono_l k
    · intro y0 y1 y2
      unfold almanacref03_Ints.l0
      repeat' first
      | (with_reducible exact ih0 _ _ _)
      | (with_reducible exact LeO.refl _)
      | (with_reducible exact LeO.none _)
      | (with_reducible refine LeO.ite ?_ ?_)
      | (with_reducible refine LeO.bind ?_ (fun _ => ?_))
      | exact ih0 _ _ _
      | exact LeO.none _
      | refine LeO.ite ?_ ?_
      | refine LeO.bind ?_ (fun _ => ?_)
theorem almanacref03_Ints.mono : ∀ a0 a1 k, LeO (almanacref03_Ints.f k a0 a1) (almanacref03_Ints.f (k + 1) a0 a1) := by
  intro a0 a1 k
  have ih0 := almanacref03_Ints.mono_l k
  unfold almanacref03_Ints.f
  repeat' first
      | (with_reducible exact ih0 _ _ _)
      | (with_reducible exact LeO.refl _)
      | (with_reducible exact LeO.none _)
      | (with_reducible refine LeO.ite ?_ ?_)
      | (with_reducible refine LeO.bind ?_ (fun _ => ?_))
      | exact ih0 _ _ _
      | exact LeO.none _
      | refine LeO.ite ?_ ?_
      | refine LeO.bind ?_ (fun _ => ?_)
set_option maxHeartbeats 8000000 in
set_option maxRecDepth 100000 in
theorem almanacref03_Ints.calls (k : Nat) (A0 : Option Addr) (c0 : Nat) (l0 : List Int) (A1 : Option Addr) (c1 : Nat) (l1 : List Int) (r : Bool) (w : World) (hr0 : Kd.C (Kd.int .i64) w A0 l0.length l0) (hc0 : l0.length ≤ c0) (hr1 : Kd.C (Kd.int .i64) w A1 l1.length l1) (hc1 : l1.length ≤ c1) (h : almanacref03_Ints.f k l0 l1 = some r) :
    Calls Try.prog 14 #[.slice A0 l0.length c0, .slice A1 l1.length c1] w fun e w' => e = .returned (.bool r) ∧ Drawn0 w w' := by
  have HR0 := Aside0.mk hr0
  have HC0 := Aside0.mk hc0
  clear hr0 hc0
  have HR1 := Aside0.mk hr1
  have HC1 := Aside0.mk hc1
  clear hr1 hc1
  have H : (if (l0.length : Int) = (l1.length : Int) then (almanacref03_Ints.l0 k l0 l1 0) else (some false)) = some r := h
  clear h
  by_cases c3 : (l0.length : Int) = (l1.length : Int)
  · rw [if_pos c3] at H
    have c3b0 : ((l0.length : Int) == (l1.length : Int)) = true := beq_iff_eq.mpr c3
    have c3b1 : ((l0.length : Int) != (l1.length : Int)) = false := bne_eq_false_iff_eq.mpr c3
    have c3b2 : (l0.length == l1.length) = true := by first | simpa using c3 | (simp at c3 ⊢; omega)
    clear c3
    have H' := Aside0.mk H
    clear H
    go_enter Try.func14, Try.ntmps14
    go_wp2
    repeat (go_quiet (fail); try go_wp2)
    go_loopg [5] k (fun kq v5 w' => ∃ (x5_1 : Int), v5 = .int .i64 x5_1 ∧ Aside0 (almanacref03_Ints.l0 kq l0 l1 x5_1 = some r) ∧ Aside0 (kq ≤ k) ∧ Drawn0 w w')
    case atStart => exact ⟨(0), (by first | rfl | (simp; done) | (simp [*]; done)), H', ⟨Nat.le_refl _⟩, by repeat (first | exact Drawn0.refl _ | apply Drawn0.step)⟩
    case round =>
      clear H'
      try clear c1
      try clear p2
      try clear c3
      try clear c3b0
      try clear c3b1
      try clear c3b2
      obtain ⟨x5_1, rfl, HA, HK1, ⟨m1, rfl⟩⟩ := hrel
      cases gk with
      | zero => exact absurd HA.out (by simp [almanacref03_Ints.l0])
      | succ k1 =>
        have H := HA.out
        clear HA
        simp only [almanacref03_Ints.l0] at H
        by_cases c4 : x5_1 < (l0.length : Int)
        · rw [if_pos c4] at H
          have c4b0 : decide (x5_1 < (l0.length : Int)) = true := decide_eq_true c4
          clear c4
          by_cases c5 : 0 ≤ x5_1
          · rw [if_pos c5] at H
            have c5b0 : decide (0 ≤ x5_1) = true := decide_eq_true c5
            clear c5
            by_cases c6 : x5_1 < (l1.length : Int)
            · rw [if_pos c6] at H
              have c6b0 : decide (x5_1 < (l1.length : Int)) = true := decide_eq_true c6
              clear c6
              by_cases c7 : (rd l0 x5_1) = (rd l1 x5_1)
              · rw [if_pos c7] at H
                have c7b0 : ((rd l0 x5_1) == (rd l1 x5_1)) = true := beq_iff_eq.mpr c7
                have c7b1 : ((rd l0 x5_1) != (rd l1 x5_1)) = false := bne_eq_false_iff_eq.mpr c7
                clear c7
                have H' := Aside0.mk H
                clear H
                have p269 : 0 ≤ (x5_1 : Int) := of_decide_eq_true (by first | (with_reducible assumption) | assumption)
                have q269 : x5_1 < (l0.length : Int) := of_decide_eq_true (by first | (with_reducible assumption) | assumption)
                obtain ⟨ad269, e269, hx269_0⟩ := Kd.at_int HR0.out x5_1 p269 q269
                cases e269
                replace p269 := eq_true p269
                replace q269 := eq_true q269
                have p270 : 0 ≤ (x5_1 : Int) := of_decide_eq_true (by first | (with_reducible assumption) | assumption)
                have q270 : x5_1 < (l1.length : Int) := of_decide_eq_true (by first | (with_reducible assumption) | assumption)
                obtain ⟨ad270, e270, hx270_0⟩ := Kd.at_int HR1.out x5_1 p270 q270
                cases e270
                replace p270 := eq_true p270
                replace q270 := eq_true q270
                go_wp2
                repeat (go_quiet (fail); try go_wp2)
                go_roundg k1
                case measure => have := HK1.out; omega
                case rel => exact ⟨(wrap64 (x5_1 + 1)), (by first | rfl | (simp; done) | (simp [*]; done)), H', ⟨by have := HK1.out; omega⟩, by repeat (first | exact Drawn0.refl _ | apply Drawn0.step)⟩
              · rw [if_neg c7] at H
                have c7b0 : ((rd l0 x5_1) == (rd l1 x5_1)) = false := beq_eq_false_iff_ne.mpr c7
                have c7b1 : ((rd l0 x5_1) != (rd l1 x5_1)) = true := bne_iff_ne.mpr c7
                obtain rfl := Option.some.inj H
                have p269 : 0 ≤ (x5_1 : Int) := of_decide_eq_true (by first | (with_reducible assumption) | assumption)
                have q269 : x5_1 < (l0.length : Int) := of_decide_eq_true (by first | (with_reducible assumption) | assumption)
                obtain ⟨ad269, e269, hx269_0⟩ := Kd.at_int HR0.out x5_1 p269 q269
                cases e269
                replace p269 := eq_true p269
                replace q269 := eq_true q269
                have p270 : 0 ≤ (x5_1 : Int) := of_decide_eq_true (by first | (with_reducible assumption) | assumption)
                have q270 : x5_1 < (l1.length : Int) := of_decide_eq_true (by first | (with_reducible assumption) | assumption)
                obtain ⟨ad270, e270, hx270_0⟩ := Kd.at_int HR1.out x5_1 p270 q270
                cases e270
                replace p270 := eq_true p270
                replace q270 := eq_true q270
                go_wp2
                repeat (go_quiet (fail); try go_wp2)
                go_ret
                exact ⟨by first | rfl | (simp; done) | (simp [*]; done), by repeat (first | exact Drawn0.refl _ | apply Drawn0.step)⟩
            · rw [if_neg c6] at H
              exact absurd H (by simp)
          · rw [if_neg c5] at H
            exact absurd H (by simp)
        · rw [if_neg c4] at H
          have c4b0 : decide (x5_1 < (l0.length : Int)) = false := decide_eq_false c4
          clear c4
          obtain rfl := Option.some.inj H
          go_wp2
          repeat (go_quiet (fail); try go_wp2)
          go_ret
          exact ⟨by first | rfl | (simp; done) | (simp [*]; done), by repeat (first | exact Drawn0.refl _ | apply Drawn0.step)⟩
  · rw [if_neg c3] at H
    have c3b0 : ((l0.length : Int) == (l1.length : Int)) = false := beq_eq_false_iff_ne.mpr c3
    have c3b1 : ((l0.length : Int) != (l1.length : Int)) = true := bne_iff_ne.mpr c3
    have c3b2 : (l0.length == l1.length) = false := by first | simpa using c3 | (simp at c3 ⊢; omega)
    obtain rfl := Option.some.inj H
    go_enter Try.func14, Try.ntmps14
    go_wp2
    repeat (go_quiet (fail); try go_wp2)
    go_ret
    exact ⟨by first | rfl | (simp; done) | (simp [*]; done), by repeat (first | exact Drawn0.refl _ | apply Drawn0.step)⟩

end Go.Proofs.Ytihnifpcpokpjaa.PD
-- written by a program of this work (mk.sh, over the kit's print; stubs are proved by hand)
namespace Go.Proofs.Ytihnifpcpokpjaa.PD
open Go.RowKit Go.Proofs.YtihnifpcpokpjaaW.PrintWords Go.Proofs.YtihnifpcpokpjaaW.PrintLast Go.Proofs.YtihnifpcpokpjaaW.PrintMore
attribute [local go_sem] isSome_setCell max2_int min2_int max_two min_two max_three min_three max_four min_four   -- for this text's walks alone
set_option linter.unusedVariables false
set_option linter.unusedSimpArgs false

/-! ### alloc_First: function 19 -/
def alloc_First.f (l0 : List ByteArray) : Option (Int) := (alloc_first.f (l0.length : Int)).bind fun t274 => (some t274)
set_option maxHeartbeats 8000000 in
set_option maxRecDepth 100000 in
theorem alloc_First.calls (A0 : Option Addr) (c0 : Nat) (l0 : List ByteArray) (r : Int) (w : World) (hr0 : Kd.C Kd.string w A0 l0.length l0) (hc0 : l0.length ≤ c0) (h : alloc_First.f l0 = some r) :
    Calls Try.prog 19 #[.slice A0 l0.length c0] w fun e w' => e = .returned (.int .i64 r) ∧ Below w.heap.size w w' := by
  have HR0 := Aside0.mk hr0
  have HC0 := Aside0.mk hc0
  clear hr0 hc0
  have HB := Aside0.mk (Below.refl w.heap.size w)
  have H : ((alloc_first.f (l0.length : Int)).bind fun t274 => (some t274)) = some r := h
  clear h
  replace H := Option.bind_eq_some_iff.mp H
  obtain ⟨t274, A20, H⟩ := H
  replace H : (some t274) = some r := H
  have A2 := Aside0.mk A20
  clear A20
  obtain rfl := Option.some.inj H
  go_enter Try.func19, Try.ntmps19
  go_wp2_with (first | ((with_reducible refine gate_callee (f := 34) rfl ?_); refine goesL_ (some 5) rfl rfl Try.func34 (by kernel_rfl) rfl #[.int .i64 (l0.length : Int)] rfl (by (try simp only [List.map_toArray, List.map_cons, List.map_nil]); first | done | rfl | (simp only [List.length_drop, List.length_take]; rfl)) ?_; (with_reducible refine (alloc_first.calls (l0.length : Int) t274 _ A2.out).mono ?_); rintro e w3 ⟨rfl, hb⟩; refine ⟨_, rfl, ?_⟩; have n0_ := Aside0.mk (below_step (by repeat (first | (with_reducible first | exact HB.out | apply below_alloc | apply pw_below_drewN | apply below_drew1) | exact HB.out)) hb); clear HB; have HB := n0_; clear n0_; (try clear hb); (try clear hb2); (try clear hk); (try clear hi)))
  go_ret
  exact ⟨by first | rfl | (simp [errW_none, errW_some] <;> rfl) | (simp [*, errW_none, errW_some] <;> rfl), by repeat (first | (with_reducible first | exact HB.out | apply below_alloc | apply pw_below_drewN | apply below_drew1) | exact HB.out)⟩

end Go.Proofs.Ytihnifpcpokpjaa.PD
-- written by a program of this work (mk.sh, over the kit's print; stubs are proved by hand)
namespace Go.Proofs.Ytihnifpcpokpjaa.PD
open Go.RowKit Go.Proofs.YtihnifpcpokpjaaW.PrintWords Go.Proofs.YtihnifpcpokpjaaW.PrintLast Go.Proofs.YtihnifpcpokpjaaW.PrintMore
attribute [local go_sem] isSome_setCell max2_int min2_int max_two min_two max_three min_three max_four min_four   -- for this text's walks alone
set_option linter.unusedVariables false
set_option linter.unusedSimpArgs false

/-! ### alloc_Inodes: function 21 -/
def alloc_Inodes.f (l0 : List ByteArray) : Option (Int) := (alloc_inodes.f (l0.length : Int)).bind fun t275 => (some t275)
set_option maxHeartbeats 8000000 in
set_option maxRecDepth 100000 in
theorem alloc_Inodes.calls (A0 : Option Addr) (c0 : Nat) (l0 : List ByteArray) (r : Int) (w : World) (hr0 : Kd.C Kd.string w A0 l0.length l0) (hc0 : l0.length ≤ c0) (h : alloc_Inodes.f l0 = some r) :
    Calls Try.prog 21 #[.slice A0 l0.length c0] w fun e w' => e = .returned (.int .i64 r) ∧ Below w.heap.size w w' := by
  have HR0 := Aside0.mk hr0
  have HC0 := Aside0.mk hc0
  clear hr0 hc0
  have HB := Aside0.mk (Below.refl w.heap.size w)
  have H : ((alloc_inodes.f (l0.length : Int)).bind fun t275 => (some t275)) = some r := h
  clear h
  replace H := Option.bind_eq_some_iff.mp H
  obtain ⟨t275, A20, H⟩ := H
  replace H : (some t275) = some r := H
  have A2 := Aside0.mk A20
  clear A20
  obtain rfl := Option.some.inj H
  go_enter Try.func21, Try.ntmps21
  go_wp2_with (first | ((with_reducible refine gate_callee (f := 42) rfl ?_); refine goesL_ (some 5) rfl rfl Try.func42 (by kernel_rfl) rfl #[.int .i64 (l0.length : Int)] rfl (by (try simp only [List.map_toArray, List.map_cons, List.map_nil]); first | done | rfl | (simp only [List.length_drop, List.length_take]; rfl)) ?_; (with_reducible refine (alloc_inodes.calls (l0.length : Int) t275 _ A2.out).mono ?_); rintro e w3 ⟨rfl, hb⟩; refine ⟨_, rfl, ?_⟩; have n0_ := Aside0.mk (below_step (by repeat (first | (with_reducible first | exact HB.out | apply below_alloc | apply pw_below_drewN | apply below_drew1) | exact HB.out)) hb); clear HB; have HB := n0_; clear n0_; (try clear hb); (try clear hb2); (try clear hk); (try clear hi)))
  go_ret
  exact ⟨by first | rfl | (simp [errW_none, errW_some] <;> rfl) | (simp [*, errW_none, errW_some] <;> rfl), by repeat (first | (with_reducible first | exact HB.out | apply below_alloc | apply pw_below_drewN | apply below_drew1) | exact HB.out)⟩

end Go.Proofs.Ytihnifpcpokpjaa.PD
-- written by a program of this work (mk.sh, over the kit's print; stubs are proved by hand)
namespace Go.Proofs.Ytihnifpcpokpjaa.PD
open Go.RowKit Go.Proofs.YtihnifpcpokpjaaW.PrintWords Go.Proofs.YtihnifpcpokpjaaW.PrintLast Go.Proofs.YtihnifpcpokpjaaW.PrintMore
attribute [local go_sem] isSome_setCell max2_int min2_int max_two min_two max_three min_three max_four min_four   -- for this text's walks alone
set_option linter.unusedVariables false
set_option linter.unusedSimpArgs false

/-! ### almanacref04_Own: function 8 -/
def almanacref04_Own.f (l0 : List ByteArray) : Option (List ByteArray) := if ([] : List ByteArray).length + l0.length < 8796093022208 then (some (([] : List ByteArray) ++ l0)) else (none)
set_option maxHeartbeats 8000000 in
set_option maxRecDepth 100000 in
theorem almanacref04_Own.calls (A0 : Option Addr) (c0 : Nat) (l0 : List ByteArray) (r : List ByteArray) (w : World) (hr0 : Kd.C Kd.string w A0 l0.length l0) (hc0 : l0.length ≤ c0) (h : almanacref04_Own.f l0 = some r) :
    Calls Try.prog 8 #[.slice A0 l0.length c0] w fun e w' => ∃ v0_ : Value, e = .returned (v0_) ∧ Kd.R Kd.string 9 w' w.heap.size (fun _ => True) v0_ r ∧ Below w.heap.size w w' := by
  have HR0 := Aside0.mk hr0
  have HC0 := Aside0.mk hc0
  clear hr0 hc0
  have HB := Aside0.mk (Below.refl w.heap.size w)
  have H : (if ([] : List ByteArray).length + l0.length < 8796093022208 then (some (([] : List ByteArray) ++ l0)) else (none)) = some r := h
  clear h
  by_cases c2 : ([] : List ByteArray).length + l0.length < 8796093022208
  · rw [if_pos c2] at H
    have LMc2 := Aside0.mk c2
    clear c2
    obtain ⟨y346, hy346⟩ : ∃ y_ : List ByteArray, y_ = (([] : List ByteArray) ++ l0) := ⟨_, rfl⟩
    replace H : (some y346) = some r := by first | (rw [hy346]; with_reducible exact H) | (have H2_ := (Option.bind_some _ _).symm.trans H; rw [hy346]; with_reducible exact H2_) | (have H2_ := (Option.bind_some _ _).symm.trans H; with_reducible exact H2_) | with_reducible exact H | (rw [hy346]; exact H) | exact H
    have Ny346 := Aside0.mk hy346
    clear hy346
    obtain rfl := Option.some.inj H
    go_enter Try.func8, Try.ntmps8
    go_wp2_with (first | ((with_reducible refine gate_builtin (b := .append) (xs := #[.tmp 4, .tmp 5]) rfl ?_); at_builtin; refine Kd.R_append_rows Kd.string (w0 := w) w.heap.size rfl (.tmp 4) (.tmp 5) 22 9 (.string ⟨#[]⟩) 16 rfl Try.underlying22 info9 rfl (by decide) (by omega) (.slice none 0 0) ([] : List ByteArray) l0 _ _ _ (fun _ => True) (fun _ => False) rfl rfl ?aO ?aR (fun _ _ h => h) (fun _ h => h.elim) ?aF ?aB ?aS ?aL ?_; (case aR => repeat (first | exact HR0.out | (with_reducible refine Kd.C_alloc ?_ _) | (with_reducible refine Kd.C_drewN ?_ _) | (with_reducible refine Kd.C_drew ?_))); (case aB => exact (by repeat (first | (with_reducible first | exact HB.out | apply below_alloc | apply pw_below_drewN | apply below_drew1) | exact HB.out))); (case aF => exact (fun _ _ => trivial)); (case aO => exact ((Kd.R_nil _ _ _ _ (fun _ => True)))); (case aS => exact (below_size (by repeat (first | (with_reducible first | exact HB.out | apply below_alloc | apply pw_below_drewN | apply below_drew1) | exact HB.out)))); (case aL => have := LMc2.out; omega); intro v347 w3 ho hb hg hat; rw [← Ny346.out] at ho; have n0_ := Aside0.mk (hb); have n1_ := Aside0.mk (ho); clear HB; have HB := n0_; have HO348 := n1_; clear n0_ n1_; clear ho hb hg hat))
    go_ret
    exact ⟨_, by first | rfl | (simp [errW_none, errW_some] <;> rfl) | (simp [*, errW_none, errW_some] <;> rfl), by (with_reducible repeat (first | apply Kd.R_alloc | apply Kd.R_drewN | apply Kd.R_drew)); exact HO348.out, by repeat (first | (with_reducible first | exact HB.out | apply below_alloc | apply pw_below_drewN | apply below_drew1) | exact HB.out)⟩
  · rw [if_neg c2] at H
    exact absurd H (by simp)

end Go.Proofs.Ytihnifpcpokpjaa.PD
/- almanacref04.set: an image of its own with one bit of the map set or not. -/
namespace Go.Proofs.Ytihnifpcpokpjaa.PD
open Go.RowKit Go.Proofs.YtihnifpcpokpjaaW.PrintWords Go.Proofs.YtihnifpcpokpjaaW.PrintLast Go.Proofs.YtihnifpcpokpjaaW.PrintMore
attribute [local go_sem] isSome_setCell max2_int min2_int max_two min_two
set_option linter.unusedVariables false
set_option linter.unusedSimpArgs false
set_option maxRecDepth 100000 in
set_option maxHeartbeats 4000000 in
theorem almanacref04_set.calls (A0 : Option Addr) (c0 : Nat) (l0 : List ByteArray) (a1 : Int) (a2 : Bool) (r : List ByteArray) (w : World) (hr0 : Kd.C Kd.string w A0 l0.length l0) (hc0 : l0.length ≤ c0) (h : almanacref04_set.f l0 a1 a2 = some r) :
    Calls Try.prog 31 #[.slice A0 l0.length c0, .int .i64 a1, .bool a2] w fun e w' => ∃ v0_ : Value, e = .returned (v0_) ∧ Kd.R Kd.string 9 w' w.heap.size (fun _ => True) v0_ r ∧ Below w.heap.size w w' := by
  unfold almanacref04_set.f at h
  split at h
  case isFalse => cases h
  rename_i hh
  obtain ⟨hl1, hl2, hms, ha0, ha1⟩ := hh
  obtain rfl := Option.some.inj h
  clear h
  have HR0 := Aside0.mk hr0
  have HC0 := Aside0.mk hc0
  clear hr0 hc0
  obtain ⟨i, rfl⟩ := Int.eq_ofNat_of_zero_le ha0
  obtain ⟨ad, e, hx0⟩ := Kd.at_string HR0.out 1 (by omega) (by omega)
  subst e
  have hget : rdOf ByteArray.empty l0 1 = mapOf l0 := rfl
  rw [hget] at hx0
  obtain ⟨m, hm⟩ : ∃ m, mapOf l0 = m := ⟨_, rfl⟩
  rw [hm] at hx0 hms ha1 ⊢
  simp only [Int.toNat_natCast] at hx0 ⊢
  have hx1 : w.cell? (ad.add 1) = some (.string m) := hx0
  clear hx0
  simp only [Go.Addr.add, Nat.reduceEqDiff, ↓reduceIte] at hx1
  have hcv := fun W => Lib.run_convert_string_bytes (P := Try.prog) W 9 51 5 m Try.underlying9 Try.underlying51 Try.underlying5
  have HOwn : Aside0 (almanacref04_Own.f l0 = some l0) := ⟨by unfold almanacref04_Own.f; simp; omega⟩
  have hB1 : Below w.heap.size w (Lib.bytesWorld w 5 m) := ⟨rfl, rfl, rfl, by rw [Lib.bytesWorld_size]; exact Nat.le_succ _, fun k hk => Lib.bytesWorld_at_old w 5 m k hk⟩
  have hN := RowOf.new w m
  obtain ⟨W0, hW0⟩ : ∃ W0, Lib.bytesWorld w 5 m = W0 := ⟨_, rfl⟩
  have hcv0 := hcv w
  rw [hW0] at hcv0
  rw [hW0] at hB1 hN
  clear hcv hW0
  have HB := Aside0.mk hB1
  clear hB1
  have HN := Aside0.mk hN
  clear hN
  have hq : i / 8 < m.size := by omega
  obtain ⟨hc, hf⟩ := HN.out (i / 8) hq
  have e1 : IntKind.i64.wrap (Int.tdiv (i : Int) 8) = ((i / 8 : Nat) : Int) := by rw [Int.tdiv_eq_ediv_of_nonneg (by omega), IntKind.wrap_i64]; omega
  have e2 : Int.tmod (i : Int) 8 = ((i % 8 : Nat) : Int) := by rw [Int.tmod_eq_emod_of_nonneg (by omega)]; omega
  generalize hqq : i / 8 = q at *
  generalize hpp : i % 8 = p at *
  have hp8 : p < 8 := by omega
  have q1 : (q : Int) < (m.size : Int) := by omega
  have q2 : (0 : Int) ≤ (q : Int) := by omega
  have q4 : (0 : Int) ≤ (p : Int) := by omega
  have q5 : (1 : Int) < (l0.length : Int) := by omega
  have q6 : 1 < l0.length := by omega
  have hp2 : ((2 : Int) ^ p % 256) = ((2 ^ p : Nat) : Int) := by rw [show ((2 : Int) ^ p) = ((2 ^ p : Nat) : Int) from by simp]; exact Int.emod_eq_of_lt (Int.natCast_nonneg _) (by exact_mod_cast pow_lt8 hp8)
  have hv1 : bits .andNot .u8 (byteN m q : Nat) ((2 : Int) ^ p % 256) = ((clearN (byteN m q) p : Nat) : Int) := by rw [hp2]; exact bits_andNot _ _ (byteN_lt _ _) hp8
  have hlt1 := clearN_lt (k := p) (byteN_lt m q)
  have hfin : ∀ is : Bool, setBit m i is = setByte m q (setN (byteN m q) p is) := fun is => by unfold setBit setByte; rw [hqq, hpp]
  have HV1 := Aside0.mk hv1
  have HP2 := Aside0.mk hp2
  have HF := Aside0.mk hfin
  clear hv1 hp2 hfin
  have key : ∀ (W1 : World) (is : Bool) (a : Act) , True := fun _ _ _ => trivial
  clear key
  go_enter Try.func31, Try.ntmps31
  go_wp2
  go_region
  rw [HV1.out]
  have hr1 := HN.out.set q _ hq hlt1
  have hb1 : Below w.heap.size w (W0.setCell ⟨w.heap.size, q, none⟩ (.int .u8 (clearN (byteN m q) p : Nat))) := HB.out.setCell (by show w.heap.size ≤ w.heap.size; exact Nat.le_refl _) _
  obtain ⟨W1, hW1⟩ : ∃ W1, (W0.setCell ⟨w.heap.size, q, none⟩ (.int .u8 (clearN (byteN m q) p : Nat))).drew = W1 := ⟨_, rfl⟩
  have hr2 : RowOf W1 w.heap.size (setByte m q (clearN (byteN m q) p)) := by rw [← hW1]; exact hr1
  have hb2 : Below w.heap.size w W1 := by rw [← hW1]; exact below_drew hb1
  rw [hW1]
  clear hW1 hr1 hb1 hc hf HB HN
  have HB2 := Aside0.mk hb2
  clear hb2
  have hput : ∀ (w0 w' : World) (v0 : Value) (s : ByteArray) (g2 cap : Nat), Kd.R Kd.string 9 w' w0.heap.size (fun _ => True) (.slice (some ⟨g2, 0, none⟩) l0.length cap) l0 → Kd.R Kd.string 9 (w'.setCell ⟨g2, 1, none⟩ (.string s)) w0.heap.size (fun _ => True) (.slice (some ⟨g2, 0, none⟩) l0.length cap) (l0.set 1 s) :=
    fun w0 w' v0 s g2 cap hR => (Kd.R_putg hR (1 : Int) s).1
  cases a2
  case false =>
    have hms2 : (setByte m q (clearN (byteN m q) p)).size = m.size := setByte_size _ _ _
    obtain ⟨m2, hm2⟩ : ∃ m2, setByte m q (clearN (byteN m q) p) = m2 := ⟨_, rfl⟩
    have hfin : setBit m i false = m2 := by rw [HF.out, ← hm2]; rfl
    rw [hm2] at hr2 hms2
    have HFI := Aside0.mk hfin
    clear hfin hm2
    go_wp2_with (go_at_call 8; refine (almanacref04_Own.calls _ _ l0 l0 _ (Kd.C_below HR0.out HB2.out) HC0.out HOwn.out).mono ?_; rintro e w' ⟨v0_, rfl, hR, hb⟩; obtain ⟨g2, cap, rfl, hg1, hg2, _⟩ := Kd.R_form hR (by omega); obtain ⟨hy, hz⟩ := Kd.R_celln (⟨#[]⟩ : ByteArray) hR 1 (by omega) (by omega); rw [show ((1 : Int)).toNat = 1 from rfl] at hy hz; have hr3 := hr2.below hb; have hst := hr3.string (grownCap w m.size 0 5); rw [hms2] at hst; have HR3 := Aside0.mk hR; have HB3 := Aside0.mk (HB2.out.trans (hb.mono HB2.out.size)); clear hb hR)
    go_ret
    refine ⟨_, rfl, ?_, ?_⟩
    · rw [HFI.out]; exact Kd.R_lower (hput _ _ (.int .i64 0) m2 g2 cap HR3.out) HB2.out.size
    · exact HB3.out.setCell (by show w.heap.size ≤ g2; have := HB2.out.size; omega) _
  case true =>
    have hbb : byteN (setByte m q (clearN (byteN m q) p)) q = clearN (byteN m q) p := by rw [byteN_setByte m q _ hq hlt1, if_pos rfl]
    obtain ⟨hc, hf⟩ := hr2 q (by rw [setByte_size]; exact hq)
    rw [hbb] at hc
    have hv2 : bits .or .u8 (clearN (byteN m q) p : Nat) ((2 : Int) ^ p % 256) = ((setN (byteN m q) p true : Nat) : Int) := by rw [HP2.out]; exact bits_or _ _ hlt1 hp8
    have HV2 := Aside0.mk hv2
    clear hv2
    have hlt2 := setN_lt true (byteN_lt m q) hp8
    go_wp2
    go_region
    rw [HV2.out]
    have hr3 := hr2.set q (setN (byteN m q) p true) (by rw [setByte_size]; exact hq) hlt2
    rw [setByte_twice] at hr3
    have hb3 : Below w.heap.size w (W1.setCell ⟨w.heap.size, q, none⟩ (.int .u8 (setN (byteN m q) p true : Nat))) := HB2.out.setCell (by show w.heap.size ≤ w.heap.size; exact Nat.le_refl _) _
    obtain ⟨W3, hW3⟩ : ∃ W3, (W1.setCell ⟨w.heap.size, q, none⟩ (.int .u8 (setN (byteN m q) p true : Nat))).drew = W3 := ⟨_, rfl⟩
    have hr4 : RowOf W3 w.heap.size (setByte m q (setN (byteN m q) p true)) := by rw [← hW3]; exact hr3
    have hb4 : Below w.heap.size w W3 := by rw [← hW3]; exact below_drew hb3
    rw [hW3]
    clear hW3 hr3 hb3 hr2 hc hf HB2
    have HB2 := Aside0.mk hb4
    clear hb4
    have hms2 : (setByte m q (setN (byteN m q) p true)).size = m.size := setByte_size _ _ _
    obtain ⟨m2, hm2⟩ : ∃ m2, setByte m q (setN (byteN m q) p true) = m2 := ⟨_, rfl⟩
    have hfin : setBit m i true = m2 := by rw [HF.out, ← hm2]
    rw [hm2] at hr4 hms2
    have HFI := Aside0.mk hfin
    clear hfin hm2
    go_wp2_with (go_at_call 8; refine (almanacref04_Own.calls _ _ l0 l0 _ (Kd.C_below HR0.out HB2.out) HC0.out HOwn.out).mono ?_; rintro e w' ⟨v0_, rfl, hR, hb⟩; obtain ⟨g2, cap, rfl, hg1, hg2, _⟩ := Kd.R_form hR (by omega); obtain ⟨hy, hz⟩ := Kd.R_celln (⟨#[]⟩ : ByteArray) hR 1 (by omega) (by omega); rw [show ((1 : Int)).toNat = 1 from rfl] at hy hz; have hr3 := hr4.below hb; have hst := hr3.string (grownCap w m.size 0 5); rw [hms2] at hst; have HR3 := Aside0.mk hR; have HB3 := Aside0.mk (HB2.out.trans (hb.mono HB2.out.size)); clear hb hR)
    go_ret
    refine ⟨_, rfl, ?_, ?_⟩
    · rw [HFI.out]; exact Kd.R_lower (hput _ _ (.int .i64 0) m2 g2 cap HR3.out) HB2.out.size
    · exact HB3.out.setCell (by show w.heap.size ≤ g2; have := HB2.out.size; omega) _
end Go.Proofs.Ytihnifpcpokpjaa.PD
/- marked, set, super. -/

-- written by a program of this work (mk.sh, over the kit's print; stubs are proved by hand)
namespace Go.Proofs.Ytihnifpcpokpjaa.PD
open Go.RowKit Go.Proofs.YtihnifpcpokpjaaW.PrintWords Go.Proofs.YtihnifpcpokpjaaW.PrintLast Go.Proofs.YtihnifpcpokpjaaW.PrintMore
attribute [local go_sem] isSome_setCell max2_int min2_int max_two min_two max_three min_three max_four min_four   -- for this text's walks alone
set_option linter.unusedVariables false
set_option linter.unusedSimpArgs false

/-! ### alloc_system: function 45 -/
def alloc_system.l0 : Nat → List Int → Int → Int → Option (List Int)
  | 0, _, _, _ => none
  | k + 1, x3, x6, x7 => if x7 < x6 then (if x3.length < 17592186044416 then (alloc_system.l0 k (x3 ++ [x7]) x6 (wrap64 (x7 + 1))) else (none)) else (some x3)
def alloc_system.f (k : Nat) (a0 : Int) : Option (List Int) := (alloc_first.f a0).bind fun t282 => (alloc_system.l0 k ([] : List Int) t282 0)
theorem alloc_system.mono_l : ∀ k, (∀ y0 y1 y2, LeO (alloc_system.l0 k y0 y1 y2) (alloc_system.l0 (k + 1) y0 y1 y2))
  | 0 => fun _ _ _ r h => by simp [alloc_system.l0] at h
  | k + 1 => by
    have ih0 := alloc_system.mono_l k
    · intro y0 y1 y2
      unfold alloc_system.l0
      repeat' first
      | (with_reducible exact ih0 _ _ _)
      | (with_reducible exact LeO.refl _)
      | (with_reducible exact LeO.none _)
      | (with_reducible refine LeO.ite ?_ ?_)
      | (with_reducible refine LeO.bind ?_ (fun _ => ?_))
      | exact ih0 _ _ _
      | exact LeO.none _
      | refine LeO.ite ?_ ?_
      | refine LeO.bind ?_ (fun _ => ?_)
theorem alloc_system.mono : ∀ a0 k, LeO (alloc_system.f k a0) (alloc_system.f (k + 1) a0) := by
  intro a0 k
  have ih0 := alloc_system.mono_l k
  unfold alloc_system.f
  repeat' first
      | (with_reducible exact ih0 _ _ _)
      | (with_reducible exact LeO.refl _)
      | (with_reducible exact LeO.none _)
      | (with_reducible refine LeO.ite ?_ ?_)
      | (with_reducible refine LeO.bind ?_ (fun _ => ?_))
      | exact ih0 _ _ _
      | exact LeO.none _
      | refine LeO.ite ?_ ?_
      | refine LeO.bind ?_ (fun _ => ?_)
set_option maxHeartbeats 8000000 in
set_option maxRecDepth 100000 in
theorem alloc_system.calls (k : Nat) (a0 : Int) (r : List Int) (w : World) (h : alloc_system.f k a0 = some r) :
    Calls Try.prog 45 #[.int .i64 a0] w fun e w' => ∃ v0_ : Value, e = .returned (v0_) ∧ Kd.R (Kd.int .i64) 3 w' w.heap.size (fun _ => True) v0_ r ∧ Below w.heap.size w w' := by
  have HB := Aside0.mk (Below.refl w.heap.size w)
  have H : ((alloc_first.f a0).bind fun t282 => (alloc_system.l0 k ([] : List Int) t282 0)) = some r := h
  clear h
  replace H := Option.bind_eq_some_iff.mp H
  obtain ⟨t282, A20, H⟩ := H
  replace H : (alloc_system.l0 k ([] : List Int) t282 0) = some r := H
  have A2 := Aside0.mk A20
  clear A20
  have H' := Aside0.mk H
  clear H
  go_enter Try.func45, Try.ntmps45
  go_wp2_with (first | ((with_reducible refine gate_callee (f := 34) rfl ?_); refine goesL_ (some 6) rfl rfl Try.func34 (by kernel_rfl) rfl #[.int .i64 a0] rfl (by (try simp only [List.map_toArray, List.map_cons, List.map_nil]); first | done | rfl | (simp only [List.length_drop, List.length_take]; rfl)) ?_; (with_reducible refine (alloc_first.calls a0 t282 _ A2.out).mono ?_); rintro e w3 ⟨rfl, hb⟩; refine ⟨_, rfl, ?_⟩; have n0_ := Aside0.mk (below_step (by repeat (first | (with_reducible first | exact HB.out | apply below_alloc | apply pw_below_drewN | apply below_drew1) | exact HB.out)) hb); clear HB; have HB := n0_; clear n0_; (try clear hb); (try clear hb2); (try clear hk); (try clear hi)))
  go_loopg [3, 7] k (fun kq v3 v7 w' => ∃ (x3_1 : List Int) (x7_1 : Int), v7 = .int .i64 x7_1 ∧ Aside0 (alloc_system.l0 kq x3_1 t282 x7_1 = some r) ∧ Aside0 (kq ≤ k) ∧ Aside0 (Kd.R (Kd.int .i64) 3 w' w.heap.size (fun _ => True) v3 x3_1) ∧ Aside0 (Below w.heap.size w w'))
  case atStart => exact ⟨(([] : List Int)), (0), (by first | rfl | (simp; done) | (simp [*]; done)), H', ⟨Nat.le_refl _⟩, ⟨by first | exact Kd.R_nil _ _ _ _ _ | exact Kd.N_nil _ _ _ _ _ | exact Kd.V_nil _ _ _ _ _ | exact Kd.Q_nil _ _ _ _ _ | exact Kd.S_nil _ _ _ _ _⟩, ⟨by repeat (first | (with_reducible first | exact HB.out | apply below_alloc | apply pw_below_drewN | apply below_drew1) | exact HB.out)⟩⟩
  case round =>
    clear H'
    try clear p2
    try clear c3
    obtain ⟨x3_1, x7_1, rfl, HA, HK1, HO_3, HB⟩ := hrel
    cases gk with
    | zero => exact absurd HA.out (by simp [alloc_system.l0])
    | succ k1 =>
      have H := HA.out
      clear HA
      simp only [alloc_system.l0] at H
      by_cases c4 : x7_1 < t282
      · rw [if_pos c4] at H
        have c4b0 : decide (x7_1 < t282) = true := decide_eq_true c4
        clear c4
        by_cases c5 : x3_1.length < 17592186044416
        · rw [if_pos c5] at H
          have LMc5 := Aside0.mk c5
          clear c5
          obtain ⟨y283, hy283⟩ : ∃ y_ : List Int, y_ = (x3_1 ++ [x7_1]) := ⟨_, rfl⟩
          replace H : (alloc_system.l0 k1 y283 t282 (wrap64 (x7_1 + 1))) = some r := by first | (rw [hy283]; with_reducible exact H) | (have H2_ := (Option.bind_some _ _).symm.trans H; rw [hy283]; with_reducible exact H2_) | (have H2_ := (Option.bind_some _ _).symm.trans H; with_reducible exact H2_) | with_reducible exact H | (rw [hy283]; exact H) | exact H
          have Ny283 := Aside0.mk hy283
          clear hy283
          have H' := Aside0.mk H
          clear H
          go_wp2_with (first | ((with_reducible refine gate_builtin (b := .append) (xs := #[.tmp 10, .tmp 12]) rfl ?_); at_builtin; refine Kd.R_append (Kd.int .i64) (w0 := w) w.heap.size rfl (.tmp 10) (.tmp 12) 23 3 (.int .i64 0) 8 rfl Try.underlying23 info3 rfl (by decide) (by omega) u3 x3_1 x7_1 [.int .i64 x7_1] (fun _ => True) (fun _ => False) rfl rfl ?aP (fun _ hk => hk.elim) ?aF ?aO ?aB ?aS ?aL ?_; (case aP => exact rfl); (case aB => exact (by repeat (first | (with_reducible first | exact HB.out | apply below_alloc | apply pw_below_drewN | apply below_drew1) | exact HB.out))); (case aF => exact (fun _ _ => trivial)); (case aO => exact (by (with_reducible repeat (first | apply Kd.R_alloc | apply Kd.R_drewN | apply Kd.R_drew)); exact HO_3.out)); (case aS => exact (below_size (by repeat (first | (with_reducible first | exact HB.out | apply below_alloc | apply pw_below_drewN | apply below_drew1) | exact HB.out)))); (case aL => have := LMc5.out; omega); intro v284 w6 ho hb hg hat; rw [← Ny283.out] at ho; have n0_ := Aside0.mk (hb); have n1_ := Aside0.mk (ho); clear HB; clear HO_3; have HB := n0_; have HO285 := n1_; clear n0_ n1_; clear ho hb hg hat))
          go_roundg k1
          case measure => have := HK1.out; omega
          case rel => exact ⟨(y283), (wrap64 (x7_1 + 1)), (by first | rfl | (simp; done) | (simp [*]; done)), H', ⟨by have := HK1.out; omega⟩, ⟨by (with_reducible repeat (first | apply Kd.R_alloc | apply Kd.R_drewN | apply Kd.R_drew)); exact HO285.out⟩, ⟨by repeat (first | (with_reducible first | exact HB.out | apply below_alloc | apply pw_below_drewN | apply below_drew1) | exact HB.out)⟩⟩
        · rw [if_neg c5] at H
          exact absurd H (by simp)
      · rw [if_neg c4] at H
        have c4b0 : decide (x7_1 < t282) = false := decide_eq_false c4
        clear c4
        obtain rfl := Option.some.inj H
        go_wp2
        go_ret
        exact ⟨_, by first | rfl | (simp [errW_none, errW_some] <;> rfl) | (simp [*, errW_none, errW_some] <;> rfl), by (with_reducible repeat (first | apply Kd.R_alloc | apply Kd.R_drewN | apply Kd.R_drew)); exact HO_3.out, by repeat (first | (with_reducible first | exact HB.out | apply below_alloc | apply pw_below_drewN | apply below_drew1) | exact HB.out)⟩

end Go.Proofs.Ytihnifpcpokpjaa.PD
-- written by a program of this work (mk.sh, over the kit's print; stubs are proved by hand)
namespace Go.Proofs.Ytihnifpcpokpjaa.PD
open Go.RowKit Go.Proofs.YtihnifpcpokpjaaW.PrintWords Go.Proofs.YtihnifpcpokpjaaW.PrintLast Go.Proofs.YtihnifpcpokpjaaW.PrintMore
attribute [local go_sem] isSome_setCell max2_int min2_int max_two min_two max_three min_three max_four min_four   -- for this text's walks alone
set_option linter.unusedVariables false
set_option linter.unusedSimpArgs false

/-! ### alloc_Make: function 23 -/
def alloc_Make.j0 : Nat → Int → Bool → Option (List ByteArray × Int)
  | 0, _, _ => none
  | k + 1, x0, x10 => if x10 = true then (some (([] : List ByteArray), 13)) else ((alloc_zeros.f).bind fun t286 => ((slices_Repeat_string_string.f (([t286] : List ByteArray)) x0).bind fun t290 => ((alloc_super.f x0).bind fun t293 => ((alloc_zeros.f).bind fun t294 => ((alloc_system.f k x0).bind fun t295 => ((alloc_marked.f t294 t295 true).bind fun t298 => (if 0 < (t290.length : Int) then (if 1 < (t290.length : Int) then (some (((t290.set (0 : Int).toNat t293).set (1 : Int).toNat t298), 0)) else (none)) else (none))))))))
def alloc_Make.f (k : Nat) (a0 : Int) : Option (List ByteArray × Int) := if a0 < 8 then (alloc_Make.j0 k a0 true) else (alloc_Make.j0 k a0 (decide (a0 > 512)))
theorem alloc_Make.mono_l : ∀ k, (∀ y0 y1, LeO (alloc_Make.j0 k y0 y1) (alloc_Make.j0 (k + 1) y0 y1))
  | 0 => fun _ _ r h => by simp [alloc_Make.j0] at h
  | k + 1 => by
    have ih0 := alloc_Make.mono_l k
    · intro y0 y1
      unfold alloc_Make.j0
      repeat' first
      | (with_reducible exact ih0 _ _)
      | (with_reducible exact alloc_system.mono _ _)
      | (with_reducible exact LeO.refl _)
      | (with_reducible exact LeO.none _)
      | (with_reducible refine LeO.ite ?_ ?_)
      | (with_reducible refine LeO.bind ?_ (fun _ => ?_))
      | exact ih0 _ _
      | exact alloc_system.mono _ _
      | exact LeO.none _
      | refine LeO.ite ?_ ?_
      | refine LeO.bind ?_ (fun _ => ?_)
theorem alloc_Make.mono : ∀ a0 k, LeO (alloc_Make.f k a0) (alloc_Make.f (k + 1) a0) := by
  intro a0 k
  have ih0 := alloc_Make.mono_l k
  unfold alloc_Make.f
  repeat' first
      | (with_reducible exact ih0 _ _)
      | (with_reducible exact alloc_system.mono _ _)
      | (with_reducible exact LeO.refl _)
      | (with_reducible exact LeO.none _)
      | (with_reducible refine LeO.ite ?_ ?_)
      | (with_reducible refine LeO.bind ?_ (fun _ => ?_))
      | exact ih0 _ _
      | exact alloc_system.mono _ _
      | exact LeO.none _
      | refine LeO.ite ?_ ?_
      | refine LeO.bind ?_ (fun _ => ?_)
set_option maxHeartbeats 8000000 in
set_option maxRecDepth 100000 in
theorem alloc_Make.calls (k : Nat) (a0 : Int) (r1 : List ByteArray) (r2 : Int) (w : World) (h : alloc_Make.f k a0 = some (r1, r2)) :
    Calls Try.prog 23 #[.int .i64 a0] w fun e w' => ∃ v0_ : Value, e = .returned (.tuple #[v0_, .int .i64 r2]) ∧ Kd.R Kd.string 9 w' w.heap.size (fun _ => True) v0_ r1 ∧ Below w.heap.size w w' := by
  have HB := Aside0.mk (Below.refl w.heap.size w)
  have H : (if a0 < 8 then (alloc_Make.j0 k a0 true) else (alloc_Make.j0 k a0 (decide (a0 > 512)))) = some (r1, r2) := h
  clear h
  have HC2 := Aside0.mk H
  clear H
  go_enter Try.func23, Try.ntmps23
  go_upto_region 1 with (fail)
  go_cut [10] (fun v10 wc => ∃ (kq : Nat) (x10_1 : Bool), v10 = .bool x10_1 ∧ Aside0 (alloc_Make.j0 kq a0 x10_1 = some (r1, r2)) ∧ Aside0 (kq ≤ k) ∧ Aside0 (Below w.heap.size w wc))
  case first =>
    have H := HC2.out
    clear HC2
    by_cases c3 : a0 < 8
    · rw [if_pos c3] at H
      have c3b0 : decide (a0 < 8) = true := decide_eq_true c3
      clear c3
      (first | rw [c3b0] | (simp only [i64_w, i32_w]; rw [c3b0]) | skip)
      have H' := Aside0.mk H
      clear H
      go_wp2
      go_meet
      case rel => exact ⟨_, (true), (by first | rfl | (simp; done) | (simp [*]; done)), H', ⟨by first | omega | exact Nat.le_refl _⟩, ⟨by repeat (first | (with_reducible first | exact HB.out | apply below_alloc | apply pw_below_drewN | apply below_drew1) | exact HB.out)⟩⟩
    · rw [if_neg c3] at H
      have c3b0 : decide (a0 < 8) = false := decide_eq_false c3
      clear c3
      (first | rw [c3b0] | (simp only [i64_w, i32_w]; rw [c3b0]) | skip)
      have H' := Aside0.mk H
      clear H
      go_wp2
      go_meet
      case rel => exact ⟨_, (decide (a0 > 512)), (by first | rfl | (simp; done) | (simp [*]; done)), H', ⟨by first | omega | exact Nat.le_refl _⟩, ⟨by repeat (first | (with_reducible first | exact HB.out | apply below_alloc | apply pw_below_drewN | apply below_drew1) | exact HB.out)⟩⟩
  case rest =>
    clear HC2
    try clear c2
    try clear p2
    try clear c3
    try clear c3b0
    obtain ⟨kq, x10_1, rfl, HA, HJ1, HB⟩ := hcut
    cases kq with
    | zero => exact absurd HA.out (by simp [alloc_Make.j0])
    | succ kj1 =>
      have H := HA.out
      clear HA
      simp only [alloc_Make.j0] at H
      by_cases c4 : x10_1 = true
      · subst c4
        have H1 : (some (([] : List ByteArray), 13)) = some (r1, r2) := by rw [if_pos rfl] at H; exact H
        clear H
        have H := H1
        clear H1
        simp only [Option.some.injEq, Prod.mk.injEq] at H
        obtain ⟨rfl, rfl⟩ := H
        go_wp2
        go_ret2
        exact ⟨_, by first | rfl | (simp [errW_none, errW_some] <;> rfl) | (simp [*, errW_none, errW_some] <;> rfl), by first | exact Kd.R_nil _ _ _ _ _ | exact Kd.N_nil _ _ _ _ _ | exact Kd.V_nil _ _ _ _ _ | exact Kd.Q_nil _ _ _ _ _ | exact Kd.S_nil _ _ _ _ _, by repeat (first | (with_reducible first | exact HB.out | apply below_alloc | apply pw_below_drewN | apply below_drew1) | exact HB.out)⟩
      · replace c4 := Bool.eq_false_iff.mpr c4
        subst c4
        have H1 : ((alloc_zeros.f).bind fun t286 => ((slices_Repeat_string_string.f (([t286] : List ByteArray)) a0).bind fun t290 => ((alloc_super.f a0).bind fun t293 => ((alloc_zeros.f).bind fun t294 => ((alloc_system.f kj1 a0).bind fun t295 => ((alloc_marked.f t294 t295 true).bind fun t298 => (if 0 < (t290.length : Int) then (if 1 < (t290.length : Int) then (some (((t290.set (0 : Int).toNat t293).set (1 : Int).toNat t298), 0)) else (none)) else (none)))))))) = some (r1, r2) := by rw [if_neg (show ¬ (false = true) by decide)] at H; exact H
        clear H
        have H := H1
        clear H1
        replace H := Option.bind_eq_some_iff.mp H
        obtain ⟨t286, A50, H⟩ := H
        replace H : ((slices_Repeat_string_string.f (([t286] : List ByteArray)) a0).bind fun t290 => ((alloc_super.f a0).bind fun t293 => ((alloc_zeros.f).bind fun t294 => ((alloc_system.f kj1 a0).bind fun t295 => ((alloc_marked.f t294 t295 true).bind fun t298 => (if 0 < (t290.length : Int) then (if 1 < (t290.length : Int) then (some (((t290.set (0 : Int).toNat t293).set (1 : Int).toNat t298), 0)) else (none)) else (none))))))) = some (r1, r2) := H
        have A5 := Aside0.mk A50
        clear A50
        obtain ⟨y287, hy287⟩ : ∃ y_ : List ByteArray, y_ = (([t286] : List ByteArray)) := ⟨_, rfl⟩
        replace H : ((slices_Repeat_string_string.f y287 a0).bind fun t290 => ((alloc_super.f a0).bind fun t293 => ((alloc_zeros.f).bind fun t294 => ((alloc_system.f kj1 a0).bind fun t295 => ((alloc_marked.f t294 t295 true).bind fun t298 => (if 0 < (t290.length : Int) then (if 1 < (t290.length : Int) then (some (((t290.set (0 : Int).toNat t293).set (1 : Int).toNat t298), 0)) else (none)) else (none))))))) = some (r1, r2) := by first | (rw [hy287]; with_reducible exact H) | (have H2_ := (Option.bind_some _ _).symm.trans H; rw [hy287]; with_reducible exact H2_) | (have H2_ := (Option.bind_some _ _).symm.trans H; with_reducible exact H2_) | with_reducible exact H | (rw [hy287]; exact H) | exact H
        have Ny287 := Aside0.mk hy287
        clear hy287
        replace H := Option.bind_eq_some_iff.mp H
        obtain ⟨t290, A60, H⟩ := H
        replace H : ((alloc_super.f a0).bind fun t293 => ((alloc_zeros.f).bind fun t294 => ((alloc_system.f kj1 a0).bind fun t295 => ((alloc_marked.f t294 t295 true).bind fun t298 => (if 0 < (t290.length : Int) then (if 1 < (t290.length : Int) then (some (((t290.set (0 : Int).toNat t293).set (1 : Int).toNat t298), 0)) else (none)) else (none)))))) = some (r1, r2) := H
        have A6 := Aside0.mk A60
        clear A60
        replace H := Option.bind_eq_some_iff.mp H
        obtain ⟨t293, A70, H⟩ := H
        replace H : ((alloc_zeros.f).bind fun t294 => ((alloc_system.f kj1 a0).bind fun t295 => ((alloc_marked.f t294 t295 true).bind fun t298 => (if 0 < (t290.length : Int) then (if 1 < (t290.length : Int) then (some (((t290.set (0 : Int).toNat t293).set (1 : Int).toNat t298), 0)) else (none)) else (none))))) = some (r1, r2) := H
        have A7 := Aside0.mk A70
        clear A70
        replace H := Option.bind_eq_some_iff.mp H
        obtain ⟨t294, A80, H⟩ := H
        replace H : ((alloc_system.f kj1 a0).bind fun t295 => ((alloc_marked.f t294 t295 true).bind fun t298 => (if 0 < (t290.length : Int) then (if 1 < (t290.length : Int) then (some (((t290.set (0 : Int).toNat t293).set (1 : Int).toNat t298), 0)) else (none)) else (none)))) = some (r1, r2) := H
        have A8 := Aside0.mk A80
        clear A80
        replace H := Option.bind_eq_some_iff.mp H
        obtain ⟨t295, A90, H⟩ := H
        replace H : ((alloc_marked.f t294 t295 true).bind fun t298 => (if 0 < (t290.length : Int) then (if 1 < (t290.length : Int) then (some (((t290.set (0 : Int).toNat t293).set (1 : Int).toNat t298), 0)) else (none)) else (none))) = some (r1, r2) := H
        have A9 := Aside0.mk A90
        clear A90
        replace H := Option.bind_eq_some_iff.mp H
        obtain ⟨t298, A100, H⟩ := H
        replace H : (if 0 < (t290.length : Int) then (if 1 < (t290.length : Int) then (some (((t290.set (0 : Int).toNat t293).set (1 : Int).toNat t298), 0)) else (none)) else (none)) = some (r1, r2) := H
        have A10 := Aside0.mk A100
        clear A100
        by_cases c11 : 0 < (t290.length : Int)
        · rw [if_pos c11] at H
          have c11b0 : decide (0 < (t290.length : Int)) = true := decide_eq_true c11
          have c11b1 : decide (0 < t290.length) = true := decide_eq_true (by omega)
          clear c11
          obtain ⟨y299, hy299⟩ : ∃ y_ : List ByteArray, y_ = (t290.set (0 : Int).toNat t293) := ⟨_, rfl⟩
          replace H : (if 1 < (t290.length : Int) then (some ((y299.set (1 : Int).toNat t298), 0)) else (none)) = some (r1, r2) := by first | (rw [hy299]; with_reducible exact H) | (have H2_ := (Option.bind_some _ _).symm.trans H; rw [hy299]; with_reducible exact H2_) | (have H2_ := (Option.bind_some _ _).symm.trans H; with_reducible exact H2_) | with_reducible exact H | (rw [hy299]; exact H) | exact H
          have Ny299 := Aside0.mk hy299
          clear hy299
          by_cases c13 : 1 < (t290.length : Int)
          · rw [if_pos c13] at H
            have c13b0 : decide (1 < (t290.length : Int)) = true := decide_eq_true c13
            have c13b1 : decide (1 < t290.length) = true := decide_eq_true (by omega)
            clear c13
            obtain ⟨y300, hy300⟩ : ∃ y_ : List ByteArray, y_ = (y299.set (1 : Int).toNat t298) := ⟨_, rfl⟩
            replace H : (some (y300, 0)) = some (r1, r2) := by first | (rw [hy300]; with_reducible exact H) | (have H2_ := (Option.bind_some _ _).symm.trans H; rw [hy300]; with_reducible exact H2_) | (have H2_ := (Option.bind_some _ _).symm.trans H; with_reducible exact H2_) | with_reducible exact H | (rw [hy300]; exact H) | exact H
            have Ny300 := Aside0.mk hy300
            clear hy300
            simp only [Option.some.injEq, Prod.mk.injEq] at H
            obtain ⟨rfl, rfl⟩ := H
            go_wp2_with (first | ((with_reducible refine gate_callee (f := 29) rfl ?_); refine goesL_ (some 11) rfl rfl Try.func29 (by kernel_rfl) rfl #[] rfl (by (try simp only [List.map_toArray, List.map_cons, List.map_nil]); first | done | rfl | (simp only [List.length_drop, List.length_take]; rfl)) ?_; (with_reducible refine (alloc_zeros.calls  t286 _ A5.out).mono ?_); rintro e w15 ⟨rfl, hb⟩; refine ⟨_, rfl, ?_⟩; have n0_ := Aside0.mk (below_step (by repeat (first | (with_reducible first | exact HB.out | apply below_alloc | apply pw_below_drewN | apply below_drew1) | exact HB.out)) hb); clear HB; have HB := n0_; clear n0_; (try clear hb); (try clear hb2); (try clear hk); (try clear hi)) | ((with_reducible refine gate_dst (N := 12) rfl ?_); refine Kd.R_lit Kd.string _ 9 ?hg (N := 12) ?hd (xs := ([t286] : List ByteArray)) (inner := [.string t286]) (ok := fun _ => True) (okp := fun _ => True) ?hr ?hp (fun _ hk => hk) trivial (Below.refl _ _) (Nat.le_refl _) (by simp) ?_; (case hd => rfl); (case hg => rfl); (case hr => first | (go_simp; done) | (go_simp; rfl)); (case hp => exact (Reps.one (show Kd.M Kd.string _ _ _ t286 [.string t286] from rfl) (Reps.none _ _))); intro v288 w16 ho17 hb hg_ hnew_; clear hg_ hnew_; (first | rw [← Ny287.out] at ho17 | (simp only [Int.reduceToNat] at ho17; rw [← Ny287.out] at ho17)); have n0_ := Aside0.mk (Kd.R_lower ho17 (below_size (by repeat (first | (with_reducible first | exact HB.out | apply below_alloc | apply pw_below_drewN | apply below_drew1) | exact HB.out)))); have n1_ := Aside0.mk (below_step (by repeat (first | (with_reducible first | exact HB.out | apply below_alloc | apply pw_below_drewN | apply below_drew1) | exact HB.out)) hb); clear HB; have HO289 := n0_; have HB := n1_; clear n0_ n1_; clear hb ho17; obtain ⟨Ao18, co18, eo18⟩ := Kd.R_slice HO289.out; subst eo18) | ((with_reducible refine gate_callee (f := 43) rfl ?_); refine goesL_ (some 14) rfl rfl Try.func43 (by kernel_rfl) rfl #[.slice Ao18 y287.length co18, .int .i64 a0] rfl (by (try simp only [List.map_toArray, List.map_cons, List.map_nil]); first | done | rfl | (simp only [List.length_drop, List.length_take]; rfl)) ?_; (with_reducible refine (slices_Repeat_string_string.calls _ _ y287 a0 t290 _ ?side1 ?side2 A6.out).mono ?_); (case side1 => repeat (first | exact (Kd.R_reads' HO289.out).2.2 | (with_reducible refine Kd.C_alloc ?_ _) | (with_reducible refine Kd.C_drewN ?_ _) | (with_reducible refine Kd.C_drew ?_))); (case side2 => exact (Kd.R_reads' HO289.out).2.1); rintro e w19 ⟨v291, rfl, ho0, hb⟩; refine ⟨_, rfl, ?_⟩; have n0_ := Aside0.mk (Kd.R_elder' (by (with_reducible repeat (first | apply Kd.R_alloc | apply Kd.R_drewN | apply Kd.R_drew)); exact HO289.out) (Kd.R_base ho0) hb); have n1_ := Aside0.mk (Kd.R_lower (Kd.R_new' ho0 (Kd.R_lt (by (with_reducible repeat (first | apply Kd.R_alloc | apply Kd.R_drewN | apply Kd.R_drew)); exact HO289.out))) (below_size (by repeat (first | (with_reducible first | exact HB.out | apply below_alloc | apply pw_below_drewN | apply below_drew1) | exact HB.out)))); have n2_ := Aside0.mk (below_step (by repeat (first | (with_reducible first | exact HB.out | apply below_alloc | apply pw_below_drewN | apply below_drew1) | exact HB.out)) hb); clear HO289; clear HB; have HO289 := n0_; have HO292 := n1_; have HB := n2_; clear n0_ n1_ n2_; (try clear hb); (try clear hb2); (try clear hk); (try clear hi); (try clear ho0)) | ((with_reducible refine gate_callee (f := 44) rfl ?_); refine goesL_ (some 18) rfl rfl Try.func44 (by kernel_rfl) rfl #[.int .i64 a0] rfl (by (try simp only [List.map_toArray, List.map_cons, List.map_nil]); first | done | rfl | (simp only [List.length_drop, List.length_take]; rfl)) ?_; (with_reducible refine (alloc_super.calls a0 t293 _ A7.out).mono ?_); rintro e w20 ⟨rfl, hb⟩; refine ⟨_, rfl, ?_⟩; have n0_ := Aside0.mk (Kd.R_below (by (with_reducible repeat (first | apply Kd.R_alloc | apply Kd.R_drewN | apply Kd.R_drew)); exact HO289.out) hb); have n1_ := Aside0.mk (Kd.R_below (by (with_reducible repeat (first | apply Kd.R_alloc | apply Kd.R_drewN | apply Kd.R_drew)); exact HO292.out) hb); have n2_ := Aside0.mk (below_step (by repeat (first | (with_reducible first | exact HB.out | apply below_alloc | apply pw_below_drewN | apply below_drew1) | exact HB.out)) hb); clear HO289; clear HO292; clear HB; have HO289 := n0_; have HO292 := n1_; have HB := n2_; clear n0_ n1_ n2_; (try clear hb); (try clear hb2); (try clear hk); (try clear hi)) | ((with_reducible refine gate_callee (f := 29) rfl ?_); refine goesL_ (some 19) rfl rfl Try.func29 (by kernel_rfl) rfl #[] rfl (by (try simp only [List.map_toArray, List.map_cons, List.map_nil]); first | done | rfl | (simp only [List.length_drop, List.length_take]; rfl)) ?_; (with_reducible refine (alloc_zeros.calls  t294 _ A8.out).mono ?_); rintro e w21 ⟨rfl, hb⟩; refine ⟨_, rfl, ?_⟩; have n0_ := Aside0.mk (Kd.R_below (by (with_reducible repeat (first | apply Kd.R_alloc | apply Kd.R_drewN | apply Kd.R_drew)); exact HO289.out) hb); have n1_ := Aside0.mk (Kd.R_below (by (with_reducible repeat (first | apply Kd.R_alloc | apply Kd.R_drewN | apply Kd.R_drew)); exact HO292.out) hb); have n2_ := Aside0.mk (below_step (by repeat (first | (with_reducible first | exact HB.out | apply below_alloc | apply pw_below_drewN | apply below_drew1) | exact HB.out)) hb); clear HO289; clear HO292; clear HB; have HO289 := n0_; have HO292 := n1_; have HB := n2_; clear n0_ n1_ n2_; (try clear hb); (try clear hb2); (try clear hk); (try clear hi)) | ((with_reducible refine gate_callee (f := 45) rfl ?_); refine goesL_ (some 21) rfl rfl Try.func45 (by kernel_rfl) rfl #[.int .i64 a0] rfl (by (try simp only [List.map_toArray, List.map_cons, List.map_nil]); first | done | rfl | (simp only [List.length_drop, List.length_take]; rfl)) ?_; (with_reducible refine (alloc_system.calls kj1 a0 t295 _ A9.out).mono ?_); rintro e w22 ⟨v296, rfl, ho0, hb⟩; refine ⟨_, rfl, ?_⟩; have n0_ := Aside0.mk (Kd.R_below (by (with_reducible repeat (first | apply Kd.R_alloc | apply Kd.R_drewN | apply Kd.R_drew)); exact HO289.out) hb); have n1_ := Aside0.mk (Kd.R_below (by (with_reducible repeat (first | apply Kd.R_alloc | apply Kd.R_drewN | apply Kd.R_drew)); exact HO292.out) hb); have n2_ := Aside0.mk (Kd.R_lower ho0 (below_size (by repeat (first | (with_reducible first | exact HB.out | apply below_alloc | apply pw_below_drewN | apply below_drew1) | exact HB.out)))); have n3_ := Aside0.mk (below_step (by repeat (first | (with_reducible first | exact HB.out | apply below_alloc | apply pw_below_drewN | apply below_drew1) | exact HB.out)) hb); clear HO289; clear HO292; clear HB; have HO289 := n0_; have HO292 := n1_; have HO297 := n2_; have HB := n3_; clear n0_ n1_ n2_ n3_; (try clear hb); (try clear hb2); (try clear hk); (try clear hi); (try clear ho0); obtain ⟨Ao23, co23, eo23⟩ := Kd.R_slice HO297.out; subst eo23) | ((with_reducible refine gate_callee (f := 30) rfl ?_); refine goesL_ (some 22) rfl rfl Try.func30 (by kernel_rfl) rfl #[.string t294, .slice Ao23 t295.length co23, .bool true] rfl (by (try simp only [List.map_toArray, List.map_cons, List.map_nil]); first | done | rfl | (simp only [List.length_drop, List.length_take]; rfl)) ?_; (with_reducible refine (alloc_marked.calls t294 _ _ t295 true t298 _ ?side1 ?side2 A10.out).mono ?_); (case side1 => repeat (first | exact (Kd.R_reads' HO297.out).2.2 | (with_reducible refine Kd.C_alloc ?_ _) | (with_reducible refine Kd.C_drewN ?_ _) | (with_reducible refine Kd.C_drew ?_))); (case side2 => exact (Kd.R_reads' HO297.out).2.1); rintro e w24 ⟨rfl, hb⟩; refine ⟨_, rfl, ?_⟩; have n0_ := Aside0.mk (Kd.R_below (by (with_reducible repeat (first | apply Kd.R_alloc | apply Kd.R_drewN | apply Kd.R_drew)); exact HO289.out) hb); have n1_ := Aside0.mk (Kd.R_below (by (with_reducible repeat (first | apply Kd.R_alloc | apply Kd.R_drewN | apply Kd.R_drew)); exact HO292.out) hb); have n2_ := Aside0.mk (Kd.R_below (by (with_reducible repeat (first | apply Kd.R_alloc | apply Kd.R_drewN | apply Kd.R_drew)); exact HO297.out) hb); have n3_ := Aside0.mk (below_step (by repeat (first | (with_reducible first | exact HB.out | apply below_alloc | apply pw_below_drewN | apply below_drew1) | exact HB.out)) hb); clear HO289; clear HO292; clear HO297; clear HB; have HO289 := n0_; have HO292 := n1_; have HO297 := n2_; have HB := n3_; clear n0_ n1_ n2_ n3_; (try clear hb); (try clear hb2); (try clear hk); (try clear hi); have p12 : 0 ≤ (0 : Int) := (by omega); have q12 : (0 : Int) < ((t290.length : Int) : Int) := of_decide_eq_true (by first | (with_reducible assumption) | assumption); have qi12 : (0 < t290.length) = True := eq_true (by omega); obtain ⟨go12, co12, eo12, gb12, gl12, cl12, HG12⟩ := Kd.R_form HO292.out (by omega); (first | cases eo12 | (injection eo12 with ea_ en_ ec_; (first | subst ea_ | (injection ea_ with ea_; subst ea_)); subst ec_; clear en_)); have GB12 := Aside0.mk gb12; have GG12 := Aside0.mk HG12; clear gb12 gl12 HG12; obtain ⟨hx12_0, hf12_0⟩ := Kd.R_celln (⟨#[]⟩ : ByteArray) HO292.out (0 : Int) p12 q12; (try rw [show ((0 : Int)).toNat = 0 from rfl] at hx12_0); (try simp only [Nat.reduceMul, Nat.zero_mul, Nat.zero_add, Nat.reduceAdd] at hx12_0); (try rw [show ((0 : Int)).toNat = 0 from rfl] at hf12_0); (try simp only [Nat.reduceMul, Nat.zero_mul, Nat.zero_add, Nat.reduceAdd] at hf12_0); replace p12 := eq_true p12; replace q12 := eq_true q12; have n_ := Aside0.mk (Kd.R_mono (ok' := (fun k_ => some k_ ≠ (.slice Ao18 y287.length co18 : Value).ownBlock)) HO292.out (fun k_ hk => hk.2)); clear HO292; have HO292 := n_; clear n_; obtain ⟨hy25_, hz25_⟩ := Kd.R_celln (⟨#[]⟩ : ByteArray) HO292.out (0 : Int) (by omega) (of_decide_eq_true (by first | (with_reducible assumption) | assumption)); (try simp only [Int.reduceToNat, Int.toNat_zero, Int.toNat_ofNat, Nat.reduceMul, Nat.zero_mul, Nat.zero_add] at hy25_ hz25_); (try rw [show ((0 : Int)).toNat = 0 from rfl] at hy25_); (try rw [show ((0 : Int)).toNat = 0 from rfl] at hz25_); have HP25 := Kd.R_putg HO292.out (0 : Int) t293) | ((with_reducible refine gate_store (t := 9) (p := 23) rfl ?_); refine store_event (t := 9) (p := 23) (v := ?vo_w26) (w1 := (w24.setCell ⟨go12, (0 : Int).toNat, none⟩ (.string t293))) ?hg ?ho ?hn ?hr ?_; (case ho => rfl); (case hg => rfl); (case hn => rfl); (case hr => first | (go_simp; done) | (go_simp; rfl)); intro w26 hw; have hg : w24.grownBy w26 (some go12) := (by rw [hw]; exact HP25.2); have hp_ : Kd.R Kd.string 9 w26 w.heap.size (fun k_ => some k_ ≠ (.slice Ao18 y287.length co18 : Value).ownBlock) (.slice (some ⟨go12, 0, none⟩) t290.length co12) y299 := (by rw [hw, Ny299.out]; exact HP25.1); clear HP25; have n0_ := Aside0.mk (Kd.R_after (v := (.slice (some ⟨go12, 0, none⟩) t290.length co12)) (v1 := (.slice (some ⟨go12, 0, none⟩) t290.length co12)) (ok := (fun _ => True)) (by (with_reducible repeat (first | apply Kd.R_alloc | apply Kd.R_drewN | apply Kd.R_drew)); exact HO289.out) hg (.inl rfl)); have n1_ := Aside0.mk (hp_); have n2_ := Aside0.mk (Kd.R_over' (v := (.slice (some ⟨go12, 0, none⟩) t290.length co12)) (by (with_reducible repeat (first | apply Kd.R_alloc | apply Kd.R_drewN | apply Kd.R_drew)); exact HO297.out) (Kd.R_typed HO292.out) (by decide) hg); have n3_ := Aside0.mk ((by rw [hw]; exact below_set (HB.out) GB12.out : Below w.heap.size w w26)); clear HO289; clear HO292; clear HO297; clear HB; have HO289 := n0_; have HO292 := n1_; have HO297 := n2_; have HB := n3_; clear n0_ n1_ n2_ n3_; clear hg hw hp_; have p14 : 0 ≤ (1 : Int) := (by omega); have q14 : (1 : Int) < ((t290.length : Int) : Int) := of_decide_eq_true (by first | (with_reducible assumption) | assumption); have qi14 : (1 < t290.length) = True := eq_true (by omega); obtain ⟨hx14_0, hf14_0⟩ := Kd.R_celln (⟨#[]⟩ : ByteArray) HO292.out (1 : Int) p14 q14; (try rw [show ((1 : Int)).toNat = 1 from rfl] at hx14_0); (try simp only [Nat.reduceMul, Nat.zero_mul, Nat.zero_add, Nat.reduceAdd] at hx14_0); (try rw [show ((1 : Int)).toNat = 1 from rfl] at hf14_0); (try simp only [Nat.reduceMul, Nat.zero_mul, Nat.zero_add, Nat.reduceAdd] at hf14_0); replace p14 := eq_true p14; replace q14 := eq_true q14; obtain ⟨hy27_, hz27_⟩ := Kd.R_celln (⟨#[]⟩ : ByteArray) HO292.out (1 : Int) (by omega) (of_decide_eq_true (by first | (with_reducible assumption) | assumption)); (try simp only [Int.reduceToNat, Int.toNat_zero, Int.toNat_ofNat, Nat.reduceMul, Nat.zero_mul, Nat.zero_add] at hy27_ hz27_); (try rw [show ((1 : Int)).toNat = 1 from rfl] at hy27_); (try rw [show ((1 : Int)).toNat = 1 from rfl] at hz27_); have HP27 := Kd.R_putg HO292.out (1 : Int) t298) | ((with_reducible refine gate_store (t := 9) (p := 24) rfl ?_); refine store_event (t := 9) (p := 24) (v := ?vo_w28) (w1 := (w26.setCell ⟨go12, (1 : Int).toNat, none⟩ (.string t298))) ?hg ?ho ?hn ?hr ?_; (case ho => rfl); (case hg => rfl); (case hn => rfl); (case hr => first | (go_simp; done) | (go_simp; rfl)); intro w28 hw; have hg : w26.grownBy w28 (some go12) := (by rw [hw]; exact HP27.2); have hp_ : Kd.R Kd.string 9 w28 w.heap.size (fun k_ => some k_ ≠ (.slice Ao18 y287.length co18 : Value).ownBlock) (.slice (some ⟨go12, 0, none⟩) t290.length co12) y300 := (by rw [hw, Ny300.out]; exact HP27.1); clear HP27; have n0_ := Aside0.mk (Kd.R_after (v := (.slice (some ⟨go12, 0, none⟩) t290.length co12)) (v1 := (.slice (some ⟨go12, 0, none⟩) t290.length co12)) (ok := (fun _ => True)) (by (with_reducible repeat (first | apply Kd.R_alloc | apply Kd.R_drewN | apply Kd.R_drew)); exact HO289.out) hg (.inl rfl)); have n1_ := Aside0.mk (hp_); have n2_ := Aside0.mk (Kd.R_over' (v := (.slice (some ⟨go12, 0, none⟩) t290.length co12)) (by (with_reducible repeat (first | apply Kd.R_alloc | apply Kd.R_drewN | apply Kd.R_drew)); exact HO297.out) (Kd.R_typed HO292.out) (by decide) hg); have n3_ := Aside0.mk ((by rw [hw]; exact below_set (HB.out) GB12.out : Below w.heap.size w w28)); clear HO289; clear HO292; clear HO297; clear HB; have HO289 := n0_; have HO292 := n1_; have HO297 := n2_; have HB := n3_; clear n0_ n1_ n2_ n3_; clear hg hw hp_))
            go_ret2
            exact ⟨_, by first | rfl | (simp [errW_none, errW_some] <;> rfl) | (simp [*, errW_none, errW_some] <;> rfl), by (with_reducible repeat (first | apply Kd.R_alloc | apply Kd.R_drewN | apply Kd.R_drew)); exact Kd.R_mono HO292.out (fun _ hk => trivial), by repeat (first | (with_reducible first | exact HB.out | apply below_alloc | apply pw_below_drewN | apply below_drew1) | exact HB.out)⟩
          · rw [if_neg c13] at H
            exact absurd H (by simp)
        · rw [if_neg c11] at H
          exact absurd H (by simp)

end Go.Proofs.Ytihnifpcpokpjaa.PD
