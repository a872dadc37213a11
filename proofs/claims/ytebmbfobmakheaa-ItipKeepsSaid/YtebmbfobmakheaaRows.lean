/-
  NARROWER THAN 'FOR EVERY INPUT', by the rows' own cells (each row's printed sentence says how): ItipTells: loops · ItipKeeps: loops · ItipMakes: loops.
  DERIVED. THE GIVEN ROWS OF THIS SEAT. 3 by the template 'for every input the law returns true; each argument reads behind the call as it read before'; 0 by the template 'total and deterministic' (their statements: YtebmbfobmakheaaTotals.lean).
  GIVEN WITH THE SEED: the statements are not yours to turn. If you find one false, say at which input.
  Laid BY PROGRAM, IN A SANDBOX (cutbox-rows.mjs): the forced cells as the released guide's own fill.sh prints them over the translation 7c4994655e2e519c… (all of the seat's roots in one cut). By AI agents, Wed Nov 11 2026. No macro, syntax, notation, axiom, sorry.
-/
import Derived.Test.YtebmbfobmakheaaChecked
import GoSem.Claim
import GoSem.ClaimJoined
import GoSem.ClaimMapViews
import Derived.JoinedTies
import Derived.KernelRfl
namespace Go.Proofs.Ytebmbfobmakheaa
/- THE CELL 'sum', in the pinned program and in every row, IS THE sha256 OF THE DUMP (.gsa) THAT YtebmbfobmakheaaProg.lean LOADS. Nothing in Lean hashes anything: it is a label: what it is worth is what the hold of that sum in a sandbox is worth. -/
noncomputable def Try.pinned : Pinned := { name := "ytebmbfobmakheaa", sum := "7c4994655e2e519caf7a666a30e7cbfe2fe16433c91e0614290171b15fa487eb", checked := Try.checked }
namespace Rows
def none {H : Type} : Left H := { results := [], args := [] }

/-- 'almanaclaw26.ItipTells': WHATEVER THE INPUT: true; the input reads as it did. -/
def itipTellsSpec : ChangeSpec := { name := "itipTells", fn := fun _ => fun
  | [d1, d2, d3] => { results := [.lit (.bool true)], args := [d1, d2, d3] }
  | _ => none }
def itipTellsRow : OpenClaim := { program := "ytebmbfobmakheaa", sum := "7c4994655e2e519caf7a666a30e7cbfe2fe16433c91e0614290171b15fa487eb", func := "almanac/almanaclaw26.ItipTells", spec := "itipTells", unfollowed := true, recurses := true, loops := true, apart := false }
def ItipTellsSaid : Prop := itipTellsRow.holds Try.pinned (OpenSpec.ofChange itipTellsSpec)

/-- ITS FALSE NEIGHBOUR: 'it returns false'. Refute it at one input. -/
def itipTellsWrong : ChangeSpec := { name := "itipTells", fn := fun _ => fun
  | [d1, d2, d3] => { results := [.lit (.bool false)], args := [d1, d2, d3] }
  | _ => none }
def ItipTellsWrongFalsely : Prop := itipTellsRow.holds Try.pinned (OpenSpec.ofChange itipTellsWrong)

/-- 'almanaclaw26.ItipKeeps': WHATEVER THE INPUT: true; the input reads as it did. -/
def itipKeepsSpec : ChangeSpec := { name := "itipKeeps", fn := fun _ => fun
  | [d1, d2, d3] => { results := [.lit (.bool true)], args := [d1, d2, d3] }
  | _ => none }
def itipKeepsRow : OpenClaim := { program := "ytebmbfobmakheaa", sum := "7c4994655e2e519caf7a666a30e7cbfe2fe16433c91e0614290171b15fa487eb", func := "almanac/almanaclaw26.ItipKeeps", spec := "itipKeeps", unfollowed := true, recurses := true, loops := true, apart := false }
def ItipKeepsSaid : Prop := itipKeepsRow.holds Try.pinned (OpenSpec.ofChange itipKeepsSpec)

/-- ITS FALSE NEIGHBOUR: 'it returns false'. Refute it at one input. -/
def itipKeepsWrong : ChangeSpec := { name := "itipKeeps", fn := fun _ => fun
  | [d1, d2, d3] => { results := [.lit (.bool false)], args := [d1, d2, d3] }
  | _ => none }
def ItipKeepsWrongFalsely : Prop := itipKeepsRow.holds Try.pinned (OpenSpec.ofChange itipKeepsWrong)

/-- 'almanaclaw26.ItipMakes': WHATEVER THE INPUT: true; the input reads as it did. -/
def itipMakesSpec : ChangeSpec := { name := "itipMakes", fn := fun _ => fun
  | [d1, d2, d3] => { results := [.lit (.bool true)], args := [d1, d2, d3] }
  | _ => none }
def itipMakesRow : OpenClaim := { program := "ytebmbfobmakheaa", sum := "7c4994655e2e519caf7a666a30e7cbfe2fe16433c91e0614290171b15fa487eb", func := "almanac/almanaclaw26.ItipMakes", spec := "itipMakes", unfollowed := true, recurses := true, loops := true, apart := false }
def ItipMakesSaid : Prop := itipMakesRow.holds Try.pinned (OpenSpec.ofChange itipMakesSpec)

/-- ITS FALSE NEIGHBOUR: 'it returns false'. Refute it at one input. -/
def itipMakesWrong : ChangeSpec := { name := "itipMakes", fn := fun _ => fun
  | [d1, d2, d3] => { results := [.lit (.bool false)], args := [d1, d2, d3] }
  | _ => none }
def ItipMakesWrongFalsely : Prop := itipMakesRow.holds Try.pinned (OpenSpec.ofChange itipMakesWrong)

/- THE SECOND FORM. 'bulk': how many values and letters a reading holds, each counted each time it is reached (what is shared counts as often as it is met; a slice's spare places count too). A statement '..UptoSaid' is the law's where the arguments, and the package variables that the reading takes, are together of bulk at most 1048576: NARROWER than '..Said'. Prove '..Said' where nothing that the law and all that it calls make is longer than what came in: it says more and counts as full. Else prove '..UptoSaid'. A law counts once. -/
mutual
def uptoBulk {H : Type} : DataW H → Nat
  | .lit (.string bytes) => bytes.length + 1
  | .lit _ => 1
  | .nil => 1
  | .ptr d => uptoBulk d + 1
  | .slice elems spare => uptoBulkAll elems + uptoBulkAll spare + 1
  | .agg parts => uptoBulkAll parts + 1
  | .iface _ d => uptoBulk d + 1
  | .map entries => uptoBulkEntries entries + 1
  | .held _ => 1
def uptoBulkAll {H : Type} : List (DataW H) → Nat
  | [] => 0
  | d :: r => uptoBulk d + uptoBulkAll r
def uptoBulkEntries {H : Type} : List (Lit × DataW H) → Nat
  | [] => 0
  | x :: r => uptoBulkEntry x + uptoBulkEntries r
def uptoBulkEntry {H : Type} : Lit × DataW H → Nat
  | (.string bytes, d) => bytes.length + uptoBulk d + 1
  | (_, d) => uptoBulk d + 1
 end
def uptoSmall : (H : Type) → List (DataW H) → Bool := fun _ ds => decide (uptoBulkAll ds ≤ 1048576)
def OpenSpec.upto (s : _root_.Go.ChangeSpec) : _root_.Go.OpenSpec := { _root_.Go.OpenSpec.ofChange s with cond := some uptoSmall }

/-- 'almanaclaw26.ItipTells', WHERE WHAT IT READS IS OF BULK AT MOST 1048576: true; the input reads as it did. -/
def itipTellsUptoRow : OpenClaim := { program := "ytebmbfobmakheaa", sum := "7c4994655e2e519caf7a666a30e7cbfe2fe16433c91e0614290171b15fa487eb", func := "almanac/almanaclaw26.ItipTells", spec := "itipTells", unfollowed := true, recurses := true, loops := true, apart := false, narrowed := true }
def ItipTellsUptoSaid : Prop := itipTellsUptoRow.holds Try.pinned (OpenSpec.upto itipTellsSpec)

/-- 'almanaclaw26.ItipKeeps', WHERE WHAT IT READS IS OF BULK AT MOST 1048576: true; the input reads as it did. -/
def itipKeepsUptoRow : OpenClaim := { program := "ytebmbfobmakheaa", sum := "7c4994655e2e519caf7a666a30e7cbfe2fe16433c91e0614290171b15fa487eb", func := "almanac/almanaclaw26.ItipKeeps", spec := "itipKeeps", unfollowed := true, recurses := true, loops := true, apart := false, narrowed := true }
def ItipKeepsUptoSaid : Prop := itipKeepsUptoRow.holds Try.pinned (OpenSpec.upto itipKeepsSpec)

/-- 'almanaclaw26.ItipMakes', WHERE WHAT IT READS IS OF BULK AT MOST 1048576: true; the input reads as it did. -/
def itipMakesUptoRow : OpenClaim := { program := "ytebmbfobmakheaa", sum := "7c4994655e2e519caf7a666a30e7cbfe2fe16433c91e0614290171b15fa487eb", func := "almanac/almanaclaw26.ItipMakes", spec := "itipMakes", unfollowed := true, recurses := true, loops := true, apart := false, narrowed := true }
def ItipMakesUptoSaid : Prop := itipMakesUptoRow.holds Try.pinned (OpenSpec.upto itipMakesSpec)

end Rows
end Go.Proofs.Ytebmbfobmakheaa
