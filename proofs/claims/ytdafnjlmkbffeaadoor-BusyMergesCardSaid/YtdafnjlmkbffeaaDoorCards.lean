/-
  DERIVED. GIVEN WITH THE SEED: THE CARDS: each row of YtdafnjlmkbffeaaDoorRows.lean that lists a variable, with what it lists TIED to the program's text (the seventh form; the later family's looks); each row that meets fmt, with fmt's text TOLD by the authors' own Lean function (tested against real Go, not proved from fmt's source: count such statements apart). THE CARD IS WHAT COUNTS. Prove the row's statement (the work); the ties are given (YtdafnjlmkbffeaaDoorTie.lean); close each card by the builder's one call (the guide's Derived/Test/ToyasCard.lean, 'card_holds'). Laid BY PROGRAM, IN A SANDBOX (cutbox-door.mjs). By AI agents, Wed Nov 11 2026. No macro, syntax, notation, axiom, sorry.
-/
import Derived.Test.YtdafnjlmkbffeaaDoorRows
import GoSem.ClaimSeven
namespace Go.Proofs.YtdafnjlmkbffeaaDoor
namespace Rows

/-- THE TIED CARD OF 'almanaclaw25.BusyMerges'. -/
def busyMergesCard : Claim7 := { stood := { row := busyMergesRow, standIns := [], harness := (true, "991124a66690a5623709dd1c062c6bb20d43066b970a6544067ff292bae097f0"), looks := false }, kinds := [], alts := [], laidByText := true, laidKinds := [.data, .data, .data], laidTests := true, laidLooks := .later }
def BusyMergesCardSaid : Prop := Claim7.holds Tryd.pinned (.plain (OpenSpec.ofChange busyMergesSpec)) busyMergesCard

/-- THE SECOND FORM's CARD OF 'almanaclaw25.BusyMerges'. -/
def busyMergesUptoCard : Claim7 := { stood := { row := busyMergesUptoRow, standIns := [], harness := (true, "991124a66690a5623709dd1c062c6bb20d43066b970a6544067ff292bae097f0"), looks := false }, kinds := [], alts := [], laidByText := true, laidKinds := [.data, .data, .data], laidTests := true, laidLooks := .later }
def BusyMergesUptoCardSaid : Prop := Claim7.holds Tryd.pinned (.plain (OpenSpec.upto busyMergesSpec)) busyMergesUptoCard
end Rows
end Go.Proofs.YtdafnjlmkbffeaaDoor
