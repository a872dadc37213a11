/-
  DERIVED. GIVEN WITH THE SEED: THE CARDS: each row of YtmajmolbjiahlaaGreatDoorRows.lean that lists a variable, with what it lists TIED to the program's text (the seventh form; the later family's looks); each row that meets fmt, with fmt's text TOLD by the authors' own Lean function (tested against real Go, not proved from fmt's source: count such statements apart). THE CARD IS WHAT COUNTS. Prove the row's statement (the work); the ties are given (YtmajmolbjiahlaaGreatDoorTie.lean); close each card by the builder's one call (the guide's Derived/Test/ToyasCard.lean, 'card_holds'). Laid BY PROGRAM, IN A SANDBOX (cutbox-door.mjs). By AI agents, Wed Nov 11 2026. No macro, syntax, notation, axiom, sorry.
-/
import Derived.Test.YtmajmolbjiahlaaGreatDoorRows
import GoSem.ClaimSeven
namespace Go.Proofs.YtmajmolbjiahlaaGreatDoor
namespace Rows

/-- THE TIED CARD OF 'almanaclaw16.ZoneTells'. -/
def zoneTellsCard : Claim7 := { stood := { row := zoneTellsRow, standIns := [], harness := (true, "caf13726c208a16d25baa9bb3af26a78e00e2f0a48de74af47d1b6c661e961a8"), looks := false }, kinds := [], alts := [], laidByText := true, laidKinds := [.data, .data, .data], laidTests := true, laidLooks := .later }
def ZoneTellsCardSaid : Prop := Claim7.holds Tryz.pinned (.plain (OpenSpec.ofChange zoneTellsSpec)) zoneTellsCard

/-- THE TIED CARD OF 'almanaclaw16.ZoneTurns'. -/
def zoneTurnsCard : Claim7 := { stood := { row := zoneTurnsRow, standIns := [], harness := (true, "caf13726c208a16d25baa9bb3af26a78e00e2f0a48de74af47d1b6c661e961a8"), looks := false }, kinds := [], alts := [], laidByText := true, laidKinds := [.data, .data, .data], laidTests := true, laidLooks := .later }
def ZoneTurnsCardSaid : Prop := Claim7.holds Tryz.pinned (.plain (OpenSpec.ofChange zoneTurnsSpec)) zoneTurnsCard

/-- THE TIED CARD OF 'almanaclaw16.ZoneKnows'. -/
def zoneKnowsCard : Claim7 := { stood := { row := zoneKnowsRow, standIns := [], harness := (true, "caf13726c208a16d25baa9bb3af26a78e00e2f0a48de74af47d1b6c661e961a8"), looks := false }, kinds := [], alts := [], laidByText := true, laidKinds := [.data, .data, .data], laidTests := true, laidLooks := .later }
def ZoneKnowsCardSaid : Prop := Claim7.holds Tryz.pinned (.plain (OpenSpec.ofChange zoneKnowsSpec)) zoneKnowsCard

/-- THE SECOND FORM's CARD OF 'almanaclaw16.ZoneTells'. -/
def zoneTellsUptoCard : Claim7 := { stood := { row := zoneTellsUptoRow, standIns := [], harness := (true, "caf13726c208a16d25baa9bb3af26a78e00e2f0a48de74af47d1b6c661e961a8"), looks := false }, kinds := [], alts := [], laidByText := true, laidKinds := [.data, .data, .data], laidTests := true, laidLooks := .later }
def ZoneTellsUptoCardSaid : Prop := Claim7.holds Tryz.pinned (.plain (OpenSpec.upto zoneTellsSpec)) zoneTellsUptoCard

/-- THE SECOND FORM's CARD OF 'almanaclaw16.ZoneTurns'. -/
def zoneTurnsUptoCard : Claim7 := { stood := { row := zoneTurnsUptoRow, standIns := [], harness := (true, "caf13726c208a16d25baa9bb3af26a78e00e2f0a48de74af47d1b6c661e961a8"), looks := false }, kinds := [], alts := [], laidByText := true, laidKinds := [.data, .data, .data], laidTests := true, laidLooks := .later }
def ZoneTurnsUptoCardSaid : Prop := Claim7.holds Tryz.pinned (.plain (OpenSpec.upto zoneTurnsSpec)) zoneTurnsUptoCard

/-- THE SECOND FORM's CARD OF 'almanaclaw16.ZoneKnows'. -/
def zoneKnowsUptoCard : Claim7 := { stood := { row := zoneKnowsUptoRow, standIns := [], harness := (true, "caf13726c208a16d25baa9bb3af26a78e00e2f0a48de74af47d1b6c661e961a8"), looks := false }, kinds := [], alts := [], laidByText := true, laidKinds := [.data, .data, .data], laidTests := true, laidLooks := .later }
def ZoneKnowsUptoCardSaid : Prop := Claim7.holds Tryz.pinned (.plain (OpenSpec.upto zoneKnowsSpec)) zoneKnowsUptoCard
end Rows
end Go.Proofs.YtmajmolbjiahlaaGreatDoor
