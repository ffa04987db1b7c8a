/-
  DERIVED. GIVEN WITH THE SEED: THE CARDS: each row of YtckboiphlhhckaaGreatDoorRows.lean that lists a variable, with what it lists TIED to the program's text (the seventh form; the later family's looks); each row that meets fmt, with fmt's text TOLD by the authors' own Lean function (tested against real Go, not proved from fmt's source: count such statements apart). THE CARD IS WHAT COUNTS. Prove the row's statement (the work); the ties are given (YtckboiphlhhckaaGreatDoorTie.lean); close each card by the builder's one call (the guide's Derived/Test/ToyasCard.lean, 'card_holds'). Laid BY PROGRAM, IN A SANDBOX (cutbox-door.mjs). By AI agents, Wed Nov 11 2026. No macro, syntax, notation, axiom, sorry.
-/
import Derived.Test.YtckboiphlhhckaaGreatDoorRows
import GoSem.ClaimSeven
namespace Go.Proofs.YtckboiphlhhckaaGreatDoor
namespace Rows

/-- THE TIED CARD OF 'laws.FnExactLeavesOfBlocks'. -/
def fnExactLeavesOfBlocksCard : Claim7 := { stood := { row := fnExactLeavesOfBlocksRow, standIns := [], harness := (true, "729a8db152dac35a151ad5378f322b0d0f33f79355cf5c829ee7a70d26b0a690"), looks := false }, kinds := [], alts := [], laidByText := true, laidKinds := [.data, .data, .data, .data, .pinned], laidTests := true, laidLooks := .later }
def FnExactLeavesOfBlocksCardSaid : Prop := Claim7.holds Tryz.pinned (.plain (OpenSpec.ofChange fnExactLeavesOfBlocksSpec)) fnExactLeavesOfBlocksCard

/-- THE SECOND FORM's CARD OF 'laws.FnExactLeavesOfBlocks'. -/
def fnExactLeavesOfBlocksUptoCard : Claim7 := { stood := { row := fnExactLeavesOfBlocksUptoRow, standIns := [], harness := (true, "729a8db152dac35a151ad5378f322b0d0f33f79355cf5c829ee7a70d26b0a690"), looks := false }, kinds := [], alts := [], laidByText := true, laidKinds := [.data, .data, .data, .data, .pinned], laidTests := true, laidLooks := .later }
def FnExactLeavesOfBlocksUptoCardSaid : Prop := Claim7.holds Tryz.pinned (.plain (OpenSpec.upto fnExactLeavesOfBlocksSpec)) fnExactLeavesOfBlocksUptoCard
end Rows
end Go.Proofs.YtckboiphlhhckaaGreatDoor
