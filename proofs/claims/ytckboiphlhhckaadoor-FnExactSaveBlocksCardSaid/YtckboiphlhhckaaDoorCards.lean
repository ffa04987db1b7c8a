/-
  DERIVED. GIVEN WITH THE SEED: THE CARDS: each row of YtckboiphlhhckaaDoorRows.lean that lists a variable, with what it lists TIED to the program's text (the seventh form; the later family's looks); each row that meets fmt, with fmt's text TOLD by the authors' own Lean function (tested against real Go, not proved from fmt's source: count such statements apart). THE CARD IS WHAT COUNTS. Prove the row's statement (the work); the ties are given (YtckboiphlhhckaaDoorTie.lean); close each card by the builder's one call (the guide's Derived/Test/ToyasCard.lean, 'card_holds'). Laid BY PROGRAM, IN A SANDBOX (cutbox-door.mjs). By AI agents, Wed Nov 11 2026. No macro, syntax, notation, axiom, sorry.
-/
import Derived.Test.YtckboiphlhhckaaDoorRows
import GoSem.ClaimSeven
namespace Go.Proofs.YtckboiphlhhckaaDoor
namespace Rows

/-- THE TIED CARD OF 'laws.FnExactSaveBlocks'. -/
def fnExactSaveBlocksCard : Claim7 := { stood := { row := fnExactSaveBlocksRow, standIns := [], harness := (true, "5eb5826c20c13af7c86c56057599e5712ca11bbc62aa7c0c43af7a3b65ff75cd"), looks := false }, kinds := [], alts := [], laidByText := true, laidKinds := [.data, .data, .data], laidTests := true, laidLooks := .later }
def FnExactSaveBlocksCardSaid : Prop := Claim7.holds Tryd.pinned (.plain (OpenSpec.ofChange fnExactSaveBlocksSpec)) fnExactSaveBlocksCard

/-- THE TIED CARD OF 'laws.FnExactBlocksOfLeaves'. -/
def fnExactBlocksOfLeavesCard : Claim7 := { stood := { row := fnExactBlocksOfLeavesRow, standIns := [], harness := (true, "5eb5826c20c13af7c86c56057599e5712ca11bbc62aa7c0c43af7a3b65ff75cd"), looks := false }, kinds := [], alts := [], laidByText := true, laidKinds := [.data, .data, .data], laidTests := true, laidLooks := .later }
def FnExactBlocksOfLeavesCardSaid : Prop := Claim7.holds Tryd.pinned (.plain (OpenSpec.ofChange fnExactBlocksOfLeavesSpec)) fnExactBlocksOfLeavesCard

/-- THE SECOND FORM's CARD OF 'laws.FnExactSaveBlocks'. -/
def fnExactSaveBlocksUptoCard : Claim7 := { stood := { row := fnExactSaveBlocksUptoRow, standIns := [], harness := (true, "5eb5826c20c13af7c86c56057599e5712ca11bbc62aa7c0c43af7a3b65ff75cd"), looks := false }, kinds := [], alts := [], laidByText := true, laidKinds := [.data, .data, .data], laidTests := true, laidLooks := .later }
def FnExactSaveBlocksUptoCardSaid : Prop := Claim7.holds Tryd.pinned (.plain (OpenSpec.upto fnExactSaveBlocksSpec)) fnExactSaveBlocksUptoCard

/-- THE SECOND FORM's CARD OF 'laws.FnExactBlocksOfLeaves'. -/
def fnExactBlocksOfLeavesUptoCard : Claim7 := { stood := { row := fnExactBlocksOfLeavesUptoRow, standIns := [], harness := (true, "5eb5826c20c13af7c86c56057599e5712ca11bbc62aa7c0c43af7a3b65ff75cd"), looks := false }, kinds := [], alts := [], laidByText := true, laidKinds := [.data, .data, .data], laidTests := true, laidLooks := .later }
def FnExactBlocksOfLeavesUptoCardSaid : Prop := Claim7.holds Tryd.pinned (.plain (OpenSpec.upto fnExactBlocksOfLeavesSpec)) fnExactBlocksOfLeavesUptoCard
end Rows
end Go.Proofs.YtckboiphlhhckaaDoor
