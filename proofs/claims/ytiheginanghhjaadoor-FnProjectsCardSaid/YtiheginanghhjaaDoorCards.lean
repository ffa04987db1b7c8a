/-
  DERIVED. GIVEN WITH THE SEED: THE CARDS: each row of YtiheginanghhjaaDoorRows.lean that lists a variable, with what it lists TIED to the program's text (the seventh form; the later family's looks); each row that meets fmt, with fmt's text TOLD by the authors' own Lean function (tested against real Go, not proved from fmt's source: count such statements apart). THE CARD IS WHAT COUNTS. Prove the row's statement (the work); the ties are given (YtiheginanghhjaaDoorTie.lean); close each card by the builder's one call (the guide's Derived/Test/ToyasCard.lean, 'card_holds'). Laid BY PROGRAM, IN A SANDBOX (cutbox-door.mjs). By AI agents, Wed Nov 11 2026. No macro, syntax, notation, axiom, sorry.
-/
import Derived.Test.YtiheginanghhjaaDoorRows
import GoSem.ClaimSeven
namespace Go.Proofs.YtiheginanghhjaaDoor
namespace Rows

/-- THE TIED CARD OF 'laws.FnProjects'. -/
def fnProjectsCard : Claim7 := { stood := { row := fnProjectsRow, standIns := [], harness := (true, "41643b89d8c2eac8877ee8fb01a3f78a06fd2be1af342040932683c2e44dc987"), looks := false }, kinds := [], alts := [], laidByText := true, laidKinds := [.data, .data, .data], laidTests := true, laidLooks := .later }
def FnProjectsCardSaid : Prop := Claim7.holds Tryd.pinned (.plain (OpenSpec.ofChange fnProjectsSpec)) fnProjectsCard

/-- THE SECOND FORM's CARD OF 'laws.FnProjects'. -/
def fnProjectsUptoCard : Claim7 := { stood := { row := fnProjectsUptoRow, standIns := [], harness := (true, "41643b89d8c2eac8877ee8fb01a3f78a06fd2be1af342040932683c2e44dc987"), looks := false }, kinds := [], alts := [], laidByText := true, laidKinds := [.data, .data, .data], laidTests := true, laidLooks := .later }
def FnProjectsUptoCardSaid : Prop := Claim7.holds Tryd.pinned (.plain (OpenSpec.upto fnProjectsSpec)) fnProjectsUptoCard
end Rows
end Go.Proofs.YtiheginanghhjaaDoor
