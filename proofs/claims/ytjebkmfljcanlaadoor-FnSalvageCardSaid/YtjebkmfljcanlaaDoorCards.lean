/-
  DERIVED. GIVEN WITH THE SEED: THE CARDS: each row of YtjebkmfljcanlaaDoorRows.lean that lists a variable, with what it lists TIED to the program's text (the seventh form; the later family's looks); each row that meets fmt, with fmt's text TOLD by the authors' own Lean function (tested against real Go, not proved from fmt's source: count such statements apart). THE CARD IS WHAT COUNTS. Prove the row's statement (the work); the ties are given (YtjebkmfljcanlaaDoorTie.lean); close each card by the builder's one call (the guide's Derived/Test/ToyasCard.lean, 'card_holds'). Laid BY PROGRAM, IN A SANDBOX (cutbox-door.mjs). By AI agents, Wed Nov 11 2026. No macro, syntax, notation, axiom, sorry.
-/
import Derived.Test.YtjebkmfljcanlaaDoorRows
import GoSem.ClaimSeven
namespace Go.Proofs.YtjebkmfljcanlaaDoor
namespace Rows

/-- THE TIED CARD OF 'laws.FnExactDamagedLines'. -/
def fnExactDamagedLinesCard : Claim7 := { stood := { row := fnExactDamagedLinesRow, standIns := [], harness := (true, "86b63af80d4f52972ed28c49f965f15c9686d21a29e66773e83e1a2c4e98e785"), looks := false }, kinds := [], alts := [], laidByText := true, laidKinds := [.data, .data, .data, .data, .pinned], laidTests := true, laidLooks := .later }
def FnExactDamagedLinesCardSaid : Prop := Claim7.holds Tryd.pinned (.plain (OpenSpec.ofChange fnExactDamagedLinesSpec)) fnExactDamagedLinesCard

/-- THE TIED CARD OF 'laws.FnExactLoadBlocks'. -/
def fnExactLoadBlocksCard : Claim7 := { stood := { row := fnExactLoadBlocksRow, standIns := [], harness := (true, "86b63af80d4f52972ed28c49f965f15c9686d21a29e66773e83e1a2c4e98e785"), looks := false }, kinds := [], alts := [], laidByText := true, laidKinds := [.data, .data, .data, .data, .pinned], laidTests := true, laidLooks := .later }
def FnExactLoadBlocksCardSaid : Prop := Claim7.holds Tryd.pinned (.plain (OpenSpec.ofChange fnExactLoadBlocksSpec)) fnExactLoadBlocksCard

/-- THE TIED CARD OF 'laws.FnExactSalvageBlocks'. -/
def fnExactSalvageBlocksCard : Claim7 := { stood := { row := fnExactSalvageBlocksRow, standIns := [], harness := (true, "86b63af80d4f52972ed28c49f965f15c9686d21a29e66773e83e1a2c4e98e785"), looks := false }, kinds := [], alts := [], laidByText := true, laidKinds := [.data, .data, .data, .data, .pinned], laidTests := true, laidLooks := .later }
def FnExactSalvageBlocksCardSaid : Prop := Claim7.holds Tryd.pinned (.plain (OpenSpec.ofChange fnExactSalvageBlocksSpec)) fnExactSalvageBlocksCard

/-- THE TIED CARD OF 'laws.FnSalvage'. -/
def fnSalvageCard : Claim7 := { stood := { row := fnSalvageRow, standIns := [], harness := (true, "86b63af80d4f52972ed28c49f965f15c9686d21a29e66773e83e1a2c4e98e785"), looks := false }, kinds := [], alts := [], laidByText := true, laidKinds := [.data, .data, .data, .data, .pinned], laidTests := true, laidLooks := .later }
def FnSalvageCardSaid : Prop := Claim7.holds Tryd.pinned (.plain (OpenSpec.ofChange fnSalvageSpec)) fnSalvageCard

/-- THE SECOND FORM's CARD OF 'laws.FnExactDamagedLines'. -/
def fnExactDamagedLinesUptoCard : Claim7 := { stood := { row := fnExactDamagedLinesUptoRow, standIns := [], harness := (true, "86b63af80d4f52972ed28c49f965f15c9686d21a29e66773e83e1a2c4e98e785"), looks := false }, kinds := [], alts := [], laidByText := true, laidKinds := [.data, .data, .data, .data, .pinned], laidTests := true, laidLooks := .later }
def FnExactDamagedLinesUptoCardSaid : Prop := Claim7.holds Tryd.pinned (.plain (OpenSpec.upto fnExactDamagedLinesSpec)) fnExactDamagedLinesUptoCard

/-- THE SECOND FORM's CARD OF 'laws.FnExactLoadBlocks'. -/
def fnExactLoadBlocksUptoCard : Claim7 := { stood := { row := fnExactLoadBlocksUptoRow, standIns := [], harness := (true, "86b63af80d4f52972ed28c49f965f15c9686d21a29e66773e83e1a2c4e98e785"), looks := false }, kinds := [], alts := [], laidByText := true, laidKinds := [.data, .data, .data, .data, .pinned], laidTests := true, laidLooks := .later }
def FnExactLoadBlocksUptoCardSaid : Prop := Claim7.holds Tryd.pinned (.plain (OpenSpec.upto fnExactLoadBlocksSpec)) fnExactLoadBlocksUptoCard

/-- THE SECOND FORM's CARD OF 'laws.FnExactSalvageBlocks'. -/
def fnExactSalvageBlocksUptoCard : Claim7 := { stood := { row := fnExactSalvageBlocksUptoRow, standIns := [], harness := (true, "86b63af80d4f52972ed28c49f965f15c9686d21a29e66773e83e1a2c4e98e785"), looks := false }, kinds := [], alts := [], laidByText := true, laidKinds := [.data, .data, .data, .data, .pinned], laidTests := true, laidLooks := .later }
def FnExactSalvageBlocksUptoCardSaid : Prop := Claim7.holds Tryd.pinned (.plain (OpenSpec.upto fnExactSalvageBlocksSpec)) fnExactSalvageBlocksUptoCard

/-- THE SECOND FORM's CARD OF 'laws.FnSalvage'. -/
def fnSalvageUptoCard : Claim7 := { stood := { row := fnSalvageUptoRow, standIns := [], harness := (true, "86b63af80d4f52972ed28c49f965f15c9686d21a29e66773e83e1a2c4e98e785"), looks := false }, kinds := [], alts := [], laidByText := true, laidKinds := [.data, .data, .data, .data, .pinned], laidTests := true, laidLooks := .later }
def FnSalvageUptoCardSaid : Prop := Claim7.holds Tryd.pinned (.plain (OpenSpec.upto fnSalvageSpec)) fnSalvageUptoCard
end Rows
end Go.Proofs.YtjebkmfljcanlaaDoor
