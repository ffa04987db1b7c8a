/-
  DERIVED. GIVEN WITH THE SEED: THE CARDS: each row of YtmdhniaelmipcaaDoorRows.lean that lists a variable, with what it lists TIED to the program's text (the seventh form; the later family's looks); each row that meets fmt, with fmt's text TOLD by the authors' own Lean function (tested against real Go, not proved from fmt's source: count such statements apart). THE CARD IS WHAT COUNTS. Prove the row's statement (the work); the ties are given (YtmdhniaelmipcaaDoorTie.lean); close each card by the builder's one call (the guide's Derived/Test/ToyasCard.lean, 'card_holds'). Laid BY PROGRAM, IN A SANDBOX (cutbox-door.mjs). By AI agents, Wed Nov 11 2026. No macro, syntax, notation, axiom, sorry.
-/
import Derived.Test.YtmdhniaelmipcaaDoorRows
import GoSem.ClaimSeven
namespace Go.Proofs.YtmdhniaelmipcaaDoor
namespace Rows

/-- THE TIED CARD OF 'laws.FnExactRatesText'. -/
def fnExactRatesTextCard : Claim7 := { stood := { row := fnExactRatesTextRow, standIns := [], harness := (true, "290b519c5d26309809d300eac38034cbe5ad3028246f96b98ef5b742dfa2f8cc"), looks := false }, kinds := [], alts := [], laidByText := true, laidKinds := [.data, .data, .data], laidTests := true, laidLooks := .later }
def FnExactRatesTextCardSaid : Prop := Claim7.holds Tryd.pinned (.plain (OpenSpec.ofChange fnExactRatesTextSpec)) fnExactRatesTextCard

/-- THE TIED CARD OF 'laws.FnExactReadRates'. -/
def fnExactReadRatesCard : Claim7 := { stood := { row := fnExactReadRatesRow, standIns := [], harness := (true, "290b519c5d26309809d300eac38034cbe5ad3028246f96b98ef5b742dfa2f8cc"), looks := false }, kinds := [], alts := [], laidByText := true, laidKinds := [.data, .data, .data, .data, .pinned], laidTests := true, laidLooks := .later }
def FnExactReadRatesCardSaid : Prop := Claim7.holds Tryd.pinned (.plain (OpenSpec.ofChange fnExactReadRatesSpec)) fnExactReadRatesCard

/-- THE SECOND FORM's CARD OF 'laws.FnExactRatesText'. -/
def fnExactRatesTextUptoCard : Claim7 := { stood := { row := fnExactRatesTextUptoRow, standIns := [], harness := (true, "290b519c5d26309809d300eac38034cbe5ad3028246f96b98ef5b742dfa2f8cc"), looks := false }, kinds := [], alts := [], laidByText := true, laidKinds := [.data, .data, .data], laidTests := true, laidLooks := .later }
def FnExactRatesTextUptoCardSaid : Prop := Claim7.holds Tryd.pinned (.plain (OpenSpec.upto fnExactRatesTextSpec)) fnExactRatesTextUptoCard

/-- THE SECOND FORM's CARD OF 'laws.FnExactReadRates'. -/
def fnExactReadRatesUptoCard : Claim7 := { stood := { row := fnExactReadRatesUptoRow, standIns := [], harness := (true, "290b519c5d26309809d300eac38034cbe5ad3028246f96b98ef5b742dfa2f8cc"), looks := false }, kinds := [], alts := [], laidByText := true, laidKinds := [.data, .data, .data, .data, .pinned], laidTests := true, laidLooks := .later }
def FnExactReadRatesUptoCardSaid : Prop := Claim7.holds Tryd.pinned (.plain (OpenSpec.upto fnExactReadRatesSpec)) fnExactReadRatesUptoCard
end Rows
end Go.Proofs.YtmdhniaelmipcaaDoor
