/-
  DERIVED. GIVEN WITH THE SEED: THE CARDS: each row of YteafahnopgmgoaaDoorRows.lean that lists a variable, with what it lists TIED to the program's text (the seventh form; the later family's looks); each row that meets fmt, with fmt's text TOLD by the authors' own Lean function (tested against real Go, not proved from fmt's source: count such statements apart). THE CARD IS WHAT COUNTS. Prove the row's statement (the work); the ties are given (YteafahnopgmgoaaDoorTie.lean); close each card by the builder's one call (the guide's Derived/Test/ToyasCard.lean, 'card_holds'). Laid BY PROGRAM, IN A SANDBOX (cutbox-door.mjs). By AI agents, Wed Nov 11 2026. No macro, syntax, notation, axiom, sorry.
-/
import Derived.Test.YteafahnopgmgoaaDoorRows
import GoSem.ClaimSeven
namespace Go.Proofs.YteafahnopgmgoaaDoor
namespace Rows

/-- THE TIED CARD OF 'laws.FnExactFeatureText'. -/
def fnExactFeatureTextCard : Claim7 := { stood := { row := fnExactFeatureTextRow, standIns := [], harness := (true, "73a15770cf7776252f39f7e00911dec7a53bb3142ca816c6f1ff0db38153a536"), looks := false }, kinds := [], alts := [], laidByText := true, laidKinds := [.data, .data, .data], laidTests := true, laidLooks := .later }
def FnExactFeatureTextCardSaid : Prop := Claim7.holds Tryd.pinned (.plain (OpenSpec.ofChange fnExactFeatureTextSpec)) fnExactFeatureTextCard

/-- THE TIED CARD OF 'laws.FnExactReadFeature'. -/
def fnExactReadFeatureCard : Claim7 := { stood := { row := fnExactReadFeatureRow, standIns := [], harness := (true, "73a15770cf7776252f39f7e00911dec7a53bb3142ca816c6f1ff0db38153a536"), looks := false }, kinds := [], alts := [], laidByText := true, laidKinds := [.data, .data, .data, .data, .pinned], laidTests := true, laidLooks := .later }
def FnExactReadFeatureCardSaid : Prop := Claim7.holds Tryd.pinned (.plain (OpenSpec.ofChange fnExactReadFeatureSpec)) fnExactReadFeatureCard

/-- THE SECOND FORM's CARD OF 'laws.FnExactFeatureText'. -/
def fnExactFeatureTextUptoCard : Claim7 := { stood := { row := fnExactFeatureTextUptoRow, standIns := [], harness := (true, "73a15770cf7776252f39f7e00911dec7a53bb3142ca816c6f1ff0db38153a536"), looks := false }, kinds := [], alts := [], laidByText := true, laidKinds := [.data, .data, .data], laidTests := true, laidLooks := .later }
def FnExactFeatureTextUptoCardSaid : Prop := Claim7.holds Tryd.pinned (.plain (OpenSpec.upto fnExactFeatureTextSpec)) fnExactFeatureTextUptoCard

/-- THE SECOND FORM's CARD OF 'laws.FnExactReadFeature'. -/
def fnExactReadFeatureUptoCard : Claim7 := { stood := { row := fnExactReadFeatureUptoRow, standIns := [], harness := (true, "73a15770cf7776252f39f7e00911dec7a53bb3142ca816c6f1ff0db38153a536"), looks := false }, kinds := [], alts := [], laidByText := true, laidKinds := [.data, .data, .data, .data, .pinned], laidTests := true, laidLooks := .later }
def FnExactReadFeatureUptoCardSaid : Prop := Claim7.holds Tryd.pinned (.plain (OpenSpec.upto fnExactReadFeatureSpec)) fnExactReadFeatureUptoCard
end Rows
end Go.Proofs.YteafahnopgmgoaaDoor
