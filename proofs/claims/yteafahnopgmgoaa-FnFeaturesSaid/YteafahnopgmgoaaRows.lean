/-
  No cell of these rows narrows 'for every input' (looked for: loops, veiled, ifaces, maps, wideKeys, modest, calm, conditions, laid).
  DERIVED. THE GIVEN ROWS OF THIS SEAT. 9 by the template 'for every input the law returns true; each argument reads behind the call as it read before'; 0 by the template 'total and deterministic' (their statements: YteafahnopgmgoaaTotals.lean).
  GIVEN WITH THE SEED: the statements are not yours to turn. If you find one false, say at which input.
  Laid BY PROGRAM, IN A SANDBOX (cutbox-rows.mjs): the forced cells as the released guide's own fill.sh prints them over the translation 81a76edd550027d9… (all of the seat's roots in one cut). By AI agents, Wed Nov 11 2026. No macro, syntax, notation, axiom, sorry.
-/
import Derived.Test.YteafahnopgmgoaaChecked
import GoSem.Claim
import GoSem.ClaimJoined
import GoSem.ClaimMapViews
import Derived.JoinedTies
import Derived.KernelRfl
namespace Go.Proofs.Yteafahnopgmgoaa
/- THE CELL 'sum', in the pinned program and in every row, IS THE sha256 OF THE DUMP (.gsa) THAT YteafahnopgmgoaaProg.lean LOADS. Nothing in Lean hashes anything: it is a label: what it is worth is what the hold of that sum in a sandbox is worth. -/
noncomputable def Try.pinned : Pinned := { name := "yteafahnopgmgoaa", sum := "81a76edd550027d91dd03cc582b861a38b0b5717ac6a180643af93ffd3900422", checked := Try.checked }
namespace Rows
def none {H : Type} : Left H := { results := [], args := [] }

/-- 'laws.FnExactFeatureDistance': WHATEVER THE INPUT: true; the input reads as it did. -/
def fnExactFeatureDistanceSpec : ChangeSpec := { name := "fnExactFeatureDistance", fn := fun _ => fun
  | [d1, d2] => { results := [.lit (.bool true)], args := [d1, d2] }
  | _ => none }
def fnExactFeatureDistanceRow : OpenClaim := { program := "yteafahnopgmgoaa", sum := "81a76edd550027d91dd03cc582b861a38b0b5717ac6a180643af93ffd3900422", func := "loop.example/g00956/laws.FnExactFeatureDistance", spec := "fnExactFeatureDistance", unfollowed := true, recurses := true, apart := false }
def FnExactFeatureDistanceSaid : Prop := fnExactFeatureDistanceRow.holds Try.pinned (OpenSpec.ofChange fnExactFeatureDistanceSpec)

/-- ITS FALSE NEIGHBOUR: 'it returns false'. Refute it at one input. -/
def fnExactFeatureDistanceWrong : ChangeSpec := { name := "fnExactFeatureDistance", fn := fun _ => fun
  | [d1, d2] => { results := [.lit (.bool false)], args := [d1, d2] }
  | _ => none }
def FnExactFeatureDistanceWrongFalsely : Prop := fnExactFeatureDistanceRow.holds Try.pinned (OpenSpec.ofChange fnExactFeatureDistanceWrong)

/-- 'laws.FnExactValidFeatures': WHATEVER THE INPUT: true; the input reads as it did. -/
def fnExactValidFeaturesSpec : ChangeSpec := { name := "fnExactValidFeatures", fn := fun _ => fun
  | [d] => { results := [.lit (.bool true)], args := [d] }
  | _ => none }
def fnExactValidFeaturesRow : OpenClaim := { program := "yteafahnopgmgoaa", sum := "81a76edd550027d91dd03cc582b861a38b0b5717ac6a180643af93ffd3900422", func := "loop.example/g00956/laws.FnExactValidFeatures", spec := "fnExactValidFeatures", unfollowed := true, recurses := true, apart := false }
def FnExactValidFeaturesSaid : Prop := fnExactValidFeaturesRow.holds Try.pinned (OpenSpec.ofChange fnExactValidFeaturesSpec)

/-- ITS FALSE NEIGHBOUR: 'it returns false'. Refute it at one input. -/
def fnExactValidFeaturesWrong : ChangeSpec := { name := "fnExactValidFeatures", fn := fun _ => fun
  | [d] => { results := [.lit (.bool false)], args := [d] }
  | _ => none }
def FnExactValidFeaturesWrongFalsely : Prop := fnExactValidFeaturesRow.holds Try.pinned (OpenSpec.ofChange fnExactValidFeaturesWrong)

/-- 'laws.FnExactFeatureOfVeneer': WHATEVER THE INPUT: true; the input reads as it did. -/
def fnExactFeatureOfVeneerSpec : ChangeSpec := { name := "fnExactFeatureOfVeneer", fn := fun _ => fun
  | [d1, d2] => { results := [.lit (.bool true)], args := [d1, d2] }
  | _ => none }
def fnExactFeatureOfVeneerRow : OpenClaim := { program := "yteafahnopgmgoaa", sum := "81a76edd550027d91dd03cc582b861a38b0b5717ac6a180643af93ffd3900422", func := "loop.example/g00956/laws.FnExactFeatureOfVeneer", spec := "fnExactFeatureOfVeneer", apart := false }
def FnExactFeatureOfVeneerSaid : Prop := fnExactFeatureOfVeneerRow.holds Try.pinned (OpenSpec.ofChange fnExactFeatureOfVeneerSpec)

/-- ITS FALSE NEIGHBOUR: 'it returns false'. Refute it at one input. -/
def fnExactFeatureOfVeneerWrong : ChangeSpec := { name := "fnExactFeatureOfVeneer", fn := fun _ => fun
  | [d1, d2] => { results := [.lit (.bool false)], args := [d1, d2] }
  | _ => none }
def FnExactFeatureOfVeneerWrongFalsely : Prop := fnExactFeatureOfVeneerRow.holds Try.pinned (OpenSpec.ofChange fnExactFeatureOfVeneerWrong)

/-- 'laws.FnExactMatchesScore': WHATEVER THE INPUT: true; the input reads as it did. -/
def fnExactMatchesScoreSpec : ChangeSpec := { name := "fnExactMatchesScore", fn := fun _ => fun
  | [d1, d2, d3] => { results := [.lit (.bool true)], args := [d1, d2, d3] }
  | _ => none }
def fnExactMatchesScoreRow : OpenClaim := { program := "yteafahnopgmgoaa", sum := "81a76edd550027d91dd03cc582b861a38b0b5717ac6a180643af93ffd3900422", func := "loop.example/g00956/laws.FnExactMatchesScore", spec := "fnExactMatchesScore", unfollowed := true, recurses := true, apart := false }
def FnExactMatchesScoreSaid : Prop := fnExactMatchesScoreRow.holds Try.pinned (OpenSpec.ofChange fnExactMatchesScoreSpec)

/-- ITS FALSE NEIGHBOUR: 'it returns false'. Refute it at one input. -/
def fnExactMatchesScoreWrong : ChangeSpec := { name := "fnExactMatchesScore", fn := fun _ => fun
  | [d1, d2, d3] => { results := [.lit (.bool false)], args := [d1, d2, d3] }
  | _ => none }
def FnExactMatchesScoreWrongFalsely : Prop := fnExactMatchesScoreRow.holds Try.pinned (OpenSpec.ofChange fnExactMatchesScoreWrong)

/-- 'laws.FnExactMeanFeature': WHATEVER THE INPUT: true; the input reads as it did. -/
def fnExactMeanFeatureSpec : ChangeSpec := { name := "fnExactMeanFeature", fn := fun _ => fun
  | [d1, d2] => { results := [.lit (.bool true)], args := [d1, d2] }
  | _ => none }
def fnExactMeanFeatureRow : OpenClaim := { program := "yteafahnopgmgoaa", sum := "81a76edd550027d91dd03cc582b861a38b0b5717ac6a180643af93ffd3900422", func := "loop.example/g00956/laws.FnExactMeanFeature", spec := "fnExactMeanFeature", unfollowed := true, recurses := true, apart := false }
def FnExactMeanFeatureSaid : Prop := fnExactMeanFeatureRow.holds Try.pinned (OpenSpec.ofChange fnExactMeanFeatureSpec)

/-- ITS FALSE NEIGHBOUR: 'it returns false'. Refute it at one input. -/
def fnExactMeanFeatureWrong : ChangeSpec := { name := "fnExactMeanFeature", fn := fun _ => fun
  | [d1, d2] => { results := [.lit (.bool false)], args := [d1, d2] }
  | _ => none }
def FnExactMeanFeatureWrongFalsely : Prop := fnExactMeanFeatureRow.holds Try.pinned (OpenSpec.ofChange fnExactMeanFeatureWrong)

/-- 'laws.FnFeatures': WHATEVER THE INPUT: true; the input reads as it did. -/
def fnFeaturesSpec : ChangeSpec := { name := "fnFeatures", fn := fun _ => fun
  | [d1, d2] => { results := [.lit (.bool true)], args := [d1, d2] }
  | _ => none }
def fnFeaturesRow : OpenClaim := { program := "yteafahnopgmgoaa", sum := "81a76edd550027d91dd03cc582b861a38b0b5717ac6a180643af93ffd3900422", func := "loop.example/g00956/laws.FnFeatures", spec := "fnFeatures", unfollowed := true, recurses := true, apart := false }
def FnFeaturesSaid : Prop := fnFeaturesRow.holds Try.pinned (OpenSpec.ofChange fnFeaturesSpec)

/-- ITS FALSE NEIGHBOUR: 'it returns false'. Refute it at one input. -/
def fnFeaturesWrong : ChangeSpec := { name := "fnFeatures", fn := fun _ => fun
  | [d1, d2] => { results := [.lit (.bool false)], args := [d1, d2] }
  | _ => none }
def FnFeaturesWrongFalsely : Prop := fnFeaturesRow.holds Try.pinned (OpenSpec.ofChange fnFeaturesWrong)

/-- 'laws.FnExactNearestFeature': WHATEVER THE INPUT: true; the input reads as it did. -/
def fnExactNearestFeatureSpec : ChangeSpec := { name := "fnExactNearestFeature", fn := fun _ => fun
  | [d1, d2] => { results := [.lit (.bool true)], args := [d1, d2] }
  | _ => none }
def fnExactNearestFeatureRow : OpenClaim := { program := "yteafahnopgmgoaa", sum := "81a76edd550027d91dd03cc582b861a38b0b5717ac6a180643af93ffd3900422", func := "loop.example/g00956/laws.FnExactNearestFeature", spec := "fnExactNearestFeature", unfollowed := true, recurses := true, apart := false }
def FnExactNearestFeatureSaid : Prop := fnExactNearestFeatureRow.holds Try.pinned (OpenSpec.ofChange fnExactNearestFeatureSpec)

/-- ITS FALSE NEIGHBOUR: 'it returns false'. Refute it at one input. -/
def fnExactNearestFeatureWrong : ChangeSpec := { name := "fnExactNearestFeature", fn := fun _ => fun
  | [d1, d2] => { results := [.lit (.bool false)], args := [d1, d2] }
  | _ => none }
def FnExactNearestFeatureWrongFalsely : Prop := fnExactNearestFeatureRow.holds Try.pinned (OpenSpec.ofChange fnExactNearestFeatureWrong)

/-- 'laws.FnExactRankedFeatures': WHATEVER THE INPUT: true; the input reads as it did. -/
def fnExactRankedFeaturesSpec : ChangeSpec := { name := "fnExactRankedFeatures", fn := fun _ => fun
  | [d1, d2] => { results := [.lit (.bool true)], args := [d1, d2] }
  | _ => none }
def fnExactRankedFeaturesRow : OpenClaim := { program := "yteafahnopgmgoaa", sum := "81a76edd550027d91dd03cc582b861a38b0b5717ac6a180643af93ffd3900422", func := "loop.example/g00956/laws.FnExactRankedFeatures", spec := "fnExactRankedFeatures", unfollowed := true, recurses := true, apart := false }
def FnExactRankedFeaturesSaid : Prop := fnExactRankedFeaturesRow.holds Try.pinned (OpenSpec.ofChange fnExactRankedFeaturesSpec)

/-- ITS FALSE NEIGHBOUR: 'it returns false'. Refute it at one input. -/
def fnExactRankedFeaturesWrong : ChangeSpec := { name := "fnExactRankedFeatures", fn := fun _ => fun
  | [d1, d2] => { results := [.lit (.bool false)], args := [d1, d2] }
  | _ => none }
def FnExactRankedFeaturesWrongFalsely : Prop := fnExactRankedFeaturesRow.holds Try.pinned (OpenSpec.ofChange fnExactRankedFeaturesWrong)

/-- 'laws.FnExactGreedyMatches': WHATEVER THE INPUT: true; the input reads as it did. -/
def fnExactGreedyMatchesSpec : ChangeSpec := { name := "fnExactGreedyMatches", fn := fun _ => fun
  | [d1, d2] => { results := [.lit (.bool true)], args := [d1, d2] }
  | _ => none }
def fnExactGreedyMatchesRow : OpenClaim := { program := "yteafahnopgmgoaa", sum := "81a76edd550027d91dd03cc582b861a38b0b5717ac6a180643af93ffd3900422", func := "loop.example/g00956/laws.FnExactGreedyMatches", spec := "fnExactGreedyMatches", unfollowed := true, recurses := true, apart := false }
def FnExactGreedyMatchesSaid : Prop := fnExactGreedyMatchesRow.holds Try.pinned (OpenSpec.ofChange fnExactGreedyMatchesSpec)

/-- ITS FALSE NEIGHBOUR: 'it returns false'. Refute it at one input. -/
def fnExactGreedyMatchesWrong : ChangeSpec := { name := "fnExactGreedyMatches", fn := fun _ => fun
  | [d1, d2] => { results := [.lit (.bool false)], args := [d1, d2] }
  | _ => none }
def FnExactGreedyMatchesWrongFalsely : Prop := fnExactGreedyMatchesRow.holds Try.pinned (OpenSpec.ofChange fnExactGreedyMatchesWrong)

/- THE SECOND FORM. 'bulk': how many values and letters a reading holds, each counted each time it is reached (what is shared counts as often as it is met; a slice's spare places count too). A statement '..UptoSaid' is the law's where the arguments, and the package variables that the reading takes, are together of bulk at most 1048576: NARROWER than '..Said'. Prove '..Said' where nothing that the law and all that it calls make is longer than what came in: it says more and counts as full. Else prove '..UptoSaid'. A law counts once. -/
mutual
def uptoBulk {H : Type} : DataW H → Nat
  | .lit (.string bytes) => bytes.length + 1
  | .lit _ => 1
  | .nil => 1
  | .ptr d => uptoBulk d + 1
  | .slice elems spare => uptoBulkAll elems + uptoBulkAll spare + 1
  | .agg parts => uptoBulkAll parts + 1
  | .iface _ d => uptoBulk d + 1
  | .map entries => uptoBulkEntries entries + 1
  | .held _ => 1
def uptoBulkAll {H : Type} : List (DataW H) → Nat
  | [] => 0
  | d :: r => uptoBulk d + uptoBulkAll r
def uptoBulkEntries {H : Type} : List (Lit × DataW H) → Nat
  | [] => 0
  | x :: r => uptoBulkEntry x + uptoBulkEntries r
def uptoBulkEntry {H : Type} : Lit × DataW H → Nat
  | (.string bytes, d) => bytes.length + uptoBulk d + 1
  | (_, d) => uptoBulk d + 1
 end
def uptoSmall : (H : Type) → List (DataW H) → Bool := fun _ ds => decide (uptoBulkAll ds ≤ 1048576)
def OpenSpec.upto (s : _root_.Go.ChangeSpec) : _root_.Go.OpenSpec := { _root_.Go.OpenSpec.ofChange s with cond := some uptoSmall }

/-- 'laws.FnExactFeatureDistance', WHERE WHAT IT READS IS OF BULK AT MOST 1048576: true; the input reads as it did. -/
def fnExactFeatureDistanceUptoRow : OpenClaim := { program := "yteafahnopgmgoaa", sum := "81a76edd550027d91dd03cc582b861a38b0b5717ac6a180643af93ffd3900422", func := "loop.example/g00956/laws.FnExactFeatureDistance", spec := "fnExactFeatureDistance", unfollowed := true, recurses := true, apart := false, narrowed := true }
def FnExactFeatureDistanceUptoSaid : Prop := fnExactFeatureDistanceUptoRow.holds Try.pinned (OpenSpec.upto fnExactFeatureDistanceSpec)

/-- 'laws.FnExactValidFeatures', WHERE WHAT IT READS IS OF BULK AT MOST 1048576: true; the input reads as it did. -/
def fnExactValidFeaturesUptoRow : OpenClaim := { program := "yteafahnopgmgoaa", sum := "81a76edd550027d91dd03cc582b861a38b0b5717ac6a180643af93ffd3900422", func := "loop.example/g00956/laws.FnExactValidFeatures", spec := "fnExactValidFeatures", unfollowed := true, recurses := true, apart := false, narrowed := true }
def FnExactValidFeaturesUptoSaid : Prop := fnExactValidFeaturesUptoRow.holds Try.pinned (OpenSpec.upto fnExactValidFeaturesSpec)

/-- 'laws.FnExactFeatureOfVeneer', WHERE WHAT IT READS IS OF BULK AT MOST 1048576: true; the input reads as it did. -/
def fnExactFeatureOfVeneerUptoRow : OpenClaim := { program := "yteafahnopgmgoaa", sum := "81a76edd550027d91dd03cc582b861a38b0b5717ac6a180643af93ffd3900422", func := "loop.example/g00956/laws.FnExactFeatureOfVeneer", spec := "fnExactFeatureOfVeneer", apart := false, narrowed := true }
def FnExactFeatureOfVeneerUptoSaid : Prop := fnExactFeatureOfVeneerUptoRow.holds Try.pinned (OpenSpec.upto fnExactFeatureOfVeneerSpec)

/-- 'laws.FnExactMatchesScore', WHERE WHAT IT READS IS OF BULK AT MOST 1048576: true; the input reads as it did. -/
def fnExactMatchesScoreUptoRow : OpenClaim := { program := "yteafahnopgmgoaa", sum := "81a76edd550027d91dd03cc582b861a38b0b5717ac6a180643af93ffd3900422", func := "loop.example/g00956/laws.FnExactMatchesScore", spec := "fnExactMatchesScore", unfollowed := true, recurses := true, apart := false, narrowed := true }
def FnExactMatchesScoreUptoSaid : Prop := fnExactMatchesScoreUptoRow.holds Try.pinned (OpenSpec.upto fnExactMatchesScoreSpec)

/-- 'laws.FnExactMeanFeature', WHERE WHAT IT READS IS OF BULK AT MOST 1048576: true; the input reads as it did. -/
def fnExactMeanFeatureUptoRow : OpenClaim := { program := "yteafahnopgmgoaa", sum := "81a76edd550027d91dd03cc582b861a38b0b5717ac6a180643af93ffd3900422", func := "loop.example/g00956/laws.FnExactMeanFeature", spec := "fnExactMeanFeature", unfollowed := true, recurses := true, apart := false, narrowed := true }
def FnExactMeanFeatureUptoSaid : Prop := fnExactMeanFeatureUptoRow.holds Try.pinned (OpenSpec.upto fnExactMeanFeatureSpec)

/-- 'laws.FnFeatures', WHERE WHAT IT READS IS OF BULK AT MOST 1048576: true; the input reads as it did. -/
def fnFeaturesUptoRow : OpenClaim := { program := "yteafahnopgmgoaa", sum := "81a76edd550027d91dd03cc582b861a38b0b5717ac6a180643af93ffd3900422", func := "loop.example/g00956/laws.FnFeatures", spec := "fnFeatures", unfollowed := true, recurses := true, apart := false, narrowed := true }
def FnFeaturesUptoSaid : Prop := fnFeaturesUptoRow.holds Try.pinned (OpenSpec.upto fnFeaturesSpec)

/-- 'laws.FnExactNearestFeature', WHERE WHAT IT READS IS OF BULK AT MOST 1048576: true; the input reads as it did. -/
def fnExactNearestFeatureUptoRow : OpenClaim := { program := "yteafahnopgmgoaa", sum := "81a76edd550027d91dd03cc582b861a38b0b5717ac6a180643af93ffd3900422", func := "loop.example/g00956/laws.FnExactNearestFeature", spec := "fnExactNearestFeature", unfollowed := true, recurses := true, apart := false, narrowed := true }
def FnExactNearestFeatureUptoSaid : Prop := fnExactNearestFeatureUptoRow.holds Try.pinned (OpenSpec.upto fnExactNearestFeatureSpec)

/-- 'laws.FnExactRankedFeatures', WHERE WHAT IT READS IS OF BULK AT MOST 1048576: true; the input reads as it did. -/
def fnExactRankedFeaturesUptoRow : OpenClaim := { program := "yteafahnopgmgoaa", sum := "81a76edd550027d91dd03cc582b861a38b0b5717ac6a180643af93ffd3900422", func := "loop.example/g00956/laws.FnExactRankedFeatures", spec := "fnExactRankedFeatures", unfollowed := true, recurses := true, apart := false, narrowed := true }
def FnExactRankedFeaturesUptoSaid : Prop := fnExactRankedFeaturesUptoRow.holds Try.pinned (OpenSpec.upto fnExactRankedFeaturesSpec)

/-- 'laws.FnExactGreedyMatches', WHERE WHAT IT READS IS OF BULK AT MOST 1048576: true; the input reads as it did. -/
def fnExactGreedyMatchesUptoRow : OpenClaim := { program := "yteafahnopgmgoaa", sum := "81a76edd550027d91dd03cc582b861a38b0b5717ac6a180643af93ffd3900422", func := "loop.example/g00956/laws.FnExactGreedyMatches", spec := "fnExactGreedyMatches", unfollowed := true, recurses := true, apart := false, narrowed := true }
def FnExactGreedyMatchesUptoSaid : Prop := fnExactGreedyMatchesUptoRow.holds Try.pinned (OpenSpec.upto fnExactGreedyMatchesSpec)

end Rows
end Go.Proofs.Yteafahnopgmgoaa
