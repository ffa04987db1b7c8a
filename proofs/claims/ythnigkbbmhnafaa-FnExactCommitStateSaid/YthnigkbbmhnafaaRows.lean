/-
  No cell of these rows narrows 'for every input' (looked for: loops, veiled, ifaces, maps, wideKeys, modest, calm, conditions, laid).
  DERIVED. THE GIVEN ROWS OF THIS SEAT. 10 by the template 'for every input the law returns true; each argument reads behind the call as it read before'; 0 by the template 'total and deterministic' (their statements: YthnigkbbmhnafaaTotals.lean).
  GIVEN WITH THE SEED: the statements are not yours to turn. If you find one false, say at which input.
  Laid BY PROGRAM, IN A SANDBOX (cutbox-rows.mjs): the forced cells as the released guide's own fill.sh prints them over the translation a18bd843e66b67eb… (all of the seat's roots in one cut). By AI agents, Wed Nov 11 2026. No macro, syntax, notation, axiom, sorry.
-/
import Derived.Test.YthnigkbbmhnafaaChecked
import GoSem.Claim
import GoSem.ClaimJoined
import GoSem.ClaimMapViews
import Derived.JoinedTies
import Derived.KernelRfl
namespace Go.Proofs.Ythnigkbbmhnafaa
/- THE CELL 'sum', in the pinned program and in every row, IS THE sha256 OF THE DUMP (.gsa) THAT YthnigkbbmhnafaaProg.lean LOADS. Nothing in Lean hashes anything: it is a label: what it is worth is what the hold of that sum in a sandbox is worth. -/
noncomputable def Try.pinned : Pinned := { name := "ythnigkbbmhnafaa", sum := "a18bd843e66b67ebd6218664ebe117341a81ba5ede2c73ce9cbb3cae191d7acd", checked := Try.checked }
namespace Rows
def none {H : Type} : Left H := { results := [], args := [] }

/-- 'laws.FnExactSameState': WHATEVER THE INPUT: true; the input reads as it did. -/
def fnExactSameStateSpec : ChangeSpec := { name := "fnExactSameState", fn := fun _ => fun
  | [d1, d2] => { results := [.lit (.bool true)], args := [d1, d2] }
  | _ => none }
def fnExactSameStateRow : OpenClaim := { program := "ythnigkbbmhnafaa", sum := "a18bd843e66b67ebd6218664ebe117341a81ba5ede2c73ce9cbb3cae191d7acd", func := "loop.example/g00956/laws.FnExactSameState", spec := "fnExactSameState", apart := false }
def FnExactSameStateSaid : Prop := fnExactSameStateRow.holds Try.pinned (OpenSpec.ofChange fnExactSameStateSpec)

/-- ITS FALSE NEIGHBOUR: 'it returns false'. Refute it at one input. -/
def fnExactSameStateWrong : ChangeSpec := { name := "fnExactSameState", fn := fun _ => fun
  | [d1, d2] => { results := [.lit (.bool false)], args := [d1, d2] }
  | _ => none }
def FnExactSameStateWrongFalsely : Prop := fnExactSameStateRow.holds Try.pinned (OpenSpec.ofChange fnExactSameStateWrong)

/-- 'laws.FnExactValidState': WHATEVER THE INPUT: true; the input reads as it did. -/
def fnExactValidStateSpec : ChangeSpec := { name := "fnExactValidState", fn := fun _ => fun
  | [d] => { results := [.lit (.bool true)], args := [d] }
  | _ => none }
def fnExactValidStateRow : OpenClaim := { program := "ythnigkbbmhnafaa", sum := "a18bd843e66b67ebd6218664ebe117341a81ba5ede2c73ce9cbb3cae191d7acd", func := "loop.example/g00956/laws.FnExactValidState", spec := "fnExactValidState", apart := false }
def FnExactValidStateSaid : Prop := fnExactValidStateRow.holds Try.pinned (OpenSpec.ofChange fnExactValidStateSpec)

/-- ITS FALSE NEIGHBOUR: 'it returns false'. Refute it at one input. -/
def fnExactValidStateWrong : ChangeSpec := { name := "fnExactValidState", fn := fun _ => fun
  | [d] => { results := [.lit (.bool false)], args := [d] }
  | _ => none }
def FnExactValidStateWrongFalsely : Prop := fnExactValidStateRow.holds Try.pinned (OpenSpec.ofChange fnExactValidStateWrong)

/-- 'laws.FnExactSameProject': WHATEVER THE INPUT: true; the input reads as it did. -/
def fnExactSameProjectSpec : ChangeSpec := { name := "fnExactSameProject", fn := fun _ => fun
  | [d1, d2] => { results := [.lit (.bool true)], args := [d1, d2] }
  | _ => none }
def fnExactSameProjectRow : OpenClaim := { program := "ythnigkbbmhnafaa", sum := "a18bd843e66b67ebd6218664ebe117341a81ba5ede2c73ce9cbb3cae191d7acd", func := "loop.example/g00956/laws.FnExactSameProject", spec := "fnExactSameProject", unfollowed := true, recurses := true, apart := false }
def FnExactSameProjectSaid : Prop := fnExactSameProjectRow.holds Try.pinned (OpenSpec.ofChange fnExactSameProjectSpec)

/-- ITS FALSE NEIGHBOUR: 'it returns false'. Refute it at one input. -/
def fnExactSameProjectWrong : ChangeSpec := { name := "fnExactSameProject", fn := fun _ => fun
  | [d1, d2] => { results := [.lit (.bool false)], args := [d1, d2] }
  | _ => none }
def FnExactSameProjectWrongFalsely : Prop := fnExactSameProjectRow.holds Try.pinned (OpenSpec.ofChange fnExactSameProjectWrong)

/-- 'laws.FnExactValidProject': WHATEVER THE INPUT: true; the input reads as it did. -/
def fnExactValidProjectSpec : ChangeSpec := { name := "fnExactValidProject", fn := fun _ => fun
  | [d] => { results := [.lit (.bool true)], args := [d] }
  | _ => none }
def fnExactValidProjectRow : OpenClaim := { program := "ythnigkbbmhnafaa", sum := "a18bd843e66b67ebd6218664ebe117341a81ba5ede2c73ce9cbb3cae191d7acd", func := "loop.example/g00956/laws.FnExactValidProject", spec := "fnExactValidProject", apart := false }
def FnExactValidProjectSaid : Prop := fnExactValidProjectRow.holds Try.pinned (OpenSpec.ofChange fnExactValidProjectSpec)

/-- ITS FALSE NEIGHBOUR: 'it returns false'. Refute it at one input. -/
def fnExactValidProjectWrong : ChangeSpec := { name := "fnExactValidProject", fn := fun _ => fun
  | [d] => { results := [.lit (.bool false)], args := [d] }
  | _ => none }
def FnExactValidProjectWrongFalsely : Prop := fnExactValidProjectRow.holds Try.pinned (OpenSpec.ofChange fnExactValidProjectWrong)

/-- 'laws.FnExactDiffStates': WHATEVER THE INPUT: true; the input reads as it did. -/
def fnExactDiffStatesSpec : ChangeSpec := { name := "fnExactDiffStates", fn := fun _ => fun
  | [d1, d2] => { results := [.lit (.bool true)], args := [d1, d2] }
  | _ => none }
def fnExactDiffStatesRow : OpenClaim := { program := "ythnigkbbmhnafaa", sum := "a18bd843e66b67ebd6218664ebe117341a81ba5ede2c73ce9cbb3cae191d7acd", func := "loop.example/g00956/laws.FnExactDiffStates", spec := "fnExactDiffStates", inPlace := ["internal/bytealg.abigen_runtime_cmpstring"], unfollowed := true, recurses := true, apart := false }
def FnExactDiffStatesSaid : Prop := fnExactDiffStatesRow.holds Try.pinned (OpenSpec.ofChange fnExactDiffStatesSpec)

/-- ITS FALSE NEIGHBOUR: 'it returns false'. Refute it at one input. -/
def fnExactDiffStatesWrong : ChangeSpec := { name := "fnExactDiffStates", fn := fun _ => fun
  | [d1, d2] => { results := [.lit (.bool false)], args := [d1, d2] }
  | _ => none }
def FnExactDiffStatesWrongFalsely : Prop := fnExactDiffStatesRow.holds Try.pinned (OpenSpec.ofChange fnExactDiffStatesWrong)

/-- 'laws.FnExactCommonAncestor': WHATEVER THE INPUT: true; the input reads as it did. -/
def fnExactCommonAncestorSpec : ChangeSpec := { name := "fnExactCommonAncestor", fn := fun _ => fun
  | [d1, d2, d3] => { results := [.lit (.bool true)], args := [d1, d2, d3] }
  | _ => none }
def fnExactCommonAncestorRow : OpenClaim := { program := "ythnigkbbmhnafaa", sum := "a18bd843e66b67ebd6218664ebe117341a81ba5ede2c73ce9cbb3cae191d7acd", func := "loop.example/g00956/laws.FnExactCommonAncestor", spec := "fnExactCommonAncestor", apart := false }
def FnExactCommonAncestorSaid : Prop := fnExactCommonAncestorRow.holds Try.pinned (OpenSpec.ofChange fnExactCommonAncestorSpec)

/-- ITS FALSE NEIGHBOUR: 'it returns false'. Refute it at one input. -/
def fnExactCommonAncestorWrong : ChangeSpec := { name := "fnExactCommonAncestor", fn := fun _ => fun
  | [d1, d2, d3] => { results := [.lit (.bool false)], args := [d1, d2, d3] }
  | _ => none }
def FnExactCommonAncestorWrongFalsely : Prop := fnExactCommonAncestorRow.holds Try.pinned (OpenSpec.ofChange fnExactCommonAncestorWrong)

/-- 'laws.FnExactHeadsOf': WHATEVER THE INPUT: true; the input reads as it did. -/
def fnExactHeadsOfSpec : ChangeSpec := { name := "fnExactHeadsOf", fn := fun _ => fun
  | [d] => { results := [.lit (.bool true)], args := [d] }
  | _ => none }
def fnExactHeadsOfRow : OpenClaim := { program := "ythnigkbbmhnafaa", sum := "a18bd843e66b67ebd6218664ebe117341a81ba5ede2c73ce9cbb3cae191d7acd", func := "loop.example/g00956/laws.FnExactHeadsOf", spec := "fnExactHeadsOf", unfollowed := true, recurses := true, apart := false }
def FnExactHeadsOfSaid : Prop := fnExactHeadsOfRow.holds Try.pinned (OpenSpec.ofChange fnExactHeadsOfSpec)

/-- ITS FALSE NEIGHBOUR: 'it returns false'. Refute it at one input. -/
def fnExactHeadsOfWrong : ChangeSpec := { name := "fnExactHeadsOf", fn := fun _ => fun
  | [d] => { results := [.lit (.bool false)], args := [d] }
  | _ => none }
def FnExactHeadsOfWrongFalsely : Prop := fnExactHeadsOfRow.holds Try.pinned (OpenSpec.ofChange fnExactHeadsOfWrong)

/-- 'laws.FnExactAncestorsOf': WHATEVER THE INPUT: true; the input reads as it did. -/
def fnExactAncestorsOfSpec : ChangeSpec := { name := "fnExactAncestorsOf", fn := fun _ => fun
  | [d1, d2] => { results := [.lit (.bool true)], args := [d1, d2] }
  | _ => none }
def fnExactAncestorsOfRow : OpenClaim := { program := "ythnigkbbmhnafaa", sum := "a18bd843e66b67ebd6218664ebe117341a81ba5ede2c73ce9cbb3cae191d7acd", func := "loop.example/g00956/laws.FnExactAncestorsOf", spec := "fnExactAncestorsOf", apart := false }
def FnExactAncestorsOfSaid : Prop := fnExactAncestorsOfRow.holds Try.pinned (OpenSpec.ofChange fnExactAncestorsOfSpec)

/-- ITS FALSE NEIGHBOUR: 'it returns false'. Refute it at one input. -/
def fnExactAncestorsOfWrong : ChangeSpec := { name := "fnExactAncestorsOf", fn := fun _ => fun
  | [d1, d2] => { results := [.lit (.bool false)], args := [d1, d2] }
  | _ => none }
def FnExactAncestorsOfWrongFalsely : Prop := fnExactAncestorsOfRow.holds Try.pinned (OpenSpec.ofChange fnExactAncestorsOfWrong)

/-- 'laws.FnExactCommitState': WHATEVER THE INPUT: true; the input reads as it did. -/
def fnExactCommitStateSpec : ChangeSpec := { name := "fnExactCommitState", fn := fun _ => fun
  | [d1, d2, d3, d4] => { results := [.lit (.bool true)], args := [d1, d2, d3, d4] }
  | _ => none }
def fnExactCommitStateRow : OpenClaim := { program := "ythnigkbbmhnafaa", sum := "a18bd843e66b67ebd6218664ebe117341a81ba5ede2c73ce9cbb3cae191d7acd", func := "loop.example/g00956/laws.FnExactCommitState", spec := "fnExactCommitState", apart := false }
def FnExactCommitStateSaid : Prop := fnExactCommitStateRow.holds Try.pinned (OpenSpec.ofChange fnExactCommitStateSpec)

/-- ITS FALSE NEIGHBOUR: 'it returns false'. Refute it at one input. -/
def fnExactCommitStateWrong : ChangeSpec := { name := "fnExactCommitState", fn := fun _ => fun
  | [d1, d2, d3, d4] => { results := [.lit (.bool false)], args := [d1, d2, d3, d4] }
  | _ => none }
def FnExactCommitStateWrongFalsely : Prop := fnExactCommitStateRow.holds Try.pinned (OpenSpec.ofChange fnExactCommitStateWrong)

/-- 'laws.FnExactApplyChanges': WHATEVER THE INPUT: true; the input reads as it did. -/
def fnExactApplyChangesSpec : ChangeSpec := { name := "fnExactApplyChanges", fn := fun _ => fun
  | [d1, d2] => { results := [.lit (.bool true)], args := [d1, d2] }
  | _ => none }
def fnExactApplyChangesRow : OpenClaim := { program := "ythnigkbbmhnafaa", sum := "a18bd843e66b67ebd6218664ebe117341a81ba5ede2c73ce9cbb3cae191d7acd", func := "loop.example/g00956/laws.FnExactApplyChanges", spec := "fnExactApplyChanges", inPlace := ["internal/bytealg.abigen_runtime_cmpstring", "slices.overlaps[loop.example/g00956/impl.Entry]"], unfollowed := true, recurses := true, apart := false }
def FnExactApplyChangesSaid : Prop := fnExactApplyChangesRow.holds Try.pinned (OpenSpec.ofChange fnExactApplyChangesSpec)

/-- ITS FALSE NEIGHBOUR: 'it returns false'. Refute it at one input. -/
def fnExactApplyChangesWrong : ChangeSpec := { name := "fnExactApplyChanges", fn := fun _ => fun
  | [d1, d2] => { results := [.lit (.bool false)], args := [d1, d2] }
  | _ => none }
def FnExactApplyChangesWrongFalsely : Prop := fnExactApplyChangesRow.holds Try.pinned (OpenSpec.ofChange fnExactApplyChangesWrong)

/- THE SECOND FORM. 'bulk': how many values and letters a reading holds, each counted each time it is reached (what is shared counts as often as it is met; a slice's spare places count too). A statement '..UptoSaid' is the law's where the arguments, and the package variables that the reading takes, are together of bulk at most 1048576: NARROWER than '..Said'. Prove '..Said' where nothing that the law and all that it calls make is longer than what came in: it says more and counts as full. Else prove '..UptoSaid'. A law counts once. -/
mutual
def uptoBulk {H : Type} : DataW H → Nat
  | .lit (.string bytes) => bytes.length + 1
  | .lit _ => 1
  | .nil => 1
  | .ptr d => uptoBulk d + 1
  | .slice elems spare => uptoBulkAll elems + uptoBulkAll spare + 1
  | .agg parts => uptoBulkAll parts + 1
  | .iface _ d => uptoBulk d + 1
  | .map entries => uptoBulkEntries entries + 1
  | .held _ => 1
def uptoBulkAll {H : Type} : List (DataW H) → Nat
  | [] => 0
  | d :: r => uptoBulk d + uptoBulkAll r
def uptoBulkEntries {H : Type} : List (Lit × DataW H) → Nat
  | [] => 0
  | x :: r => uptoBulkEntry x + uptoBulkEntries r
def uptoBulkEntry {H : Type} : Lit × DataW H → Nat
  | (.string bytes, d) => bytes.length + uptoBulk d + 1
  | (_, d) => uptoBulk d + 1
 end
def uptoSmall : (H : Type) → List (DataW H) → Bool := fun _ ds => decide (uptoBulkAll ds ≤ 1048576)
def OpenSpec.upto (s : _root_.Go.ChangeSpec) : _root_.Go.OpenSpec := { _root_.Go.OpenSpec.ofChange s with cond := some uptoSmall }

/-- 'laws.FnExactSameState', WHERE WHAT IT READS IS OF BULK AT MOST 1048576: true; the input reads as it did. -/
def fnExactSameStateUptoRow : OpenClaim := { program := "ythnigkbbmhnafaa", sum := "a18bd843e66b67ebd6218664ebe117341a81ba5ede2c73ce9cbb3cae191d7acd", func := "loop.example/g00956/laws.FnExactSameState", spec := "fnExactSameState", apart := false, narrowed := true }
def FnExactSameStateUptoSaid : Prop := fnExactSameStateUptoRow.holds Try.pinned (OpenSpec.upto fnExactSameStateSpec)

/-- 'laws.FnExactValidState', WHERE WHAT IT READS IS OF BULK AT MOST 1048576: true; the input reads as it did. -/
def fnExactValidStateUptoRow : OpenClaim := { program := "ythnigkbbmhnafaa", sum := "a18bd843e66b67ebd6218664ebe117341a81ba5ede2c73ce9cbb3cae191d7acd", func := "loop.example/g00956/laws.FnExactValidState", spec := "fnExactValidState", apart := false, narrowed := true }
def FnExactValidStateUptoSaid : Prop := fnExactValidStateUptoRow.holds Try.pinned (OpenSpec.upto fnExactValidStateSpec)

/-- 'laws.FnExactSameProject', WHERE WHAT IT READS IS OF BULK AT MOST 1048576: true; the input reads as it did. -/
def fnExactSameProjectUptoRow : OpenClaim := { program := "ythnigkbbmhnafaa", sum := "a18bd843e66b67ebd6218664ebe117341a81ba5ede2c73ce9cbb3cae191d7acd", func := "loop.example/g00956/laws.FnExactSameProject", spec := "fnExactSameProject", unfollowed := true, recurses := true, apart := false, narrowed := true }
def FnExactSameProjectUptoSaid : Prop := fnExactSameProjectUptoRow.holds Try.pinned (OpenSpec.upto fnExactSameProjectSpec)

/-- 'laws.FnExactValidProject', WHERE WHAT IT READS IS OF BULK AT MOST 1048576: true; the input reads as it did. -/
def fnExactValidProjectUptoRow : OpenClaim := { program := "ythnigkbbmhnafaa", sum := "a18bd843e66b67ebd6218664ebe117341a81ba5ede2c73ce9cbb3cae191d7acd", func := "loop.example/g00956/laws.FnExactValidProject", spec := "fnExactValidProject", apart := false, narrowed := true }
def FnExactValidProjectUptoSaid : Prop := fnExactValidProjectUptoRow.holds Try.pinned (OpenSpec.upto fnExactValidProjectSpec)

/-- 'laws.FnExactDiffStates', WHERE WHAT IT READS IS OF BULK AT MOST 1048576: true; the input reads as it did. -/
def fnExactDiffStatesUptoRow : OpenClaim := { program := "ythnigkbbmhnafaa", sum := "a18bd843e66b67ebd6218664ebe117341a81ba5ede2c73ce9cbb3cae191d7acd", func := "loop.example/g00956/laws.FnExactDiffStates", spec := "fnExactDiffStates", inPlace := ["internal/bytealg.abigen_runtime_cmpstring"], unfollowed := true, recurses := true, apart := false, narrowed := true }
def FnExactDiffStatesUptoSaid : Prop := fnExactDiffStatesUptoRow.holds Try.pinned (OpenSpec.upto fnExactDiffStatesSpec)

/-- 'laws.FnExactCommonAncestor', WHERE WHAT IT READS IS OF BULK AT MOST 1048576: true; the input reads as it did. -/
def fnExactCommonAncestorUptoRow : OpenClaim := { program := "ythnigkbbmhnafaa", sum := "a18bd843e66b67ebd6218664ebe117341a81ba5ede2c73ce9cbb3cae191d7acd", func := "loop.example/g00956/laws.FnExactCommonAncestor", spec := "fnExactCommonAncestor", apart := false, narrowed := true }
def FnExactCommonAncestorUptoSaid : Prop := fnExactCommonAncestorUptoRow.holds Try.pinned (OpenSpec.upto fnExactCommonAncestorSpec)

/-- 'laws.FnExactHeadsOf', WHERE WHAT IT READS IS OF BULK AT MOST 1048576: true; the input reads as it did. -/
def fnExactHeadsOfUptoRow : OpenClaim := { program := "ythnigkbbmhnafaa", sum := "a18bd843e66b67ebd6218664ebe117341a81ba5ede2c73ce9cbb3cae191d7acd", func := "loop.example/g00956/laws.FnExactHeadsOf", spec := "fnExactHeadsOf", unfollowed := true, recurses := true, apart := false, narrowed := true }
def FnExactHeadsOfUptoSaid : Prop := fnExactHeadsOfUptoRow.holds Try.pinned (OpenSpec.upto fnExactHeadsOfSpec)

/-- 'laws.FnExactAncestorsOf', WHERE WHAT IT READS IS OF BULK AT MOST 1048576: true; the input reads as it did. -/
def fnExactAncestorsOfUptoRow : OpenClaim := { program := "ythnigkbbmhnafaa", sum := "a18bd843e66b67ebd6218664ebe117341a81ba5ede2c73ce9cbb3cae191d7acd", func := "loop.example/g00956/laws.FnExactAncestorsOf", spec := "fnExactAncestorsOf", apart := false, narrowed := true }
def FnExactAncestorsOfUptoSaid : Prop := fnExactAncestorsOfUptoRow.holds Try.pinned (OpenSpec.upto fnExactAncestorsOfSpec)

/-- 'laws.FnExactCommitState', WHERE WHAT IT READS IS OF BULK AT MOST 1048576: true; the input reads as it did. -/
def fnExactCommitStateUptoRow : OpenClaim := { program := "ythnigkbbmhnafaa", sum := "a18bd843e66b67ebd6218664ebe117341a81ba5ede2c73ce9cbb3cae191d7acd", func := "loop.example/g00956/laws.FnExactCommitState", spec := "fnExactCommitState", apart := false, narrowed := true }
def FnExactCommitStateUptoSaid : Prop := fnExactCommitStateUptoRow.holds Try.pinned (OpenSpec.upto fnExactCommitStateSpec)

/-- 'laws.FnExactApplyChanges', WHERE WHAT IT READS IS OF BULK AT MOST 1048576: true; the input reads as it did. -/
def fnExactApplyChangesUptoRow : OpenClaim := { program := "ythnigkbbmhnafaa", sum := "a18bd843e66b67ebd6218664ebe117341a81ba5ede2c73ce9cbb3cae191d7acd", func := "loop.example/g00956/laws.FnExactApplyChanges", spec := "fnExactApplyChanges", inPlace := ["internal/bytealg.abigen_runtime_cmpstring", "slices.overlaps[loop.example/g00956/impl.Entry]"], unfollowed := true, recurses := true, apart := false, narrowed := true }
def FnExactApplyChangesUptoSaid : Prop := fnExactApplyChangesUptoRow.holds Try.pinned (OpenSpec.upto fnExactApplyChangesSpec)

end Rows
end Go.Proofs.Ythnigkbbmhnafaa
