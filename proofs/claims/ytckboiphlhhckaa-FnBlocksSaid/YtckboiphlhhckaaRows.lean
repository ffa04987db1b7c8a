/-
  No cell of these rows narrows 'for every input' (looked for: loops, veiled, ifaces, maps, wideKeys, modest, calm, conditions, laid).
  DERIVED. THE GIVEN ROWS OF THIS SEAT. 9 by the template 'for every input the law returns true; each argument reads behind the call as it read before'; 0 by the template 'total and deterministic' (their statements: YtckboiphlhhckaaTotals.lean).
  GIVEN WITH THE SEED: the statements are not yours to turn. If you find one false, say at which input.
  Laid BY PROGRAM, IN A SANDBOX (cutbox-rows.mjs): the forced cells as the released guide's own fill.sh prints them over the translation 4ad4e64e1f4109f6… (all of the seat's roots in one cut). By AI agents, Wed Nov 11 2026. No macro, syntax, notation, axiom, sorry.
-/
import Derived.Test.YtckboiphlhhckaaChecked
import GoSem.Claim
import GoSem.ClaimJoined
import GoSem.ClaimMapViews
import Derived.JoinedTies
import Derived.KernelRfl
namespace Go.Proofs.Ytckboiphlhhckaa
/- THE CELL 'sum', in the pinned program and in every row, IS THE sha256 OF THE DUMP (.gsa) THAT YtckboiphlhhckaaProg.lean LOADS. Nothing in Lean hashes anything: it is a label: what it is worth is what the hold of that sum in a sandbox is worth. -/
noncomputable def Try.pinned : Pinned := { name := "ytckboiphlhhckaa", sum := "4ad4e64e1f4109f643d026bf401875b14bf8573cb8da8d599736336d6572ce54", checked := Try.checked }
namespace Rows
def none {H : Type} : Left H := { results := [], args := [] }

/-- 'laws.FnExactSameBlocks': WHATEVER THE INPUT: true; the input reads as it did. -/
def fnExactSameBlocksSpec : ChangeSpec := { name := "fnExactSameBlocks", fn := fun _ => fun
  | [d1, d2] => { results := [.lit (.bool true)], args := [d1, d2] }
  | _ => none }
def fnExactSameBlocksRow : OpenClaim := { program := "ytckboiphlhhckaa", sum := "4ad4e64e1f4109f643d026bf401875b14bf8573cb8da8d599736336d6572ce54", func := "loop.example/g00956/laws.FnExactSameBlocks", spec := "fnExactSameBlocks", apart := false }
def FnExactSameBlocksSaid : Prop := fnExactSameBlocksRow.holds Try.pinned (OpenSpec.ofChange fnExactSameBlocksSpec)

/-- ITS FALSE NEIGHBOUR: 'it returns false'. Refute it at one input. -/
def fnExactSameBlocksWrong : ChangeSpec := { name := "fnExactSameBlocks", fn := fun _ => fun
  | [d1, d2] => { results := [.lit (.bool false)], args := [d1, d2] }
  | _ => none }
def FnExactSameBlocksWrongFalsely : Prop := fnExactSameBlocksRow.holds Try.pinned (OpenSpec.ofChange fnExactSameBlocksWrong)

/-- 'laws.FnExactValidBlock': WHATEVER THE INPUT: true; the input reads as it did. -/
def fnExactValidBlockSpec : ChangeSpec := { name := "fnExactValidBlock", fn := fun _ => fun
  | [d] => { results := [.lit (.bool true)], args := [d] }
  | _ => none }
def fnExactValidBlockRow : OpenClaim := { program := "ytckboiphlhhckaa", sum := "4ad4e64e1f4109f643d026bf401875b14bf8573cb8da8d599736336d6572ce54", func := "loop.example/g00956/laws.FnExactValidBlock", spec := "fnExactValidBlock", inPlace := ["internal/bytealg.IndexByteString", "internal/bytealg.IndexString"], named := ["internal/bytealg.MaxLen"], apart := false }
def FnExactValidBlockSaid : Prop := fnExactValidBlockRow.holds Try.pinned (OpenSpec.ofChange fnExactValidBlockSpec)

/-- ITS FALSE NEIGHBOUR: 'it returns false'. Refute it at one input. -/
def fnExactValidBlockWrong : ChangeSpec := { name := "fnExactValidBlock", fn := fun _ => fun
  | [d] => { results := [.lit (.bool false)], args := [d] }
  | _ => none }
def FnExactValidBlockWrongFalsely : Prop := fnExactValidBlockRow.holds Try.pinned (OpenSpec.ofChange fnExactValidBlockWrong)

/-- 'laws.FnExactValidBlocks': WHATEVER THE INPUT: true; the input reads as it did. -/
def fnExactValidBlocksSpec : ChangeSpec := { name := "fnExactValidBlocks", fn := fun _ => fun
  | [d] => { results := [.lit (.bool true)], args := [d] }
  | _ => none }
def fnExactValidBlocksRow : OpenClaim := { program := "ytckboiphlhhckaa", sum := "4ad4e64e1f4109f643d026bf401875b14bf8573cb8da8d599736336d6572ce54", func := "loop.example/g00956/laws.FnExactValidBlocks", spec := "fnExactValidBlocks", inPlace := ["internal/bytealg.IndexByteString", "internal/bytealg.IndexString", "internal/bytealg.abigen_runtime_cmpstring"], named := ["internal/bytealg.MaxLen"], apart := false }
def FnExactValidBlocksSaid : Prop := fnExactValidBlocksRow.holds Try.pinned (OpenSpec.ofChange fnExactValidBlocksSpec)

/-- ITS FALSE NEIGHBOUR: 'it returns false'. Refute it at one input. -/
def fnExactValidBlocksWrong : ChangeSpec := { name := "fnExactValidBlocks", fn := fun _ => fun
  | [d] => { results := [.lit (.bool false)], args := [d] }
  | _ => none }
def FnExactValidBlocksWrongFalsely : Prop := fnExactValidBlocksRow.holds Try.pinned (OpenSpec.ofChange fnExactValidBlocksWrong)

/-- 'laws.FnExactBlockNamed': WHATEVER THE INPUT: true; the input reads as it did. -/
def fnExactBlockNamedSpec : ChangeSpec := { name := "fnExactBlockNamed", fn := fun _ => fun
  | [d1, d2, d3] => { results := [.lit (.bool true)], args := [d1, d2, d3] }
  | _ => none }
def fnExactBlockNamedRow : OpenClaim := { program := "ytckboiphlhhckaa", sum := "4ad4e64e1f4109f643d026bf401875b14bf8573cb8da8d599736336d6572ce54", func := "loop.example/g00956/laws.FnExactBlockNamed", spec := "fnExactBlockNamed", inPlace := ["internal/bytealg.IndexByteString", "internal/bytealg.IndexString", "internal/bytealg.abigen_runtime_cmpstring"], unfollowed := true, recurses := true, named := ["internal/bytealg.MaxLen"], apart := false }
def FnExactBlockNamedSaid : Prop := fnExactBlockNamedRow.holds Try.pinned (OpenSpec.ofChange fnExactBlockNamedSpec)

/-- ITS FALSE NEIGHBOUR: 'it returns false'. Refute it at one input. -/
def fnExactBlockNamedWrong : ChangeSpec := { name := "fnExactBlockNamed", fn := fun _ => fun
  | [d1, d2, d3] => { results := [.lit (.bool false)], args := [d1, d2, d3] }
  | _ => none }
def FnExactBlockNamedWrongFalsely : Prop := fnExactBlockNamedRow.holds Try.pinned (OpenSpec.ofChange fnExactBlockNamedWrong)

/-- 'laws.FnExactBlocksOfKind': WHATEVER THE INPUT: true; the input reads as it did. -/
def fnExactBlocksOfKindSpec : ChangeSpec := { name := "fnExactBlocksOfKind", fn := fun _ => fun
  | [d1, d2] => { results := [.lit (.bool true)], args := [d1, d2] }
  | _ => none }
def fnExactBlocksOfKindRow : OpenClaim := { program := "ytckboiphlhhckaa", sum := "4ad4e64e1f4109f643d026bf401875b14bf8573cb8da8d599736336d6572ce54", func := "loop.example/g00956/laws.FnExactBlocksOfKind", spec := "fnExactBlocksOfKind", inPlace := ["internal/bytealg.IndexByteString", "internal/bytealg.IndexString", "internal/bytealg.abigen_runtime_cmpstring"], named := ["internal/bytealg.MaxLen"], apart := false }
def FnExactBlocksOfKindSaid : Prop := fnExactBlocksOfKindRow.holds Try.pinned (OpenSpec.ofChange fnExactBlocksOfKindSpec)

/-- ITS FALSE NEIGHBOUR: 'it returns false'. Refute it at one input. -/
def fnExactBlocksOfKindWrong : ChangeSpec := { name := "fnExactBlocksOfKind", fn := fun _ => fun
  | [d1, d2] => { results := [.lit (.bool false)], args := [d1, d2] }
  | _ => none }
def FnExactBlocksOfKindWrongFalsely : Prop := fnExactBlocksOfKindRow.holds Try.pinned (OpenSpec.ofChange fnExactBlocksOfKindWrong)

/-- 'laws.FnExactDropBlock': WHATEVER THE INPUT: true; the input reads as it did. -/
def fnExactDropBlockSpec : ChangeSpec := { name := "fnExactDropBlock", fn := fun _ => fun
  | [d1, d2, d3] => { results := [.lit (.bool true)], args := [d1, d2, d3] }
  | _ => none }
def fnExactDropBlockRow : OpenClaim := { program := "ytckboiphlhhckaa", sum := "4ad4e64e1f4109f643d026bf401875b14bf8573cb8da8d599736336d6572ce54", func := "loop.example/g00956/laws.FnExactDropBlock", spec := "fnExactDropBlock", inPlace := ["internal/bytealg.IndexByteString", "internal/bytealg.IndexString", "internal/bytealg.abigen_runtime_cmpstring"], unfollowed := true, recurses := true, named := ["internal/bytealg.MaxLen"], apart := false }
def FnExactDropBlockSaid : Prop := fnExactDropBlockRow.holds Try.pinned (OpenSpec.ofChange fnExactDropBlockSpec)

/-- ITS FALSE NEIGHBOUR: 'it returns false'. Refute it at one input. -/
def fnExactDropBlockWrong : ChangeSpec := { name := "fnExactDropBlock", fn := fun _ => fun
  | [d1, d2, d3] => { results := [.lit (.bool false)], args := [d1, d2, d3] }
  | _ => none }
def FnExactDropBlockWrongFalsely : Prop := fnExactDropBlockRow.holds Try.pinned (OpenSpec.ofChange fnExactDropBlockWrong)

/-- 'laws.FnExactPutBlock': WHATEVER THE INPUT: true; the input reads as it did. -/
def fnExactPutBlockSpec : ChangeSpec := { name := "fnExactPutBlock", fn := fun _ => fun
  | [d1, d2] => { results := [.lit (.bool true)], args := [d1, d2] }
  | _ => none }
def fnExactPutBlockRow : OpenClaim := { program := "ytckboiphlhhckaa", sum := "4ad4e64e1f4109f643d026bf401875b14bf8573cb8da8d599736336d6572ce54", func := "loop.example/g00956/laws.FnExactPutBlock", spec := "fnExactPutBlock", inPlace := ["internal/bytealg.IndexByteString", "internal/bytealg.IndexString", "internal/bytealg.abigen_runtime_cmpstring", "slices.overlaps[loop.example/g00956/impl.Block]"], unfollowed := true, recurses := true, named := ["internal/bytealg.MaxLen"], apart := false }
def FnExactPutBlockSaid : Prop := fnExactPutBlockRow.holds Try.pinned (OpenSpec.ofChange fnExactPutBlockSpec)

/-- ITS FALSE NEIGHBOUR: 'it returns false'. Refute it at one input. -/
def fnExactPutBlockWrong : ChangeSpec := { name := "fnExactPutBlock", fn := fun _ => fun
  | [d1, d2] => { results := [.lit (.bool false)], args := [d1, d2] }
  | _ => none }
def FnExactPutBlockWrongFalsely : Prop := fnExactPutBlockRow.holds Try.pinned (OpenSpec.ofChange fnExactPutBlockWrong)

/-- 'laws.FnExactMergeBlocks': WHATEVER THE INPUT: true; the input reads as it did. -/
def fnExactMergeBlocksSpec : ChangeSpec := { name := "fnExactMergeBlocks", fn := fun _ => fun
  | [d1, d2] => { results := [.lit (.bool true)], args := [d1, d2] }
  | _ => none }
def fnExactMergeBlocksRow : OpenClaim := { program := "ytckboiphlhhckaa", sum := "4ad4e64e1f4109f643d026bf401875b14bf8573cb8da8d599736336d6572ce54", func := "loop.example/g00956/laws.FnExactMergeBlocks", spec := "fnExactMergeBlocks", inPlace := ["internal/bytealg.IndexByteString", "internal/bytealg.IndexString", "internal/bytealg.abigen_runtime_cmpstring", "slices.overlaps[loop.example/g00956/impl.Block]"], unfollowed := true, recurses := true, named := ["internal/bytealg.MaxLen"], apart := false }
def FnExactMergeBlocksSaid : Prop := fnExactMergeBlocksRow.holds Try.pinned (OpenSpec.ofChange fnExactMergeBlocksSpec)

/-- ITS FALSE NEIGHBOUR: 'it returns false'. Refute it at one input. -/
def fnExactMergeBlocksWrong : ChangeSpec := { name := "fnExactMergeBlocks", fn := fun _ => fun
  | [d1, d2] => { results := [.lit (.bool false)], args := [d1, d2] }
  | _ => none }
def FnExactMergeBlocksWrongFalsely : Prop := fnExactMergeBlocksRow.holds Try.pinned (OpenSpec.ofChange fnExactMergeBlocksWrong)

/-- 'laws.FnBlocks': WHATEVER THE INPUT: true; the input reads as it did. -/
def fnBlocksSpec : ChangeSpec := { name := "fnBlocks", fn := fun _ => fun
  | [d1, d2] => { results := [.lit (.bool true)], args := [d1, d2] }
  | _ => none }
def fnBlocksRow : OpenClaim := { program := "ytckboiphlhhckaa", sum := "4ad4e64e1f4109f643d026bf401875b14bf8573cb8da8d599736336d6572ce54", func := "loop.example/g00956/laws.FnBlocks", spec := "fnBlocks", inPlace := ["internal/bytealg.IndexByteString", "internal/bytealg.IndexString", "internal/bytealg.abigen_runtime_cmpstring", "slices.overlaps[loop.example/g00956/impl.Block]"], unfollowed := true, recurses := true, named := ["internal/bytealg.MaxLen"], apart := false }
def FnBlocksSaid : Prop := fnBlocksRow.holds Try.pinned (OpenSpec.ofChange fnBlocksSpec)

/-- ITS FALSE NEIGHBOUR: 'it returns false'. Refute it at one input. -/
def fnBlocksWrong : ChangeSpec := { name := "fnBlocks", fn := fun _ => fun
  | [d1, d2] => { results := [.lit (.bool false)], args := [d1, d2] }
  | _ => none }
def FnBlocksWrongFalsely : Prop := fnBlocksRow.holds Try.pinned (OpenSpec.ofChange fnBlocksWrong)

/- THE SECOND FORM. 'bulk': how many values and letters a reading holds, each counted each time it is reached (what is shared counts as often as it is met; a slice's spare places count too). A statement '..UptoSaid' is the law's where the arguments, and the package variables that the reading takes, are together of bulk at most 1048576: NARROWER than '..Said'. Prove '..Said' where nothing that the law and all that it calls make is longer than what came in: it says more and counts as full. Else prove '..UptoSaid'. A law counts once. -/
mutual
def uptoBulk {H : Type} : DataW H → Nat
  | .lit (.string bytes) => bytes.length + 1
  | .lit _ => 1
  | .nil => 1
  | .ptr d => uptoBulk d + 1
  | .slice elems spare => uptoBulkAll elems + uptoBulkAll spare + 1
  | .agg parts => uptoBulkAll parts + 1
  | .iface _ d => uptoBulk d + 1
  | .map entries => uptoBulkEntries entries + 1
  | .held _ => 1
def uptoBulkAll {H : Type} : List (DataW H) → Nat
  | [] => 0
  | d :: r => uptoBulk d + uptoBulkAll r
def uptoBulkEntries {H : Type} : List (Lit × DataW H) → Nat
  | [] => 0
  | x :: r => uptoBulkEntry x + uptoBulkEntries r
def uptoBulkEntry {H : Type} : Lit × DataW H → Nat
  | (.string bytes, d) => bytes.length + uptoBulk d + 1
  | (_, d) => uptoBulk d + 1
 end
def uptoSmall : (H : Type) → List (DataW H) → Bool := fun _ ds => decide (uptoBulkAll ds ≤ 1048576)
def OpenSpec.upto (s : _root_.Go.ChangeSpec) : _root_.Go.OpenSpec := { _root_.Go.OpenSpec.ofChange s with cond := some uptoSmall }

/-- 'laws.FnExactSameBlocks', WHERE WHAT IT READS IS OF BULK AT MOST 1048576: true; the input reads as it did. -/
def fnExactSameBlocksUptoRow : OpenClaim := { program := "ytckboiphlhhckaa", sum := "4ad4e64e1f4109f643d026bf401875b14bf8573cb8da8d599736336d6572ce54", func := "loop.example/g00956/laws.FnExactSameBlocks", spec := "fnExactSameBlocks", apart := false, narrowed := true }
def FnExactSameBlocksUptoSaid : Prop := fnExactSameBlocksUptoRow.holds Try.pinned (OpenSpec.upto fnExactSameBlocksSpec)

/-- 'laws.FnExactValidBlock', WHERE WHAT IT READS IS OF BULK AT MOST 1048576: true; the input reads as it did. -/
def fnExactValidBlockUptoRow : OpenClaim := { program := "ytckboiphlhhckaa", sum := "4ad4e64e1f4109f643d026bf401875b14bf8573cb8da8d599736336d6572ce54", func := "loop.example/g00956/laws.FnExactValidBlock", spec := "fnExactValidBlock", inPlace := ["internal/bytealg.IndexByteString", "internal/bytealg.IndexString"], named := ["internal/bytealg.MaxLen"], apart := false, narrowed := true }
def FnExactValidBlockUptoSaid : Prop := fnExactValidBlockUptoRow.holds Try.pinned (OpenSpec.upto fnExactValidBlockSpec)

/-- 'laws.FnExactValidBlocks', WHERE WHAT IT READS IS OF BULK AT MOST 1048576: true; the input reads as it did. -/
def fnExactValidBlocksUptoRow : OpenClaim := { program := "ytckboiphlhhckaa", sum := "4ad4e64e1f4109f643d026bf401875b14bf8573cb8da8d599736336d6572ce54", func := "loop.example/g00956/laws.FnExactValidBlocks", spec := "fnExactValidBlocks", inPlace := ["internal/bytealg.IndexByteString", "internal/bytealg.IndexString", "internal/bytealg.abigen_runtime_cmpstring"], named := ["internal/bytealg.MaxLen"], apart := false, narrowed := true }
def FnExactValidBlocksUptoSaid : Prop := fnExactValidBlocksUptoRow.holds Try.pinned (OpenSpec.upto fnExactValidBlocksSpec)

/-- 'laws.FnExactBlockNamed', WHERE WHAT IT READS IS OF BULK AT MOST 1048576: true; the input reads as it did. -/
def fnExactBlockNamedUptoRow : OpenClaim := { program := "ytckboiphlhhckaa", sum := "4ad4e64e1f4109f643d026bf401875b14bf8573cb8da8d599736336d6572ce54", func := "loop.example/g00956/laws.FnExactBlockNamed", spec := "fnExactBlockNamed", inPlace := ["internal/bytealg.IndexByteString", "internal/bytealg.IndexString", "internal/bytealg.abigen_runtime_cmpstring"], unfollowed := true, recurses := true, named := ["internal/bytealg.MaxLen"], apart := false, narrowed := true }
def FnExactBlockNamedUptoSaid : Prop := fnExactBlockNamedUptoRow.holds Try.pinned (OpenSpec.upto fnExactBlockNamedSpec)

/-- 'laws.FnExactBlocksOfKind', WHERE WHAT IT READS IS OF BULK AT MOST 1048576: true; the input reads as it did. -/
def fnExactBlocksOfKindUptoRow : OpenClaim := { program := "ytckboiphlhhckaa", sum := "4ad4e64e1f4109f643d026bf401875b14bf8573cb8da8d599736336d6572ce54", func := "loop.example/g00956/laws.FnExactBlocksOfKind", spec := "fnExactBlocksOfKind", inPlace := ["internal/bytealg.IndexByteString", "internal/bytealg.IndexString", "internal/bytealg.abigen_runtime_cmpstring"], named := ["internal/bytealg.MaxLen"], apart := false, narrowed := true }
def FnExactBlocksOfKindUptoSaid : Prop := fnExactBlocksOfKindUptoRow.holds Try.pinned (OpenSpec.upto fnExactBlocksOfKindSpec)

/-- 'laws.FnExactDropBlock', WHERE WHAT IT READS IS OF BULK AT MOST 1048576: true; the input reads as it did. -/
def fnExactDropBlockUptoRow : OpenClaim := { program := "ytckboiphlhhckaa", sum := "4ad4e64e1f4109f643d026bf401875b14bf8573cb8da8d599736336d6572ce54", func := "loop.example/g00956/laws.FnExactDropBlock", spec := "fnExactDropBlock", inPlace := ["internal/bytealg.IndexByteString", "internal/bytealg.IndexString", "internal/bytealg.abigen_runtime_cmpstring"], unfollowed := true, recurses := true, named := ["internal/bytealg.MaxLen"], apart := false, narrowed := true }
def FnExactDropBlockUptoSaid : Prop := fnExactDropBlockUptoRow.holds Try.pinned (OpenSpec.upto fnExactDropBlockSpec)

/-- 'laws.FnExactPutBlock', WHERE WHAT IT READS IS OF BULK AT MOST 1048576: true; the input reads as it did. -/
def fnExactPutBlockUptoRow : OpenClaim := { program := "ytckboiphlhhckaa", sum := "4ad4e64e1f4109f643d026bf401875b14bf8573cb8da8d599736336d6572ce54", func := "loop.example/g00956/laws.FnExactPutBlock", spec := "fnExactPutBlock", inPlace := ["internal/bytealg.IndexByteString", "internal/bytealg.IndexString", "internal/bytealg.abigen_runtime_cmpstring", "slices.overlaps[loop.example/g00956/impl.Block]"], unfollowed := true, recurses := true, named := ["internal/bytealg.MaxLen"], apart := false, narrowed := true }
def FnExactPutBlockUptoSaid : Prop := fnExactPutBlockUptoRow.holds Try.pinned (OpenSpec.upto fnExactPutBlockSpec)

/-- 'laws.FnExactMergeBlocks', WHERE WHAT IT READS IS OF BULK AT MOST 1048576: true; the input reads as it did. -/
def fnExactMergeBlocksUptoRow : OpenClaim := { program := "ytckboiphlhhckaa", sum := "4ad4e64e1f4109f643d026bf401875b14bf8573cb8da8d599736336d6572ce54", func := "loop.example/g00956/laws.FnExactMergeBlocks", spec := "fnExactMergeBlocks", inPlace := ["internal/bytealg.IndexByteString", "internal/bytealg.IndexString", "internal/bytealg.abigen_runtime_cmpstring", "slices.overlaps[loop.example/g00956/impl.Block]"], unfollowed := true, recurses := true, named := ["internal/bytealg.MaxLen"], apart := false, narrowed := true }
def FnExactMergeBlocksUptoSaid : Prop := fnExactMergeBlocksUptoRow.holds Try.pinned (OpenSpec.upto fnExactMergeBlocksSpec)

/-- 'laws.FnBlocks', WHERE WHAT IT READS IS OF BULK AT MOST 1048576: true; the input reads as it did. -/
def fnBlocksUptoRow : OpenClaim := { program := "ytckboiphlhhckaa", sum := "4ad4e64e1f4109f643d026bf401875b14bf8573cb8da8d599736336d6572ce54", func := "loop.example/g00956/laws.FnBlocks", spec := "fnBlocks", inPlace := ["internal/bytealg.IndexByteString", "internal/bytealg.IndexString", "internal/bytealg.abigen_runtime_cmpstring", "slices.overlaps[loop.example/g00956/impl.Block]"], unfollowed := true, recurses := true, named := ["internal/bytealg.MaxLen"], apart := false, narrowed := true }
def FnBlocksUptoSaid : Prop := fnBlocksUptoRow.holds Try.pinned (OpenSpec.upto fnBlocksSpec)

end Rows
end Go.Proofs.Ytckboiphlhhckaa
