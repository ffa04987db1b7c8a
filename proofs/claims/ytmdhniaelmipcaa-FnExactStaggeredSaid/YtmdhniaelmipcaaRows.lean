/-
  No cell of these rows narrows 'for every input' (looked for: loops, veiled, ifaces, maps, wideKeys, modest, calm, conditions, laid).
  DERIVED. THE GIVEN ROWS OF THIS SEAT. 10 by the template 'for every input the law returns true; each argument reads behind the call as it read before'; 0 by the template 'total and deterministic' (their statements: YtmdhniaelmipcaaTotals.lean).
  GIVEN WITH THE SEED: the statements are not yours to turn. If you find one false, say at which input.
  Laid BY PROGRAM, IN A SANDBOX (cutbox-rows.mjs): the forced cells as the released guide's own fill.sh prints them over the translation 93cc2351f8b4ff76… (all of the seat's roots in one cut). By AI agents, Wed Nov 11 2026. No macro, syntax, notation, axiom, sorry.
-/
import Derived.Test.YtmdhniaelmipcaaChecked
import GoSem.Claim
import GoSem.ClaimJoined
import GoSem.ClaimMapViews
import Derived.JoinedTies
import Derived.KernelRfl
namespace Go.Proofs.Ytmdhniaelmipcaa
/- THE CELL 'sum', in the pinned program and in every row, IS THE sha256 OF THE DUMP (.gsa) THAT YtmdhniaelmipcaaProg.lean LOADS. Nothing in Lean hashes anything: it is a label: what it is worth is what the hold of that sum in a sandbox is worth. -/
noncomputable def Try.pinned : Pinned := { name := "ytmdhniaelmipcaa", sum := "93cc2351f8b4ff767a0fee59ab2cb9aa586b7f36f57d16078e97aa440fb4f6a8", checked := Try.checked }
namespace Rows
def none {H : Type} : Left H := { results := [], args := [] }

/-- 'laws.FnExactValidRoom': WHATEVER THE INPUT: true; the input reads as it did. -/
def fnExactValidRoomSpec : ChangeSpec := { name := "fnExactValidRoom", fn := fun _ => fun
  | [d] => { results := [.lit (.bool true)], args := [d] }
  | _ => none }
def fnExactValidRoomRow : OpenClaim := { program := "ytmdhniaelmipcaa", sum := "93cc2351f8b4ff767a0fee59ab2cb9aa586b7f36f57d16078e97aa440fb4f6a8", func := "loop.example/g00956/laws.FnExactValidRoom", spec := "fnExactValidRoom", apart := false }
def FnExactValidRoomSaid : Prop := fnExactValidRoomRow.holds Try.pinned (OpenSpec.ofChange fnExactValidRoomSpec)

/-- ITS FALSE NEIGHBOUR: 'it returns false'. Refute it at one input. -/
def fnExactValidRoomWrong : ChangeSpec := { name := "fnExactValidRoom", fn := fun _ => fun
  | [d] => { results := [.lit (.bool false)], args := [d] }
  | _ => none }
def FnExactValidRoomWrongFalsely : Prop := fnExactValidRoomRow.holds Try.pinned (OpenSpec.ofChange fnExactValidRoomWrong)

/-- 'laws.FnExactValidStock': WHATEVER THE INPUT: true; the input reads as it did. -/
def fnExactValidStockSpec : ChangeSpec := { name := "fnExactValidStock", fn := fun _ => fun
  | [d] => { results := [.lit (.bool true)], args := [d] }
  | _ => none }
def fnExactValidStockRow : OpenClaim := { program := "ytmdhniaelmipcaa", sum := "93cc2351f8b4ff767a0fee59ab2cb9aa586b7f36f57d16078e97aa440fb4f6a8", func := "loop.example/g00956/laws.FnExactValidStock", spec := "fnExactValidStock", apart := false }
def FnExactValidStockSaid : Prop := fnExactValidStockRow.holds Try.pinned (OpenSpec.ofChange fnExactValidStockSpec)

/-- ITS FALSE NEIGHBOUR: 'it returns false'. Refute it at one input. -/
def fnExactValidStockWrong : ChangeSpec := { name := "fnExactValidStock", fn := fun _ => fun
  | [d] => { results := [.lit (.bool false)], args := [d] }
  | _ => none }
def FnExactValidStockWrongFalsely : Prop := fnExactValidStockRow.holds Try.pinned (OpenSpec.ofChange fnExactValidStockWrong)

/-- 'laws.FnExactValidRates': WHATEVER THE INPUT: true; the input reads as it did. -/
def fnExactValidRatesSpec : ChangeSpec := { name := "fnExactValidRates", fn := fun _ => fun
  | [d] => { results := [.lit (.bool true)], args := [d] }
  | _ => none }
def fnExactValidRatesRow : OpenClaim := { program := "ytmdhniaelmipcaa", sum := "93cc2351f8b4ff767a0fee59ab2cb9aa586b7f36f57d16078e97aa440fb4f6a8", func := "loop.example/g00956/laws.FnExactValidRates", spec := "fnExactValidRates", apart := false }
def FnExactValidRatesSaid : Prop := fnExactValidRatesRow.holds Try.pinned (OpenSpec.ofChange fnExactValidRatesSpec)

/-- ITS FALSE NEIGHBOUR: 'it returns false'. Refute it at one input. -/
def fnExactValidRatesWrong : ChangeSpec := { name := "fnExactValidRates", fn := fun _ => fun
  | [d] => { results := [.lit (.bool false)], args := [d] }
  | _ => none }
def FnExactValidRatesWrongFalsely : Prop := fnExactValidRatesRow.holds Try.pinned (OpenSpec.ofChange fnExactValidRatesWrong)

/-- 'laws.FnExactDiscountFor': WHATEVER THE INPUT: true; the input reads as it did. -/
def fnExactDiscountForSpec : ChangeSpec := { name := "fnExactDiscountFor", fn := fun _ => fun
  | [d] => { results := [.lit (.bool true)], args := [d] }
  | _ => none }
def fnExactDiscountForRow : OpenClaim := { program := "ytmdhniaelmipcaa", sum := "93cc2351f8b4ff767a0fee59ab2cb9aa586b7f36f57d16078e97aa440fb4f6a8", func := "loop.example/g00956/laws.FnExactDiscountFor", spec := "fnExactDiscountFor", apart := false }
def FnExactDiscountForSaid : Prop := fnExactDiscountForRow.holds Try.pinned (OpenSpec.ofChange fnExactDiscountForSpec)

/-- ITS FALSE NEIGHBOUR: 'it returns false'. Refute it at one input. -/
def fnExactDiscountForWrong : ChangeSpec := { name := "fnExactDiscountFor", fn := fun _ => fun
  | [d] => { results := [.lit (.bool false)], args := [d] }
  | _ => none }
def FnExactDiscountForWrongFalsely : Prop := fnExactDiscountForRow.holds Try.pinned (OpenSpec.ofChange fnExactDiscountForWrong)

/-- 'laws.FnExactSpeciesPrice': WHATEVER THE INPUT: true; the input reads as it did. -/
def fnExactSpeciesPriceSpec : ChangeSpec := { name := "fnExactSpeciesPrice", fn := fun _ => fun
  | [d] => { results := [.lit (.bool true)], args := [d] }
  | _ => none }
def fnExactSpeciesPriceRow : OpenClaim := { program := "ytmdhniaelmipcaa", sum := "93cc2351f8b4ff767a0fee59ab2cb9aa586b7f36f57d16078e97aa440fb4f6a8", func := "loop.example/g00956/laws.FnExactSpeciesPrice", spec := "fnExactSpeciesPrice", apart := false }
def FnExactSpeciesPriceSaid : Prop := fnExactSpeciesPriceRow.holds Try.pinned (OpenSpec.ofChange fnExactSpeciesPriceSpec)

/-- ITS FALSE NEIGHBOUR: 'it returns false'. Refute it at one input. -/
def fnExactSpeciesPriceWrong : ChangeSpec := { name := "fnExactSpeciesPrice", fn := fun _ => fun
  | [d] => { results := [.lit (.bool false)], args := [d] }
  | _ => none }
def FnExactSpeciesPriceWrongFalsely : Prop := fnExactSpeciesPriceRow.holds Try.pinned (OpenSpec.ofChange fnExactSpeciesPriceWrong)

/-- 'laws.FnExactRowCount': WHATEVER THE INPUT: true; the input reads as it did. -/
def fnExactRowCountSpec : ChangeSpec := { name := "fnExactRowCount", fn := fun _ => fun
  | [d1, d2] => { results := [.lit (.bool true)], args := [d1, d2] }
  | _ => none }
def fnExactRowCountRow : OpenClaim := { program := "ytmdhniaelmipcaa", sum := "93cc2351f8b4ff767a0fee59ab2cb9aa586b7f36f57d16078e97aa440fb4f6a8", func := "loop.example/g00956/laws.FnExactRowCount", spec := "fnExactRowCount", apart := false }
def FnExactRowCountSaid : Prop := fnExactRowCountRow.holds Try.pinned (OpenSpec.ofChange fnExactRowCountSpec)

/-- ITS FALSE NEIGHBOUR: 'it returns false'. Refute it at one input. -/
def fnExactRowCountWrong : ChangeSpec := { name := "fnExactRowCount", fn := fun _ => fun
  | [d1, d2] => { results := [.lit (.bool false)], args := [d1, d2] }
  | _ => none }
def FnExactRowCountWrongFalsely : Prop := fnExactRowCountRow.holds Try.pinned (OpenSpec.ofChange fnExactRowCountWrong)

/-- 'laws.FnExactRowPieces': WHATEVER THE INPUT: true; the input reads as it did. -/
def fnExactRowPiecesSpec : ChangeSpec := { name := "fnExactRowPieces", fn := fun _ => fun
  | [d1, d2, d3] => { results := [.lit (.bool true)], args := [d1, d2, d3] }
  | _ => none }
def fnExactRowPiecesRow : OpenClaim := { program := "ytmdhniaelmipcaa", sum := "93cc2351f8b4ff767a0fee59ab2cb9aa586b7f36f57d16078e97aa440fb4f6a8", func := "loop.example/g00956/laws.FnExactRowPieces", spec := "fnExactRowPieces", apart := false }
def FnExactRowPiecesSaid : Prop := fnExactRowPiecesRow.holds Try.pinned (OpenSpec.ofChange fnExactRowPiecesSpec)

/-- ITS FALSE NEIGHBOUR: 'it returns false'. Refute it at one input. -/
def fnExactRowPiecesWrong : ChangeSpec := { name := "fnExactRowPieces", fn := fun _ => fun
  | [d1, d2, d3] => { results := [.lit (.bool false)], args := [d1, d2, d3] }
  | _ => none }
def FnExactRowPiecesWrongFalsely : Prop := fnExactRowPiecesRow.holds Try.pinned (OpenSpec.ofChange fnExactRowPiecesWrong)

/-- 'laws.FnExactRowJoints': WHATEVER THE INPUT: true; the input reads as it did. -/
def fnExactRowJointsSpec : ChangeSpec := { name := "fnExactRowJoints", fn := fun _ => fun
  | [d1, d2, d3] => { results := [.lit (.bool true)], args := [d1, d2, d3] }
  | _ => none }
def fnExactRowJointsRow : OpenClaim := { program := "ytmdhniaelmipcaa", sum := "93cc2351f8b4ff767a0fee59ab2cb9aa586b7f36f57d16078e97aa440fb4f6a8", func := "loop.example/g00956/laws.FnExactRowJoints", spec := "fnExactRowJoints", apart := false }
def FnExactRowJointsSaid : Prop := fnExactRowJointsRow.holds Try.pinned (OpenSpec.ofChange fnExactRowJointsSpec)

/-- ITS FALSE NEIGHBOUR: 'it returns false'. Refute it at one input. -/
def fnExactRowJointsWrong : ChangeSpec := { name := "fnExactRowJoints", fn := fun _ => fun
  | [d1, d2, d3] => { results := [.lit (.bool false)], args := [d1, d2, d3] }
  | _ => none }
def FnExactRowJointsWrongFalsely : Prop := fnExactRowJointsRow.holds Try.pinned (OpenSpec.ofChange fnExactRowJointsWrong)

/-- 'laws.FnExactStaggered': WHATEVER THE INPUT: true; the input reads as it did. -/
def fnExactStaggeredSpec : ChangeSpec := { name := "fnExactStaggered", fn := fun _ => fun
  | [d1, d2, d3, d4] => { results := [.lit (.bool true)], args := [d1, d2, d3, d4] }
  | _ => none }
def fnExactStaggeredRow : OpenClaim := { program := "ytmdhniaelmipcaa", sum := "93cc2351f8b4ff767a0fee59ab2cb9aa586b7f36f57d16078e97aa440fb4f6a8", func := "loop.example/g00956/laws.FnExactStaggered", spec := "fnExactStaggered", apart := false }
def FnExactStaggeredSaid : Prop := fnExactStaggeredRow.holds Try.pinned (OpenSpec.ofChange fnExactStaggeredSpec)

/-- ITS FALSE NEIGHBOUR: 'it returns false'. Refute it at one input. -/
def fnExactStaggeredWrong : ChangeSpec := { name := "fnExactStaggered", fn := fun _ => fun
  | [d1, d2, d3, d4] => { results := [.lit (.bool false)], args := [d1, d2, d3, d4] }
  | _ => none }
def FnExactStaggeredWrongFalsely : Prop := fnExactStaggeredRow.holds Try.pinned (OpenSpec.ofChange fnExactStaggeredWrong)

/-- 'laws.FnExactCheaperVeneer': WHATEVER THE INPUT: true; the input reads as it did. -/
def fnExactCheaperVeneerSpec : ChangeSpec := { name := "fnExactCheaperVeneer", fn := fun _ => fun
  | [d1, d2] => { results := [.lit (.bool true)], args := [d1, d2] }
  | _ => none }
def fnExactCheaperVeneerRow : OpenClaim := { program := "ytmdhniaelmipcaa", sum := "93cc2351f8b4ff767a0fee59ab2cb9aa586b7f36f57d16078e97aa440fb4f6a8", func := "loop.example/g00956/laws.FnExactCheaperVeneer", spec := "fnExactCheaperVeneer", apart := false }
def FnExactCheaperVeneerSaid : Prop := fnExactCheaperVeneerRow.holds Try.pinned (OpenSpec.ofChange fnExactCheaperVeneerSpec)

/-- ITS FALSE NEIGHBOUR: 'it returns false'. Refute it at one input. -/
def fnExactCheaperVeneerWrong : ChangeSpec := { name := "fnExactCheaperVeneer", fn := fun _ => fun
  | [d1, d2] => { results := [.lit (.bool false)], args := [d1, d2] }
  | _ => none }
def FnExactCheaperVeneerWrongFalsely : Prop := fnExactCheaperVeneerRow.holds Try.pinned (OpenSpec.ofChange fnExactCheaperVeneerWrong)

/- THE SECOND FORM. 'bulk': how many values and letters a reading holds, each counted each time it is reached (what is shared counts as often as it is met; a slice's spare places count too). A statement '..UptoSaid' is the law's where the arguments, and the package variables that the reading takes, are together of bulk at most 1048576: NARROWER than '..Said'. Prove '..Said' where nothing that the law and all that it calls make is longer than what came in: it says more and counts as full. Else prove '..UptoSaid'. A law counts once. -/
mutual
def uptoBulk {H : Type} : DataW H → Nat
  | .lit (.string bytes) => bytes.length + 1
  | .lit _ => 1
  | .nil => 1
  | .ptr d => uptoBulk d + 1
  | .slice elems spare => uptoBulkAll elems + uptoBulkAll spare + 1
  | .agg parts => uptoBulkAll parts + 1
  | .iface _ d => uptoBulk d + 1
  | .map entries => uptoBulkEntries entries + 1
  | .held _ => 1
def uptoBulkAll {H : Type} : List (DataW H) → Nat
  | [] => 0
  | d :: r => uptoBulk d + uptoBulkAll r
def uptoBulkEntries {H : Type} : List (Lit × DataW H) → Nat
  | [] => 0
  | x :: r => uptoBulkEntry x + uptoBulkEntries r
def uptoBulkEntry {H : Type} : Lit × DataW H → Nat
  | (.string bytes, d) => bytes.length + uptoBulk d + 1
  | (_, d) => uptoBulk d + 1
 end
def uptoSmall : (H : Type) → List (DataW H) → Bool := fun _ ds => decide (uptoBulkAll ds ≤ 1048576)
def OpenSpec.upto (s : _root_.Go.ChangeSpec) : _root_.Go.OpenSpec := { _root_.Go.OpenSpec.ofChange s with cond := some uptoSmall }

/-- 'laws.FnExactValidRoom', WHERE WHAT IT READS IS OF BULK AT MOST 1048576: true; the input reads as it did. -/
def fnExactValidRoomUptoRow : OpenClaim := { program := "ytmdhniaelmipcaa", sum := "93cc2351f8b4ff767a0fee59ab2cb9aa586b7f36f57d16078e97aa440fb4f6a8", func := "loop.example/g00956/laws.FnExactValidRoom", spec := "fnExactValidRoom", apart := false, narrowed := true }
def FnExactValidRoomUptoSaid : Prop := fnExactValidRoomUptoRow.holds Try.pinned (OpenSpec.upto fnExactValidRoomSpec)

/-- 'laws.FnExactValidStock', WHERE WHAT IT READS IS OF BULK AT MOST 1048576: true; the input reads as it did. -/
def fnExactValidStockUptoRow : OpenClaim := { program := "ytmdhniaelmipcaa", sum := "93cc2351f8b4ff767a0fee59ab2cb9aa586b7f36f57d16078e97aa440fb4f6a8", func := "loop.example/g00956/laws.FnExactValidStock", spec := "fnExactValidStock", apart := false, narrowed := true }
def FnExactValidStockUptoSaid : Prop := fnExactValidStockUptoRow.holds Try.pinned (OpenSpec.upto fnExactValidStockSpec)

/-- 'laws.FnExactValidRates', WHERE WHAT IT READS IS OF BULK AT MOST 1048576: true; the input reads as it did. -/
def fnExactValidRatesUptoRow : OpenClaim := { program := "ytmdhniaelmipcaa", sum := "93cc2351f8b4ff767a0fee59ab2cb9aa586b7f36f57d16078e97aa440fb4f6a8", func := "loop.example/g00956/laws.FnExactValidRates", spec := "fnExactValidRates", apart := false, narrowed := true }
def FnExactValidRatesUptoSaid : Prop := fnExactValidRatesUptoRow.holds Try.pinned (OpenSpec.upto fnExactValidRatesSpec)

/-- 'laws.FnExactDiscountFor', WHERE WHAT IT READS IS OF BULK AT MOST 1048576: true; the input reads as it did. -/
def fnExactDiscountForUptoRow : OpenClaim := { program := "ytmdhniaelmipcaa", sum := "93cc2351f8b4ff767a0fee59ab2cb9aa586b7f36f57d16078e97aa440fb4f6a8", func := "loop.example/g00956/laws.FnExactDiscountFor", spec := "fnExactDiscountFor", apart := false, narrowed := true }
def FnExactDiscountForUptoSaid : Prop := fnExactDiscountForUptoRow.holds Try.pinned (OpenSpec.upto fnExactDiscountForSpec)

/-- 'laws.FnExactSpeciesPrice', WHERE WHAT IT READS IS OF BULK AT MOST 1048576: true; the input reads as it did. -/
def fnExactSpeciesPriceUptoRow : OpenClaim := { program := "ytmdhniaelmipcaa", sum := "93cc2351f8b4ff767a0fee59ab2cb9aa586b7f36f57d16078e97aa440fb4f6a8", func := "loop.example/g00956/laws.FnExactSpeciesPrice", spec := "fnExactSpeciesPrice", apart := false, narrowed := true }
def FnExactSpeciesPriceUptoSaid : Prop := fnExactSpeciesPriceUptoRow.holds Try.pinned (OpenSpec.upto fnExactSpeciesPriceSpec)

/-- 'laws.FnExactRowCount', WHERE WHAT IT READS IS OF BULK AT MOST 1048576: true; the input reads as it did. -/
def fnExactRowCountUptoRow : OpenClaim := { program := "ytmdhniaelmipcaa", sum := "93cc2351f8b4ff767a0fee59ab2cb9aa586b7f36f57d16078e97aa440fb4f6a8", func := "loop.example/g00956/laws.FnExactRowCount", spec := "fnExactRowCount", apart := false, narrowed := true }
def FnExactRowCountUptoSaid : Prop := fnExactRowCountUptoRow.holds Try.pinned (OpenSpec.upto fnExactRowCountSpec)

/-- 'laws.FnExactRowPieces', WHERE WHAT IT READS IS OF BULK AT MOST 1048576: true; the input reads as it did. -/
def fnExactRowPiecesUptoRow : OpenClaim := { program := "ytmdhniaelmipcaa", sum := "93cc2351f8b4ff767a0fee59ab2cb9aa586b7f36f57d16078e97aa440fb4f6a8", func := "loop.example/g00956/laws.FnExactRowPieces", spec := "fnExactRowPieces", apart := false, narrowed := true }
def FnExactRowPiecesUptoSaid : Prop := fnExactRowPiecesUptoRow.holds Try.pinned (OpenSpec.upto fnExactRowPiecesSpec)

/-- 'laws.FnExactRowJoints', WHERE WHAT IT READS IS OF BULK AT MOST 1048576: true; the input reads as it did. -/
def fnExactRowJointsUptoRow : OpenClaim := { program := "ytmdhniaelmipcaa", sum := "93cc2351f8b4ff767a0fee59ab2cb9aa586b7f36f57d16078e97aa440fb4f6a8", func := "loop.example/g00956/laws.FnExactRowJoints", spec := "fnExactRowJoints", apart := false, narrowed := true }
def FnExactRowJointsUptoSaid : Prop := fnExactRowJointsUptoRow.holds Try.pinned (OpenSpec.upto fnExactRowJointsSpec)

/-- 'laws.FnExactStaggered', WHERE WHAT IT READS IS OF BULK AT MOST 1048576: true; the input reads as it did. -/
def fnExactStaggeredUptoRow : OpenClaim := { program := "ytmdhniaelmipcaa", sum := "93cc2351f8b4ff767a0fee59ab2cb9aa586b7f36f57d16078e97aa440fb4f6a8", func := "loop.example/g00956/laws.FnExactStaggered", spec := "fnExactStaggered", apart := false, narrowed := true }
def FnExactStaggeredUptoSaid : Prop := fnExactStaggeredUptoRow.holds Try.pinned (OpenSpec.upto fnExactStaggeredSpec)

/-- 'laws.FnExactCheaperVeneer', WHERE WHAT IT READS IS OF BULK AT MOST 1048576: true; the input reads as it did. -/
def fnExactCheaperVeneerUptoRow : OpenClaim := { program := "ytmdhniaelmipcaa", sum := "93cc2351f8b4ff767a0fee59ab2cb9aa586b7f36f57d16078e97aa440fb4f6a8", func := "loop.example/g00956/laws.FnExactCheaperVeneer", spec := "fnExactCheaperVeneer", apart := false, narrowed := true }
def FnExactCheaperVeneerUptoSaid : Prop := fnExactCheaperVeneerUptoRow.holds Try.pinned (OpenSpec.upto fnExactCheaperVeneerSpec)

end Rows
end Go.Proofs.Ytmdhniaelmipcaa
