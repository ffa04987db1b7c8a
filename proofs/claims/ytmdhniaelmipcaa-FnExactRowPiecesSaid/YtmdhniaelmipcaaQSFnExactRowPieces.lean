-- written by wip/gen/pp.sh out of the translation; Lean checks it
import Derived.Test.YtmdhniaelmipcaaQWf
import Derived.Test.YtmdhniaelmipcaaQ8
namespace Go.Proofs.Ytmdhniaelmipcaa.Q
open Go.RowKit Go.Proofs.YtmdhniaelmipcaaW.PrintWords Go.Proofs.YtmdhniaelmipcaaW.PrintLast Go.Proofs.YtmdhniaelmipcaaW.PrintMore
attribute [local go_sem] max2_int min2_int max_two min_two max_three min_three max_four min_four   -- for this text's walks alone
set_option linter.unusedVariables false
set_option linter.unusedSimpArgs false

/-- THE ONE PURE STATEMENT of laws_FnExactRowPieces. -/
def laws_FnExactRowPieces.Pure : Prop := ∀ (x0 : S23) (x1 : S29) (x2 : Int), W23 x0 → W29 x1 → (Lit.int .i64 x2).wf = true → ∃ k, laws_FnExactRowPieces.f k x0.f0 x0.f1 x1.f0 x1.f1 x1.f2 x1.f3 x2 = some true
end Go.Proofs.Ytmdhniaelmipcaa.Q
