-- written by wip/gen/pp.sh out of the translation; Lean checks it
import Derived.Test.YtmdhniaelmipcaaQWf
import Derived.Test.YtmdhniaelmipcaaQ3
namespace Go.Proofs.Ytmdhniaelmipcaa.Q
open Go.RowKit Go.Proofs.YtmdhniaelmipcaaW.PrintWords Go.Proofs.YtmdhniaelmipcaaW.PrintLast Go.Proofs.YtmdhniaelmipcaaW.PrintMore
attribute [local go_sem] max2_int min2_int max_two min_two max_three min_three max_four min_four   -- for this text's walks alone
set_option linter.unusedVariables false
set_option linter.unusedSimpArgs false

/-- THE ONE PURE STATEMENT of laws_FnExactValidStock. -/
def laws_FnExactValidStock.Pure : Prop := ∀ (x0 : S29), W29 x0 → laws_FnExactValidStock.f x0.f0 x0.f1 x0.f2 x0.f3 = some true
end Go.Proofs.Ytmdhniaelmipcaa.Q
