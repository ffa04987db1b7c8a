/- For all stocks, the program's ValidStock returns what the reference's returns; no condition. -/
import Derived.Test.YtmdhniaelmipcaaQSFnExactValidStock
import Derived.Test.YtmdhniaelmipcaaQPa
namespace Go.Proofs.Ytmdhniaelmipcaa.Pure
open Go.Proofs.Ytmdhniaelmipcaa.Q
theorem FnExactValidStock : laws_FnExactValidStock.Pure := law_ValidStock
end Go.Proofs.Ytmdhniaelmipcaa.Pure
