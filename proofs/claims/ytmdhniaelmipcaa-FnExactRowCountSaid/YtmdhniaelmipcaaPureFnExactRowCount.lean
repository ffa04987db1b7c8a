/- For all rooms and stocks, the program's RowCount returns what the reference's returns; no condition. -/
import Derived.Test.YtmdhniaelmipcaaQSFnExactRowCount
import Derived.Test.YtmdhniaelmipcaaQPa
namespace Go.Proofs.Ytmdhniaelmipcaa.Pure
open Go.Proofs.Ytmdhniaelmipcaa.Q
theorem FnExactRowCount : laws_FnExactRowCount.Pure := law_RowCount
end Go.Proofs.Ytmdhniaelmipcaa.Pure
