/- For all rates, the program's ValidRates returns what the reference's returns; no condition. -/
import Derived.Test.YtmdhniaelmipcaaQSFnExactValidRates
import Derived.Test.YtmdhniaelmipcaaQPa
namespace Go.Proofs.Ytmdhniaelmipcaa.Pure
open Go.Proofs.Ytmdhniaelmipcaa.Q
theorem FnExactValidRates : laws_FnExactValidRates.Pure := law_ValidRates
end Go.Proofs.Ytmdhniaelmipcaa.Pure
