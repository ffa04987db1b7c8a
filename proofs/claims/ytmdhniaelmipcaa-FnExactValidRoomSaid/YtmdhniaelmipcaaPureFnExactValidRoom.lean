/- For all rooms, the program's ValidRoom returns what the reference's returns; no condition. -/
import Derived.Test.YtmdhniaelmipcaaQSFnExactValidRoom
import Derived.Test.YtmdhniaelmipcaaQPa
namespace Go.Proofs.Ytmdhniaelmipcaa.Pure
open Go.Proofs.Ytmdhniaelmipcaa.Q
theorem FnExactValidRoom : laws_FnExactValidRoom.Pure := law_ValidRoom
end Go.Proofs.Ytmdhniaelmipcaa.Pure
