/- For all rooms, stocks and first pieces, the program's RowPieces returns what the reference's returns; no condition. -/
import Derived.Test.YtmdhniaelmipcaaQSFnExactRowPieces
import Derived.Test.YtmdhniaelmipcaaQPc
namespace Go.Proofs.Ytmdhniaelmipcaa.Pure
open Go.Proofs.Ytmdhniaelmipcaa.Q
theorem FnExactRowPieces : laws_FnExactRowPieces.Pure := law_RowPieces
end Go.Proofs.Ytmdhniaelmipcaa.Pure
