/- Words of this seat, as the kit's program has written them; what this claim does not come to is struck. -/
import Derived.Test.YtdihmempaonfjaaWWords
import Derived.Laws.StructEq
namespace Go.Proofs.YtdihmempaonfjaaW.PrintWords
open Go.RowKit
end Go.Proofs.YtdihmempaonfjaaW.PrintWords
