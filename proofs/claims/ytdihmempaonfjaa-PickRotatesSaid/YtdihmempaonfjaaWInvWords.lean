/- Words of this seat, as the kit's program has written them; what this claim does not come to is struck. -/
import Derived.Test.YtdihmempaonfjaaWInv
import Derived.Test.YtdihmempaonfjaaWFootNe
namespace Go.Proofs.YtdihmempaonfjaaW.PrintWords
open Go.RowKit
end Go.Proofs.YtdihmempaonfjaaW.PrintWords
namespace Go.Proofs.YtdihmempaonfjaaW.PrintLast
end Go.Proofs.YtdihmempaonfjaaW.PrintLast
