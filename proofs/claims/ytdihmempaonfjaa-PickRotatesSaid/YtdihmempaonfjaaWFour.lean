/- Words of this seat, as the kit's program has written them; what this claim does not come to is struck. -/
import Derived.Test.YtdihmempaonfjaaWTab
namespace Go.Proofs.YtdihmempaonfjaaW.PrintLast
end Go.Proofs.YtdihmempaonfjaaW.PrintLast
