/- Words of this seat, as the kit's program has written them; what this claim does not come to is struck. -/
import Derived.Test.YtdihmempaonfjaaWWords
namespace Go.Proofs.YtdihmempaonfjaaW.PrintWords
open Go.RowKit
namespace Kd
end Kd
end Go.Proofs.YtdihmempaonfjaaW.PrintWords
