/- Words of this seat, as the kit's program has written them; what this claim does not come to is struck. -/
import Derived.Test.YtfblidojoepcpaaWInv
import Derived.Test.YtfblidojoepcpaaWFootNe
namespace Go.Proofs.YtfblidojoepcpaaW.PrintWords
open Go.RowKit
end Go.Proofs.YtfblidojoepcpaaW.PrintWords
namespace Go.Proofs.YtfblidojoepcpaaW.PrintLast
end Go.Proofs.YtfblidojoepcpaaW.PrintLast
