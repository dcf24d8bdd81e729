/- Words of this seat, as the kit's program has written them; what this claim does not come to is struck. -/
import Derived.Test.YtfblidojoepcpaaWTab
namespace Go.Proofs.YtfblidojoepcpaaW.PrintLast
end Go.Proofs.YtfblidojoepcpaaW.PrintLast
