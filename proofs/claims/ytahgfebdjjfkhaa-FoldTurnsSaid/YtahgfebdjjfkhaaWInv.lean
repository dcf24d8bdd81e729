/- Words of this seat, as the kit's program has written them; what this claim does not come to is struck. -/
import Derived.Test.YtahgfebdjjfkhaaWTab
namespace Go.Proofs.YtahgfebdjjfkhaaW.PrintLast
end Go.Proofs.YtahgfebdjjfkhaaW.PrintLast
