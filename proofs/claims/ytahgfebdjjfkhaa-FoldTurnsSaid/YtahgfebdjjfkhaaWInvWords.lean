/- Words of this seat, as the kit's program has written them; what this claim does not come to is struck. -/
import Derived.Test.YtahgfebdjjfkhaaWInv
import Derived.Test.YtahgfebdjjfkhaaWFootNe
namespace Go.Proofs.YtahgfebdjjfkhaaW.PrintWords
open Go.RowKit
end Go.Proofs.YtahgfebdjjfkhaaW.PrintWords
namespace Go.Proofs.YtahgfebdjjfkhaaW.PrintLast
end Go.Proofs.YtahgfebdjjfkhaaW.PrintLast
