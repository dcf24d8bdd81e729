/- Words of this seat, as the kit's program has written them; what this claim does not come to is struck. -/
import Derived.Test.YtiegcghapchimaaWInv
import Derived.Test.YtiegcghapchimaaWFootNe
namespace Go.Proofs.YtiegcghapchimaaW.PrintWords
open Go.RowKit
end Go.Proofs.YtiegcghapchimaaW.PrintWords
namespace Go.Proofs.YtiegcghapchimaaW.PrintLast
end Go.Proofs.YtiegcghapchimaaW.PrintLast
