/- Words of this seat, as the kit's program has written them; what this claim does not come to is struck. -/
import Derived.Test.YtiegcghapchimaaWTab
namespace Go.Proofs.YtiegcghapchimaaW.PrintLast
end Go.Proofs.YtiegcghapchimaaW.PrintLast
