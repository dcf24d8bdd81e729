/- Words of this seat, as the kit's program has written them; what this claim does not come to is struck. -/
import Derived.Test.YtfjkclhkobnakaaWTab
namespace Go.Proofs.YtfjkclhkobnakaaW.PrintLast
end Go.Proofs.YtfjkclhkobnakaaW.PrintLast
