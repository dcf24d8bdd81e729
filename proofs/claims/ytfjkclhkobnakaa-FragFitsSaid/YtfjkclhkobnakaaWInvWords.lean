/- Words of this seat, as the kit's program has written them; what this claim does not come to is struck. -/
import Derived.Test.YtfjkclhkobnakaaWInv
import Derived.Test.YtfjkclhkobnakaaWFootNe
namespace Go.Proofs.YtfjkclhkobnakaaW.PrintWords
open Go.RowKit
end Go.Proofs.YtfjkclhkobnakaaW.PrintWords
namespace Go.Proofs.YtfjkclhkobnakaaW.PrintLast
end Go.Proofs.YtfjkclhkobnakaaW.PrintLast
