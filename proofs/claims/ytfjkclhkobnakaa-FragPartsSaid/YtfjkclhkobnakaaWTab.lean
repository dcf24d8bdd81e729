/- Words of this seat, as the kit's program has written them; what this claim does not come to is struck. -/
import Derived.Test.YtfjkclhkobnakaaWLast
import Derived.Test.YtfjkclhkobnakaaWWords
namespace Go.Proofs.YtfjkclhkobnakaaW.PrintLast
open Go.Proofs.YtfjkclhkobnakaaW.PrintWords (Aside0)
end Go.Proofs.YtfjkclhkobnakaaW.PrintLast
