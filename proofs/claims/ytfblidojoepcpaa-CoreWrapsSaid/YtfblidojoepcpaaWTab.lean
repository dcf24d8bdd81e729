/- Words of this seat, as the kit's program has written them; what this claim does not come to is struck. -/
import Derived.Test.YtfblidojoepcpaaWLast
import Derived.Test.YtfblidojoepcpaaWWords
namespace Go.Proofs.YtfblidojoepcpaaW.PrintLast
open Go.Proofs.YtfblidojoepcpaaW.PrintWords (Aside0)
end Go.Proofs.YtfblidojoepcpaaW.PrintLast
