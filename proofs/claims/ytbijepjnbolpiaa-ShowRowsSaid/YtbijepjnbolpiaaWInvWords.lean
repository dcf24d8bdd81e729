/- Words of this seat, as the kit's program has written them; what this claim does not come to is struck. -/
import Derived.Test.YtbijepjnbolpiaaWInv
import Derived.Test.YtbijepjnbolpiaaWFootNe
namespace Go.Proofs.YtbijepjnbolpiaaW.PrintWords
open Go.RowKit
end Go.Proofs.YtbijepjnbolpiaaW.PrintWords
namespace Go.Proofs.YtbijepjnbolpiaaW.PrintLast
end Go.Proofs.YtbijepjnbolpiaaW.PrintLast
