/- Words of this seat, as the kit's program has written them; what this claim does not come to is struck. -/
import Derived.Test.YtbijepjnbolpiaaWTab
namespace Go.Proofs.YtbijepjnbolpiaaW.PrintLast
end Go.Proofs.YtbijepjnbolpiaaW.PrintLast
