/- Words of this seat, as the kit's program has written them; what this claim does not come to is struck. -/
import Derived.Test.YtbijepjnbolpiaaWWords
import Derived.Laws.StructEq
namespace Go.Proofs.YtbijepjnbolpiaaW.PrintWords
open Go.RowKit
end Go.Proofs.YtbijepjnbolpiaaW.PrintWords
