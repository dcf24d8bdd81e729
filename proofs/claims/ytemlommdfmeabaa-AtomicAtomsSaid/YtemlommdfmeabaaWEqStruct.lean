/- Words of this seat, as the kit's program has written them; what this claim does not come to is struck. -/
import Derived.Test.YtemlommdfmeabaaWWords
import Derived.Laws.StructEq
namespace Go.Proofs.YtemlommdfmeabaaW.PrintWords
open Go.RowKit
end Go.Proofs.YtemlommdfmeabaaW.PrintWords
