/- Words of this seat, as the kit's program has written them; what this claim does not come to is struck. -/
import Derived.Test.YtemlommdfmeabaaWTab
namespace Go.Proofs.YtemlommdfmeabaaW.PrintLast
end Go.Proofs.YtemlommdfmeabaaW.PrintLast
