/- Words of this seat, as the kit's program has written them; what this claim does not come to is struck. -/
import Derived.Test.YteamkcgkhcalhaaWTab
namespace Go.Proofs.YteamkcgkhcalhaaW.PrintLast
end Go.Proofs.YteamkcgkhcalhaaW.PrintLast
