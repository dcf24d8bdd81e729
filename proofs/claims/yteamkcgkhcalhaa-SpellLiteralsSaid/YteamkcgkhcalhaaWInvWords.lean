/- Words of this seat, as the kit's program has written them; what this claim does not come to is struck. -/
import Derived.Test.YteamkcgkhcalhaaWInv
import Derived.Test.YteamkcgkhcalhaaWFootNe
namespace Go.Proofs.YteamkcgkhcalhaaW.PrintWords
open Go.RowKit
end Go.Proofs.YteamkcgkhcalhaaW.PrintWords
namespace Go.Proofs.YteamkcgkhcalhaaW.PrintLast
end Go.Proofs.YteamkcgkhcalhaaW.PrintLast
