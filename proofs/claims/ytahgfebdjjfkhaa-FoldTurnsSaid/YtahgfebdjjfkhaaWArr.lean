/- Words of this seat, as the kit's program has written them; what this claim does not come to is struck. -/
import Derived.Test.YtahgfebdjjfkhaaWWords
namespace Go.Proofs.YtahgfebdjjfkhaaW.PrintWords
open Go.RowKit
namespace Kd
end Kd
end Go.Proofs.YtahgfebdjjfkhaaW.PrintWords
