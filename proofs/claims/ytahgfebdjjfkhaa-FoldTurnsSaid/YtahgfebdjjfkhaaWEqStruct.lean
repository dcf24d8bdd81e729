/- Words of this seat, as the kit's program has written them; what this claim does not come to is struck. -/
import Derived.Test.YtahgfebdjjfkhaaWWords
import Derived.Laws.StructEq
namespace Go.Proofs.YtahgfebdjjfkhaaW.PrintWords
open Go.RowKit
end Go.Proofs.YtahgfebdjjfkhaaW.PrintWords
