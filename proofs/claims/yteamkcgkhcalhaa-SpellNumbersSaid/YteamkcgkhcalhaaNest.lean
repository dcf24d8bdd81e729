/- How a law's arguments read: what the form hands over as data reads as lists of cells, and is of its kind and size. -/
import Derived.Test.YteamkcgkhcalhaaRows
import Derived.Test.YteamkcgkhcalhaaPx0
import Derived.WalkKit
import Derived.ProofKit
import Derived.SizedLaws
import Derived.ChangeArms
import Derived.ChangeSame
import Derived.Deep.Slices
namespace Go.Proofs.Yteamkcgkhcalhaa.Nest
open Go.RowKit Go.WideShapes Go.ChangeShapes Go.Proofs.Yteamkcgkhcalhaa.P Go.Proofs.YteamkcgkhcalhaaW.PrintWords Go.Proofs.YteamkcgkhcalhaaW.PrintLast
set_option linter.unusedVariables false
set_option linter.unusedSimpArgs false
end Go.Proofs.Yteamkcgkhcalhaa.Nest
