/- How an argument of the types api.Arr and api.Cell reads. -/
import Derived.Test.YteamkcgkhcalhaaNest
namespace Go.Proofs.Yteamkcgkhcalhaa.Nest
open Go.RowKit Go.WideShapes Go.ChangeShapes Go.Proofs.Yteamkcgkhcalhaa.P Go.Proofs.YteamkcgkhcalhaaW.PrintWords Go.Proofs.YteamkcgkhcalhaaW.PrintLast
set_option linter.unusedVariables false
set_option linter.unusedSimpArgs false
instance : Inhabited S28 := ⟨z28⟩
instance : Inhabited S60 := ⟨z60⟩
end Go.Proofs.Yteamkcgkhcalhaa.Nest
