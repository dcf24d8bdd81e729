/- What a copy is: the array itself, where it may be. -/
import Derived.Test.YtahgfebdjjfkhaaArr3
import Derived.Test.YtahgfebdjjfkhaaPx3
namespace Go.Proofs.Ytahgfebdjjfkhaa.Pure
open Go.RowKit Go.Proofs.Ytahgfebdjjfkhaa.P Go.Proofs.Ytahgfebdjjfkhaa.Nest Go.Proofs.YtahgfebdjjfkhaaW.PrintWords Go.Proofs.YtahgfebdjjfkhaaW.PrintLast Go.Proofs.YtahgfebdjjfkhaaW.PrintMore
set_option linter.unusedVariables false
set_option linter.unusedSimpArgs false
theorem etaA (x : S25) : (⟨x.f0, x.f1⟩ : S25) = x := by cases x; rfl
end Go.Proofs.Ytahgfebdjjfkhaa.Pure
