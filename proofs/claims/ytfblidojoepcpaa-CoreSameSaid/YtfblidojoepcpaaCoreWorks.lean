/- The package core works, as the statements look at it; names. -/
import Derived.Test.YtfblidojoepcpaaArr1
import Derived.Test.YtfblidojoepcpaaPx5
namespace Go.Proofs.Ytfblidojoepcpaa.Pure
open Go.RowKit Go.Proofs.Ytfblidojoepcpaa.P Go.Proofs.Ytfblidojoepcpaa.Nest Go.Proofs.YtfblidojoepcpaaW.PrintWords Go.Proofs.YtfblidojoepcpaaW.PrintLast Go.Proofs.YtfblidojoepcpaaW.PrintMore
set_option linter.unusedVariables false
set_option linter.unusedSimpArgs false
theorem works_eq : ∀ k, 40 ≤ k → triglyphlaw10_works.f k = some true := by
  intro k hk
  have h : triglyphlaw10_works.f 40 = some true := by kernel_rfl
  exact at_rounds triglyphlaw10_works.mono hk h
end Go.Proofs.Ytfblidojoepcpaa.Pure
