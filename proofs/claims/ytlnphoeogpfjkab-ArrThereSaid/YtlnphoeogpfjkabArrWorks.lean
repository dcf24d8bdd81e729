/- The package works, as the statements look at it. -/
import Derived.Test.YtlnphoeogpfjkabArr1
import Derived.Test.YtlnphoeogpfjkabPx5
namespace Go.Proofs.Ytlnphoeogpfjkab.Pure
open Go.RowKit Go.Proofs.Ytlnphoeogpfjkab.P Go.Proofs.Ytlnphoeogpfjkab.Nest Go.Proofs.YtlnphoeogpfjkabW.PrintWords Go.Proofs.YtlnphoeogpfjkabW.PrintLast Go.Proofs.YtlnphoeogpfjkabW.PrintMore
set_option linter.unusedVariables false
set_option linter.unusedSimpArgs false

theorem works_eq : ∀ k, 40 ≤ k → triglyphlaw03_works.f k = some true := by
  intro k hk
  have h : triglyphlaw03_works.f 40 = some true := by kernel_rfl
  exact at_rounds triglyphlaw03_works.mono hk h
end Go.Proofs.Ytlnphoeogpfjkab.Pure
