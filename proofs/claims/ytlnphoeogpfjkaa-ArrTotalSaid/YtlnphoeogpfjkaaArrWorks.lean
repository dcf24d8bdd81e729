/- The package works, as the statements look at it. -/
import Derived.Test.YtlnphoeogpfjkaaArr1
import Derived.Test.YtlnphoeogpfjkaaPx4
namespace Go.Proofs.Ytlnphoeogpfjkaa.Pure
open Go.RowKit Go.Proofs.Ytlnphoeogpfjkaa.P Go.Proofs.Ytlnphoeogpfjkaa.Nest Go.Proofs.YtlnphoeogpfjkaaW.PrintWords Go.Proofs.YtlnphoeogpfjkaaW.PrintLast Go.Proofs.YtlnphoeogpfjkaaW.PrintMore
set_option linter.unusedVariables false
set_option linter.unusedSimpArgs false

theorem works_eq : ∀ k, 40 ≤ k → triglyphlaw03_works.f k = some true := by
  intro k hk
  have h : triglyphlaw03_works.f 40 = some true := by kernel_rfl
  exact at_rounds triglyphlaw03_works.mono hk h
end Go.Proofs.Ytlnphoeogpfjkaa.Pure
