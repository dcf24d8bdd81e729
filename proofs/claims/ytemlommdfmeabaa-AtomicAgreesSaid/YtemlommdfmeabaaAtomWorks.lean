/- The package works, as the statements look at it; what the statements take. -/
import Derived.Test.YtemlommdfmeabaaArr3L
import Derived.Test.YtemlommdfmeabaaArr5
import Derived.Test.YtemlommdfmeabaaPx1
import Derived.Test.YtemlommdfmeabaaPx7
namespace Go.Proofs.Ytemlommdfmeabaa.Pure
open Go.RowKit Go.Proofs.Ytemlommdfmeabaa.P Go.Proofs.Ytemlommdfmeabaa.Nest Go.Proofs.YtemlommdfmeabaaW.PrintWords Go.Proofs.YtemlommdfmeabaaW.PrintLast Go.Proofs.YtemlommdfmeabaaW.PrintMore
set_option linter.unusedVariables false
set_option linter.unusedSimpArgs false
theorem works_eq : ∀ k, 60 ≤ k → triglyphlaw04_works.f k = some true := by
  intro k hk
  have h : triglyphlaw04_works.f 60 = some true := by kernel_rfl
  exact at_rounds triglyphlaw04_works.mono hk h
end Go.Proofs.Ytemlommdfmeabaa.Pure
