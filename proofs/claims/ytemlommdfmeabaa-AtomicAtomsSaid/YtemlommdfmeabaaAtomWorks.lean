/- The package works, as the statements look at it; what the statements take. -/
import Derived.Test.YtemlommdfmeabaaArr3L
import Derived.Test.YtemlommdfmeabaaArr5
import Derived.Test.YtemlommdfmeabaaPx1
import Derived.Test.YtemlommdfmeabaaPx7
namespace Go.Proofs.Ytemlommdfmeabaa.Pure
open Go.RowKit Go.Proofs.Ytemlommdfmeabaa.P Go.Proofs.Ytemlommdfmeabaa.Nest Go.Proofs.YtemlommdfmeabaaW.PrintWords Go.Proofs.YtemlommdfmeabaaW.PrintLast Go.Proofs.YtemlommdfmeabaaW.PrintMore
set_option linter.unusedVariables false
set_option linter.unusedSimpArgs false
theorem works_eq : ∀ k, 60 ≤ k → triglyphlaw04_works.f k = some true := by
  intro k hk
  have h : triglyphlaw04_works.f 60 = some true := by kernel_rfl
  exact at_rounds triglyphlaw04_works.mono hk h
theorem light_eq (a : S25) (h : okA a) : ∃ K, ∀ k, K ≤ k → triglyphlaw04_light.f k a.f0 a.f1 = some (lightS a) := by
  obtain ⟨K, hK⟩ := weight_eq a 4000 h (by omega) (by omega)
  refine ⟨K, fun k hk => ?_⟩
  unfold triglyphlaw04_light.f
  rw [hK k hk]
  rfl
end Go.Proofs.Ytemlommdfmeabaa.Pure
