/- What is light, as the statements reckon it. -/
import Derived.Test.YtemlommdfmeabaaArr2
import Derived.Test.YtemlommdfmeabaaPx1
namespace Go.Proofs.Ytemlommdfmeabaa.Pure
open Go.RowKit Go.Proofs.Ytemlommdfmeabaa.P Go.Proofs.Ytemlommdfmeabaa.Nest Go.Proofs.YtemlommdfmeabaaW.PrintWords Go.Proofs.YtemlommdfmeabaaW.PrintLast Go.Proofs.YtemlommdfmeabaaW.PrintMore
set_option linter.unusedVariables false
set_option linter.unusedSimpArgs false
def lightS (a : S25) : Bool := decide (wA a 4000 16 ≤ 4000)
theorem weight_eq (a : S25) (most : Int) (h : okA a) (h0 : 0 ≤ most) (h1 : most ≤ 4000) : ∃ K, ∀ k, K ≤ k → triglyphref03_Weight.f k a.f0 a.f1 most = some (wA a most 16) := by
  obtain ⟨K, hK⟩ := w_evA a most 16 h h0 h1 (by omega)
  refine ⟨K, fun k hk => ?_⟩
  unfold triglyphref03_Weight.f
  rw [show (16 : Int) = ((16 : Nat) : Int) from rfl, hK k hk]
  rfl
end Go.Proofs.Ytemlommdfmeabaa.Pure
