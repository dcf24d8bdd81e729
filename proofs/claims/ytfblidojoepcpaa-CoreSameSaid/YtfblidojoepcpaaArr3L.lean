/- What is light, as the statements reckon it. -/
import Derived.Test.YtfblidojoepcpaaArr2
import Derived.Test.YtfblidojoepcpaaPx6
namespace Go.Proofs.Ytfblidojoepcpaa.Pure
open Go.RowKit Go.Proofs.Ytfblidojoepcpaa.P Go.Proofs.Ytfblidojoepcpaa.Nest Go.Proofs.YtfblidojoepcpaaW.PrintWords Go.Proofs.YtfblidojoepcpaaW.PrintLast Go.Proofs.YtfblidojoepcpaaW.PrintMore
set_option linter.unusedVariables false
set_option linter.unusedSimpArgs false
theorem weight_eq (a : S25) (most : Int) (h : okA a) (h0 : 0 ≤ most) (h1 : most ≤ 4000) : ∃ K, ∀ k, K ≤ k → triglyphref03_Weight.f k a.f0 a.f1 most = some (wA a most 16) := by
  obtain ⟨K, hK⟩ := w_evA a most 16 h h0 h1 (by omega)
  refine ⟨K, fun k hk => ?_⟩
  unfold triglyphref03_Weight.f
  rw [show (16 : Int) = ((16 : Nat) : Int) from rfl, hK k hk]
  rfl
end Go.Proofs.Ytfblidojoepcpaa.Pure
