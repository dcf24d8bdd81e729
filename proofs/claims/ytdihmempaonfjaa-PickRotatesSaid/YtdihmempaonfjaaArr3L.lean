/- What is light, as the statements reckon it. -/
import Derived.Test.YtdihmempaonfjaaArr2
import Derived.Test.YtdihmempaonfjaaPx1
namespace Go.Proofs.Ytdihmempaonfjaa.Pure
open Go.RowKit Go.Proofs.Ytdihmempaonfjaa.P Go.Proofs.Ytdihmempaonfjaa.Nest Go.Proofs.YtdihmempaonfjaaW.PrintWords Go.Proofs.YtdihmempaonfjaaW.PrintLast Go.Proofs.YtdihmempaonfjaaW.PrintMore
set_option linter.unusedVariables false
set_option linter.unusedSimpArgs false
/-- What the statements take: no more than is waited for. -/
def lightS3 (a : S25) : Bool := decide (wA a 3000 16 ≤ 3000)
theorem weight_eq (a : S25) (most : Int) (h : okA a) (h0 : 0 ≤ most) (h1 : most ≤ 4000) : ∃ K, ∀ k, K ≤ k → triglyphref03_Weight.f k a.f0 a.f1 most = some (wA a most 16) := by
  obtain ⟨K, hK⟩ := w_evA a most 16 h h0 h1 (by omega)
  refine ⟨K, fun k hk => ?_⟩
  unfold triglyphref03_Weight.f
  rw [show (16 : Int) = ((16 : Nat) : Int) from rfl, hK k hk]
  rfl
end Go.Proofs.Ytdihmempaonfjaa.Pure
