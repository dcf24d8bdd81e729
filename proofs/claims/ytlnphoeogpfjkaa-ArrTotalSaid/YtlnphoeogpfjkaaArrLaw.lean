/- What the statements on arrays share: what they take. -/
import Derived.Test.YtlnphoeogpfjkaaArr3L
import Derived.Test.YtlnphoeogpfjkaaArrWorks
import Derived.Test.YtlnphoeogpfjkaaPx1
namespace Go.Proofs.Ytlnphoeogpfjkaa.Pure
open Go.RowKit Go.Proofs.Ytlnphoeogpfjkaa.P Go.Proofs.Ytlnphoeogpfjkaa.Nest Go.Proofs.YtlnphoeogpfjkaaW.PrintWords Go.Proofs.YtlnphoeogpfjkaaW.PrintLast Go.Proofs.YtlnphoeogpfjkaaW.PrintMore
theorem light_eq (a : S25) (h : okA a) : ∃ K, ∀ k, K ≤ k → triglyphlaw03_light.f k a.f0 a.f1 = some (lightS a) := by
  obtain ⟨K, hK⟩ := weight_eq a 4000 h (by omega) (by omega)
  refine ⟨K, fun k hk => ?_⟩
  unfold triglyphlaw03_light.f
  rw [hK k hk]
  rfl
end Go.Proofs.Ytlnphoeogpfjkaa.Pure
