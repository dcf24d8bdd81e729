/- What the statements on arrays share: what they take, and that the package works. -/
import Derived.Test.YtlnphoeogpfjkaaArr4
import Derived.Test.YtlnphoeogpfjkaaPx1
import Derived.Test.YtlnphoeogpfjkaaPx4
namespace Go.Proofs.Ytlnphoeogpfjkaa.Pure
open Go.RowKit Go.Proofs.Ytlnphoeogpfjkaa.P Go.Proofs.Ytlnphoeogpfjkaa.Nest Go.Proofs.YtlnphoeogpfjkaaW.PrintWords Go.Proofs.YtlnphoeogpfjkaaW.PrintLast Go.Proofs.YtlnphoeogpfjkaaW.PrintMore
theorem light_eq (a : S25) (h : okA a) : ∃ K, ∀ k, K ≤ k → triglyphlaw03_light.f k a.f0 a.f1 = some (lightS a) := by
  obtain ⟨K, hK⟩ := weight_eq a 4000 h (by omega) (by omega)
  refine ⟨K, fun k hk => ?_⟩
  unfold triglyphlaw03_light.f
  rw [hK k hk]
  rfl
theorem works_eq : ∀ k, 40 ≤ k → triglyphlaw03_works.f k = some true := by
  intro k hk
  have h : triglyphlaw03_works.f 40 = some true := by kernel_rfl
  exact at_rounds triglyphlaw03_works.mono hk h
end Go.Proofs.Ytlnphoeogpfjkaa.Pure
