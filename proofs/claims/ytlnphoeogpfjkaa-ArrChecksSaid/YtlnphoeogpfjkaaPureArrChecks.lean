/- ArrChecks: what it computes is yes, for every array. -/
import Derived.Test.YtlnphoeogpfjkaaStaArrChecks
import Derived.Test.YtlnphoeogpfjkaaArrLaw
import Derived.Test.YtlnphoeogpfjkaaPx10
namespace Go.Proofs.Ytlnphoeogpfjkaa.Pure
open Go.RowKit Go.Proofs.Ytlnphoeogpfjkaa.P Go.Proofs.Ytlnphoeogpfjkaa.Nest Go.Proofs.YtlnphoeogpfjkaaW.PrintWords Go.Proofs.YtlnphoeogpfjkaaW.PrintLast Go.Proofs.YtlnphoeogpfjkaaW.PrintMore
theorem ArrChecks : ArrChecks.Pure := by
  intro s c h
  obtain ⟨K1, h1⟩ := light_eq ⟨s, c⟩ h
  cases hl : lightS ⟨s, c⟩ with
  | false =>
    refine ⟨K1 + 40, ?_⟩
    unfold triglyphlaw03_ArrChecks.f
    have := h1 (K1 + 40) (by omega)
    simp only at this
    rw [this, hl]
    simp only [Option.bind_some]
    rw [if_neg (by simp), works_eq _ (by omega)]
    rfl
  | true =>
    have hm := light_sm hl
    obtain ⟨K2, h2⟩ := check_eq ⟨s, c⟩ h
    obtain ⟨K3, h3⟩ := rcheck_eq ⟨s, c⟩ h
    obtain ⟨K4, h4⟩ := deep_eq ⟨s, c⟩ h hm
    obtain ⟨K5, h5⟩ := rdeep_eq ⟨s, c⟩ h hm
    refine ⟨K1 + K2 + K3 + K4 + K5 + 40, ?_⟩
    unfold triglyphlaw03_ArrChecks.f
    have e1 := h1 (K1 + K2 + K3 + K4 + K5 + 40) (by omega)
    have e2 := h2 (K1 + K2 + K3 + K4 + K5 + 40) (by omega)
    have e3 := h3 (K1 + K2 + K3 + K4 + K5 + 40) (by omega)
    have e4 := h4 (K1 + K2 + K3 + K4 + K5 + 40) (by omega)
    have e5 := h5 (K1 + K2 + K3 + K4 + K5 + 40) (by omega)
    simp only at e1 e2 e3 e4 e5
    rw [e1, hl]
    simp only [Option.bind_some]
    rw [if_pos True.intro, e2, e3]
    simp only [Option.bind_some]
    rw [if_pos True.intro, e4, e5]
    simp only [Option.bind_some]
    rw [if_pos True.intro, works_eq _ (by omega)]
    rfl
end Go.Proofs.Ytlnphoeogpfjkaa.Pure
