/- CoreWords: what it computes is yes, for every text, array and number. -/
import Derived.Test.YtfblidojoepcpaaStaCoreWords
import Derived.Test.YtfblidojoepcpaaArr3L
import Derived.Test.YtfblidojoepcpaaCoreWorks
import Derived.Test.YtfblidojoepcpaaCoreWords
import Derived.Test.YtfblidojoepcpaaPx11
import Derived.Test.YtfblidojoepcpaaPx12
import Derived.Test.YtfblidojoepcpaaPx6
namespace Go.Proofs.Ytfblidojoepcpaa.Pure
open Go.RowKit Go.Proofs.Ytfblidojoepcpaa.P Go.Proofs.Ytfblidojoepcpaa.Nest Go.Proofs.YtfblidojoepcpaaW.PrintWords Go.Proofs.YtfblidojoepcpaaW.PrintLast Go.Proofs.YtfblidojoepcpaaW.PrintMore
theorem CoreWords : CoreWords.Pure := by
  intro a0 s c op h0 h1 _
  obtain ⟨K1, k1⟩ := weight_eq ⟨s, c⟩ 3000 h1 (by omega) (by omega)
  obtain ⟨K2, k2⟩ := name_eq a0 h0
  obtain ⟨K3, k3⟩ := rname_eq a0 h0
  obtain ⟨K4, k4⟩ := lit_eq ⟨s, c⟩ h1
  obtain ⟨K5, k5⟩ := rlit_eq ⟨s, c⟩ h1
  refine ⟨K1 + K2 + K3 + K4 + K5 + 40, ?_⟩
  have e1 := k1 (K1 + K2 + K3 + K4 + K5 + 40) (by omega)
  have e2 := k2 (K1 + K2 + K3 + K4 + K5 + 40) (by omega)
  have e3 := k3 (K1 + K2 + K3 + K4 + K5 + 40) (by omega)
  have e4 := k4 (K1 + K2 + K3 + K4 + K5 + 40) (by omega)
  have e5 := k5 (K1 + K2 + K3 + K4 + K5 + 40) (by omega)
  have e6 := works_eq (K1 + K2 + K3 + K4 + K5 + 40) (by omega)
  dsimp only at e1 e2 e3 e4 e5
  have e7 : triglyphref10_Scalar.f op = core_Scalar.f op := rfl
  have e8 : ∃ b, core_Scalar.f op = some b := by
    unfold core_Scalar.f
    by_cases h : op ≥ 21
    · rw [if_pos h]; exact ⟨_, rfl⟩
    · rw [if_neg h]; exact ⟨_, rfl⟩
  obtain ⟨b, e8⟩ := e8
  unfold triglyphlaw10_CoreWords.f
  rw [e1, e2, e3, e4, e5, e6, e7, e8]
  simp
end Go.Proofs.Ytfblidojoepcpaa.Pure
