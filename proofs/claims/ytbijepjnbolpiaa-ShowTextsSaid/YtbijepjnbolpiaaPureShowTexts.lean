/- The law ShowTexts, of what its function comes to. -/
import Derived.Test.YtbijepjnbolpiaaShowL
import Derived.Test.YtbijepjnbolpiaaStaShowTexts
import Derived.Test.YtbijepjnbolpiaaPx10
namespace Go.Proofs.Ytbijepjnbolpiaa.Pure
open Go.RowKit Go.Proofs.Ytbijepjnbolpiaa.P Go.Proofs.Ytbijepjnbolpiaa.Nest Go.Proofs.YtbijepjnbolpiaaW.PrintWords Go.Proofs.YtbijepjnbolpiaaW.PrintLast Go.Proofs.YtbijepjnbolpiaaW.PrintMore
set_option linter.unusedVariables false
set_option linter.unusedSimpArgs false
theorem ShowTexts : ShowTexts.Pure := by
  intro d s c _ h
  obtain ⟨b, ⟨K, hK⟩, hb⟩ := liA_ev ⟨s, c⟩ h
  cases b with
  | false =>
    refine ⟨K + 80, ?_⟩
    unfold triglyphlaw27_ShowTexts.f
    rw [hK _ (by omega)]
    simp only [Option.bind_some]
    rw [if_neg (by decide), works_eq _ (by omega)]
    rfl
  | true =>
    obtain ⟨h1, h2⟩ := hb rfl
    obtain ⟨K1, hK1⟩ := show_eq d ⟨s, c⟩ h h1 h2
    obtain ⟨K2, hK2⟩ := rshow_eq d ⟨s, c⟩ h h1 h2
    refine ⟨K + K1 + K2 + 80, ?_⟩
    unfold triglyphlaw27_ShowTexts.f
    rw [hK _ (by omega)]
    simp only [Option.bind_some]
    rw [if_pos True.intro, hK1 _ (by omega)]
    simp only [Option.bind_some]
    rw [hK2 _ (by omega)]
    simp only [Option.bind_some]
    rw [if_pos True.intro, if_pos True.intro, works_eq _ (by omega)]
    rfl
end Go.Proofs.Ytbijepjnbolpiaa.Pure
