/- Any two whole numbers of 64 bits: num.Add and num.Sub answer as the reference does. No condition. -/
import Derived.Test.YtjafglcmfofjjaaPureNumCommon
namespace Go.Proofs.Ytjafglcmfofjjaa.Pure
open Go.RowKit Go.Proofs.Ytjafglcmfofjjaa.P Go.Proofs.YtjafglcmfofjjaaW.PrintWords Go.Proofs.YtjafglcmfofjjaaW.PrintLast
set_option linter.unusedVariables false
set_option linter.unusedSimpArgs false

theorem NumAdds : triglyphlaw01_NumAdds.Pure := by
  intro a b ha hb
  have ha := i64_of ha
  have hb := i64_of hb
  refine ⟨20, ?_⟩
  unfold triglyphlaw01_NumAdds.f
  rw [add_eq ha hb, refadd_eq ha hb (by omega), sub_eq ha hb, refsub_eq ha hb (by omega), works_eq (by omega)]
  simp
end Go.Proofs.Ytjafglcmfofjjaa.Pure
