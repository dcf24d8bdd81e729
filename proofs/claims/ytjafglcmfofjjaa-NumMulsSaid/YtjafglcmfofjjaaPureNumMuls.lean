/- Any two whole numbers of 64 bits: num.Mul and num.Res answer as the reference does. No condition. -/
import Derived.Test.YtjafglcmfofjjaaPureNumCommon
namespace Go.Proofs.Ytjafglcmfofjjaa.Pure
open Go.RowKit Go.Proofs.Ytjafglcmfofjjaa.P Go.Proofs.YtjafglcmfofjjaaW.PrintWords Go.Proofs.YtjafglcmfofjjaaW.PrintLast
set_option linter.unusedVariables false
set_option linter.unusedSimpArgs false

theorem NumMuls : triglyphlaw01_NumMuls.Pure := by
  intro a b ha hb
  have ha := i64_of ha
  have hb := i64_of hb
  refine ⟨20, ?_⟩
  unfold triglyphlaw01_NumMuls.f
  rw [mul_eq ha hb (by omega), refmul_eq ha hb (by omega), works_eq (by omega), res_num ha hb, res_ref ha hb (by omega)]
  simp
end Go.Proofs.Ytjafglcmfofjjaa.Pure
