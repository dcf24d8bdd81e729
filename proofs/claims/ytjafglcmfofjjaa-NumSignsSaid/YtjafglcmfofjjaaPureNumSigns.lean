/- Any whole number of 64 bits: num.Neg, num.Abs and num.Sgn answer as the reference does. No condition. -/
import Derived.Test.YtjafglcmfofjjaaPureNumCommon
namespace Go.Proofs.Ytjafglcmfofjjaa.Pure
open Go.RowKit Go.Proofs.Ytjafglcmfofjjaa.P Go.Proofs.YtjafglcmfofjjaaW.PrintWords Go.Proofs.YtjafglcmfofjjaaW.PrintLast
set_option linter.unusedVariables false
set_option linter.unusedSimpArgs false

theorem NumSigns : triglyphlaw01_NumSigns.Pure := by
  intro a ha
  have ha := i64_of ha
  have h0 : I64 0 := by unfold I64; omega
  refine ⟨20, ?_⟩
  have e1 : num_Neg.f a = some (fit (0 - a)) := by unfold num_Neg.f; rw [sub_eq h0 ha]; rfl
  have e2 : num_Abs.f a = some (if a < 0 then fit (0 - a) else (a, 0)) := by
    unfold num_Abs.f
    by_cases h : a < 0
    · rw [if_pos h, if_pos h, e1]; rfl
    · rw [if_neg h, if_neg h]
  have e3 : triglyphref01_Abs.f 20 a = some (if a < 0 then fit (0 - a) else (a, 0)) := by
    unfold triglyphref01_Abs.f
    by_cases h : a < 0
    · rw [if_neg (by omega), if_pos h, refsub_eq h0 ha (by omega)]; rfl
    · rw [if_pos (by omega), if_neg h]
  have e4 : num_Sgn.f a = triglyphref01_Sgn.f a := by
    unfold num_Sgn.f triglyphref01_Sgn.f
    by_cases h : a < 0
    · rw [if_pos h, if_neg (by omega), if_pos h]
    · rw [if_neg h]
      by_cases h2 : a > 0
      · rw [if_pos h2, if_pos h2]
      · rw [if_neg h2, if_neg h2, if_neg h]
  have e5 : ∃ s, triglyphref01_Sgn.f a = some s := by
    unfold triglyphref01_Sgn.f
    split
    · exact ⟨_, rfl⟩
    · split <;> exact ⟨_, rfl⟩
  obtain ⟨s, e5⟩ := e5
  unfold triglyphlaw01_NumSigns.f
  rw [e1, refsub_eq h0 ha (by omega), e2, e3, e4, e5, works_eq (by omega)]
  simp
end Go.Proofs.Ytjafglcmfofjjaa.Pure
