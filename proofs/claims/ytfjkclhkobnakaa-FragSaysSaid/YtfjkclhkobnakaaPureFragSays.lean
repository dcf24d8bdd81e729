/- FragSays: what it computes is yes, for every dialect and number. -/
import Derived.Test.YtfjkclhkobnakaaFragWords
import Derived.Test.YtfjkclhkobnakaaPx9
namespace Go.Proofs.Ytfjkclhkobnakaa.Pure
open Go.RowKit Go.Proofs.Ytfjkclhkobnakaa.P Go.Proofs.YtfjkclhkobnakaaW.PrintWords Go.Proofs.YtfjkclhkobnakaaW.PrintLast Go.Proofs.YtfjkclhkobnakaaW.PrintMore
theorem FragSays : triglyphlaw24_FragSays.Pure := by
  intro a0 a1 h0 _
  have hr : 0 ≤ a0 ∧ a0 < 256 := by
    have := h0
    have e1 : IntKind.u8.min = 0 := by decide
    have e2 : IntKind.u8.max = 255 := by decide
    simp [Lit.wf, e1, e2] at this
    omega
  have hw : wrap64 a0 = a0 := by unfold wrap64; omega
  have hd : Int.tmod (wrap64 a0) 3 = a0 % 3 := by rw [hw, Int.tmod_eq_emod_of_nonneg hr.1]
  unfold triglyphlaw24_FragSays.f
  rw [hd]
  have h3 : a0 % 3 = 0 ∨ a0 % 3 = 1 ∨ a0 % 3 = 2 := by omega
  rcases h3 with h | h | h
  · rw [h]; exact law_at 0 a1 low0 agree0
  · rw [h]; exact law_at 1 a1 low1 agree1
  · rw [h]; exact law_at 2 a1 low2 agree2
end Go.Proofs.Ytfjkclhkobnakaa.Pure
