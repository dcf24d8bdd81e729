/- Any two whole numbers of 64 bits: what num.Res leaves has the sign of the first and is below it in size. No condition. -/
import Derived.Test.YtjafglcmfofjjaaPureNumCommon
namespace Go.Proofs.Ytjafglcmfofjjaa.Pure
open Go.RowKit Go.Proofs.Ytjafglcmfofjjaa.P Go.Proofs.YtjafglcmfofjjaaW.PrintWords Go.Proofs.YtjafglcmfofjjaaW.PrintLast
set_option linter.unusedVariables false
set_option linter.unusedSimpArgs false

theorem res_bd {a b : Int} (ha : I64 a) (hb : I64 b) (h0 : a ≠ 0) : (0 < a → 0 ≤ res a b ∧ res a b < a) ∧ (a < 0 → res a b ≤ 0 ∧ a < res a b) := by
  obtain ⟨b1, b2⟩ := tmod_bd (b := b) h0
  unfold res
  rw [if_neg h0]
  by_cases h1 : a = -1 ∨ a = 1
  · rw [if_pos h1]
    omega
  · rw [if_neg h1]
    generalize Int.tmod b a = r at b1 b2
    simp only
    split <;> omega
theorem res_again {a r : Int} (h0 : a ≠ 0) (h1 : 0 < a → 0 ≤ r ∧ r < a) (h2 : a < 0 → r ≤ 0 ∧ a < r) : res a r = r := by
  unfold res
  rw [if_neg h0]
  by_cases h3 : a = -1 ∨ a = 1
  · rw [if_pos h3]
    omega
  · rw [if_neg h3]
    have e : Int.tmod r a = r := by
      by_cases hp : 0 < a
      · rw [Int.tmod_eq_emod_of_nonneg (by omega), Int.emod_eq_of_lt (by omega) (by omega)]
      · have : Int.tmod r a = -(Int.tmod (-r) (-a)) := by rw [Int.tmod_neg, Int.neg_tmod]; omega
        rw [this, Int.tmod_eq_emod_of_nonneg (by omega), Int.emod_eq_of_lt (by omega) (by omega)]
        omega
    rw [e]
    simp only
    rw [if_neg (by omega)]
theorem NumRests : triglyphlaw01_NumRests.Pure := by
  intro a b ha hb
  have ha := i64_of ha
  have hb := i64_of hb
  refine ⟨20, ?_⟩
  unfold triglyphlaw01_NumRests.f
  rw [res_num ha hb]
  simp only [Option.bind_some]
  by_cases h0 : a = 0
  · subst h0
    rw [if_pos rfl, works_eq (by omega)]
    simp [res]
  · obtain ⟨r1, r2⟩ := res_bd ha hb h0
    have hr : I64 (res a b) := by unfold I64 at ha ⊢; omega
    have hag := res_again h0 r1 r2
    have hj : triglyphlaw01_NumRests.j0 20 a b (res a b) false = some true := by
      rw [show (20 : Nat) = 19 + 1 from rfl]
      simp only [triglyphlaw01_NumRests.j0, Bool.false_eq_true, if_false]
      rw [res_num ha hr, hag, works_eq (by omega), res_ref ha hb (by omega)]
      simp
    rw [if_neg h0]
    generalize hR : res a b = r at *
    have t1 : a < 0 → decide (r ≤ a) = false := fun h => decide_eq_false (by omega)
    by_cases h1 : r = 0
    · rw [if_pos h1]
      by_cases h2 : a > 0
      · rw [if_pos h2, if_neg (by omega), if_neg (by omega), hj]
      · rw [if_neg h2, if_pos (by omega), t1 (by omega), hj]
    · rw [if_neg h1]
      by_cases h2 : a > 0
      · rw [decide_eq_false (show ¬ r < 0 by omega), decide_eq_false (show ¬ a < 0 by omega), if_neg (by simp), if_pos h2, if_neg (by omega), if_neg (by omega), hj]
      · rw [decide_eq_true (show r < 0 by omega), decide_eq_true (show a < 0 by omega), if_neg (by simp), if_neg h2, if_pos (by omega), t1 (by omega), hj]
end Go.Proofs.Ytjafglcmfofjjaa.Pure
