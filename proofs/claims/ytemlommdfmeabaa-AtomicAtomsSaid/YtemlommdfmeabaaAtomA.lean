/- Two lists of whole numbers as the reference compares them; which shape comes of two. -/
import Derived.Test.YtemlommdfmeabaaArr1
import Derived.Test.YtemlommdfmeabaaAtom1
import Derived.Test.YtemlommdfmeabaaPx5
namespace Go.Proofs.Ytemlommdfmeabaa.Pure
open Go.RowKit Go.Proofs.Ytemlommdfmeabaa.P Go.Proofs.Ytemlommdfmeabaa.Nest Go.Proofs.YtemlommdfmeabaaW.PrintWords Go.Proofs.YtemlommdfmeabaaW.PrintLast Go.Proofs.YtemlommdfmeabaaW.PrintMore
set_option linter.unusedVariables false
set_option linter.unusedSimpArgs false
theorem aag_l0 (s t : List Int) (hs : s.length < 17592186044416) : ∀ (rest done yrest : List Int), s = done ++ rest → t = done ++ yrest → rest.length = yrest.length → ∀ k, rest.length + 1 ≤ k →
    atomic_Agree.l0 k s t (s.length : Int) (done.length : Int) = some (if rest = yrest then (s, 0) else ([], 7))
  | [], done, yrest, he, hy, hr, k, hk => by
    have : yrest = [] := by cases yrest with | nil => rfl | cons a b => cases hr
    subst this
    obtain ⟨k, rfl, _⟩ := succ_of (K := 0) (by simpa using hk)
    have hn : s.length = done.length := by rw [he]; simp
    simp only [atomic_Agree.l0]
    rw [if_neg (by omega), if_pos (by simp; omega)]
    simp
  | x :: rest, done, [], he, hy, hr, k, hk => by cases hr
  | x :: rest, done, z :: yrest, he, hy, hr, k, hk => by
    have hr2 : rest.length = yrest.length := by simpa using hr
    rw [List.length_cons] at hk
    obtain ⟨k, rfl, hk2⟩ := succ_of hk
    have hn : s.length = done.length + 1 + rest.length := by rw [he]; simp; omega
    have hm : t.length = done.length + 1 + rest.length := by rw [hy]; simp; omega
    have e1 : rd s (done.length : Int) = x := by rw [he, rd_mid]
    have e2 : rd t (done.length : Int) = z := by rw [hy, rd_mid]
    simp only [atomic_Agree.l0]
    rw [if_pos (by omega), if_pos (by omega), if_pos (by omega), if_pos (by omega), e1, e2]
    by_cases hx : x = z
    · subst hx
      rw [if_pos rfl, wrap_next done x (by omega), aag_l0 s t hs rest (done ++ [x]) yrest (by rw [he]; simp) (by rw [hy]; simp) hr2 k hk2]
      by_cases hz : rest = yrest
      · rw [if_pos hz, if_pos (by rw [hz])]
      · rw [if_neg hz, if_neg (fun h => hz (by injection h))]
    · rw [if_neg hx, if_neg (fun h => hx (by injection h))]
theorem aag_eq (s t : List Int) (hs : s.length < 17592186044416) (ht : t.length < 17592186044416) : ∀ k, s.length + 1 ≤ k → atomic_Agree.f k s t = some (agS s t) := by
  intro k hk
  unfold atomic_Agree.f agS
  by_cases h1 : s = []
  · subst h1
    rw [if_pos (by simp), if_pos rfl, if_pos (by simp; omega)]; simp
  have l1 : s.length ≠ 0 := fun h => h1 (List.length_eq_zero_iff.1 h)
  rw [if_neg (by omega), if_neg h1]
  by_cases h2 : t = []
  · subst h2
    rw [if_pos (by simp), if_pos rfl, if_pos (by simp; omega)]; simp
  have l2 : t.length ≠ 0 := fun h => h2 (List.length_eq_zero_iff.1 h)
  rw [if_neg (by omega), if_neg h2]
  by_cases h3 : s.length = t.length
  · rw [if_pos (by omega), if_neg (not_not_intro h3)]
    exact aag_l0 s t hs s [] t rfl rfl h3 k hk
  · rw [if_neg (by omega), if_pos h3]
end Go.Proofs.Ytemlommdfmeabaa.Pure
