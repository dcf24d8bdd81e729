/- What goes cell by cell: one cell, two cells, lists of them: plain facts about lists. -/
import Derived.Test.YtemlommdfmeabaaArr3
import Derived.Test.YtemlommdfmeabaaNum1
namespace Go.Proofs.Ytemlommdfmeabaa.Pure
open Go.RowKit Go.Proofs.Ytemlommdfmeabaa.P Go.Proofs.Ytemlommdfmeabaa.Nest Go.Proofs.YtemlommdfmeabaaW.PrintWords Go.Proofs.YtemlommdfmeabaaW.PrintLast Go.Proofs.YtemlommdfmeabaaW.PrintMore
set_option linter.unusedVariables false
set_option linter.unusedSimpArgs false
def agS (s t : List Int) : List Int × Int := if s = [] then (t, 0) else if t = [] then (s, 0) else if s.length ≠ t.length then ([], 6) else if s = t then (s, 0) else ([], 7)
theorem agS_comm (s t : List Int) : agS t s = agS s t := by
  unfold agS
  by_cases h1 : s = []
  · by_cases h2 : t = []
    · rw [if_pos h2, if_pos h1, h1, h2]
    · rw [if_neg h2, if_pos h1, if_pos h1]
  · by_cases h2 : t = []
    · rw [if_pos h2, if_neg h1, if_pos h2]
    · rw [if_neg h2, if_neg h1, if_neg h1, if_neg h2]
      by_cases h3 : s.length = t.length
      · rw [if_neg (not_not_intro h3.symm), if_neg (not_not_intro h3)]
        by_cases h4 : s = t
        · rw [if_pos h4.symm, if_pos h4, h4]
        · rw [if_neg (Ne.symm h4), if_neg h4]
      · rw [if_pos (Ne.symm h3), if_pos h3]
end Go.Proofs.Ytemlommdfmeabaa.Pure
