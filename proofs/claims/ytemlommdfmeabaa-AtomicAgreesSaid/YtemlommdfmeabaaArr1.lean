/- What the functions of package arr, and the reference's, compute of shapes and arrays: plain facts about lists. -/
import Derived.Test.YtemlommdfmeabaaNestArr
import Derived.Test.YtemlommdfmeabaaPx1
import Derived.Test.YtemlommdfmeabaaPx8
namespace Go.Proofs.Ytemlommdfmeabaa.Pure
open Go.RowKit Go.Proofs.Ytemlommdfmeabaa.P Go.Proofs.Ytemlommdfmeabaa.Nest Go.Proofs.YtemlommdfmeabaaW.PrintWords Go.Proofs.YtemlommdfmeabaaW.PrintLast Go.Proofs.YtemlommdfmeabaaW.PrintMore
set_option linter.unusedVariables false
set_option linter.unusedSimpArgs false
theorem succ_of {K k : Nat} (h : K + 1 ≤ k) : ∃ m, k = m + 1 ∧ K ≤ m := ⟨k - 1, by omega, by omega⟩
theorem rd_mid (a : List Int) (x : Int) (b : List Int) : rd (a ++ x :: b) (a.length : Int) = x := by simp [rd]
theorem wrap_next {α : Type} (done : List α) (x : α) (h : done.length ≤ 9000000000000000000) : wrap64 ((done.length : Int) + 1) = ((done ++ [x]).length : Int) := by
  unfold wrap64
  simp
  omega
end Go.Proofs.Ytemlommdfmeabaa.Pure
