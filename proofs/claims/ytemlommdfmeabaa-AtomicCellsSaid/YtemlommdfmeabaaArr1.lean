/- What the functions of package arr, and the reference's, compute of shapes and arrays: plain facts about lists. -/
import Derived.Test.YtemlommdfmeabaaNestArr
import Derived.Test.YtemlommdfmeabaaPx1
namespace Go.Proofs.Ytemlommdfmeabaa.Pure
open Go.RowKit Go.Proofs.Ytemlommdfmeabaa.P Go.Proofs.Ytemlommdfmeabaa.Nest Go.Proofs.YtemlommdfmeabaaW.PrintWords Go.Proofs.YtemlommdfmeabaaW.PrintLast Go.Proofs.YtemlommdfmeabaaW.PrintMore
set_option linter.unusedVariables false
set_option linter.unusedSimpArgs false
theorem succ_of {K k : Nat} (h : K + 1 ≤ k) : ∃ m, k = m + 1 ∧ K ≤ m := ⟨k - 1, by omega, by omega⟩
theorem rd_mid (a : List Int) (x : Int) (b : List Int) : rd (a ++ x :: b) (a.length : Int) = x := by simp [rd]
theorem rdC_mid (a : List S35) (x : S35) (b : List S35) : rd_T35 (a ++ x :: b) (a.length : Int) = x := by simp [rd_T35]
theorem rdA_mid (a : List S25) (x : S25) (b : List S25) : rd_T25 (a ++ x :: b) (a.length : Int) = x := by simp [rd_T25]
theorem wrap_next {α : Type} (done : List α) (x : α) (h : done.length ≤ 9000000000000000000) : wrap64 ((done.length : Int) + 1) = ((done ++ [x]).length : Int) := by
  unfold wrap64
  simp
  omega
theorem wrap_in {x : Int} (h1 : -9223372036854775808 ≤ x) (h2 : x ≤ 9223372036854775807) : wrap64 x = x := by unfold wrap64; omega
end Go.Proofs.Ytemlommdfmeabaa.Pure
