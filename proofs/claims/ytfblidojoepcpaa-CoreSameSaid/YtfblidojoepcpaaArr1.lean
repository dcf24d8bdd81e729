/- What the functions of package arr, and the reference's, compute of shapes and arrays: plain facts about lists. -/
import Derived.Test.YtfblidojoepcpaaNestArr
import Derived.Test.YtfblidojoepcpaaPx2
namespace Go.Proofs.Ytfblidojoepcpaa.Pure
open Go.RowKit Go.Proofs.Ytfblidojoepcpaa.P Go.Proofs.Ytfblidojoepcpaa.Nest Go.Proofs.YtfblidojoepcpaaW.PrintWords Go.Proofs.YtfblidojoepcpaaW.PrintLast Go.Proofs.YtfblidojoepcpaaW.PrintMore
set_option linter.unusedVariables false
set_option linter.unusedSimpArgs false
theorem succ_of {K k : Nat} (h : K + 1 ≤ k) : ∃ m, k = m + 1 ∧ K ≤ m := ⟨k - 1, by omega, by omega⟩
theorem rd_mid (a : List Int) (x : Int) (b : List Int) : rd (a ++ x :: b) (a.length : Int) = x := by simp [rd]
theorem rdC_mid (a : List S52) (x : S52) (b : List S52) : rd_T52 (a ++ x :: b) (a.length : Int) = x := by simp [rd_T52]
theorem rdA_mid (a : List S25) (x : S25) (b : List S25) : rd_T25 (a ++ x :: b) (a.length : Int) = x := by simp [rd_T25]
theorem wrap_next {α : Type} (done : List α) (x : α) (h : done.length ≤ 9000000000000000000) : wrap64 ((done.length : Int) + 1) = ((done ++ [x]).length : Int) := by
  unfold wrap64
  simp
  omega
theorem wrap_in {x : Int} (h1 : -9223372036854775808 ≤ x) (h2 : x ≤ 9223372036854775807) : wrap64 x = x := by unfold wrap64; omega
end Go.Proofs.Ytfblidojoepcpaa.Pure
