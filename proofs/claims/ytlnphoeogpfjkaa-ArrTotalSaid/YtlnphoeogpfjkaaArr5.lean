/- How arrays stand to one another: the reference tells what the package tells. -/
import Derived.Test.YtlnphoeogpfjkaaArr1

namespace Go.Proofs.Ytlnphoeogpfjkaa.Pure
open Go.RowKit Go.Proofs.Ytlnphoeogpfjkaa.P Go.Proofs.Ytlnphoeogpfjkaa.Nest Go.Proofs.YtlnphoeogpfjkaaW.PrintWords Go.Proofs.YtlnphoeogpfjkaaW.PrintLast Go.Proofs.YtlnphoeogpfjkaaW.PrintMore
set_option linter.unusedVariables false
set_option linter.unusedSimpArgs false

theorem ordI_zero {a b : Int} : ordI a b = 0 ↔ a = b := by
  unfold ordI
  split
  · omega
  · split <;> omega
theorem rdA_first (x : S25) (xs : List S25) : rd_T25 (x :: xs) 0 = x := rdA_mid [] x xs
/-! an array stands to itself as the same -/
theorem ordI_self (a : Int) : ordI a a = 0 := ordI_zero.2 rfl
theorem shp_self : ∀ s : List Int, shp s s = 0
  | [] => rfl
  | x :: xs => by rw [shp, if_neg (by simp [ordI_self]), shp_self xs]
mutual
theorem cmpA_self : ∀ a : S25, cmpA a a = 0
  | ⟨s, c⟩ => by rw [cmpA]; simp [ordI_self, shp_self, cmpCs_self c]
theorem cmpCs_self : ∀ c : List S28, cmpCs c c = 0
  | [] => by rw [cmpCs]
  | x :: xs => by rw [cmpCs]; simp [cmpC_self x, cmpCs_self xs]
theorem cmpC_self : ∀ x : S28, cmpC x x = 0
  | ⟨k, n, b⟩ => by rw [cmpC]; simp [ordI_self, cmpB_self b]
theorem cmpB_self : ∀ b : List S25, cmpB b b = 0
  | [] => by rw [cmpB]; exact ordI_self 0
  | x :: xs => by rw [cmpB]; exact cmpA_self x
end
end Go.Proofs.Ytlnphoeogpfjkaa.Pure
