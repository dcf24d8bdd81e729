/- What is light, as the statements reckon it. -/
import Derived.Test.YtbijepjnbolpiaaArr2
import Derived.Test.YtbijepjnbolpiaaPx1
namespace Go.Proofs.Ytbijepjnbolpiaa.Pure
open Go.RowKit Go.Proofs.Ytbijepjnbolpiaa.P Go.Proofs.Ytbijepjnbolpiaa.Nest Go.Proofs.YtbijepjnbolpiaaW.PrintWords Go.Proofs.YtbijepjnbolpiaaW.PrintLast Go.Proofs.YtbijepjnbolpiaaW.PrintMore
set_option linter.unusedVariables false
set_option linter.unusedSimpArgs false
mutual
theorem wA_ge : ∀ (a : S25) (most : Int) (deep : Nat), (a.f0.length : Int) + a.f1.length ≤ wA a most deep
  | ⟨s, c⟩, most, deep => by
    rw [wA]
    have := wCs_ge c ((c.length : Int) + (s.length : Int)) most deep
    simp only
    omega
theorem wCs_ge : ∀ (c : List S40) (n most : Int) (deep : Nat), n ≤ wCs c n most deep
  | [], n, most, deep => by rw [wCs]; omega
  | x :: xs, n, most, deep => by
    rw [wCs]
    split
    · have h1 := wC_ge x n most deep
      have h2 := wCs_ge xs (wC x n most deep) most deep
      omega
    · omega
theorem wC_ge : ∀ (x : S40) (n most : Int) (deep : Nat), n ≤ wC x n most deep
  | ⟨_, _, b⟩, n, most, deep => by rw [wC]; exact wB_ge b n most deep
theorem wB_ge : ∀ (b : List S25) (n most : Int) (deep : Nat), n ≤ wB b n most deep
  | [], n, most, deep => by rw [wB_none]; omega
  | x :: xs, n, most, deep => by
    rw [wB_cons]
    split
    · cases deep with
      | zero => simp only; omega
      | succ d =>
        simp only
        have h1 := wA_ge x (most - n) d
        have h2 := wB_ge xs (n + 1 + wA x (most - n) d) most (d + 1)
        omega
    · omega
end
end Go.Proofs.Ytbijepjnbolpiaa.Pure
