/- What is light, as the statements reckon it. -/
import Derived.Test.YtahgfebdjjfkhaaArr2
import Derived.Test.YtahgfebdjjfkhaaPx1
namespace Go.Proofs.Ytahgfebdjjfkhaa.Pure
open Go.RowKit Go.Proofs.Ytahgfebdjjfkhaa.P Go.Proofs.Ytahgfebdjjfkhaa.Nest Go.Proofs.YtahgfebdjjfkhaaW.PrintWords Go.Proofs.YtahgfebdjjfkhaaW.PrintLast Go.Proofs.YtahgfebdjjfkhaaW.PrintMore
set_option linter.unusedVariables false
set_option linter.unusedSimpArgs false
mutual
theorem wA_ge : ∀ (a : S25) (most : Int) (deep : Nat), (a.f0.length : Int) + a.f1.length ≤ wA a most deep
  | ⟨s, c⟩, most, deep => by
    rw [wA]
    have := wCs_ge c ((c.length : Int) + (s.length : Int)) most deep
    simp only
    omega
theorem wCs_ge : ∀ (c : List S43) (n most : Int) (deep : Nat), n ≤ wCs c n most deep
  | [], n, most, deep => by rw [wCs]; omega
  | x :: xs, n, most, deep => by
    rw [wCs]
    split
    · have h1 := wC_ge x n most deep
      have h2 := wCs_ge xs (wC x n most deep) most deep
      omega
    · omega
theorem wC_ge : ∀ (x : S43) (n most : Int) (deep : Nat), n ≤ wC x n most deep
  | ⟨_, _, b⟩, n, most, deep => by rw [wC]; exact wB_ge b n most deep
theorem wB_ge : ∀ (b : List S25) (n most : Int) (deep : Nat), n ≤ wB b n most deep
  | [], n, most, deep => by rw [wB_none]; omega
  | x :: xs, n, most, deep => by
    rw [wB_cons]
    split
    · cases deep with
      | zero => simp only; omega
      | succ d =>
        simp only
        have h1 := wA_ge x (most - n) d
        have h2 := wB_ge xs (n + 1 + wA x (most - n) d) most (d + 1)
        omega
    · omega
end
theorem weight_eq (a : S25) (most : Int) (h : okA a) (h0 : 0 ≤ most) (h1 : most ≤ 4000) : ∃ K, ∀ k, K ≤ k → triglyphref03_Weight.f k a.f0 a.f1 most = some (wA a most 16) := by
  obtain ⟨K, hK⟩ := w_evA a most 16 h h0 h1 (by omega)
  refine ⟨K, fun k hk => ?_⟩
  unfold triglyphref03_Weight.f
  rw [show (16 : Int) = ((16 : Nat) : Int) from rfl, hK k hk]
  rfl
end Go.Proofs.Ytahgfebdjjfkhaa.Pure
