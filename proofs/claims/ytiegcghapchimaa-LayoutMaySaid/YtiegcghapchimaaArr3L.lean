/- What is light, as the statements reckon it. -/
import Derived.Test.YtiegcghapchimaaArr2
import Derived.Test.YtiegcghapchimaaPx1
namespace Go.Proofs.Ytiegcghapchimaa.Pure
open Go.RowKit Go.Proofs.Ytiegcghapchimaa.P Go.Proofs.Ytiegcghapchimaa.Nest Go.Proofs.YtiegcghapchimaaW.PrintWords Go.Proofs.YtiegcghapchimaaW.PrintLast Go.Proofs.YtiegcghapchimaaW.PrintMore
set_option linter.unusedVariables false
set_option linter.unusedSimpArgs false
mutual
theorem wA_ge : ∀ (a : S25) (most : Int) (deep : Nat), (a.f0.length : Int) + a.f1.length ≤ wA a most deep
  | ⟨s, c⟩, most, deep => by
    rw [wA]
    have := wCs_ge c ((c.length : Int) + (s.length : Int)) most deep
    simp only
    omega
theorem wCs_ge : ∀ (c : List S39) (n most : Int) (deep : Nat), n ≤ wCs c n most deep
  | [], n, most, deep => by rw [wCs]; omega
  | x :: xs, n, most, deep => by
    rw [wCs]
    split
    · have h1 := wC_ge x n most deep
      have h2 := wCs_ge xs (wC x n most deep) most deep
      omega
    · omega
theorem wC_ge : ∀ (x : S39) (n most : Int) (deep : Nat), n ≤ wC x n most deep
  | ⟨_, _, b⟩, n, most, deep => by rw [wC]; exact wB_ge b n most deep
theorem wB_ge : ∀ (b : List S25) (n most : Int) (deep : Nat), n ≤ wB b n most deep
  | [], n, most, deep => by rw [wB_none]; omega
  | x :: xs, n, most, deep => by
    rw [wB_cons]
    split
    · cases deep with
      | zero => simp only; omega
      | succ d =>
        simp only
        have h1 := wA_ge x (most - n) d
        have h2 := wB_ge xs (n + 1 + wA x (most - n) d) most (d + 1)
        omega
    · omega
end
theorem wB_len : ∀ (b : List S25) (n most : Int) (deep : Nat), wB b n most deep ≤ most → n + b.length ≤ wB b n most deep
  | [], n, most, deep, _ => by rw [wB_none]; simp
  | x :: xs, n, most, deep, h => by
    rw [wB_cons] at h ⊢
    split
    · rename_i hn
      rw [if_pos hn] at h
      cases deep with
      | zero => simp only at h; omega
      | succ d =>
        simp only at h ⊢
        have h1 := wA_ge x (most - n) d
        have h2 := wB_len xs (n + 1 + wA x (most - n) d) most (d + 1) h
        rw [List.length_cons]
        omega
    · rename_i hn
      rw [if_neg hn] at h
      omega
mutual
theorem smA_of : ∀ (a : S25) (most : Int) (deep : Nat), most ≤ 4000 → wA a most deep ≤ most → smA a deep
  | ⟨s, c⟩, most, deep, hm, h => by
    rw [wA] at h
    have := wCs_ge c ((c.length : Int) + (s.length : Int)) most deep
    rw [smA]
    exact ⟨by omega, by omega, smCs_of c _ most deep hm (by omega) h⟩
theorem smCs_of : ∀ (c : List S39) (n most : Int) (deep : Nat), most ≤ 4000 → 0 ≤ n → wCs c n most deep ≤ most → smCs c deep
  | [], n, most, deep, _, _, _ => by rw [smCs]; trivial
  | x :: xs, n, most, deep, hm, h0, h => by
    rw [wCs] at h
    rw [smCs]
    split at h
    · have h1 := wC_ge x n most deep
      have h2 := wCs_ge xs (wC x n most deep) most deep
      exact ⟨smC_of x n most deep hm h0 (by omega), smCs_of xs _ most deep hm (by omega) h⟩
    · omega
theorem smC_of : ∀ (x : S39) (n most : Int) (deep : Nat), most ≤ 4000 → 0 ≤ n → wC x n most deep ≤ most → smC x deep
  | ⟨_, _, b⟩, n, most, deep, hm, h0, h => by
    rw [wC] at h
    rw [smC]
    have := wB_len b n most deep h
    exact ⟨by omega, smB_of b n most deep hm h0 h⟩
theorem smB_of : ∀ (b : List S25) (n most : Int) (deep : Nat), most ≤ 4000 → 0 ≤ n → wB b n most deep ≤ most → smB b deep
  | [], n, most, deep, _, _, _ => by rw [smB]; trivial
  | x :: xs, n, most, deep, hm, h0, h => by
    rw [wB_cons] at h
    rw [smB]
    split at h
    · cases deep with
      | zero => simp only at h; omega
      | succ d =>
        simp only at h
        have h1 := wA_ge x (most - n) d
        have h2 := wB_ge xs (n + 1 + wA x (most - n) d) most (d + 1)
        exact ⟨⟨d, rfl, smA_of x (most - n) d (by omega) (by omega)⟩, smB_of xs _ most (d + 1) hm (by omega) h⟩
    · omega
end
/-- What the statements take: no more than is waited for. -/
def lightS3 (a : S25) : Bool := decide (wA a 3000 16 ≤ 3000)
theorem light3_sm {a : S25} (h : lightS3 a = true) : smA a 16 := smA_of a 3000 16 (by omega) (of_decide_eq_true h)
theorem weight_eq (a : S25) (most : Int) (h : okA a) (h0 : 0 ≤ most) (h1 : most ≤ 4000) : ∃ K, ∀ k, K ≤ k → triglyphref03_Weight.f k a.f0 a.f1 most = some (wA a most 16) := by
  obtain ⟨K, hK⟩ := w_evA a most 16 h h0 h1 (by omega)
  refine ⟨K, fun k hk => ?_⟩
  unfold triglyphref03_Weight.f
  rw [show (16 : Int) = ((16 : Nat) : Int) from rfl, hK k hk]
  rfl
end Go.Proofs.Ytiegcghapchimaa.Pure
