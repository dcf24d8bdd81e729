/- Places lead to their cell, and a cell to its places. -/
import Derived.Test.YtiegcghapchimaaArr6
namespace Go.Proofs.Ytiegcghapchimaa.Pure
open Go.RowKit Go.Proofs.Ytiegcghapchimaa.P Go.Proofs.Ytiegcghapchimaa.Nest Go.Proofs.YtiegcghapchimaaW.PrintWords Go.Proofs.YtiegcghapchimaaW.PrintLast Go.Proofs.YtiegcghapchimaaW.PrintMore
set_option linter.unusedVariables false
set_option linter.unusedSimpArgs false
/-- Places within a shape. -/
def within : List Int → List Int → Prop
  | [], [] => True
  | a :: l, d :: s => (0 ≤ a ∧ a < d) ∧ within l s
  | _, _ => False
/-- The cell at places. -/
def hv : List Int → List Int → Int
  | a :: l, d :: s => a * prodS s + hv l s
  | _, _ => 0
theorem within_pos : ∀ {l s : List Int}, within l s → ∀ d ∈ s, 1 ≤ d
  | [], [], _ => by simp
  | a :: l, d :: s, h => by
    rw [within] at h
    intro x hx
    rcases List.mem_cons.1 hx with rfl | hx
    · omega
    · exact within_pos h.2 x hx
  | [], d :: s, h => by cases h
  | a :: l, [], h => by cases h
theorem hv_of : ∀ {l s : List Int}, within l s → (0 ≤ hv l s ∧ hv l s < prodS s) ∧ rf s (hv l s) = l
  | [], [], _ => by simp [hv, prodS, rf]
  | a :: l, d :: s, h => by
    have hp := within_pos h
    rw [within] at h
    obtain ⟨⟨h0, h1⟩, e⟩ := hv_of h.2
    have hP := prodS_pos (s := s) (fun x hx => hp x (List.mem_cons_of_mem _ hx))
    have m0 := Int.mul_nonneg h.1.1 (show 0 ≤ prodS s by omega)
    have m1 : a * prodS s ≤ (d - 1) * prodS s := Int.mul_le_mul_of_nonneg_right (by omega) (by omega)
    rw [Int.sub_mul, Int.one_mul] at m1
    have q1 : (a * prodS s + hv l s) / prodS s = a := by
      rw [Int.add_comm, Int.mul_comm, Int.add_mul_ediv_left _ _ (by omega), Int.ediv_eq_zero_of_lt h0 h1, Int.zero_add]
    have q2 : (a * prodS s + hv l s) % prodS s = hv l s := by
      rw [Int.add_comm, Int.mul_comm, Int.add_mul_emod_self_left, Int.emod_eq_of_lt h0 h1]
    rw [hv, prodS, rf, q1, q2, e]
    exact ⟨⟨by omega, by omega⟩, rfl⟩
  | [], d :: s, h => by cases h
  | a :: l, [], h => by cases h
theorem rf_of : ∀ {s : List Int} {n : Int}, (∀ d ∈ s, 1 ≤ d) → 0 ≤ n → n < prodS s → within (rf s n) s ∧ hv (rf s n) s = n
  | [], n, _, h0, h1 => by
    rw [prodS] at h1
    rw [rf]
    exact ⟨by rw [within]; trivial, by rw [hv]; omega; simp⟩
  | d :: s, n, h, h0, h1 => by
    have hs := fun x hx => h x (List.mem_cons_of_mem _ hx)
    have hd := h d List.mem_cons_self
    have hP := prodS_pos hs
    have m0 := Int.emod_nonneg n (show prodS s ≠ 0 by omega)
    have m1 := Int.emod_lt_of_pos n (show 0 < prodS s by omega)
    have m2 := Int.emod_add_mul_ediv n (prodS s)
    obtain ⟨a, b⟩ := rf_of hs m0 m1
    rw [prodS] at h1
    rw [rf, within, hv, b]
    refine ⟨⟨⟨Int.ediv_nonneg h0 (by omega), Int.ediv_lt_of_lt_mul (by omega) h1⟩, a⟩, ?_⟩
    rw [Int.mul_comm]
    omega
theorem within_len : ∀ {l s : List Int}, within l s → l.length = s.length
  | [], [], _ => rfl
  | a :: l, d :: s, h => by
    rw [within] at h
    simp [within_len h.2]
  | [], d :: s, h => by cases h
  | a :: l, [], h => by cases h
theorem sizeS_pos {s : List Int} (h : (sizeS s).2 = 0) (hd : ∀ d ∈ s, 1 ≤ d) : (sizeS s).1 = prodS s := by
  have hl := sizeS_len h
  have n1 : ¬ s.any (· < 0) = true := by
    intro hc
    obtain ⟨x, hx, hx2⟩ := List.any_eq_true.1 hc
    have := hd x hx
    have := of_decide_eq_true hx2
    omega
  have n2 : ¬ s.any (· = 0) = true := by
    intro hc
    obtain ⟨x, hx, hx2⟩ := List.any_eq_true.1 hc
    have := hd x hx
    have := of_decide_eq_true hx2
    omega
  unfold sizeS at h ⊢
  rw [if_neg (by omega), if_neg n1, if_neg n2] at h ⊢
  rw [sizeP_ok s 1 (by omega) (by omega) hd h, Int.one_mul]
end Go.Proofs.Ytiegcghapchimaa.Pure
