/- Where a cell stands, and which places it has: both packages tell the same. -/
import Derived.Test.YtiegcghapchimaaArr1
namespace Go.Proofs.Ytiegcghapchimaa.Pure
open Go.RowKit Go.Proofs.Ytiegcghapchimaa.P Go.Proofs.Ytiegcghapchimaa.Nest Go.Proofs.YtiegcghapchimaaW.PrintWords Go.Proofs.YtiegcghapchimaaW.PrintLast Go.Proofs.YtiegcghapchimaaW.PrintMore
set_option linter.unusedVariables false
set_option linter.unusedSimpArgs false
def prodS : List Int → Int
  | [] => 1
  | d :: s => d * prodS s
/-- From the last axis to the first: the places, and what is left over. -/
def dg : List Int → Int → List Int × Int
  | [], n => ([], n)
  | d :: s, n => ((dg s n).2 % d :: (dg s n).1, (dg s n).2 / d)
/-- From the first axis to the last. -/
def rf : List Int → Int → List Int
  | [], _ => []
  | d :: s, n => n / prodS s :: rf s (n % prodS s)
theorem prodS_pos : ∀ {s : List Int}, (∀ d ∈ s, 1 ≤ d) → 1 ≤ prodS s
  | [], _ => by simp [prodS]
  | d :: s, h => by
    have h1 := prodS_pos (s := s) (fun x hx => h x (List.mem_cons_of_mem _ hx))
    have h2 := h d List.mem_cons_self
    rw [prodS]
    have := Int.mul_le_mul h2 h1 (by omega) (by omega)
    omega
theorem dg_snoc (d : Int) : ∀ (a : List Int) (n : Int), dg (a ++ [d]) n = ((dg a (n / d)).1 ++ [n % d], (dg a (n / d)).2)
  | [], n => by simp [dg]
  | x :: a, n => by
    rw [List.cons_append, dg, dg_snoc d a n, dg]
    rfl
theorem mod_div (n d P : Int) (hd : 1 ≤ d) (hP : 1 ≤ P) : n % (d * P) / P = n / P % d ∧ n % (d * P) % P = n % P := by
  have h1 := Int.emod_add_mul_ediv n P
  have h2 := Int.emod_add_mul_ediv (n / P) d
  have h3 := Int.emod_nonneg n (show P ≠ 0 by omega)
  have h4 := Int.emod_lt_of_pos n (show 0 < P by omega)
  have h5 := Int.emod_nonneg (n / P) (show d ≠ 0 by omega)
  have h6 := Int.emod_lt_of_pos (n / P) (show 0 < d by omega)
  generalize n / P % d = q2 at *
  generalize n / P / d = q1 at *
  generalize n / P = q at *
  generalize hr : n % P = r at *
  have e : n = (r + P * q2) + (d * P) * q1 := by
    rw [← h1, ← h2, Int.mul_add, ← Int.mul_assoc, Int.mul_comm P d]
    omega
  have hlt : r + P * q2 < d * P := by
    have : P * q2 ≤ P * (d - 1) := Int.mul_le_mul_of_nonneg_left (by omega) (by omega)
    rw [Int.mul_sub, Int.mul_one, Int.mul_comm P d] at this
    omega
  have hge : 0 ≤ r + P * q2 := by have := Int.mul_nonneg (show 0 ≤ P by omega) h5; omega
  have e2 : n % (d * P) = r + P * q2 := by
    rw [e, Int.add_mul_emod_self_left]
    exact Int.emod_eq_of_lt hge hlt
  rw [e2, Int.add_mul_ediv_left _ _ (by omega), Int.add_mul_emod_self_left, Int.ediv_eq_zero_of_lt h3 h4, Int.emod_eq_of_lt h3 h4]
  exact ⟨by omega, rfl⟩
theorem dg_eq : ∀ (s : List Int) (n : Int), (∀ d ∈ s, 1 ≤ d) → 0 ≤ n → dg s n = (rf s (n % prodS s), n / prodS s)
  | [], n, _, _ => by simp [dg, rf, prodS]
  | d :: s, n, h, hn => by
    have hs := fun x hx => h x (List.mem_cons_of_mem _ hx)
    have h2 := h d List.mem_cons_self
    have hP := prodS_pos hs
    obtain ⟨m1, m2⟩ := mod_div n d (prodS s) h2 hP
    rw [dg, dg_eq s n hs hn, prodS, rf, m1, m2, Int.mul_comm d (prodS s), Int.ediv_ediv_of_nonneg (by omega)]
theorem dg_low (s : List Int) (n : Int) (h : ∀ d ∈ s, 1 ≤ d) (h0 : 0 ≤ n) (h1 : n < prodS s) : (dg s n).1 = rf s n := by
  rw [dg_eq s n h h0, Int.emod_eq_of_lt h0 h1]
theorem sizeP_ok : ∀ (s : List Int) (n : Int), 1 ≤ n → n ≤ 16384 → (∀ d ∈ s, 1 ≤ d) → (sizeP n s).2 = 0 → (sizeP n s).1 = n * prodS s
  | [], n, _, _, _, _ => by simp [sizeP, prodS]
  | d :: s, n, h0, h1, h, h2 => by
    rw [sizeP] at h2 ⊢
    split at h2
    · cases h2
    · rename_i hc
      have hd := h d List.mem_cons_self
      have hnd : 1 ≤ n * d := by have := Int.mul_le_mul h0 hd (by omega) (by omega); omega
      rw [if_neg hc, sizeP_ok s (n * d) hnd (by omega) (fun x hx => h x (List.mem_cons_of_mem _ hx)) h2, prodS, Int.mul_assoc]
theorem sizeS_ok {s : List Int} (h : (sizeS s).2 = 0) (hp : 0 < (sizeS s).1) : (∀ d ∈ s, 1 ≤ d) ∧ (sizeS s).1 = prodS s ∧ s.length ≤ 8 := by
  have hl := sizeS_len h
  unfold sizeS at h hp ⊢
  rw [if_neg (by omega)] at h hp ⊢
  split at h
  · cases h
  · rename_i hn
    rw [if_neg hn] at hp ⊢
    split at h
    · rename_i hz
      rw [if_pos hz] at hp
      simp at hp
    · rename_i hz
      rw [if_neg hz]
      have hd : ∀ d ∈ s, 1 ≤ d := by
        intro d hd
        have h1 : ¬ d < 0 := fun hlt => hn (List.any_eq_true.2 ⟨d, hd, by simpa using hlt⟩)
        have h2 : d ≠ 0 := fun he => hz (List.any_eq_true.2 ⟨d, hd, by simpa using he⟩)
        omega
      refine ⟨hd, ?_, hl⟩
      rw [sizeP_ok s 1 (by omega) (by omega) hd h, Int.one_mul]
theorem set_mid (a : List Int) (x y : Int) (b : List Int) : (a ++ x :: b).set a.length y = a ++ y :: b := by simp
end Go.Proofs.Ytiegcghapchimaa.Pure
