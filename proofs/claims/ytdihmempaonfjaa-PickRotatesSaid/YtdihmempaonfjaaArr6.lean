/- Where a cell stands, and which places it has: both packages tell the same. -/
import Derived.Test.YtdihmempaonfjaaArr1
namespace Go.Proofs.Ytdihmempaonfjaa.Pure
open Go.RowKit Go.Proofs.Ytdihmempaonfjaa.P Go.Proofs.Ytdihmempaonfjaa.Nest Go.Proofs.YtdihmempaonfjaaW.PrintWords Go.Proofs.YtdihmempaonfjaaW.PrintLast Go.Proofs.YtdihmempaonfjaaW.PrintMore
set_option linter.unusedVariables false
set_option linter.unusedSimpArgs false
def prodS : List Int → Int
  | [] => 1
  | d :: s => d * prodS s
theorem prodS_pos : ∀ {s : List Int}, (∀ d ∈ s, 1 ≤ d) → 1 ≤ prodS s
  | [], _ => by simp [prodS]
  | d :: s, h => by
    have h1 := prodS_pos (s := s) (fun x hx => h x (List.mem_cons_of_mem _ hx))
    have h2 := h d List.mem_cons_self
    rw [prodS]
    have := Int.mul_le_mul h2 h1 (by omega) (by omega)
    omega
theorem sizeP_ok : ∀ (s : List Int) (n : Int), 1 ≤ n → n ≤ 16384 → (∀ d ∈ s, 1 ≤ d) → (sizeP n s).2 = 0 → (sizeP n s).1 = n * prodS s
  | [], n, _, _, _, _ => by simp [sizeP, prodS]
  | d :: s, n, h0, h1, h, h2 => by
    rw [sizeP] at h2 ⊢
    split at h2
    · cases h2
    · rename_i hc
      have hd := h d List.mem_cons_self
      have hnd : 1 ≤ n * d := by have := Int.mul_le_mul h0 hd (by omega) (by omega); omega
      rw [if_neg hc, sizeP_ok s (n * d) hnd (by omega) (fun x hx => h x (List.mem_cons_of_mem _ hx)) h2, prodS, Int.mul_assoc]
theorem sizeS_ok {s : List Int} (h : (sizeS s).2 = 0) (hp : 0 < (sizeS s).1) : (∀ d ∈ s, 1 ≤ d) ∧ (sizeS s).1 = prodS s ∧ s.length ≤ 8 := by
  have hl := sizeS_len h
  unfold sizeS at h hp ⊢
  rw [if_neg (by omega)] at h hp ⊢
  split at h
  · cases h
  · rename_i hn
    rw [if_neg hn] at hp ⊢
    split at h
    · rename_i hz
      rw [if_pos hz] at hp
      simp at hp
    · rename_i hz
      rw [if_neg hz]
      have hd : ∀ d ∈ s, 1 ≤ d := by
        intro d hd
        have h1 : ¬ d < 0 := fun hlt => hn (List.any_eq_true.2 ⟨d, hd, by simpa using hlt⟩)
        have h2 : d ≠ 0 := fun he => hz (List.any_eq_true.2 ⟨d, hd, by simpa using he⟩)
        omega
      refine ⟨hd, ?_, hl⟩
      rw [sizeP_ok s 1 (by omega) (by omega) hd h, Int.one_mul]
end Go.Proofs.Ytdihmempaonfjaa.Pure
