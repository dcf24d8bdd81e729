/- What the statements on layout share: what they take; cells that may be. -/
import Derived.Test.YtdihmempaonfjaaArr3L
import Derived.Test.YtdihmempaonfjaaArr4
import Derived.Test.YtdihmempaonfjaaArr5
import Derived.Test.YtdihmempaonfjaaArr9
import Derived.Test.YtdihmempaonfjaaPx1
import Derived.Test.YtdihmempaonfjaaPx9
namespace Go.Proofs.Ytdihmempaonfjaa.Pure
open Go.RowKit Go.Proofs.Ytdihmempaonfjaa.P Go.Proofs.Ytdihmempaonfjaa.Nest Go.Proofs.YtdihmempaonfjaaW.PrintWords Go.Proofs.YtdihmempaonfjaaW.PrintLast Go.Proofs.YtdihmempaonfjaaW.PrintMore
set_option linter.unusedVariables false
set_option linter.unusedSimpArgs false
theorem light_eq (a : S25) (h : okA a) : ∃ K, ∀ k, K ≤ k → triglyphlaw06_light.f k a.f0 a.f1 = some (lightS3 a) := by
  obtain ⟨K, hK⟩ := weight_eq a 3000 h (by omega) (by omega)
  refine ⟨K, fun k hk => ?_⟩
  unfold triglyphlaw06_light.f
  rw [hK k hk]
  rfl
theorem chCs_all : ∀ {c : List S45} {d : Nat}, chCs c d = 0 ↔ ∀ x ∈ c, chC x d = 0
  | [], d => by simp [chCs]
  | x :: c, d => by
    rw [chCs]
    by_cases h : chC x d = 0
    · rw [if_pos h, chCs_all]; simp [h]
    · rw [if_neg h]; simp [h]
/-- What an array that may be is made of. -/
theorem chA_parts {s : List Int} {c : List S45} {d : Nat} (h : chA ⟨s, c⟩ d = 0) : (sizeS s).2 = 0 ∧ (sizeS s).1 = (c.length : Int) ∧ s.any (16384 < ·) = false ∧ chCs c d = 0 := by
  rw [chA] at h
  by_cases h1 : (sizeS s).2 = 0
  · rw [if_pos h1] at h
    by_cases h2 : (sizeS s).1 = (c.length : Int)
    · rw [if_pos h2] at h
      cases h3 : s.any (16384 < ·) with
      | true => rw [h3, if_pos rfl] at h; cases h
      | false => rw [h3, if_neg (by decide)] at h; exact ⟨h1, h2, rfl, h⟩
    · rw [if_neg h2] at h; cases h
  · rw [if_neg h1] at h; exact absurd h h1
theorem chA_of {s : List Int} {c : List S45} {d : Nat} (h1 : (sizeS s).2 = 0) (h2 : (sizeS s).1 = (c.length : Int)) (h3 : s.any (16384 < ·) = false) (h4 : chCs c d = 0) : chA ⟨s, c⟩ d = 0 := by
  rw [chA, if_pos h1, if_pos h2, h3, if_neg (by decide), h4]
theorem sizeS_nonneg {s : List Int} (h : (sizeS s).2 = 0) : ∀ x ∈ s, 0 ≤ x := by
  unfold sizeS at h
  split at h
  · cases h
  split at h
  · cases h
  · rename_i hn
    intro x hx
    rcases Int.lt_or_le x 0 with hl | hl
    · exact absurd (List.any_eq_true.2 ⟨x, hx, by simpa using hl⟩) hn
    · exact hl
theorem wf_small {x : Int} (h0 : 0 ≤ x) (h1 : x ≤ 16385) : (Lit.int .i64 x).wf = true := by
  unfold Lit.wf
  rw [Bool.and_eq_true]
  exact ⟨decide_eq_true (show (-9223372036854775808 : Int) ≤ x by omega), decide_eq_true (show x ≤ 9223372036854775807 by omega)⟩
theorem okA_of {s : List Int} {c : List S45} (hs : s.length ≤ 20) (hb : ∀ x ∈ s, 0 ≤ x ∧ x ≤ 16385) (hc : c.length ≤ 16384) (hok : ∀ x ∈ c, okC x) : okA ⟨s, c⟩ := by
  rw [okA]
  unfold reachBytes
  exact ⟨⟨by omega, fun y hy => wf_small (hb y hy).1 (hb y hy).2⟩, by omega, okCs_iff.2 hok⟩
theorem okA_cells {s : List Int} {c : List S45} (h : okA ⟨s, c⟩) : ∀ x ∈ c, okC x := by
  rw [okA] at h
  exact okCs_iff.1 h.2.2
theorem le_mulR {a b : Int} (ha : 0 ≤ a) (hb : 1 ≤ b) : a ≤ a * b := by
  have := Int.mul_le_mul_of_nonneg_left hb ha
  rwa [Int.mul_one] at this
theorem works_eq : ∀ k, 80 ≤ k → triglyphlaw06_works.f k = some true := by
  intro k hk
  have h : triglyphlaw06_works.f 80 = some true := by kernel_rfl
  exact at_rounds triglyphlaw06_works.mono hk h
end Go.Proofs.Ytdihmempaonfjaa.Pure
