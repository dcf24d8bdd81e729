/- What a copy is: the array itself, where it may be. -/
import Derived.Test.YtahgfebdjjfkhaaArr3
import Derived.Test.YtahgfebdjjfkhaaPx4
namespace Go.Proofs.Ytahgfebdjjfkhaa.Pure
open Go.RowKit Go.Proofs.Ytahgfebdjjfkhaa.P Go.Proofs.Ytahgfebdjjfkhaa.Nest Go.Proofs.YtahgfebdjjfkhaaW.PrintWords Go.Proofs.YtahgfebdjjfkhaaW.PrintLast Go.Proofs.YtahgfebdjjfkhaaW.PrintMore
set_option linter.unusedVariables false
set_option linter.unusedSimpArgs false
mutual
def coA : S25 → S25
  | ⟨s, c⟩ => ⟨s, coCs c⟩
def coCs : List S43 → List S43
  | [] => []
  | x :: xs => coC x :: coCs xs
def coC : S43 → S43
  | ⟨k, n, b⟩ => ⟨k, n, coB b⟩
def coB : List S25 → List S25
  | [] => []
  | x :: _ => [coA x]
end
theorem etaC (x : S43) : (⟨x.f0, x.f1, x.f2⟩ : S43) = x := by cases x; rfl
theorem etaA (x : S25) : (⟨x.f0, x.f1⟩ : S25) = x := by cases x; rfl
mutual
theorem cp_evA : ∀ (a : S25), okA a → ∃ K, ∀ k, K ≤ k → arr_Copy.f k a.f0 a.f1 = some ((coA a).f0, (coA a).f1)
  | ⟨s, c⟩, h => by
    rw [okA] at h
    obtain ⟨⟨hs, _⟩, hc, hcs⟩ := h
    obtain ⟨K, hK⟩ := cp_evCs c [] s [] hcs (by simpa using hc) rfl
    refine ⟨K + 1, fun k hk => ?_⟩
    obtain ⟨k, rfl, hk2⟩ := succ_of hk
    unfold reachBytes at hs
    simp only [arr_Copy.f]
    rw [if_pos (by simp; omega), coA]
    simpa using hK k hk2
theorem cp_evCs : ∀ (rest done : List S43) (s : List Int) (out : List S43), okCs rest → (done ++ rest).length * 40 ≤ reachBytes → out.length = done.length →
    ∃ K, ∀ k, K ≤ k → arr_Copy.l0 k (done ++ rest) ((done ++ rest).length : Int) (done.length : Int) s out = some (s, out ++ coCs rest)
  | [], done, s, out, h, hl, ho => by
    refine ⟨1, fun k hk => ?_⟩
    obtain ⟨k, rfl, _⟩ := succ_of (K := 0) hk
    simp only [arr_Copy.l0]
    rw [if_neg (by simp), coCs, List.append_nil]
  | x :: rest, done, s, out, h, hl, ho => by
    rw [okCs] at h
    have hl' := hl
    unfold reachBytes at hl'
    rw [List.length_append, List.length_cons] at hl'
    have hs : done ++ x :: rest = (done ++ [x]) ++ rest := by simp
    have hw : wrap64 ((done.length : Int) + 1) = ((done ++ [x]).length : Int) := wrap_next done x (by omega)
    obtain ⟨K0, hK0⟩ := cp_evC x h.1
    obtain ⟨K, hK⟩ := cp_evCs rest (done ++ [x]) s (out ++ [coC x]) h.2 (by rw [← hs]; exact hl) (by simp [ho])
    refine ⟨K0 + K + 1, fun k hk => ?_⟩
    obtain ⟨k, rfl, hk2⟩ := succ_of hk
    have h5 := hK k (by omega)
    simp only [arr_Copy.l0]
    rw [if_pos (by rw [List.length_append, List.length_cons]; omega), if_pos (by omega), if_pos (by rw [List.length_append, List.length_cons]; omega), rdC_mid, hK0 k (by omega)]
    simp only [Option.bind_some]
    rw [if_pos (by omega), hw, hs, coCs, etaC]
    simpa using h5
theorem cp_evC : ∀ (x : S43), okC x → ∃ K, ∀ k, K ≤ k → arr_copied.f k x.f0 x.f1 x.f2 = some ((coC x).f0, (coC x).f1, (coC x).f2)
  | ⟨kk, nn, []⟩, h => by
    refine ⟨1, fun k hk => ?_⟩
    obtain ⟨k, rfl, _⟩ := succ_of (K := 0) hk
    simp only [arr_copied.f]
    rw [if_neg (by simp), coC, coB]
  | ⟨kk, nn, x :: xs⟩, h => by
    rw [okC, okAs] at h
    obtain ⟨K, hK⟩ := cp_evA x h.2.2.2.1
    refine ⟨K + 1, fun k hk => ?_⟩
    obtain ⟨k, rfl, hk2⟩ := succ_of hk
    simp only [arr_copied.f]
    rw [if_pos (by rw [List.length_cons]; omega), if_pos (by rw [List.length_cons]; omega), rdA_zero, hK k hk2, coC, coB]
    simp only [Option.bind_some, etaA]
end
theorem copy_eq (a : S25) (h : okA a) : ∃ K, ∀ k, K ≤ k → arr_Copy.f k a.f0 a.f1 = some ((coA a).f0, (coA a).f1) := cp_evA a h
end Go.Proofs.Ytahgfebdjjfkhaa.Pure
