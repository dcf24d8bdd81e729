/- atomic.Cell and the reference's: both are celS. -/
import Derived.Test.YtahgfebdjjfkhaaAtom1
import Derived.Test.YtahgfebdjjfkhaaPx14
import Derived.Test.YtahgfebdjjfkhaaPx2
import Derived.Test.YtahgfebdjjfkhaaPx3
import Derived.Test.YtahgfebdjjfkhaaPx4
import Derived.Test.YtahgfebdjjfkhaaPx5
namespace Go.Proofs.Ytahgfebdjjfkhaa.Pure
open Go.RowKit Go.Proofs.Ytahgfebdjjfkhaa.P Go.Proofs.Ytahgfebdjjfkhaa.Nest Go.Proofs.YtahgfebdjjfkhaaW.PrintWords Go.Proofs.YtahgfebdjjfkhaaW.PrintLast Go.Proofs.YtahgfebdjjfkhaaW.PrintMore
set_option linter.unusedVariables false
set_option linter.unusedSimpArgs false
set_option maxHeartbeats 1000000
theorem ais_no {a0 : Int} (h : ¬ (21 ≤ a0 ∧ a0 ≤ 32)) : atomic_Is.f a0 = some false := by
  unfold atomic_Is.f
  by_cases c : a0 ≥ 21
  · rw [if_pos c, decide_eq_false (by omega)]
  · rw [if_neg c]
theorem ais_yes {a0 : Int} (h : 21 ≤ a0 ∧ a0 ≤ 32) : atomic_Is.f a0 = some true := by
  unfold atomic_Is.f
  rw [if_pos (by omega), decide_eq_true h.2]
theorem reckon_eq {op a b : Int} (h : 21 ≤ op ∧ op ≤ 26) (ha : I64 a) (hb : I64 b) {k : Nat} (hk : 4 ≤ k) : atomic_reckon.f k op a b = some (calS op a b) := by
  unfold atomic_reckon.f calS
  by_cases h1 : op = 21
  · rw [if_pos h1, if_pos h1, add_eq ha hb]; rfl
  rw [if_neg h1, if_neg h1]
  by_cases h2 : op = 22
  · rw [if_pos h2, if_pos h2, sub_eq ha hb]; rfl
  rw [if_neg h2, if_neg h2]
  by_cases h3 : op = 23
  · rw [if_pos h3, if_pos h3, mul_eq ha hb hk]; rfl
  rw [if_neg h3, if_neg h3]
  by_cases h4 : op = 24
  · rw [if_pos h4, if_pos h4]; rfl
  rw [if_neg h4, if_neg h4]
  by_cases h5 : op = 25
  · rw [if_pos h5, if_pos h5]; rfl
  rw [if_neg h5, if_neg h5, if_pos (show op = 26 by omega), res_num ha hb]; rfl
theorem acel_eq {op : Int} {x y : S43} (hx : I64 x.f1) (hy : I64 y.f1) {k : Nat} (hk : 8 ≤ k) : atomic_Cell.f k op x.f0 x.f1 x.f2 y.f0 y.f1 y.f2 = some (0, (celS op x y).1, [], (celS op x y).2) := by
  obtain ⟨k, rfl⟩ : ∃ m, k = m + 4 := ⟨k - 4, by omega⟩
  have key : ∀ b, b = decide (op = 27 ∨ op = 28) → atomic_Cell.j0 (k + 4) op b x.f0 x.f1 x.f2 y.f0 y.f1 y.f2 = some (0, (celS op x y).1, [], (celS op x y).2) := by
    intro b hb
    simp only [atomic_Cell.j0]
    by_cases r : 21 ≤ op ∧ op ≤ 32
    · rw [ais_yes r]
      simp only [Option.bind_some]
      first | rw [if_pos True.intro] | rw [if_pos rfl]
      by_cases e : op = 27 ∨ op = 28
      · rw [decide_eq_true e] at hb
        subst hb
        first | rw [if_pos True.intro] | rw [if_pos rfl]
        unfold celS
        rw [if_neg (show ¬ (op < 21 ∨ 32 < op) by omega), if_pos e]
        by_cases a2 : x.f0 = 2
        · rw [if_pos a2, if_pos (Or.inl a2)]
          simp only [atomic_Cell.j1]
          first | rw [if_pos True.intro] | rw [if_pos rfl]
        rw [if_neg a2]
        simp only [atomic_Cell.j1]
        by_cases b2 : y.f0 = 2
        · rw [if_pos (by simp [b2]), if_pos (Or.inr b2)]
        rw [if_neg (by simp [b2]), if_neg (show ¬ (x.f0 = 2 ∨ y.f0 = 2) by omega)]
        first | rw [if_pos True.intro] | rw [if_pos rfl]
        simp only [atomic_Cell.j2]
        by_cases kk : x.f0 = y.f0
        · rw [if_neg (by simp [kk])]
          first | rw [if_pos True.intro] | rw [if_pos rfl]
          simp only [atomic_Cell.j3]
          first | rw [if_neg not_false] | rw [if_neg (by decide)]
          rw [if_pos (show op ≥ 27 by omega)]
          unfold atomic_held.f
          rw [if_pos (show 27 ≤ op ∧ op ≤ 32 by omega)]
          simp only [Option.bind_some]
          unfold atomic_held.v truthS
          rcases e with e | e
          · subst e; by_cases n : x.f1 = y.f1 <;> simp [kk, n]
          · subst e; by_cases n : x.f1 = y.f1 <;> simp [kk, n]
        · rw [if_pos (by simp [kk])]
          unfold atomic_truth.f truthS
          rcases e with e | e
          · subst e; simp [kk]
          · subst e; simp [kk]
      · rw [decide_eq_false e] at hb
        subst hb
        first | rw [if_neg not_false] | rw [if_neg (by decide)]
        simp only [atomic_Cell.j1]
        first | rw [if_neg not_false] | rw [if_neg (by decide)]
        first | rw [if_neg not_false] | rw [if_neg (by decide)]
        simp only [atomic_Cell.j2]
        first | rw [if_neg not_false] | rw [if_neg (by decide)]
        first | rw [if_neg not_false] | rw [if_neg (by decide)]
        unfold celS
        rw [if_neg (show ¬ (op < 21 ∨ 32 < op) by omega), if_neg e]
        by_cases a0 : x.f0 = 0
        · rw [if_pos a0]
          simp only [atomic_Cell.j3]
          by_cases b0 : y.f0 = 0
          · rw [if_neg (by simp [b0]), if_neg (show ¬ (x.f0 ≠ 0 ∨ y.f0 ≠ 0) by omega)]
            by_cases g : op ≥ 27
            · rw [if_pos g]
              unfold atomic_held.f
              rw [if_pos (show 27 ≤ op ∧ op ≤ 32 by omega)]
              simp only [Option.bind_some]
              unfold atomic_held.v calS truthS
              rw [if_neg (show ¬ op = 21 by omega), if_neg (show ¬ op = 22 by omega), if_neg (show ¬ op = 23 by omega), if_neg (show ¬ op = 24 by omega), if_neg (show ¬ op = 25 by omega), if_neg (show ¬ op = 26 by omega)]
              by_cases o1 : op = 29
              · simp [o1]
              by_cases o2 : op = 30
              · simp [o2]
              by_cases o3 : op = 31
              · simp [o3]
              have o4 : op = 32 := by omega
              simp [o4]
            · rw [if_neg g, reckon_eq (by omega) hx hy (by omega)]
              rfl
          · rw [if_pos (by simp [b0]), if_pos (Or.inr b0)]
        · rw [if_neg a0]
          simp only [atomic_Cell.j3]
          first | rw [if_pos True.intro] | rw [if_pos rfl]
          rw [if_pos (Or.inl a0)]
    · rw [ais_no r]
      simp only [Option.bind_some]
      first | rw [if_neg not_false] | rw [if_neg (by decide)]
      unfold celS
      rw [if_pos (show op < 21 ∨ 32 < op by omega)]
  unfold atomic_Cell.f
  by_cases c : op = 27
  · rw [if_pos c]; exact key true (by simp [c])
  · rw [if_neg c]
    refine key _ ?_
    by_cases d : op = 28 <;> simp [c, d]
theorem rcel_eq {op : Int} {x y : S43} (hx : I64 x.f1) (hy : I64 y.f1) {k : Nat} (hk : 8 ≤ k) : triglyphref04_Cell.f k op x.f0 x.f1 x.f2 y.f0 y.f1 y.f2 = some (0, (celS op x y).1, [], (celS op x y).2) := by
  unfold triglyphref04_Cell.f celS
  by_cases r : op < 21 ∨ 32 < op
  · rw [if_pos r, if_pos r]
  rw [if_neg r, if_neg r]
  by_cases e : op = 27 ∨ op = 28
  · rw [if_pos e, if_pos e]
    by_cases a2 : x.f0 = 2
    · rw [if_pos a2, if_pos (Or.inl a2)]
    rw [if_neg a2]
    by_cases b2 : y.f0 = 2
    · rw [if_pos b2, if_pos (Or.inr b2)]
    rw [if_neg b2, if_neg (show ¬ (x.f0 = 2 ∨ y.f0 = 2) by omega)]
    unfold truthS
    by_cases kk : x.f0 = y.f0 <;> by_cases n : x.f1 = y.f1 <;> rcases e with e | e <;> subst e <;> simp [kk, n]
  rw [if_neg e, if_neg e]
  by_cases a0 : x.f0 = 0
  · rw [if_neg (not_not_intro a0)]
    by_cases b0 : y.f0 = 0
    · rw [if_neg (not_not_intro b0), if_neg (show ¬ (x.f0 ≠ 0 ∨ y.f0 ≠ 0) by omega)]
      unfold calS
      by_cases h1 : op = 21
      · rw [if_pos h1, if_pos h1, refadd_eq hx hy (by omega)]; rfl
      rw [if_neg h1, if_neg h1]
      by_cases h2 : op = 22
      · rw [if_pos h2, if_pos h2, refsub_eq hx hy (by omega)]; rfl
      rw [if_neg h2, if_neg h2]
      by_cases h3 : op = 23
      · rw [if_pos h3, if_pos h3, refmul_eq hx hy (by omega)]; rfl
      rw [if_neg h3, if_neg h3]
      by_cases h6 : op = 26
      · rw [if_pos h6, if_neg (show ¬ op = 24 by omega), if_neg (show ¬ op = 25 by omega), if_pos h6, res_ref hx hy (by omega)]; rfl
      rw [if_neg h6]
      by_cases h4 : op = 24
      · rw [if_pos h4, if_pos h4]
      rw [if_neg h4, if_neg h4]
      by_cases h5 : op = 25
      · rw [if_pos h5, if_pos h5]
      rw [if_neg h5, if_neg h5, if_neg h6]
      unfold truthS
      by_cases o1 : op = 29
      · simp [o1]
      by_cases o2 : op = 30
      · simp [o2]
      by_cases o3 : op = 31
      · subst o3
        by_cases l : y.f1 < x.f1
        · simp [l]
        · simp [l, Int.not_lt.1 l]
      have o4 : op = 32 := by omega
      subst o4
      by_cases l : x.f1 < y.f1
      · simp [l]
      · simp [l, Int.not_lt.1 l]
    · rw [if_pos b0, if_pos (Or.inr b0)]
  · rw [if_pos a0, if_pos (Or.inl a0)]
end Go.Proofs.Ytahgfebdjjfkhaa.Pure
