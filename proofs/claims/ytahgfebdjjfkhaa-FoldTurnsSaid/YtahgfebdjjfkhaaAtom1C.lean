/- What goes cell by cell: one cell, two cells, lists of them: plain facts about lists. -/
import Derived.Test.YtahgfebdjjfkhaaArr3
import Derived.Test.YtahgfebdjjfkhaaNum1
import Derived.Test.YtahgfebdjjfkhaaPx3
import Derived.Test.YtahgfebdjjfkhaaPx4
import Derived.Test.YtahgfebdjjfkhaaPx5
import Derived.Test.YtahgfebdjjfkhaaPx6
namespace Go.Proofs.Ytahgfebdjjfkhaa.Pure
open Go.RowKit Go.Proofs.Ytahgfebdjjfkhaa.P Go.Proofs.Ytahgfebdjjfkhaa.Nest Go.Proofs.YtahgfebdjjfkhaaW.PrintWords Go.Proofs.YtahgfebdjjfkhaaW.PrintLast Go.Proofs.YtahgfebdjjfkhaaW.PrintMore
set_option linter.unusedVariables false
set_option linter.unusedSimpArgs false
theorem wf_of {x : Int} (h : I64 x) : (Lit.int .i64 x).wf = true := by
  have e1 : IntKind.i64.min = -9223372036854775808 := by decide
  have e2 : IntKind.i64.max = 9223372036854775807 := by decide
  unfold I64 at h
  simp [Lit.wf]
  omega
theorem fit_i64 (x : Int) : I64 (fit x).1 := by
  unfold fit I64
  split
  · exact ⟨by decide, by decide⟩
  · simp only; omega
def truthS (b : Bool) : Int := if b = true then 1 else 0
def calS (op a b : Int) : Int × Int :=
  if op = 21 then fit (a + b) else if op = 22 then fit (a - b) else if op = 23 then fit (pr [a, b]) else if op = 24 then ((if b < a then b else a), 0) else if op = 25 then ((if a < b then b else a), 0)
  else if op = 26 then (res a b, 0) else if op = 29 then (truthS (decide (a < b)), 0) else if op = 30 then (truthS (decide (b < a)), 0) else if op = 31 then (truthS (decide (a ≤ b)), 0) else (truthS (decide (b ≤ a)), 0)
def celS (op : Int) (a b : S43) : Int × Int :=
  if op < 21 ∨ 32 < op then (0, 1) else if op = 27 ∨ op = 28 then (if a.f0 = 2 ∨ b.f0 = 2 then (0, 5) else (truthS (decide (a.f0 = b.f0 ∧ a.f1 = b.f1) == decide (op = 27)), 0))
  else if a.f0 ≠ 0 ∨ b.f0 ≠ 0 then (0, 5) else calS op a.f1 b.f1
theorem res_i64 {a b : Int} (ha : I64 a) (hb : I64 b) : I64 (res a b) := by
  unfold res
  by_cases h0 : a = 0
  · rw [if_pos h0]; exact hb
  rw [if_neg h0]
  by_cases h1 : a = -1 ∨ a = 1
  · rw [if_pos h1]; exact ⟨by decide, by decide⟩
  rw [if_neg h1]
  obtain ⟨t1, t2⟩ := tmod_bd (b := b) h0
  obtain ⟨a1, a2⟩ := ha
  have hab : Int.tmod b a < 9223372036854775808 ∧ -9223372036854775808 < Int.tmod b a := by
    rcases Int.lt_or_gt_of_ne h0 with h | h
    · have := t2 h; omega
    · have := t1 h; omega
  simp only
  unfold I64
  split
  · rename_i c
    rcases c with ⟨c1, c2⟩ | ⟨c1, c2⟩
    · have := t1 c2; omega
    · have := t2 c2; omega
  · omega
theorem truthS_i64 (b : Bool) : I64 (truthS b) := by cases b <;> exact ⟨by decide, by decide⟩
theorem calS_i64 {op a b : Int} (ha : I64 a) (hb : I64 b) : I64 (calS op a b).1 := by
  unfold calS
  repeat' split
  all_goals first | exact fit_i64 _ | exact ha | exact hb | exact res_i64 ha hb | exact truthS_i64 _
theorem celS_i64 {op : Int} {a b : S43} (ha : I64 a.f1) (hb : I64 b.f1) : I64 (celS op a b).1 := by
  have h0 : I64 0 := ⟨by decide, by decide⟩
  unfold celS
  repeat' split
  all_goals first | exact h0 | exact truthS_i64 _ | exact calS_i64 ha hb
def numC (n : Int) : S43 := ⟨0, n, []⟩
end Go.Proofs.Ytahgfebdjjfkhaa.Pure
namespace Go.Proofs.Ytahgfebdjjfkhaa.Pure
open Go.RowKit Go.Proofs.Ytahgfebdjjfkhaa.P Go.Proofs.Ytahgfebdjjfkhaa.Nest Go.Proofs.YtahgfebdjjfkhaaW.PrintWords Go.Proofs.YtahgfebdjjfkhaaW.PrintLast Go.Proofs.YtahgfebdjjfkhaaW.PrintMore
set_option linter.unusedVariables false
set_option linter.unusedSimpArgs false
set_option maxHeartbeats 1000000
theorem ais_no {a0 : Int} (h : ¬ (21 ≤ a0 ∧ a0 ≤ 32)) : atomic_Is.f a0 = some false := by
  unfold atomic_Is.f
  by_cases c : a0 ≥ 21
  · rw [if_pos c, decide_eq_false (by omega)]
  · rw [if_neg c]
theorem ais_yes {a0 : Int} (h : 21 ≤ a0 ∧ a0 ≤ 32) : atomic_Is.f a0 = some true := by
  unfold atomic_Is.f
  rw [if_pos (by omega), decide_eq_true h.2]
theorem reckon_eq {op a b : Int} (h : 21 ≤ op ∧ op ≤ 26) (ha : I64 a) (hb : I64 b) {k : Nat} (hk : 4 ≤ k) : atomic_reckon.f k op a b = some (calS op a b) := by
  unfold atomic_reckon.f calS
  by_cases h1 : op = 21
  · rw [if_pos h1, if_pos h1, add_eq ha hb]; rfl
  rw [if_neg h1, if_neg h1]
  by_cases h2 : op = 22
  · rw [if_pos h2, if_pos h2, sub_eq ha hb]; rfl
  rw [if_neg h2, if_neg h2]
  by_cases h3 : op = 23
  · rw [if_pos h3, if_pos h3, mul_eq ha hb hk]; rfl
  rw [if_neg h3, if_neg h3]
  by_cases h4 : op = 24
  · rw [if_pos h4, if_pos h4]; rfl
  rw [if_neg h4, if_neg h4]
  by_cases h5 : op = 25
  · rw [if_pos h5, if_pos h5]; rfl
  rw [if_neg h5, if_neg h5, if_pos (show op = 26 by omega), res_num ha hb]; rfl
theorem acel_eq {op : Int} {x y : S43} (hx : I64 x.f1) (hy : I64 y.f1) {k : Nat} (hk : 8 ≤ k) : atomic_Cell.f k op x.f0 x.f1 x.f2 y.f0 y.f1 y.f2 = some (0, (celS op x y).1, [], (celS op x y).2) := by
  obtain ⟨k, rfl⟩ : ∃ m, k = m + 4 := ⟨k - 4, by omega⟩
  have key : ∀ b, b = decide (op = 27 ∨ op = 28) → atomic_Cell.j0 (k + 4) op b x.f0 x.f1 x.f2 y.f0 y.f1 y.f2 = some (0, (celS op x y).1, [], (celS op x y).2) := by
    intro b hb
    simp only [atomic_Cell.j0]
    by_cases r : 21 ≤ op ∧ op ≤ 32
    · rw [ais_yes r]
      simp only [Option.bind_some]
      first | rw [if_pos True.intro] | rw [if_pos rfl]
      by_cases e : op = 27 ∨ op = 28
      · rw [decide_eq_true e] at hb
        subst hb
        first | rw [if_pos True.intro] | rw [if_pos rfl]
        unfold celS
        rw [if_neg (show ¬ (op < 21 ∨ 32 < op) by omega), if_pos e]
        by_cases a2 : x.f0 = 2
        · rw [if_pos a2, if_pos (Or.inl a2)]
          simp only [atomic_Cell.j1]
          first | rw [if_pos True.intro] | rw [if_pos rfl]
        rw [if_neg a2]
        simp only [atomic_Cell.j1]
        by_cases b2 : y.f0 = 2
        · rw [if_pos (by simp [b2]), if_pos (Or.inr b2)]
        rw [if_neg (by simp [b2]), if_neg (show ¬ (x.f0 = 2 ∨ y.f0 = 2) by omega)]
        first | rw [if_pos True.intro] | rw [if_pos rfl]
        simp only [atomic_Cell.j2]
        by_cases kk : x.f0 = y.f0
        · rw [if_neg (by simp [kk])]
          first | rw [if_pos True.intro] | rw [if_pos rfl]
          simp only [atomic_Cell.j3]
          first | rw [if_neg not_false] | rw [if_neg (by decide)]
          rw [if_pos (show op ≥ 27 by omega)]
          unfold atomic_held.f
          rw [if_pos (show 27 ≤ op ∧ op ≤ 32 by omega)]
          simp only [Option.bind_some]
          unfold atomic_held.v truthS
          rcases e with e | e
          · subst e; by_cases n : x.f1 = y.f1 <;> simp [kk, n]
          · subst e; by_cases n : x.f1 = y.f1 <;> simp [kk, n]
        · rw [if_pos (by simp [kk])]
          unfold atomic_truth.f truthS
          rcases e with e | e
          · subst e; simp [kk]
          · subst e; simp [kk]
      · rw [decide_eq_false e] at hb
        subst hb
        first | rw [if_neg not_false] | rw [if_neg (by decide)]
        simp only [atomic_Cell.j1]
        first | rw [if_neg not_false] | rw [if_neg (by decide)]
        first | rw [if_neg not_false] | rw [if_neg (by decide)]
        simp only [atomic_Cell.j2]
        first | rw [if_neg not_false] | rw [if_neg (by decide)]
        first | rw [if_neg not_false] | rw [if_neg (by decide)]
        unfold celS
        rw [if_neg (show ¬ (op < 21 ∨ 32 < op) by omega), if_neg e]
        by_cases a0 : x.f0 = 0
        · rw [if_pos a0]
          simp only [atomic_Cell.j3]
          by_cases b0 : y.f0 = 0
          · rw [if_neg (by simp [b0]), if_neg (show ¬ (x.f0 ≠ 0 ∨ y.f0 ≠ 0) by omega)]
            by_cases g : op ≥ 27
            · rw [if_pos g]
              unfold atomic_held.f
              rw [if_pos (show 27 ≤ op ∧ op ≤ 32 by omega)]
              simp only [Option.bind_some]
              unfold atomic_held.v calS truthS
              rw [if_neg (show ¬ op = 21 by omega), if_neg (show ¬ op = 22 by omega), if_neg (show ¬ op = 23 by omega), if_neg (show ¬ op = 24 by omega), if_neg (show ¬ op = 25 by omega), if_neg (show ¬ op = 26 by omega)]
              by_cases o1 : op = 29
              · simp [o1]
              by_cases o2 : op = 30
              · simp [o2]
              by_cases o3 : op = 31
              · simp [o3]
              have o4 : op = 32 := by omega
              simp [o4]
            · rw [if_neg g, reckon_eq (by omega) hx hy (by omega)]
              rfl
          · rw [if_pos (by simp [b0]), if_pos (Or.inr b0)]
        · rw [if_neg a0]
          simp only [atomic_Cell.j3]
          first | rw [if_pos True.intro] | rw [if_pos rfl]
          rw [if_pos (Or.inl a0)]
    · rw [ais_no r]
      simp only [Option.bind_some]
      first | rw [if_neg not_false] | rw [if_neg (by decide)]
      unfold celS
      rw [if_pos (show op < 21 ∨ 32 < op by omega)]
  unfold atomic_Cell.f
  by_cases c : op = 27
  · rw [if_pos c]; exact key true (by simp [c])
  · rw [if_neg c]
    refine key _ ?_
    by_cases d : op = 28 <;> simp [c, d]
end Go.Proofs.Ytahgfebdjjfkhaa.Pure
