/- What goes cell by cell: one cell, two cells, lists of them: plain facts about lists. -/
import Derived.Test.YtahgfebdjjfkhaaArr3
import Derived.Test.YtahgfebdjjfkhaaNum1
namespace Go.Proofs.Ytahgfebdjjfkhaa.Pure
open Go.RowKit Go.Proofs.Ytahgfebdjjfkhaa.P Go.Proofs.Ytahgfebdjjfkhaa.Nest Go.Proofs.YtahgfebdjjfkhaaW.PrintWords Go.Proofs.YtahgfebdjjfkhaaW.PrintLast Go.Proofs.YtahgfebdjjfkhaaW.PrintMore
set_option linter.unusedVariables false
set_option linter.unusedSimpArgs false
theorem wf_of {x : Int} (h : I64 x) : (Lit.int .i64 x).wf = true := by
  have e1 : IntKind.i64.min = -9223372036854775808 := by decide
  have e2 : IntKind.i64.max = 9223372036854775807 := by decide
  unfold I64 at h
  simp [Lit.wf]
  omega
theorem fit_i64 (x : Int) : I64 (fit x).1 := by
  unfold fit I64
  split
  · exact ⟨by decide, by decide⟩
  · simp only; omega
def truthS (b : Bool) : Int := if b = true then 1 else 0
def calS (op a b : Int) : Int × Int :=
  if op = 21 then fit (a + b) else if op = 22 then fit (a - b) else if op = 23 then fit (pr [a, b]) else if op = 24 then ((if b < a then b else a), 0) else if op = 25 then ((if a < b then b else a), 0)
  else if op = 26 then (res a b, 0) else if op = 29 then (truthS (decide (a < b)), 0) else if op = 30 then (truthS (decide (b < a)), 0) else if op = 31 then (truthS (decide (a ≤ b)), 0) else (truthS (decide (b ≤ a)), 0)
def celS (op : Int) (a b : S43) : Int × Int :=
  if op < 21 ∨ 32 < op then (0, 1) else if op = 27 ∨ op = 28 then (if a.f0 = 2 ∨ b.f0 = 2 then (0, 5) else (truthS (decide (a.f0 = b.f0 ∧ a.f1 = b.f1) == decide (op = 27)), 0))
  else if a.f0 ≠ 0 ∨ b.f0 ≠ 0 then (0, 5) else calS op a.f1 b.f1
theorem res_i64 {a b : Int} (ha : I64 a) (hb : I64 b) : I64 (res a b) := by
  unfold res
  by_cases h0 : a = 0
  · rw [if_pos h0]; exact hb
  rw [if_neg h0]
  by_cases h1 : a = -1 ∨ a = 1
  · rw [if_pos h1]; exact ⟨by decide, by decide⟩
  rw [if_neg h1]
  obtain ⟨t1, t2⟩ := tmod_bd (b := b) h0
  obtain ⟨a1, a2⟩ := ha
  have hab : Int.tmod b a < 9223372036854775808 ∧ -9223372036854775808 < Int.tmod b a := by
    rcases Int.lt_or_gt_of_ne h0 with h | h
    · have := t2 h; omega
    · have := t1 h; omega
  simp only
  unfold I64
  split
  · rename_i c
    rcases c with ⟨c1, c2⟩ | ⟨c1, c2⟩
    · have := t1 c2; omega
    · have := t2 c2; omega
  · omega
theorem truthS_i64 (b : Bool) : I64 (truthS b) := by cases b <;> exact ⟨by decide, by decide⟩
theorem calS_i64 {op a b : Int} (ha : I64 a) (hb : I64 b) : I64 (calS op a b).1 := by
  unfold calS
  repeat' split
  all_goals first | exact fit_i64 _ | exact ha | exact hb | exact res_i64 ha hb | exact truthS_i64 _
theorem celS_i64 {op : Int} {a b : S43} (ha : I64 a.f1) (hb : I64 b.f1) : I64 (celS op a b).1 := by
  have h0 : I64 0 := ⟨by decide, by decide⟩
  unfold celS
  repeat' split
  all_goals first | exact h0 | exact truthS_i64 _ | exact calS_i64 ha hb
def numC (n : Int) : S43 := ⟨0, n, []⟩
end Go.Proofs.Ytahgfebdjjfkhaa.Pure
