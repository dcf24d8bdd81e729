/- What goes cell by cell: one cell, two cells, lists of them: plain facts about lists. -/
import Derived.Test.YtemlommdfmeabaaArr3
import Derived.Test.YtemlommdfmeabaaNum1
namespace Go.Proofs.Ytemlommdfmeabaa.Pure
open Go.RowKit Go.Proofs.Ytemlommdfmeabaa.P Go.Proofs.Ytemlommdfmeabaa.Nest Go.Proofs.YtemlommdfmeabaaW.PrintWords Go.Proofs.YtemlommdfmeabaaW.PrintLast Go.Proofs.YtemlommdfmeabaaW.PrintMore
set_option linter.unusedVariables false
set_option linter.unusedSimpArgs false
theorem wf_of {x : Int} (h : I64 x) : (Lit.int .i64 x).wf = true := by
  have e1 : IntKind.i64.min = -9223372036854775808 := by decide
  have e2 : IntKind.i64.max = 9223372036854775807 := by decide
  unfold I64 at h
  simp [Lit.wf]
  omega
theorem fit_i64 (x : Int) : I64 (fit x).1 := by
  unfold fit I64
  split
  · exact ⟨by decide, by decide⟩
  · simp only; omega
def truthS (b : Bool) : Int := if b = true then 1 else 0
def calS (op a b : Int) : Int × Int :=
  if op = 21 then fit (a + b) else if op = 22 then fit (a - b) else if op = 23 then fit (pr [a, b]) else if op = 24 then ((if b < a then b else a), 0) else if op = 25 then ((if a < b then b else a), 0)
  else if op = 26 then (res a b, 0) else if op = 29 then (truthS (decide (a < b)), 0) else if op = 30 then (truthS (decide (b < a)), 0) else if op = 31 then (truthS (decide (a ≤ b)), 0) else (truthS (decide (b ≤ a)), 0)
def celS (op : Int) (a b : S35) : Int × Int :=
  if op < 21 ∨ 32 < op then (0, 1) else if op = 27 ∨ op = 28 then (if a.f0 = 2 ∨ b.f0 = 2 then (0, 5) else (truthS (decide (a.f0 = b.f0 ∧ a.f1 = b.f1) == decide (op = 27)), 0))
  else if a.f0 ≠ 0 ∨ b.f0 ≠ 0 then (0, 5) else calS op a.f1 b.f1
theorem res_i64 {a b : Int} (ha : I64 a) (hb : I64 b) : I64 (res a b) := by
  unfold res
  by_cases h0 : a = 0
  · rw [if_pos h0]; exact hb
  rw [if_neg h0]
  by_cases h1 : a = -1 ∨ a = 1
  · rw [if_pos h1]; exact ⟨by decide, by decide⟩
  rw [if_neg h1]
  obtain ⟨t1, t2⟩ := tmod_bd (b := b) h0
  obtain ⟨a1, a2⟩ := ha
  have hab : Int.tmod b a < 9223372036854775808 ∧ -9223372036854775808 < Int.tmod b a := by
    rcases Int.lt_or_gt_of_ne h0 with h | h
    · have := t2 h; omega
    · have := t1 h; omega
  simp only
  unfold I64
  split
  · rename_i c
    rcases c with ⟨c1, c2⟩ | ⟨c1, c2⟩
    · have := t1 c2; omega
    · have := t2 c2; omega
  · omega
theorem truthS_i64 (b : Bool) : I64 (truthS b) := by cases b <;> exact ⟨by decide, by decide⟩
theorem calS_i64 {op a b : Int} (ha : I64 a) (hb : I64 b) : I64 (calS op a b).1 := by
  unfold calS
  repeat' split
  all_goals first | exact fit_i64 _ | exact ha | exact hb | exact res_i64 ha hb | exact truthS_i64 _
theorem celS_i64 {op : Int} {a b : S35} (ha : I64 a.f1) (hb : I64 b.f1) : I64 (celS op a b).1 := by
  have h0 : I64 0 := ⟨by decide, by decide⟩
  unfold celS
  repeat' split
  all_goals first | exact h0 | exact truthS_i64 _ | exact calS_i64 ha hb
def numC (n : Int) : S35 := ⟨0, n, []⟩
def runC (g : Nat → Int × Int) : Nat → Nat → List S35 × Int
  | _, 0 => ([], 0)
  | i, m + 1 => if (g i).2 = 0 then (if (runC g (i + 1) m).2 = 0 then (numC (g i).1 :: (runC g (i + 1) m).1, 0) else ([], (runC g (i + 1) m).2)) else ([], (g i).2)
theorem runC_congr {g g' : Nat → Int × Int} : ∀ (m i : Nat), (∀ j, i ≤ j → j < i + m → g j = g' j) → runC g i m = runC g' i m
  | 0, i, _ => by rw [runC, runC]
  | m + 1, i, h => by rw [runC, runC, h i (by omega) (by omega), runC_congr m (i + 1) (fun j h1 h2 => h j (by omega) (by omega))]
/-- What comes of an array: with what was made so far. -/
def outC (acc : List S35) (s : List Int) (r : List S35 × Int) : S25 × Int := if r.2 = 0 then (⟨s, acc ++ r.1⟩, 0) else (⟨[], []⟩, r.2)
theorem outC_nil (acc : List S35) (s : List Int) : outC acc s ([], 0) = (⟨s, acc⟩, 0) := by simp [outC]
theorem outC_stop {acc : List S35} {s : List Int} {g : Nat → Int × Int} {i m : Nat} (h : (g i).2 ≠ 0) : outC acc s (runC g i (m + 1)) = (⟨[], []⟩, (g i).2) := by
  rw [runC, if_neg h, outC, if_neg h]
theorem outC_step {acc : List S35} {s : List Int} {g : Nat → Int × Int} {i m : Nat} (h : (g i).2 = 0) : outC acc s (runC g i (m + 1)) = outC (acc ++ [numC (g i).1]) s (runC g (i + 1) m) := by
  rw [runC, if_pos h]
  unfold outC
  by_cases c : (runC g (i + 1) m).2 = 0
  · rw [if_pos c, if_pos rfl, if_pos c]; simp
  · rw [if_neg c, if_neg c, if_neg c]
theorem runC_len {g : Nat → Int × Int} : ∀ (m i : Nat), (runC g i m).1.length ≤ m
  | 0, i => by simp [runC]
  | m + 1, i => by
    have := runC_len (g := g) m (i + 1)
    rw [runC]
    repeat' split
    all_goals simp
    omega
theorem runC_ok {g : Nat → Int × Int} : ∀ (m i : Nat), (∀ j, i ≤ j → j < i + m → I64 (g j).1) → okCs (runC g i m).1
  | 0, i, _ => by simp [runC, okCs]
  | m + 1, i, h => by
    have h1 := runC_ok (g := g) m (i + 1) (fun j a b => h j (by omega) (by omega))
    rw [runC]
    repeat' split
    · simp only
      rw [okCs, numC, okC]
      exact ⟨⟨by rfl, wf_of (h i (by omega) (by omega)), by simp, by simp [okAs]⟩, h1⟩
    all_goals simp [okCs]
theorem outC_ok {s : List Int} {g : Nat → Int × Int} {m : Nat} (hs : s.length * 8 ≤ reachBytes) (hw : ∀ y ∈ s, (Lit.int .i64 y).wf = true) (hm : m * 40 ≤ reachBytes) (h : ∀ j, j < m → I64 (g j).1) : okA (outC [] s (runC g 0 m)).1 := by
  have h1 := runC_len (g := g) m 0
  unfold outC
  split
  · simp only [List.nil_append]
    rw [okA]
    exact ⟨⟨hs, hw⟩, by omega, runC_ok m 0 (fun j _ b => h j (by omega))⟩
  · simp only
    rw [okA]
    exact ⟨⟨by simp, by simp⟩, by simp, by simp [okCs]⟩
def agS (s t : List Int) : List Int × Int := if s = [] then (t, 0) else if t = [] then (s, 0) else if s.length ≠ t.length then ([], 6) else if s = t then (s, 0) else ([], 7)
/-- The cell of an array that stands beside the other's cell i. -/
def besC (a : S25) (i : Nat) : S35 := if a.f0 = [] then a.f1.getD 0 z35 else a.f1.getD i z35
def cntC (a b : S25) : Nat := if a.f1.length = 0 ∨ b.f1.length = 0 then 0 else max a.f1.length b.f1.length
def zA : S25 := ⟨[], []⟩
/-- A function of two arguments, cell by cell. -/
def dyS (op : Int) (a b : S25) : S25 × Int :=
  if chA a 0 ≠ 0 then (zA, chA a 0) else if chA b 0 ≠ 0 then (zA, chA b 0) else if op = 54 then (zA, 10) else if op < 21 ∨ 32 < op then (zA, 1)
  else if (agS a.f0 b.f0).2 ≠ 0 then (zA, (agS a.f0 b.f0).2) else outC [] (agS a.f0 b.f0).1 (runC (fun i => celS op (besC a i) (besC b i)) 0 (cntC a b))
end Go.Proofs.Ytemlommdfmeabaa.Pure
