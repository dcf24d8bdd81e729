/- What goes cell by cell: one cell, two cells, lists of them: plain facts about lists. -/
import Derived.Test.YtemlommdfmeabaaArr3
import Derived.Test.YtemlommdfmeabaaNum1
namespace Go.Proofs.Ytemlommdfmeabaa.Pure
open Go.RowKit Go.Proofs.Ytemlommdfmeabaa.P Go.Proofs.Ytemlommdfmeabaa.Nest Go.Proofs.YtemlommdfmeabaaW.PrintWords Go.Proofs.YtemlommdfmeabaaW.PrintLast Go.Proofs.YtemlommdfmeabaaW.PrintMore
set_option linter.unusedVariables false
set_option linter.unusedSimpArgs false
theorem wf_of {x : Int} (h : I64 x) : (Lit.int .i64 x).wf = true := by
  have e1 : IntKind.i64.min = -9223372036854775808 := by decide
  have e2 : IntKind.i64.max = 9223372036854775807 := by decide
  unfold I64 at h
  simp [Lit.wf]
  omega
theorem fit_i64 (x : Int) : I64 (fit x).1 := by
  unfold fit I64
  split
  · exact ⟨by decide, by decide⟩
  · simp only; omega
def oneS (op n : Int) : Int × Int := if op = 1 then fit (0 - n) else if op = 2 then (sgnS n, 0) else if op = 3 then (if n < 0 then fit (0 - n) else (n, 0)) else if n = 0 then (1, 0) else if n = 1 then (0, 0) else (0, 5)
theorem oneS_i64 {op n : Int} (h : I64 n) : I64 (oneS op n).1 := by
  have h0 : I64 0 := ⟨by decide, by decide⟩
  have h1 : I64 1 := ⟨by decide, by decide⟩
  unfold oneS
  split
  · exact fit_i64 _
  split
  · unfold sgnS I64; simp only; split
    · omega
    split <;> omega
  split
  · split
    · exact fit_i64 _
    · exact h
  split
  · exact h1
  split <;> exact h0
def numC (n : Int) : S35 := ⟨0, n, []⟩
def runC (g : Nat → Int × Int) : Nat → Nat → List S35 × Int
  | _, 0 => ([], 0)
  | i, m + 1 => if (g i).2 = 0 then (if (runC g (i + 1) m).2 = 0 then (numC (g i).1 :: (runC g (i + 1) m).1, 0) else ([], (runC g (i + 1) m).2)) else ([], (g i).2)
/-- What comes of an array: with what was made so far. -/
def outC (acc : List S35) (s : List Int) (r : List S35 × Int) : S25 × Int := if r.2 = 0 then (⟨s, acc ++ r.1⟩, 0) else (⟨[], []⟩, r.2)
theorem outC_nil (acc : List S35) (s : List Int) : outC acc s ([], 0) = (⟨s, acc⟩, 0) := by simp [outC]
theorem outC_stop {acc : List S35} {s : List Int} {g : Nat → Int × Int} {i m : Nat} (h : (g i).2 ≠ 0) : outC acc s (runC g i (m + 1)) = (⟨[], []⟩, (g i).2) := by
  rw [runC, if_neg h, outC, if_neg h]
theorem outC_step {acc : List S35} {s : List Int} {g : Nat → Int × Int} {i m : Nat} (h : (g i).2 = 0) : outC acc s (runC g i (m + 1)) = outC (acc ++ [numC (g i).1]) s (runC g (i + 1) m) := by
  rw [runC, if_pos h]
  unfold outC
  by_cases c : (runC g (i + 1) m).2 = 0
  · rw [if_pos c, if_pos rfl, if_pos c]; simp
  · rw [if_neg c, if_neg c, if_neg c]
theorem runC_len {g : Nat → Int × Int} : ∀ (m i : Nat), (runC g i m).1.length ≤ m
  | 0, i => by simp [runC]
  | m + 1, i => by
    have := runC_len (g := g) m (i + 1)
    rw [runC]
    repeat' split
    all_goals simp
    omega
theorem runC_ok {g : Nat → Int × Int} : ∀ (m i : Nat), (∀ j, i ≤ j → j < i + m → I64 (g j).1) → okCs (runC g i m).1
  | 0, i, _ => by simp [runC, okCs]
  | m + 1, i, h => by
    have h1 := runC_ok (g := g) m (i + 1) (fun j a b => h j (by omega) (by omega))
    rw [runC]
    repeat' split
    · simp only
      rw [okCs, numC, okC]
      exact ⟨⟨by rfl, wf_of (h i (by omega) (by omega)), by simp, by simp [okAs]⟩, h1⟩
    all_goals simp [okCs]
theorem outC_ok {s : List Int} {g : Nat → Int × Int} {m : Nat} (hs : s.length * 8 ≤ reachBytes) (hw : ∀ y ∈ s, (Lit.int .i64 y).wf = true) (hm : m * 40 ≤ reachBytes) (h : ∀ j, j < m → I64 (g j).1) : okA (outC [] s (runC g 0 m)).1 := by
  have h1 := runC_len (g := g) m 0
  unfold outC
  split
  · simp only [List.nil_append]
    rw [okA]
    exact ⟨⟨hs, hw⟩, by omega, runC_ok m 0 (fun j _ b => h j (by omega))⟩
  · simp only
    rw [okA]
    exact ⟨⟨by simp, by simp⟩, by simp, by simp [okCs]⟩
def zA : S25 := ⟨[], []⟩
/-- A function of one argument, cell by cell. -/
def oneC (op : Int) (x : S35) : Int × Int := if x.f0 ≠ 0 then (0, 5) else oneS op x.f1
def moS (op : Int) (a : S25) : S25 × Int :=
  if chA a 0 ≠ 0 then (zA, chA a 0) else if op = 19 then (zA, 10) else if op < 1 ∨ 4 < op then (zA, 1) else outC [] a.f0 (runC (fun i => oneC op (a.f1.getD i z35)) 0 a.f1.length)
end Go.Proofs.Ytemlommdfmeabaa.Pure
