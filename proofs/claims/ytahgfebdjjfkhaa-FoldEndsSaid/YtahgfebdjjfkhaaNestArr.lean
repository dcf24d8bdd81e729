/- How an argument of the types api.Arr and api.Cell reads. -/
import Derived.Test.YtahgfebdjjfkhaaNest
namespace Go.Proofs.Ytahgfebdjjfkhaa.Nest
open Go.RowKit Go.WideShapes Go.ChangeShapes Go.Proofs.Ytahgfebdjjfkhaa.P Go.Proofs.YtahgfebdjjfkhaaW.PrintWords Go.Proofs.YtahgfebdjjfkhaaW.PrintLast
set_option linter.unusedVariables false
set_option linter.unusedSimpArgs false
instance : Inhabited S25 := ⟨z25⟩
instance : Inhabited S43 := ⟨z43⟩
mutual
/-- What came in as an array: its numbers fit, its lists are no longer than memory. -/
def okA : S25 → Prop
  | ⟨s, c⟩ => (s.length * 8 ≤ reachBytes ∧ ∀ y ∈ s, (Lit.int .i64 y).wf = true) ∧ c.length * 40 ≤ reachBytes ∧ okCs c
def okCs : List S43 → Prop
  | [] => True
  | x :: xs => okC x ∧ okCs xs
def okC : S43 → Prop
  | ⟨k, n, b⟩ => (Lit.int .i64 k).wf = true ∧ (Lit.int .i64 n).wf = true ∧ b.length * 48 ≤ reachBytes ∧ okAs b
def okAs : List S25 → Prop
  | [] => True
  | x :: xs => okA x ∧ okAs xs
end
theorem okCs_iff : ∀ {l : List S43}, okCs l ↔ ∀ x ∈ l, okC x
  | [] => by simp [okCs]
  | x :: l => by rw [okCs, okCs_iff]; simp
end Go.Proofs.Ytahgfebdjjfkhaa.Nest
