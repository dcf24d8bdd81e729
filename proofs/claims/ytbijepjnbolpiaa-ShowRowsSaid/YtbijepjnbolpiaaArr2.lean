/- How heavy an array is, as the statements reckon it: what the reference's Weight tells, and what follows where it is not too much. -/
import Derived.Test.YtbijepjnbolpiaaArr1
import Derived.Test.YtbijepjnbolpiaaPx1
namespace Go.Proofs.Ytbijepjnbolpiaa.Pure
open Go.RowKit Go.Proofs.Ytbijepjnbolpiaa.P Go.Proofs.Ytbijepjnbolpiaa.Nest Go.Proofs.YtbijepjnbolpiaaW.PrintWords Go.Proofs.YtbijepjnbolpiaaW.PrintLast Go.Proofs.YtbijepjnbolpiaaW.PrintMore
set_option linter.unusedVariables false
set_option linter.unusedSimpArgs false
mutual
def wA : S25 → Int → Nat → Int
  | ⟨s, c⟩, most, deep => wCs c ((c.length : Int) + (s.length : Int)) most deep
def wCs : List S40 → Int → Int → Nat → Int
  | [], n, _, _ => n
  | x :: xs, n, most, deep => if n ≤ most then wCs xs (wC x n most deep) most deep else n
def wC : S40 → Int → Int → Nat → Int
  | ⟨_, _, b⟩, n, most, deep => wB b n most deep
def wB : List S25 → Int → Int → Nat → Int
  | [], n, _, _ => n
  | x :: xs, n, most, deep => if n ≤ most then (match deep with
    | 0 => most + 1
    | d + 1 => wB xs (n + 1 + wA x (most - n) d) most (d + 1)) else n
end
theorem wB_none (n most : Int) (deep : Nat) : wB [] n most deep = n := by rw [wB.eq_def]
theorem wB_cons (x : S25) (xs : List S25) (n most : Int) (deep : Nat) : wB (x :: xs) n most deep = if n ≤ most then (match deep with | 0 => most + 1 | d + 1 => wB xs (n + 1 + wA x (most - n) d) most (d + 1)) else n := by rw [wB.eq_def]
end Go.Proofs.Ytbijepjnbolpiaa.Pure
