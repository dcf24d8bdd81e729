/- Written by a program of this session: the law ShowRows as it is stated, for every input. No condition. -/
import Derived.Test.YtbijepjnbolpiaaNestArr
import Derived.Test.YtbijepjnbolpiaaPx10
namespace Go.Proofs.Ytbijepjnbolpiaa.Pure
open Go.Proofs.Ytbijepjnbolpiaa.P
def ShowRows.Pure : Prop := ∀ (a0 : Int) (l1 : List (List Int)), (Lit.int .u8 a0).wf = true → l1.length * 24 ≤ reachBytes → (∀ y ∈ l1, y.length * 8 ≤ reachBytes ∧ ∀ z ∈ y, (Lit.int .i64 z).wf = true) → ∃ k, P.triglyphlaw27_ShowRows.f k a0 l1 = some true
end Go.Proofs.Ytbijepjnbolpiaa.Pure
