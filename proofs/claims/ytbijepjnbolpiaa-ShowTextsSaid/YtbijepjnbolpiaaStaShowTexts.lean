/- Written by a program of this session: the law ShowTexts as it is stated, for every input. No condition. -/
import Derived.Test.YtbijepjnbolpiaaNestArr
import Derived.Test.YtbijepjnbolpiaaPx10
namespace Go.Proofs.Ytbijepjnbolpiaa.Pure
open Go.Proofs.Ytbijepjnbolpiaa.P
def ShowTexts.Pure : Prop := ∀ (a0 : Int) (l1_0 : List Int) (l1_1 : List S40), (Lit.int .i64 a0).wf = true → Nest.okA ⟨l1_0, l1_1⟩ → ∃ k, P.triglyphlaw27_ShowTexts.f k a0 l1_0 l1_1 = some true
end Go.Proofs.Ytbijepjnbolpiaa.Pure
