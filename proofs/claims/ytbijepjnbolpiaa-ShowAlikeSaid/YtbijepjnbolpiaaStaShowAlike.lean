/- Written by a program of this session: the law ShowAlike as it is stated, for every input. No condition. -/
import Derived.Test.YtbijepjnbolpiaaNestArr
import Derived.Test.YtbijepjnbolpiaaPx11
namespace Go.Proofs.Ytbijepjnbolpiaa.Pure
open Go.Proofs.Ytbijepjnbolpiaa.P
def ShowAlike.Pure : Prop := ∀ (l0_0 : List Int) (l0_1 : List S40), Nest.okA ⟨l0_0, l0_1⟩ → ∃ k, P.triglyphlaw27_ShowAlike.f k l0_0 l0_1 = some true
end Go.Proofs.Ytbijepjnbolpiaa.Pure
