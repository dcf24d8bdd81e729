/- Written by a program of this session: the law LayoutBack as it is stated, for every input. No condition. -/
import Derived.Test.YtiegcghapchimaaNestArr
import Derived.Test.YtiegcghapchimaaPx15
namespace Go.Proofs.Ytiegcghapchimaa.Pure
open Go.Proofs.Ytiegcghapchimaa.P
def LayoutBack.Pure : Prop := ∀ (l0_0 : List Int) (l0_1 : List S39), Nest.okA ⟨l0_0, l0_1⟩ → ∃ k, P.triglyphlaw05_LayoutBack.f k l0_0 l0_1 = some true
end Go.Proofs.Ytiegcghapchimaa.Pure
