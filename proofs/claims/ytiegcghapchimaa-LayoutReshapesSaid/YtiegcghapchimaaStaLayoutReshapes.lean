/- Written by a program of this session: the law LayoutReshapes as it is stated, for every input. No condition. -/
import Derived.Test.YtiegcghapchimaaNestArr
import Derived.Test.YtiegcghapchimaaPx15
namespace Go.Proofs.Ytiegcghapchimaa.Pure
open Go.Proofs.Ytiegcghapchimaa.P
def LayoutReshapes.Pure : Prop := ∀ (l0_0 : List Int) (l0_1 : List S39) (l1_0 : List Int) (l1_1 : List S39), Nest.okA ⟨l0_0, l0_1⟩ → Nest.okA ⟨l1_0, l1_1⟩ → ∃ k, P.triglyphlaw05_LayoutReshapes.f k l0_0 l0_1 l1_0 l1_1 = some true
end Go.Proofs.Ytiegcghapchimaa.Pure
