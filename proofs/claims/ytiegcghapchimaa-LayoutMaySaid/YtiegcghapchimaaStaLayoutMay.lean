/- Written by a program of this session: the law LayoutMay as it is stated, for every input. No condition. -/
import Derived.Test.YtiegcghapchimaaNestArr
import Derived.Test.YtiegcghapchimaaPx16
namespace Go.Proofs.Ytiegcghapchimaa.Pure
open Go.Proofs.Ytiegcghapchimaa.P
def LayoutMay.Pure : Prop := ∀ (a0 : Int) (l1_0 : List Int) (l1_1 : List S39) (l2_0 : List Int) (l2_1 : List S39), (Lit.int .i64 a0).wf = true → Nest.okA ⟨l1_0, l1_1⟩ → Nest.okA ⟨l2_0, l2_1⟩ → ∃ k, P.triglyphlaw05_LayoutMay.f k a0 l1_0 l1_1 l2_0 l2_1 = some true
end Go.Proofs.Ytiegcghapchimaa.Pure
