/- Written by a program of this session: the law ArrOrders as it is stated, for every input. No condition. -/
import Derived.Test.YtlnphoeogpfjkaaNestArr
import Derived.Test.YtlnphoeogpfjkaaPx8
namespace Go.Proofs.Ytlnphoeogpfjkaa.Pure
open Go.Proofs.Ytlnphoeogpfjkaa.P
def ArrOrders.Pure : Prop := ∀ (l0_0 : List Int) (l0_1 : List S28) (l1_0 : List Int) (l1_1 : List S28) (a2_0 : Int) (a2_1 : Int) (l2_2 : List S25) (a3_0 : Int) (a3_1 : Int) (l3_2 : List S25), Nest.okA ⟨l0_0, l0_1⟩ → Nest.okA ⟨l1_0, l1_1⟩ → Nest.okC ⟨a2_0, a2_1, l2_2⟩ → Nest.okC ⟨a3_0, a3_1, l3_2⟩ → ∃ k, P.triglyphlaw03_ArrOrders.f k l0_0 l0_1 l1_0 l1_1 a2_0 a2_1 l2_2 a3_0 a3_1 l3_2 = some true
end Go.Proofs.Ytlnphoeogpfjkaa.Pure
