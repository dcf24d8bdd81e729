/- Written by a program of this session: the law ArrTotal as it is stated, for every input. No condition. -/
import Derived.Test.YtlnphoeogpfjkaaNestArr
import Derived.Test.YtlnphoeogpfjkaaPx8
namespace Go.Proofs.Ytlnphoeogpfjkaa.Pure
open Go.Proofs.Ytlnphoeogpfjkaa.P
def ArrTotal.Pure : Prop := ∀ (l0_0 : List Int) (l0_1 : List S28) (l1_0 : List Int) (l1_1 : List S28) (l2_0 : List Int) (l2_1 : List S28), Nest.okA ⟨l0_0, l0_1⟩ → Nest.okA ⟨l1_0, l1_1⟩ → Nest.okA ⟨l2_0, l2_1⟩ → ∃ k, P.triglyphlaw03_ArrTotal.f k l0_0 l0_1 l1_0 l1_1 l2_0 l2_1 = some true
end Go.Proofs.Ytlnphoeogpfjkaa.Pure
