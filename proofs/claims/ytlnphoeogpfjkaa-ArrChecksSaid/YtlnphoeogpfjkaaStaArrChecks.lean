/- Written by a program of this session: the law ArrChecks as it is stated, for every input. No condition. -/
import Derived.Test.YtlnphoeogpfjkaaNestArr
import Derived.Test.YtlnphoeogpfjkaaPx10
namespace Go.Proofs.Ytlnphoeogpfjkaa.Pure
open Go.Proofs.Ytlnphoeogpfjkaa.P
def ArrChecks.Pure : Prop := ∀ (l0_0 : List Int) (l0_1 : List S28), Nest.okA ⟨l0_0, l0_1⟩ → ∃ k, P.triglyphlaw03_ArrChecks.f k l0_0 l0_1 = some true
end Go.Proofs.Ytlnphoeogpfjkaa.Pure
