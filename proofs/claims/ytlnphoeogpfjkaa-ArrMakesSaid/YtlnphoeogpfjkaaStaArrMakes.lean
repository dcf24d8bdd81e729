/- Written by a program of this session: the law ArrMakes as it is stated, for every input. No condition. -/
import Derived.Test.YtlnphoeogpfjkaaNestArr
import Derived.Test.YtlnphoeogpfjkaaPx12
namespace Go.Proofs.Ytlnphoeogpfjkaa.Pure
open Go.Proofs.Ytlnphoeogpfjkaa.P
def ArrMakes.Pure : Prop := ∀ (l0 : List Int) (a1 : Int), l0.length * 8 ≤ reachBytes → (∀ y ∈ l0, (Lit.int .i64 y).wf = true) → (Lit.int .i64 a1).wf = true → ∃ k, P.triglyphlaw03_ArrMakes.f k l0 a1 = some true
end Go.Proofs.Ytlnphoeogpfjkaa.Pure
