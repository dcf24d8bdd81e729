/- Written by a program of this session: the law ArrThere as it is stated, for every input. No condition. -/
import Derived.Test.YtlnphoeogpfjkabNestArr
import Derived.Test.YtlnphoeogpfjkabPx6
namespace Go.Proofs.Ytlnphoeogpfjkab.Pure
open Go.Proofs.Ytlnphoeogpfjkab.P
def ArrThere.Pure : Prop := ∀ (l0 : List Int) (l1 : List Int) (a2 : Int), l0.length * 8 ≤ reachBytes → (∀ y ∈ l0, (Lit.int .i64 y).wf = true) → l1.length * 8 ≤ reachBytes → (∀ y ∈ l1, (Lit.int .i64 y).wf = true) → (Lit.int .i64 a2).wf = true → ∃ k, P.triglyphlaw03_ArrThere.f k l0 l1 a2 = some true
end Go.Proofs.Ytlnphoeogpfjkab.Pure
