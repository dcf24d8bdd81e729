/- Written by a program of this session: the law ArrPlaces as it is stated, for every input. No condition. -/
import Derived.Test.YtlnphoeogpfjkaaNestArr
import Derived.Test.YtlnphoeogpfjkaaPx15
namespace Go.Proofs.Ytlnphoeogpfjkaa.Pure
open Go.Proofs.Ytlnphoeogpfjkaa.P
def ArrPlaces.Pure : Prop := ∀ (l0 : List Int) (l1 : List Int) (a2 : Int), l0.length * 8 ≤ reachBytes → (∀ y ∈ l0, (Lit.int .i64 y).wf = true) → l1.length * 8 ≤ reachBytes → (∀ y ∈ l1, (Lit.int .i64 y).wf = true) → (Lit.int .i64 a2).wf = true → ∃ k, P.triglyphlaw03_ArrPlaces.f k l0 l1 a2 = some true
end Go.Proofs.Ytlnphoeogpfjkaa.Pure
