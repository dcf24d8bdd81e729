/- Written by a program of this session: the law AtomicAgrees as it is stated, for every input. No condition. -/
import Derived.Test.YtemlommdfmeabaaNestArr
import Derived.Test.YtemlommdfmeabaaPx15
namespace Go.Proofs.Ytemlommdfmeabaa.Pure
open Go.Proofs.Ytemlommdfmeabaa.P
def AtomicAgrees.Pure : Prop := ∀ (l0 : List Int) (l1 : List Int), l0.length * 8 ≤ reachBytes → (∀ y ∈ l0, (Lit.int .i64 y).wf = true) → l1.length * 8 ≤ reachBytes → (∀ y ∈ l1, (Lit.int .i64 y).wf = true) → ∃ k, P.triglyphlaw04_AtomicAgrees.f k l0 l1 = some true
end Go.Proofs.Ytemlommdfmeabaa.Pure
