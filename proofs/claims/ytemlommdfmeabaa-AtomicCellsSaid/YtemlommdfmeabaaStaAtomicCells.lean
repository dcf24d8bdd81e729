/- Written by a program of this session: the law AtomicCells as it is stated, for every input. No condition. -/
import Derived.Test.YtemlommdfmeabaaNestArr
import Derived.Test.YtemlommdfmeabaaPx11
namespace Go.Proofs.Ytemlommdfmeabaa.Pure
open Go.Proofs.Ytemlommdfmeabaa.P
def AtomicCells.Pure : Prop := ∀ (a0 : Int) (a1_0 : Int) (a1_1 : Int) (l1_2 : List S25) (a2_0 : Int) (a2_1 : Int) (l2_2 : List S25), (Lit.int .i64 a0).wf = true → Nest.okC ⟨a1_0, a1_1, l1_2⟩ → Nest.okC ⟨a2_0, a2_1, l2_2⟩ → ∃ k, P.triglyphlaw04_AtomicCells.f k a0 a1_0 a1_1 l1_2 a2_0 a2_1 l2_2 = some true
end Go.Proofs.Ytemlommdfmeabaa.Pure
