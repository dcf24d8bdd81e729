/- Written by a program of this session: the law AtomicTurned as it is stated, for every input. No condition. -/
import Derived.Test.YtemlommdfmeabaaNestArr
import Derived.Test.YtemlommdfmeabaaPx15
namespace Go.Proofs.Ytemlommdfmeabaa.Pure
open Go.Proofs.Ytemlommdfmeabaa.P
def AtomicTurned.Pure : Prop := ∀ (a0 : Int) (l1_0 : List Int) (l1_1 : List S35) (l2_0 : List Int) (l2_1 : List S35), (Lit.int .i64 a0).wf = true → Nest.okA ⟨l1_0, l1_1⟩ → Nest.okA ⟨l2_0, l2_1⟩ → ∃ k, P.triglyphlaw04_AtomicTurned.f k a0 l1_0 l1_1 l2_0 l2_1 = some true
end Go.Proofs.Ytemlommdfmeabaa.Pure
