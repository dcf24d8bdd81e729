/- Written by a program of this session: the law AtomicOne as it is stated, for every input. No condition. -/
import Derived.Test.YtemlommdfmeabaaNestArr
import Derived.Test.YtemlommdfmeabaaPx12
namespace Go.Proofs.Ytemlommdfmeabaa.Pure
open Go.Proofs.Ytemlommdfmeabaa.P
def AtomicOne.Pure : Prop := ∀ (a0 : Int) (l1_0 : List Int) (l1_1 : List S35), (Lit.int .i64 a0).wf = true → Nest.okA ⟨l1_0, l1_1⟩ → ∃ k, P.triglyphlaw04_AtomicOne.f k a0 l1_0 l1_1 = some true
end Go.Proofs.Ytemlommdfmeabaa.Pure
