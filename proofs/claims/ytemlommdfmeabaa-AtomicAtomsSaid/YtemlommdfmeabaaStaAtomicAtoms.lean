/- Written by a program of this session: the law AtomicAtoms as it is stated, for every input. No condition. -/
import Derived.Test.YtemlommdfmeabaaNestArr
import Derived.Test.YtemlommdfmeabaaPx11
namespace Go.Proofs.Ytemlommdfmeabaa.Pure
open Go.Proofs.Ytemlommdfmeabaa.P
def AtomicAtoms.Pure : Prop := ∀ (a0 : Int) (a1_0 : Int) (a1_1 : Int) (l1_2 : List S25) (l2_0 : List Int) (l2_1 : List S35) (a3 : Bool), (Lit.int .i64 a0).wf = true → Nest.okC ⟨a1_0, a1_1, l1_2⟩ → Nest.okA ⟨l2_0, l2_1⟩ → ∃ k, P.triglyphlaw04_AtomicAtoms.f k a0 a1_0 a1_1 l1_2 l2_0 l2_1 a3 = some true
end Go.Proofs.Ytemlommdfmeabaa.Pure
