/- Written by a program of this session: the law PickKeeps as it is stated, for every input. No condition. -/
import Derived.Test.YtdihmempaonfjaaNestArr
import Derived.Test.YtdihmempaonfjaaPx14
namespace Go.Proofs.Ytdihmempaonfjaa.Pure
open Go.Proofs.Ytdihmempaonfjaa.P
def PickKeeps.Pure : Prop := ∀ (l0_0 : List Int) (l0_1 : List S45), Nest.okA ⟨l0_0, l0_1⟩ → ∃ k, P.triglyphlaw06_PickKeeps.f k l0_0 l0_1 = some true
end Go.Proofs.Ytdihmempaonfjaa.Pure
