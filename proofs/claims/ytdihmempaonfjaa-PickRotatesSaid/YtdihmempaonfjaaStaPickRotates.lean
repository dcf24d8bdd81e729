/- Written by a program of this session: the law PickRotates as it is stated, for every input. No condition. -/
import Derived.Test.YtdihmempaonfjaaNestArr
import Derived.Test.YtdihmempaonfjaaPx13
namespace Go.Proofs.Ytdihmempaonfjaa.Pure
open Go.Proofs.Ytdihmempaonfjaa.P
def PickRotates.Pure : Prop := ∀ (l0_0 : List Int) (l0_1 : List S45) (a1 : Int) (a2 : Int) (a3 : Bool), Nest.okA ⟨l0_0, l0_1⟩ → (Lit.int .i32 a1).wf = true → (Lit.int .i32 a2).wf = true → ∃ k, P.triglyphlaw06_PickRotates.f k l0_0 l0_1 a1 a2 a3 = some true
end Go.Proofs.Ytdihmempaonfjaa.Pure
