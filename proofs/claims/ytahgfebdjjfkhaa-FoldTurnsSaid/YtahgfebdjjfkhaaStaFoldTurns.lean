/- Written by a program of this session: the law FoldTurns as it is stated, for every input. No condition. -/
import Derived.Test.YtahgfebdjjfkhaaNestArr
import Derived.Test.YtahgfebdjjfkhaaPx16
namespace Go.Proofs.Ytahgfebdjjfkhaa.Pure
open Go.Proofs.Ytahgfebdjjfkhaa.P
def FoldTurns.Pure : Prop := ∀ (a0 : Int) (l1_0 : List Int) (l1_1 : List S43) (a2 : Bool), (Lit.int .i64 a0).wf = true → Nest.okA ⟨l1_0, l1_1⟩ → ∃ k, P.triglyphlaw08_FoldTurns.f k a0 l1_0 l1_1 a2 = some true
end Go.Proofs.Ytahgfebdjjfkhaa.Pure
