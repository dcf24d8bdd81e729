/- Written by a program of this session: the law FoldCells as it is stated, for every input. No condition. -/
import Derived.Test.YtahgfebdjjfkhaaNestArr
import Derived.Test.YtahgfebdjjfkhaaPx15
namespace Go.Proofs.Ytahgfebdjjfkhaa.Pure
open Go.Proofs.Ytahgfebdjjfkhaa.P
def FoldCells.Pure : Prop := ∀ (a0 : Int) (l1_0 : List Int) (l1_1 : List S43) (l2_0 : List Int) (l2_1 : List S43) (a3 : Int) (a4 : Int), (Lit.int .i64 a0).wf = true → Nest.okA ⟨l1_0, l1_1⟩ → Nest.okA ⟨l2_0, l2_1⟩ → (Lit.int .i64 a3).wf = true → (Lit.int .i64 a4).wf = true → ∃ k, P.triglyphlaw08_FoldCells.f k a0 l1_0 l1_1 l2_0 l2_1 a3 a4 = some true
end Go.Proofs.Ytahgfebdjjfkhaa.Pure
