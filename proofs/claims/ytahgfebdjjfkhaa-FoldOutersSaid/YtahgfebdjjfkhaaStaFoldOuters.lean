/- Written by a program of this session: the law FoldOuters as it is stated, for every input. No condition. -/
import Derived.Test.YtahgfebdjjfkhaaNestArr
import Derived.Test.YtahgfebdjjfkhaaPx15
namespace Go.Proofs.Ytahgfebdjjfkhaa.Pure
open Go.Proofs.Ytahgfebdjjfkhaa.P
def FoldOuters.Pure : Prop := ∀ (a0 : Int) (a1 : Bool) (l2_0 : List Int) (l2_1 : List S43) (l3_0 : List Int) (l3_1 : List S43), (Lit.int .i64 a0).wf = true → Nest.okA ⟨l2_0, l2_1⟩ → Nest.okA ⟨l3_0, l3_1⟩ → ∃ k, P.triglyphlaw08_FoldOuters.f k a0 a1 l2_0 l2_1 l3_0 l3_1 = some true
end Go.Proofs.Ytahgfebdjjfkhaa.Pure
