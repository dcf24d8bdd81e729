/- Written by a program of this session: the law CoreWraps as it is stated, for every input. No condition. -/
import Derived.Test.YtfblidojoepcpaaNestNode
import Derived.Test.YtfblidojoepcpaaPx13
namespace Go.Proofs.Ytfblidojoepcpaa.Pure
open Go.Proofs.Ytfblidojoepcpaa.P
def CoreWraps.Pure : Prop := ∀ (a0 : Int) (a1_0 : Int) (a1_1 : Int) (a1_2 : ByteArray) (l1_3 : List Int) (l1_4 : List S52) (l1_5 : List S34) (a1_6 : Int) (a2_0 : Int) (a2_1 : Int) (a2_2 : ByteArray) (l2_3 : List Int) (l2_4 : List S52) (l2_5 : List S34) (a2_6 : Int), (Lit.int .i64 a0).wf = true → Nest.okN ⟨a1_0, a1_1, a1_2, ⟨l1_3, l1_4⟩, l1_5, a1_6⟩ → Nest.okN ⟨a2_0, a2_1, a2_2, ⟨l2_3, l2_4⟩, l2_5, a2_6⟩ → ∃ k, P.triglyphlaw10_CoreWraps.f k a0 a1_0 a1_1 a1_2 l1_3 l1_4 l1_5 a1_6 a2_0 a2_1 a2_2 l2_3 l2_4 l2_5 a2_6 = some true
end Go.Proofs.Ytfblidojoepcpaa.Pure
