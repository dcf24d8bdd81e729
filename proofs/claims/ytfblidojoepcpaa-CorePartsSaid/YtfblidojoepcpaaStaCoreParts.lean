/- Written by a program of this session: the law CoreParts as it is stated, for every input. No condition. -/
import Derived.Test.YtfblidojoepcpaaNestNode
import Derived.Test.YtfblidojoepcpaaPx13
namespace Go.Proofs.Ytfblidojoepcpaa.Pure
open Go.Proofs.Ytfblidojoepcpaa.P
def CoreParts.Pure : Prop := ∀ (a0_0 : Int) (a0_1 : Int) (a0_2 : ByteArray) (l0_3 : List Int) (l0_4 : List S52) (l0_5 : List S34) (a0_6 : Int), Nest.okN ⟨a0_0, a0_1, a0_2, ⟨l0_3, l0_4⟩, l0_5, a0_6⟩ → ∃ k, P.triglyphlaw10_CoreParts.f k a0_0 a0_1 a0_2 l0_3 l0_4 l0_5 a0_6 = some true
end Go.Proofs.Ytfblidojoepcpaa.Pure
