/- Written by a program of this session: the law CoreSame as it is stated, for every input. No condition. -/
import Derived.Test.YtfblidojoepcpaaNestNode
import Derived.Test.YtfblidojoepcpaaPx10
namespace Go.Proofs.Ytfblidojoepcpaa.Pure
open Go.Proofs.Ytfblidojoepcpaa.P
def CoreSame.Pure : Prop := ∀ (a0_0 : Int) (a0_1 : Int) (a0_2 : ByteArray) (l0_3 : List Int) (l0_4 : List S52) (l0_5 : List S34) (a0_6 : Int) (a1_0 : Int) (a1_1 : Int) (a1_2 : ByteArray) (l1_3 : List Int) (l1_4 : List S52) (l1_5 : List S34) (a1_6 : Int), Nest.okN ⟨a0_0, a0_1, a0_2, ⟨l0_3, l0_4⟩, l0_5, a0_6⟩ → Nest.okN ⟨a1_0, a1_1, a1_2, ⟨l1_3, l1_4⟩, l1_5, a1_6⟩ → ∃ k, P.triglyphlaw10_CoreSame.f k a0_0 a0_1 a0_2 l0_3 l0_4 l0_5 a0_6 a1_0 a1_1 a1_2 l1_3 l1_4 l1_5 a1_6 = some true
end Go.Proofs.Ytfblidojoepcpaa.Pure
