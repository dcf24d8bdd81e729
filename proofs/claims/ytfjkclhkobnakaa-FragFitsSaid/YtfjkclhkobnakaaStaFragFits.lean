/- Written by a program of this session: the law FragFits as it is stated, for every input. No condition. -/
import Derived.Test.YtfjkclhkobnakaaNestNode
import Derived.Test.YtfjkclhkobnakaaPx19
namespace Go.Proofs.Ytfjkclhkobnakaa.Pure
open Go.Proofs.Ytfjkclhkobnakaa.P
def FragFits.Pure : Prop := ∀ (a0 : Int) (a1_0 : Int) (a1_1 : Int) (a1_2 : ByteArray) (l1_3 : List Int) (l1_4 : List S57) (l1_5 : List S28) (a1_6 : Int), (Lit.int .i64 a0).wf = true → Nest.okN ⟨a1_0, a1_1, a1_2, ⟨l1_3, l1_4⟩, l1_5, a1_6⟩ → ∃ k, P.triglyphlaw24_FragFits.f k a0 a1_0 a1_1 a1_2 l1_3 l1_4 l1_5 a1_6 = some true
end Go.Proofs.Ytfjkclhkobnakaa.Pure
