/- Written by a program of this session: the law CoreWords as it is stated, for every input. No condition. -/
import Derived.Test.YtfblidojoepcpaaNestArr
import Derived.Test.YtfblidojoepcpaaPx12
namespace Go.Proofs.Ytfblidojoepcpaa.Pure
open Go.Proofs.Ytfblidojoepcpaa.P
def CoreWords.Pure : Prop := ∀ (a0 : ByteArray) (l1_0 : List Int) (l1_1 : List S52) (a2 : Int), a0.size ≤ maxLen → Nest.okA ⟨l1_0, l1_1⟩ → (Lit.int .i64 a2).wf = true → ∃ k, P.triglyphlaw10_CoreWords.f k a0 l1_0 l1_1 a2 = some true
end Go.Proofs.Ytfblidojoepcpaa.Pure
