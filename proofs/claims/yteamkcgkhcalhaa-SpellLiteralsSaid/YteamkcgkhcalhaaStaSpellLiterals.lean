/- Written by a program of this session: the law SpellLiterals as it is stated, for every input. No condition. -/
import Derived.Test.YteamkcgkhcalhaaNestArr
import Derived.Test.YteamkcgkhcalhaaPx12
namespace Go.Proofs.Yteamkcgkhcalhaa.Pure
open Go.Proofs.Yteamkcgkhcalhaa.P
def SpellLiterals.Pure : Prop := ∀ (l0_0 : List Int) (l0_1 : List S60) (a1 : Int), Nest.okA ⟨l0_0, l0_1⟩ → (Lit.int .i64 a1).wf = true → ∃ k, P.triglyphlaw16_SpellLiterals.f k l0_0 l0_1 a1 = some true
end Go.Proofs.Yteamkcgkhcalhaa.Pure
