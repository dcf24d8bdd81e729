/- atomic.Mo and the reference's: both are moS. -/
import Derived.Test.YtemlommdfmeabaaArr4
import Derived.Test.YtemlommdfmeabaaAtom1
import Derived.Test.YtemlommdfmeabaaPx3
namespace Go.Proofs.Ytemlommdfmeabaa.Pure
open Go.RowKit Go.Proofs.Ytemlommdfmeabaa.P Go.Proofs.Ytemlommdfmeabaa.Nest Go.Proofs.YtemlommdfmeabaaW.PrintWords Go.Proofs.YtemlommdfmeabaaW.PrintLast Go.Proofs.YtemlommdfmeabaaW.PrintMore
set_option linter.unusedVariables false
set_option linter.unusedSimpArgs false
set_option maxHeartbeats 1000000
def trip (r : S25 × Int) : List Int × List S35 × Int := (r.1.f0, r.1.f1, r.2)
theorem chA_len {a : S25} (h : chA a 0 = 0) : a.f0.length ≤ 8 := by
  cases a with | mk s c =>
  rw [chA] at h
  by_cases h1 : (sizeS s).2 = 0
  · exact sizeS_len h1
  · rw [if_neg h1] at h; exact absurd h h1
theorem ok_parts {a : S25} (h : okA a) : a.f0.length * 8 ≤ reachBytes ∧ (∀ y ∈ a.f0, (Lit.int .i64 y).wf = true) ∧ a.f1.length * 40 ≤ reachBytes ∧ okCs a.f1 := by
  cases a
  rw [okA] at h
  exact ⟨h.1.1, h.1.2, h.2.1, h.2.2⟩
end Go.Proofs.Ytemlommdfmeabaa.Pure
