/- AtomicAgrees: what it computes is yes, for any two shapes. -/
import Derived.Test.YtemlommdfmeabaaStaAtomicAgrees
import Derived.Test.YtemlommdfmeabaaAtomWorks
import Derived.Test.YtemlommdfmeabaaAtomA
import Derived.Test.YtemlommdfmeabaaPx15
namespace Go.Proofs.Ytemlommdfmeabaa.Pure
open Go.RowKit Go.Proofs.Ytemlommdfmeabaa.P Go.Proofs.Ytemlommdfmeabaa.Nest Go.Proofs.YtemlommdfmeabaaW.PrintWords Go.Proofs.YtemlommdfmeabaaW.PrintLast Go.Proofs.YtemlommdfmeabaaW.PrintMore
set_option linter.unusedVariables false
set_option linter.unusedSimpArgs false
theorem AtomicAgrees : AtomicAgrees.Pure := by
  intro s t hs _ ht _
  unfold reachBytes at hs ht
  have hb : (agS s t).1.length ≤ 9000000000000000000 := by
    unfold agS
    split
    · simp only; omega
    split
    · simp only; omega
    split
    · simp
    split
    · simp only; omega
    · simp
  obtain ⟨K1, e1⟩ := rag_eq s t (by omega)
  obtain ⟨K2, e2⟩ := ints_eq (agS s t).1 (agS s t).1 hb
  refine ⟨s.length + t.length + K1 + K2 + 60, ?_⟩
  generalize hk : s.length + t.length + K1 + K2 + 60 = k
  unfold triglyphlaw04_AtomicAgrees.f
  rw [aag_eq s t (by omega) (by omega) k (by omega), e1 k (by omega), aag_eq t s (by omega) (by omega) k (by omega), agS_comm s t]
  simp only [Option.bind_some, if_true]
  rw [e2 k (by omega), works_eq k (by omega)]
  simp
end Go.Proofs.Ytemlommdfmeabaa.Pure
