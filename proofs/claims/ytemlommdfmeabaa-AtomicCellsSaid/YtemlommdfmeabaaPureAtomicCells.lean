/- AtomicCells: what it computes is yes, for every function and any two cells. -/
import Derived.Test.YtemlommdfmeabaaStaAtomicCells
import Derived.Test.YtemlommdfmeabaaAtomWorks
import Derived.Test.YtemlommdfmeabaaAtomC
import Derived.Test.YtemlommdfmeabaaPx11
import Derived.Test.YtemlommdfmeabaaPx3
import Derived.Test.YtemlommdfmeabaaPx7
namespace Go.Proofs.Ytemlommdfmeabaa.Pure
open Go.RowKit Go.Proofs.Ytemlommdfmeabaa.P Go.Proofs.Ytemlommdfmeabaa.Nest Go.Proofs.YtemlommdfmeabaaW.PrintWords Go.Proofs.YtemlommdfmeabaaW.PrintLast Go.Proofs.YtemlommdfmeabaaW.PrintMore
set_option linter.unusedVariables false
set_option linter.unusedSimpArgs false
set_option maxHeartbeats 1000000
theorem i64_c {x : S35} (h : okC x) : I64 x.f1 := by
  cases x
  rw [okC] at h
  exact i64_of h.2.1
theorem okC_num {n : Int} (h : I64 n) : okC ⟨0, n, []⟩ := by
  rw [okC]
  exact ⟨by rfl, wf_of h, by simp, by simp [okAs]⟩
theorem AtomicCells : AtomicCells.Pure := by
  intro op a b l a' b' l' ho hx hy
  have h4 : okA ⟨[], [⟨a, b, l⟩, ⟨a', b', l'⟩]⟩ := by
    rw [okA, okCs, okCs, okCs]
    exact ⟨⟨by simp, by simp⟩, by unfold reachBytes; simp, hx, hy, trivial⟩
  have ix := i64_c hx
  have iy := i64_c hy
  obtain ⟨K0, e0⟩ := light_eq _ h4
  obtain ⟨K1, e1⟩ := rcell_eq ⟨0, (celS op ⟨a, b, l⟩ ⟨a', b', l'⟩).1, []⟩ ⟨0, (celS op ⟨a, b, l⟩ ⟨a', b', l'⟩).1, []⟩ (okC_num (celS_i64 ix iy))
  refine ⟨K0 + K1 + 80, ?_⟩
  generalize hk : K0 + K1 + 80 = k
  have f0 := e0 k (by omega)
  have f1 := e1 k (by omega)
  have f2 := acel_eq (op := op) ix iy (k := k) (by omega)
  have f3 := rcel_eq (op := op) ix iy (k := k) (by omega)
  rw [cmpC_self] at f1
  dsimp only at f0 f1 f2 f3
  have W : ((triglyphlaw04_works.f k).bind fun t => some t) = some true := by rw [works_eq k (by omega)]; rfl
  unfold triglyphlaw04_AtomicCells.f
  rw [f0]
  simp only [Option.bind_some]
  split
  · rw [f2, f3]
    simp only [Option.bind_some, if_true]
    rw [f1]
    simp only [Option.bind_some, if_true]
    unfold atomic_Is.f
    by_cases g : op ≥ 21
    · simp only [if_pos g, Option.bind_some]
      by_cases g2 : op ≤ 32
      · rw [if_pos g2, if_pos (decide_eq_true g2)]; exact W
      · rw [if_neg g2, if_neg (by simp [g2])]; exact W
    · simp only [if_neg g, Option.bind_some, Bool.false_eq_true, if_false]; exact W
  · exact W
end Go.Proofs.Ytemlommdfmeabaa.Pure
