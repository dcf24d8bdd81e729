/- AtomicTwo: what it computes is yes, for every function and any two arrays. -/
import Derived.Test.YtemlommdfmeabaaStaAtomicTwo
import Derived.Test.YtemlommdfmeabaaAtomWorks
import Derived.Test.YtemlommdfmeabaaAtomD
import Derived.Test.YtemlommdfmeabaaPx14
namespace Go.Proofs.Ytemlommdfmeabaa.Pure
open Go.RowKit Go.Proofs.Ytemlommdfmeabaa.P Go.Proofs.Ytemlommdfmeabaa.Nest Go.Proofs.YtemlommdfmeabaaW.PrintWords Go.Proofs.YtemlommdfmeabaaW.PrintLast Go.Proofs.YtemlommdfmeabaaW.PrintMore
set_option linter.unusedVariables false
set_option linter.unusedSimpArgs false
set_option maxHeartbeats 1000000
theorem two_works (op : Int) (s0 : List Int) (c0 : List S35) (s1 : List Int) (c1 : List S35) : ∀ k, 61 ≤ k → triglyphlaw04_AtomicTwo.j0 k op true s0 c0 s1 c1 = some true := by
  intro k hk
  obtain ⟨k, rfl, hk2⟩ := succ_of hk
  simp only [triglyphlaw04_AtomicTwo.j0, if_true]
  rw [works_eq k hk2]
  rfl
theorem AtomicTwo : AtomicTwo.Pure := by
  intro op s0 c0 s1 c1 ho h0 h1
  obtain ⟨K0, e0⟩ := light_eq ⟨s0, c0⟩ h0
  obtain ⟨K1, e1⟩ := light_eq ⟨s1, c1⟩ h1
  obtain ⟨K2, e2⟩ := ady_eq op ⟨s0, c0⟩ ⟨s1, c1⟩ h0 h1
  obtain ⟨K3, e3⟩ := rdy_eq op ⟨s0, c0⟩ ⟨s1, c1⟩ h0 h1
  obtain ⟨K4, e4⟩ := rsame_eq (dyS op ⟨s0, c0⟩ ⟨s1, c1⟩).1 (dyS op ⟨s0, c0⟩ ⟨s1, c1⟩).1 (dyS_ok h0 h1)
  refine ⟨K0 + K1 + K2 + K3 + K4 + 80 + 1, ?_⟩
  generalize hk : K0 + K1 + K2 + K3 + K4 + 80 = k
  have f0 := e0 (k + 1) (by omega)
  have f1 := e1 (k + 1) (by omega)
  have f2 := e2 k (by omega)
  have f3 := e3 k (by omega)
  have f4 := e4 k (by omega)
  rw [cmpA_self] at f4
  dsimp only at f0 f1 f2 f3
  unfold triglyphlaw04_AtomicTwo.f
  rw [f0]
  simp only [Option.bind_some]
  split
  · rw [f1]
    simp only [Option.bind_some]
    cases lightS ⟨s1, c1⟩ with
    | false => exact two_works _ _ _ _ _ _ (by omega)
    | true =>
      simp only [triglyphlaw04_AtomicTwo.j0, Bool.not_true, Bool.false_eq_true, if_false]
      rw [f2, f3]
      simp only [Option.bind_some, trip, if_true]
      rw [f4, works_eq k (by omega)]
      rfl
  · exact two_works _ _ _ _ _ _ (by omega)
end Go.Proofs.Ytemlommdfmeabaa.Pure
