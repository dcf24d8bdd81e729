/- AtomicTurned: what it computes is yes, for every function and any two arrays. -/
import Derived.Test.YtemlommdfmeabaaStaAtomicTurned
import Derived.Test.YtemlommdfmeabaaAtomWorks
import Derived.Test.YtemlommdfmeabaaAtomT
import Derived.Test.YtemlommdfmeabaaPx15
import Derived.Test.YtemlommdfmeabaaPx7
namespace Go.Proofs.Ytemlommdfmeabaa.Pure
open Go.RowKit Go.Proofs.Ytemlommdfmeabaa.P Go.Proofs.Ytemlommdfmeabaa.Nest Go.Proofs.YtemlommdfmeabaaW.PrintWords Go.Proofs.YtemlommdfmeabaaW.PrintLast Go.Proofs.YtemlommdfmeabaaW.PrintMore
set_option linter.unusedVariables false
set_option linter.unusedSimpArgs false
set_option maxHeartbeats 1000000
theorem turned_works (op : Int) (s0 : List Int) (c0 : List S35) (s1 : List Int) (c1 : List S35) : ∀ k, 61 ≤ k → triglyphlaw04_AtomicTurned.j0 k op true s0 c0 s1 c1 = some true := by
  intro k hk
  obtain ⟨k, rfl, hk2⟩ := succ_of hk
  simp only [triglyphlaw04_AtomicTurned.j0, if_true]
  rw [works_eq k hk2]
  rfl
theorem AtomicTurned : AtomicTurned.Pure := by
  intro op s0 c0 s1 c1 ho h0 h1
  obtain ⟨K0, e0⟩ := light_eq ⟨s0, c0⟩ h0
  obtain ⟨K1, e1⟩ := light_eq ⟨s1, c1⟩ h1
  obtain ⟨K2, e2⟩ := ady_eq op ⟨s0, c0⟩ ⟨s1, c1⟩ h0 h1
  obtain ⟨K3, e3⟩ := ady_eq (turnS op) ⟨s1, c1⟩ ⟨s0, c0⟩ h1 h0
  obtain ⟨K4, e4⟩ := rsame_eq (dyS op ⟨s0, c0⟩ ⟨s1, c1⟩).1 (dyS op ⟨s0, c0⟩ ⟨s1, c1⟩).1 (dyS_ok h0 h1)
  obtain ⟨K5, e5⟩ := rcheck_eq ⟨s0, c0⟩ h0
  obtain ⟨K6, e6⟩ := rcheck_eq ⟨s1, c1⟩ h1
  refine ⟨K0 + K1 + K2 + K3 + K4 + K5 + K6 + 80 + 3, ?_⟩
  generalize hk : K0 + K1 + K2 + K3 + K4 + K5 + K6 + 80 = k
  have f0 := e0 (k + 3) (by omega)
  have f1 := e1 (k + 3) (by omega)
  have f2 := e2 k (by omega)
  have f3 := e3 k (by omega)
  have f4 := e4 k (by omega)
  have f5 := e5 (k + 3) (by omega)
  have f6 := e6 (k + 3) (by omega)
  rw [cmpA_self] at f4
  dsimp only at f0 f1 f2 f3 f5 f6
  have W : ∀ K, 60 ≤ K → ((triglyphlaw04_works.f K).bind fun t => some t) = some true := fun K h => by rw [works_eq K h]; rfl
  unfold triglyphlaw04_AtomicTurned.f
  rw [f0]
  simp only [Option.bind_some]
  split
  · rw [f1]
    simp only [Option.bind_some]
    split
    · rw [f5]
      simp only [Option.bind_some]
      split
      · rename_i p1
        rw [f6]
        simp only [Option.bind_some]
        by_cases p2 : chA ⟨s1, c1⟩ 0 = 0
        · rw [p2, show ((0 : Int) != 0) = false from rfl]
          have J2 : canTurn op → triglyphlaw04_AtomicTurned.j2 (k + 1) op (turnS op) s0 c0 s1 c1 = some true := by
            intro ht
            simp only [triglyphlaw04_AtomicTurned.j2]
            rw [f2, f3, ← dyS_turn ht p1 p2]
            simp only [Option.bind_some, trip, if_true]
            rw [f4]
            simp only [Option.bind_some, BEq.rfl, if_true]
            exact W k (by omega)
          have same : (op = 21 ∨ op = 23 ∨ op = 24 ∨ op = 25 ∨ op = 27 ∨ op = 28) → triglyphlaw04_AtomicTurned.j1 (k + 2) op op true s0 c0 s1 c1 = some true := by
            intro ho
            have := J2 (by unfold canTurn; omega)
            rw [show turnS op = op by unfold turnS; rw [if_neg (by omega), if_neg (by omega), if_neg (by omega), if_neg (by omega)]] at this
            simp only [triglyphlaw04_AtomicTurned.j1, if_true]
            exact this
          simp only [triglyphlaw04_AtomicTurned.j0, Bool.false_eq_true, if_false]
          by_cases o1 : op = 21
          · rw [if_pos o1, show (op == 21) = true by simp [o1]]; exact same (by omega)
          rw [if_neg o1]
          by_cases o2 : op = 23
          · rw [if_pos o2, show (op == 23) = true by simp [o2]]; exact same (by omega)
          rw [if_neg o2]
          by_cases o3 : op = 24
          · rw [if_pos o3, show (op == 24) = true by simp [o3]]; exact same (by omega)
          rw [if_neg o3]
          by_cases o4 : op = 25
          · rw [if_pos o4, show (op == 25) = true by simp [o4]]; exact same (by omega)
          rw [if_neg o4]
          by_cases o5 : op = 27
          · rw [if_pos o5, show (op == 27) = true by simp [o5]]; exact same (by omega)
          rw [if_neg o5]
          by_cases o6 : op = 28
          · rw [show (op == 28) = true by simp [o6]]; exact same (by omega)
          rw [show (op == 28) = false by simp [o6]]
          simp only [triglyphlaw04_AtomicTurned.j1, Bool.false_eq_true, if_false]
          by_cases q1 : op = 29
          · rw [if_pos q1]; have := J2 (by unfold canTurn; omega); rw [show turnS op = 30 by rw [q1]; rfl] at this; exact this
          rw [if_neg q1]
          by_cases q2 : op = 30
          · rw [if_pos q2]; have := J2 (by unfold canTurn; omega); rw [show turnS op = 29 by rw [q2]; rfl] at this; exact this
          rw [if_neg q2]
          by_cases q3 : op = 31
          · rw [if_pos q3]; have := J2 (by unfold canTurn; omega); rw [show turnS op = 32 by rw [q3]; rfl] at this; exact this
          rw [if_neg q3]
          by_cases q4 : op = 32
          · rw [if_pos q4]; have := J2 (by unfold canTurn; omega); rw [show turnS op = 31 by rw [q4]; rfl] at this; exact this
          rw [if_neg q4]
          exact W _ (by omega)
        · rw [show (chA ⟨s1, c1⟩ 0 != 0) = true by simp [p2]]; exact turned_works _ _ _ _ _ _ (by omega)
      · exact turned_works _ _ _ _ _ _ (by omega)
    · exact turned_works _ _ _ _ _ _ (by omega)
  · exact turned_works _ _ _ _ _ _ (by omega)
end Go.Proofs.Ytemlommdfmeabaa.Pure
