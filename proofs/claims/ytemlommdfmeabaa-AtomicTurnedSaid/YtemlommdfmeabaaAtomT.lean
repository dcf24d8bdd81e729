/- Functions of two arguments turned round; an atom in place of an array of one cell all over. -/
import Derived.Test.YtemlommdfmeabaaAtomD
namespace Go.Proofs.Ytemlommdfmeabaa.Pure
open Go.RowKit Go.Proofs.Ytemlommdfmeabaa.P Go.Proofs.Ytemlommdfmeabaa.Nest Go.Proofs.YtemlommdfmeabaaW.PrintWords Go.Proofs.YtemlommdfmeabaaW.PrintLast Go.Proofs.YtemlommdfmeabaaW.PrintMore
set_option linter.unusedVariables false
set_option linter.unusedSimpArgs false
set_option maxHeartbeats 1000000
/-- What op is with its arguments exchanged. -/
def turnS (op : Int) : Int := if op = 29 then 30 else if op = 30 then 29 else if op = 31 then 32 else if op = 32 then 31 else op
def canTurn (op : Int) : Prop := op = 21 ∨ op = 23 ∨ op = 24 ∨ op = 25 ∨ op = 27 ∨ op = 28 ∨ op = 29 ∨ op = 30 ∨ op = 31 ∨ op = 32
theorem pr2 (a b : Int) : pr [a, b] = pr [b, a] := by simp [pr, Int.mul_comm]
theorem calS_turn {op : Int} (h : canTurn op) (he : ¬ (op = 27 ∨ op = 28)) (a b : Int) : calS op a b = calS (turnS op) b a := by
  unfold canTurn at h
  rcases h with h | h | h | h | h | h | h | h | h | h
  · subst h; show fit (a + b) = fit (b + a); rw [Int.add_comm]
  · subst h; show fit (pr [a, b]) = fit (pr [b, a]); rw [pr2]
  · subst h; show ((if b < a then b else a), (0 : Int)) = ((if a < b then a else b), 0)
    split <;> split <;> first | rfl | (congr 1; omega) | omega
  · subst h; show ((if a < b then b else a), (0 : Int)) = ((if b < a then a else b), 0)
    split <;> split <;> first | rfl | (congr 1; omega) | omega
  · exact absurd (Or.inl h) he
  · exact absurd (Or.inr h) he
  · subst h; rfl
  · subst h; rfl
  · subst h; rfl
  · subst h; rfl
theorem celS_turn {op : Int} (h : canTurn op) (x y : S35) : celS op x y = celS (turnS op) y x := by
  have hr : 21 ≤ op ∧ op ≤ 32 := by unfold canTurn at h; omega
  have hr2 : 21 ≤ turnS op ∧ turnS op ≤ 32 := by unfold turnS; repeat' split
                                                 all_goals omega
  unfold celS
  rw [if_neg (show ¬ (op < 21 ∨ 32 < op) by omega), if_neg (show ¬ (turnS op < 21 ∨ 32 < turnS op) by omega)]
  by_cases e : op = 27 ∨ op = 28
  · have et : turnS op = op := by unfold turnS; rw [if_neg (by omega), if_neg (by omega), if_neg (by omega), if_neg (by omega)]
    rw [et, if_pos e, if_pos e]
    by_cases c : x.f0 = 2 ∨ y.f0 = 2
    · rw [if_pos c, if_pos c.symm]
    · rw [if_neg c, if_neg (fun h => c h.symm)]
      have : decide (x.f0 = y.f0 ∧ x.f1 = y.f1) = decide (y.f0 = x.f0 ∧ y.f1 = x.f1) := by
        congr 1
        exact propext ⟨fun ⟨p, q⟩ => ⟨p.symm, q.symm⟩, fun ⟨p, q⟩ => ⟨p.symm, q.symm⟩⟩
      rw [this]
  · have et : ¬ (turnS op = 27 ∨ turnS op = 28) := by
      unfold turnS
      repeat' split
      all_goals omega
    rw [if_neg e, if_neg et]
    by_cases c : x.f0 ≠ 0 ∨ y.f0 ≠ 0
    · rw [if_pos c, if_pos c.symm]
    · rw [if_neg c, if_neg (fun h => c h.symm)]
      exact calS_turn h e _ _
theorem cnt_comm (a b : S25) : cntC a b = cntC b a := by
  unfold cntC
  by_cases c : a.f1.length = 0 ∨ b.f1.length = 0
  · rw [if_pos c, if_pos c.symm]
  · rw [if_neg c, if_neg (fun h => c h.symm), Nat.max_comm]
theorem dyS_turn {op : Int} (h : canTurn op) {a b : S25} (ha : chA a 0 = 0) (hb : chA b 0 = 0) : dyS op a b = dyS (turnS op) b a := by
  have hr : 21 ≤ op ∧ op ≤ 32 := by unfold canTurn at h; omega
  have hr2 : 21 ≤ turnS op ∧ turnS op ≤ 32 := by unfold turnS; repeat' split
                                                 all_goals omega
  unfold dyS
  rw [if_neg (not_not_intro ha), if_neg (not_not_intro hb), if_neg (show ¬ op = 54 by omega), if_neg (show ¬ (op < 21 ∨ 32 < op) by omega), if_neg (not_not_intro hb), if_neg (not_not_intro ha), if_neg (show ¬ turnS op = 54 by omega), if_neg (show ¬ (turnS op < 21 ∨ 32 < turnS op) by omega), agS_comm b.f0 a.f0, cnt_comm b a]
  rw [runC_congr (g := fun i => celS op (besC a i) (besC b i)) (g' := fun i => celS (turnS op) (besC b i) (besC a i)) (cntC a b) 0 (fun j _ _ => celS_turn h _ _)]
end Go.Proofs.Ytemlommdfmeabaa.Pure
