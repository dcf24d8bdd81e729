/- AtomicAtoms: what it computes is yes, for every function, any cell and any array. -/
import Derived.Test.YtemlommdfmeabaaStaAtomicAtoms
import Derived.Test.YtemlommdfmeabaaAtomWorks
import Derived.Test.YtemlommdfmeabaaAtomT
import Derived.Test.YtemlommdfmeabaaPx11
import Derived.Test.YtemlommdfmeabaaPx7
namespace Go.Proofs.Ytemlommdfmeabaa.Pure
open Go.RowKit Go.Proofs.Ytemlommdfmeabaa.P Go.Proofs.Ytemlommdfmeabaa.Nest Go.Proofs.YtemlommdfmeabaaW.PrintWords Go.Proofs.YtemlommdfmeabaaW.PrintLast Go.Proofs.YtemlommdfmeabaaW.PrintMore
set_option linter.unusedVariables false
set_option linter.unusedSimpArgs false
set_option maxHeartbeats 1000000
theorem atoms_works (op : Int) (left : Bool) (a b : Int) (l : List S25) (s1 : List Int) (c1 : List S35) : ∀ k, 61 ≤ k → triglyphlaw04_AtomicAtoms.j0 k op left true a b l s1 c1 = some true := by
  intro k hk
  obtain ⟨k, rfl, hk2⟩ := succ_of hk
  simp only [triglyphlaw04_AtomicAtoms.j0, if_true]
  rw [works_eq k hk2]
  rfl
theorem atoms_l0 (op : Int) (left : Bool) (a b : Int) (l : List S25) (s : List Int) (c : List S35) (ha : okA ⟨s, c⟩) (hc : okC ⟨a, b, l⟩) (h0 : chA ⟨s, c⟩ 0 = 0) :
    ∃ K, ∀ k, K ≤ k → triglyphlaw04_AtomicAtoms.l0 (k + 1) op left (c.length : Int) a b l s c [⟨a, b, l⟩] s (List.replicate c.length ⟨a, b, l⟩) = some true := by
  have hone : okA (oneA ⟨a, b, l⟩) := one_ok hc
  have hall : okA (allS ⟨s, c⟩ ⟨a, b, l⟩) := all_ok ha hc
  obtain ⟨K0, e0⟩ := rcheck_eq _ hone
  obtain ⟨K1, e1⟩ := ady_eq op _ _ ha hone
  obtain ⟨K2, e2⟩ := ady_eq op _ _ ha hall
  obtain ⟨K3, e3⟩ := ady_eq op _ _ hone ha
  obtain ⟨K4, e4⟩ := ady_eq op _ _ hall ha
  obtain ⟨K5, e5⟩ := rsame_eq (dyS op ⟨s, c⟩ (oneA ⟨a, b, l⟩)).1 (dyS op ⟨s, c⟩ (oneA ⟨a, b, l⟩)).1 (dyS_ok ha hone)
  obtain ⟨K6, e6⟩ := rsame_eq (dyS op (oneA ⟨a, b, l⟩) ⟨s, c⟩).1 (dyS op (oneA ⟨a, b, l⟩) ⟨s, c⟩).1 (dyS_ok hone ha)
  refine ⟨K0 + K1 + K2 + K3 + K4 + K5 + K6 + 80, fun k hk => ?_⟩
  have f0 := e0 k (by omega)
  have f1 := e1 k (by omega)
  have f2 := e2 k (by omega)
  have f3 := e3 k (by omega)
  have f4 := e4 k (by omega)
  have f5 := e5 k (by omega)
  have f6 := e6 k (by omega)
  have W : ((triglyphlaw04_works.f k).bind fun t => some t) = some true := by rw [works_eq k (by omega)]; rfl
  rw [cmpA_self] at f5 f6
  rw [show (oneA ⟨a, b, l⟩).f0 = [] from rfl, show (oneA ⟨a, b, l⟩).f1 = [⟨a, b, l⟩] from rfl] at f0 f1 f3
  rw [show (allS ⟨s, c⟩ ⟨a, b, l⟩).f0 = s from rfl, show (allS ⟨s, c⟩ ⟨a, b, l⟩).f1 = List.replicate c.length ⟨a, b, l⟩ from rfl] at f2 f4
  dsimp only at f1 f2 f3 f4
  simp only [triglyphlaw04_AtomicAtoms.l0]
  rw [if_neg (by omega), f0]
  simp only [Option.bind_some]
  by_cases h1 : chA (oneA ⟨a, b, l⟩) 0 = 0
  · rw [if_pos h1, f1, f2]
    simp only [Option.bind_some]
    cases left with
    | true =>
      rw [f3, f4, ← dyS_atomL op h0 h1]
      simp only [Option.bind_some, trip, if_true]
      rw [f6]
      simp only [Option.bind_some, BEq.rfl, if_true]
      exact W
    | false =>
      rw [← dyS_atomR op h0 h1]
      simp only [Option.bind_some, trip, Bool.false_eq_true, if_false, if_true]
      rw [f5]
      simp only [Option.bind_some, BEq.rfl, if_true]
      exact W
  · rw [if_neg h1]
    exact W
theorem atoms_loop (op : Int) (left : Bool) (a b : Int) (l : List S25) (s : List Int) (c : List S35) (hl : c.length ≤ 16384) (K : Nat) (R : Option Bool)
    (H : ∀ k, K ≤ k → triglyphlaw04_AtomicAtoms.l0 (k + 1) op left (c.length : Int) a b l s c [⟨a, b, l⟩] s (List.replicate c.length ⟨a, b, l⟩) = R) :
    ∀ (m i : Nat), i + m = c.length → ∀ k, K + m ≤ k → triglyphlaw04_AtomicAtoms.l0 (k + 1) op left (i : Int) a b l s c [⟨a, b, l⟩] s (List.replicate i ⟨a, b, l⟩) = R
  | 0, i, hi, k, hk => by
    have : i = c.length := by omega
    subst this
    exact H k (by omega)
  | m + 1, i, hi, k, hk => by
    obtain ⟨k, rfl, hk2⟩ := succ_of (K := K + m) (k := k) (by omega)
    simp only [triglyphlaw04_AtomicAtoms.l0]
    rw [if_pos (by omega), List.length_replicate, if_pos (by omega), wrap_in (by omega) (by omega), ← List.replicate_succ']
    exact atoms_loop op left a b l s c hl K R H m (i + 1) (by omega) k hk2
theorem AtomicAtoms : AtomicAtoms.Pure := by
  intro op a b l s c left ho hc ha
  have h4 : okA ⟨[], [⟨a, b, l⟩]⟩ := one_ok hc
  obtain ⟨K0, e0⟩ := light_eq ⟨s, c⟩ ha
  obtain ⟨K1, e1⟩ := light_eq _ h4
  obtain ⟨K2, e2⟩ := rcheck_eq ⟨s, c⟩ ha
  by_cases h0 : chA ⟨s, c⟩ 0 = 0
  · obtain ⟨K3, e3⟩ := atoms_l0 op left a b l s c ha hc h0
    have hl := (ch_parts h0).2.2.1
    dsimp only at hl
    have e4 := atoms_loop op left a b l s c hl K3 _ e3 c.length 0 (by omega)
    refine ⟨K0 + K1 + K2 + K3 + c.length + 80 + 1 + 1, ?_⟩
    generalize hk : K0 + K1 + K2 + K3 + c.length + 80 = k
    have f0 := e0 (k + 1 + 1) (by omega)
    have f1 := e1 (k + 1 + 1) (by omega)
    have f2 := e2 (k + 1 + 1) (by omega)
    have f4 := e4 k (by omega)
    dsimp only at f0 f1 f2
    unfold triglyphlaw04_AtomicAtoms.f
    rw [f0]
    simp only [Option.bind_some]
    split
    · rw [f1]
      simp only [Option.bind_some]
      split
      · rw [f2, h0]
        simp only [Option.bind_some]
        rw [show ((0 : Int) != 0) = false from rfl]
        simp only [triglyphlaw04_AtomicAtoms.j0, Bool.false_eq_true, if_false]
        exact f4
      · exact atoms_works _ _ _ _ _ _ _ _ (by omega)
    · exact atoms_works _ _ _ _ _ _ _ _ (by omega)
  · refine ⟨K0 + K1 + K2 + 80, ?_⟩
    generalize hk : K0 + K1 + K2 + 80 = k
    have f0 := e0 k (by omega)
    have f1 := e1 k (by omega)
    have f2 := e2 k (by omega)
    dsimp only at f0 f1 f2
    unfold triglyphlaw04_AtomicAtoms.f
    rw [f0]
    simp only [Option.bind_some]
    split
    · rw [f1]
      simp only [Option.bind_some]
      split
      · rw [f2]
        simp only [Option.bind_some]
        rw [show (chA ⟨s, c⟩ 0 != 0) = true by simp [h0]]
        exact atoms_works _ _ _ _ _ _ _ _ (by omega)
      · exact atoms_works _ _ _ _ _ _ _ _ (by omega)
    · exact atoms_works _ _ _ _ _ _ _ _ (by omega)
end Go.Proofs.Ytemlommdfmeabaa.Pure
