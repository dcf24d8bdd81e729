/- Functions of two arguments turned round; an atom in place of an array of one cell all over. -/
import Derived.Test.YtemlommdfmeabaaAtomD
namespace Go.Proofs.Ytemlommdfmeabaa.Pure
open Go.RowKit Go.Proofs.Ytemlommdfmeabaa.P Go.Proofs.Ytemlommdfmeabaa.Nest Go.Proofs.YtemlommdfmeabaaW.PrintWords Go.Proofs.YtemlommdfmeabaaW.PrintLast Go.Proofs.YtemlommdfmeabaaW.PrintMore
set_option linter.unusedVariables false
set_option linter.unusedSimpArgs false
set_option maxHeartbeats 1000000
theorem cnt_comm (a b : S25) : cntC a b = cntC b a := by
  unfold cntC
  by_cases c : a.f1.length = 0 ∨ b.f1.length = 0
  · rw [if_pos c, if_pos c.symm]
  · rw [if_neg c, if_neg (fun h => c h.symm), Nat.max_comm]
/-- That cell, all over. -/
def allS (a : S25) (c : S35) : S25 := ⟨a.f0, List.replicate a.f1.length c⟩
def oneA (c : S35) : S25 := ⟨[], [c]⟩
theorem chCs_rep {c : S35} (h : chC c 0 = 0) : ∀ n, chCs (List.replicate n c) 0 = 0
  | 0 => rfl
  | n + 1 => by rw [List.replicate_succ, chCs, if_pos h, chCs_rep h n]
theorem one_cell {c : S35} (h : chA (oneA c) 0 = 0) : chC c 0 = 0 := by
  have := (ch_parts h).2.2.2.2
  rw [oneA, chCs] at this
  by_cases h1 : chC c 0 = 0
  · exact h1
  · rw [if_neg h1] at this; exact absurd this h1
theorem all_ch {a : S25} {c : S35} (ha : chA a 0 = 0) (hc : chA (oneA c) 0 = 0) : chA (allS a c) 0 = 0 := by
  have h1 := one_cell hc
  cases a with | mk s l =>
  have hp := ch_parts ha
  rw [allS, chA]
  simp only at hp ⊢
  rw [if_pos hp.1, List.length_replicate, if_pos hp.2.1]
  rw [chA, if_pos hp.1, if_pos hp.2.1] at ha
  by_cases h4 : s.any (16384 < ·) = true
  · rw [if_pos h4] at ha; exact absurd ha (by decide)
  · rw [if_neg h4]; exact chCs_rep h1 _
theorem okCs_rep {c : S35} (h : okC c) (n : Nat) : okCs (List.replicate n c) := okCs_iff.2 (fun x hx => by rw [List.eq_of_mem_replicate hx]; exact h)
theorem all_ok {a : S25} {c : S35} (ha : okA a) (hc : okC c) : okA (allS a c) := by
  obtain ⟨h1, h2, h3, _⟩ := ok_parts ha
  rw [allS, okA, List.length_replicate]
  exact ⟨⟨h1, h2⟩, h3, okCs_rep hc _⟩
theorem one_ok {c : S35} (hc : okC c) : okA (oneA c) := by
  rw [oneA, okA, okCs, okCs]
  exact ⟨⟨by simp, by simp⟩, by unfold reachBytes; simp, hc, trivial⟩
theorem ag_self (s : List Int) : agS s s = (s, 0) := by
  unfold agS
  by_cases h : s = []
  · rw [if_pos h]
  · rw [if_neg h, if_neg h, if_neg (not_not_intro rfl), if_pos rfl]
theorem ag_none (s : List Int) : agS s [] = (s, 0) := by
  unfold agS
  by_cases h : s = []
  · rw [if_pos h, h]
  · rw [if_neg h, if_pos rfl]
theorem none_ag (s : List Int) : agS [] s = (s, 0) := by unfold agS; rw [if_pos rfl]
theorem bes_all {a : S25} {c : S35} (ha : chA a 0 = 0) {i : Nat} (hi : i < a.f1.length) : besC (allS a c) i = c := by
  unfold besC allS
  simp only
  split
  · rename_i h
    rw [(ch_parts ha).2.2.2.1 h]; rfl
  · rw [List.getD_eq_getElem?_getD, List.getElem?_replicate, if_pos hi]; rfl
theorem bes_only (c : S35) (i : Nat) : besC (oneA c) i = c := rfl
theorem cnt_one {a : S25} {c : S35} : cntC a (oneA c) = a.f1.length := by
  unfold cntC oneA
  simp only [List.length_singleton]
  split <;> omega
theorem cnt_all {a : S25} {c : S35} : cntC a (allS a c) = a.f1.length := by
  unfold cntC allS
  simp only [List.length_replicate]
  split <;> omega
theorem dyS_atomR (op : Int) {a : S25} {c : S35} (ha : chA a 0 = 0) (hc : chA (oneA c) 0 = 0) : dyS op a (oneA c) = dyS op a (allS a c) := by
  unfold dyS
  rw [if_neg (not_not_intro ha), if_neg (not_not_intro hc), if_neg (not_not_intro ha), if_neg (not_not_intro (all_ch ha hc))]
  rw [show (oneA c).f0 = [] from rfl, show (allS a c).f0 = a.f0 from rfl, ag_none, ag_self, cnt_one, cnt_all]
  rw [runC_congr (g := fun i => celS op (besC a i) (besC (oneA c) i)) (g' := fun i => celS op (besC a i) (besC (allS a c) i)) a.f1.length 0 (fun j _ hj => by rw [bes_only, bes_all ha (by omega)])]
theorem dyS_atomL (op : Int) {a : S25} {c : S35} (ha : chA a 0 = 0) (hc : chA (oneA c) 0 = 0) : dyS op (oneA c) a = dyS op (allS a c) a := by
  unfold dyS
  rw [if_neg (not_not_intro ha), if_neg (not_not_intro hc), if_neg (not_not_intro ha), if_neg (not_not_intro (all_ch ha hc))]
  rw [show (oneA c).f0 = [] from rfl, show (allS a c).f0 = a.f0 from rfl, none_ag, ag_self, cnt_comm, cnt_one, cnt_comm (allS a c), cnt_all]
  rw [runC_congr (g := fun i => celS op (besC (oneA c) i) (besC a i)) (g' := fun i => celS op (besC (allS a c) i) (besC a i)) a.f1.length 0 (fun j _ hj => by rw [bes_only, bes_all ha (by omega)])]
end Go.Proofs.Ytemlommdfmeabaa.Pure
