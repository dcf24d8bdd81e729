/- atomic.Dy and the reference's: both are dyS. -/
import Derived.Test.YtemlommdfmeabaaAtomA
import Derived.Test.YtemlommdfmeabaaAtomC
import Derived.Test.YtemlommdfmeabaaAtomM
import Derived.Test.YtemlommdfmeabaaPx6
namespace Go.Proofs.Ytemlommdfmeabaa.Pure
open Go.RowKit Go.Proofs.Ytemlommdfmeabaa.P Go.Proofs.Ytemlommdfmeabaa.Nest Go.Proofs.YtemlommdfmeabaaW.PrintWords Go.Proofs.YtemlommdfmeabaaW.PrintLast Go.Proofs.YtemlommdfmeabaaW.PrintMore
set_option linter.unusedVariables false
set_option linter.unusedSimpArgs false
set_option maxHeartbeats 1000000
theorem ch_parts {a : S25} (h : chA a 0 = 0) : (sizeS a.f0).2 = 0 ∧ (sizeS a.f0).1 = (a.f1.length : Int) ∧ a.f1.length ≤ 16384 ∧ (a.f0 = [] → a.f1.length = 1) ∧ chCs a.f1 0 = 0 := by
  cases a with | mk s c =>
  rw [chA] at h
  by_cases h1 : (sizeS s).2 = 0
  · rw [if_pos h1] at h
    by_cases h2 : (sizeS s).1 = (c.length : Int)
    · rw [if_pos h2] at h
      have h3 := sizeS_bd s
      refine ⟨h1, h2, ?_, fun he => ?_, ?_⟩
      · simp only; omega
      · simp only at he ⊢
        subst he
        have : (sizeS []).1 = 1 := by decide
        omega
      · by_cases h4 : s.any (16384 < ·) = true
        · rw [if_pos h4] at h; exact absurd h (by decide)
        · rw [if_neg h4] at h; exact h
    · rw [if_neg h2] at h; exact absurd h (by decide)
  · rw [if_neg h1] at h; exact absurd h h1
theorem ag_cases {s t : List Int} (h : (agS s t).2 = 0) : (s = [] ∧ (agS s t).1 = t) ∨ (s ≠ [] ∧ t = [] ∧ (agS s t).1 = s) ∨ (s ≠ [] ∧ t ≠ [] ∧ s = t ∧ (agS s t).1 = s) := by
  unfold agS at h ⊢
  by_cases h1 : s = []
  · rw [if_pos h1] at h ⊢; exact Or.inl ⟨h1, rfl⟩
  rw [if_neg h1] at h ⊢
  by_cases h2 : t = []
  · rw [if_pos h2] at h ⊢; exact Or.inr (Or.inl ⟨h1, h2, rfl⟩)
  rw [if_neg h2] at h ⊢
  by_cases h3 : s.length ≠ t.length
  · rw [if_pos h3] at h; exact absurd h (by decide)
  rw [if_neg h3] at h ⊢
  by_cases h4 : s = t
  · rw [if_pos h4] at h ⊢; exact Or.inr (Or.inr ⟨h1, h2, h4, rfl⟩)
  · rw [if_neg h4] at h; exact absurd h (by decide)
theorem bes_one {a : S25} {i n : Nat} (hi : i < n) (h : (a.f0 = [] ∧ a.f1.length = 1) ∨ (a.f0 ≠ [] ∧ a.f1.length = n)) :
    0 < a.f1.length ∧ atomic_Dy.ix a.f0 i < a.f1.length ∧ besC a i = a.f1.getD (i % a.f1.length) z35 ∧ besC a i = a.f1.getD (atomic_Dy.ix a.f0 i) z35 := by
  unfold atomic_Dy.ix besC
  rcases h with ⟨h1, h2⟩ | ⟨h1, h2⟩
  · have e1 : a.f0.length = 0 := by rw [h1]; rfl
    rw [if_pos e1, if_pos h1, h2, Nat.mod_one]
    exact ⟨by omega, by omega, rfl, rfl⟩
  · have e1 : a.f0.length ≠ 0 := fun h => h1 (List.length_eq_zero_iff.1 h)
    rw [if_neg e1, if_neg h1, h2, Nat.mod_eq_of_lt hi]
    exact ⟨by omega, by omega, rfl, rfl⟩
theorem cnt_le (a b : S25) : cntC a b ≤ a.f1.length ∨ cntC a b ≤ b.f1.length := by unfold cntC; split <;> omega
theorem dy_facts {a b : S25} (ha : chA a 0 = 0) (hb : chA b 0 = 0) (hag : (agS a.f0 b.f0).2 = 0) :
    (sizeS (agS a.f0 b.f0).1).1 = (cntC a b : Int) ∧ (agS a.f0 b.f0).1.length ≤ 8 ∧ ∀ i, i < cntC a b → ((a.f0 = [] ∧ a.f1.length = 1) ∨ (a.f0 ≠ [] ∧ a.f1.length = cntC a b)) ∧ ((b.f0 = [] ∧ b.f1.length = 1) ∨ (b.f0 ≠ [] ∧ b.f1.length = cntC a b)) := by
  obtain ⟨_, a2, a3, a4, _⟩ := ch_parts ha
  obtain ⟨_, b2, b3, b4, _⟩ := ch_parts hb
  have l1 := chA_len ha
  have l2 := chA_len hb
  rcases ag_cases hag with ⟨h1, h2⟩ | ⟨h0, h1, h2⟩ | ⟨h0, h00, h1, h2⟩
  · rw [h2]
    have e1 := a4 h1
    have hc : cntC a b = b.f1.length := by unfold cntC; split <;> omega
    refine ⟨by rw [hc]; exact b2, l2, fun i hi => ⟨Or.inl ⟨h1, e1⟩, ?_⟩⟩
    by_cases h3 : b.f0 = []
    · exact Or.inl ⟨h3, b4 h3⟩
    · exact Or.inr ⟨h3, hc.symm⟩
  · rw [h2]
    have e1 := b4 h1
    have hc : cntC a b = a.f1.length := by unfold cntC; split <;> omega
    exact ⟨by rw [hc]; exact a2, l1, fun i hi => ⟨Or.inr ⟨h0, hc.symm⟩, Or.inl ⟨h1, e1⟩⟩⟩
  · rw [h2]
    have e1 : a.f1.length = b.f1.length := by rw [← h1] at b2; omega
    have hc : cntC a b = a.f1.length := by unfold cntC; split <;> omega
    exact ⟨by rw [hc]; exact a2, l1, fun i hi => ⟨Or.inr ⟨h0, hc.symm⟩, Or.inr ⟨h00, by omega⟩⟩⟩
theorem i64_get {c : List S35} (h : okCs c) (i : Nat) : I64 (c.getD i z35).f1 := by
  have h0 : I64 0 := ⟨by decide, by decide⟩
  by_cases hi : i < c.length
  · rw [List.getD_eq_getElem?_getD, List.getElem?_eq_getElem hi]
    have := okCs_iff.1 h _ (List.getElem_mem hi)
    simp only [Option.getD_some]
    generalize c[i] = y at this ⊢
    cases y
    rw [okC] at this
    exact i64_of this.2.1
  · rw [List.getD_eq_getElem?_getD, List.getElem?_eq_none (by omega)]
    exact h0
theorem i64_bes {a : S25} (h : okA a) (i : Nat) : I64 (besC a i).f1 := by
  unfold besC
  split
  · exact i64_get (ok_parts h).2.2.2 _
  · exact i64_get (ok_parts h).2.2.2 _
theorem ady_lp {a b : S25} {n : Nat} (ha : okA a) (hb : okA b) (op : Int) (s : List Int) (k : Nat) (hk : 8 ≤ k) (hn : n ≤ 1000000)
    (H : ∀ i, i < n → ((a.f0 = [] ∧ a.f1.length = 1) ∨ (a.f0 ≠ [] ∧ a.f1.length = n)) ∧ ((b.f0 = [] ∧ b.f1.length = 1) ∨ (b.f0 ≠ [] ∧ b.f1.length = n))) :
    ∀ (m i : Nat) (acc : List S35), i + m = n → acc.length ≤ i → atomic_Dy.lp k op a.f0 a.f1 b.f0 b.f1 s m i acc = some (trip (outC acc s (runC (fun j => celS op (besC a j) (besC b j)) i m)))
  | 0, i, acc, he, hl => by rw [runC, outC_nil]; rfl
  | m + 1, i, acc, he, hl => by
    obtain ⟨A, B⟩ := H i (by omega)
    obtain ⟨_, a2, _, a4⟩ := bes_one (i := i) (n := n) (by omega) A
    obtain ⟨_, b2, _, b4⟩ := bes_one (i := i) (n := n) (by omega) B
    unfold atomic_Dy.lp
    rw [if_pos ⟨a2, b2⟩, ← a4, ← b4, acel_eq (i64_bes ha i) (i64_bes hb i) hk]
    simp only [Option.bind_some]
    by_cases h1 : (celS op (besC a i) (besC b i)).2 = 0
    · rw [if_pos h1, if_pos (by omega), outC_step h1]
      exact ady_lp ha hb op s k hk hn H m (i + 1) _ (by omega) (by rw [List.length_append]; simp; omega)
    · rw [if_neg h1, outC_stop h1]
      rfl
theorem ady_eq (op : Int) (a b : S25) (ha : okA a) (hb : okA b) : ∃ K, ∀ k, K ≤ k → atomic_Dy.f k op a.f0 a.f1 b.f0 b.f1 = some (trip (dyS op a b)) := by
  obtain ⟨K1, h1⟩ := check_eq a ha
  obtain ⟨K2, h2⟩ := check_eq b hb
  refine ⟨K1 + K2 + 20, fun k hk => ?_⟩
  unfold atomic_Dy.f dyS
  rw [h1 k (by omega)]
  simp only [Option.bind_some]
  by_cases c1 : chA a 0 = 0
  · rw [if_pos c1, if_neg (not_not_intro c1), h2 k (by omega)]
    simp only [Option.bind_some]
    by_cases c2 : chA b 0 = 0
    · rw [if_pos c2, if_neg (not_not_intro c2)]
      unfold atomic_Dy.r5
      by_cases c3 : op = 54
      · rw [if_pos c3, if_pos c3]; rfl
      rw [if_neg c3, if_neg c3]
      by_cases c4 : op < 21 ∨ 32 < op
      · rw [if_pos (by omega), if_pos c4]; rfl
      have l1 := chA_len c1
      have l2 := chA_len c2
      rw [if_neg (by omega), if_neg c4, aag_eq _ _ (by omega) (by omega) k (by omega)]
      simp only [Option.bind_some]
      by_cases c5 : (agS a.f0 b.f0).2 = 0
      · rw [if_pos c5, if_neg (not_not_intro c5)]
        obtain ⟨f1, f2, f3⟩ := dy_facts c1 c2 c5
        have := (ch_parts c1).2.2.1
        have := (ch_parts c2).2.2.1
        have hn : cntC a b ≤ 1000000 := by rcases cnt_le a b with h | h <;> omega
        exact ady_lp ha hb op _ k (by omega) hn f3 (cntC a b) 0 [] (by omega) (Nat.le_refl _)
      · rw [if_neg c5, if_pos c5]; rfl
    · rw [if_neg c2, if_pos c2]; rfl
  · rw [if_neg c1, if_pos c1]; rfl
theorem zA_ok : okA zA := by unfold zA; rw [okA]; exact ⟨⟨by simp, by simp⟩, by simp, by simp [okCs]⟩
theorem dyS_ok {op : Int} {a b : S25} (ha : okA a) (hb : okA b) : okA (dyS op a b).1 := by
  obtain ⟨sa, aw, al, _⟩ := ok_parts ha
  obtain ⟨sb, bw, bl, _⟩ := ok_parts hb
  unfold dyS
  split
  · exact zA_ok
  split
  · exact zA_ok
  split
  · exact zA_ok
  split
  · exact zA_ok
  split
  · exact zA_ok
  · rename_i hag
    have hc : cntC a b * 40 ≤ reachBytes := by rcases cnt_le a b with h | h <;> omega
    rcases ag_cases (Classical.not_not.1 hag) with ⟨_, h2⟩ | ⟨_, _, h2⟩ | ⟨_, _, _, h2⟩
    · rw [h2]; exact outC_ok sb bw hc (fun j _ => celS_i64 (i64_bes ha j) (i64_bes hb j))
    · rw [h2]; exact outC_ok sa aw hc (fun j _ => celS_i64 (i64_bes ha j) (i64_bes hb j))
    · rw [h2]; exact outC_ok sa aw hc (fun j _ => celS_i64 (i64_bes ha j) (i64_bes hb j))
end Go.Proofs.Ytemlommdfmeabaa.Pure
