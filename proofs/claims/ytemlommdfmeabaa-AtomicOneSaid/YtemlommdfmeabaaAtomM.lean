/- atomic.Mo and the reference's: both are moS. -/
import Derived.Test.YtemlommdfmeabaaArr4
import Derived.Test.YtemlommdfmeabaaAtom1
import Derived.Test.YtemlommdfmeabaaPx10
import Derived.Test.YtemlommdfmeabaaPx3
namespace Go.Proofs.Ytemlommdfmeabaa.Pure
open Go.RowKit Go.Proofs.Ytemlommdfmeabaa.P Go.Proofs.Ytemlommdfmeabaa.Nest Go.Proofs.YtemlommdfmeabaaW.PrintWords Go.Proofs.YtemlommdfmeabaaW.PrintLast Go.Proofs.YtemlommdfmeabaaW.PrintMore
set_option linter.unusedVariables false
set_option linter.unusedSimpArgs false
set_option maxHeartbeats 1000000
theorem aone_eq {op n : Int} (h : I64 n) : atomic_one.f op n = some (oneS op n) := by
  unfold atomic_one.f oneS
  by_cases h1 : op = 1
  · rw [if_pos h1, if_pos h1, neg_eq h]; rfl
  rw [if_neg h1, if_neg h1]
  by_cases h2 : op = 2
  · rw [if_pos h2, if_pos h2, sgn_eq]; rfl
  rw [if_neg h2, if_neg h2]
  by_cases h3 : op = 3
  · rw [if_pos h3, if_pos h3, abs_eq h]; rfl
  rw [if_neg h3, if_neg h3]
  by_cases h4 : n = 0
  · rw [if_pos h4, if_pos h4, h4, wrap_in (by omega) (by omega)]; rfl
  rw [if_neg h4, if_neg h4]
  by_cases h5 : n = 1
  · rw [if_pos h5, if_pos h5, h5, wrap_in (by omega) (by omega)]; rfl
  · rw [if_neg h5, if_neg h5]
theorem rone_eq {op : Int} {x : S35} (h : I64 x.f1) {k : Nat} (hk : 3 ≤ k) : triglyphref04_one.f k op x.f0 x.f1 x.f2 = some (0, (oneC op x).1, [], (oneC op x).2) := by
  unfold triglyphref04_one.f oneC
  have h0 : I64 0 := ⟨by decide, by decide⟩
  by_cases h1 : x.f0 = 0
  · rw [if_pos h1, if_neg (not_not_intro h1)]
    unfold oneS
    by_cases h1 : op = 1
    · rw [if_pos h1, if_pos h1, refsub_eq h0 h hk]; rfl
    rw [if_neg h1, if_neg h1]
    by_cases h2 : op = 2
    · rw [if_pos h2, if_pos h2, refsgn_eq]; rfl
    rw [if_neg h2, if_neg h2]
    by_cases h3 : op = 3
    · rw [if_pos h3, if_pos h3, refabs_eq h hk]; rfl
    rw [if_neg h3, if_neg h3]
    by_cases h4 : x.f1 = 0
    · rw [if_pos h4, if_pos h4]
    rw [if_neg h4, if_neg h4]
    by_cases h5 : x.f1 = 1
    · rw [if_pos h5, if_pos h5]
    · rw [if_neg h5, if_neg h5]
  · rw [if_neg h1, if_pos h1]
theorem getD_mid (done : List S35) (x : S35) (rest : List S35) (z : S35) : (done ++ x :: rest).getD done.length z = x := by simp
theorem i64_mid {done rest : List S35} {x : S35} (h : okCs (done ++ x :: rest)) : I64 x.f1 := by
  have := okCs_iff.1 h x (by simp)
  cases x
  rw [okC] at this
  exact i64_of this.2.1
def trip (r : S25 × Int) : List Int × List S35 × Int := (r.1.f0, r.1.f1, r.2)
theorem amo_l0 (op : Int) (s : List Int) (c : List S35) (hl : c.length * 40 ≤ reachBytes) (hw : okCs c) : ∀ (rest done acc : List S35), c = done ++ rest → acc.length ≤ done.length → ∀ k, rest.length + 1 ≤ k →
    atomic_Mo.l0 k op c (c.length : Int) (done.length : Int) s acc = some (trip (outC acc s (runC (fun i => oneC op (c.getD i z35)) done.length rest.length)))
  | [], done, acc, he, ha, k, hk => by
    obtain ⟨k, rfl, _⟩ := succ_of (K := 0) (by simpa using hk)
    have hn : c.length = done.length := by rw [he]; simp
    simp only [atomic_Mo.l0]
    rw [if_neg (by omega)]
    rw [List.length_nil, runC, outC_nil]
    rfl
  | x :: rest, done, acc, he, ha, k, hk => by
    rw [List.length_cons] at hk
    obtain ⟨k, rfl, hk2⟩ := succ_of hk
    have hn : c.length = done.length + rest.length + 1 := by rw [he]; simp; omega
    have hx : I64 x.f1 := i64_mid (he ▸ hw)
    have hg : oneC op (c.getD done.length z35) = oneC op x := by rw [he, getD_mid]
    have hr : rd_T35 c (done.length : Int) = x := by rw [he]; exact rdC_mid done x rest
    unfold reachBytes at hl
    simp only [atomic_Mo.l0]
    rw [if_pos (by omega), if_pos (by omega), if_pos (by omega), hr, List.length_cons]
    by_cases h0 : x.f0 = 0
    · rw [if_pos h0, aone_eq hx]
      simp only [Option.bind_some]
      have ho : oneC op x = oneS op x.f1 := by unfold oneC; rw [if_neg (not_not_intro h0)]
      by_cases h1 : (oneS op x.f1).2 = 0
      · rw [if_pos h1, if_pos (by omega), outC_step (by rw [hg, ho]; exact h1), hg, ho, wrap_next done x (by omega)]
        exact amo_l0 op s c (by unfold reachBytes; exact hl) hw rest (done ++ [x]) (acc ++ [numC (oneS op x.f1).1]) (by rw [he]; simp) (by simp; exact ha) k hk2 |>.trans (by rw [List.length_append]; rfl)
      · rw [if_neg h1, outC_stop (by rw [hg, ho]; exact h1), hg, ho]
        rfl
    · have ho : oneC op x = (0, 5) := by unfold oneC; rw [if_pos h0]
      rw [if_neg h0, outC_stop (by rw [hg, ho]; decide), hg, ho]
      rfl
theorem rmo_l0 (op : Int) (s s' : List Int) (c : List S35) (hl : c.length * 40 ≤ reachBytes) (hw : okCs c) : ∀ (rest done acc : List S35), c = done ++ rest → acc.length ≤ done.length → ∀ k, rest.length + 4 ≤ k →
    triglyphref04_Mo.l0 k op (done.length : Int) s' c s acc = some (trip (outC acc s (runC (fun i => oneC op (c.getD i z35)) done.length rest.length)))
  | [], done, acc, he, ha, k, hk => by
    obtain ⟨k, rfl, _⟩ := succ_of (K := 0) (k := k) (by simp at hk; omega)
    have hn : c.length = done.length := by rw [he]; simp
    simp only [triglyphref04_Mo.l0]
    rw [if_neg (by omega)]
    rw [List.length_nil, runC, outC_nil]
    rfl
  | x :: rest, done, acc, he, ha, k, hk => by
    rw [List.length_cons] at hk
    obtain ⟨k, rfl, hk2⟩ := succ_of (K := rest.length + 4) (k := k) (by omega)
    have hn : c.length = done.length + rest.length + 1 := by rw [he]; simp; omega
    have hx : I64 x.f1 := i64_mid (he ▸ hw)
    have hg : oneC op (c.getD done.length z35) = oneC op x := by rw [he, getD_mid]
    have hr : rd_T35 c (done.length : Int) = x := by rw [he]; exact rdC_mid done x rest
    unfold reachBytes at hl
    simp only [triglyphref04_Mo.l0]
    rw [if_pos (by omega), if_pos (by omega), hr, List.length_cons, rone_eq hx (by omega)]
    simp only [Option.bind_some]
    by_cases h1 : (oneC op x).2 = 0
    · rw [if_pos h1, if_pos (by omega), outC_step (by rw [hg]; exact h1), hg, wrap_next done x (by omega)]
      exact rmo_l0 op s s' c (by unfold reachBytes; exact hl) hw rest (done ++ [x]) (acc ++ [numC (oneC op x).1]) (by rw [he]; simp) (by simp; exact ha) k hk2 |>.trans (by rw [List.length_append]; rfl)
    · rw [if_neg h1, outC_stop (by rw [hg]; exact h1), hg]
      rfl
theorem chA_len {a : S25} (h : chA a 0 = 0) : a.f0.length ≤ 8 := by
  cases a with | mk s c =>
  rw [chA] at h
  by_cases h1 : (sizeS s).2 = 0
  · exact sizeS_len h1
  · rw [if_neg h1] at h; exact absurd h h1
theorem ok_parts {a : S25} (h : okA a) : a.f0.length * 8 ≤ reachBytes ∧ (∀ y ∈ a.f0, (Lit.int .i64 y).wf = true) ∧ a.f1.length * 40 ≤ reachBytes ∧ okCs a.f1 := by
  cases a
  rw [okA] at h
  exact ⟨h.1.1, h.1.2, h.2.1, h.2.2⟩
theorem amo_eq (op : Int) (a : S25) (h : okA a) : ∃ K, ∀ k, K ≤ k → atomic_Mo.f k op a.f0 a.f1 = some (trip (moS op a)) := by
  obtain ⟨K, hK⟩ := check_eq a h
  obtain ⟨hs, _, hl, hw⟩ := ok_parts h
  refine ⟨K + a.f1.length + 3, fun k hk => ?_⟩
  unfold atomic_Mo.f moS
  rw [hK k (by omega)]
  simp only [Option.bind_some]
  by_cases h1 : chA a 0 = 0
  · obtain ⟨k, rfl, hk2⟩ := succ_of (K := a.f1.length + 2) (k := k) (by omega)
    have hj : ∀ b, atomic_Mo.j0 (k + 1) op op b a.f0 a.f1 = some (trip (if b = true then outC [] a.f0 (runC (fun i => oneC op (a.f1.getD i z35)) 0 a.f1.length) else if op = 19 then (zA, 10) else (zA, 1))) := by
      intro b
      have h8 := chA_len h1
      cases b with
      | true =>
        simp only [atomic_Mo.j0, if_true]
        rw [if_pos (by simp; omega), List.nil_append]
        exact amo_l0 op a.f0 a.f1 hl hw a.f1 [] [] rfl (Nat.le_refl _) k (by omega)
      | false =>
        simp only [atomic_Mo.j0, Bool.false_eq_true, if_false]
        by_cases h9 : op = 19
        · rw [if_pos h9, if_pos h9]; rfl
        · rw [if_neg h9, if_neg h9]; rfl
    rw [if_pos h1, hj, hj, hj, hj, if_neg (not_not_intro h1)]
    by_cases c1 : op = 1
    · subst c1; simp
    by_cases c2 : op = 2
    · subst c2; simp
    by_cases c3 : op = 3
    · subst c3; simp
    by_cases c4 : op = 4
    · subst c4; simp
    rw [if_neg c1, if_neg c2, if_neg c3, if_neg (by simpa using c4)]
    by_cases h9 : op = 19
    · rw [if_pos h9, if_pos h9]
    · rw [if_neg h9, if_neg h9, if_pos (by omega)]
  · rw [if_neg h1, if_pos h1]; rfl
theorem rmo_eq (op : Int) (a : S25) (h : okA a) : ∃ K, ∀ k, K ≤ k → triglyphref04_Mo.f k op a.f0 a.f1 = some (trip (moS op a)) := by
  obtain ⟨K, hK⟩ := rcheck_eq a h
  obtain ⟨hs, _, hl, hw⟩ := ok_parts h
  refine ⟨K + a.f1.length + 6, fun k hk => ?_⟩
  unfold triglyphref04_Mo.f moS
  rw [hK k (by omega)]
  simp only [Option.bind_some]
  by_cases h1 : chA a 0 = 0
  · obtain ⟨k, rfl, hk2⟩ := succ_of (K := a.f1.length + 5) (k := k) (by omega)
    have hj : ∀ b, triglyphref04_Mo.j0 (k + 1) op b a.f0 a.f1 = some (trip (if b = true then (zA, 1) else outC [] a.f0 (runC (fun i => oneC op (a.f1.getD i z35)) 0 a.f1.length))) := by
      intro b
      have h8 := chA_len h1
      cases b with
      | true => simp only [triglyphref04_Mo.j0, if_true]; rfl
      | false =>
        simp only [triglyphref04_Mo.j0, Bool.false_eq_true, if_false]
        rw [if_pos (by simp; omega), List.nil_append]
        exact rmo_l0 op a.f0 a.f0 a.f1 hl hw a.f1 [] [] rfl (Nat.le_refl _) k (by omega)
    rw [if_pos h1, hj, hj, if_neg (not_not_intro h1)]
    by_cases h9 : op = 19
    · rw [if_pos h9, if_pos h9]; rfl
    rw [if_neg h9, if_neg h9]
    by_cases c1 : op < 1
    · rw [if_pos c1, if_pos rfl, if_pos (Or.inl c1)]
    rw [if_neg c1]
    by_cases c2 : 4 < op
    · rw [if_pos (by simpa using c2), if_pos (Or.inr c2)]
    · rw [if_neg (by simpa using c2), if_neg (by omega)]
  · rw [if_neg h1, if_pos h1]; rfl
end Go.Proofs.Ytemlommdfmeabaa.Pure
