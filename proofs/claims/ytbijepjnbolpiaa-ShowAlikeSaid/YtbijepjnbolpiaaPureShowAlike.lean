/- The law ShowAlike, of what its function comes to. -/
import Derived.Test.YtbijepjnbolpiaaShowL
import Derived.Test.YtbijepjnbolpiaaStaShowAlike
import Derived.Test.YtbijepjnbolpiaaPx11
namespace Go.Proofs.Ytbijepjnbolpiaa.Pure
open Go.RowKit Go.Proofs.Ytbijepjnbolpiaa.P Go.Proofs.Ytbijepjnbolpiaa.Nest Go.Proofs.YtbijepjnbolpiaaW.PrintWords Go.Proofs.YtbijepjnbolpiaaW.PrintLast Go.Proofs.YtbijepjnbolpiaaW.PrintMore
set_option linter.unusedVariables false
set_option linter.unusedSimpArgs false
mutual
/-- No number below 0, boxes gone into. -/
def nbA : S25 → Prop
  | ⟨s, c⟩ => nbCs c
def nbCs : List S40 → Prop
  | [] => True
  | x :: xs => nbC x ∧ nbCs xs
def nbC : S40 → Prop
  | ⟨k, n, b⟩ => (k = 0 → 0 ≤ n) ∧ nbB b
def nbB : List S25 → Prop
  | [] => True
  | x :: xs => xs = [] → nbA x
end
mutual
theorem nb_same (d e : Int) : ∀ (a : S25) (dp : Nat), chA a dp = 0 → nbA a → arrS d a = arrS e a
  | ⟨s, c⟩, dp, h, hn => by
    rw [nbA] at hn
    rw [arrS, arrS, nbCs_same d e c dp (arr_parts h).2.2 hn]
theorem nbCs_same (d e : Int) : ∀ (c : List S40) (dp : Nat), chCs c dp = 0 → nbCs c → cellsS d c = cellsS e c
  | [], dp, h, hn => by rw [cellsS, cellsS]
  | x :: xs, dp, h, hn => by
    rw [nbCs] at hn
    have hx0 : chC x dp = 0 := by
      rw [chCs] at h
      by_cases h0 : chC x dp = 0
      · exact h0
      · rw [if_neg h0] at h; exact h
    have hxs : chCs xs dp = 0 := by rw [chCs, if_pos hx0] at h; exact h
    rw [cellsS, cellsS, nbC_same d e x dp hx0 hn.1, nbCs_same d e xs dp hxs hn.2]
theorem nbC_same (d e : Int) : ∀ (x : S40) (dp : Nat), chC x dp = 0 → nbC x → txS d x = txS e x
  | ⟨k, n, b⟩, dp, h, hn => by
    rw [nbC] at hn
    rw [chC] at h
    rw [txS, txS]
    congr 1
    by_cases k0 : k = 0
    · rw [if_pos k0, if_pos k0]
      unfold numS
      rw [if_neg (by have := hn.1 k0; omega), if_neg (by have := hn.1 k0; omega)]
    · rw [if_neg k0, if_neg k0, nbB_same d e b k n dp h hn.2]
theorem nbB_same (d e : Int) : ∀ (b : List S25) (k n : Int) (dp : Nat), chB b k n dp = 0 → nbB b → boxS d b = boxS e b
  | [], k, n, dp, h, hn => by rw [boxS, boxS]
  | x :: xs, k, n, dp, h, hn => by
    rw [chB_cons] at h
    by_cases hc : k = 2 ∧ n = 0 ∧ xs.length = 0
    · rw [if_pos hc] at h
      split at h
      · cases h
      · rw [nbB] at hn
        rw [boxS, boxS, nb_same d e x (dp + 1) h (hn (List.eq_nil_of_length_eq_zero hc.2.2))]
    · rw [if_neg hc] at h; cases h
end
mutual
theorem beA_ev : ∀ (a : S25), okA a → ∃ b : Bool, (∃ K, ∀ k, K ≤ k → triglyphlaw27_below.f k a.f0 a.f1 = some b) ∧ (b = false → nbA a)
  | ⟨s, c⟩, h => by
    rw [okA] at h
    obtain ⟨_, hc, hcs⟩ := h
    obtain ⟨b, ⟨K, hK⟩, hb⟩ := beCs_ev c [] s hcs (by simpa using hc)
    refine ⟨b, ⟨K + 1, fun k hk => ?_⟩, fun h => by rw [nbA]; exact hb h⟩
    obtain ⟨k, rfl, hk2⟩ := succ_of hk
    simp only [triglyphlaw27_below.f]
    simpa using hK k hk2
theorem beCs_ev : ∀ (rest done : List S40) (s : List Int), okCs rest → (done ++ rest).length * 40 ≤ reachBytes → ∃ b : Bool, (∃ K, ∀ k, K ≤ k → triglyphlaw27_below.l0 k (done.length : Int) s (done ++ rest) = some b) ∧ (b = false → nbCs rest)
  | [], done, s, h, hl => ⟨false, ⟨1, fun k hk => by
      obtain ⟨k, rfl, _⟩ := succ_of (K := 0) hk
      simp only [triglyphlaw27_below.l0]
      rw [if_neg (by simp)]⟩, fun _ => by rw [nbCs]; trivial⟩
  | ⟨kk, nn, b⟩ :: xs, done, s, h, hl => by
    rw [okCs, okC] at h
    obtain ⟨⟨_, _, hbl, hb⟩, hxs⟩ := h
    have hs : done ++ ⟨kk, nn, b⟩ :: xs = (done ++ [⟨kk, nn, b⟩]) ++ xs := by simp
    have hl' := hl
    unfold reachBytes at hl'
    rw [List.length_append, List.length_cons] at hl'
    have hw : wrap64 ((done.length : Int) + 1) = ((done ++ [(⟨kk, nn, b⟩ : S40)]).length : Int) := wrap_next done _ (by omega)
    have hlen : ((done ++ (⟨kk, nn, b⟩ : S40) :: xs).length : Int) = done.length + 1 + xs.length := by simp; omega
    obtain ⟨b2, ⟨K2, hK2⟩, hb2⟩ := beCs_ev xs (done ++ [⟨kk, nn, b⟩]) s hxs (by rw [← hs]; exact hl)
    obtain ⟨b1, hx1, hb1⟩ := beB_ev b hb
    have hN : ∀ k, K2 ≤ k → triglyphlaw27_below.l0 k (wrap64 ((done.length : Int) + 1)) s (done ++ ⟨kk, nn, b⟩ :: xs) = some b2 := by
      intro k hk
      rw [hw, hs]
      exact hK2 k hk
    have hstep : ∀ k, triglyphlaw27_below.l0 (k + 1) (done.length : Int) s (done ++ ⟨kk, nn, b⟩ :: xs) = (if kk = 0 ∧ nn < 0 then some true else (if (b.length : Int) = 1 then (triglyphlaw27_below.f k ((rd_T25 b 0).f0) ((rd_T25 b 0).f1)).bind fun t420 => (if t420 = true then (some true) else (triglyphlaw27_below.l0 k (wrap64 ((done.length : Int) + 1)) s (done ++ ⟨kk, nn, b⟩ :: xs))) else triglyphlaw27_below.l0 k (wrap64 ((done.length : Int) + 1)) s (done ++ ⟨kk, nn, b⟩ :: xs))) := by
      intro k
      simp only [triglyphlaw27_below.l0]
      rw [if_pos (by omega), if_pos (by omega), rdC_mid]
      simp only
      by_cases h0 : kk = 0
      · rw [if_pos h0]
        by_cases h1 : nn < 0
        · rw [if_pos h1, if_pos ⟨h0, h1⟩]
        · have hz : ¬ (kk = 0 ∧ nn < 0) := fun h => h1 h.2
          rw [if_neg h1, if_neg hz]
          by_cases h2 : (b.length : Int) = 1
          · rw [if_pos h2, if_pos h2, if_pos (by omega)]
          · rw [if_neg h2, if_neg h2]
      · have hz : ¬ (kk = 0 ∧ nn < 0) := fun h => h0 h.1
        rw [if_neg h0, if_neg hz]
        by_cases h2 : (b.length : Int) = 1
        · rw [if_pos h2, if_pos h2, if_pos (by omega)]
        · rw [if_neg h2, if_neg h2]
    by_cases h0 : kk = 0 ∧ nn < 0
    · refine ⟨true, ⟨1, fun k hk => ?_⟩, fun h => by cases h⟩
      obtain ⟨k, rfl, _⟩ := succ_of (K := 0) hk
      rw [hstep, if_pos h0]
    · by_cases h1 : b.length = 1
      · obtain ⟨K1, hK1⟩ := hx1 h1
        refine ⟨b1 || b2, ⟨K1 + K2 + 1, fun k hk => ?_⟩, fun h => ?_⟩
        · obtain ⟨k, rfl, hk2⟩ := succ_of hk
          rw [hstep, if_neg h0, if_pos (by omega), hK1 k (by omega)]
          simp only [Option.bind_some]
          cases b1 with
          | true => rw [if_pos rfl]; rfl
          | false => rw [if_neg (by decide), hN k (by omega)]; rfl
        · rw [Bool.or_eq_false_iff] at h
          rw [nbCs, nbC]
          exact ⟨⟨fun hk => by rcases Int.lt_or_le nn 0 with hq | hq; exact absurd ⟨hk, hq⟩ h0; exact hq, hb1 h.1⟩, hb2 h.2⟩
      · refine ⟨b2, ⟨K2 + 1, fun k hk => ?_⟩, fun h => ?_⟩
        · obtain ⟨k, rfl, hk2⟩ := succ_of hk
          rw [hstep, if_neg h0, if_neg (by omega), hN k (by omega)]
        · rw [nbCs, nbC]
          refine ⟨⟨fun hk => by rcases Int.lt_or_le nn 0 with hq | hq; exact absurd ⟨hk, hq⟩ h0; exact hq, ?_⟩, hb2 h⟩
          cases b with
          | nil => rw [nbB]; trivial
          | cons y ys =>
            rw [nbB]
            rintro rfl
            exact absurd rfl h1
theorem beB_ev : ∀ (b : List S25), okAs b → ∃ v : Bool, (b.length = 1 → ∃ K, ∀ k, K ≤ k → triglyphlaw27_below.f k (rd_T25 b 0).f0 (rd_T25 b 0).f1 = some v) ∧ (v = false → nbB b)
  | [], h => ⟨false, fun h => (by cases h), fun _ => by rw [nbB]; trivial⟩
  | x :: xs, h => by
    rw [okAs] at h
    obtain ⟨b, hK, hb⟩ := beA_ev x h.1
    refine ⟨b, fun h1 => ?_, fun hv => ?_⟩
    · rw [rdA_zero]; exact hK
    · rw [nbB]; exact fun _ => hb hv
end
theorem alike_works (s : List Int) (c : List S40) : ∀ k, 81 ≤ k → triglyphlaw27_ShowAlike.j0 k true s c = some true := by
  intro k hk
  obtain ⟨k, rfl, hk2⟩ := succ_of (K := 80) hk
  simp only [triglyphlaw27_ShowAlike.j0]
  rw [if_pos True.intro, works_eq k hk2]
  rfl
theorem ShowAlike : ShowAlike.Pure := by
  intro s c h
  obtain ⟨b, ⟨K, hK⟩, hb⟩ := liA_ev ⟨s, c⟩ h
  cases b with
  | false =>
    refine ⟨K + 81, ?_⟩
    unfold triglyphlaw27_ShowAlike.f
    rw [hK _ (by omega)]
    simp only [Option.bind_some]
    rw [if_neg (by decide), alike_works _ _ _ (by omega)]
  | true =>
    obtain ⟨h1, h2⟩ := hb rfl
    obtain ⟨Kc, hKc⟩ := rcheck_eq ⟨s, c⟩ h
    by_cases hc : chA ⟨s, c⟩ 0 = 0
    · obtain ⟨v, ⟨Kb, hKb⟩, hv⟩ := beA_ev ⟨s, c⟩ h
      cases v with
      | true =>
        refine ⟨K + Kc + Kb + 81, ?_⟩
        unfold triglyphlaw27_ShowAlike.f
        rw [hK _ (by omega)]
        simp only [Option.bind_some]
        rw [if_pos True.intro, hKc _ (by omega)]
        simp only [Option.bind_some]
        rw [if_pos hc, hKb _ (by omega)]
        simp only [Option.bind_some]
        rw [alike_works _ _ _ (by omega)]
      | false =>
        obtain ⟨K0, hK0⟩ := show_eq 0 ⟨s, c⟩ h h1 h2
        obtain ⟨K1, hK1⟩ := show_eq 1 ⟨s, c⟩ h h1 h2
        obtain ⟨K2, hK2⟩ := show_eq 2 ⟨s, c⟩ h h1 h2
        have hn := hv rfl
        have e : ∀ d : Int, (d < 0 ∨ d > 2) = False → showS d ⟨s, c⟩ = (arrS 0 ⟨s, c⟩, 0) := by
          intro d hd
          unfold showS
          rw [if_neg (by rw [hd]; exact id), if_pos hc, nb_same d 0 ⟨s, c⟩ 0 hc hn]
        refine ⟨K + Kc + Kb + K0 + K1 + K2 + 82, ?_⟩
        unfold triglyphlaw27_ShowAlike.f
        rw [hK _ (by omega)]
        simp only [Option.bind_some]
        rw [if_pos True.intro, hKc _ (by omega)]
        simp only [Option.bind_some]
        rw [if_pos hc, hKb _ (by omega)]
        simp only [Option.bind_some, triglyphlaw27_ShowAlike.j0]
        rw [if_neg (by decide), hK0 _ (by omega)]
        simp only [Option.bind_some]
        rw [hK1 _ (by omega)]
        simp only [Option.bind_some]
        rw [hK2 _ (by omega)]
        simp only [Option.bind_some]
        rw [e 0 (by simp), e 1 (by simp), e 2 (by simp), works_eq _ (by omega)]
        simp
    · refine ⟨K + Kc + 81, ?_⟩
      unfold triglyphlaw27_ShowAlike.f
      rw [hK _ (by omega)]
      simp only [Option.bind_some]
      rw [if_pos True.intro, hKc _ (by omega)]
      simp only [Option.bind_some]
      rw [if_neg hc, alike_works _ _ _ (by omega)]
end Go.Proofs.Ytbijepjnbolpiaa.Pure
