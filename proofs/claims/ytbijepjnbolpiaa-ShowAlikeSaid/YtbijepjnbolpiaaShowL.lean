/- What the statements on show take, and that they work at all. Plain facts. -/
import Derived.Test.YtbijepjnbolpiaaShowC
import Derived.Test.YtbijepjnbolpiaaPx1
import Derived.Test.YtbijepjnbolpiaaPx10
import Derived.Test.YtbijepjnbolpiaaPx2
import Derived.Test.YtbijepjnbolpiaaPx5
import Derived.Test.YtbijepjnbolpiaaPx6
namespace Go.Proofs.Ytbijepjnbolpiaa.Pure
open Go.RowKit Go.Proofs.Ytbijepjnbolpiaa.P Go.Proofs.Ytbijepjnbolpiaa.Nest Go.Proofs.YtbijepjnbolpiaaW.PrintWords Go.Proofs.YtbijepjnbolpiaaW.PrintLast Go.Proofs.YtbijepjnbolpiaaW.PrintMore
set_option linter.unusedVariables false
set_option linter.unusedSimpArgs false
theorem li_l0 (s : List Int) (c : List S40) (hs : s.length ≤ 17592186044416) (P : Prop) (b0 : Bool) (hC : ∃ K, ∀ k, K ≤ k → ((triglyphref03_Weight.f k s c 1000).bind fun t => (if t > 1000 then (some false) else (triglyphlaw27_light.l1 k 0 s c))) = some b0) (hP : b0 = true → P) : ∀ (m i : Nat) (n : Int), 1 ≤ n → n ≤ 2000 → i + m = min 10 s.length →
    ∃ b : Bool, (∃ K, ∀ k, K ≤ k → triglyphlaw27_light.l0 k n (i : Int) s c = some b) ∧ (b = true → n * pm ((s.take 10).drop i) ≤ 2000 ∧ P) := by
  intro m
  induction m with
  | zero =>
    intro i n h1 h2 hi
    obtain ⟨K, hK⟩ := hC
    refine ⟨b0, ⟨K + 2, fun k hk => ?_⟩, fun hb => ⟨?_, hP hb⟩⟩
    · obtain ⟨k, rfl, hk2⟩ := succ_of (K := K + 1) hk
      obtain ⟨k, rfl, hk3⟩ := succ_of hk2
      simp only [triglyphlaw27_light.l0, triglyphlaw27_light.j1]
      have := hK k hk3
      by_cases hl : (i : Int) < s.length
      · rw [if_pos hl, decide_eq_false (by omega), if_neg (by decide)]; exact this
      · rw [if_neg hl, if_neg (by decide)]; exact this
    · rw [List.drop_of_length_le (by rw [List.length_take]; omega), pm]; omega
  | succ m ih =>
    intro i n h1 h2 hi
    have hlt : i < s.length := by omega
    have hrd : rd s (i : Int) = s[i] := by simp [rd, hlt]
    have hd : (s.take 10).drop i = s[i] :: (s.take 10).drop (i + 1) := by
      rw [List.drop_eq_getElem_cons (by rw [List.length_take]; omega)]
      simp
    have hstep : ∀ k, triglyphlaw27_light.l0 (k + 2) n (i : Int) s c = (if s[i] > 2000 then (some false) else (if s[i] > 1 then (if (wrap64 (n * s[i])) > 2000 then (some false) else (triglyphlaw27_light.l0 k (wrap64 (n * s[i])) ((i + 1 : Nat) : Int) s c)) else (if n > 2000 then (some false) else (triglyphlaw27_light.l0 k n ((i + 1 : Nat) : Int) s c)))) := by
      intro k
      simp only [triglyphlaw27_light.l0, triglyphlaw27_light.j1]
      rw [if_pos (by omega), decide_eq_true (by omega), if_pos rfl, if_pos (by omega), if_pos (by omega), hrd, wrap_in (show -9223372036854775808 ≤ (i : Int) + 1 by omega) (by omega)]
      rfl
    rw [hd, pm]
    have hq := pm_pos ((s.take 10).drop (i + 1))
    generalize hqe : pm ((s.take 10).drop (i + 1)) = q at hq ⊢
    generalize s[i] = x at *
    by_cases c1 : x > 2000
    · refine ⟨false, ⟨2, fun k hk => ?_⟩, fun h => by cases h⟩
      obtain ⟨k, rfl, hk2⟩ := succ_of (K := 1) hk
      obtain ⟨k, rfl, hk3⟩ := succ_of (K := 0) hk2
      rw [hstep, if_pos c1]
    · by_cases c2 : x > 1
      · have hb0 : 0 ≤ n * x := Int.mul_nonneg (by omega) (by omega)
        have hb1 : n * x ≤ 2000 * 2000 := Int.mul_le_mul h2 (by omega) (by omega) (by omega)
        have hw : wrap64 (n * x) = n * x := wrap_in (by omega) (by omega)
        by_cases c3 : n * x > 2000
        · refine ⟨false, ⟨2, fun k hk => ?_⟩, fun h => by cases h⟩
          obtain ⟨k, rfl, hk2⟩ := succ_of (K := 1) hk
          obtain ⟨k, rfl, hk3⟩ := succ_of (K := 0) hk2
          rw [hstep, if_neg c1, if_pos c2, hw, if_pos c3]
        · have hn1 : 1 ≤ n * x := by have := Int.mul_le_mul h1 (show (1 : Int) ≤ x by omega) (by omega) (by omega); omega
          obtain ⟨b, ⟨K, hK⟩, hb⟩ := ih (i + 1) (n * x) hn1 (by omega) (by omega)
          refine ⟨b, ⟨K + 2, fun k hk => ?_⟩, fun h => ?_⟩
          · obtain ⟨k, rfl, hk2⟩ := succ_of (K := K + 1) hk
            obtain ⟨k, rfl, hk3⟩ := succ_of hk2
            rw [hstep, if_neg c1, if_pos c2, hw, if_neg c3]
            exact hK k hk3
          · obtain ⟨p1, p2⟩ := hb h
            rw [hqe] at p1
            rw [if_neg (by omega), ← Int.mul_assoc]
            exact ⟨p1, p2⟩
      · obtain ⟨b, ⟨K, hK⟩, hb⟩ := ih (i + 1) n h1 h2 (by omega)
        refine ⟨b, ⟨K + 2, fun k hk => ?_⟩, fun h => ?_⟩
        · obtain ⟨k, rfl, hk2⟩ := succ_of (K := K + 1) hk
          obtain ⟨k, rfl, hk3⟩ := succ_of hk2
          rw [hstep, if_neg c1, if_neg c2, if_neg (by omega)]
          exact hK k hk3
        · obtain ⟨p1, p2⟩ := hb h
          rw [hqe] at p1
          rw [if_pos (by omega), Int.one_mul]
          exact ⟨p1, p2⟩
mutual
theorem liA_ev : ∀ (a : S25), okA a → ∃ b : Bool, (∃ K, ∀ k, K ≤ k → triglyphlaw27_light.f k a.f0 a.f1 = some b) ∧ (b = true → liA a ∧ wA a 1000 16 ≤ 1000)
  | ⟨s, c⟩, h => by
    have h' := h
    rw [okA] at h'
    obtain ⟨⟨hs, _⟩, hc, hcs⟩ := h'
    unfold reachBytes at hs
    obtain ⟨b1, ⟨K1, hK1⟩, hb1⟩ := liCs_ev c [] s hcs (by simpa using hc)
    obtain ⟨K2, hK2⟩ := weight_eq ⟨s, c⟩ 1000 h (by omega) (by omega)
    have hC : ∃ b0 : Bool, (∃ K, ∀ k, K ≤ k → ((triglyphref03_Weight.f k s c 1000).bind fun t => (if t > 1000 then (some false) else (triglyphlaw27_light.l1 k 0 s c))) = some b0) ∧ (b0 = true → liCs c ∧ wA ⟨s, c⟩ 1000 16 ≤ 1000) := by
      by_cases hw : wA ⟨s, c⟩ 1000 16 > 1000
      · refine ⟨false, ⟨K2, fun k hk => ?_⟩, fun h => by cases h⟩
        rw [hK2 k hk]
        simp only [Option.bind_some]
        rw [if_pos hw]
      · refine ⟨b1, ⟨K1 + K2, fun k hk => ?_⟩, fun h => ⟨hb1 h, by omega⟩⟩
        rw [hK2 k (by omega)]
        simp only [Option.bind_some]
        rw [if_neg hw]
        simpa using hK1 k (by omega)
    obtain ⟨b0, hC, hP⟩ := hC
    obtain ⟨b, ⟨K, hK⟩, hb⟩ := li_l0 s c (by omega) _ b0 hC hP (min 10 s.length) 0 1 (by omega) (by omega) (by omega)
    refine ⟨b, ⟨K + 1, fun k hk => ?_⟩, fun h => ?_⟩
    · obtain ⟨k, rfl, hk2⟩ := succ_of hk
      simp only [triglyphlaw27_light.f]
      exact hK k hk2
    · obtain ⟨p1, p2, p3⟩ := hb h
      rw [liA]
      rw [List.drop_zero, Int.one_mul] at p1
      exact ⟨⟨p1, p2⟩, p3⟩
theorem liCs_ev : ∀ (rest done : List S40) (s : List Int), okCs rest → (done ++ rest).length * 40 ≤ reachBytes → ∃ b : Bool, (∃ K, ∀ k, K ≤ k → triglyphlaw27_light.l1 k (done.length : Int) s (done ++ rest) = some b) ∧ (b = true → liCs rest)
  | [], done, s, h, hl => ⟨true, ⟨1, fun k hk => by
      obtain ⟨k, rfl, _⟩ := succ_of (K := 0) hk
      simp only [triglyphlaw27_light.l1]
      rw [if_neg (by simp)]⟩, fun _ => by rw [liCs]; trivial⟩
  | ⟨kk, nn, b⟩ :: xs, done, s, h, hl => by
    rw [okCs, okC] at h
    obtain ⟨⟨_, _, hbl, hb⟩, hxs⟩ := h
    have hs : done ++ ⟨kk, nn, b⟩ :: xs = (done ++ [⟨kk, nn, b⟩]) ++ xs := by simp
    have hl' := hl
    unfold reachBytes at hl'
    rw [List.length_append, List.length_cons] at hl'
    have hw : wrap64 ((done.length : Int) + 1) = ((done ++ [(⟨kk, nn, b⟩ : S40)]).length : Int) := wrap_next done _ (by omega)
    have hlen : ((done ++ (⟨kk, nn, b⟩ : S40) :: xs).length : Int) = done.length + 1 + xs.length := by simp; omega
    obtain ⟨b2, ⟨K2, hK2⟩, hb2⟩ := liCs_ev xs (done ++ [⟨kk, nn, b⟩]) s hxs (by rw [← hs]; exact hl)
    obtain ⟨b1, hx1, hb1⟩ := liB_ev b hb
    by_cases h1 : b.length = 1
    · obtain ⟨K1, hK1⟩ := hx1 h1
      refine ⟨b1 && b2, ⟨K1 + K2 + 1, fun k hk => ?_⟩, fun h => ?_⟩
      · obtain ⟨k, rfl, hk2⟩ := succ_of hk
        simp only [triglyphlaw27_light.l1]
        rw [if_pos (by omega), if_pos (by omega), rdC_mid, if_pos (by simp only; omega), if_pos (by simp only; omega), hK1 k (by omega)]
        simp only [Option.bind_some]
        have := hK2 k (by omega)
        rw [← hw, ← hs] at this
        cases b1 with
        | true => rw [if_pos rfl, this]; rfl
        | false => rw [if_neg (by decide)]; rfl
      · rw [Bool.and_eq_true] at h
        rw [liCs, liC]
        exact ⟨hb1 h.1, hb2 h.2⟩
    · refine ⟨b2, ⟨K2 + 1, fun k hk => ?_⟩, fun h => ?_⟩
      · obtain ⟨k, rfl, hk2⟩ := succ_of hk
        simp only [triglyphlaw27_light.l1]
        rw [if_pos (by omega), if_pos (by omega), rdC_mid, if_neg (by simp only; omega)]
        have := hK2 k (by omega)
        rw [← hw, ← hs] at this
        exact this
      · rw [liCs, liC]
        refine ⟨?_, hb2 h⟩
        cases b with
        | nil => rw [liB]; trivial
        | cons y ys =>
          rw [liB]
          rintro rfl
          exact absurd rfl h1
theorem liB_ev : ∀ (b : List S25), okAs b → ∃ v : Bool, (b.length = 1 → ∃ K, ∀ k, K ≤ k → triglyphlaw27_light.f k (rd_T25 b 0).f0 (rd_T25 b 0).f1 = some v) ∧ (v = true → liB b)
  | [], h => ⟨true, fun h => (by cases h), fun _ => by rw [liB]; trivial⟩
  | x :: xs, h => by
    rw [okAs] at h
    obtain ⟨b, hK, hb⟩ := liA_ev x h.1
    refine ⟨b, fun h1 => ?_, fun hv => ?_⟩
    · rw [rdA_zero]; exact hK
    · rw [liB]; exact fun _ => (hb hv).1
end
theorem works_eq : ∀ k, 80 ≤ k → triglyphlaw27_works.f k = some true := by
  intro k hk
  have h : triglyphlaw27_works.f 80 = some true := by kernel_rfl
  exact at_rounds triglyphlaw27_works.mono hk h
/-- What the package, and the reference, tell of a light array. -/
def showS (d : Int) (a : S25) : ByteArray × Int := if d < 0 ∨ d > 2 then (nilB, 1) else if chA a 0 = 0 then (arrS d a, 0) else (nilB, chA a 0)
theorem light_parts (d : Int) (a : S25) (h : okA a) (hl : liA a) (hw : wA a 1000 16 ≤ 1000) (hc : chA a 0 = 0) : Fit d a.f0 a.f1 ∧ (∀ x ∈ a.f1, GoC d x ∧ RfC d x) := by
  have := ms_wA a 1000 16 hw
  obtain ⟨h1, h2, _⟩ := evA d a 0 h hc hl (by omega)
  exact ⟨h1, h2⟩
theorem arrS_lay (d : Int) (a : S25) : lay a.f0 (a.f1.map (txS d)) = arrS d a := by
  obtain ⟨s, c⟩ := a
  rw [arrS, cellsS_map]
theorem show_eq (d : Int) (a : S25) (h : okA a) (hl : liA a) (hw : wA a 1000 16 ≤ 1000) : ∃ K, ∀ k, K ≤ k → show_Show.f k d a.f0 a.f1 = some (showS d a) := by
  have hj : ∃ K, ∀ k, K ≤ k → ∀ x : Bool, x = decide (d < 0 ∨ d > 2) → show_Show.j0 k d x a.f0 a.f1 = some (showS d a) := by
    unfold showS
    by_cases hd : d < 0 ∨ d > 2
    · refine ⟨1, fun k hk x hx => ?_⟩
      obtain ⟨k, rfl, _⟩ := succ_of (K := 0) hk
      simp only [show_Show.j0]
      rw [hx, decide_eq_true hd, if_pos rfl, if_pos hd]
    · rw [if_neg hd]
      obtain ⟨K, hK⟩ := check_eq a h
      by_cases hc : chA a 0 = 0
      · obtain ⟨h1, h2⟩ := light_parts d a h hl hw hc
        obtain ⟨K2, hK2⟩ := g_arr d a.f0 a.f1 h1 (fun x hx => (h2 x hx).1)
        refine ⟨K + K2 + 1, fun k hk x hx => ?_⟩
        obtain ⟨k, rfl, hk2⟩ := succ_of hk
        simp only [show_Show.j0]
        rw [hx, decide_eq_false hd, if_neg (by decide), hK k (by omega)]
        simp only [Option.bind_some]
        rw [if_pos hc, if_pos hc, hK2 k (by omega), arrS_lay]
        rfl
      · refine ⟨K + 1, fun k hk x hx => ?_⟩
        obtain ⟨k, rfl, hk2⟩ := succ_of hk
        simp only [show_Show.j0]
        rw [hx, decide_eq_false hd, if_neg (by decide), hK k (by omega)]
        simp only [Option.bind_some]
        rw [if_neg hc, if_neg hc]
  obtain ⟨K, hK⟩ := hj
  refine ⟨K, fun k hk => ?_⟩
  unfold show_Show.f
  by_cases hd : d < 0
  · rw [if_pos hd, hK k hk _ (by rw [decide_eq_true (.inl hd)])]
  · rw [if_neg hd, hK k hk _ (by simp [hd])]
end Go.Proofs.Ytbijepjnbolpiaa.Pure
