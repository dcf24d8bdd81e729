/- What may be: as the package tells it. -/
import Derived.Test.YtahgfebdjjfkhaaArr1
import Derived.Test.YtahgfebdjjfkhaaPx12
import Derived.Test.YtahgfebdjjfkhaaPx2
import Derived.Test.YtahgfebdjjfkhaaPx3
namespace Go.Proofs.Ytahgfebdjjfkhaa.Pure
open Go.RowKit Go.Proofs.Ytahgfebdjjfkhaa.P Go.Proofs.Ytahgfebdjjfkhaa.Nest Go.Proofs.YtahgfebdjjfkhaaW.PrintWords Go.Proofs.YtahgfebdjjfkhaaW.PrintLast Go.Proofs.YtahgfebdjjfkhaaW.PrintMore
set_option linter.unusedVariables false
set_option linter.unusedSimpArgs false
def goodI (n : Int) : Bool := decide (0 ≤ n ∧ n ≤ 1114111 ∧ ¬ (55296 ≤ n ∧ n ≤ 57343))
mutual
def chA : S25 → Nat → Int
  | ⟨s, c⟩, d => if (sizeS s).2 = 0 then (if (sizeS s).1 = (c.length : Int) then (if s.any (16384 < ·) = true then 12 else chCs c d) else 1) else (sizeS s).2
def chCs : List S43 → Nat → Int
  | [], _ => 0
  | x :: xs, d => if chC x d = 0 then chCs xs d else chC x d
def chC : S43 → Nat → Int
  | ⟨k, n, b⟩, d => chB b k n d
def chB : List S25 → Int → Int → Nat → Int
  | [], k, n, _ => if k = 0 then 0 else if k = 1 then (if goodI n = true then 0 else 1) else 1
  | x :: xs, k, n, d => if k = 2 ∧ n = 0 ∧ xs = [] then (if 8 ≤ d then 15 else chA x (d + 1)) else 1
end
theorem chB_cons (x : S25) (xs : List S25) (k n : Int) (d : Nat) : chB (x :: xs) k n d = if k = 2 ∧ n = 0 ∧ xs.length = 0 then (if 8 ≤ d then 15 else chA x (d + 1)) else 1 := by
  rw [chB]
  cases xs <;> simp
theorem good_eq (n : Int) : arr_good.f n = some (goodI n) := by
  unfold arr_good.f goodI
  repeat' split
  all_goals (congr 1; first | (apply Bool.eq_iff_iff.2; simp; omega) | (symm; simp; omega))
theorem rgood_eq (n : Int) : triglyphref02_Good.f n = some (goodI n) := by
  unfold triglyphref02_Good.f goodI
  repeat' split
  all_goals (congr 1; first | (apply Bool.eq_iff_iff.2; simp; omega) | (symm; simp; omega))
theorem rdA_zero (x : S25) (xs : List S25) : rd_T25 (x :: xs) 0 = x := rdA_mid [] x xs
theorem ck_l0 (d : Nat) (s : List Int) (c : List S43) (R : Int) (K : Nat) (H : ∀ k, K ≤ k → arr_check.l1 k (d : Int) c (c.length : Int) 0 = some R) : ∀ (rest done : List Int), (done ++ rest).length ≤ 8 →
    ∃ K, ∀ k, K ≤ k → arr_check.l0 k (d : Int) (done ++ rest) ((done ++ rest).length : Int) (done.length : Int) s c = some (if rest.any (16384 < ·) = true then 12 else R)
  | [], done, hl => by
    refine ⟨K + 1, fun k hk => ?_⟩
    obtain ⟨k, rfl, hk2⟩ := succ_of hk
    simp only [arr_check.l0]
    rw [if_neg (by simp), H k hk2]
    simp
  | x :: rest, done, hl => by
    have hs : done ++ x :: rest = (done ++ [x]) ++ rest := by simp
    have hl2 : done.length + 1 + rest.length ≤ 8 := by simp at hl; omega
    have hlen : ((done ++ x :: rest).length : Int) = done.length + 1 + rest.length := by simp; omega
    by_cases hx : 16384 < x
    · refine ⟨1, fun k hk => ?_⟩
      obtain ⟨k, rfl, _⟩ := succ_of (K := 0) hk
      simp only [arr_check.l0]
      rw [if_pos (by omega), if_pos (by omega), if_pos (by omega), rd_mid, if_pos (by omega)]
      simp [hx]
    · obtain ⟨K2, hK2⟩ := ck_l0 d s c R K H rest (done ++ [x]) (by rw [← hs]; exact hl)
      refine ⟨K2 + 1, fun k hk => ?_⟩
      obtain ⟨k, rfl, hk2⟩ := succ_of hk
      simp only [arr_check.l0]
      rw [if_pos (by omega), if_pos (by omega), if_pos (by omega), rd_mid, if_neg (by omega), wrap_next _ x (by omega), hs, hK2 k hk2]
      simp [hx]
theorem ck_step (d : Nat) (done rest : List S43) (x : S43) (k : Nat) : arr_check.l1 (k + 1) (d : Int) (done ++ x :: rest) ((done ++ x :: rest).length : Int) (done.length : Int) = arr_check.j2 k (d : Int) (done ++ x :: rest) ((done ++ x :: rest).length : Int) (done.length : Int) (decide (x.f0 = 2 ∧ x.f1 = 0 ∧ x.f2.length = 1)) x.f0 x.f1 x.f2 := by
  have hlen : ((done ++ x :: rest).length : Int) = done.length + 1 + rest.length := by simp; omega
  simp only [arr_check.l1]
  rw [if_pos (by omega), if_pos (by omega), if_pos (by omega), rdC_mid]
  by_cases h1 : x.f0 = 2
  · rw [if_pos h1]
    by_cases h2 : x.f1 = 0
    · rw [if_pos h2]
      congr 1
      by_cases h3 : x.f2.length = 1
      · simp [h1, h2, h3]
      · have h4 : ¬ ((x.f2.length : Int) = 1) := by omega
        simp [h1, h2, h3, h4]
    · rw [if_neg h2]
      simp [h2]
  · rw [if_neg h1]
    simp [h1]
mutual
theorem ck_evA : ∀ (a : S25) (d : Nat), okA a → d ≤ 8 → ∃ K, ∀ k, K ≤ k → arr_check.f k a.f0 a.f1 (d : Int) = some (chA a d)
  | ⟨s, c⟩, d, h, hd => by
    rw [okA] at h
    obtain ⟨_, hc, hcs⟩ := h
    obtain ⟨K0, hK0⟩ := size_eq s
    obtain ⟨K1, hK1⟩ := ck_evCs c [] d hcs (by simpa using hc) hd
    rw [chA]
    by_cases h1 : (sizeS s).2 = 0
    · obtain ⟨K2, hK2⟩ := ck_l0 d s c (chCs c d) K1 (fun k hk => by simpa using hK1 k hk) s [] (by simpa using sizeS_len h1)
      rw [if_pos h1]
      refine ⟨K0 + K2 + 1, fun k hk => ?_⟩
      obtain ⟨k, rfl, hk2⟩ := succ_of hk
      simp only [arr_check.f]
      rw [hK0 k (by omega)]
      simp only [Option.bind_some]
      rw [if_pos h1]
      by_cases h2 : (sizeS s).1 = (c.length : Int)
      · rw [if_pos h2, if_pos h2]
        simpa using hK2 k (by omega)
      · rw [if_neg h2, if_neg h2]
    · rw [if_neg h1]
      refine ⟨K0 + 1, fun k hk => ?_⟩
      obtain ⟨k, rfl, hk2⟩ := succ_of hk
      simp only [arr_check.f]
      rw [hK0 k (by omega)]
      simp only [Option.bind_some]
      rw [if_neg h1]
theorem ck_evCs : ∀ (rest done : List S43) (d : Nat), okCs rest → (done ++ rest).length * 40 ≤ reachBytes → d ≤ 8 →
    ∃ K, ∀ k, K ≤ k → arr_check.l1 k (d : Int) (done ++ rest) ((done ++ rest).length : Int) (done.length : Int) = some (chCs rest d)
  | [], done, d, h, hl, hd => by
    refine ⟨1, fun k hk => ?_⟩
    obtain ⟨k, rfl, _⟩ := succ_of (K := 0) hk
    simp only [arr_check.l1]
    rw [if_neg (by simp), chCs]
  | ⟨kk, nn, b⟩ :: xs, done, d, h, hl, hd => by
    rw [okCs, okC] at h
    obtain ⟨⟨_, _, hbl, hb⟩, hxs⟩ := h
    have hs : done ++ ⟨kk, nn, b⟩ :: xs = (done ++ [⟨kk, nn, b⟩]) ++ xs := by simp
    have hl' := hl
    unfold reachBytes at hl'
    rw [List.length_append, List.length_cons] at hl'
    have hw : wrap64 ((done.length : Int) + 1) = ((done ++ [(⟨kk, nn, b⟩ : S43)]).length : Int) := wrap_next done _ (by omega)
    obtain ⟨K, hK⟩ := ck_evCs xs (done ++ [⟨kk, nn, b⟩]) d hxs (by rw [← hs]; exact hl) hd
    have hN : ∀ k, K ≤ k → arr_check.l1 k (d : Int) (done ++ ⟨kk, nn, b⟩ :: xs) ((done ++ ⟨kk, nn, b⟩ :: xs).length : Int) (wrap64 ((done.length : Int) + 1)) = some (chCs xs d) := by
      intro k hk
      rw [hw, hs]
      exact hK k hk
    rw [chCs, chC]
    obtain ⟨K1, hK1⟩ := ck_evB b kk nn d hb hd
    refine ⟨K + K1 + 2, fun k hk => ?_⟩
    obtain ⟨k, rfl, hk2⟩ := succ_of (K := K + K1 + 1) hk
    obtain ⟨k, rfl, hk3⟩ := succ_of hk2
    rw [ck_step]
    exact hK1 k (by omega) _ _ _ _ (hN k (by omega))
theorem ck_evB : ∀ (b : List S25) (kk nn : Int) (d : Nat), okAs b → d ≤ 8 →
    ∃ K, ∀ k, K ≤ k → ∀ (L : List S43) (i j : Int) (R : Int), arr_check.l1 k (d : Int) L i (wrap64 (j + 1)) = some R → arr_check.j2 (k + 1) (d : Int) L i j (decide (kk = 2 ∧ nn = 0 ∧ b.length = 1)) kk nn b = some (if chB b kk nn d = 0 then R else chB b kk nn d)
  | [], kk, nn, d, h, hd => by
    refine ⟨0, fun k hk L i j R H => ?_⟩
    simp only [arr_check.j2]
    rw [if_neg (by simp), if_neg (by simp), chB]
    by_cases h0 : kk = 0
    · rw [if_pos h0, if_pos h0, if_pos rfl, H]
    · rw [if_neg h0, if_neg h0]
      by_cases h1 : kk = 1
      · rw [if_pos h1, if_pos h1, good_eq]
        simp only [Option.bind_some]
        by_cases h2 : goodI nn = true
        · rw [if_pos h2, if_pos h2, if_pos rfl, H]
        · rw [if_neg h2, if_neg h2, if_neg (by omega)]
      · rw [if_neg h1, if_neg h1, if_neg (by omega)]
  | x :: xs, kk, nn, d, h, hd => by
    rw [okAs] at h
    rw [chB_cons]
    by_cases hc : kk = 2 ∧ nn = 0 ∧ xs.length = 0
    · have hc2 : kk = 2 ∧ nn = 0 ∧ (x :: xs).length = 1 := ⟨hc.1, hc.2.1, by rw [List.length_cons]; omega⟩
      rw [if_pos hc]
      by_cases h8 : 8 ≤ d
      · refine ⟨0, fun k hk L i j R H => ?_⟩
        simp only [arr_check.j2]
        rw [decide_eq_true hc2, if_pos rfl, if_pos (by omega), if_pos h8, if_neg (by omega)]
      · obtain ⟨K, hK⟩ := ck_evA x (d + 1) h.1 (by omega)
        refine ⟨K, fun k hk L i j R H => ?_⟩
        simp only [arr_check.j2]
        have hw : wrap64 ((d : Int) + 1) = ((d + 1 : Nat) : Int) := by rw [wrap_in (by omega) (by omega)]; omega
        rw [decide_eq_true hc2, if_pos rfl, if_neg (by omega), if_pos (by rw [List.length_cons]; omega), rdA_zero, hw, hK k hk, if_neg h8]
        simp only [Option.bind_some]
        by_cases h3 : chA x (d + 1) = 0
        · rw [if_pos h3, if_pos h3, H]
        · rw [if_neg h3, if_neg h3]
    · have hc2 : ¬ (kk = 2 ∧ nn = 0 ∧ (x :: xs).length = 1) := fun h => hc ⟨h.1, h.2.1, by have := h.2.2; rw [List.length_cons] at this; omega⟩
      refine ⟨0, fun k hk L i j R H => ?_⟩
      simp only [arr_check.j2]
      rw [decide_eq_false hc2, if_neg (by simp), if_pos (by rw [List.length_cons]; omega), if_neg hc, if_neg (by omega)]
end
theorem check_eq (a : S25) (h : okA a) : ∃ K, ∀ k, K ≤ k → arr_Check.f k a.f0 a.f1 = some (chA a 0) := by
  obtain ⟨K, hK⟩ := ck_evA a 0 h (by omega)
  refine ⟨K, fun k hk => ?_⟩
  unfold arr_Check.f
  have := hK k hk
  rw [show ((0 : Nat) : Int) = 0 from rfl] at this
  rw [this]
  rfl
end Go.Proofs.Ytahgfebdjjfkhaa.Pure
