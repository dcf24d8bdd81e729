/- What is light, what may be, and how deep an array is: both packages tell the same. -/
import Derived.Test.YtlnphoeogpfjkaaArr2
import Derived.Test.YtlnphoeogpfjkaaPx1
import Derived.Test.YtlnphoeogpfjkaaPx2
import Derived.Test.YtlnphoeogpfjkaaPx3
import Derived.Test.YtlnphoeogpfjkaaPx7
namespace Go.Proofs.Ytlnphoeogpfjkaa.Pure
open Go.RowKit Go.Proofs.Ytlnphoeogpfjkaa.P Go.Proofs.Ytlnphoeogpfjkaa.Nest Go.Proofs.YtlnphoeogpfjkaaW.PrintWords Go.Proofs.YtlnphoeogpfjkaaW.PrintLast Go.Proofs.YtlnphoeogpfjkaaW.PrintMore
set_option linter.unusedVariables false
set_option linter.unusedSimpArgs false

/-! a weight is no less than what was counted -/
mutual
theorem wA_ge : ∀ (a : S25) (most : Int) (deep : Nat), (a.f0.length : Int) + a.f1.length ≤ wA a most deep
  | ⟨s, c⟩, most, deep => by
    rw [wA]
    have := wCs_ge c ((c.length : Int) + (s.length : Int)) most deep
    simp only
    omega
theorem wCs_ge : ∀ (c : List S28) (n most : Int) (deep : Nat), n ≤ wCs c n most deep
  | [], n, most, deep => by rw [wCs]; omega
  | x :: xs, n, most, deep => by
    rw [wCs]
    split
    · have h1 := wC_ge x n most deep
      have h2 := wCs_ge xs (wC x n most deep) most deep
      omega
    · omega
theorem wC_ge : ∀ (x : S28) (n most : Int) (deep : Nat), n ≤ wC x n most deep
  | ⟨_, _, b⟩, n, most, deep => by rw [wC]; exact wB_ge b n most deep
theorem wB_ge : ∀ (b : List S25) (n most : Int) (deep : Nat), n ≤ wB b n most deep
  | [], n, most, deep => by rw [wB_none]; omega
  | x :: xs, n, most, deep => by
    rw [wB_cons]
    split
    · cases deep with
      | zero => simp only; omega
      | succ d =>
        simp only
        have h1 := wA_ge x (most - n) d
        have h2 := wB_ge xs (n + 1 + wA x (most - n) d) most (d + 1)
        omega
    · omega
end
theorem wB_len : ∀ (b : List S25) (n most : Int) (deep : Nat), wB b n most deep ≤ most → n + b.length ≤ wB b n most deep
  | [], n, most, deep, _ => by rw [wB_none]; simp
  | x :: xs, n, most, deep, h => by
    rw [wB_cons] at h ⊢
    split
    · rename_i hn
      rw [if_pos hn] at h
      cases deep with
      | zero => simp only at h; omega
      | succ d =>
        simp only at h ⊢
        have h1 := wA_ge x (most - n) d
        have h2 := wB_len xs (n + 1 + wA x (most - n) d) most (d + 1) h
        rw [List.length_cons]
        omega
    · rename_i hn
      rw [if_neg hn] at h
      omega
mutual
theorem smA_of : ∀ (a : S25) (most : Int) (deep : Nat), most ≤ 4000 → wA a most deep ≤ most → smA a deep
  | ⟨s, c⟩, most, deep, hm, h => by
    rw [wA] at h
    have := wCs_ge c ((c.length : Int) + (s.length : Int)) most deep
    rw [smA]
    exact ⟨by omega, by omega, smCs_of c _ most deep hm (by omega) h⟩
theorem smCs_of : ∀ (c : List S28) (n most : Int) (deep : Nat), most ≤ 4000 → 0 ≤ n → wCs c n most deep ≤ most → smCs c deep
  | [], n, most, deep, _, _, _ => by rw [smCs]; trivial
  | x :: xs, n, most, deep, hm, h0, h => by
    rw [wCs] at h
    rw [smCs]
    split at h
    · have h1 := wC_ge x n most deep
      have h2 := wCs_ge xs (wC x n most deep) most deep
      exact ⟨smC_of x n most deep hm h0 (by omega), smCs_of xs _ most deep hm (by omega) h⟩
    · omega
theorem smC_of : ∀ (x : S28) (n most : Int) (deep : Nat), most ≤ 4000 → 0 ≤ n → wC x n most deep ≤ most → smC x deep
  | ⟨_, _, b⟩, n, most, deep, hm, h0, h => by
    rw [wC] at h
    rw [smC]
    have := wB_len b n most deep h
    exact ⟨by omega, smB_of b n most deep hm h0 h⟩
theorem smB_of : ∀ (b : List S25) (n most : Int) (deep : Nat), most ≤ 4000 → 0 ≤ n → wB b n most deep ≤ most → smB b deep
  | [], n, most, deep, _, _, _ => by rw [smB]; trivial
  | x :: xs, n, most, deep, hm, h0, h => by
    rw [wB_cons] at h
    rw [smB]
    split at h
    · cases deep with
      | zero => simp only at h; omega
      | succ d =>
        simp only at h
        have h1 := wA_ge x (most - n) d
        have h2 := wB_ge xs (n + 1 + wA x (most - n) d) most (d + 1)
        exact ⟨⟨d, rfl, smA_of x (most - n) d (by omega) (by omega)⟩, smB_of xs _ most (d + 1) hm (by omega) h⟩
    · omega
end
/-- What the statements take: no more than is waited for. -/
def lightS (a : S25) : Bool := decide (wA a 4000 16 ≤ 4000)
theorem light_sm {a : S25} (h : lightS a = true) : smA a 16 := smA_of a 4000 16 (by omega) (of_decide_eq_true h)
theorem weight_eq (a : S25) (most : Int) (h : okA a) (h0 : 0 ≤ most) (h1 : most ≤ 4000) : ∃ K, ∀ k, K ≤ k → triglyphref03_Weight.f k a.f0 a.f1 most = some (wA a most 16) := by
  obtain ⟨K, hK⟩ := w_evA a most 16 h h0 h1 (by omega)
  refine ⟨K, fun k hk => ?_⟩
  unfold triglyphref03_Weight.f
  rw [show (16 : Int) = ((16 : Nat) : Int) from rfl, hK k hk]
  rfl

/-! what may be -/
def goodI (n : Int) : Bool := decide (0 ≤ n ∧ n ≤ 1114111 ∧ ¬ (55296 ≤ n ∧ n ≤ 57343))
mutual
def chA : S25 → Nat → Int
  | ⟨s, c⟩, d => if (sizeS s).2 = 0 then (if (sizeS s).1 = (c.length : Int) then (if s.any (16384 < ·) = true then 12 else chCs c d) else 1) else (sizeS s).2
def chCs : List S28 → Nat → Int
  | [], _ => 0
  | x :: xs, d => if chC x d = 0 then chCs xs d else chC x d
def chC : S28 → Nat → Int
  | ⟨k, n, b⟩, d => chB b k n d
def chB : List S25 → Int → Int → Nat → Int
  | [], k, n, _ => if k = 0 then 0 else if k = 1 then (if goodI n = true then 0 else 1) else 1
  | x :: xs, k, n, d => if k = 2 ∧ n = 0 ∧ xs = [] then (if 8 ≤ d then 15 else chA x (d + 1)) else 1
end
theorem chB_cons (x : S25) (xs : List S25) (k n : Int) (d : Nat) : chB (x :: xs) k n d = if k = 2 ∧ n = 0 ∧ xs.length = 0 then (if 8 ≤ d then 15 else chA x (d + 1)) else 1 := by
  rw [chB]
  cases xs <;> simp
theorem good_eq (n : Int) : arr_good.f n = some (goodI n) := by
  unfold arr_good.f goodI
  repeat' split
  all_goals (congr 1; first | (apply Bool.eq_iff_iff.2; simp; omega) | (symm; simp; omega))
theorem rgood_eq (n : Int) : triglyphref02_Good.f n = some (goodI n) := by
  unfold triglyphref02_Good.f goodI
  repeat' split
  all_goals (congr 1; first | (apply Bool.eq_iff_iff.2; simp; omega) | (symm; simp; omega))
theorem rdA_zero (x : S25) (xs : List S25) : rd_T25 (x :: xs) 0 = x := rdA_mid [] x xs
theorem ck_l0 (d : Nat) (s : List Int) (c : List S28) (R : Int) (K : Nat) (H : ∀ k, K ≤ k → arr_check.l1 k (d : Int) c (c.length : Int) 0 = some R) : ∀ (rest done : List Int), (done ++ rest).length ≤ 8 →
    ∃ K, ∀ k, K ≤ k → arr_check.l0 k (d : Int) (done ++ rest) ((done ++ rest).length : Int) (done.length : Int) s c = some (if rest.any (16384 < ·) = true then 12 else R)
  | [], done, hl => by
    refine ⟨K + 1, fun k hk => ?_⟩
    obtain ⟨k, rfl, hk2⟩ := succ_of hk
    simp only [arr_check.l0]
    rw [if_neg (by simp), H k hk2]
    simp
  | x :: rest, done, hl => by
    have hs : done ++ x :: rest = (done ++ [x]) ++ rest := by simp
    have hl2 : done.length + 1 + rest.length ≤ 8 := by simp at hl; omega
    have hlen : ((done ++ x :: rest).length : Int) = done.length + 1 + rest.length := by simp; omega
    by_cases hx : 16384 < x
    · refine ⟨1, fun k hk => ?_⟩
      obtain ⟨k, rfl, _⟩ := succ_of (K := 0) hk
      simp only [arr_check.l0]
      rw [if_pos (by omega), if_pos (by omega), if_pos (by omega), rd_mid, if_pos (by omega)]
      simp [hx]
    · obtain ⟨K2, hK2⟩ := ck_l0 d s c R K H rest (done ++ [x]) (by rw [← hs]; exact hl)
      refine ⟨K2 + 1, fun k hk => ?_⟩
      obtain ⟨k, rfl, hk2⟩ := succ_of hk
      simp only [arr_check.l0]
      rw [if_pos (by omega), if_pos (by omega), if_pos (by omega), rd_mid, if_neg (by omega), wrap_next _ x (by omega), hs, hK2 k hk2]
      simp [hx]
theorem ck_step (d : Nat) (done rest : List S28) (x : S28) (k : Nat) : arr_check.l1 (k + 1) (d : Int) (done ++ x :: rest) ((done ++ x :: rest).length : Int) (done.length : Int) = arr_check.j2 k (d : Int) (done ++ x :: rest) ((done ++ x :: rest).length : Int) (done.length : Int) (decide (x.f0 = 2 ∧ x.f1 = 0 ∧ x.f2.length = 1)) x.f0 x.f1 x.f2 := by
  have hlen : ((done ++ x :: rest).length : Int) = done.length + 1 + rest.length := by simp; omega
  simp only [arr_check.l1]
  rw [if_pos (by omega), if_pos (by omega), if_pos (by omega), rdC_mid]
  by_cases h1 : x.f0 = 2
  · rw [if_pos h1]
    by_cases h2 : x.f1 = 0
    · rw [if_pos h2]
      congr 1
      by_cases h3 : x.f2.length = 1
      · simp [h1, h2, h3]
      · have h4 : ¬ ((x.f2.length : Int) = 1) := by omega
        simp [h1, h2, h3, h4]
    · rw [if_neg h2]
      simp [h2]
  · rw [if_neg h1]
    simp [h1]
mutual
theorem ck_evA : ∀ (a : S25) (d : Nat), okA a → d ≤ 8 → ∃ K, ∀ k, K ≤ k → arr_check.f k a.f0 a.f1 (d : Int) = some (chA a d)
  | ⟨s, c⟩, d, h, hd => by
    rw [okA] at h
    obtain ⟨_, hc, hcs⟩ := h
    obtain ⟨K0, hK0⟩ := size_eq s
    obtain ⟨K1, hK1⟩ := ck_evCs c [] d hcs (by simpa using hc) hd
    rw [chA]
    by_cases h1 : (sizeS s).2 = 0
    · obtain ⟨K2, hK2⟩ := ck_l0 d s c (chCs c d) K1 (fun k hk => by simpa using hK1 k hk) s [] (by simpa using sizeS_len h1)
      rw [if_pos h1]
      refine ⟨K0 + K2 + 1, fun k hk => ?_⟩
      obtain ⟨k, rfl, hk2⟩ := succ_of hk
      simp only [arr_check.f]
      rw [hK0 k (by omega)]
      simp only [Option.bind_some]
      rw [if_pos h1]
      by_cases h2 : (sizeS s).1 = (c.length : Int)
      · rw [if_pos h2, if_pos h2]
        simpa using hK2 k (by omega)
      · rw [if_neg h2, if_neg h2]
    · rw [if_neg h1]
      refine ⟨K0 + 1, fun k hk => ?_⟩
      obtain ⟨k, rfl, hk2⟩ := succ_of hk
      simp only [arr_check.f]
      rw [hK0 k (by omega)]
      simp only [Option.bind_some]
      rw [if_neg h1]
theorem ck_evCs : ∀ (rest done : List S28) (d : Nat), okCs rest → (done ++ rest).length * 40 ≤ reachBytes → d ≤ 8 →
    ∃ K, ∀ k, K ≤ k → arr_check.l1 k (d : Int) (done ++ rest) ((done ++ rest).length : Int) (done.length : Int) = some (chCs rest d)
  | [], done, d, h, hl, hd => by
    refine ⟨1, fun k hk => ?_⟩
    obtain ⟨k, rfl, _⟩ := succ_of (K := 0) hk
    simp only [arr_check.l1]
    rw [if_neg (by simp), chCs]
  | ⟨kk, nn, b⟩ :: xs, done, d, h, hl, hd => by
    rw [okCs, okC] at h
    obtain ⟨⟨_, _, hbl, hb⟩, hxs⟩ := h
    have hs : done ++ ⟨kk, nn, b⟩ :: xs = (done ++ [⟨kk, nn, b⟩]) ++ xs := by simp
    have hl' := hl
    unfold reachBytes at hl'
    rw [List.length_append, List.length_cons] at hl'
    have hw : wrap64 ((done.length : Int) + 1) = ((done ++ [(⟨kk, nn, b⟩ : S28)]).length : Int) := wrap_next done _ (by omega)
    obtain ⟨K, hK⟩ := ck_evCs xs (done ++ [⟨kk, nn, b⟩]) d hxs (by rw [← hs]; exact hl) hd
    have hN : ∀ k, K ≤ k → arr_check.l1 k (d : Int) (done ++ ⟨kk, nn, b⟩ :: xs) ((done ++ ⟨kk, nn, b⟩ :: xs).length : Int) (wrap64 ((done.length : Int) + 1)) = some (chCs xs d) := by
      intro k hk
      rw [hw, hs]
      exact hK k hk
    rw [chCs, chC]
    obtain ⟨K1, hK1⟩ := ck_evB b kk nn d hb hd
    refine ⟨K + K1 + 2, fun k hk => ?_⟩
    obtain ⟨k, rfl, hk2⟩ := succ_of (K := K + K1 + 1) hk
    obtain ⟨k, rfl, hk3⟩ := succ_of hk2
    rw [ck_step]
    exact hK1 k (by omega) _ _ _ _ (hN k (by omega))
theorem ck_evB : ∀ (b : List S25) (kk nn : Int) (d : Nat), okAs b → d ≤ 8 →
    ∃ K, ∀ k, K ≤ k → ∀ (L : List S28) (i j : Int) (R : Int), arr_check.l1 k (d : Int) L i (wrap64 (j + 1)) = some R → arr_check.j2 (k + 1) (d : Int) L i j (decide (kk = 2 ∧ nn = 0 ∧ b.length = 1)) kk nn b = some (if chB b kk nn d = 0 then R else chB b kk nn d)
  | [], kk, nn, d, h, hd => by
    refine ⟨0, fun k hk L i j R H => ?_⟩
    simp only [arr_check.j2]
    rw [if_neg (by simp), if_neg (by simp), chB]
    by_cases h0 : kk = 0
    · rw [if_pos h0, if_pos h0, if_pos rfl, H]
    · rw [if_neg h0, if_neg h0]
      by_cases h1 : kk = 1
      · rw [if_pos h1, if_pos h1, good_eq]
        simp only [Option.bind_some]
        by_cases h2 : goodI nn = true
        · rw [if_pos h2, if_pos h2, if_pos rfl, H]
        · rw [if_neg h2, if_neg h2, if_neg (by omega)]
      · rw [if_neg h1, if_neg h1, if_neg (by omega)]
  | x :: xs, kk, nn, d, h, hd => by
    rw [okAs] at h
    rw [chB_cons]
    by_cases hc : kk = 2 ∧ nn = 0 ∧ xs.length = 0
    · have hc2 : kk = 2 ∧ nn = 0 ∧ (x :: xs).length = 1 := ⟨hc.1, hc.2.1, by rw [List.length_cons]; omega⟩
      rw [if_pos hc]
      by_cases h8 : 8 ≤ d
      · refine ⟨0, fun k hk L i j R H => ?_⟩
        simp only [arr_check.j2]
        rw [decide_eq_true hc2, if_pos rfl, if_pos (by omega), if_pos h8, if_neg (by omega)]
      · obtain ⟨K, hK⟩ := ck_evA x (d + 1) h.1 (by omega)
        refine ⟨K, fun k hk L i j R H => ?_⟩
        simp only [arr_check.j2]
        have hw : wrap64 ((d : Int) + 1) = ((d + 1 : Nat) : Int) := by rw [wrap_in (by omega) (by omega)]; omega
        rw [decide_eq_true hc2, if_pos rfl, if_neg (by omega), if_pos (by rw [List.length_cons]; omega), rdA_zero, hw, hK k hk, if_neg h8]
        simp only [Option.bind_some]
        by_cases h3 : chA x (d + 1) = 0
        · rw [if_pos h3, if_pos h3, H]
        · rw [if_neg h3, if_neg h3]
    · have hc2 : ¬ (kk = 2 ∧ nn = 0 ∧ (x :: xs).length = 1) := fun h => hc ⟨h.1, h.2.1, by have := h.2.2; rw [List.length_cons] at this; omega⟩
      refine ⟨0, fun k hk L i j R H => ?_⟩
      simp only [arr_check.j2]
      rw [decide_eq_false hc2, if_neg (by simp), if_pos (by rw [List.length_cons]; omega), if_neg hc, if_neg (by omega)]
end
theorem check_eq (a : S25) (h : okA a) : ∃ K, ∀ k, K ≤ k → arr_Check.f k a.f0 a.f1 = some (chA a 0) := by
  obtain ⟨K, hK⟩ := ck_evA a 0 h (by omega)
  refine ⟨K, fun k hk => ?_⟩
  unfold arr_Check.f
  have := hK k hk
  rw [show ((0 : Nat) : Int) = 0 from rfl] at this
  rw [this]
  rfl
end Go.Proofs.Ytlnphoeogpfjkaa.Pure
