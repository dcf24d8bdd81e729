/- How heavy an array is, as the statements reckon it: what the reference's Weight tells, and what follows where it is not too much. -/
import Derived.Test.YtahgfebdjjfkhaaArr1
import Derived.Test.YtahgfebdjjfkhaaPx1
namespace Go.Proofs.Ytahgfebdjjfkhaa.Pure
open Go.RowKit Go.Proofs.Ytahgfebdjjfkhaa.P Go.Proofs.Ytahgfebdjjfkhaa.Nest Go.Proofs.YtahgfebdjjfkhaaW.PrintWords Go.Proofs.YtahgfebdjjfkhaaW.PrintLast Go.Proofs.YtahgfebdjjfkhaaW.PrintMore
set_option linter.unusedVariables false
set_option linter.unusedSimpArgs false
mutual
def wA : S25 → Int → Nat → Int
  | ⟨s, c⟩, most, deep => wCs c ((c.length : Int) + (s.length : Int)) most deep
def wCs : List S43 → Int → Int → Nat → Int
  | [], n, _, _ => n
  | x :: xs, n, most, deep => if n ≤ most then wCs xs (wC x n most deep) most deep else n
def wC : S43 → Int → Int → Nat → Int
  | ⟨_, _, b⟩, n, most, deep => wB b n most deep
def wB : List S25 → Int → Int → Nat → Int
  | [], n, _, _ => n
  | x :: xs, n, most, deep => if n ≤ most then (match deep with
    | 0 => most + 1
    | d + 1 => wB xs (n + 1 + wA x (most - n) d) most (d + 1)) else n
end
theorem wB_none (n most : Int) (deep : Nat) : wB [] n most deep = n := by rw [wB.eq_def]
theorem wB_cons (x : S25) (xs : List S25) (n most : Int) (deep : Nat) : wB (x :: xs) n most deep = if n ≤ most then (match deep with | 0 => most + 1 | d + 1 => wB xs (n + 1 + wA x (most - n) d) most (d + 1)) else n := by rw [wB.eq_def]
mutual
theorem wA_bd : ∀ (a : S25) (most : Int) (deep : Nat), okA a → 0 ≤ most → most ≤ 4000 → 0 ≤ wA a most deep ∧ wA a most deep ≤ 40000000000000 + 5000 * (deep : Int)
  | ⟨s, c⟩, most, deep, h, h0, h1 => by
    rw [okA] at h
    obtain ⟨⟨hs, _⟩, hc, hcs⟩ := h
    unfold reachBytes at hs hc
    rw [wA]
    exact wCs_bd c _ most deep hcs h0 h1 (by omega) (by omega)
theorem wCs_bd : ∀ (c : List S43) (n most : Int) (deep : Nat), okCs c → 0 ≤ most → most ≤ 4000 → 0 ≤ n → n ≤ 40000000000000 + 5000 * (deep : Int) → 0 ≤ wCs c n most deep ∧ wCs c n most deep ≤ 40000000000000 + 5000 * (deep : Int)
  | [], n, most, deep, _, _, _, h2, h3 => by rw [wCs]; exact ⟨h2, h3⟩
  | x :: xs, n, most, deep, h, h0, h1, h2, h3 => by
    rw [okCs] at h
    rw [wCs]
    split
    · obtain ⟨a, b⟩ := wC_bd x n most deep h.1 h0 h1 h2 h3
      exact wCs_bd xs _ most deep h.2 h0 h1 a b
    · exact ⟨h2, h3⟩
theorem wC_bd : ∀ (x : S43) (n most : Int) (deep : Nat), okC x → 0 ≤ most → most ≤ 4000 → 0 ≤ n → n ≤ 40000000000000 + 5000 * (deep : Int) → 0 ≤ wC x n most deep ∧ wC x n most deep ≤ 40000000000000 + 5000 * (deep : Int)
  | ⟨_, _, b⟩, n, most, deep, h, h0, h1, h2, h3 => by
    rw [okC] at h
    rw [wC]
    exact wB_bd b n most deep h.2.2.2 h0 h1 h2 h3
theorem wB_bd : ∀ (b : List S25) (n most : Int) (deep : Nat), okAs b → 0 ≤ most → most ≤ 4000 → 0 ≤ n → n ≤ 40000000000000 + 5000 * (deep : Int) → 0 ≤ wB b n most deep ∧ wB b n most deep ≤ 40000000000000 + 5000 * (deep : Int)
  | [], n, most, deep, _, _, _, h2, h3 => by rw [wB_none]; exact ⟨h2, h3⟩
  | x :: xs, n, most, deep, h, h0, h1, h2, h3 => by
    rw [okAs] at h
    rw [wB_cons]
    split
    · rename_i hn
      cases deep with
      | zero => exact ⟨by simp only; omega, by simp only; omega⟩
      | succ d =>
        obtain ⟨a, b⟩ := wA_bd x (most - n) d h.1 (by omega) (by omega)
        exact wB_bd xs _ most (d + 1) h.2 h0 h1 (by omega) (by omega)
    · exact ⟨h2, h3⟩
end
theorem wCs_over : ∀ (c : List S43) (n most : Int) (deep : Nat), most < n → wCs c n most deep = n
  | [], n, most, deep, _ => by rw [wCs]
  | x :: xs, n, most, deep, h => by rw [wCs, if_neg (by omega)]
theorem w_l0_end {s : List Int} {c : List S43} {n most : Int} {deep : Nat} {i : Int} (h : (c.length : Int) ≤ i) : ∀ k, 2 ≤ k → triglyphref03_weight.l0 k most (deep : Int) n i s c = some n := by
  intro k hk
  obtain ⟨k, rfl, hk2⟩ := succ_of (K := 1) hk
  obtain ⟨k, rfl, _⟩ := succ_of (K := 0) hk2
  simp only [triglyphref03_weight.l0, triglyphref03_weight.j1]
  rw [if_neg (by omega)]
  rfl
theorem w_l0_over {s : List Int} {c : List S43} {n most : Int} {deep : Nat} {i : Int} (h : most < n) : ∀ k, 2 ≤ k → triglyphref03_weight.l0 k most (deep : Int) n i s c = some n := by
  intro k hk
  obtain ⟨k, rfl, hk2⟩ := succ_of (K := 1) hk
  obtain ⟨k, rfl, _⟩ := succ_of (K := 0) hk2
  simp only [triglyphref03_weight.l0, triglyphref03_weight.j1]
  rw [decide_eq_false (show ¬ n ≤ most by omega)]
  split <;> rfl
mutual
theorem w_evA : ∀ (a : S25) (most : Int) (deep : Nat), okA a → 0 ≤ most → most ≤ 4000 → deep ≤ 16 → ∃ K, ∀ k, K ≤ k → triglyphref03_weight.f k a.f0 a.f1 most (deep : Int) = some (wA a most deep)
  | ⟨s, c⟩, most, deep, h, h0, h1, hd => by
    rw [okA] at h
    obtain ⟨⟨hs, _⟩, hc, hcs⟩ := h
    have hs' := hs
    have hc' := hc
    unfold reachBytes at hs' hc'
    obtain ⟨K, hK⟩ := w_evCs c [] s ((c.length : Int) + (s.length : Int)) most deep hcs (by simpa using hc) h0 h1 hd (by omega) (by omega)
    refine ⟨K + 1, fun k hk => ?_⟩
    obtain ⟨k, rfl, hk2⟩ := succ_of hk
    have := hK k hk2
    simp only [triglyphref03_weight.f]
    rw [wrap_in (by omega) (by omega), wA]
    simpa using this
theorem w_evCs : ∀ (rest done : List S43) (s : List Int) (n most : Int) (deep : Nat), okCs rest → (done ++ rest).length * 40 ≤ reachBytes → 0 ≤ most → most ≤ 4000 → deep ≤ 16 → 0 ≤ n → n ≤ 40000000000000 + 5000 * (deep : Int) →
    ∃ K, ∀ k, K ≤ k → triglyphref03_weight.l0 k most (deep : Int) n (done.length : Int) s (done ++ rest) = some (wCs rest n most deep)
  | [], done, s, n, most, deep, h, hl, h0, h1, hd, h2, h3 => ⟨2, fun k hk => by rw [wCs]; exact w_l0_end (by simp) k hk⟩
  | ⟨kk, nn, b⟩ :: xs, done, s, n, most, deep, h, hl, h0, h1, hd, h2, h3 => by
    rw [okCs, okC] at h
    obtain ⟨⟨_, _, hbl, hb⟩, hxs⟩ := h
    rw [wCs]
    by_cases hn : n ≤ most
    · rw [if_pos hn, wC]
      have hs : done ++ ⟨kk, nn, b⟩ :: xs = (done ++ [⟨kk, nn, b⟩]) ++ xs := by simp
      have hl' := hl
      unfold reachBytes at hl'
      rw [List.length_append, List.length_cons] at hl'
      have hw : wrap64 ((done.length : Int) + 1) = ((done ++ [(⟨kk, nn, b⟩ : S43)]).length : Int) := wrap_next done _ (by omega)
      obtain ⟨K, hK⟩ := w_evB b [] ⟨kk, nn, b⟩ done xs s n most deep rfl hb hbl hl h0 h1 hd h2 h3 (fun n' g0 g1 => by
        obtain ⟨K, hK⟩ := w_evCs xs (done ++ [⟨kk, nn, b⟩]) s n' most deep hxs (by rw [← hs]; exact hl) h0 h1 hd g0 g1
        refine ⟨K, fun k hk => ?_⟩
        rw [hw, hs]
        exact hK k hk)
      refine ⟨K + 2, fun k hk => ?_⟩
      obtain ⟨k, rfl, hk2⟩ := succ_of (K := K + 1) hk
      obtain ⟨k, rfl, hk3⟩ := succ_of hk2
      simp only [triglyphref03_weight.l0, triglyphref03_weight.j1]
      rw [if_pos (by rw [List.length_append, List.length_cons]; omega), decide_eq_true hn, if_pos rfl]
      exact hK k hk3
    · rw [if_neg hn]
      exact ⟨2, w_l0_over (by omega)⟩
theorem w_evB : ∀ (br bd : List S25) (x : S43) (done rest : List S43) (s : List Int) (n most : Int) (deep : Nat), x.f2 = bd ++ br → okAs br → x.f2.length * 48 ≤ reachBytes → (done ++ x :: rest).length * 40 ≤ reachBytes → 0 ≤ most → most ≤ 4000 → deep ≤ 16 → 0 ≤ n → n ≤ 40000000000000 + 5000 * (deep : Int) →
    (∀ n' : Int, 0 ≤ n' → n' ≤ 40000000000000 + 5000 * (deep : Int) → ∃ K, ∀ k, K ≤ k → triglyphref03_weight.l0 k most (deep : Int) n' (wrap64 ((done.length : Int) + 1)) s (done ++ x :: rest) = some (wCs rest n' most deep)) →
    ∃ K, ∀ k, K ≤ k → triglyphref03_weight.l1 k most (deep : Int) n (done.length : Int) (bd.length : Int) s (done ++ x :: rest) = some (wCs rest (wB br n most deep) most deep)
  | [], bd, x, done, rest, s, n, most, deep, hx, h, hxl, hl, h0, h1, hd, h2, h3, H => by
    obtain ⟨K, hK⟩ := H n h2 h3
    refine ⟨K + 2, fun k hk => ?_⟩
    obtain ⟨k, rfl, hk2⟩ := succ_of (K := K + 1) hk
    obtain ⟨k, rfl, hk3⟩ := succ_of hk2
    simp only [triglyphref03_weight.l1, triglyphref03_weight.j3]
    rw [if_pos (by omega), if_pos (by rw [List.length_append, List.length_cons]; omega), rdC_mid, hx, if_neg (by simp), wB_none]
    simpa using hK k hk3
  | y :: ys, bd, x, done, rest, s, n, most, deep, hx, h, hxl, hl, h0, h1, hd, h2, h3, H => by
    rw [okAs] at h
    obtain ⟨hy, hys⟩ := h
    have hxl' := hxl
    unfold reachBytes at hxl'
    have hlen : x.f2.length = bd.length + 1 + ys.length := by rw [hx, List.length_append, List.length_cons]; omega
    have hw : wrap64 ((bd.length : Int) + 1) = ((bd ++ [y]).length : Int) := wrap_next bd y (by omega)
    rw [wB_cons]
    by_cases hn : n ≤ most
    · rw [if_pos hn]
      cases deep with
      | zero =>
        simp only
        rw [wCs_over _ _ _ _ (by omega)]
        refine ⟨2, fun k hk => ?_⟩
        obtain ⟨k, rfl, hk2⟩ := succ_of (K := 1) hk
        obtain ⟨k, rfl, _⟩ := succ_of (K := 0) hk2
        simp only [triglyphref03_weight.l1, triglyphref03_weight.j3]
        rw [if_pos (by omega), if_pos (by rw [List.length_append, List.length_cons]; omega), rdC_mid, if_pos (by omega), decide_eq_true hn, if_pos rfl, if_pos (by rfl), wrap_in (by omega) (by omega)]
      | succ d =>
        simp only
        obtain ⟨K1, hK1⟩ := w_evA y (most - n) d hy (by omega) (by omega) (by omega)
        obtain ⟨a, b⟩ := wA_bd y (most - n) d hy (by omega) (by omega)
        obtain ⟨K2, hK2⟩ := w_evB ys (bd ++ [y]) x done rest s (n + 1 + wA y (most - n) d) most (d + 1) (by rw [hx]; simp) hys hxl hl h0 h1 hd (by omega) (by omega) H
        refine ⟨K1 + K2 + 2, fun k hk => ?_⟩
        obtain ⟨k, rfl, hk2⟩ := succ_of (K := K1 + K2 + 1) hk
        obtain ⟨k, rfl, hk3⟩ := succ_of hk2
        simp only [triglyphref03_weight.l1, triglyphref03_weight.j3]
        rw [if_pos (by omega), if_pos (by rw [List.length_append, List.length_cons]; omega), rdC_mid, if_pos (by omega), decide_eq_true hn, if_pos rfl, if_neg (by omega), if_pos (by omega), if_pos (by rw [List.length_append, List.length_cons]; omega), if_pos (by omega), if_pos (by omega)]
        rw [hx, rdA_mid, wrap_in (show -9223372036854775808 ≤ most - n by omega) (by omega), show wrap64 (((d + 1 : Nat) : Int) - 1) = (d : Int) by rw [wrap_in (by omega) (by omega)]; omega, hK1 k (by omega)]
        simp only [Option.bind_some]
        rw [wrap_in (show -9223372036854775808 ≤ n + 1 by omega) (by omega), wrap_in (show -9223372036854775808 ≤ n + 1 + wA y (most - n) d by omega) (by omega), hw]
        exact hK2 k (by omega)
    · rw [if_neg hn]
      obtain ⟨K, hK⟩ := H n h2 h3
      refine ⟨K + 2, fun k hk => ?_⟩
      obtain ⟨k, rfl, hk2⟩ := succ_of (K := K + 1) hk
      obtain ⟨k, rfl, hk3⟩ := succ_of hk2
      simp only [triglyphref03_weight.l1, triglyphref03_weight.j3]
      rw [if_pos (by omega), if_pos (by rw [List.length_append, List.length_cons]; omega), rdC_mid, if_pos (by omega), decide_eq_false hn]
      simpa using hK k hk3
end
end Go.Proofs.Ytahgfebdjjfkhaa.Pure
