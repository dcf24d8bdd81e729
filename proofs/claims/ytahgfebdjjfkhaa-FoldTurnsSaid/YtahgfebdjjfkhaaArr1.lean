/- What the functions of package arr, and the reference's, compute of shapes and arrays: plain facts about lists. -/
import Derived.Test.YtahgfebdjjfkhaaNestArr
import Derived.Test.YtahgfebdjjfkhaaPx12
import Derived.Test.YtahgfebdjjfkhaaPx2
namespace Go.Proofs.Ytahgfebdjjfkhaa.Pure
open Go.RowKit Go.Proofs.Ytahgfebdjjfkhaa.P Go.Proofs.Ytahgfebdjjfkhaa.Nest Go.Proofs.YtahgfebdjjfkhaaW.PrintWords Go.Proofs.YtahgfebdjjfkhaaW.PrintLast Go.Proofs.YtahgfebdjjfkhaaW.PrintMore
set_option linter.unusedVariables false
set_option linter.unusedSimpArgs false
theorem succ_of {K k : Nat} (h : K + 1 ≤ k) : ∃ m, k = m + 1 ∧ K ≤ m := ⟨k - 1, by omega, by omega⟩
theorem rd_mid (a : List Int) (x : Int) (b : List Int) : rd (a ++ x :: b) (a.length : Int) = x := by simp [rd]
theorem rdC_mid (a : List S43) (x : S43) (b : List S43) : rd_T43 (a ++ x :: b) (a.length : Int) = x := by simp [rd_T43]
theorem rdA_mid (a : List S25) (x : S25) (b : List S25) : rd_T25 (a ++ x :: b) (a.length : Int) = x := by simp [rd_T25]
theorem wrap_next {α : Type} (done : List α) (x : α) (h : done.length ≤ 9000000000000000000) : wrap64 ((done.length : Int) + 1) = ((done ++ [x]).length : Int) := by
  unfold wrap64
  simp
  omega
theorem wrap_in {x : Int} (h1 : -9223372036854775808 ≤ x) (h2 : x ≤ 9223372036854775807) : wrap64 x = x := by unfold wrap64; omega
def sizeP : Int → List Int → Int × Int
  | n, [] => (n, 0)
  | n, d :: r => if n * d > 16384 then (0, 12) else sizeP (n * d) r
def sizeS (l : List Int) : Int × Int := if 8 < l.length then (0, 6) else if l.any (· < 0) = true then (0, 1) else if l.any (· = 0) = true then (0, 0) else sizeP 1 l
theorem le_quo {n d : Int} (hn : 1 ≤ n) (hn2 : n ≤ 16384) : d > wrap64 (Int.tdiv 16384 n) ↔ n * d > 16384 := by
  rw [Int.tdiv_eq_ediv_of_nonneg (by omega)]
  have h0 : 0 ≤ 16384 / n := Int.ediv_nonneg (by omega) (by omega)
  have h1 : 16384 / n ≤ 16384 := Int.ediv_le_self _ (by omega)
  rw [wrap_in (by omega) (by omega)]
  constructor
  · intro h
    have := Int.lt_mul_of_ediv_lt (show 0 < n by omega) h
    rw [Int.mul_comm]
    omega
  · intro h
    exact Int.ediv_lt_of_lt_mul (by omega) (by rw [Int.mul_comm]; omega)
theorem size_l1 (rest : List Int) : ∀ (done : List Int) (n : Int), 1 ≤ n → n ≤ 16384 → (∀ d ∈ rest, 1 ≤ d) → (done ++ rest).length ≤ 8 →
    ∃ K, ∀ k, K ≤ k → arr_Size.l1 k n (done ++ rest) ((done ++ rest).length : Int) (done.length : Int) = some (sizeP n rest) := by
  induction rest with
  | nil =>
    intro done n h1 h2 _ hl
    refine ⟨1, fun k hk => ?_⟩
    obtain ⟨k, rfl, _⟩ := succ_of hk
    simp only [arr_Size.l1, List.append_nil]
    rw [if_neg (by omega)]
    rfl
  | cons d rest ih =>
    intro done n h1 h2 hp hl
    have hd := hp d List.mem_cons_self
    have hs : done ++ d :: rest = (done ++ [d]) ++ rest := by simp
    have hlen : ((done ++ d :: rest).length : Int) = done.length + 1 + rest.length := by simp; omega
    have hl2 : done.length + 1 + rest.length ≤ 8 := by simp at hl; omega
    by_cases hq : n * d > 16384
    · refine ⟨1, fun k hk => ?_⟩
      obtain ⟨k, rfl, _⟩ := succ_of hk
      simp only [arr_Size.l1]
      rw [if_pos (by omega), if_pos (by omega), if_pos (by omega), if_neg (by omega), rd_mid, if_pos ((le_quo h1 h2).2 hq), sizeP, if_pos hq]
    · have hnd : 1 ≤ n * d := by have := Int.mul_le_mul h1 hd (by omega) (by omega); omega
      obtain ⟨K, hK⟩ := ih (done ++ [d]) (n * d) hnd (by omega) (fun x hx => hp x (List.mem_cons_of_mem _ hx)) (by rw [← hs]; exact hl)
      refine ⟨K + 1, fun k hk => ?_⟩
      obtain ⟨k, rfl, hk2⟩ := succ_of hk
      simp only [arr_Size.l1]
      rw [if_pos (by omega), if_pos (by omega), if_pos (by omega), if_neg (by omega), rd_mid, if_neg (fun h => hq ((le_quo h1 h2).1 h)), wrap_in (by omega) (by omega), wrap_next _ d (by omega), sizeP, if_neg hq, hs]
      exact hK k hk2
theorem size_l0 (rest : List Int) : ∀ (done : List Int) (b : Bool), (∀ d ∈ done, 0 ≤ d) → b = done.any (· = 0) → (done ++ rest).length ≤ 8 →
    ∃ K, ∀ k, K ≤ k → arr_Size.l0 k (done ++ rest) 1 b (done ++ rest) ((done ++ rest).length : Int) (done.length : Int) = some (if rest.any (· < 0) = true then (0, 1) else if (done ++ rest).any (· = 0) = true then (0, 0) else sizeP 1 (done ++ rest)) := by
  induction rest with
  | nil =>
    intro done b hp hb hl
    simp only [List.append_nil] at hl ⊢
    cases b with
    | true =>
      refine ⟨1, fun k hk => ?_⟩
      obtain ⟨k, rfl, _⟩ := succ_of hk
      simp only [arr_Size.l0]
      rw [if_neg (by omega), ← hb]
      simp
    | false =>
      have hp1 : ∀ d ∈ done, 1 ≤ d := by
        intro d hd
        have h0 := hp d hd
        have h1 : d ≠ 0 := by
          rintro rfl
          have : done.any (· = 0) = true := List.any_eq_true.2 ⟨0, hd, by simp⟩
          rw [← hb] at this
          cases this
        omega
      obtain ⟨K, hK⟩ := size_l1 done [] 1 (by omega) (by omega) hp1 (by simpa using hl)
      refine ⟨K + 1, fun k hk => ?_⟩
      obtain ⟨k, rfl, hk2⟩ := succ_of hk
      simp only [arr_Size.l0]
      rw [if_neg (by omega), ← hb]
      simpa using hK k hk2
  | cons d rest ih =>
    intro done b hp hb hl
    have hs : done ++ d :: rest = (done ++ [d]) ++ rest := by simp
    have hlen : ((done ++ d :: rest).length : Int) = done.length + 1 + rest.length := by simp; omega
    have hl2 : done.length + 1 + rest.length ≤ 8 := by simp at hl; omega
    by_cases hd : d < 0
    · refine ⟨1, fun k hk => ?_⟩
      obtain ⟨k, rfl, _⟩ := succ_of hk
      simp only [arr_Size.l0]
      rw [if_pos (by omega), if_pos (by omega), if_pos (by omega), rd_mid, if_pos hd]
      simp [hd]
    · have e0 : (d :: rest).any (· < 0) = rest.any (· < 0) := by simp [hd]
      obtain ⟨K, hK⟩ := ih (done ++ [d]) (b || d == 0) (by
        intro x hx
        rcases List.mem_append.1 hx with hx | hx
        · exact hp x hx
        · rw [List.mem_singleton.1 hx]; omega) (by rw [List.any_append, ← hb]; simp; rfl) (by rw [← hs]; exact hl)
      refine ⟨K + 1, fun k hk => ?_⟩
      obtain ⟨k, rfl, hk2⟩ := succ_of hk
      simp only [arr_Size.l0]
      rw [if_pos (by omega), if_pos (by omega), if_pos (by omega), rd_mid, if_neg hd, wrap_next _ d (by omega), e0]
      have h2 := hK k hk2
      rw [← hs] at h2
      cases b with
      | true => simpa using h2
      | false => simpa using h2
theorem size_eq (l : List Int) : ∃ K, ∀ k, K ≤ k → arr_Size.f k l = some (sizeS l) := by
  unfold sizeS
  by_cases h : 8 < l.length
  · refine ⟨0, fun k _ => ?_⟩
    unfold arr_Size.f
    rw [if_pos (by omega), if_pos h]
  · obtain ⟨K, hK⟩ := size_l0 l [] false (by simp) (by simp) (by simp; omega)
    refine ⟨K, fun k hk => ?_⟩
    unfold arr_Size.f
    rw [if_neg (by omega), if_neg h]
    simpa using hK k hk
theorem rsize_l1 (rest : List Int) : ∀ (done : List Int) (n : Int), 1 ≤ n → n ≤ 16384 → (∀ d ∈ rest, 1 ≤ d) → (done ++ rest).length ≤ 8 →
    ∃ K, ∀ k, K ≤ k → triglyphref03_Size.l1 k (done ++ rest) n (done.length : Int) = some (sizeP n rest) := by
  induction rest with
  | nil =>
    intro done n h1 h2 _ hl
    refine ⟨1, fun k hk => ?_⟩
    obtain ⟨k, rfl, _⟩ := succ_of hk
    simp only [triglyphref03_Size.l1, List.append_nil]
    rw [if_neg (by omega)]
    rfl
  | cons d rest ih =>
    intro done n h1 h2 hp hl
    have hd := hp d List.mem_cons_self
    have hs : done ++ d :: rest = (done ++ [d]) ++ rest := by simp
    have hlen : ((done ++ d :: rest).length : Int) = done.length + 1 + rest.length := by simp; omega
    have hl2 : done.length + 1 + rest.length ≤ 8 := by simp at hl; omega
    by_cases hd2 : d > 16384
    · have hq : n * d > 16384 := by have := Int.mul_le_mul_of_nonneg_right h1 (show 0 ≤ d by omega); omega
      refine ⟨1, fun k hk => ?_⟩
      obtain ⟨k, rfl, _⟩ := succ_of hk
      simp only [triglyphref03_Size.l1]
      rw [if_pos (by omega), if_pos (by omega), rd_mid, if_pos hd2, sizeP, if_pos hq]
    · have hnd : 1 ≤ n * d := by have := Int.mul_le_mul h1 hd (by omega) (by omega); omega
      have hnd2 : n * d ≤ 16384 * 16384 := Int.mul_le_mul h2 (by omega) (by omega) (by omega)
      have hw : wrap64 (n * d) = n * d := wrap_in (by omega) (by omega)
      by_cases hq : n * d > 16384
      · refine ⟨1, fun k hk => ?_⟩
        obtain ⟨k, rfl, _⟩ := succ_of hk
        simp only [triglyphref03_Size.l1]
        rw [if_pos (by omega), if_pos (by omega), rd_mid, if_neg hd2, hw, if_pos hq, sizeP, if_pos hq]
      · obtain ⟨K, hK⟩ := ih (done ++ [d]) (n * d) hnd (by omega) (fun x hx => hp x (List.mem_cons_of_mem _ hx)) (by rw [← hs]; exact hl)
        refine ⟨K + 1, fun k hk => ?_⟩
        obtain ⟨k, rfl, hk2⟩ := succ_of hk
        simp only [triglyphref03_Size.l1]
        rw [if_pos (by omega), if_pos (by omega), rd_mid, if_neg hd2, hw, if_neg hq, wrap_next _ d (by omega), sizeP, if_neg hq, hs]
        exact hK k hk2
theorem rsize_l0 (rest : List Int) : ∀ (done : List Int) (b : Bool), (∀ d ∈ done, 0 ≤ d) → b = done.any (· = 0) → (done ++ rest).length ≤ 8 →
    ∃ K, ∀ k, K ≤ k → triglyphref03_Size.l0 k (done ++ rest) b (done.length : Int) = some (if rest.any (· < 0) = true then (0, 1) else if (done ++ rest).any (· = 0) = true then (0, 0) else sizeP 1 (done ++ rest)) := by
  induction rest with
  | nil =>
    intro done b hp hb hl
    simp only [List.append_nil] at hl ⊢
    cases b with
    | true =>
      refine ⟨1, fun k hk => ?_⟩
      obtain ⟨k, rfl, _⟩ := succ_of hk
      simp only [triglyphref03_Size.l0]
      rw [if_neg (by omega), ← hb]
      simp
    | false =>
      have hp1 : ∀ d ∈ done, 1 ≤ d := by
        intro d hd
        have h0 := hp d hd
        have h1 : d ≠ 0 := by
          rintro rfl
          have : done.any (· = 0) = true := List.any_eq_true.2 ⟨0, hd, by simp⟩
          rw [← hb] at this
          cases this
        omega
      obtain ⟨K, hK⟩ := rsize_l1 done [] 1 (by omega) (by omega) hp1 (by simpa using hl)
      refine ⟨K + 1, fun k hk => ?_⟩
      obtain ⟨k, rfl, hk2⟩ := succ_of hk
      simp only [triglyphref03_Size.l0]
      rw [if_neg (by omega), ← hb]
      simpa using hK k hk2
  | cons d rest ih =>
    intro done b hp hb hl
    have hs : done ++ d :: rest = (done ++ [d]) ++ rest := by simp
    have hlen : ((done ++ d :: rest).length : Int) = done.length + 1 + rest.length := by simp; omega
    have hl2 : done.length + 1 + rest.length ≤ 8 := by simp at hl; omega
    by_cases hd : d < 0
    · refine ⟨1, fun k hk => ?_⟩
      obtain ⟨k, rfl, _⟩ := succ_of hk
      simp only [triglyphref03_Size.l0]
      rw [if_pos (by omega), if_pos (by omega), rd_mid, if_pos hd]
      simp [hd]
    · have e0 : (d :: rest).any (· < 0) = rest.any (· < 0) := by simp [hd]
      obtain ⟨K, hK⟩ := ih (done ++ [d]) (b || d == 0) (by
        intro x hx
        rcases List.mem_append.1 hx with hx | hx
        · exact hp x hx
        · rw [List.mem_singleton.1 hx]; omega) (by rw [List.any_append, ← hb]; simp; rfl) (by rw [← hs]; exact hl)
      refine ⟨K + 1, fun k hk => ?_⟩
      obtain ⟨k, rfl, hk2⟩ := succ_of hk
      simp only [triglyphref03_Size.l0]
      rw [if_pos (by omega), if_pos (by omega), rd_mid, if_neg hd, wrap_next _ d (by omega), e0]
      have h2 := hK k hk2
      rw [← hs] at h2
      by_cases hz : d = 0
      · subst hz
        rw [if_pos rfl]
        simpa using h2
      · rw [if_neg hz]
        have : (b || d == 0) = b := by simp [hz]
        rw [this] at h2
        exact h2
theorem rsize_eq (l : List Int) : ∃ K, ∀ k, K ≤ k → triglyphref03_Size.f k l = some (sizeS l) := by
  unfold sizeS
  by_cases h : 8 < l.length
  · refine ⟨0, fun k _ => ?_⟩
    unfold triglyphref03_Size.f
    rw [if_pos (by omega), if_pos h]
  · obtain ⟨K, hK⟩ := rsize_l0 l [] false (by simp) (by simp) (by simp; omega)
    refine ⟨K, fun k hk => ?_⟩
    unfold triglyphref03_Size.f
    rw [if_neg (by omega), if_neg h]
    simpa using hK k hk
theorem sizeP_bd : ∀ (l : List Int) (n : Int), 0 ≤ n → n ≤ 16384 → (∀ d ∈ l, 0 ≤ d) → 0 ≤ (sizeP n l).1 ∧ (sizeP n l).1 ≤ 16384
  | [], n, h0, h1, _ => ⟨h0, h1⟩
  | d :: l, n, h0, h1, hp => by
    rw [sizeP]
    have := Int.mul_nonneg h0 (hp d List.mem_cons_self)
    split
    · simp
    · exact sizeP_bd l (n * d) this (by omega) (fun x hx => hp x (List.mem_cons_of_mem _ hx))
theorem sizeS_bd (l : List Int) : 0 ≤ (sizeS l).1 ∧ (sizeS l).1 ≤ 16384 := by
  unfold sizeS
  split
  · simp
  · split
    · simp
    · split
      · simp
      · rename_i _ h _
        refine sizeP_bd l 1 (by omega) (by omega) (fun d hd => ?_)
        have h2 : ¬ d < 0 := fun hlt => h (List.any_eq_true.2 ⟨d, hd, by simpa using hlt⟩)
        omega
theorem sizeS_len {l : List Int} (h : (sizeS l).2 = 0) : l.length ≤ 8 := by
  unfold sizeS at h
  split at h
  · cases h
  · omega
end Go.Proofs.Ytahgfebdjjfkhaa.Pure
