/- Places lead to their cell, and a cell to its places. -/
import Derived.Test.YtlnphoeogpfjkabArr6

namespace Go.Proofs.Ytlnphoeogpfjkab.Pure
open Go.RowKit Go.Proofs.Ytlnphoeogpfjkab.P Go.Proofs.Ytlnphoeogpfjkab.Nest Go.Proofs.YtlnphoeogpfjkabW.PrintWords Go.Proofs.YtlnphoeogpfjkabW.PrintLast Go.Proofs.YtlnphoeogpfjkabW.PrintMore
set_option linter.unusedVariables false
set_option linter.unusedSimpArgs false

/-- Places within a shape. -/
def within : List Int → List Int → Prop
  | [], [] => True
  | a :: l, d :: s => (0 ≤ a ∧ a < d) ∧ within l s
  | _, _ => False
/-- The cell at places. -/
def hv : List Int → List Int → Int
  | a :: l, d :: s => a * prodS s + hv l s
  | _, _ => 0
theorem within_pos : ∀ {l s : List Int}, within l s → ∀ d ∈ s, 1 ≤ d
  | [], [], _ => by simp
  | a :: l, d :: s, h => by
    rw [within] at h
    intro x hx
    rcases List.mem_cons.1 hx with rfl | hx
    · omega
    · exact within_pos h.2 x hx
  | [], d :: s, h => by cases h
  | a :: l, [], h => by cases h
theorem hv_of : ∀ {l s : List Int}, within l s → (0 ≤ hv l s ∧ hv l s < prodS s) ∧ rf s (hv l s) = l
  | [], [], _ => by simp [hv, prodS, rf]
  | a :: l, d :: s, h => by
    have hp := within_pos h
    rw [within] at h
    obtain ⟨⟨h0, h1⟩, e⟩ := hv_of h.2
    have hP := prodS_pos (s := s) (fun x hx => hp x (List.mem_cons_of_mem _ hx))
    have m0 := Int.mul_nonneg h.1.1 (show 0 ≤ prodS s by omega)
    have m1 : a * prodS s ≤ (d - 1) * prodS s := Int.mul_le_mul_of_nonneg_right (by omega) (by omega)
    rw [Int.sub_mul, Int.one_mul] at m1
    have q1 : (a * prodS s + hv l s) / prodS s = a := by
      rw [Int.add_comm, Int.mul_comm, Int.add_mul_ediv_left _ _ (by omega), Int.ediv_eq_zero_of_lt h0 h1, Int.zero_add]
    have q2 : (a * prodS s + hv l s) % prodS s = hv l s := by
      rw [Int.add_comm, Int.mul_comm, Int.add_mul_emod_self_left, Int.emod_eq_of_lt h0 h1]
    rw [hv, prodS, rf, q1, q2, e]
    exact ⟨⟨by omega, by omega⟩, rfl⟩
  | [], d :: s, h => by cases h
  | a :: l, [], h => by cases h
theorem rf_of : ∀ {s : List Int} {n : Int}, (∀ d ∈ s, 1 ≤ d) → 0 ≤ n → n < prodS s → within (rf s n) s ∧ hv (rf s n) s = n
  | [], n, _, h0, h1 => by
    rw [prodS] at h1
    rw [rf]
    exact ⟨by rw [within]; trivial, by rw [hv]; omega; simp⟩
  | d :: s, n, h, h0, h1 => by
    have hs := fun x hx => h x (List.mem_cons_of_mem _ hx)
    have hd := h d List.mem_cons_self
    have hP := prodS_pos hs
    have m0 := Int.emod_nonneg n (show prodS s ≠ 0 by omega)
    have m1 := Int.emod_lt_of_pos n (show 0 < prodS s by omega)
    have m2 := Int.emod_add_mul_ediv n (prodS s)
    obtain ⟨a, b⟩ := rf_of hs m0 m1
    rw [prodS] at h1
    rw [rf, within, hv, b]
    refine ⟨⟨⟨Int.ediv_nonneg h0 (by omega), Int.ediv_lt_of_lt_mul (by omega) h1⟩, a⟩, ?_⟩
    rw [Int.mul_comm]
    omega
theorem plc_within : ∀ {l s : List Int} {n : Int}, l.length = s.length → (plc n l s).2 = 0 → within l s
  | [], [], _, _, _ => by rw [within]; trivial
  | a :: l, d :: s, n, hl, h => by
    rw [plc] at h
    rw [within]
    split at h
    · cases h
    · split at h
      · cases h
      · exact ⟨by omega, plc_within (by simpa using hl) h⟩
  | [], d :: s, _, hl, _ => by cases hl
  | a :: l, [], _, hl, _ => by cases hl
theorem plc_of : ∀ {l s : List Int} {n : Int}, within l s → 0 ≤ n → (n + 1) * prodS s ≤ 16384 → plc n l s = (n * prodS s + hv l s, 0)
  | [], [], n, _, _, _ => by simp [plc, hv, prodS]
  | a :: l, d :: s, n, h, h0, h1 => by
    have hp := within_pos h
    rw [within] at h
    have hP := prodS_pos (s := s) (fun x hx => hp x (List.mem_cons_of_mem _ hx))
    have hd := hp d List.mem_cons_self
    rw [prodS, ← Int.mul_assoc] at h1
    have hnd : 0 ≤ n * d := Int.mul_nonneg h0 (by omega)
    have e1 : (n + 1) * d = n * d + d := by rw [Int.add_mul, Int.one_mul]
    rw [e1] at h1
    have m1 : (n * d + d) * 1 ≤ (n * d + d) * prodS s := Int.mul_le_mul_of_nonneg_left hP (by omega)
    have m2 : (n * d + a + 1) * prodS s ≤ (n * d + d) * prodS s := Int.mul_le_mul_of_nonneg_right (by omega) (by omega)
    rw [plc, if_neg (by omega), if_neg (by omega), wrap_in (show -9223372036854775808 ≤ n * d by omega) (by omega), wrap_in (by omega) (by omega), plc_of h.2 (by omega) (by omega), hv, prodS, Int.add_mul, ← Int.mul_assoc]
    congr 1
    omega
  | [], d :: s, _, h, _, _ => by cases h
  | a :: l, [], _, h, _, _ => by cases h
theorem within_len : ∀ {l s : List Int}, within l s → l.length = s.length
  | [], [], _ => rfl
  | a :: l, d :: s, h => by
    rw [within] at h
    simp [within_len h.2]
  | [], d :: s, h => by cases h
  | a :: l, [], h => by cases h
theorem sizeS_pos {s : List Int} (h : (sizeS s).2 = 0) (hd : ∀ d ∈ s, 1 ≤ d) : (sizeS s).1 = prodS s := by
  have hl := sizeS_len h
  have n1 : ¬ s.any (· < 0) = true := by
    intro hc
    obtain ⟨x, hx, hx2⟩ := List.any_eq_true.1 hc
    have := hd x hx
    have := of_decide_eq_true hx2
    omega
  have n2 : ¬ s.any (· = 0) = true := by
    intro hc
    obtain ⟨x, hx, hx2⟩ := List.any_eq_true.1 hc
    have := hd x hx
    have := of_decide_eq_true hx2
    omega
  unfold sizeS at h ⊢
  rw [if_neg (by omega), if_neg n1, if_neg n2] at h ⊢
  rw [sizeP_ok s 1 (by omega) (by omega) hd h, Int.one_mul]
/-- Places of a cell lead to it. -/
theorem there {s l : List Int} (h : (placeS s l).2 = 0) : placesS s (placeS s l).1 = (l, 0) := by
  have hb := sizeS_bd s
  unfold placeS at h ⊢
  by_cases h1 : (sizeS s).2 = 0
  · rw [if_pos h1] at h ⊢
    by_cases h2 : l.length = s.length
    · rw [if_pos h2] at h ⊢
      have hw := plc_within h2 h
      have hd := within_pos hw
      have hp := sizeS_pos h1 hd
      obtain ⟨⟨g0, g1⟩, g2⟩ := hv_of hw
      have e : (plc 0 l s).1 = hv l s := by rw [plc_of hw (by omega) (by omega)]; simp
      rw [e]
      unfold placesS
      rw [if_pos h1, if_neg (by omega), if_neg (by omega), dg_low s _ hd g0 g1, g2]
    · rw [if_neg h2] at h
      cases h
  · rw [if_neg h1] at h
    exact absurd h h1
/-- The cell at places has these. -/
theorem back {s : List Int} {n : Int} (h : (placesS s n).2 = 0) : placeS s (placesS s n).1 = (n, 0) := by
  have hb := sizeS_bd s
  unfold placesS at h ⊢
  by_cases h1 : (sizeS s).2 = 0
  · rw [if_pos h1] at h ⊢
    by_cases h2 : n < 0
    · rw [if_pos h2] at h
      cases h
    · rw [if_neg h2] at h ⊢
      by_cases h3 : n ≥ (sizeS s).1
      · rw [if_pos h3] at h
        cases h
      · rw [if_neg h3] at h ⊢
        obtain ⟨hd, hp, hl⟩ := sizeS_ok h1 (by omega)
        obtain ⟨hw, e⟩ := rf_of hd (show 0 ≤ n by omega) (by omega)
        simp only
        rw [dg_low s n hd (by omega) (by omega)]
        unfold placeS
        rw [if_pos h1, if_pos (within_len hw), plc_of hw (by omega) (by omega), e]
        simp
  · rw [if_neg h1] at h
    exact absurd h h1
end Go.Proofs.Ytlnphoeogpfjkab.Pure
