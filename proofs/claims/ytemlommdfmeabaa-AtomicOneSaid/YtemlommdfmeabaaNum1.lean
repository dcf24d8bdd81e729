/- What the functions of package num, and the reference's, compute: plain facts about whole numbers. -/
import Derived.Test.YtemlommdfmeabaaArr1
import Derived.Test.YtemlommdfmeabaaPx10
import Derived.Test.YtemlommdfmeabaaPx2
import Derived.Test.YtemlommdfmeabaaPx3
import Derived.Test.YtemlommdfmeabaaPx4
import Derived.Test.YtemlommdfmeabaaPx9
namespace Go.Proofs.Ytemlommdfmeabaa.Pure
open Go.RowKit Go.Proofs.Ytemlommdfmeabaa.P Go.Proofs.Ytemlommdfmeabaa.Nest Go.Proofs.YtemlommdfmeabaaW.PrintWords Go.Proofs.YtemlommdfmeabaaW.PrintLast Go.Proofs.YtemlommdfmeabaaW.PrintMore
set_option linter.unusedVariables false
set_option linter.unusedSimpArgs false
def I64 (x : Int) : Prop := -9223372036854775808 ≤ x ∧ x ≤ 9223372036854775807
theorem i64_of {x : Int} (h : (Lit.int .i64 x).wf = true) : I64 x := by
  have h1 : (decide (IntKind.i64.min ≤ x) && decide (x ≤ IntKind.i64.max)) = true := h
  have h2 : IntKind.i64.min = -9223372036854775808 := rfl
  have h3 : IntKind.i64.max = 9223372036854775807 := rfl
  rw [h2, h3] at h1
  simpa [I64] using h1
def fit (s : Int) : Int × Int := if s < -9223372036854775808 ∨ 9223372036854775807 < s then (0, 9) else (s, 0)
theorem mem_mid {a b : List Int} {x : Int} {p : Int → Prop} (h : ∀ y ∈ a ++ x :: b, p y) : p x := h x (by simp)
theorem wide0_eq {x : Int} (h : I64 x) : triglyphref01_wide0.f x = some (x / 4294967296, x % 4294967296) := by
  obtain ⟨h1, h2⟩ := h
  unfold triglyphref01_wide0.f triglyphref01_wide.f
  by_cases h0 : x ≥ 0
  · rw [if_pos h0, Int.tdiv_eq_ediv_of_nonneg h0, Int.tmod_eq_emod_of_nonneg h0]
    congr 2
    unfold wrap64
    omega
  · rw [if_neg h0]
    by_cases h3 : x = -9223372036854775808
    · subst h3
      rfl
    · rw [if_neg h3]
      have hm : Int.tmod x 4294967296 = -((-x) % 4294967296) := by
        have : x = -(-x) := by omega
        rw [this, Int.neg_tmod, Int.tmod_eq_emod_of_nonneg (by omega)]
        simp
      rw [hm]
      by_cases h4 : -((-x) % 4294967296) < 0
      · rw [if_pos h4]
        have h5 : wrap64 (-((-x) % 4294967296) + 4294967296) = x % 4294967296 := by unfold wrap64; omega
        rw [h5]
        have h6 : wrap64 (x - x % 4294967296) = x - x % 4294967296 := by unfold wrap64; omega
        rw [h6]
        have h7 : Int.tdiv (x - x % 4294967296) 4294967296 = x / 4294967296 := by
          have h8 : x - x % 4294967296 = 4294967296 * (x / 4294967296) := by omega
          rw [h8, Int.mul_tdiv_cancel_left _ (by omega)]
        rw [h7]
        simp only [Option.bind_some]
        congr 2
        unfold wrap64
        omega
      · rw [if_neg h4]
        have h5 : -((-x) % 4294967296) = x % 4294967296 := by omega
        rw [h5]
        have h6 : wrap64 (x - x % 4294967296) = x - x % 4294967296 := by unfold wrap64; omega
        rw [h6]
        have h7 : Int.tdiv (x - x % 4294967296) 4294967296 = x / 4294967296 := by
          have h8 : x - x % 4294967296 = 4294967296 * (x / 4294967296) := by omega
          rw [h8, Int.mul_tdiv_cancel_left _ (by omega)]
        rw [h7]
        simp only [Option.bind_some]
        congr 2
        unfold wrap64
        omega
theorem fits_eq {h l : Int} (h0 : 0 ≤ l) (h1 : l < 4294967296) : triglyphref01_fits.f h l = some (fit (h * 4294967296 + l)) := by
  unfold triglyphref01_fits.f fit
  by_cases a : h < -2147483648
  · rw [if_pos a, if_pos (by omega)]
  · rw [if_neg a]
    by_cases b : h > 2147483647
    · rw [if_pos b, if_pos (by omega)]
    · rw [if_neg b, if_neg (by omega)]
      congr 2
      unfold wrap64
      omega
theorem refsum_loop (rest : List Int) : ∀ (done : List Int) (k : Nat) (h l : Int), rest.length < k → (done ++ rest).length ≤ 2147483648 → (∀ x ∈ done ++ rest, I64 x) →
    h * 4294967296 + l = done.sum → -(done.length * 2147483648 : Int) ≤ h → h ≤ (done.length * 2147483648 : Int) → 0 ≤ l → l ≤ (done.length * 4294967295 : Int) →
    triglyphref01_Sum.l0 k (done ++ rest) (done.length : Int) h l = some (fit (done ++ rest).sum) := by
  induction rest with
  | nil =>
    intro done k h l hk hl hI hs h1 h2 h3 h4
    obtain ⟨k, rfl⟩ : ∃ m, k = m + 1 := ⟨k - 1, by omega⟩
    simp only [List.append_nil] at hl ⊢
    simp only [triglyphref01_Sum.l0]
    rw [if_neg (by omega), Int.tdiv_eq_ediv_of_nonneg h3, Int.tmod_eq_emod_of_nonneg h3]
    have e1 : wrap64 (h + wrap64 (l / 4294967296)) = h + l / 4294967296 := by unfold wrap64; omega
    have e2 : (h + l / 4294967296) * 4294967296 + l % 4294967296 = h * 4294967296 + l := by omega
    rw [e1, fits_eq (by omega) (by omega), ← hs, e2]
    rfl
  | cons x rest ih =>
    intro done k h l hk hl hI hs h1 h2 h3 h4
    simp only [List.length_cons] at hk
    obtain ⟨k, rfl⟩ : ∃ m, k = m + 1 := ⟨k - 1, by omega⟩
    have hxI := mem_mid hI
    have hlen : ((done ++ x :: rest).length : Int) = done.length + 1 + rest.length := by simp; omega
    have hl' : done.length + 1 + rest.length ≤ 2147483648 := by simp at hl; omega
    have hw : wrap64 ((done.length : Int) + 1) = ((done ++ [x]).length : Int) := by unfold wrap64; simp; omega
    have hsn : done ++ x :: rest = (done ++ [x]) ++ rest := by simp
    have hdl : ((done ++ [x]).length : Int) = done.length + 1 := by simp
    simp only [triglyphref01_Sum.l0]
    rw [if_pos (by omega), if_pos (by omega), rd_mid, wide0_eq hxI]
    simp only [Option.bind_some]
    obtain ⟨x1, x2⟩ := hxI
    have e1 : wrap64 (h + x / 4294967296) = h + x / 4294967296 := by unfold wrap64; omega
    have e2 : wrap64 (l + x % 4294967296) = l + x % 4294967296 := by unfold wrap64; omega
    rw [e1, e2, hw, hsn]
    refine ih _ _ _ _ (by omega) (by rw [← hsn]; exact hl) (by rw [← hsn]; exact hI) ?_ ?_ ?_ ?_ ?_
    · rw [List.sum_append, ← hs]
      simp
      omega
    all_goals first | omega | (rw [hdl]; omega)
theorem refsum_eq {l : List Int} (hl : l.length ≤ 2147483648) (hI : ∀ x ∈ l, I64 x) {k : Nat} (hk : l.length < k) : triglyphref01_Sum.f k l = some (fit l.sum) :=
  refsum_loop l [] k 0 0 hk (by simpa using hl) (by simpa using hI) (by simp) (by simp) (by simp) (by omega) (by simp)
theorem sub_eq {a b : Int} (ha : I64 a) (hb : I64 b) : num_Sub.f a b = some (fit (a - b)) := by
  obtain ⟨a1, a2⟩ := ha
  obtain ⟨b1, b2⟩ := hb
  have e1 : b < 0 → wrap64 (9223372036854775807 + b) = 9223372036854775807 + b := fun _ => by unfold wrap64; omega
  have e2 : 0 < b → wrap64 ((-9223372036854775808) + b) = (-9223372036854775808) + b := fun _ => by unfold wrap64; omega
  have e3 : (-9223372036854775808 ≤ a - b ∧ a - b ≤ 9223372036854775807) → wrap64 (a - b) = a - b := fun _ => by unfold wrap64; omega
  unfold num_Sub.f fit
  by_cases h1 : b < 0
  · rw [if_pos h1, e1 h1]
    by_cases h2 : a > 9223372036854775807 + b
    · rw [if_pos h2, if_pos (by omega)]
    · rw [if_neg h2, if_neg (by omega), if_neg (by omega), e3 (by omega)]
  · rw [if_neg h1]
    by_cases h2 : b > 0
    · rw [if_pos h2, e2 h2]
      by_cases h3 : a < -9223372036854775808 + b
      · rw [if_pos h3, if_pos (by omega)]
      · rw [if_neg h3, if_neg (by omega), e3 (by omega)]
    · rw [if_neg h2, if_neg (by omega), e3 (by omega)]
theorem refsub_eq {a b : Int} (ha : I64 a) (hb : I64 b) {k : Nat} (hk : 3 ≤ k) : triglyphref01_Sub.f k a b = some (fit (a - b)) := by
  have ha' := ha
  obtain ⟨a1, a2⟩ := ha
  obtain ⟨b1, b2⟩ := hb
  unfold triglyphref01_Sub.f
  by_cases h1 : b = -9223372036854775808
  · rw [if_pos h1]
    unfold fit
    by_cases h2 : a ≥ 0
    · rw [if_pos h2, if_pos (by omega)]
    · rw [if_neg h2, if_neg (by omega)]
      congr 2
      unfold wrap64
      omega
  · rw [if_neg h1]
    have e : wrap64 (-b) = -b := by unfold wrap64; omega
    rw [e, refsum_eq (by simp) (by simp; exact ⟨ha', by unfold I64; omega⟩) (by simp; omega)]
    simp [Int.sub_eq_add_neg]
theorem neg_eq {a : Int} (ha : I64 a) : num_Neg.f a = some (fit (0 - a)) := by
  have h0 : I64 0 := by unfold I64; omega
  unfold num_Neg.f; rw [sub_eq h0 ha]; rfl
theorem abs_eq {a : Int} (ha : I64 a) : num_Abs.f a = some (if a < 0 then fit (0 - a) else (a, 0)) := by
  unfold num_Abs.f
  by_cases h : a < 0
  · rw [if_pos h, if_pos h, neg_eq ha]; rfl
  · rw [if_neg h, if_neg h]
theorem refabs_eq {a : Int} (ha : I64 a) {k : Nat} (hk : 3 ≤ k) : triglyphref01_Abs.f k a = some (if a < 0 then fit (0 - a) else (a, 0)) := by
  have h0 : I64 0 := by unfold I64; omega
  unfold triglyphref01_Abs.f
  by_cases h : a < 0
  · rw [if_neg (by omega), if_pos h, refsub_eq h0 ha (by omega)]; rfl
  · rw [if_pos (by omega), if_neg h]
def sgnS (a : Int) : Int := if a < 0 then -1 else if a > 0 then 1 else 0
theorem sgn_eq (a : Int) : num_Sgn.f a = some (sgnS a) := by
  unfold num_Sgn.f sgnS
  by_cases h : a < 0
  · rw [if_pos h, if_pos h]
  · rw [if_neg h, if_neg h]
    by_cases h2 : a > 0
    · rw [if_pos h2, if_pos h2]
    · rw [if_neg h2, if_neg h2]
theorem refsgn_eq (a : Int) : triglyphref01_Sgn.f a = some (sgnS a) := by
  unfold triglyphref01_Sgn.f sgnS
  repeat' split
  all_goals first | rfl | omega
end Go.Proofs.Ytemlommdfmeabaa.Pure
