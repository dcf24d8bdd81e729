/- Any list of whole numbers of 64 bits, in another order: num.Sum and num.Prod answer the same. No condition. -/
import Derived.Test.YtjafglcmfofjjaaPureNumCommon
namespace Go.Proofs.Ytjafglcmfofjjaa.Pure
open Go.RowKit Go.Proofs.Ytjafglcmfofjjaa.P Go.Proofs.YtjafglcmfofjjaaW.PrintWords Go.Proofs.YtjafglcmfofjjaaW.PrintLast
set_option linter.unusedVariables false
set_option linter.unusedSimpArgs false

theorem orders_loop (l : List Int) (kk : Nat) (hl : l.length ≤ 17592186044415) (hI : ∀ x ∈ l, I64 x) (hk : kk < l.length) (d : Nat) : ∀ (i k : Nat), i + d = l.length → l.length + d + 10 < k →
    triglyphlaw01_NumOrders.l0 k l (kk : Int) ((turnd l kk).take i) (i : Int) = some true := by
  induction d with
  | zero =>
    intro i k hi hk2
    obtain ⟨k, rfl⟩ : ∃ m, k = m + 1 := ⟨k - 1, by omega⟩
    have ht : (turnd l kk).take i = turnd l kk := List.take_of_length_le (by rw [turnd_length]; omega)
    have hI2 : ∀ x ∈ turnd l kk, I64 x := fun x hx => hI x (turnd_mem hx)
    have hl2 := turnd_length l kk
    simp only [triglyphlaw01_NumOrders.l0]
    rw [if_neg (by omega), ht, sum_eq (by omega) hI, sum_eq (by omega) hI2, prod_eq (by omega) hI (by omega), prod_eq (by omega) hI2 (by omega), turnd_sum, turnd_pr, works_eq (by omega)]
    simp
  | succ d ih =>
    intro i k hi hk2
    obtain ⟨k, rfl⟩ : ∃ m, k = m + 1 := ⟨k - 1, by omega⟩
    have q1 : i + 1 + d = l.length := by omega
    have q2 : l.length + d + 10 < k := by omega
    have hl2 := turnd_length l kk
    have e1 : wrap64 ((kk : Int) + (l.length : Int)) = (kk : Int) + l.length := by unfold wrap64; omega
    have e2 : wrap64 ((kk : Int) + (l.length : Int) - (i : Int)) = ((kk + l.length - i : Nat) : Int) := by unfold wrap64; omega
    have e3 : Int.tmod ((kk + l.length - i : Nat) : Int) (l.length : Int) = (((kk + l.length - i) % l.length : Nat) : Int) := by
      rw [Int.tmod_eq_emod_of_nonneg (by omega)]
      exact (Int.natCast_emod _ _).symm
    have hlt : (kk + l.length - i) % l.length < l.length := Nat.mod_lt _ (by omega)
    simp only [triglyphlaw01_NumOrders.l0]
    rw [e1, e2, e3, if_pos (by omega), if_neg (by omega), if_pos (by omega), if_pos (by omega), if_pos (by rw [List.length_take]; omega)]
    have e4 : (turnd l kk).take i ++ [rd l (((kk + l.length - i) % l.length : Nat) : Int)] = (turnd l kk).take (i + 1) := by
      have hg := turnd_get l kk i hk (by omega)
      rw [List.take_add_one, hg]
      generalize (kk + l.length - i) % l.length = m at hlt
      unfold rd
      rw [Int.toNat_natCast, List.getElem?_eq_getElem hlt, List.getD_eq_getElem?_getD, List.getElem?_eq_getElem hlt]
      rfl
    have e5 : wrap64 ((i : Int) + 1) = ((i + 1 : Nat) : Int) := by unfold wrap64; omega
    rw [e4, e5]
    exact ih (i + 1) k q1 q2
theorem orders_nil (a : Int) : triglyphlaw01_NumOrders.f 20 [] a = some true := by
  unfold triglyphlaw01_NumOrders.f
  rw [if_pos (by simp), sum_eq (by simp) (by simp), prod_eq (by simp) (by simp) (by simp), works_eq (by omega)]
  simp [pr, fit]
theorem orders_some (l : List Int) (a : Int) (kk k : Nat) (hl : l.length ≤ 17592186044415) (hI : ∀ x ∈ l, I64 x) (h0 : ¬ (l.length : Int) = 0) (hkk : IntKind.u64.wrap a % (l.length : Int) = (kk : Int)) (hk : 2 * l.length + 10 < k) : triglyphlaw01_NumOrders.f k l a = some true := by
  have e1 : IntKind.u64.wrap (l.length : Int) = (l.length : Int) := by rw [u64w]; omega
  have e2 : 0 ≤ IntKind.u64.wrap a := by rw [u64w]; omega
  have e3 : 0 ≤ IntKind.u64.wrap a % (l.length : Int) := Int.emod_nonneg _ h0
  have e4 : IntKind.u64.wrap a % (l.length : Int) < (l.length : Int) := Int.emod_lt_of_pos _ (by omega)
  rw [hkk] at e3 e4
  have e5 : wrap64 (kk : Int) = (kk : Int) := by unfold wrap64; omega
  have h := orders_loop l kk hl hI (by omega) l.length 0 k (by omega) (by omega)
  rw [List.take_zero] at h
  unfold triglyphlaw01_NumOrders.f
  rw [if_neg h0, e1, if_neg h0, Int.tmod_eq_emod_of_nonneg e2, hkk, e5]
  exact h
theorem NumOrders : triglyphlaw01_NumOrders.Pure := by
  intro l a hm hl hI ha
  have hI : ∀ x ∈ l, I64 x := fun x hx => i64_of (hI x hx)
  by_cases h0 : (l.length : Int) = 0
  · have : l = [] := List.length_eq_zero_iff.1 (by omega)
    subst this
    exact ⟨20, orders_nil a⟩
  · have e3 : 0 ≤ IntKind.u64.wrap a % (l.length : Int) := Int.emod_nonneg _ h0
    exact ⟨2 * l.length + 11, orders_some l a (IntKind.u64.wrap a % (l.length : Int)).toNat _ (by omega) hI h0 (by omega) (by omega)⟩
end Go.Proofs.Ytjafglcmfofjjaa.Pure
