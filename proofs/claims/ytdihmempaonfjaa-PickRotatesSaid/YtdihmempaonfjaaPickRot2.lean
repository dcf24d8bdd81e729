/- PickRotates: what it computes is yes, for any array and any numbers. -/
import Derived.Test.YtdihmempaonfjaaStaPickRotates
import Derived.Test.YtdihmempaonfjaaPickRot
import Derived.Test.YtdihmempaonfjaaPx5
import Derived.Test.YtdihmempaonfjaaPx6
import Derived.Test.YtdihmempaonfjaaPx7
namespace Go.Proofs.Ytdihmempaonfjaa.Pure
open Go.RowKit Go.Proofs.Ytdihmempaonfjaa.P Go.Proofs.Ytdihmempaonfjaa.Nest Go.Proofs.YtdihmempaonfjaaW.PrintWords Go.Proofs.YtdihmempaonfjaaW.PrintLast Go.Proofs.YtdihmempaonfjaaW.PrintMore
set_option linter.unusedVariables false
set_option linter.unusedSimpArgs false
def one1 (c : Int) : List S45 := [⟨0, c, []⟩]
theorem wf_in {c : Int} (h : -9223372036854775808 ≤ c ∧ c ≤ 9223372036854775807) : (Lit.int .i64 c).wf = true := by
  unfold Lit.wf
  rw [Bool.and_eq_true]
  exact ⟨decide_eq_true (show (-9223372036854775808 : Int) ≤ c by omega), decide_eq_true (show c ≤ 9223372036854775807 by omega)⟩
theorem one_ok {c : Int} (hc : -9223372036854775808 ≤ c ∧ c ≤ 9223372036854775807) : okA ⟨[], one1 c⟩ ∧ chA ⟨[], one1 c⟩ 0 = 0 := by
  constructor
  · refine okA_of (by simp) (by simp) (by simp [one1]) (fun x hx => ?_)
    obtain rfl := List.mem_singleton.1 hx
    rw [okC, okAs]
    exact ⟨by decide, wf_in hc, by simp, trivial⟩
  · refine chA_of (by decide) (by rw [show ((one1 c).length : Int) = 1 from rfl]; decide) (by decide) ?_
    unfold one1
    rw [chCs, chC, chB, if_pos rfl, if_pos rfl, chCs]
theorem dy_rot (op : Int) (ho : op = 44 ∨ op = 45) {c : Int} (hc : -9223372036854775808 ≤ c ∧ c ≤ 9223372036854775807) {s : List Int} {cs : List S45} (hok : okA ⟨s, cs⟩) (hch : chA ⟨s, cs⟩ 0 = 0) (R : List Int × List S45)
    (H : ∃ K, ∀ k, K ≤ k → pick_rotated.f k c s cs (if op = 44 then 0 else wrap64 ((s.length : Int) - 1)) = some R) : ∃ K, ∀ k, K ≤ k → pick_Dy.f k op [] (one1 c) s cs = some (R.1, R.2, 0) := by
  obtain ⟨o1, o2⟩ := one_ok hc
  clear hc
  obtain ⟨K1, h1⟩ := check_eq ⟨[], one1 c⟩ o1
  obtain ⟨K2, h2⟩ := check_eq ⟨s, cs⟩ hok
  obtain ⟨K3, h3⟩ := copy_eq ⟨[], one1 c⟩ o1
  obtain ⟨K4, h4⟩ := copy_eq ⟨s, cs⟩ hok
  rw [o2] at h1
  rw [hch] at h2
  rw [coA_id _ 0 o2] at h3
  rw [coA_id _ 0 hch] at h4
  obtain ⟨K5, h5⟩ := H
  dsimp only at h1 h2 h3 h4
  refine ⟨K1 + K2 + K3 + K4 + K5 + 6, fun k hk => ?_⟩
  obtain ⟨k, rfl⟩ : ∃ j, k = j + 1 + 1 + 1 + 1 + 1 + 1 := ⟨k - 6, by omega⟩
  have w1 : wrap64 (0 + 1) = 1 := wrap_in (by omega) (by omega)
  have w2 : wrap64 (1 + 1) = 2 := wrap_in (by omega) (by omega)
  have g0 : rd_T25 [(⟨[], one1 c⟩ : S25), ⟨s, cs⟩] 0 = ⟨[], one1 c⟩ := rfl
  have g1 : rd_T25 [(⟨[], one1 c⟩ : S25), ⟨s, cs⟩] 1 = ⟨s, cs⟩ := rfl
  have hnum : pick_number.f [] (one1 c) = some (c, 0) := by
    unfold pick_number.f
    rw [if_neg (by simp), if_pos (by simp [one1]), show (rd_T45 (one1 c) 0).f0 = 0 from rfl, if_pos rfl]
    rfl
  unfold pick_Dy.f
  rw [Option.bind_some]
  rw [show ((([(⟨[], one1 c⟩ : S25), ⟨s, cs⟩] : List S25).length : Nat) : Int) = 2 from rfl]
  have q0 : ∀ (i : Nat), ((([(⟨[], one1 c⟩ : S25), ⟨s, cs⟩] : List S25).length : Nat) : Int) = 2 := fun _ => rfl
  rw [pick_Dy.l0, q0 0, if_pos (by decide), if_pos (by decide), if_pos (by decide), g0, h1 _ (by omega)]
  rw [Option.bind_some]
  rw [if_pos rfl, w1, pick_Dy.l0, q0 0, if_pos (by decide), if_pos (by decide), if_pos (by decide), g1, h2 _ (by omega)]
  rw [Option.bind_some]
  rw [if_pos rfl, w2, pick_Dy.l0, if_neg (by decide), h3 _ (by omega)]
  rw [Option.bind_some]
  rw [h4 _ (by omega)]
  rw [Option.bind_some]
  rcases ho with rfl | rfl
  · rw [if_neg (by decide), pick_Dy.j1, if_neg (by decide), if_neg (by decide), if_neg (by decide), if_neg (by decide), pick_Dy.j2, if_neg (by decide), if_neg (by decide), if_neg (by decide), if_pos rfl, pick_Dy.j3, hnum]
    rw [Option.bind_some]
    rw [if_pos rfl, if_neg (by decide), if_neg (by decide), if_pos rfl]
    rw [if_pos rfl] at h5
    rw [h5 k (by omega), Option.bind_some]
  · rw [if_neg (by decide), pick_Dy.j1, if_neg (by decide), if_neg (by decide), if_neg (by decide), if_neg (by decide), pick_Dy.j2, if_neg (by decide), if_neg (by decide), if_neg (by decide), if_neg (by decide), if_pos rfl, pick_Dy.j3, hnum]
    rw [Option.bind_some]
    rw [if_pos rfl, if_neg (by decide), if_neg (by decide), if_neg (by decide)]
    rw [if_neg (by decide)] at h5
    rw [h5 k (by omega), Option.bind_some]
theorem rotC_len {p : List Int} {d : Int} {r : List Int} {n : Int} {cs : List S45} (h : (sizeS (p ++ d :: r)).2 = 0) (hcs : (sizeS (p ++ d :: r)).1 = (cs.length : Int)) (hn : cs ≠ []) :
    cs.length = (prodS p).toNat * (d.toNat * (prodS r).toNat) ∧ 0 < (prodS r).toNat ∧ 0 < d ∧ ((n % d).toNat < d.toNat ∧ 0 ≤ n % d) := by
  have hpos : 0 < (sizeS (p ++ d :: r)).1 := by
    rw [hcs]
    have : cs.length ≠ 0 := fun h => hn (List.eq_nil_of_length_eq_zero h)
    omega
  obtain ⟨g1, g2, _⟩ := sizeS_ok h hpos
  obtain ⟨i1, i2, i3, i4⟩ := axis_bd g1 g2
  rw [hcs] at i3
  have hd : 0 < d := by omega
  have a := Int.emod_nonneg n (show d ≠ 0 by omega)
  have b := Int.emod_lt_of_pos n hd
  exact ⟨by exact_mod_cast i3, i1, hd, by omega, a⟩
theorem rotC_lt {d I x : Nat} (h : x < d) : x * I ≤ d * I := Nat.mul_le_mul_right _ (by omega)
theorem rotC_two {p : List Int} {d : Int} {r : List Int} {m n : Int} {cs : List S45} (h : (sizeS (p ++ d :: r)).2 = 0) (hcs : (sizeS (p ++ d :: r)).1 = (cs.length : Int)) :
    (rotC p d r m cs).length = cs.length ∧ rotC p d r n (rotC p d r m cs) = rotC p d r (m + n) cs := by
  by_cases hn : cs = []
  · subst hn
    simp [rotC]
  · obtain ⟨q1, q2, q3, q4, q5⟩ := rotC_len (n := m) h hcs hn
    obtain ⟨_, _, _, q6, q7⟩ := rotC_len (n := n) h hcs hn
    have l1 : (rotC p d r m cs).length = cs.length := by
      unfold rotC
      rw [if_neg hn, rotP_len q1 (rotC_lt q4) _ (Nat.le_refl _), ← q1]
    refine ⟨l1, ?_⟩
    have hne : rotC p d r m cs ≠ [] := by
      intro e
      rw [e] at l1
      exact hn (List.eq_nil_of_length_eq_zero (by simpa using l1.symm))
    have e0 := rotP_rotP q1 (rotC_lt (I := (prodS r).toNat) q4) (rotC_lt (I := (prodS r).toNat) q6) (prodS p).toNat (Nat.le_refl _)
    have e1 : rotC p d r m cs = rotP (d.toNat * (prodS r).toNat) ((m % d).toNat * (prodS r).toNat) cs (prodS p).toNat := by unfold rotC; rw [if_neg hn]
    have e2 : (if (m % d).toNat * (prodS r).toNat + (n % d).toNat * (prodS r).toNat < d.toNat * (prodS r).toNat then (m % d).toNat * (prodS r).toNat + (n % d).toNat * (prodS r).toNat else (m % d).toNat * (prodS r).toNat + (n % d).toNat * (prodS r).toNat - d.toNat * (prodS r).toNat) = ((m + n) % d).toNat * (prodS r).toNat := by
      have hmm := Int.mul_ediv_add_emod m d
      have hnn := Int.mul_ediv_add_emod n d
      by_cases hx : (m % d).toNat + (n % d).toNat < d.toNat
      · have hlt := (Nat.mul_lt_mul_right q2).2 hx
        rw [Nat.add_mul] at hlt
        have e : (m + n) % d = m % d + n % d := emod_of (q := m / d + n / d) (by rw [Int.mul_add]; omega) (by omega) (by omega)
        rw [if_pos hlt, e, show (m % d + n % d).toNat = (m % d).toNat + (n % d).toNat by omega, Nat.add_mul]
      · have hge : d.toNat * (prodS r).toNat ≤ ((m % d).toNat + (n % d).toNat) * (prodS r).toNat := Nat.mul_le_mul_right _ (by omega)
        rw [Nat.add_mul] at hge
        have e : (m + n) % d = m % d + n % d - d := emod_of (q := m / d + n / d + 1) (by rw [Int.mul_add, Int.mul_add, Int.mul_one]; omega) (by omega) (by omega)
        rw [if_neg (by omega), e, show (m % d + n % d - d).toNat = (m % d).toNat + (n % d).toNat - d.toNat by omega, Nat.sub_mul, Nat.add_mul]
    rw [e2] at e0
    rw [← e1] at e0
    have e3 : rotC p d r (m + n) cs = rotP (d.toNat * (prodS r).toNat) (((m + n) % d).toNat * (prodS r).toNat) cs (prodS p).toNat := by unfold rotC; rw [if_neg hn]
    rw [e3, ← e0]
    generalize rotC p d r m cs = y at hne
    unfold rotC
    rw [if_neg hne]
theorem rotC_turn {p : List Int} {d : Int} {r : List Int} {cs : List S45} (h : (sizeS (p ++ d :: r)).2 = 0) (hcs : (sizeS (p ++ d :: r)).1 = (cs.length : Int)) : rotC p d r d cs = cs := by
  unfold rotC
  by_cases hn : cs = []
  · rw [if_pos hn, hn]
  · obtain ⟨q1, _⟩ := rotC_len (n := 0) h hcs hn
    rw [if_neg hn, Int.emod_self, show (0 : Int).toNat = 0 from rfl, Nat.zero_mul, rotP_zero, ← q1]
    exact List.take_of_length_le (Nat.le_refl _)
theorem rotC_mem {p : List Int} {d : Int} {r : List Int} {n : Int} {cs : List S45} {x : S45} (h : x ∈ rotC p d r n cs) : x ∈ cs := by
  unfold rotC at h
  split at h
  · cases h
  · exact rotP_mem _ h
theorem axis_of {s : List Int} (hs : s ≠ []) (last : Bool) : ∃ p d r, s = p ++ d :: r ∧ (last = true → p.length + 1 = s.length) ∧ (last = false → p.length = 0) := by
  cases last with
  | false =>
    obtain ⟨d, r, rfl⟩ : ∃ d r, s = d :: r := by cases s with | nil => exact absurd rfl hs | cons d r => exact ⟨d, r, rfl⟩
    exact ⟨[], d, r, rfl, (fun h => by cases h), (fun _ => rfl)⟩
  | true =>
    have e := List.dropLast_concat_getLast hs
    refine ⟨s.dropLast, s.getLast hs, [], e.symm, (fun _ => ?_), (fun h => by cases h)⟩
    have := congrArg List.length e
    simpa using this
end Go.Proofs.Ytdihmempaonfjaa.Pure
