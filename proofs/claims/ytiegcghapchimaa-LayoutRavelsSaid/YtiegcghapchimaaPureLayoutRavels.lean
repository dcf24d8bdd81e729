/- LayoutRavels: what it computes is yes, for any array. -/
import Derived.Test.YtiegcghapchimaaStaLayoutRavels
import Derived.Test.YtiegcghapchimaaLayM
import Derived.Test.YtiegcghapchimaaLayR
import Derived.Test.YtiegcghapchimaaPx16
namespace Go.Proofs.Ytiegcghapchimaa.Pure
open Go.RowKit Go.Proofs.Ytiegcghapchimaa.P Go.Proofs.Ytiegcghapchimaa.Nest Go.Proofs.YtiegcghapchimaaW.PrintWords Go.Proofs.YtiegcghapchimaaW.PrintLast Go.Proofs.YtiegcghapchimaaW.PrintMore
set_option linter.unusedVariables false
set_option linter.unusedSimpArgs false
theorem cyc_get (c : List S39) : ∀ (m : Nat) (i : Int) (j : Nat), j < m → (cyc c i m)[j]? = some (rd_T39 c (Int.tmod (i + j) (c.length : Int)))
  | m + 1, i, 0, _ => by rw [cyc]; simp
  | m + 1, i, j + 1, h => by
    rw [cyc, List.getElem?_cons_succ, cyc_get c m (i + 1) j (by omega), show i + 1 + (j : Int) = i + ((j + 1 : Nat) : Int) by omega]
theorem cyc_self (c : List S39) : cyc c 0 c.length = c := by
  apply List.ext_getElem?
  intro j
  rcases Nat.lt_or_ge j c.length with h | h
  · rw [cyc_get c c.length 0 j h, Int.zero_add, Int.tmod_eq_emod_of_nonneg (by omega), Int.emod_eq_of_lt (by omega) (by omega), ← rdC_get (by omega) (by omega)]
    simp
  · rw [List.getElem?_eq_none (by rw [cyc_len]; exact h), List.getElem?_eq_none h]
theorem axes_num (s : List Int) : axes (numC s) = s := by
  unfold axes numC
  rw [List.map_map]
  conv => rhs; rw [← List.map_id s]
  rfl
theorem ravel_back {s : List Int} {c : List S39} (h : va s c) (w : List Int) (z : List Int) (hw : w.length ≤ 1) (h1 : chA ⟨w, numC s⟩ 0 = 0) (h2 : chA ⟨z, c⟩ 0 = 0) : resS ⟨w, numC s⟩ ⟨z, c⟩ = (s, c, 0) := by
  obtain ⟨p1, p2, p3, p4⟩ := chA_parts h.2
  have hl := sizeS_len p1
  have hbad : badS (numC s) = false := by
    unfold badS numC
    rw [List.any_map]
    refine any_false' fun x hx => ?_
    have := sizeS_nonneg p1 x hx
    simp [Function.comp]
    omega
  have hf : finW (axes (numC s)) = (s, 0) := by
    rw [axes_num]
    unfold finW
    rw [if_neg (by omega), p3, if_neg (by decide)]
  unfold resS
  rw [if_pos h1, if_pos h2]
  have hW : wantS w (numC s) = (s, 0) := by
    unfold wantS
    rw [if_neg (by omega), hbad, if_neg (by decide), hf]
  simp only
  rw [hW]
  simp only [if_true]
  unfold resE
  rw [if_pos p1, if_neg (by rw [p2]; omega), p2, Int.toNat_natCast, cyc_self]
where
  any_false' {l : List Int} {p : Int → Bool} (h : ∀ x ∈ l, p x = false) : l.any p = false := any_false h
theorem LayoutRavels : LayoutRavels.Pure := by
  intro s c ha
  obtain ⟨K1, h1⟩ := light_eq ⟨s, c⟩ ha
  obtain ⟨K2, h2⟩ := rcheck_eq ⟨s, c⟩ ha
  obtain ⟨K3, h3⟩ := rsame_eq ⟨s, c⟩ ⟨s, c⟩ ha
  have hw : ∀ k, 90 ≤ k → triglyphlaw05_LayoutRavels.j0 k true s c = some true := by
    intro k hk
    obtain ⟨k, rfl, hk2⟩ := succ_of (K := 89) hk
    simp only [triglyphlaw05_LayoutRavels.j0]
    rw [if_pos True.intro, works_eq k (by omega)]
    rfl
  by_cases hl : lightS3 ⟨s, c⟩ = true
  case neg =>
    refine ⟨K1 + 90, ?_⟩
    unfold triglyphlaw05_LayoutRavels.f
    rw [h1 _ (by omega)]
    simp only [Option.bind_some]
    rw [if_neg hl]
    exact hw _ (by omega)
  by_cases hc : chA ⟨s, c⟩ 0 = 0
  case neg =>
    refine ⟨K1 + K2 + 90, ?_⟩
    unfold triglyphlaw05_LayoutRavels.f
    rw [h1 _ (by omega)]
    simp only [Option.bind_some]
    rw [if_pos hl, h2 _ (by omega)]
    simp only [Option.bind_some]
    rw [show (chA ⟨s, c⟩ 0 != 0) = true by simpa using hc]
    exact hw _ (by omega)
  have v : va s c := ⟨ha, hc⟩
  obtain ⟨A1, e1⟩ := mo_eq 8 ⟨s, c⟩ ha (by omega)
  obtain ⟨A2, e2⟩ := mo_eq 6 ⟨s, c⟩ ha (by omega)
  rw [if_pos hc] at e1 e2
  have m1 : moS 8 ⟨s, c⟩ = ([(c.length : Int)], c, 0) := by simp [moS]
  have m2 : moS 6 ⟨s, c⟩ = ([(s.length : Int)], numC s, 0) := by simp [moS]
  have v1 := mo_va (op := 8) v (by rw [m1])
  have v2 := mo_va (op := 6) v (by rw [m2])
  rw [m1] at v1 e1
  rw [m2] at v2 e2
  obtain ⟨A3, e3⟩ := res_eq ⟨[(s.length : Int)], numC s⟩ ⟨[(c.length : Int)], c⟩ v2.1 v1.1
  rw [ravel_back v _ _ (by simp) v2.2 v1.2] at e3
  refine ⟨K1 + K2 + K3 + A1 + A2 + A3 + 90, ?_⟩
  generalize hk : K1 + K2 + K3 + A1 + A2 + A3 + 90 = k
  obtain ⟨k', rfl, hk'⟩ := succ_of (K := K1 + K2 + K3 + A1 + A2 + A3 + 89) (k := k) (by omega)
  unfold triglyphlaw05_LayoutRavels.f
  rw [h1 _ (by omega)]
  simp only [Option.bind_some]
  rw [if_pos hl, h2 _ (by omega), hc]
  simp only [Option.bind_some]
  rw [show ((0 : Int) != 0) = false from rfl]
  simp only [triglyphlaw05_LayoutRavels.j0, Bool.false_eq_true, if_false]
  rw [e1 k' (by omega), e2 k' (by omega)]
  simp only [Option.bind_some]
  rw [e3 k' (by omega)]
  simp only [Option.bind_some, if_true]
  rw [h3 k' (by omega), cmpA_self]
  simp only [Option.bind_some]
  rw [if_pos (by rfl), works_eq k' (by omega)]
  rfl
end Go.Proofs.Ytiegcghapchimaa.Pure
