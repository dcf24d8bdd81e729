/- LayoutBack: what it computes is yes, for any array. -/
import Derived.Test.YtiegcghapchimaaStaLayoutBack
import Derived.Test.YtiegcghapchimaaLayM
import Derived.Test.YtiegcghapchimaaPx15
import Derived.Test.YtiegcghapchimaaPx7
namespace Go.Proofs.Ytiegcghapchimaa.Pure
open Go.RowKit Go.Proofs.Ytiegcghapchimaa.P Go.Proofs.Ytiegcghapchimaa.Nest Go.Proofs.YtiegcghapchimaaW.PrintWords Go.Proofs.YtiegcghapchimaaW.PrintLast Go.Proofs.YtiegcghapchimaaW.PrintMore
set_option linter.unusedVariables false
set_option linter.unusedSimpArgs false
/-- There and back. -/
theorem twice {op : Int} {s : List Int} {c : List S39} (h : va s c) (ho : op = 9 ∨ op = 10 ∨ op = 11) :
    ∃ s' c' K, va s' c' ∧ ∀ k, K ≤ k → layout_Mo.f k op s c = some (s', c', 0) ∧ layout_Mo.f k op s' c' = some (s, c, 0) := by
  obtain ⟨K1, h1⟩ := mo_eq op ⟨s, c⟩ h.1 (by omega)
  rw [if_pos h.2] at h1
  rcases ho with rfl | rfl | rfl
  · obtain ⟨v, e⟩ := revF_va h
    obtain ⟨K2, h2⟩ := mo_eq 9 ⟨s, revF s c⟩ v.1 (by omega)
    rw [if_pos v.2] at h2
    refine ⟨s, revF s c, K1 + K2, v, fun k hk => ⟨h1 k (by omega), ?_⟩⟩
    rw [h2 k (by omega)]
    simp [moS, e]
  · obtain ⟨v, e⟩ := revL_va h
    obtain ⟨K2, h2⟩ := mo_eq 10 ⟨s, revL s c⟩ v.1 (by omega)
    rw [if_pos v.2] at h2
    refine ⟨s, revL s c, K1 + K2, v, fun k hk => ⟨h1 k (by omega), ?_⟩⟩
    rw [h2 k (by omega)]
    simp [moS, e]
  · obtain ⟨v, e⟩ := flS_va h
    obtain ⟨K2, h2⟩ := mo_eq 11 ⟨s.reverse, flS s c⟩ v.1 (by omega)
    rw [if_pos v.2] at h2
    refine ⟨s.reverse, flS s c, K1 + K2, v, fun k hk => ⟨h1 k (by omega), ?_⟩⟩
    rw [h2 k (by omega)]
    simp [moS, e]
theorem LayoutBack : LayoutBack.Pure := by
  intro s c ha
  obtain ⟨K1, h1⟩ := light_eq ⟨s, c⟩ ha
  obtain ⟨K2, h2⟩ := rcheck_eq ⟨s, c⟩ ha
  obtain ⟨K3, h3⟩ := rsame_eq ⟨s, c⟩ ⟨s, c⟩ ha
  have hw : ∀ k, 90 ≤ k → triglyphlaw05_LayoutBack.j0 k true s c = some true := by
    intro k hk
    obtain ⟨k, rfl, hk2⟩ := succ_of (K := 89) hk
    simp only [triglyphlaw05_LayoutBack.j0]
    rw [if_pos True.intro, works_eq k (by omega)]
    rfl
  by_cases hl : lightS3 ⟨s, c⟩ = true
  case neg =>
    refine ⟨K1 + 90, ?_⟩
    unfold triglyphlaw05_LayoutBack.f
    rw [h1 _ (by omega)]
    simp only [Option.bind_some]
    rw [if_neg hl]
    exact hw _ (by omega)
  by_cases hc : chA ⟨s, c⟩ 0 = 0
  case neg =>
    refine ⟨K1 + K2 + 90, ?_⟩
    unfold triglyphlaw05_LayoutBack.f
    rw [h1 _ (by omega)]
    simp only [Option.bind_some]
    rw [if_pos hl, h2 _ (by omega)]
    simp only [Option.bind_some]
    rw [show (chA ⟨s, c⟩ 0 != 0) = true by simpa using hc]
    exact hw _ (by omega)
  have v : va s c := ⟨ha, hc⟩
  have hsm := light3_sm hl
  obtain ⟨s1, c1, A1, v1, e1⟩ := twice (op := 9) v (by omega)
  obtain ⟨s2, c2, A2, v2, e2⟩ := twice (op := 10) v (by omega)
  obtain ⟨s3, c3, A3, v3, e3⟩ := twice (op := 11) v (by omega)
  obtain ⟨B1, g1⟩ := mo_eq 15 ⟨s, c⟩ ha (fun _ => hsm)
  rw [if_pos hc] at g1
  obtain ⟨B2, g2⟩ := rdeep_eq ⟨s, c⟩ ha hsm
  have hd8 := dA ⟨s, c⟩ 0 hc (by omega)
  have hT : ∃ K, ∀ k, K ≤ k → triglyphlaw05_LayoutBack.l0 k [9, 10, 11] 3 3 s c = some true := by
    by_cases hd : deA ⟨s, c⟩ ≥ 8
    · refine ⟨B1 + B2 + 90, fun k hk => ?_⟩
      obtain ⟨k, rfl, hk2⟩ := succ_of (K := B1 + B2 + 89) hk
      simp only [triglyphlaw05_LayoutBack.l0]
      rw [if_neg (by omega), g1 k (by omega), show moS 15 ⟨s, c⟩ = noE 15 by simp [moS, hd]]
      simp only [noE, Option.bind_some]
      rw [if_neg (by omega), if_true, g2 k (by omega)]
      simp only [Option.bind_some]
      rw [if_pos (by omega), works_eq k (by omega)]
      rfl
    · have vb := box_va ha hc (by omega)
      obtain ⟨B3, g3⟩ := mo_eq 16 ⟨[], [⟨2, 0, [⟨s, c⟩]⟩]⟩ vb.1 (by omega)
      rw [if_pos vb.2] at g3
      refine ⟨B1 + B3 + K3 + 90, fun k hk => ?_⟩
      obtain ⟨k, rfl, hk2⟩ := succ_of (K := B1 + B3 + K3 + 89) hk
      simp only [triglyphlaw05_LayoutBack.l0]
      have e15 : moS 15 ⟨s, c⟩ = ([], [⟨2, 0, [⟨s, c⟩]⟩], 0) := by
        show (if deA ⟨s, c⟩ ≥ 8 then noE 15 else ([], [⟨2, 0, [⟨s, c⟩]⟩], 0)) = _
        rw [if_neg hd]
      have e16 : moS 16 ⟨[], [⟨2, 0, [⟨s, c⟩]⟩]⟩ = (s, c, 0) := rfl
      rw [if_neg (by omega), g1 k (by omega), e15]
      simp only [Option.bind_some, if_true]
      rw [g3 k (by omega), e16]
      simp only [Option.bind_some, if_true]
      rw [h3 k (by omega), cmpA_self]
      simp only [Option.bind_some]
      rw [if_pos (by rfl), works_eq k (by omega)]
      rfl
  obtain ⟨B4, g4⟩ := hT
  have step : ∀ (i : Int) (op : Int) (s' : List Int) (c' : List S39) (A : Nat), 0 ≤ i → i < 3 → rd [9, 10, 11] i = op → (∀ k, A ≤ k → layout_Mo.f k op s c = some (s', c', 0) ∧ layout_Mo.f k op s' c' = some (s, c, 0)) →
      (∃ K, ∀ k, K ≤ k → triglyphlaw05_LayoutBack.l0 k [9, 10, 11] 3 (i + 1) s c = some true) → ∃ K, ∀ k, K ≤ k → triglyphlaw05_LayoutBack.l0 k [9, 10, 11] 3 i s c = some true := by
    rintro i op s' c' A i0 i3 hr hA ⟨K, hK⟩
    refine ⟨K + A + K3 + 1, fun k hk => ?_⟩
    obtain ⟨k, rfl, hk2⟩ := succ_of (K := K + A + K3) hk
    obtain ⟨x1, x2⟩ := hA k (by omega)
    simp only [triglyphlaw05_LayoutBack.l0]
    rw [if_pos i3, if_pos i0, if_pos (by simpa using i3), hr, x1]
    simp only [Option.bind_some]
    rw [x2]
    simp only [Option.bind_some, if_true]
    rw [h3 k (by omega), cmpA_self]
    simp only [Option.bind_some]
    rw [if_pos (by rfl), wrap_in (by omega) (by omega)]
    exact hK k (by omega)
  obtain ⟨B5, g5⟩ := step 0 9 s1 c1 A1 (by omega) (by omega) rfl e1 (step 1 10 s2 c2 A2 (by omega) (by omega) rfl e2 (step 2 11 s3 c3 A3 (by omega) (by omega) rfl e3 ⟨B4, g4⟩))
  refine ⟨K1 + K2 + B5 + 1, ?_⟩
  unfold triglyphlaw05_LayoutBack.f
  rw [h1 _ (by omega)]
  simp only [Option.bind_some]
  rw [if_pos hl, h2 _ (by omega), hc]
  simp only [Option.bind_some]
  rw [show ((0 : Int) != 0) = false from rfl]
  simp only [triglyphlaw05_LayoutBack.j0, Bool.false_eq_true, if_false, Option.bind_some]
  exact g5 _ (by omega)
end Go.Proofs.Ytiegcghapchimaa.Pure
