/- LayoutMay: what it computes is yes, for any function and any two arrays. -/
import Derived.Test.YtiegcghapchimaaStaLayoutMay
import Derived.Test.YtiegcghapchimaaLayM
import Derived.Test.YtiegcghapchimaaLayR
import Derived.Test.YtiegcghapchimaaPx13
import Derived.Test.YtiegcghapchimaaPx16
namespace Go.Proofs.Ytiegcghapchimaa.Pure
open Go.RowKit Go.Proofs.Ytiegcghapchimaa.P Go.Proofs.Ytiegcghapchimaa.Nest Go.Proofs.YtiegcghapchimaaW.PrintWords Go.Proofs.YtiegcghapchimaaW.PrintLast Go.Proofs.YtiegcghapchimaaW.PrintMore
set_option linter.unusedVariables false
set_option linter.unusedSimpArgs false
theorem res_va {s a : S25} (ha : va a.f0 a.f1) (hs : chA s 0 = 0) (he : (resS s a).2.2 = 0) : va (resS s a).1 (resS s a).2.1 := by
  obtain ⟨z, c⟩ := a
  simp only at ha
  unfold resS at he ⊢
  rw [if_pos hs, if_pos ha.2] at he ⊢
  by_cases hw : (wantS s.f0 s.f1).2 = 0
  · rw [if_pos hw] at he ⊢
    obtain ⟨e1, e2, e3⟩ := want_ok hw
    rw [← e1] at e3
    unfold resE at he ⊢
    by_cases hz : (sizeS (wantS s.f0 s.f1).1).2 = 0
    · rw [if_pos hz] at he ⊢
      by_cases h7 : 0 < (sizeS (wantS s.f0 s.f1).1).1 ∧ c.length = 0
      · rw [if_pos h7] at he; cases he
      · rw [if_neg h7]
        have hb := sizeS_bd (wantS s.f0 s.f1).1
        show va (wantS s.f0 s.f1).1 (cyc c 0 (sizeS (wantS s.f0 s.f1).1).1.toNat)
        refine va_of hz (by rw [cyc_len]; omega) (fun d hd => (e3 d hd).2) ?_
        intro x hx
        by_cases hc : 0 < c.length
        · exact cells_ok ha x (cyc_mem c hc _ 0 (by omega) x hx)
        · have hz0 : (sizeS (wantS s.f0 s.f1).1).1.toNat = 0 := by omega
          rw [hz0] at hx
          cases hx
    · rw [if_neg hz] at he; exact absurd he hz
  · rw [if_neg hw] at he; exact absurd he hw
theorem LayoutMay : LayoutMay.Pure := by
  intro op a0 a1 s0 s1 hop ha hs
  obtain ⟨K1, h1⟩ := light_eq ⟨a0, a1⟩ ha
  obtain ⟨K2, h2⟩ := light_eq ⟨s0, s1⟩ hs
  obtain ⟨K3, h3⟩ := rcheck_eq ⟨a0, a1⟩ ha
  obtain ⟨K4, h4⟩ := rcheck_eq ⟨s0, s1⟩ hs
  have hw : ∀ k, 90 ≤ k → triglyphlaw05_LayoutMay.j0 k op true a0 a1 s0 s1 = some true := by
    intro k hk
    obtain ⟨k, rfl, hk2⟩ := succ_of (K := 89) hk
    simp only [triglyphlaw05_LayoutMay.j0]
    rw [if_pos True.intro, works_eq k (by omega)]
    rfl
  by_cases hla : lightS3 ⟨a0, a1⟩ = true
  case neg =>
    refine ⟨K1 + 90, ?_⟩
    unfold triglyphlaw05_LayoutMay.f
    rw [h1 _ (by omega)]
    simp only [Option.bind_some]
    rw [if_neg hla]
    exact hw _ (by omega)
  by_cases hls : lightS3 ⟨s0, s1⟩ = true
  case neg =>
    refine ⟨K1 + K2 + 90, ?_⟩
    unfold triglyphlaw05_LayoutMay.f
    rw [h1 _ (by omega)]
    simp only [Option.bind_some]
    rw [if_pos hla, h2 _ (by omega)]
    simp only [Option.bind_some]
    rw [if_neg hls]
    exact hw _ (by omega)
  by_cases hca : chA ⟨a0, a1⟩ 0 = 0
  case neg =>
    refine ⟨K1 + K2 + K3 + 90, ?_⟩
    unfold triglyphlaw05_LayoutMay.f
    rw [h1 _ (by omega)]
    simp only [Option.bind_some]
    rw [if_pos hla, h2 _ (by omega)]
    simp only [Option.bind_some]
    rw [if_pos hls, h3 _ (by omega)]
    simp only [Option.bind_some]
    rw [if_neg hca]
    exact hw _ (by omega)
  by_cases hcs : chA ⟨s0, s1⟩ 0 = 0
  case neg =>
    refine ⟨K1 + K2 + K3 + K4 + 90, ?_⟩
    unfold triglyphlaw05_LayoutMay.f
    rw [h1 _ (by omega)]
    simp only [Option.bind_some]
    rw [if_pos hla, h2 _ (by omega)]
    simp only [Option.bind_some]
    rw [if_pos hls, h3 _ (by omega)]
    simp only [Option.bind_some]
    rw [if_pos hca, h4 _ (by omega)]
    simp only [Option.bind_some]
    rw [show (chA ⟨s0, s1⟩ 0 != 0) = true by simpa using hcs]
    exact hw _ (by omega)
  have v : va a0 a1 := ⟨ha, hca⟩
  obtain ⟨A1, e1⟩ := mo_eq op ⟨a0, a1⟩ ha (fun _ => light3_sm hla)
  rw [if_pos hca] at e1
  obtain ⟨A2, e2⟩ := res_eq ⟨s0, s1⟩ ⟨a0, a1⟩ hs ha
  have hm : ∃ K, (moS op ⟨a0, a1⟩).2.2 = 0 → ∀ k, K ≤ k → triglyphref03_Check.f k (moS op ⟨a0, a1⟩).1 (moS op ⟨a0, a1⟩).2.1 = some 0 := by
    by_cases he : (moS op ⟨a0, a1⟩).2.2 = 0
    · have v1 := mo_va v he
      obtain ⟨K, hK⟩ := rcheck_eq _ v1.1
      rw [v1.2] at hK
      exact ⟨K, fun _ => hK⟩
    · exact ⟨0, fun h => absurd h he⟩
  have hr : ∃ K, (resS ⟨s0, s1⟩ ⟨a0, a1⟩).2.2 = 0 → ∀ k, K ≤ k → triglyphref03_Check.f k (resS ⟨s0, s1⟩ ⟨a0, a1⟩).1 (resS ⟨s0, s1⟩ ⟨a0, a1⟩).2.1 = some 0 := by
    by_cases he : (resS ⟨s0, s1⟩ ⟨a0, a1⟩).2.2 = 0
    · have v1 := res_va (s := ⟨s0, s1⟩) (a := ⟨a0, a1⟩) v hcs he
      obtain ⟨K, hK⟩ := rcheck_eq _ v1.1
      rw [v1.2] at hK
      exact ⟨K, fun _ => hK⟩
    · exact ⟨0, fun h => absurd h he⟩
  obtain ⟨A3, e3⟩ := hm
  obtain ⟨A4, e4⟩ := hr
  refine ⟨K1 + K2 + K3 + K4 + A1 + A2 + A3 + A4 + 90, ?_⟩
  generalize hk : K1 + K2 + K3 + K4 + A1 + A2 + A3 + A4 + 90 = k
  obtain ⟨k', rfl, hk'⟩ := succ_of (K := K1 + K2 + K3 + K4 + A1 + A2 + A3 + A4 + 89) (k := k) (by omega)
  unfold triglyphlaw05_LayoutMay.f
  rw [h1 _ (by omega)]
  simp only [Option.bind_some]
  rw [if_pos hla, h2 _ (by omega)]
  simp only [Option.bind_some]
  rw [if_pos hls, h3 _ (by omega)]
  simp only [Option.bind_some]
  rw [if_pos hca, h4 _ (by omega), hcs]
  simp only [Option.bind_some]
  rw [show ((0 : Int) != 0) = false from rfl]
  simp only [triglyphlaw05_LayoutMay.j0, Bool.false_eq_true, if_false]
  rw [e1 k' (by omega)]
  simp only [Option.bind_some]
  rw [e2 k' (by omega)]
  simp only [Option.bind_some]
  have hW := works_eq k' (by omega)
  by_cases c1 : (moS op ⟨a0, a1⟩).2.2 = 0
  · rw [if_pos c1, e3 c1 k' (by omega)]
    simp only [Option.bind_some, if_true]
    by_cases c2 : (resS ⟨s0, s1⟩ ⟨a0, a1⟩).2.2 = 0
    · rw [if_pos c2, e4 c2 k' (by omega)]
      simp only [Option.bind_some, if_true]
      rw [hW]
      rfl
    · rw [if_neg c2, hW]
      rfl
  · rw [if_neg c1]
    by_cases c2 : (resS ⟨s0, s1⟩ ⟨a0, a1⟩).2.2 = 0
    · rw [if_pos c2, e4 c2 k' (by omega)]
      simp only [Option.bind_some, if_true]
      rw [hW]
      rfl
    · rw [if_neg c2, hW]
      rfl
end Go.Proofs.Ytiegcghapchimaa.Pure
