/- The reference's own reshape. -/
import Derived.Test.YtiegcghapchimaaLayR
import Derived.Test.YtiegcghapchimaaPx14
namespace Go.Proofs.Ytiegcghapchimaa.Pure
open Go.RowKit Go.Proofs.Ytiegcghapchimaa.P Go.Proofs.Ytiegcghapchimaa.Nest Go.Proofs.YtiegcghapchimaaW.PrintWords Go.Proofs.YtiegcghapchimaaW.PrintLast Go.Proofs.YtiegcghapchimaaW.PrintMore
set_option linter.unusedVariables false
set_option linter.unusedSimpArgs false
theorem rrs_l1 (ss : List Int) (s a : List Int) (C c : List S39) (R : List Int × List S39 × Int) (K : Nat) : ∀ (rest done : List S39), C = done ++ rest → C.length ≤ 8 →
    ((axes rest).any (16384 < ·) = false → ∃ K, ∀ k, K ≤ k → triglyphref05_Reshape.l1 k (C.length : Int) s C a c (axes C) = some R) →
    ∃ K, ∀ k, K ≤ k → triglyphref05_Reshape.l1 k (done.length : Int) s C a c (axes done) = some (if (axes rest).any (16384 < ·) = true then ([], [], 12) else R)
  | [], done, hC, hl, H => by
    obtain ⟨K, hK⟩ := H rfl
    rw [List.append_nil] at hC
    subst hC
    exact ⟨K, fun k hk => by rw [hK k hk]; simp [axes]⟩
  | x :: rest, done, hC, hl, H => by
    have hn : (C.length : Int) = done.length + 1 + rest.length := by rw [hC]; simp; omega
    have hd : rd_T39 C (done.length : Int) = x := by rw [hC, rdC_mid]
    by_cases hx : x.f1 > 16384
    · refine ⟨1, fun k hk => ?_⟩
      obtain ⟨k, rfl, _⟩ := succ_of (K := 0) hk
      simp only [triglyphref05_Reshape.l1]
      rw [if_pos (by omega), if_pos (by omega), hd, if_pos hx]
      simp [axes, hx]
    · obtain ⟨K, hK⟩ := rrs_l1 ss s a C c R K rest (done ++ [x]) (by rw [hC]; simp) hl (fun h => H (by simp [axes] at h ⊢; exact ⟨by omega, h⟩))
      refine ⟨K + 1, fun k hk => ?_⟩
      obtain ⟨k, rfl, hk2⟩ := succ_of hk
      simp only [triglyphref05_Reshape.l1]
      have ha : axes done ++ [x.f1] = axes (done ++ [x]) := by simp [axes]
      rw [if_pos (by omega), if_pos (by omega), hd, if_neg hx, if_pos (by simp [axes]; omega), ha, wrap_next done x (by omega), hK k hk2]
      simp [axes, hx]
theorem rrs_l0 (s a : List Int) (C c : List S39) (R : List Int × List S39 × Int) (hl : C.length * 40 ≤ reachBytes) : ∀ (rest done : List S39), C = done ++ rest →
    (badS rest = false → ∃ K, ∀ k, K ≤ k → triglyphref05_Reshape.l0 k (C.length : Int) s C a c = some R) →
    ∃ K, ∀ k, K ≤ k → triglyphref05_Reshape.l0 k (done.length : Int) s C a c = some (if badS rest = true then ([], [], 5) else R)
  | [], done, hC, H => by
    obtain ⟨K, hK⟩ := H rfl
    rw [List.append_nil] at hC
    subst hC
    exact ⟨K, fun k hk => by rw [hK k hk]; simp [badS]⟩
  | x :: rest, done, hC, H => by
    have hn : (C.length : Int) = done.length + 1 + rest.length := by rw [hC]; simp; omega
    have hd : rd_T39 C (done.length : Int) = x := by rw [hC, rdC_mid]
    unfold reachBytes at hl
    by_cases hb : x.f0 = 0
    · by_cases hx : x.f1 < 0
      · refine ⟨1, fun k hk => ?_⟩
        obtain ⟨k, rfl, _⟩ := succ_of (K := 0) hk
        simp only [triglyphref05_Reshape.l0]
        rw [if_pos (by omega), if_pos (by omega), hd, if_pos hb, if_pos hx]
        simp [badS, hx]
      · obtain ⟨K, hK⟩ := rrs_l0 s a C c R hl rest (done ++ [x]) (by rw [hC]; simp) (fun h => H (by simp [badS] at h ⊢; exact ⟨⟨hb, by omega⟩, h⟩))
        refine ⟨K + 1, fun k hk => ?_⟩
        obtain ⟨k, rfl, hk2⟩ := succ_of hk
        simp only [triglyphref05_Reshape.l0]
        rw [if_pos (by omega), if_pos (by omega), hd, if_pos hb, if_neg hx, wrap_next done x (by omega), hK k hk2]
        simp [badS, hb, hx]
    · refine ⟨1, fun k hk => ?_⟩
      obtain ⟨k, rfl, _⟩ := succ_of (K := 0) hk
      simp only [triglyphref05_Reshape.l0]
      rw [if_pos (by omega), if_pos (by omega), hd, if_neg hb]
      simp [badS, hb]
theorem rres_eq (s a : S25) (hs : okA s) (ha : okA a) : ∃ K, ∀ k, K ≤ k → triglyphref05_Reshape.f k s.f0 s.f1 a.f0 a.f1 = some (resS s a) := by
  obtain ⟨K1, h1⟩ := rcheck_eq s hs
  obtain ⟨K2, h2⟩ := rcheck_eq a ha
  have hlen : s.f1.length * 40 ≤ reachBytes := by obtain ⟨p, q⟩ := s; rw [okA] at hs; exact hs.2.1
  have hE : ∃ K, 8 ≥ s.f1.length → badS s.f1 = false → (axes s.f1).any (16384 < ·) = false → ∀ k, K ≤ k → triglyphref05_Reshape.l1 k (s.f1.length : Int) s.f0 s.f1 a.f0 a.f1 (axes s.f1) = some (resE (axes s.f1) a.f1) := by
    by_cases hb : badS s.f1 = false
    case neg => exact ⟨0, fun _ h => absurd h hb⟩
    obtain ⟨K4, h4⟩ := rsize_eq (axes s.f1)
    have hbd := sizeS_bd (axes s.f1)
    generalize hl : axes s.f1 = l at *
    unfold resE
    by_cases hz : (sizeS l).2 = 0
    · rw [if_pos hz]
      by_cases h7 : 0 < (sizeS l).1 ∧ a.f1.length = 0
      · rw [if_pos h7]
        refine ⟨K4 + 2, fun _ _ _ k hk => ?_⟩
        obtain ⟨k, rfl, hk2⟩ := succ_of (K := K4 + 1) hk
        obtain ⟨k, rfl, hk3⟩ := succ_of (K := K4) hk2
        simp only [triglyphref05_Reshape.l1]
        rw [if_neg (by omega), h4 _ (by omega)]
        simp only [Option.bind_some]
        rw [if_pos hz, if_pos h7.1]
        simp [triglyphref05_Reshape.j2, h7.2]
      · rw [if_neg h7]
        obtain ⟨K6, h6⟩ := rrs_l2 a.f0 a.f1 l (sizeS l).1.toNat 0 [] (by omega) (by omega) (fun hm => by omega) (by simp)
        refine ⟨K4 + K6 + 2, fun _ _ _ k hk => ?_⟩
        obtain ⟨k, rfl, hk2⟩ := succ_of (K := K4 + K6 + 1) hk
        obtain ⟨k, rfl, hk3⟩ := succ_of (K := K4 + K6) hk2
        have h6' := h6 k (by omega)
        rw [show (0 : Int) + ((sizeS l).1.toNat : Int) = (sizeS l).1 by omega, List.nil_append] at h6'
        simp only [triglyphref05_Reshape.l1]
        rw [if_neg (by omega), h4 _ (by omega)]
        simp only [Option.bind_some]
        rw [if_pos hz]
        by_cases hp : (sizeS l).1 > 0
        · rw [if_pos hp]
          have hne : ((a.f1.length : Int) == 0) = false := by simp; intro hc; exact h7 ⟨hp, by simp [hc]⟩
          simp only [triglyphref05_Reshape.j2, hne]
          rw [if_neg (by decide), h6']
        · rw [if_neg hp]
          simp only [triglyphref05_Reshape.j2]
          rw [if_neg (by decide), h6']
    · rw [if_neg hz]
      refine ⟨K4 + 1, fun _ _ _ k hk => ?_⟩
      obtain ⟨k, rfl, hk2⟩ := succ_of (K := K4) hk
      simp only [triglyphref05_Reshape.l1]
      rw [if_neg (by omega), h4 _ (by omega)]
      simp only [Option.bind_some]
      rw [if_neg hz]
  obtain ⟨K5, h5⟩ := hE
  have hW : ∃ K, badS s.f1 = false → ∀ k, K ≤ k → triglyphref05_Reshape.l0 k (s.f1.length : Int) s.f0 s.f1 a.f0 a.f1 = some (if 8 < s.f1.length then ([], [], 6) else if (axes s.f1).any (16384 < ·) = true then ([], [], 12) else resE (axes s.f1) a.f1) := by
    by_cases hb : badS s.f1 = false
    case neg => exact ⟨0, fun h => absurd h hb⟩
    by_cases h8 : 8 < s.f1.length
    · refine ⟨1, fun _ k hk => ?_⟩
      obtain ⟨k, rfl, _⟩ := succ_of (K := 0) hk
      simp only [triglyphref05_Reshape.l0]
      rw [if_neg (by omega), if_pos (by omega), if_pos h8]
    · obtain ⟨K, hK⟩ := rrs_l1 [] s.f0 a.f0 s.f1 a.f1 (resE (axes s.f1) a.f1) 0 s.f1 [] rfl (by omega) (fun h => ⟨K5, h5 (by omega) hb h⟩)
      refine ⟨K + 1, fun _ k hk => ?_⟩
      obtain ⟨k, rfl, hk2⟩ := succ_of hk
      simp only [triglyphref05_Reshape.l0]
      rw [if_neg (by omega), if_neg (by omega), if_neg h8]
      simpa [axes] using hK k hk2
  obtain ⟨K6, h6⟩ := hW
  obtain ⟨K7, h7⟩ := rrs_l0 s.f0 a.f0 s.f1 a.f1 _ hlen s.f1 [] rfl (fun h => ⟨K6, h6 h⟩)
  refine ⟨K1 + K2 + K7, fun k hk => ?_⟩
  unfold triglyphref05_Reshape.f resS
  rw [h1 k (by omega)]
  simp only [Option.bind_some]
  by_cases c1 : chA s 0 = 0
  · rw [if_pos c1, if_pos c1, h2 k (by omega)]
    simp only [Option.bind_some]
    by_cases c2 : chA a 0 = 0
    · rw [if_pos c2, if_pos c2]
      unfold wantS
      by_cases c3 : 1 < s.f0.length
      · rw [if_pos (by omega), if_pos c3]
        simp
      · rw [if_neg (by omega), if_neg c3]
        have := h7 k (by omega)
        rw [show ((([] : List S39).length : Nat) : Int) = 0 from rfl] at this
        rw [this]
        by_cases hb : badS s.f1 = true
        · rw [if_pos hb, if_pos hb]
          simp
        · rw [if_neg hb, if_neg hb]
          unfold finW
          rw [show (axes s.f1).length = s.f1.length by simp [axes]]
          split
          · simp
          split
          · simp
          · simp
    · rw [if_neg c2, if_neg c2]
  · rw [if_neg c1, if_neg c1]
end Go.Proofs.Ytiegcghapchimaa.Pure
