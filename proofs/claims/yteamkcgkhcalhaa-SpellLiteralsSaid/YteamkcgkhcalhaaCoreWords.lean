/- What names are, and which arrays can be written: the package's answer, and the reference's. -/
import Derived.Test.YteamkcgkhcalhaaArr3
import Derived.Test.YteamkcgkhcalhaaArr4
import Derived.Test.YteamkcgkhcalhaaPx10
import Derived.Test.YteamkcgkhcalhaaPx2
namespace Go.Proofs.Yteamkcgkhcalhaa.Pure
open Go.RowKit Go.Proofs.Yteamkcgkhcalhaa.P Go.Proofs.Yteamkcgkhcalhaa.Nest Go.Proofs.YteamkcgkhcalhaaW.PrintWords Go.Proofs.YteamkcgkhcalhaaW.PrintLast Go.Proofs.YteamkcgkhcalhaaW.PrintMore
set_option linter.unusedVariables false
set_option linter.unusedSimpArgs false
theorem lit_eq (a : S28) (h : okA a) : ∃ K, ∀ k, K ≤ k → core_Literal.f k a.f0 a.f1 = some (core_Literal.litV (chA a 0) a.f0 a.f1) := by
  obtain ⟨K, hK⟩ := check_eq a h
  refine ⟨K, fun k hk => ?_⟩
  unfold core_Literal.f
  rw [hK k hk]
  rfl
theorem rlit_l0 (s : List Int) (c : List S60) (hc : c.length ≤ 9000000000000000000) : ∀ (rest done : List S60), c = done ++ rest → ∃ K, ∀ k, K ≤ k → triglyphref10_Literal.l0 k (done.length : Int) s c = some (rest.all (fun x => !core_Literal.litB (c.getD 0 z60).f0 x))
  | [], done, e => by
    refine ⟨1, fun k hk => ?_⟩
    obtain ⟨k, rfl, _⟩ := succ_of hk
    simp only [triglyphref10_Literal.l0]
    rw [if_neg (by rw [e]; simp)]
    rfl
  | x :: rest, done, e => by
    obtain ⟨K, hK⟩ := rlit_l0 s c hc rest (done ++ [x]) (by simp [e])
    refine ⟨K + 2, fun k hk => ?_⟩
    obtain ⟨k1, rfl, hk1⟩ := succ_of hk
    obtain ⟨k, rfl, hk2⟩ := succ_of hk1
    have hn := hK k hk2
    have hlen : (c.length : Int) = done.length + 1 + rest.length := by rw [e]; simp; omega
    have hw := wrap_next done x (by have : done.length ≤ c.length := by rw [e]; simp
                                    omega)
    have hx : rd_T60 c (done.length : Int) = x := by rw [e]; exact rdC_mid _ _ _
    have h0 : rd_T60 c 0 = c.getD 0 z60 := by simp [rd_T60]
    simp only [triglyphref10_Literal.l0]
    rw [if_pos (by omega), if_pos (by omega), if_pos (by omega), hx, h0]
    simp only [triglyphref10_Literal.j3]
    rw [hw, hn, List.all_cons]
    generalize (c.getD 0 z60).f0 = k0
    unfold core_Literal.litB
    obtain ⟨x0, x1, x2⟩ := x
    dsimp only
    by_cases c1 : x0 = k0
    · rw [if_pos c1]
      by_cases c2 : x0 = 2
      · rw [if_pos (by simpa using c2)]; simp [c2]
      · rw [if_neg (by simpa using c2)]
        by_cases c3 : x0 = 1
        · rw [if_pos c3]
          by_cases c4 : x1 < 32
          · rw [if_pos c4]; simp [c3, c4]
          · rw [if_neg c4]
            by_cases c5 : x1 = 127
            · rw [if_pos c5]; simp [c3, c5]
            · rw [if_neg c5, ← c1]; simp [c2, c3, c4, c5]
        · rw [if_neg c3, ← c1]; simp [c2, c3]
    · rw [if_neg c1, if_pos True.intro]; simp [c1]
theorem rlit_eq (a : S28) (h : okA a) : ∃ K, ∀ k, K ≤ k → triglyphref10_Literal.f k a.f0 a.f1 = some (core_Literal.litV (chA a 0) a.f0 a.f1) := by
  obtain ⟨K1, h1⟩ := rcheck_eq a h
  obtain ⟨s, c⟩ := a
  have hcl : c.length ≤ 9000000000000000000 := by
    rw [okA] at h
    have := h.2.1
    unfold reachBytes at this
    omega
  obtain ⟨K2, h2⟩ := rlit_l0 s c hcl c [] rfl
  refine ⟨K1 + K2 + 3, fun k hk => ?_⟩
  have e1 := h1 k (by omega)
  dsimp only at e1 ⊢
  unfold triglyphref10_Literal.f
  rw [e1]
  obtain ⟨k1, rfl, hk1⟩ := succ_of (show (K1 + K2 + 2) + 1 ≤ k by omega)
  obtain ⟨k2, rfl, hk2⟩ := succ_of hk1
  have e2 := h2 k2 (by omega)
  simp only [Option.bind_some, triglyphref10_Literal.j0, triglyphref10_Literal.j1]
  unfold core_Literal.litV
  by_cases c0 : chA ⟨s, c⟩ 0 = 0
  · rw [if_pos c0]
    by_cases c1 : (s.length : Int) > 1
    · rw [if_pos (decide_eq_true c1), if_neg (by omega)]
    · rw [if_neg (by simpa using c1)]
      have hsz : sizeS s = ((c.length : Int), 0) := by
        rw [chA] at c0
        by_cases d1 : (sizeS s).2 = 0
        · rw [if_pos d1] at c0
          by_cases d2 : (sizeS s).1 = (c.length : Int)
          · exact Prod.ext d2 d1
          · rw [if_neg d2] at c0; cases c0
        · rw [if_neg d1] at c0; exact absurd c0 d1
      by_cases c2 : (s.length : Int) = 1
      · rw [if_pos c2, if_pos (by omega)]
        obtain ⟨d, rfl⟩ : ∃ d, s = [d] := by
          match s, c2 with
          | [d], _ => exact ⟨d, rfl⟩
        have hd : d = 1 ↔ (c.length : Int) = 1 := by
          unfold sizeS at hsz
          rw [if_neg (by simp)] at hsz
          by_cases d1 : d < 0
          · rw [if_pos (by simpa using d1)] at hsz
            have := congrArg Prod.snd hsz
            simp at this
          · rw [if_neg (by simpa using d1)] at hsz
            by_cases d2 : d = 0
            · rw [if_pos (by simpa using d2)] at hsz
              have := congrArg Prod.fst hsz
              simp only at this
              omega
            · rw [if_neg (by simpa using d2), sizeP] at hsz
              by_cases d3 : 1 * d > 16384
              · rw [if_pos d3] at hsz
                have := congrArg Prod.snd hsz
                simp at this
              · rw [if_neg d3, sizeP] at hsz
                have := congrArg Prod.fst hsz
                simp only at this
                omega
        have hr : rd [d] 0 = d := rfl
        rw [hr]
        by_cases c3 : d = 1
        · rw [if_pos (by simpa using c3), if_neg (fun q => q.2.2 ⟨c2, hd.1 c3⟩)]
        · rw [if_neg (by simpa using c3), if_pos ⟨c0, c1, fun q => c3 (hd.2 q.2)⟩]
          exact e2
      · rw [if_neg c2, if_neg (by decide), if_pos ⟨c0, c1, fun q => c2 q.1⟩]
        exact e2
  · rw [if_neg c0, if_pos True.intro, if_neg (fun q => c0 q.1)]
end Go.Proofs.Yteamkcgkhcalhaa.Pure
