/- ArrTotal: what it computes is yes, for any three arrays. -/
import Derived.Test.YtlnphoeogpfjkaaStaArrTotal
import Derived.Test.YtlnphoeogpfjkaaArrLaw
import Derived.Test.YtlnphoeogpfjkaaArr4
import Derived.Test.YtlnphoeogpfjkaaArr8
import Derived.Test.YtlnphoeogpfjkaaArr9
import Derived.Test.YtlnphoeogpfjkaaPx2
import Derived.Test.YtlnphoeogpfjkaaPx4
import Derived.Test.YtlnphoeogpfjkaaPx8
namespace Go.Proofs.Ytlnphoeogpfjkaa.Pure
open Go.RowKit Go.Proofs.Ytlnphoeogpfjkaa.P Go.Proofs.Ytlnphoeogpfjkaa.Nest Go.Proofs.YtlnphoeogpfjkaaW.PrintWords Go.Proofs.YtlnphoeogpfjkaaW.PrintLast Go.Proofs.YtlnphoeogpfjkaaW.PrintMore
theorem total_works (s0 : List Int) (c0 : List S28) (s1 : List Int) (c1 : List S28) (s2 : List Int) (c2 : List S28) : ∀ k, 41 ≤ k → triglyphlaw03_ArrTotal.j0 k true s0 c0 s1 c1 s2 c2 = some true := by
  intro k hk
  obtain ⟨k, rfl, hk2⟩ := succ_of hk
  simp only [triglyphlaw03_ArrTotal.j0]
  rw [if_pos True.intro, works_eq k hk2]
  rfl
theorem ordI_bd (a b : Int) : -1 ≤ ordI a b ∧ ordI a b ≤ 1 := by unfold ordI; repeat' split <;> omega
theorem lex_bd {a b : Int} (h : -1 ≤ a ∧ a ≤ 1) (h' : -1 ≤ b ∧ b ≤ 1) : -1 ≤ lex a b ∧ lex a b ≤ 1 := by unfold lex; split <;> assumption
theorem shp_bd : ∀ (s t : List Int), -1 ≤ shp s t ∧ shp s t ≤ 1
  | [], _ => by rw [shp]; omega
  | _ :: _, [] => by rw [shp]; omega
  | x :: xs, y :: ys => by
    rw [shp]
    split
    · exact ordI_bd x y
    · exact shp_bd xs ys
mutual
theorem cA_bd : ∀ (a b : S25), -1 ≤ cmpA a b ∧ cmpA a b ≤ 1
  | ⟨s, c⟩, b => by
    rw [cmpA]
    exact lex_bd (ordI_bd _ _) (lex_bd (shp_bd s b.f0) (lex_bd (cCs_bd c b.f1) (ordI_bd _ _)))
theorem cCs_bd : ∀ (a b : List S28), -1 ≤ cmpCs a b ∧ cmpCs a b ≤ 1
  | [], _ => by rw [cmpCs]; omega
  | _ :: _, [] => by rw [cmpCs]; omega
  | x :: xs, y :: ys => by
    rw [cmpCs]
    exact lex_bd (cC_bd x y) (cCs_bd xs ys)
theorem cC_bd : ∀ (a b : S28), -1 ≤ cmpC a b ∧ cmpC a b ≤ 1
  | ⟨k, n, l⟩, d => by
    rw [cmpC]
    exact lex_bd (ordI_bd _ _) (lex_bd (ordI_bd _ _) (cB_bd l d.f2))
theorem cB_bd : ∀ (a b : List S25), -1 ≤ cmpB a b ∧ cmpB a b ≤ 1
  | [], y => by rw [cmpB]; exact ordI_bd _ _
  | x :: xs, [] => by rw [cmpB]; exact ordI_bd _ _
  | x :: xs, y :: ys => by rw [cmpB]; exact cA_bd x y
end
theorem total_j1 (a b c : S25) (h : okA a) (hc : chA a 0 = 0) : ∃ K, ∀ k, K ≤ k → triglyphlaw03_ArrTotal.j1 k false a.f0 a.f1 b.f0 b.f1 c.f0 c.f1 = some true := by
  obtain ⟨K1, h1⟩ := copy_eq a h
  obtain ⟨K2, h2⟩ := check_eq a h
  refine ⟨K1 + K2 + 41, fun k hk => ?_⟩
  obtain ⟨k, rfl, hk2⟩ := succ_of (K := K1 + K2 + 40) hk
  simp only [triglyphlaw03_ArrTotal.j1]
  rw [if_neg (by simp), h1 k (by omega), coA_id a 0 hc]
  simp only [Option.bind_some, arr_Same.f, arr_Cmp.f, etaA]
  rw [cmpA_self, if_pos (by rfl), h2 k (by omega), hc]
  simp only [Option.bind_some]
  rw [if_pos True.intro]
  split
  · rename_i h0
    rw [if_pos ((cA_G3 a b c).2.1 h0), works_eq k (by omega)]
    rfl
  · rw [works_eq k (by omega)]
    rfl
theorem total_j0 (a b c : S25) (h : okA a) (hc : chA a 0 = 0) : ∃ K, ∀ k, K ≤ k → triglyphlaw03_ArrTotal.j0 k false a.f0 a.f1 b.f0 b.f1 c.f0 c.f1 = some true := by
  obtain ⟨K1, h1⟩ := total_j1 a b c h hc
  refine ⟨K1 + 1, fun k hk => ?_⟩
  obtain ⟨k, rfl, hk2⟩ := succ_of hk
  have hb := cA_bd b a
  have g := cA_G3 a b c
  simp only [triglyphlaw03_ArrTotal.j0, arr_Cmp.f, Option.bind_some, etaA]
  rw [if_neg (by simp), if_pos (by rw [wrap_in (by omega) (by omega)]; exact g.1)]
  split
  · rename_i h2
    split
    · rename_i h3
      have h4 : ¬ cmpA a c > 0 := by
        have g2 := g.2.1
        have g3 := g.2.2.1
        have g4 := g.2.2.2.1
        by_cases z1 : cmpA a b = 0
        · have := g2 z1; omega
        · by_cases z2 : cmpA b c = 0
          · have := g3 z2; omega
          · have := g4 (by omega) (by omega); omega
      rw [decide_eq_false h4]
      exact h1 k hk2
    · exact h1 k hk2
  · exact h1 k hk2
theorem ArrTotal : ArrTotal.Pure := by
  intro s0 c0 s1 c1 s2 c2 h0 h1 h2
  obtain ⟨K0, e0⟩ := light_eq ⟨s0, c0⟩ h0
  obtain ⟨K1, e1⟩ := light_eq ⟨s1, c1⟩ h1
  obtain ⟨K2, e2⟩ := light_eq ⟨s2, c2⟩ h2
  obtain ⟨K3, e3⟩ := rcheck_eq ⟨s0, c0⟩ h0
  obtain ⟨K4, e4⟩ := rcheck_eq ⟨s1, c1⟩ h1
  obtain ⟨K5, e5⟩ := rcheck_eq ⟨s2, c2⟩ h2
  have hj : chA ⟨s0, c0⟩ 0 = 0 → ∃ K, ∀ k, K ≤ k → triglyphlaw03_ArrTotal.j0 k false s0 c0 s1 c1 s2 c2 = some true := fun hc => total_j0 ⟨s0, c0⟩ ⟨s1, c1⟩ ⟨s2, c2⟩ h0 hc
  have hj' : ∃ K, chA ⟨s0, c0⟩ 0 = 0 → ∀ k, K ≤ k → triglyphlaw03_ArrTotal.j0 k false s0 c0 s1 c1 s2 c2 = some true := by
    by_cases hc : chA ⟨s0, c0⟩ 0 = 0
    · obtain ⟨K, hK⟩ := hj hc
      exact ⟨K, fun _ => hK⟩
    · exact ⟨0, fun h => absurd h hc⟩
  obtain ⟨K6, e6⟩ := hj'
  refine ⟨K0 + K1 + K2 + K3 + K4 + K5 + K6 + 41, ?_⟩
  generalize hk : K0 + K1 + K2 + K3 + K4 + K5 + K6 + 41 = k
  have f0 := e0 k (by omega)
  have f1 := e1 k (by omega)
  have f2 := e2 k (by omega)
  have f3 := e3 k (by omega)
  have f4 := e4 k (by omega)
  have f5 := e5 k (by omega)
  have hw := total_works s0 c0 s1 c1 s2 c2 k (by omega)
  simp only at f0 f1 f2 f3 f4 f5
  unfold triglyphlaw03_ArrTotal.f
  simp only [f0, f1, f2, f3, f4, f5, Option.bind_some]
  split
  · split
    · split
      · split
        · rename_i hc
          split
          · by_cases h9 : chA ⟨s2, c2⟩ 0 = 0
            · rw [show (chA ⟨s2, c2⟩ 0 != 0) = false by simp [h9]]
              exact e6 hc k (by omega)
            · rw [show (chA ⟨s2, c2⟩ 0 != 0) = true by simp [h9]]
              exact hw
          · exact hw
        · exact hw
      · exact hw
    · exact hw
  · exact hw
end Go.Proofs.Ytlnphoeogpfjkaa.Pure
