/- The law SpellLiterals, of what its function comes to. -/
import Derived.Test.YteamkcgkhcalhaaSpellL
import Derived.Test.YteamkcgkhcalhaaArr3L
import Derived.Test.YteamkcgkhcalhaaStaSpellLiterals
import Derived.Test.YteamkcgkhcalhaaPx12
import Derived.Test.YteamkcgkhcalhaaPx4
import Derived.Test.YteamkcgkhcalhaaPx5
import Derived.Test.YteamkcgkhcalhaaPx7
namespace Go.Proofs.Yteamkcgkhcalhaa.Pure
open Go.RowKit Go.Proofs.Yteamkcgkhcalhaa.P Go.Proofs.Yteamkcgkhcalhaa.Nest Go.Proofs.YteamkcgkhcalhaaW.PrintWords Go.Proofs.YteamkcgkhcalhaaW.PrintLast Go.Proofs.YteamkcgkhcalhaaW.PrintMore
set_option linter.unusedVariables false
set_option linter.unusedSimpArgs false
theorem works_eq : ∀ k, 40 ≤ k → triglyphlaw16_works.f k = some true := by
  intro k hk
  have h : triglyphlaw16_works.f 40 = some true := by kernel_rfl
  exact at_rounds triglyphlaw16_works.mono hk h
theorem lex12 : ∀ k, 5 ≤ k → triglyphref12_Lex.f k (⟨#[]⟩ : ByteArray) = some ([], 0, 0, 0) := fun k hk => at_rounds (triglyphref12_Lex.mono _) hk (by kernel_rfl)
theorem lex13 : ∀ k, 5 ≤ k → triglyphref13_Lex.f k (⟨#[]⟩ : ByteArray) = some ([], 0, 0, 0) := fun k hk => at_rounds (triglyphref13_Lex.mono _) hk (by kernel_rfl)
theorem lex14 : ∀ k, 5 ≤ k → triglyphref14_Lex.f k (⟨#[]⟩ : ByteArray) = some ([], 0, 0, 0) := fun k hk => at_rounds (triglyphref14_Lex.mono _) hk (by kernel_rfl)
theorem SpellLiterals : SpellLiterals.Pure := by
  intro s c d h hd
  obtain ⟨K0, h0⟩ := weight_eq ⟨s, c⟩ 2000 h (by omega) (by omega)
  dsimp only at h0
  by_cases hw : wA ⟨s, c⟩ 2000 16 > 2000
  · refine ⟨K0 + 40, ?_⟩
    unfold triglyphlaw16_SpellLiterals.f
    rw [h0 _ (by omega), Option.bind_some, if_pos hw, works_eq _ (by omega)]
    rfl
  · have hc : c.length ≤ 4000 := by
      have := wA_ge ⟨s, c⟩ 2000 16
      dsimp only at this
      omega
    have both : ∀ (l0 l1 l2 : List ByteArray) (m3 m4 m5 m6 m7 m8 m q : ByteArray) (t1 t2 t3 : Bool) (r : List S73 × Int × Int × Int), m.size ≤ 10 → q.size ≤ 10 → (∃ K, ∀ k, K ≤ k → triglyphlaw15_Lex.f k d (⟨#[]⟩ : ByteArray) = some (l0, l1, l2, m3, m4, m5, m6, m7, m8, m, q, t1, t2, t3, r)) → ∃ k, triglyphlaw16_SpellLiterals.f k s c d = some true := by
      intro l0 l1 l2 m3 m4 m5 m6 m7 m8 m q t1 t2 t3 r hm hq ⟨K, hK⟩
      obtain ⟨K1, h1⟩ := lit_both l0 l1 l2 m3 m4 m5 m6 m7 m8 m q t1 t2 t3 ⟨s, c⟩ h hc hm hq
      dsimp only at h1
      refine ⟨K0 + K + K1 + 40, ?_⟩
      unfold triglyphlaw16_SpellLiterals.f
      rw [h0 _ (by omega), Option.bind_some, if_neg hw, hK _ (by omega), Option.bind_some]
      dsimp only
      rw [(h1 _ (by omega)).1, Option.bind_some, (h1 _ (by omega)).2, Option.bind_some, if_pos rfl, if_pos rfl, works_eq _ (by omega)]
      rfl
    by_cases c0 : Int.tmod (wrap64 (Int.tmod d 3 + 3)) 3 = 0
    · skip
      obtain ⟨v, hv, hm, hq⟩ : ∃ v, triglyphref15_APL.f = some v ∧ v.2.2.2.2.2.2.2.2.2.1.size ≤ 10 ∧ v.2.2.2.2.2.2.2.2.2.2.1.size ≤ 10 := ⟨_, rfl, by decide, by decide⟩
      obtain ⟨l0, l1, l2, m3, m4, m5, m6, m7, m8, m, q, t1, t2, t3⟩ := v
      exact both l0 l1 l2 m3 m4 m5 m6 m7 m8 m q t1 t2 t3 ([], 0, 0, 0) hm hq ⟨5, fun k hk => by unfold triglyphlaw15_Lex.f; rw [if_pos c0, lex12 k hk, Option.bind_some, hv]; rfl⟩
    by_cases c1 : Int.tmod (wrap64 (Int.tmod d 3 + 3)) 3 = 1
    · skip
      obtain ⟨v, hv, hm, hq⟩ : ∃ v, triglyphref15_J.f = some v ∧ v.2.2.2.2.2.2.2.2.2.1.size ≤ 10 ∧ v.2.2.2.2.2.2.2.2.2.2.1.size ≤ 10 := ⟨_, rfl, by decide, by decide⟩
      obtain ⟨l0, l1, l2, m3, m4, m5, m6, m7, m8, m, q, t1, t2, t3⟩ := v
      exact both l0 l1 l2 m3 m4 m5 m6 m7 m8 m q t1 t2 t3 ([], 0, 0, 0) hm hq ⟨5, fun k hk => by unfold triglyphlaw15_Lex.f; rw [if_neg c0, if_pos c1, lex13 k hk, Option.bind_some, hv]; rfl⟩
    · skip
      obtain ⟨v, hv, hm, hq⟩ : ∃ v, triglyphref15_K.f = some v ∧ v.2.2.2.2.2.2.2.2.2.1.size ≤ 10 ∧ v.2.2.2.2.2.2.2.2.2.2.1.size ≤ 10 := ⟨_, rfl, by decide, by decide⟩
      obtain ⟨l0, l1, l2, m3, m4, m5, m6, m7, m8, m, q, t1, t2, t3⟩ := v
      exact both l0 l1 l2 m3 m4 m5 m6 m7 m8 m q t1 t2 t3 ([], 0, 0, 0) hm hq ⟨5, fun k hk => by unfold triglyphlaw15_Lex.f; rw [if_neg c0, if_neg c1, lex14 k hk, Option.bind_some, hv]; rfl⟩
end Go.Proofs.Yteamkcgkhcalhaa.Pure
