/- ArrOrders: what it computes is yes, for any two arrays and any two cells. -/
import Derived.Test.YtlnphoeogpfjkaaStaArrOrders
import Derived.Test.YtlnphoeogpfjkaaArrLaw
import Derived.Test.YtlnphoeogpfjkaaArr5
import Derived.Test.YtlnphoeogpfjkaaPx2
import Derived.Test.YtlnphoeogpfjkaaPx7
import Derived.Test.YtlnphoeogpfjkaaPx8
namespace Go.Proofs.Ytlnphoeogpfjkaa.Pure
open Go.RowKit Go.Proofs.Ytlnphoeogpfjkaa.P Go.Proofs.Ytlnphoeogpfjkaa.Nest Go.Proofs.YtlnphoeogpfjkaaW.PrintWords Go.Proofs.YtlnphoeogpfjkaaW.PrintLast Go.Proofs.YtlnphoeogpfjkaaW.PrintMore
theorem orders_works (s0 : List Int) (c0 : List S28) (s1 : List Int) (c1 : List S28) (a b : Int) (l : List S25) (a' b' : Int) (l' : List S25) : ∀ k, 41 ≤ k → triglyphlaw03_ArrOrders.j0 k true s0 c0 s1 c1 a b l a' b' l' = some true := by
  intro k hk
  obtain ⟨k, rfl, hk2⟩ := succ_of hk
  simp only [triglyphlaw03_ArrOrders.j0]
  rw [if_pos True.intro, works_eq k hk2]
  rfl
theorem ArrOrders : ArrOrders.Pure := by
  intro s0 c0 s1 c1 a b l a' b' l' h0 h1 h2 h3
  have h4 : okA ⟨[], [⟨a, b, l⟩, ⟨a', b', l'⟩]⟩ := by
    rw [okA, okCs, okCs, okCs]
    exact ⟨⟨by simp, by simp⟩, by unfold reachBytes; simp, h2, h3, trivial⟩
  obtain ⟨K0, e0⟩ := light_eq ⟨s0, c0⟩ h0
  obtain ⟨K1, e1⟩ := light_eq ⟨s1, c1⟩ h1
  obtain ⟨K2, e2⟩ := light_eq _ h4
  obtain ⟨K3, e3⟩ := rcmp_eq ⟨s0, c0⟩ ⟨s1, c1⟩ h0
  obtain ⟨K4, e4⟩ := rcell_eq ⟨a, b, l⟩ ⟨a', b', l'⟩ h2
  obtain ⟨K5, e5⟩ := rsame_eq ⟨s0, c0⟩ ⟨s1, c1⟩ h0
  refine ⟨K0 + K1 + K2 + K3 + K4 + K5 + 40 + 1, ?_⟩
  generalize hk : K0 + K1 + K2 + K3 + K4 + K5 + 40 = k
  have f0 := e0 (k + 1) (by omega)
  have f1 := e1 (k + 1) (by omega)
  have f2 := e2 (k + 1) (by omega)
  have f3 := e3 k (by omega)
  have f4 := e4 k (by omega)
  have f5 := e5 k (by omega)
  simp only at f0 f1 f2 f3 f4 f5
  unfold triglyphlaw03_ArrOrders.f
  rw [f0]
  simp only [Option.bind_some]
  split
  · rw [f1]
    simp only [Option.bind_some]
    split
    · rw [f2]
      simp only [Option.bind_some]
      cases lightS ⟨[], [⟨a, b, l⟩, ⟨a', b', l'⟩]⟩ with
      | false => exact orders_works _ _ _ _ _ _ _ _ _ _ _ (by omega)
      | true =>
        simp only [triglyphlaw03_ArrOrders.j0, Bool.not_true]
        rw [if_neg (by simp), f3]
        unfold arr_Cmp.f
        simp only [Option.bind_some]
        rw [if_pos True.intro, f4]
        unfold arr_Cell.f
        simp only [Option.bind_some]
        rw [if_pos True.intro, f5]
        unfold arr_Same.f arr_Cmp.f
        simp only [Option.bind_some]
        rw [if_pos (by simp), works_eq k (by omega)]
        rfl
    · exact orders_works _ _ _ _ _ _ _ _ _ _ _ (by omega)
  · exact orders_works _ _ _ _ _ _ _ _ _ _ _ (by omega)
end Go.Proofs.Ytlnphoeogpfjkaa.Pure
