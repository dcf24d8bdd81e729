/- ArrThere: what it computes is yes, for every shape, places and number. -/
import Derived.Test.YtlnphoeogpfjkabStaArrThere
import Derived.Test.YtlnphoeogpfjkabArrWorks
import Derived.Test.YtlnphoeogpfjkabArr7
import Derived.Test.YtlnphoeogpfjkabPx6
namespace Go.Proofs.Ytlnphoeogpfjkab.Pure
open Go.RowKit Go.Proofs.Ytlnphoeogpfjkab.P Go.Proofs.Ytlnphoeogpfjkab.Nest Go.Proofs.YtlnphoeogpfjkabW.PrintWords Go.Proofs.YtlnphoeogpfjkabW.PrintLast Go.Proofs.YtlnphoeogpfjkabW.PrintMore
theorem there_j0 (s : List Int) (n : Int) : ∃ K, ∀ k, K ≤ k → triglyphlaw03_ArrThere.j0 k s n = some true := by
  obtain ⟨K1, h1⟩ := places_eq s n
  obtain ⟨K2, h2⟩ := place_eq s (placesS s n).1
  refine ⟨K1 + K2 + 40 + 1, fun k hk => ?_⟩
  obtain ⟨k, rfl, hk2⟩ := succ_of hk
  simp only [triglyphlaw03_ArrThere.j0]
  rw [h1 k (by omega)]
  simp only [Option.bind_some]
  by_cases h : (placesS s n).2 = 0
  · rw [if_pos h, h2 k (by omega)]
    simp only [Option.bind_some]
    rw [back h, if_pos rfl, if_pos rfl, works_eq k (by omega)]
    rfl
  · rw [if_neg h, works_eq k (by omega)]
    rfl
theorem ArrThere : ArrThere.Pure := by
  intro s l n hs _ hl _ hn
  obtain ⟨K1, h1⟩ := place_eq s l
  obtain ⟨K2, h2⟩ := places_eq s (placeS s l).1
  obtain ⟨K3, h3⟩ := ints_eq l l (by unfold reachBytes at hl; omega)
  obtain ⟨K4, h4⟩ := there_j0 s n
  refine ⟨K1 + K2 + K3 + K4, ?_⟩
  generalize hk : K1 + K2 + K3 + K4 = k
  unfold triglyphlaw03_ArrThere.f
  rw [h1 k (by omega)]
  simp only [Option.bind_some]
  by_cases h : (placeS s l).2 = 0
  · rw [if_pos h, h2 k (by omega), there h]
    simp only [Option.bind_some]
    rw [if_pos True.intro, h3 k (by omega)]
    simp only [Option.bind_some]
    rw [if_pos (by simp), h4 k (by omega)]
  · rw [if_neg h, h4 k (by omega)]
end Go.Proofs.Ytlnphoeogpfjkab.Pure
