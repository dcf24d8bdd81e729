/- ArrPlaces: what it computes is yes, for every shape, places and number. -/
import Derived.Test.YtlnphoeogpfjkaaStaArrPlaces
import Derived.Test.YtlnphoeogpfjkaaArrLaw
import Derived.Test.YtlnphoeogpfjkaaArr6
import Derived.Test.YtlnphoeogpfjkaaPx15
namespace Go.Proofs.Ytlnphoeogpfjkaa.Pure
open Go.RowKit Go.Proofs.Ytlnphoeogpfjkaa.P Go.Proofs.Ytlnphoeogpfjkaa.Nest Go.Proofs.YtlnphoeogpfjkaaW.PrintWords Go.Proofs.YtlnphoeogpfjkaaW.PrintLast Go.Proofs.YtlnphoeogpfjkaaW.PrintMore
theorem ArrPlaces : ArrPlaces.Pure := by
  intro s at' n hs _ hat _ hn
  obtain ⟨K1, h1⟩ := size_eq s
  obtain ⟨K2, h2⟩ := rsize_eq s
  obtain ⟨K3, h3⟩ := place_eq s at'
  obtain ⟨K4, h4⟩ := rplace_eq s at'
  obtain ⟨K5, h5⟩ := places_eq s n
  obtain ⟨K6, h6⟩ := rplaces_eq s n
  have hb : (placesS s n).1.length ≤ 9000000000000000000 := by
    unfold reachBytes at hs
    unfold placesS
    split
    · split
      · simp
      · split
        · simp
        · rw [dg_len]; omega
    · simp
  obtain ⟨K7, h7⟩ := ints_eq (placesS s n).1 (placesS s n).1 hb
  refine ⟨K1 + K2 + K3 + K4 + K5 + K6 + K7 + 40 + 1, ?_⟩
  generalize hk : K1 + K2 + K3 + K4 + K5 + K6 + K7 + 40 = k
  have e1 := h1 (k + 1) (by omega)
  have e2 := h2 (k + 1) (by omega)
  have e3 := h3 k (by omega)
  have e4 := h4 k (by omega)
  have e5 := h5 k (by omega)
  have e6 := h6 k (by omega)
  have e7 := h7 k (by omega)
  unfold triglyphlaw03_ArrPlaces.f
  rw [e1, e2]
  simp only [Option.bind_some]
  rw [if_pos True.intro, show ((sizeS s).2 != (sizeS s).2) = false by simp]
  simp only [triglyphlaw03_ArrPlaces.j0]
  rw [if_neg (by simp), e3, e4, e5, e6]
  simp only [Option.bind_some]
  rw [if_pos True.intro, if_pos True.intro, e7]
  simp only [Option.bind_some]
  rw [if_pos (by simp), if_pos True.intro, works_eq k (by omega)]
  rfl
end Go.Proofs.Ytlnphoeogpfjkaa.Pure
