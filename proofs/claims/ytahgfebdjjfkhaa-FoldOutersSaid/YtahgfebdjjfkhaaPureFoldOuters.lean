/- FoldOuters: what it computes is yes, for any arrays. -/
import Derived.Test.YtahgfebdjjfkhaaStaFoldOuters
import Derived.Test.YtahgfebdjjfkhaaFold2
import Derived.Test.YtahgfebdjjfkhaaPx15
namespace Go.Proofs.Ytahgfebdjjfkhaa.Pure
open Go.RowKit Go.Proofs.Ytahgfebdjjfkhaa.P Go.Proofs.Ytahgfebdjjfkhaa.Nest Go.Proofs.YtahgfebdjjfkhaaW.PrintWords Go.Proofs.YtahgfebdjjfkhaaW.PrintLast Go.Proofs.YtahgfebdjjfkhaaW.PrintMore
set_option linter.unusedVariables false
set_option linter.unusedSimpArgs false
theorem FoldOuters : FoldOuters.Pure := by
  intro op t s c s2 c2 ho h h2
  obtain ⟨K0, e0⟩ := light_eq ⟨s, c⟩ h
  obtain ⟨K1, e1⟩ := light_eq ⟨s2, c2⟩ h2
  by_cases hl : lightS8 ⟨s, c⟩ = true
  · by_cases hl2 : lightS8 ⟨s2, c2⟩ = true
    · have la : c.length ≤ 300 := light_len (a := ⟨s, c⟩) (of_decide_eq_true hl)
      have lb : c2.length ≤ 300 := light_len (a := ⟨s2, c2⟩) (of_decide_eq_true hl2)
      obtain ⟨K2, e2⟩ := outer_eq op t ⟨s, c⟩ ⟨s2, c2⟩ h h2 la lb
      obtain ⟨K3, e3⟩ := router_eq op t ⟨s, c⟩ ⟨s2, c2⟩ h h2 la lb
      obtain ⟨K4, e4⟩ := rsame_eq ⟨(outrS op t ⟨s, c⟩ ⟨s2, c2⟩).1, (outrS op t ⟨s, c⟩ ⟨s2, c2⟩).2.1⟩ ⟨(outrS op t ⟨s, c⟩ ⟨s2, c2⟩).1, (outrS op t ⟨s, c⟩ ⟨s2, c2⟩).2.1⟩ (outrS_ok op t _ _ h h2 la lb)
      rw [cmpA_self] at e4
      refine ⟨K0 + K1 + K2 + K3 + K4 + 60 + 1, ?_⟩
      generalize hk : K0 + K1 + K2 + K3 + K4 + 60 = k
      have f0 := e0 (k + 1) (by omega)
      have f1 := e1 (k + 1) (by omega)
      have f2 := e2 k (by omega)
      have f3 := e3 k (by omega)
      have f4 := e4 k (by omega)
      dsimp only at f0 f1 f2 f3 f4
      unfold triglyphlaw08_FoldOuters.f
      rw [f0, Option.bind_some, if_pos hl, f1, Option.bind_some, hl2, triglyphlaw08_FoldOuters.j0, if_neg (by decide), f2, Option.bind_some, f3, Option.bind_some, if_pos rfl, f4, Option.bind_some, if_pos (by decide), works_eq k (by omega)]
      rfl
    · refine ⟨K0 + K1 + 60 + 1, ?_⟩
      generalize hk : K0 + K1 + 60 = k
      have f0 := e0 (k + 1) (by omega)
      have f1 := e1 (k + 1) (by omega)
      dsimp only at f0 f1
      unfold triglyphlaw08_FoldOuters.f
      rw [f0, Option.bind_some, if_pos hl, f1, Option.bind_some, Bool.eq_false_iff.2 hl2, triglyphlaw08_FoldOuters.j0, if_pos (by decide), works_eq k (by omega)]
      rfl
  · refine ⟨K0 + 60 + 1, ?_⟩
    generalize hk : K0 + 60 = k
    have f0 := e0 (k + 1) (by omega)
    dsimp only at f0
    unfold triglyphlaw08_FoldOuters.f
    rw [f0, Option.bind_some, if_neg hl, triglyphlaw08_FoldOuters.j0, if_pos rfl, works_eq k (by omega)]
    rfl
end Go.Proofs.Ytahgfebdjjfkhaa.Pure
