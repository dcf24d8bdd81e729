/- LayoutReshapes: what it computes is yes, for any two arrays. -/
import Derived.Test.YtiegcghapchimaaStaLayoutReshapes
import Derived.Test.YtiegcghapchimaaLayR2
import Derived.Test.YtiegcghapchimaaPx15
namespace Go.Proofs.Ytiegcghapchimaa.Pure
open Go.RowKit Go.Proofs.Ytiegcghapchimaa.P Go.Proofs.Ytiegcghapchimaa.Nest Go.Proofs.YtiegcghapchimaaW.PrintWords Go.Proofs.YtiegcghapchimaaW.PrintLast Go.Proofs.YtiegcghapchimaaW.PrintMore
set_option linter.unusedVariables false
set_option linter.unusedSimpArgs false
theorem resS_ok (s a : S25) (hs : okA s) (ha : okA a) : okA ⟨(resS s a).1, (resS s a).2.1⟩ := by
  have h0 : okA ⟨[], []⟩ := okA_of (by simp) (by simp) (by simp) (by simp)
  unfold resS
  split
  · split
    · rename_i c2
      split
      · rename_i hw
        obtain ⟨e1, e2, e3⟩ := want_ok hw
        have hbd := sizeS_bd (wantS s.f0 s.f1).1
        unfold resE
        split
        · split
          · exact h0
          · rename_i h7
            exact (cyc_copy ha c2 (by rw [e1]; omega) (fun x hx => by have := e3 x (by rw [← e1]; exact hx); omega) (by omega) (fun hm => by omega)).1
        · exact h0
      · exact h0
    · exact h0
  · exact h0
theorem LayoutReshapes : LayoutReshapes.Pure := by
  intro s0 s1 a0 a1 hs ha
  obtain ⟨K1, h1⟩ := light_eq ⟨s0, s1⟩ hs
  obtain ⟨K2, h2⟩ := light_eq ⟨a0, a1⟩ ha
  obtain ⟨K3, h3⟩ := res_eq ⟨s0, s1⟩ ⟨a0, a1⟩ hs ha
  obtain ⟨K4, h4⟩ := rres_eq ⟨s0, s1⟩ ⟨a0, a1⟩ hs ha
  obtain ⟨K5, h5⟩ := rsame_eq ⟨(resS ⟨s0, s1⟩ ⟨a0, a1⟩).1, (resS ⟨s0, s1⟩ ⟨a0, a1⟩).2.1⟩ ⟨(resS ⟨s0, s1⟩ ⟨a0, a1⟩).1, (resS ⟨s0, s1⟩ ⟨a0, a1⟩).2.1⟩ (resS_ok _ _ hs ha)
  refine ⟨K1 + K2 + K3 + K4 + K5 + 90, ?_⟩
  generalize hk : K1 + K2 + K3 + K4 + K5 + 90 = k
  have hj : ∀ (b : Bool) k, K3 + K4 + K5 + 81 ≤ k → triglyphlaw05_LayoutReshapes.j0 k b s0 s1 a0 a1 = some true := by
    intro b k hk
    obtain ⟨k, rfl, hk2⟩ := succ_of (K := K3 + K4 + K5 + 80) hk
    simp only [triglyphlaw05_LayoutReshapes.j0]
    cases b with
    | true =>
      rw [if_pos rfl, works_eq k (by omega)]
      rfl
    | false =>
      rw [if_neg (by decide), h3 k (by omega), h4 k (by omega)]
      simp only [Option.bind_some, if_true]
      rw [h5 k (by omega), cmpA_self]
      simp only [Option.bind_some]
      rw [if_pos (by rfl), works_eq k (by omega)]
      rfl
  unfold triglyphlaw05_LayoutReshapes.f
  rw [h1 k (by omega)]
  simp only [Option.bind_some]
  split
  · rw [h2 k (by omega)]
    simp only [Option.bind_some]
    exact hj _ k (by omega)
  · exact hj _ k (by omega)
end Go.Proofs.Ytiegcghapchimaa.Pure
