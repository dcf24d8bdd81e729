/- AtomicOne: what it computes is yes, for every function and every array. -/
import Derived.Test.YtemlommdfmeabaaStaAtomicOne
import Derived.Test.YtemlommdfmeabaaAtomWorks
import Derived.Test.YtemlommdfmeabaaAtomM
import Derived.Test.YtemlommdfmeabaaPx12
namespace Go.Proofs.Ytemlommdfmeabaa.Pure
open Go.RowKit Go.Proofs.Ytemlommdfmeabaa.P Go.Proofs.Ytemlommdfmeabaa.Nest Go.Proofs.YtemlommdfmeabaaW.PrintWords Go.Proofs.YtemlommdfmeabaaW.PrintLast Go.Proofs.YtemlommdfmeabaaW.PrintMore
theorem oneC_i64 {op : Int} {a : S25} (h : okA a) (i : Nat) : I64 (oneC op (a.f1.getD i z35)).1 := by
  have h0 : I64 0 := ⟨by decide, by decide⟩
  unfold oneC
  split
  · exact h0
  · refine oneS_i64 ?_
    by_cases hi : i < a.f1.length
    · rw [List.getD_eq_getElem?_getD, List.getElem?_eq_getElem hi]
      have := okCs_iff.1 (ok_parts h).2.2.2 _ (List.getElem_mem hi)
      simp only [Option.getD_some]
      generalize a.f1[i] = y at this ⊢
      cases y
      rw [okC] at this
      exact i64_of this.2.1
    · rw [List.getD_eq_getElem?_getD, List.getElem?_eq_none (by omega)]
      exact h0
theorem moS_ok {op : Int} {a : S25} (h : okA a) : okA (moS op a).1 := by
  have hz : okA zA := by unfold zA; rw [okA]; exact ⟨⟨by simp, by simp⟩, by simp, by simp [okCs]⟩
  obtain ⟨hs, hw, hl, _⟩ := ok_parts h
  unfold moS
  split
  · exact hz
  split
  · exact hz
  split
  · exact hz
  · exact outC_ok hs hw hl (fun j _ => oneC_i64 h j)
theorem AtomicOne : AtomicOne.Pure := by
  intro op s c ho h
  obtain ⟨K0, e0⟩ := light_eq ⟨s, c⟩ h
  obtain ⟨K1, e1⟩ := amo_eq op ⟨s, c⟩ h
  obtain ⟨K2, e2⟩ := rmo_eq op ⟨s, c⟩ h
  obtain ⟨K3, e3⟩ := rsame_eq (moS op ⟨s, c⟩).1 (moS op ⟨s, c⟩).1 (moS_ok h)
  refine ⟨K0 + K1 + K2 + K3 + 60, ?_⟩
  generalize hk : K0 + K1 + K2 + K3 + 60 = k
  have f0 := e0 k (by omega)
  have f1 := e1 k (by omega)
  have f2 := e2 k (by omega)
  have f3 := e3 k (by omega)
  simp only at f0 f1 f2
  unfold triglyphlaw04_AtomicOne.f
  rw [f0, f1, f2]
  simp only [Option.bind_some, trip]
  rw [works_eq k (by omega), f3]
  simp only [Option.bind_some]
  cases lightS ⟨s, c⟩ with
  | true => rw [if_pos rfl, if_pos True.intro, cmpA_self]; rfl
  | false => rw [if_neg (by decide)]
end Go.Proofs.Ytemlommdfmeabaa.Pure
