/- What the statements on show take, and that they work at all. Plain facts. -/
import Derived.Test.YtbijepjnbolpiaaShowC
import Derived.Test.YtbijepjnbolpiaaPx1
import Derived.Test.YtbijepjnbolpiaaPx10
import Derived.Test.YtbijepjnbolpiaaPx2
import Derived.Test.YtbijepjnbolpiaaPx5
import Derived.Test.YtbijepjnbolpiaaPx6
namespace Go.Proofs.Ytbijepjnbolpiaa.Pure
open Go.RowKit Go.Proofs.Ytbijepjnbolpiaa.P Go.Proofs.Ytbijepjnbolpiaa.Nest Go.Proofs.YtbijepjnbolpiaaW.PrintWords Go.Proofs.YtbijepjnbolpiaaW.PrintLast Go.Proofs.YtbijepjnbolpiaaW.PrintMore
set_option linter.unusedVariables false
set_option linter.unusedSimpArgs false
theorem works_eq : ∀ k, 80 ≤ k → triglyphlaw27_works.f k = some true := by
  intro k hk
  have h : triglyphlaw27_works.f 80 = some true := by kernel_rfl
  exact at_rounds triglyphlaw27_works.mono hk h
/-- What the package, and the reference, tell of a light array. -/
def showS (d : Int) (a : S25) : ByteArray × Int := if d < 0 ∨ d > 2 then (nilB, 1) else if chA a 0 = 0 then (arrS d a, 0) else (nilB, chA a 0)
theorem light_parts (d : Int) (a : S25) (h : okA a) (hl : liA a) (hw : wA a 1000 16 ≤ 1000) (hc : chA a 0 = 0) : Fit d a.f0 a.f1 ∧ (∀ x ∈ a.f1, GoC d x ∧ RfC d x) := by
  have := ms_wA a 1000 16 hw
  obtain ⟨h1, h2, _⟩ := evA d a 0 h hc hl (by omega)
  exact ⟨h1, h2⟩
theorem arrS_lay (d : Int) (a : S25) : lay a.f0 (a.f1.map (txS d)) = arrS d a := by
  obtain ⟨s, c⟩ := a
  rw [arrS, cellsS_map]
theorem show_eq (d : Int) (a : S25) (h : okA a) (hl : liA a) (hw : wA a 1000 16 ≤ 1000) : ∃ K, ∀ k, K ≤ k → show_Show.f k d a.f0 a.f1 = some (showS d a) := by
  have hj : ∃ K, ∀ k, K ≤ k → ∀ x : Bool, x = decide (d < 0 ∨ d > 2) → show_Show.j0 k d x a.f0 a.f1 = some (showS d a) := by
    unfold showS
    by_cases hd : d < 0 ∨ d > 2
    · refine ⟨1, fun k hk x hx => ?_⟩
      obtain ⟨k, rfl, _⟩ := succ_of (K := 0) hk
      simp only [show_Show.j0]
      rw [hx, decide_eq_true hd, if_pos rfl, if_pos hd]
    · rw [if_neg hd]
      obtain ⟨K, hK⟩ := check_eq a h
      by_cases hc : chA a 0 = 0
      · obtain ⟨h1, h2⟩ := light_parts d a h hl hw hc
        obtain ⟨K2, hK2⟩ := g_arr d a.f0 a.f1 h1 (fun x hx => (h2 x hx).1)
        refine ⟨K + K2 + 1, fun k hk x hx => ?_⟩
        obtain ⟨k, rfl, hk2⟩ := succ_of hk
        simp only [show_Show.j0]
        rw [hx, decide_eq_false hd, if_neg (by decide), hK k (by omega)]
        simp only [Option.bind_some]
        rw [if_pos hc, if_pos hc, hK2 k (by omega), arrS_lay]
        rfl
      · refine ⟨K + 1, fun k hk x hx => ?_⟩
        obtain ⟨k, rfl, hk2⟩ := succ_of hk
        simp only [show_Show.j0]
        rw [hx, decide_eq_false hd, if_neg (by decide), hK k (by omega)]
        simp only [Option.bind_some]
        rw [if_neg hc, if_neg hc]
  obtain ⟨K, hK⟩ := hj
  refine ⟨K, fun k hk => ?_⟩
  unfold show_Show.f
  by_cases hd : d < 0
  · rw [if_pos hd, hK k hk _ (by rw [decide_eq_true (.inl hd)])]
  · rw [if_neg hd, hK k hk _ (by simp [hd])]
end Go.Proofs.Ytbijepjnbolpiaa.Pure
