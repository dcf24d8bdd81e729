/- The law SpellNumbers, of what its function comes to. -/
import Derived.Test.YteamkcgkhcalhaaShowS
import Derived.Test.YteamkcgkhcalhaaPx5
namespace Go.Proofs.Yteamkcgkhcalhaa.Pure
open Go.RowKit Go.Proofs.Yteamkcgkhcalhaa.P Go.Proofs.Yteamkcgkhcalhaa.Nest Go.Proofs.YteamkcgkhcalhaaW.PrintWords Go.Proofs.YteamkcgkhcalhaaW.PrintLast Go.Proofs.YteamkcgkhcalhaaW.PrintMore
set_option linter.unusedVariables false
set_option linter.unusedSimpArgs false
theorem works_eq : ∀ k, 40 ≤ k → triglyphlaw16_works.f k = some true := by
  intro k hk
  have h : triglyphlaw16_works.f 40 = some true := by kernel_rfl
  exact at_rounds triglyphlaw16_works.mono hk h
theorem i64s {x : Int} (h : (Lit.int .i64 x).wf = true) : -9223372036854775808 ≤ x ∧ x ≤ 9223372036854775807 := by
  have h1 : (decide (IntKind.i64.min ≤ x) && decide (x ≤ IntKind.i64.max)) = true := h
  have h2 : IntKind.i64.min = -9223372036854775808 := rfl
  have h3 : IntKind.i64.max = 9223372036854775807 := rfl
  rw [h2, h3] at h1
  simpa using h1
theorem SpellNumbers : triglyphlaw16_SpellNumbers.Pure := by
  intro n m hn hm
  obtain ⟨h0, h1⟩ := i64s hn
  obtain ⟨K, hK⟩ := rnumber_eq n m h0 h1 (by omega)
  refine ⟨K + 40, ?_⟩
  unfold triglyphlaw16_SpellNumbers.f
  rw [number_eq n m h0 h1 (by omega), Option.bind_some, hK _ (by omega), Option.bind_some, if_pos rfl, works_eq _ (by omega)]
  rfl
end Go.Proofs.Yteamkcgkhcalhaa.Pure
