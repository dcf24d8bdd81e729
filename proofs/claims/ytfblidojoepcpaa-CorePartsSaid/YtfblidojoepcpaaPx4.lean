/- Written by a program of this session: the functions that the laws reach, what each comes to, and each law as it is stated, for every input. No condition. -/
import Derived.Test.YtfblidojoepcpaaPx0
namespace Go.Proofs.Ytfblidojoepcpaa.P
open Go.RowKit Go.Proofs.YtfblidojoepcpaaW.PrintWords Go.Proofs.YtfblidojoepcpaaW.PrintLast Go.Proofs.YtfblidojoepcpaaW.PrintMore
attribute [local go_sem] max2_int min2_int max_two min_two max_three min_three max_four min_four   -- for this text's walks alone
set_option linter.unusedVariables false
set_option linter.unusedSimpArgs false
def core_Scalar.f (a0 : Int) : Option (Bool) := if a0 ≥ 21 then (some (decide (a0 ≤ 32))) else (some false)
set_option maxHeartbeats 8000000 in
set_option maxRecDepth 100000 in
theorem core_Scalar.calls (a0 : Int) (r : Bool) (w : World) (h : core_Scalar.f a0 = some r) :
    Calls Try.prog 13 #[.int .i64 a0] w fun e w' => e = .returned (.bool r) ∧ Drawn0 w w' := by
  have H : (if a0 ≥ 21 then (some (decide (a0 ≤ 32))) else (some false)) = some r := h
  clear h
  by_cases c2 : a0 ≥ 21
  · rw [if_pos c2] at H
    have c2b0 : decide (21 ≤ a0) = true := decide_eq_true c2
    clear c2
    obtain rfl := Option.some.inj H
    go_enter Try.func13, Try.ntmps13
    go_wp2
    go_ret
    exact ⟨by first | rfl | (simp; done) | (simp [*]; done), by repeat (first | exact Drawn0.refl _ | apply Drawn0.step)⟩
  · rw [if_neg c2] at H
    have c2b0 : decide (21 ≤ a0) = false := decide_eq_false c2
    clear c2
    obtain rfl := Option.some.inj H
    go_enter Try.func13, Try.ntmps13
    go_wp2
    go_ret
    exact ⟨by first | rfl | (simp; done) | (simp [*]; done), by repeat (first | exact Drawn0.refl _ | apply Drawn0.step)⟩
end Go.Proofs.Ytfblidojoepcpaa.P
