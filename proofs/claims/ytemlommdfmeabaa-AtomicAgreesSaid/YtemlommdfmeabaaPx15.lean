/- Written by a program of this session: the functions that the laws reach, what each comes to, and each law as it is stated, for every input. No condition. -/
import Derived.Test.YtemlommdfmeabaaPx0
import Derived.Test.YtemlommdfmeabaaPx0x
import Derived.Test.YtemlommdfmeabaaPx1
import Derived.Test.YtemlommdfmeabaaPx6
import Derived.Test.YtemlommdfmeabaaPx7
import Derived.Test.YtemlommdfmeabaaPx9
import Derived.Test.YtemlommdfmeabaaPx12
import Derived.Test.YtemlommdfmeabaaPx13
namespace Go.Proofs.Ytemlommdfmeabaa.P
open Go.RowKit Go.Proofs.YtemlommdfmeabaaW.PrintWords Go.Proofs.YtemlommdfmeabaaW.PrintLast Go.Proofs.YtemlommdfmeabaaW.PrintMore
attribute [local go_sem] max2_int min2_int max_two min_two max_three min_three max_four min_four   -- for this text's walks alone
set_option linter.unusedVariables false
set_option linter.unusedSimpArgs false
def triglyphlaw04_AtomicAgrees.f (k : Nat) (l0 : List (Int)) (l1 : List (Int)) : Option (Bool) :=
  (atomic_Agree.f k l0 l1).bind fun t1 => ((triglyphref04_Agree.f k l0 l1).bind fun t7 => ((atomic_Agree.f k l1 l0).bind fun t14 => (if t1.2 = t7.2 then ((triglyphref03_Ints.f k t1.1 t7.1).bind fun t21 => (if t21 = true then (if t14.2 = t1.2 then ((triglyphref03_Ints.f k t1.1 t14.1).bind fun t25 => (if t25 = true then ((triglyphlaw04_works.f k).bind fun t28 => (some t28)) else (none))) else (none)) else (none))) else (none))))
theorem triglyphlaw04_AtomicAgrees.mono : ∀ y0 y1 k, LeO (triglyphlaw04_AtomicAgrees.f k y0 y1) (triglyphlaw04_AtomicAgrees.f (k + 1) y0 y1) := by
  intro y0 y1 k
  unfold triglyphlaw04_AtomicAgrees.f
  repeat (first | exact LeO.refl _ | exact LeO.none _ | refine LeO.ite ?_ ?_ | refine LeO.bind (atomic_Agree.mono _ _ _) (fun _ => ?_) | refine LeO.bind (triglyphlaw04_works.mono  _) (fun _ => ?_) | refine LeO.bind (triglyphref03_Ints.mono _ _ _) (fun _ => ?_) | refine LeO.bind (triglyphref04_Agree.mono _ _ _) (fun _ => ?_) | refine LeO.bind (LeO.refl _) (fun _ => ?_))
set_option maxHeartbeats 8000000 in
set_option maxRecDepth 100000 in
theorem triglyphlaw04_AtomicAgrees.calls (k : Nat) (A0 : Option Addr) (c0 : Nat) (l0 : List (Int)) (A1 : Option Addr) (c1 : Nat) (l1 : List (Int)) (r : Bool) (w : World) (hr0 : Kd.C (Kd.int .i64) w A0 l0.length l0) (hc0 : l0.length ≤ c0) (hr1 : Kd.C (Kd.int .i64) w A1 l1.length l1) (hc1 : l1.length ≤ c1) (h : triglyphlaw04_AtomicAgrees.f k l0 l1 = some r) :
    Calls Try.prog 6 #[.slice A0 l0.length c0, .slice A1 l1.length c1] w fun e w' => e = .returned (.bool r) ∧ Below w.heap.size w w' := by
  have CRa0 := Aside0.mk (And.intro hr0 hc0); clear hr0 hc0
  have CRa1 := Aside0.mk (And.intro hr1 hc1); clear hr1 hc1
  have HS := Aside0.mk (BxS.nil w)
  unfold triglyphlaw04_AtomicAgrees.f at h
  go_enter Try.func6, Try.ntmps6
  obtain ⟨⟨t1_1, t1_2⟩, q_, h⟩ := Option.bind_eq_some_iff.1 h; have E2 := Aside0.mk q_; clear q_; dsimp only at h
  obtain ⟨⟨t7_1, t7_2⟩, q_, h⟩ := Option.bind_eq_some_iff.1 h; have E8 := Aside0.mk q_; clear q_; dsimp only at h
  obtain ⟨⟨t14_1, t14_2⟩, q_, h⟩ := Option.bind_eq_some_iff.1 h; have E15 := Aside0.mk q_; clear q_; dsimp only at h
  by_cases q20 : t1_2 = t7_2
  · rw [if_pos q20] at h
    have q20b0 := (beq_iff_eq.2 q20 : (t1_2 == t7_2) = true)
    clear q20
    obtain ⟨t21, q_, h⟩ := Option.bind_eq_some_iff.1 h; have E22 := Aside0.mk q_; clear q_
    cases t21 with
    | true =>
      rw [if_pos rfl] at h
      by_cases q24 : t14_2 = t1_2
      · rw [if_pos q24] at h
        have q24b0 := (beq_iff_eq.2 q24 : (t14_2 == t1_2) = true)
        clear q24
        obtain ⟨t25, q_, h⟩ := Option.bind_eq_some_iff.1 h; have E26 := Aside0.mk q_; clear q_
        cases t25 with
        | true =>
          rw [if_pos rfl] at h
          obtain ⟨t28, q_, h⟩ := Option.bind_eq_some_iff.1 h; have E29 := Aside0.mk q_; clear q_
          obtain rfl := Option.some.inj h
          go_wp2_with (first | (go_at_call 20; (with_reducible refine (atomic_Agree.calls k A0 c0 l0 A1 c1 l1 _ _ _ CRa0.out.1 CRa0.out.2 CRa1.out.1 CRa1.out.2 E2.out).mono ?_); rintro e w3 ⟨v0_, rfl, h0_, hb⟩; obtain ⟨A4, c5, hv_, hl_, hf_⟩ := Kd.R_reads h0_; clear h0_; have CR6 := Aside0.mk (And.intro hf_ hl_); clear hf_ hl_; subst hv_; have CRa0 := Aside0.mk (And.intro (Kd.C_below CRa0.out.1 hb) CRa0.out.2); have CRa1 := Aside0.mk (And.intro (Kd.C_below CRa1.out.1 hb) CRa1.out.2); have HS := Aside0.mk (HS.out.step hb); clear hb; skip) | (go_at_call 21; (with_reducible refine (triglyphref04_Agree.calls k A0 c0 l0 A1 c1 l1 _ _ _ CRa0.out.1 CRa0.out.2 CRa1.out.1 CRa1.out.2 E8.out).mono ?_); rintro e w9 ⟨A11, c12, rfl, h0_, h1_, hb⟩; have CR13 := Aside0.mk (And.intro h0_ h1_); clear h0_ h1_; have CRa0 := Aside0.mk (And.intro (Kd.C_below CRa0.out.1 hb.below) CRa0.out.2); have CRa1 := Aside0.mk (And.intro (Kd.C_below CRa1.out.1 hb.below) CRa1.out.2); have CR6 := Aside0.mk (And.intro (Kd.C_below CR6.out.1 hb.below) CR6.out.2); have HS := Aside0.mk (HS.out.step hb.below); clear hb; skip) | (go_at_call 20; (with_reducible refine (atomic_Agree.calls k A1 c1 l1 A0 c0 l0 _ _ _ CRa1.out.1 CRa1.out.2 CRa0.out.1 CRa0.out.2 E15.out).mono ?_); rintro e w16 ⟨v0_, rfl, h0_, hb⟩; obtain ⟨A17, c18, hv_, hl_, hf_⟩ := Kd.R_reads h0_; clear h0_; have CR19 := Aside0.mk (And.intro hf_ hl_); clear hf_ hl_; subst hv_; have CRa0 := Aside0.mk (And.intro (Kd.C_below CRa0.out.1 hb) CRa0.out.2); have CRa1 := Aside0.mk (And.intro (Kd.C_below CRa1.out.1 hb) CRa1.out.2); have CR6 := Aside0.mk (And.intro (Kd.C_below CR6.out.1 hb) CR6.out.2); have CR13 := Aside0.mk (And.intro (Kd.C_below CR13.out.1 hb) CR13.out.2); have HS := Aside0.mk (HS.out.step hb); clear hb; skip) | (go_at_call 22; (with_reducible refine (triglyphref03_Ints.calls k A4 c5 t1_1 A11 c12 t7_1 _ _ CR6.out.1 CR6.out.2 CR13.out.1 CR13.out.2 E22.out).mono ?_); rintro e w23 ⟨rfl, hb⟩; have CRa0 := Aside0.mk (And.intro (Kd.C_below CRa0.out.1 hb.below) CRa0.out.2); have CRa1 := Aside0.mk (And.intro (Kd.C_below CRa1.out.1 hb.below) CRa1.out.2); have CR6 := Aside0.mk (And.intro (Kd.C_below CR6.out.1 hb.below) CR6.out.2); have CR13 := Aside0.mk (And.intro (Kd.C_below CR13.out.1 hb.below) CR13.out.2); have CR19 := Aside0.mk (And.intro (Kd.C_below CR19.out.1 hb.below) CR19.out.2); have HS := Aside0.mk (HS.out.step hb.below); clear hb; skip) | (go_at_call 22; (with_reducible refine (triglyphref03_Ints.calls k A4 c5 t1_1 A17 c18 t14_1 _ _ CR6.out.1 CR6.out.2 CR19.out.1 CR19.out.2 E26.out).mono ?_); rintro e w27 ⟨rfl, hb⟩; have CRa0 := Aside0.mk (And.intro (Kd.C_below CRa0.out.1 hb.below) CRa0.out.2); have CRa1 := Aside0.mk (And.intro (Kd.C_below CRa1.out.1 hb.below) CRa1.out.2); have CR6 := Aside0.mk (And.intro (Kd.C_below CR6.out.1 hb.below) CR6.out.2); have CR13 := Aside0.mk (And.intro (Kd.C_below CR13.out.1 hb.below) CR13.out.2); have CR19 := Aside0.mk (And.intro (Kd.C_below CR19.out.1 hb.below) CR19.out.2); have HS := Aside0.mk (HS.out.step hb.below); clear hb; skip) | (go_at_call 10; (with_reducible refine (triglyphlaw04_works.calls k _ _ E29.out).mono ?_); rintro e w30 ⟨rfl, hb⟩; have CRa0 := Aside0.mk (And.intro (Kd.C_below CRa0.out.1 hb) CRa0.out.2); have CRa1 := Aside0.mk (And.intro (Kd.C_below CRa1.out.1 hb) CRa1.out.2); have CR6 := Aside0.mk (And.intro (Kd.C_below CR6.out.1 hb) CR6.out.2); have CR13 := Aside0.mk (And.intro (Kd.C_below CR13.out.1 hb) CR13.out.2); have CR19 := Aside0.mk (And.intro (Kd.C_below CR19.out.1 hb) CR19.out.2); have HS := Aside0.mk (HS.out.step hb); clear hb; skip))
          go_ret
          exact ⟨rfl, HS.out.bel⟩
        | false =>
          rw [if_neg (by decide)] at h
          cases h
      · rw [if_neg q24] at h
        cases h
    | false =>
      rw [if_neg (by decide)] at h
      cases h
  · rw [if_neg q20] at h
    cases h
end Go.Proofs.Ytemlommdfmeabaa.P
