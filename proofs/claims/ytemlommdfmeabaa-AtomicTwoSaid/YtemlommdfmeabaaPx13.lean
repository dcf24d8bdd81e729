/- Written by a program of this session: the functions that the laws reach, what each comes to, and each law as it is stated, for every input. No condition. -/
import Derived.Test.YtemlommdfmeabaaPx0
import Derived.Test.YtemlommdfmeabaaPx6
import Derived.Test.YtemlommdfmeabaaPx8
import Derived.Test.YtemlommdfmeabaaPx9
import Derived.Test.YtemlommdfmeabaaPx10
import Derived.Test.YtemlommdfmeabaaPx12
namespace Go.Proofs.Ytemlommdfmeabaa.P
open Go.RowKit Go.Proofs.YtemlommdfmeabaaW.PrintWords Go.Proofs.YtemlommdfmeabaaW.PrintLast Go.Proofs.YtemlommdfmeabaaW.PrintMore
attribute [local go_sem] max2_int min2_int max_two min_two max_three min_three max_four min_four   -- for this text's walks alone
set_option linter.unusedVariables false
set_option linter.unusedSimpArgs false
def triglyphref04_Cell.f (k : Nat) (a0 : Int) (a1_0 : Int) (a1_1 : Int) (l1_2 : List (S25)) (a2_0 : Int) (a2_1 : Int) (l2_2 : List (S25)) : Option (Int × Int × (List (S25)) × Int) :=
  if a0 < 21 ∨ 32 < a0 then some (0, 0, [], 1) else if a0 = 27 ∨ a0 = 28 then (if a1_0 = 2 then some (0, 0, [], 5) else if a2_0 = 2 then some (0, 0, [], 5) else some (0, (if ((a1_0 == a2_0) && (a1_1 == a2_1)) = (a0 == 27) then 1 else 0), [], 0))
  else if ¬ a1_0 = 0 then some (0, 0, [], 5) else if ¬ a2_0 = 0 then some (0, 0, [], 5)
  else if a0 = 21 then (triglyphref01_Add.f k a1_1 a2_1).bind fun t => some (0, t.1, [], t.2) else if a0 = 22 then (triglyphref01_Sub.f k a1_1 a2_1).bind fun t => some (0, t.1, [], t.2) else if a0 = 23 then (triglyphref01_Mul.f k a1_1 a2_1).bind fun t => some (0, t.1, [], t.2)
  else if a0 = 26 then (triglyphref01_Res.f k a1_1 a2_1).bind fun t => some (0, t, [], 0) else if a0 = 24 then some (0, (if a2_1 < a1_1 then a2_1 else a1_1), [], 0) else if a0 = 25 then some (0, (if a2_1 > a1_1 then a2_1 else a1_1), [], 0)
  else if a0 = 29 then some (0, (if a1_1 < a2_1 then 1 else 0), [], 0) else if a0 = 30 then some (0, (if a2_1 < a1_1 then 1 else 0), [], 0) else if a0 = 31 then some (0, (if a2_1 < a1_1 then 0 else 1), [], 0) else some (0, (if a1_1 < a2_1 then 0 else 1), [], 0)
theorem triglyphref04_Cell.mono : ∀ a0 a1 a2 a3 a4 a5 a6 k, LeO (triglyphref04_Cell.f k a0 a1 a2 a3 a4 a5 a6) (triglyphref04_Cell.f (k + 1) a0 a1 a2 a3 a4 a5 a6) := by
  intro a0 a1 a2 a3 a4 a5 a6 k
  unfold triglyphref04_Cell.f
  repeat (first | exact LeO.refl _ | refine LeO.ite ?_ ?_ | exact LeO.bind (triglyphref01_Add.mono _ _ _) (fun _ => LeO.refl _) | exact LeO.bind (triglyphref01_Sub.mono _ _ _) (fun _ => LeO.refl _) | exact LeO.bind (triglyphref01_Mul.mono _ _ _) (fun _ => LeO.refl _) | exact LeO.bind (triglyphref01_Res.mono _ _ _) (fun _ => LeO.refl _))
theorem ref04_truth (c : Bool) : triglyphref04_truth.f c = some (0, (if c = true then 1 else 0), []) := by cases c <;> rfl
theorem ref04_below {w W : World} {L : List (Nat × Array Value × Nat)} (h : BxS w W L) {p : Nat × Array Value × Nat} (hp : p ∈ L) (a b c : Value) : Below w.heap.size w (((W.setCell ⟨p.1, 0, none⟩ a).setCell ⟨p.1, 1, none⟩ b).setCell ⟨p.1, 2, none⟩ c) := below_set (below_set (below_set h.bel (h.fr p hp)) (h.fr p hp)) (h.fr p hp)
set_option maxHeartbeats 8000000 in
set_option maxRecDepth 100000 in
theorem triglyphref04_Cell.calls (k : Nat) (a0 : Int) (a1_0 : Int) (a1_1 : Int) (A1_2 : Option Addr) (c1_2 : Nat) (l1_2 : List (S25)) (a2_0 : Int) (a2_1 : Int) (A2_2 : Option Addr) (c2_2 : Nat) (l2_2 : List (S25)) (r1 : Int) (r2 : Int) (r3 : List (S25)) (r4 : Int) (w : World) (hr1_2 : Kd.C k25 w A1_2 l1_2.length l1_2) (hc1_2 : l1_2.length ≤ c1_2) (hr2_2 : Kd.C k25 w A2_2 l2_2.length l2_2) (hc2_2 : l2_2.length ≤ c2_2) (h : triglyphref04_Cell.f k a0 a1_0 a1_1 l1_2 a2_0 a2_1 l2_2 = some (r1, r2, r3, r4)) :
    Calls Try.prog 15 #[.int .i64 a0, .agg #[.int .i64 a1_0, .int .i64 a1_1, .slice A1_2 l1_2.length c1_2], .agg #[.int .i64 a2_0, .int .i64 a2_1, .slice A2_2 l2_2.length c2_2]] w fun e w' => ∃ v2_ : Value, e = .returned (.tuple #[.agg #[.int .i64 r1, .int .i64 r2, v2_], .int .i64 r4]) ∧ Kd.R k25 25 w' w.heap.size (fun _ => True) v2_ r3 ∧ Below w.heap.size w w' := by
  clear hr1_2 hc1_2 hr2_2 hc2_2
  have hu_c := Try.underlying35
  have HS := Aside0.mk (BxS.three w #[.int .i64 a1_0, .int .i64 a1_1, .slice A1_2 l1_2.length c1_2] 35 #[.int .i64 a2_0, .int .i64 a2_1, .slice A2_2 l2_2.length c2_2] 35 #[.int .i64 0, .int .i64 0, .slice none 0 0] 35)
  unfold triglyphref04_Cell.f at h
  by_cases q : a0 < 21 ∨ 32 < a0
  · rw [if_pos q] at h
    simp only [Option.some.injEq, Prod.mk.injEq] at h; obtain ⟨rfl, rfl, rfl, rfl⟩ := h
    by_cases q1 : a0 < 21
    · have q1b : decide (a0 < 21) = true := decide_eq_true q1
      clear q q1
      go_enter Try.func15, Try.ntmps15
      go_upto_region 1 with (fail)
      generalize ((w.alloc (.cells #[.int .i64 a1_0, .int .i64 a1_1, .slice A1_2 l1_2.length c1_2] 35)).alloc (.cells #[.int .i64 a2_0, .int .i64 a2_1, .slice A2_2 l2_2.length c2_2] 35)).alloc (.cells #[.int .i64 0, .int .i64 0, .slice none 0 0] 35) = W at HS ⊢
      have x0 : W.cell? ⟨w.heap.size, 0, none⟩ = some (.int .i64 a1_0) := (blk_cell (HS.out.at_ 2 rfl) 0).trans rfl; have x1 : W.cell? ⟨w.heap.size, 1, none⟩ = some (.int .i64 a1_1) := (blk_cell (HS.out.at_ 2 rfl) 1).trans rfl; have x2 : W.cell? ⟨w.heap.size, 2, none⟩ = some (.slice A1_2 l1_2.length c1_2) := (blk_cell (HS.out.at_ 2 rfl) 2).trans rfl; have y0 : W.cell? ⟨w.heap.size + 1, 0, none⟩ = some (.int .i64 a2_0) := (blk_cell (HS.out.at_ 1 rfl) 0).trans rfl; have y1 : W.cell? ⟨w.heap.size + 1, 1, none⟩ = some (.int .i64 a2_1) := (blk_cell (HS.out.at_ 1 rfl) 1).trans rfl; have y2 : W.cell? ⟨w.heap.size + 1, 2, none⟩ = some (.slice A2_2 l2_2.length c2_2) := (blk_cell (HS.out.at_ 1 rfl) 2).trans rfl; have z0 : W.cell? ⟨w.heap.size + 1 + 1, 0, none⟩ = some (.int .i64 0) := (blk_cell (HS.out.at_ 0 rfl) 0).trans rfl; have z1 : W.cell? ⟨w.heap.size + 1 + 1, 1, none⟩ = some (.int .i64 0) := (blk_cell (HS.out.at_ 0 rfl) 1).trans rfl; have z2 : W.cell? ⟨w.heap.size + 1 + 1, 2, none⟩ = some (.slice none 0 0) := (blk_cell (HS.out.at_ 0 rfl) 2).trans rfl; have f0 := blk_frozen (HS.out.at_ 0 rfl) 0; have f1 := blk_frozen (HS.out.at_ 0 rfl) 1; have f2 := blk_frozen (HS.out.at_ 0 rfl) 2
      go_wp2_with (fail)
      all_goals (refine bodyPost_ret (results_ct rfl _ _ (w.heap.size + 1 + 1) 35 #[.int .i64 0, .int .i64 (0), .slice none 0 0] (0, 0) _ rfl (hf_z3 (HS.out.at_ 0 rfl) _ _ _) Try.underlying35 rfl (by kernel_rfl)) rfl ?_; exact ⟨_, rfl, Kd.R_nil _ _ _ _ _, ref04_below HS.out (List.mem_of_getElem? (i := 0) rfl) _ _ _⟩)
    · have q1b : decide (a0 < 21) = false := decide_eq_false q1; have q2b : decide (a0 > 32) = true := decide_eq_true (by omega)
      clear q q1
      go_enter Try.func15, Try.ntmps15
      go_upto_region 1 with (fail)
      generalize ((w.alloc (.cells #[.int .i64 a1_0, .int .i64 a1_1, .slice A1_2 l1_2.length c1_2] 35)).alloc (.cells #[.int .i64 a2_0, .int .i64 a2_1, .slice A2_2 l2_2.length c2_2] 35)).alloc (.cells #[.int .i64 0, .int .i64 0, .slice none 0 0] 35) = W at HS ⊢
      have x0 : W.cell? ⟨w.heap.size, 0, none⟩ = some (.int .i64 a1_0) := (blk_cell (HS.out.at_ 2 rfl) 0).trans rfl; have x1 : W.cell? ⟨w.heap.size, 1, none⟩ = some (.int .i64 a1_1) := (blk_cell (HS.out.at_ 2 rfl) 1).trans rfl; have x2 : W.cell? ⟨w.heap.size, 2, none⟩ = some (.slice A1_2 l1_2.length c1_2) := (blk_cell (HS.out.at_ 2 rfl) 2).trans rfl; have y0 : W.cell? ⟨w.heap.size + 1, 0, none⟩ = some (.int .i64 a2_0) := (blk_cell (HS.out.at_ 1 rfl) 0).trans rfl; have y1 : W.cell? ⟨w.heap.size + 1, 1, none⟩ = some (.int .i64 a2_1) := (blk_cell (HS.out.at_ 1 rfl) 1).trans rfl; have y2 : W.cell? ⟨w.heap.size + 1, 2, none⟩ = some (.slice A2_2 l2_2.length c2_2) := (blk_cell (HS.out.at_ 1 rfl) 2).trans rfl; have z0 : W.cell? ⟨w.heap.size + 1 + 1, 0, none⟩ = some (.int .i64 0) := (blk_cell (HS.out.at_ 0 rfl) 0).trans rfl; have z1 : W.cell? ⟨w.heap.size + 1 + 1, 1, none⟩ = some (.int .i64 0) := (blk_cell (HS.out.at_ 0 rfl) 1).trans rfl; have z2 : W.cell? ⟨w.heap.size + 1 + 1, 2, none⟩ = some (.slice none 0 0) := (blk_cell (HS.out.at_ 0 rfl) 2).trans rfl; have f0 := blk_frozen (HS.out.at_ 0 rfl) 0; have f1 := blk_frozen (HS.out.at_ 0 rfl) 1; have f2 := blk_frozen (HS.out.at_ 0 rfl) 2
      go_wp2_with (fail)
      all_goals (refine bodyPost_ret (results_ct rfl _ _ (w.heap.size + 1 + 1) 35 #[.int .i64 0, .int .i64 (0), .slice none 0 0] (0, 0) _ rfl (hf_z3 (HS.out.at_ 0 rfl) _ _ _) Try.underlying35 rfl (by kernel_rfl)) rfl ?_; exact ⟨_, rfl, Kd.R_nil _ _ _ _ _, ref04_below HS.out (List.mem_of_getElem? (i := 0) rfl) _ _ _⟩)
  rw [if_neg q] at h
  by_cases e : a0 = 27 ∨ a0 = 28
  · rw [if_pos e] at h
    clear q
    by_cases k1 : a1_0 = 2
    · rw [if_pos k1] at h
      simp only [Option.some.injEq, Prod.mk.injEq] at h; obtain ⟨rfl, rfl, rfl, rfl⟩ := h
      have k1b : (a1_0 == 2) = true := beq_iff_eq.2 k1; clear k1
      rcases e with e | e <;> subst e
      all_goals
        go_enter Try.func15, Try.ntmps15
        go_upto_region 1 with (fail)
        generalize ((w.alloc (.cells #[.int .i64 a1_0, .int .i64 a1_1, .slice A1_2 l1_2.length c1_2] 35)).alloc (.cells #[.int .i64 a2_0, .int .i64 a2_1, .slice A2_2 l2_2.length c2_2] 35)).alloc (.cells #[.int .i64 0, .int .i64 0, .slice none 0 0] 35) = W at HS ⊢
        have x0 : W.cell? ⟨w.heap.size, 0, none⟩ = some (.int .i64 a1_0) := (blk_cell (HS.out.at_ 2 rfl) 0).trans rfl; have x1 : W.cell? ⟨w.heap.size, 1, none⟩ = some (.int .i64 a1_1) := (blk_cell (HS.out.at_ 2 rfl) 1).trans rfl; have x2 : W.cell? ⟨w.heap.size, 2, none⟩ = some (.slice A1_2 l1_2.length c1_2) := (blk_cell (HS.out.at_ 2 rfl) 2).trans rfl; have y0 : W.cell? ⟨w.heap.size + 1, 0, none⟩ = some (.int .i64 a2_0) := (blk_cell (HS.out.at_ 1 rfl) 0).trans rfl; have y1 : W.cell? ⟨w.heap.size + 1, 1, none⟩ = some (.int .i64 a2_1) := (blk_cell (HS.out.at_ 1 rfl) 1).trans rfl; have y2 : W.cell? ⟨w.heap.size + 1, 2, none⟩ = some (.slice A2_2 l2_2.length c2_2) := (blk_cell (HS.out.at_ 1 rfl) 2).trans rfl; have z0 : W.cell? ⟨w.heap.size + 1 + 1, 0, none⟩ = some (.int .i64 0) := (blk_cell (HS.out.at_ 0 rfl) 0).trans rfl; have z1 : W.cell? ⟨w.heap.size + 1 + 1, 1, none⟩ = some (.int .i64 0) := (blk_cell (HS.out.at_ 0 rfl) 1).trans rfl; have z2 : W.cell? ⟨w.heap.size + 1 + 1, 2, none⟩ = some (.slice none 0 0) := (blk_cell (HS.out.at_ 0 rfl) 2).trans rfl; have f0 := blk_frozen (HS.out.at_ 0 rfl) 0; have f1 := blk_frozen (HS.out.at_ 0 rfl) 1; have f2 := blk_frozen (HS.out.at_ 0 rfl) 2
        go_wp2_with (fail)
        all_goals (refine bodyPost_ret (results_ct rfl _ _ (w.heap.size + 1 + 1) 35 #[.int .i64 0, .int .i64 (0), .slice none 0 0] (0, 0) _ rfl (hf_z3 (HS.out.at_ 0 rfl) _ _ _) Try.underlying35 rfl (by kernel_rfl)) rfl ?_; exact ⟨_, rfl, Kd.R_nil _ _ _ _ _, ref04_below HS.out (List.mem_of_getElem? (i := 0) rfl) _ _ _⟩)
    rw [if_neg k1] at h; have k1b : (a1_0 == 2) = false := beq_eq_false_iff_ne.2 k1; clear k1
    by_cases k2 : a2_0 = 2
    · rw [if_pos k2] at h
      simp only [Option.some.injEq, Prod.mk.injEq] at h; obtain ⟨rfl, rfl, rfl, rfl⟩ := h
      have k2b : (a2_0 == 2) = true := beq_iff_eq.2 k2; clear k2
      rcases e with e | e <;> subst e
      all_goals
        go_enter Try.func15, Try.ntmps15
        go_upto_region 1 with (fail)
        generalize ((w.alloc (.cells #[.int .i64 a1_0, .int .i64 a1_1, .slice A1_2 l1_2.length c1_2] 35)).alloc (.cells #[.int .i64 a2_0, .int .i64 a2_1, .slice A2_2 l2_2.length c2_2] 35)).alloc (.cells #[.int .i64 0, .int .i64 0, .slice none 0 0] 35) = W at HS ⊢
        have x0 : W.cell? ⟨w.heap.size, 0, none⟩ = some (.int .i64 a1_0) := (blk_cell (HS.out.at_ 2 rfl) 0).trans rfl; have x1 : W.cell? ⟨w.heap.size, 1, none⟩ = some (.int .i64 a1_1) := (blk_cell (HS.out.at_ 2 rfl) 1).trans rfl; have x2 : W.cell? ⟨w.heap.size, 2, none⟩ = some (.slice A1_2 l1_2.length c1_2) := (blk_cell (HS.out.at_ 2 rfl) 2).trans rfl; have y0 : W.cell? ⟨w.heap.size + 1, 0, none⟩ = some (.int .i64 a2_0) := (blk_cell (HS.out.at_ 1 rfl) 0).trans rfl; have y1 : W.cell? ⟨w.heap.size + 1, 1, none⟩ = some (.int .i64 a2_1) := (blk_cell (HS.out.at_ 1 rfl) 1).trans rfl; have y2 : W.cell? ⟨w.heap.size + 1, 2, none⟩ = some (.slice A2_2 l2_2.length c2_2) := (blk_cell (HS.out.at_ 1 rfl) 2).trans rfl; have z0 : W.cell? ⟨w.heap.size + 1 + 1, 0, none⟩ = some (.int .i64 0) := (blk_cell (HS.out.at_ 0 rfl) 0).trans rfl; have z1 : W.cell? ⟨w.heap.size + 1 + 1, 1, none⟩ = some (.int .i64 0) := (blk_cell (HS.out.at_ 0 rfl) 1).trans rfl; have z2 : W.cell? ⟨w.heap.size + 1 + 1, 2, none⟩ = some (.slice none 0 0) := (blk_cell (HS.out.at_ 0 rfl) 2).trans rfl; have f0 := blk_frozen (HS.out.at_ 0 rfl) 0; have f1 := blk_frozen (HS.out.at_ 0 rfl) 1; have f2 := blk_frozen (HS.out.at_ 0 rfl) 2
        go_wp2_with (fail)
        all_goals (refine bodyPost_ret (results_ct rfl _ _ (w.heap.size + 1 + 1) 35 #[.int .i64 0, .int .i64 (0), .slice none 0 0] (0, 0) _ rfl (hf_z3 (HS.out.at_ 0 rfl) _ _ _) Try.underlying35 rfl (by kernel_rfl)) rfl ?_; exact ⟨_, rfl, Kd.R_nil _ _ _ _ _, ref04_below HS.out (List.mem_of_getElem? (i := 0) rfl) _ _ _⟩)
    rw [if_neg k2] at h; have k2b : (a2_0 == 2) = false := beq_eq_false_iff_ne.2 k2; clear k2
    simp only [Option.some.injEq, Prod.mk.injEq] at h; obtain ⟨rfl, rfl, rfl, rfl⟩ := h
    cases b1 : (a1_0 == a2_0)
    all_goals cases b2 : (a1_1 == a2_1)
    all_goals rcases e with e | e <;> subst e
    · have HT := Aside0.mk (ref04_truth false)
      go_enter Try.func15, Try.ntmps15
      go_upto_region 1 with (fail)
      generalize ((w.alloc (.cells #[.int .i64 a1_0, .int .i64 a1_1, .slice A1_2 l1_2.length c1_2] 35)).alloc (.cells #[.int .i64 a2_0, .int .i64 a2_1, .slice A2_2 l2_2.length c2_2] 35)).alloc (.cells #[.int .i64 0, .int .i64 0, .slice none 0 0] 35) = W at HS ⊢
      have x0 : W.cell? ⟨w.heap.size, 0, none⟩ = some (.int .i64 a1_0) := (blk_cell (HS.out.at_ 2 rfl) 0).trans rfl; have x1 : W.cell? ⟨w.heap.size, 1, none⟩ = some (.int .i64 a1_1) := (blk_cell (HS.out.at_ 2 rfl) 1).trans rfl; have x2 : W.cell? ⟨w.heap.size, 2, none⟩ = some (.slice A1_2 l1_2.length c1_2) := (blk_cell (HS.out.at_ 2 rfl) 2).trans rfl; have y0 : W.cell? ⟨w.heap.size + 1, 0, none⟩ = some (.int .i64 a2_0) := (blk_cell (HS.out.at_ 1 rfl) 0).trans rfl; have y1 : W.cell? ⟨w.heap.size + 1, 1, none⟩ = some (.int .i64 a2_1) := (blk_cell (HS.out.at_ 1 rfl) 1).trans rfl; have y2 : W.cell? ⟨w.heap.size + 1, 2, none⟩ = some (.slice A2_2 l2_2.length c2_2) := (blk_cell (HS.out.at_ 1 rfl) 2).trans rfl; have z0 : W.cell? ⟨w.heap.size + 1 + 1, 0, none⟩ = some (.int .i64 0) := (blk_cell (HS.out.at_ 0 rfl) 0).trans rfl; have z1 : W.cell? ⟨w.heap.size + 1 + 1, 1, none⟩ = some (.int .i64 0) := (blk_cell (HS.out.at_ 0 rfl) 1).trans rfl; have z2 : W.cell? ⟨w.heap.size + 1 + 1, 2, none⟩ = some (.slice none 0 0) := (blk_cell (HS.out.at_ 0 rfl) 2).trans rfl; have f0 := blk_frozen (HS.out.at_ 0 rfl) 0; have f1 := blk_frozen (HS.out.at_ 0 rfl) 1; have f2 := blk_frozen (HS.out.at_ 0 rfl) 2
      go_wp2_with (go_at_call 34; (with_reducible refine (triglyphref04_truth.calls _ _ _ _ _ HT.out).mono ?_); rintro e w1 ⟨v2, rfl, hR, hb⟩; have HR := Aside0.mk (Kd.R_lower (Kd.R_mono (Kd.R_bound hR) (fun k hk => (hk.2.1 : _ ≤ k))) HS.out.bel.size); have HG := Aside0.mk (blk_lt (HS.out.at_ 0 rfl)); clear hR; obtain ⟨Av, cv, hv⟩ := Kd.R_slice HR.out; subst hv; have HS := Aside0.mk (HS.out.step hb); clear hb; (try clear x0 x1 x2 y0 y1 y2 z0 z1 z2 f0 f1 f2); have x0 : w1.cell? ⟨w.heap.size, 0, none⟩ = some (.int .i64 a1_0) := (blk_cell (HS.out.at_ 2 rfl) 0).trans rfl; have x1 : w1.cell? ⟨w.heap.size, 1, none⟩ = some (.int .i64 a1_1) := (blk_cell (HS.out.at_ 2 rfl) 1).trans rfl; have x2 : w1.cell? ⟨w.heap.size, 2, none⟩ = some (.slice A1_2 l1_2.length c1_2) := (blk_cell (HS.out.at_ 2 rfl) 2).trans rfl; have y0 : w1.cell? ⟨w.heap.size + 1, 0, none⟩ = some (.int .i64 a2_0) := (blk_cell (HS.out.at_ 1 rfl) 0).trans rfl; have y1 : w1.cell? ⟨w.heap.size + 1, 1, none⟩ = some (.int .i64 a2_1) := (blk_cell (HS.out.at_ 1 rfl) 1).trans rfl; have y2 : w1.cell? ⟨w.heap.size + 1, 2, none⟩ = some (.slice A2_2 l2_2.length c2_2) := (blk_cell (HS.out.at_ 1 rfl) 2).trans rfl; have z0 : w1.cell? ⟨w.heap.size + 1 + 1, 0, none⟩ = some (.int .i64 0) := (blk_cell (HS.out.at_ 0 rfl) 0).trans rfl; have z1 : w1.cell? ⟨w.heap.size + 1 + 1, 1, none⟩ = some (.int .i64 0) := (blk_cell (HS.out.at_ 0 rfl) 1).trans rfl; have z2 : w1.cell? ⟨w.heap.size + 1 + 1, 2, none⟩ = some (.slice none 0 0) := (blk_cell (HS.out.at_ 0 rfl) 2).trans rfl; have f0 := blk_frozen (HS.out.at_ 0 rfl) 0; have f1 := blk_frozen (HS.out.at_ 0 rfl) 1; have f2 := blk_frozen (HS.out.at_ 0 rfl) 2)
      all_goals (refine bodyPost_ret (results_ct rfl _ _ (w.heap.size + 1 + 1) 35 #[.int .i64 0, .int .i64 (0), .slice Av 0 cv] (0, 0) _ rfl (hf_z3 (HS.out.at_ 0 rfl) _ _ _) Try.underlying35 rfl (by kernel_rfl)) rfl ?_; exact ⟨_, rfl, Kd.R_mono (Kd.R_far (Kd.R_far (Kd.R_far HR.out (fun k hk => Nat.ne_of_gt (Nat.lt_of_lt_of_le HG.out hk)) _) (fun k hk => Nat.ne_of_gt (Nat.lt_of_lt_of_le HG.out hk)) _) (fun k hk => Nat.ne_of_gt (Nat.lt_of_lt_of_le HG.out hk)) _) (fun _ _ => trivial), ref04_below HS.out (List.mem_of_getElem? (i := 0) rfl) _ _ _⟩)
    · have HT := Aside0.mk (ref04_truth true)
      go_enter Try.func15, Try.ntmps15
      go_upto_region 1 with (fail)
      generalize ((w.alloc (.cells #[.int .i64 a1_0, .int .i64 a1_1, .slice A1_2 l1_2.length c1_2] 35)).alloc (.cells #[.int .i64 a2_0, .int .i64 a2_1, .slice A2_2 l2_2.length c2_2] 35)).alloc (.cells #[.int .i64 0, .int .i64 0, .slice none 0 0] 35) = W at HS ⊢
      have x0 : W.cell? ⟨w.heap.size, 0, none⟩ = some (.int .i64 a1_0) := (blk_cell (HS.out.at_ 2 rfl) 0).trans rfl; have x1 : W.cell? ⟨w.heap.size, 1, none⟩ = some (.int .i64 a1_1) := (blk_cell (HS.out.at_ 2 rfl) 1).trans rfl; have x2 : W.cell? ⟨w.heap.size, 2, none⟩ = some (.slice A1_2 l1_2.length c1_2) := (blk_cell (HS.out.at_ 2 rfl) 2).trans rfl; have y0 : W.cell? ⟨w.heap.size + 1, 0, none⟩ = some (.int .i64 a2_0) := (blk_cell (HS.out.at_ 1 rfl) 0).trans rfl; have y1 : W.cell? ⟨w.heap.size + 1, 1, none⟩ = some (.int .i64 a2_1) := (blk_cell (HS.out.at_ 1 rfl) 1).trans rfl; have y2 : W.cell? ⟨w.heap.size + 1, 2, none⟩ = some (.slice A2_2 l2_2.length c2_2) := (blk_cell (HS.out.at_ 1 rfl) 2).trans rfl; have z0 : W.cell? ⟨w.heap.size + 1 + 1, 0, none⟩ = some (.int .i64 0) := (blk_cell (HS.out.at_ 0 rfl) 0).trans rfl; have z1 : W.cell? ⟨w.heap.size + 1 + 1, 1, none⟩ = some (.int .i64 0) := (blk_cell (HS.out.at_ 0 rfl) 1).trans rfl; have z2 : W.cell? ⟨w.heap.size + 1 + 1, 2, none⟩ = some (.slice none 0 0) := (blk_cell (HS.out.at_ 0 rfl) 2).trans rfl; have f0 := blk_frozen (HS.out.at_ 0 rfl) 0; have f1 := blk_frozen (HS.out.at_ 0 rfl) 1; have f2 := blk_frozen (HS.out.at_ 0 rfl) 2
      go_wp2_with (go_at_call 34; (with_reducible refine (triglyphref04_truth.calls _ _ _ _ _ HT.out).mono ?_); rintro e w1 ⟨v2, rfl, hR, hb⟩; have HR := Aside0.mk (Kd.R_lower (Kd.R_mono (Kd.R_bound hR) (fun k hk => (hk.2.1 : _ ≤ k))) HS.out.bel.size); have HG := Aside0.mk (blk_lt (HS.out.at_ 0 rfl)); clear hR; obtain ⟨Av, cv, hv⟩ := Kd.R_slice HR.out; subst hv; have HS := Aside0.mk (HS.out.step hb); clear hb; (try clear x0 x1 x2 y0 y1 y2 z0 z1 z2 f0 f1 f2); have x0 : w1.cell? ⟨w.heap.size, 0, none⟩ = some (.int .i64 a1_0) := (blk_cell (HS.out.at_ 2 rfl) 0).trans rfl; have x1 : w1.cell? ⟨w.heap.size, 1, none⟩ = some (.int .i64 a1_1) := (blk_cell (HS.out.at_ 2 rfl) 1).trans rfl; have x2 : w1.cell? ⟨w.heap.size, 2, none⟩ = some (.slice A1_2 l1_2.length c1_2) := (blk_cell (HS.out.at_ 2 rfl) 2).trans rfl; have y0 : w1.cell? ⟨w.heap.size + 1, 0, none⟩ = some (.int .i64 a2_0) := (blk_cell (HS.out.at_ 1 rfl) 0).trans rfl; have y1 : w1.cell? ⟨w.heap.size + 1, 1, none⟩ = some (.int .i64 a2_1) := (blk_cell (HS.out.at_ 1 rfl) 1).trans rfl; have y2 : w1.cell? ⟨w.heap.size + 1, 2, none⟩ = some (.slice A2_2 l2_2.length c2_2) := (blk_cell (HS.out.at_ 1 rfl) 2).trans rfl; have z0 : w1.cell? ⟨w.heap.size + 1 + 1, 0, none⟩ = some (.int .i64 0) := (blk_cell (HS.out.at_ 0 rfl) 0).trans rfl; have z1 : w1.cell? ⟨w.heap.size + 1 + 1, 1, none⟩ = some (.int .i64 0) := (blk_cell (HS.out.at_ 0 rfl) 1).trans rfl; have z2 : w1.cell? ⟨w.heap.size + 1 + 1, 2, none⟩ = some (.slice none 0 0) := (blk_cell (HS.out.at_ 0 rfl) 2).trans rfl; have f0 := blk_frozen (HS.out.at_ 0 rfl) 0; have f1 := blk_frozen (HS.out.at_ 0 rfl) 1; have f2 := blk_frozen (HS.out.at_ 0 rfl) 2)
      all_goals (refine bodyPost_ret (results_ct rfl _ _ (w.heap.size + 1 + 1) 35 #[.int .i64 0, .int .i64 (1), .slice Av 0 cv] (0, 0) _ rfl (hf_z3 (HS.out.at_ 0 rfl) _ _ _) Try.underlying35 rfl (by kernel_rfl)) rfl ?_; exact ⟨_, rfl, Kd.R_mono (Kd.R_far (Kd.R_far (Kd.R_far HR.out (fun k hk => Nat.ne_of_gt (Nat.lt_of_lt_of_le HG.out hk)) _) (fun k hk => Nat.ne_of_gt (Nat.lt_of_lt_of_le HG.out hk)) _) (fun k hk => Nat.ne_of_gt (Nat.lt_of_lt_of_le HG.out hk)) _) (fun _ _ => trivial), ref04_below HS.out (List.mem_of_getElem? (i := 0) rfl) _ _ _⟩)
    · have HT := Aside0.mk (ref04_truth false)
      go_enter Try.func15, Try.ntmps15
      go_upto_region 1 with (fail)
      generalize ((w.alloc (.cells #[.int .i64 a1_0, .int .i64 a1_1, .slice A1_2 l1_2.length c1_2] 35)).alloc (.cells #[.int .i64 a2_0, .int .i64 a2_1, .slice A2_2 l2_2.length c2_2] 35)).alloc (.cells #[.int .i64 0, .int .i64 0, .slice none 0 0] 35) = W at HS ⊢
      have x0 : W.cell? ⟨w.heap.size, 0, none⟩ = some (.int .i64 a1_0) := (blk_cell (HS.out.at_ 2 rfl) 0).trans rfl; have x1 : W.cell? ⟨w.heap.size, 1, none⟩ = some (.int .i64 a1_1) := (blk_cell (HS.out.at_ 2 rfl) 1).trans rfl; have x2 : W.cell? ⟨w.heap.size, 2, none⟩ = some (.slice A1_2 l1_2.length c1_2) := (blk_cell (HS.out.at_ 2 rfl) 2).trans rfl; have y0 : W.cell? ⟨w.heap.size + 1, 0, none⟩ = some (.int .i64 a2_0) := (blk_cell (HS.out.at_ 1 rfl) 0).trans rfl; have y1 : W.cell? ⟨w.heap.size + 1, 1, none⟩ = some (.int .i64 a2_1) := (blk_cell (HS.out.at_ 1 rfl) 1).trans rfl; have y2 : W.cell? ⟨w.heap.size + 1, 2, none⟩ = some (.slice A2_2 l2_2.length c2_2) := (blk_cell (HS.out.at_ 1 rfl) 2).trans rfl; have z0 : W.cell? ⟨w.heap.size + 1 + 1, 0, none⟩ = some (.int .i64 0) := (blk_cell (HS.out.at_ 0 rfl) 0).trans rfl; have z1 : W.cell? ⟨w.heap.size + 1 + 1, 1, none⟩ = some (.int .i64 0) := (blk_cell (HS.out.at_ 0 rfl) 1).trans rfl; have z2 : W.cell? ⟨w.heap.size + 1 + 1, 2, none⟩ = some (.slice none 0 0) := (blk_cell (HS.out.at_ 0 rfl) 2).trans rfl; have f0 := blk_frozen (HS.out.at_ 0 rfl) 0; have f1 := blk_frozen (HS.out.at_ 0 rfl) 1; have f2 := blk_frozen (HS.out.at_ 0 rfl) 2
      go_wp2_with (go_at_call 34; (with_reducible refine (triglyphref04_truth.calls _ _ _ _ _ HT.out).mono ?_); rintro e w1 ⟨v2, rfl, hR, hb⟩; have HR := Aside0.mk (Kd.R_lower (Kd.R_mono (Kd.R_bound hR) (fun k hk => (hk.2.1 : _ ≤ k))) HS.out.bel.size); have HG := Aside0.mk (blk_lt (HS.out.at_ 0 rfl)); clear hR; obtain ⟨Av, cv, hv⟩ := Kd.R_slice HR.out; subst hv; have HS := Aside0.mk (HS.out.step hb); clear hb; (try clear x0 x1 x2 y0 y1 y2 z0 z1 z2 f0 f1 f2); have x0 : w1.cell? ⟨w.heap.size, 0, none⟩ = some (.int .i64 a1_0) := (blk_cell (HS.out.at_ 2 rfl) 0).trans rfl; have x1 : w1.cell? ⟨w.heap.size, 1, none⟩ = some (.int .i64 a1_1) := (blk_cell (HS.out.at_ 2 rfl) 1).trans rfl; have x2 : w1.cell? ⟨w.heap.size, 2, none⟩ = some (.slice A1_2 l1_2.length c1_2) := (blk_cell (HS.out.at_ 2 rfl) 2).trans rfl; have y0 : w1.cell? ⟨w.heap.size + 1, 0, none⟩ = some (.int .i64 a2_0) := (blk_cell (HS.out.at_ 1 rfl) 0).trans rfl; have y1 : w1.cell? ⟨w.heap.size + 1, 1, none⟩ = some (.int .i64 a2_1) := (blk_cell (HS.out.at_ 1 rfl) 1).trans rfl; have y2 : w1.cell? ⟨w.heap.size + 1, 2, none⟩ = some (.slice A2_2 l2_2.length c2_2) := (blk_cell (HS.out.at_ 1 rfl) 2).trans rfl; have z0 : w1.cell? ⟨w.heap.size + 1 + 1, 0, none⟩ = some (.int .i64 0) := (blk_cell (HS.out.at_ 0 rfl) 0).trans rfl; have z1 : w1.cell? ⟨w.heap.size + 1 + 1, 1, none⟩ = some (.int .i64 0) := (blk_cell (HS.out.at_ 0 rfl) 1).trans rfl; have z2 : w1.cell? ⟨w.heap.size + 1 + 1, 2, none⟩ = some (.slice none 0 0) := (blk_cell (HS.out.at_ 0 rfl) 2).trans rfl; have f0 := blk_frozen (HS.out.at_ 0 rfl) 0; have f1 := blk_frozen (HS.out.at_ 0 rfl) 1; have f2 := blk_frozen (HS.out.at_ 0 rfl) 2)
      all_goals (refine bodyPost_ret (results_ct rfl _ _ (w.heap.size + 1 + 1) 35 #[.int .i64 0, .int .i64 (0), .slice Av 0 cv] (0, 0) _ rfl (hf_z3 (HS.out.at_ 0 rfl) _ _ _) Try.underlying35 rfl (by kernel_rfl)) rfl ?_; exact ⟨_, rfl, Kd.R_mono (Kd.R_far (Kd.R_far (Kd.R_far HR.out (fun k hk => Nat.ne_of_gt (Nat.lt_of_lt_of_le HG.out hk)) _) (fun k hk => Nat.ne_of_gt (Nat.lt_of_lt_of_le HG.out hk)) _) (fun k hk => Nat.ne_of_gt (Nat.lt_of_lt_of_le HG.out hk)) _) (fun _ _ => trivial), ref04_below HS.out (List.mem_of_getElem? (i := 0) rfl) _ _ _⟩)
    · have HT := Aside0.mk (ref04_truth true)
      go_enter Try.func15, Try.ntmps15
      go_upto_region 1 with (fail)
      generalize ((w.alloc (.cells #[.int .i64 a1_0, .int .i64 a1_1, .slice A1_2 l1_2.length c1_2] 35)).alloc (.cells #[.int .i64 a2_0, .int .i64 a2_1, .slice A2_2 l2_2.length c2_2] 35)).alloc (.cells #[.int .i64 0, .int .i64 0, .slice none 0 0] 35) = W at HS ⊢
      have x0 : W.cell? ⟨w.heap.size, 0, none⟩ = some (.int .i64 a1_0) := (blk_cell (HS.out.at_ 2 rfl) 0).trans rfl; have x1 : W.cell? ⟨w.heap.size, 1, none⟩ = some (.int .i64 a1_1) := (blk_cell (HS.out.at_ 2 rfl) 1).trans rfl; have x2 : W.cell? ⟨w.heap.size, 2, none⟩ = some (.slice A1_2 l1_2.length c1_2) := (blk_cell (HS.out.at_ 2 rfl) 2).trans rfl; have y0 : W.cell? ⟨w.heap.size + 1, 0, none⟩ = some (.int .i64 a2_0) := (blk_cell (HS.out.at_ 1 rfl) 0).trans rfl; have y1 : W.cell? ⟨w.heap.size + 1, 1, none⟩ = some (.int .i64 a2_1) := (blk_cell (HS.out.at_ 1 rfl) 1).trans rfl; have y2 : W.cell? ⟨w.heap.size + 1, 2, none⟩ = some (.slice A2_2 l2_2.length c2_2) := (blk_cell (HS.out.at_ 1 rfl) 2).trans rfl; have z0 : W.cell? ⟨w.heap.size + 1 + 1, 0, none⟩ = some (.int .i64 0) := (blk_cell (HS.out.at_ 0 rfl) 0).trans rfl; have z1 : W.cell? ⟨w.heap.size + 1 + 1, 1, none⟩ = some (.int .i64 0) := (blk_cell (HS.out.at_ 0 rfl) 1).trans rfl; have z2 : W.cell? ⟨w.heap.size + 1 + 1, 2, none⟩ = some (.slice none 0 0) := (blk_cell (HS.out.at_ 0 rfl) 2).trans rfl; have f0 := blk_frozen (HS.out.at_ 0 rfl) 0; have f1 := blk_frozen (HS.out.at_ 0 rfl) 1; have f2 := blk_frozen (HS.out.at_ 0 rfl) 2
      go_wp2_with (go_at_call 34; (with_reducible refine (triglyphref04_truth.calls _ _ _ _ _ HT.out).mono ?_); rintro e w1 ⟨v2, rfl, hR, hb⟩; have HR := Aside0.mk (Kd.R_lower (Kd.R_mono (Kd.R_bound hR) (fun k hk => (hk.2.1 : _ ≤ k))) HS.out.bel.size); have HG := Aside0.mk (blk_lt (HS.out.at_ 0 rfl)); clear hR; obtain ⟨Av, cv, hv⟩ := Kd.R_slice HR.out; subst hv; have HS := Aside0.mk (HS.out.step hb); clear hb; (try clear x0 x1 x2 y0 y1 y2 z0 z1 z2 f0 f1 f2); have x0 : w1.cell? ⟨w.heap.size, 0, none⟩ = some (.int .i64 a1_0) := (blk_cell (HS.out.at_ 2 rfl) 0).trans rfl; have x1 : w1.cell? ⟨w.heap.size, 1, none⟩ = some (.int .i64 a1_1) := (blk_cell (HS.out.at_ 2 rfl) 1).trans rfl; have x2 : w1.cell? ⟨w.heap.size, 2, none⟩ = some (.slice A1_2 l1_2.length c1_2) := (blk_cell (HS.out.at_ 2 rfl) 2).trans rfl; have y0 : w1.cell? ⟨w.heap.size + 1, 0, none⟩ = some (.int .i64 a2_0) := (blk_cell (HS.out.at_ 1 rfl) 0).trans rfl; have y1 : w1.cell? ⟨w.heap.size + 1, 1, none⟩ = some (.int .i64 a2_1) := (blk_cell (HS.out.at_ 1 rfl) 1).trans rfl; have y2 : w1.cell? ⟨w.heap.size + 1, 2, none⟩ = some (.slice A2_2 l2_2.length c2_2) := (blk_cell (HS.out.at_ 1 rfl) 2).trans rfl; have z0 : w1.cell? ⟨w.heap.size + 1 + 1, 0, none⟩ = some (.int .i64 0) := (blk_cell (HS.out.at_ 0 rfl) 0).trans rfl; have z1 : w1.cell? ⟨w.heap.size + 1 + 1, 1, none⟩ = some (.int .i64 0) := (blk_cell (HS.out.at_ 0 rfl) 1).trans rfl; have z2 : w1.cell? ⟨w.heap.size + 1 + 1, 2, none⟩ = some (.slice none 0 0) := (blk_cell (HS.out.at_ 0 rfl) 2).trans rfl; have f0 := blk_frozen (HS.out.at_ 0 rfl) 0; have f1 := blk_frozen (HS.out.at_ 0 rfl) 1; have f2 := blk_frozen (HS.out.at_ 0 rfl) 2)
      all_goals (refine bodyPost_ret (results_ct rfl _ _ (w.heap.size + 1 + 1) 35 #[.int .i64 0, .int .i64 (1), .slice Av 0 cv] (0, 0) _ rfl (hf_z3 (HS.out.at_ 0 rfl) _ _ _) Try.underlying35 rfl (by kernel_rfl)) rfl ?_; exact ⟨_, rfl, Kd.R_mono (Kd.R_far (Kd.R_far (Kd.R_far HR.out (fun k hk => Nat.ne_of_gt (Nat.lt_of_lt_of_le HG.out hk)) _) (fun k hk => Nat.ne_of_gt (Nat.lt_of_lt_of_le HG.out hk)) _) (fun k hk => Nat.ne_of_gt (Nat.lt_of_lt_of_le HG.out hk)) _) (fun _ _ => trivial), ref04_below HS.out (List.mem_of_getElem? (i := 0) rfl) _ _ _⟩)
    · have HT := Aside0.mk (ref04_truth false)
      go_enter Try.func15, Try.ntmps15
      go_upto_region 1 with (fail)
      generalize ((w.alloc (.cells #[.int .i64 a1_0, .int .i64 a1_1, .slice A1_2 l1_2.length c1_2] 35)).alloc (.cells #[.int .i64 a2_0, .int .i64 a2_1, .slice A2_2 l2_2.length c2_2] 35)).alloc (.cells #[.int .i64 0, .int .i64 0, .slice none 0 0] 35) = W at HS ⊢
      have x0 : W.cell? ⟨w.heap.size, 0, none⟩ = some (.int .i64 a1_0) := (blk_cell (HS.out.at_ 2 rfl) 0).trans rfl; have x1 : W.cell? ⟨w.heap.size, 1, none⟩ = some (.int .i64 a1_1) := (blk_cell (HS.out.at_ 2 rfl) 1).trans rfl; have x2 : W.cell? ⟨w.heap.size, 2, none⟩ = some (.slice A1_2 l1_2.length c1_2) := (blk_cell (HS.out.at_ 2 rfl) 2).trans rfl; have y0 : W.cell? ⟨w.heap.size + 1, 0, none⟩ = some (.int .i64 a2_0) := (blk_cell (HS.out.at_ 1 rfl) 0).trans rfl; have y1 : W.cell? ⟨w.heap.size + 1, 1, none⟩ = some (.int .i64 a2_1) := (blk_cell (HS.out.at_ 1 rfl) 1).trans rfl; have y2 : W.cell? ⟨w.heap.size + 1, 2, none⟩ = some (.slice A2_2 l2_2.length c2_2) := (blk_cell (HS.out.at_ 1 rfl) 2).trans rfl; have z0 : W.cell? ⟨w.heap.size + 1 + 1, 0, none⟩ = some (.int .i64 0) := (blk_cell (HS.out.at_ 0 rfl) 0).trans rfl; have z1 : W.cell? ⟨w.heap.size + 1 + 1, 1, none⟩ = some (.int .i64 0) := (blk_cell (HS.out.at_ 0 rfl) 1).trans rfl; have z2 : W.cell? ⟨w.heap.size + 1 + 1, 2, none⟩ = some (.slice none 0 0) := (blk_cell (HS.out.at_ 0 rfl) 2).trans rfl; have f0 := blk_frozen (HS.out.at_ 0 rfl) 0; have f1 := blk_frozen (HS.out.at_ 0 rfl) 1; have f2 := blk_frozen (HS.out.at_ 0 rfl) 2
      go_wp2_with (go_at_call 34; (with_reducible refine (triglyphref04_truth.calls _ _ _ _ _ HT.out).mono ?_); rintro e w1 ⟨v2, rfl, hR, hb⟩; have HR := Aside0.mk (Kd.R_lower (Kd.R_mono (Kd.R_bound hR) (fun k hk => (hk.2.1 : _ ≤ k))) HS.out.bel.size); have HG := Aside0.mk (blk_lt (HS.out.at_ 0 rfl)); clear hR; obtain ⟨Av, cv, hv⟩ := Kd.R_slice HR.out; subst hv; have HS := Aside0.mk (HS.out.step hb); clear hb; (try clear x0 x1 x2 y0 y1 y2 z0 z1 z2 f0 f1 f2); have x0 : w1.cell? ⟨w.heap.size, 0, none⟩ = some (.int .i64 a1_0) := (blk_cell (HS.out.at_ 2 rfl) 0).trans rfl; have x1 : w1.cell? ⟨w.heap.size, 1, none⟩ = some (.int .i64 a1_1) := (blk_cell (HS.out.at_ 2 rfl) 1).trans rfl; have x2 : w1.cell? ⟨w.heap.size, 2, none⟩ = some (.slice A1_2 l1_2.length c1_2) := (blk_cell (HS.out.at_ 2 rfl) 2).trans rfl; have y0 : w1.cell? ⟨w.heap.size + 1, 0, none⟩ = some (.int .i64 a2_0) := (blk_cell (HS.out.at_ 1 rfl) 0).trans rfl; have y1 : w1.cell? ⟨w.heap.size + 1, 1, none⟩ = some (.int .i64 a2_1) := (blk_cell (HS.out.at_ 1 rfl) 1).trans rfl; have y2 : w1.cell? ⟨w.heap.size + 1, 2, none⟩ = some (.slice A2_2 l2_2.length c2_2) := (blk_cell (HS.out.at_ 1 rfl) 2).trans rfl; have z0 : w1.cell? ⟨w.heap.size + 1 + 1, 0, none⟩ = some (.int .i64 0) := (blk_cell (HS.out.at_ 0 rfl) 0).trans rfl; have z1 : w1.cell? ⟨w.heap.size + 1 + 1, 1, none⟩ = some (.int .i64 0) := (blk_cell (HS.out.at_ 0 rfl) 1).trans rfl; have z2 : w1.cell? ⟨w.heap.size + 1 + 1, 2, none⟩ = some (.slice none 0 0) := (blk_cell (HS.out.at_ 0 rfl) 2).trans rfl; have f0 := blk_frozen (HS.out.at_ 0 rfl) 0; have f1 := blk_frozen (HS.out.at_ 0 rfl) 1; have f2 := blk_frozen (HS.out.at_ 0 rfl) 2)
      all_goals (refine bodyPost_ret (results_ct rfl _ _ (w.heap.size + 1 + 1) 35 #[.int .i64 0, .int .i64 (0), .slice Av 0 cv] (0, 0) _ rfl (hf_z3 (HS.out.at_ 0 rfl) _ _ _) Try.underlying35 rfl (by kernel_rfl)) rfl ?_; exact ⟨_, rfl, Kd.R_mono (Kd.R_far (Kd.R_far (Kd.R_far HR.out (fun k hk => Nat.ne_of_gt (Nat.lt_of_lt_of_le HG.out hk)) _) (fun k hk => Nat.ne_of_gt (Nat.lt_of_lt_of_le HG.out hk)) _) (fun k hk => Nat.ne_of_gt (Nat.lt_of_lt_of_le HG.out hk)) _) (fun _ _ => trivial), ref04_below HS.out (List.mem_of_getElem? (i := 0) rfl) _ _ _⟩)
    · have HT := Aside0.mk (ref04_truth true)
      go_enter Try.func15, Try.ntmps15
      go_upto_region 1 with (fail)
      generalize ((w.alloc (.cells #[.int .i64 a1_0, .int .i64 a1_1, .slice A1_2 l1_2.length c1_2] 35)).alloc (.cells #[.int .i64 a2_0, .int .i64 a2_1, .slice A2_2 l2_2.length c2_2] 35)).alloc (.cells #[.int .i64 0, .int .i64 0, .slice none 0 0] 35) = W at HS ⊢
      have x0 : W.cell? ⟨w.heap.size, 0, none⟩ = some (.int .i64 a1_0) := (blk_cell (HS.out.at_ 2 rfl) 0).trans rfl; have x1 : W.cell? ⟨w.heap.size, 1, none⟩ = some (.int .i64 a1_1) := (blk_cell (HS.out.at_ 2 rfl) 1).trans rfl; have x2 : W.cell? ⟨w.heap.size, 2, none⟩ = some (.slice A1_2 l1_2.length c1_2) := (blk_cell (HS.out.at_ 2 rfl) 2).trans rfl; have y0 : W.cell? ⟨w.heap.size + 1, 0, none⟩ = some (.int .i64 a2_0) := (blk_cell (HS.out.at_ 1 rfl) 0).trans rfl; have y1 : W.cell? ⟨w.heap.size + 1, 1, none⟩ = some (.int .i64 a2_1) := (blk_cell (HS.out.at_ 1 rfl) 1).trans rfl; have y2 : W.cell? ⟨w.heap.size + 1, 2, none⟩ = some (.slice A2_2 l2_2.length c2_2) := (blk_cell (HS.out.at_ 1 rfl) 2).trans rfl; have z0 : W.cell? ⟨w.heap.size + 1 + 1, 0, none⟩ = some (.int .i64 0) := (blk_cell (HS.out.at_ 0 rfl) 0).trans rfl; have z1 : W.cell? ⟨w.heap.size + 1 + 1, 1, none⟩ = some (.int .i64 0) := (blk_cell (HS.out.at_ 0 rfl) 1).trans rfl; have z2 : W.cell? ⟨w.heap.size + 1 + 1, 2, none⟩ = some (.slice none 0 0) := (blk_cell (HS.out.at_ 0 rfl) 2).trans rfl; have f0 := blk_frozen (HS.out.at_ 0 rfl) 0; have f1 := blk_frozen (HS.out.at_ 0 rfl) 1; have f2 := blk_frozen (HS.out.at_ 0 rfl) 2
      go_wp2_with (go_at_call 34; (with_reducible refine (triglyphref04_truth.calls _ _ _ _ _ HT.out).mono ?_); rintro e w1 ⟨v2, rfl, hR, hb⟩; have HR := Aside0.mk (Kd.R_lower (Kd.R_mono (Kd.R_bound hR) (fun k hk => (hk.2.1 : _ ≤ k))) HS.out.bel.size); have HG := Aside0.mk (blk_lt (HS.out.at_ 0 rfl)); clear hR; obtain ⟨Av, cv, hv⟩ := Kd.R_slice HR.out; subst hv; have HS := Aside0.mk (HS.out.step hb); clear hb; (try clear x0 x1 x2 y0 y1 y2 z0 z1 z2 f0 f1 f2); have x0 : w1.cell? ⟨w.heap.size, 0, none⟩ = some (.int .i64 a1_0) := (blk_cell (HS.out.at_ 2 rfl) 0).trans rfl; have x1 : w1.cell? ⟨w.heap.size, 1, none⟩ = some (.int .i64 a1_1) := (blk_cell (HS.out.at_ 2 rfl) 1).trans rfl; have x2 : w1.cell? ⟨w.heap.size, 2, none⟩ = some (.slice A1_2 l1_2.length c1_2) := (blk_cell (HS.out.at_ 2 rfl) 2).trans rfl; have y0 : w1.cell? ⟨w.heap.size + 1, 0, none⟩ = some (.int .i64 a2_0) := (blk_cell (HS.out.at_ 1 rfl) 0).trans rfl; have y1 : w1.cell? ⟨w.heap.size + 1, 1, none⟩ = some (.int .i64 a2_1) := (blk_cell (HS.out.at_ 1 rfl) 1).trans rfl; have y2 : w1.cell? ⟨w.heap.size + 1, 2, none⟩ = some (.slice A2_2 l2_2.length c2_2) := (blk_cell (HS.out.at_ 1 rfl) 2).trans rfl; have z0 : w1.cell? ⟨w.heap.size + 1 + 1, 0, none⟩ = some (.int .i64 0) := (blk_cell (HS.out.at_ 0 rfl) 0).trans rfl; have z1 : w1.cell? ⟨w.heap.size + 1 + 1, 1, none⟩ = some (.int .i64 0) := (blk_cell (HS.out.at_ 0 rfl) 1).trans rfl; have z2 : w1.cell? ⟨w.heap.size + 1 + 1, 2, none⟩ = some (.slice none 0 0) := (blk_cell (HS.out.at_ 0 rfl) 2).trans rfl; have f0 := blk_frozen (HS.out.at_ 0 rfl) 0; have f1 := blk_frozen (HS.out.at_ 0 rfl) 1; have f2 := blk_frozen (HS.out.at_ 0 rfl) 2)
      all_goals (refine bodyPost_ret (results_ct rfl _ _ (w.heap.size + 1 + 1) 35 #[.int .i64 0, .int .i64 (1), .slice Av 0 cv] (0, 0) _ rfl (hf_z3 (HS.out.at_ 0 rfl) _ _ _) Try.underlying35 rfl (by kernel_rfl)) rfl ?_; exact ⟨_, rfl, Kd.R_mono (Kd.R_far (Kd.R_far (Kd.R_far HR.out (fun k hk => Nat.ne_of_gt (Nat.lt_of_lt_of_le HG.out hk)) _) (fun k hk => Nat.ne_of_gt (Nat.lt_of_lt_of_le HG.out hk)) _) (fun k hk => Nat.ne_of_gt (Nat.lt_of_lt_of_le HG.out hk)) _) (fun _ _ => trivial), ref04_below HS.out (List.mem_of_getElem? (i := 0) rfl) _ _ _⟩)
    · have HT := Aside0.mk (ref04_truth true)
      go_enter Try.func15, Try.ntmps15
      go_upto_region 1 with (fail)
      generalize ((w.alloc (.cells #[.int .i64 a1_0, .int .i64 a1_1, .slice A1_2 l1_2.length c1_2] 35)).alloc (.cells #[.int .i64 a2_0, .int .i64 a2_1, .slice A2_2 l2_2.length c2_2] 35)).alloc (.cells #[.int .i64 0, .int .i64 0, .slice none 0 0] 35) = W at HS ⊢
      have x0 : W.cell? ⟨w.heap.size, 0, none⟩ = some (.int .i64 a1_0) := (blk_cell (HS.out.at_ 2 rfl) 0).trans rfl; have x1 : W.cell? ⟨w.heap.size, 1, none⟩ = some (.int .i64 a1_1) := (blk_cell (HS.out.at_ 2 rfl) 1).trans rfl; have x2 : W.cell? ⟨w.heap.size, 2, none⟩ = some (.slice A1_2 l1_2.length c1_2) := (blk_cell (HS.out.at_ 2 rfl) 2).trans rfl; have y0 : W.cell? ⟨w.heap.size + 1, 0, none⟩ = some (.int .i64 a2_0) := (blk_cell (HS.out.at_ 1 rfl) 0).trans rfl; have y1 : W.cell? ⟨w.heap.size + 1, 1, none⟩ = some (.int .i64 a2_1) := (blk_cell (HS.out.at_ 1 rfl) 1).trans rfl; have y2 : W.cell? ⟨w.heap.size + 1, 2, none⟩ = some (.slice A2_2 l2_2.length c2_2) := (blk_cell (HS.out.at_ 1 rfl) 2).trans rfl; have z0 : W.cell? ⟨w.heap.size + 1 + 1, 0, none⟩ = some (.int .i64 0) := (blk_cell (HS.out.at_ 0 rfl) 0).trans rfl; have z1 : W.cell? ⟨w.heap.size + 1 + 1, 1, none⟩ = some (.int .i64 0) := (blk_cell (HS.out.at_ 0 rfl) 1).trans rfl; have z2 : W.cell? ⟨w.heap.size + 1 + 1, 2, none⟩ = some (.slice none 0 0) := (blk_cell (HS.out.at_ 0 rfl) 2).trans rfl; have f0 := blk_frozen (HS.out.at_ 0 rfl) 0; have f1 := blk_frozen (HS.out.at_ 0 rfl) 1; have f2 := blk_frozen (HS.out.at_ 0 rfl) 2
      go_wp2_with (go_at_call 34; (with_reducible refine (triglyphref04_truth.calls _ _ _ _ _ HT.out).mono ?_); rintro e w1 ⟨v2, rfl, hR, hb⟩; have HR := Aside0.mk (Kd.R_lower (Kd.R_mono (Kd.R_bound hR) (fun k hk => (hk.2.1 : _ ≤ k))) HS.out.bel.size); have HG := Aside0.mk (blk_lt (HS.out.at_ 0 rfl)); clear hR; obtain ⟨Av, cv, hv⟩ := Kd.R_slice HR.out; subst hv; have HS := Aside0.mk (HS.out.step hb); clear hb; (try clear x0 x1 x2 y0 y1 y2 z0 z1 z2 f0 f1 f2); have x0 : w1.cell? ⟨w.heap.size, 0, none⟩ = some (.int .i64 a1_0) := (blk_cell (HS.out.at_ 2 rfl) 0).trans rfl; have x1 : w1.cell? ⟨w.heap.size, 1, none⟩ = some (.int .i64 a1_1) := (blk_cell (HS.out.at_ 2 rfl) 1).trans rfl; have x2 : w1.cell? ⟨w.heap.size, 2, none⟩ = some (.slice A1_2 l1_2.length c1_2) := (blk_cell (HS.out.at_ 2 rfl) 2).trans rfl; have y0 : w1.cell? ⟨w.heap.size + 1, 0, none⟩ = some (.int .i64 a2_0) := (blk_cell (HS.out.at_ 1 rfl) 0).trans rfl; have y1 : w1.cell? ⟨w.heap.size + 1, 1, none⟩ = some (.int .i64 a2_1) := (blk_cell (HS.out.at_ 1 rfl) 1).trans rfl; have y2 : w1.cell? ⟨w.heap.size + 1, 2, none⟩ = some (.slice A2_2 l2_2.length c2_2) := (blk_cell (HS.out.at_ 1 rfl) 2).trans rfl; have z0 : w1.cell? ⟨w.heap.size + 1 + 1, 0, none⟩ = some (.int .i64 0) := (blk_cell (HS.out.at_ 0 rfl) 0).trans rfl; have z1 : w1.cell? ⟨w.heap.size + 1 + 1, 1, none⟩ = some (.int .i64 0) := (blk_cell (HS.out.at_ 0 rfl) 1).trans rfl; have z2 : w1.cell? ⟨w.heap.size + 1 + 1, 2, none⟩ = some (.slice none 0 0) := (blk_cell (HS.out.at_ 0 rfl) 2).trans rfl; have f0 := blk_frozen (HS.out.at_ 0 rfl) 0; have f1 := blk_frozen (HS.out.at_ 0 rfl) 1; have f2 := blk_frozen (HS.out.at_ 0 rfl) 2)
      all_goals (refine bodyPost_ret (results_ct rfl _ _ (w.heap.size + 1 + 1) 35 #[.int .i64 0, .int .i64 (1), .slice Av 0 cv] (0, 0) _ rfl (hf_z3 (HS.out.at_ 0 rfl) _ _ _) Try.underlying35 rfl (by kernel_rfl)) rfl ?_; exact ⟨_, rfl, Kd.R_mono (Kd.R_far (Kd.R_far (Kd.R_far HR.out (fun k hk => Nat.ne_of_gt (Nat.lt_of_lt_of_le HG.out hk)) _) (fun k hk => Nat.ne_of_gt (Nat.lt_of_lt_of_le HG.out hk)) _) (fun k hk => Nat.ne_of_gt (Nat.lt_of_lt_of_le HG.out hk)) _) (fun _ _ => trivial), ref04_below HS.out (List.mem_of_getElem? (i := 0) rfl) _ _ _⟩)
    · have HT := Aside0.mk (ref04_truth false)
      go_enter Try.func15, Try.ntmps15
      go_upto_region 1 with (fail)
      generalize ((w.alloc (.cells #[.int .i64 a1_0, .int .i64 a1_1, .slice A1_2 l1_2.length c1_2] 35)).alloc (.cells #[.int .i64 a2_0, .int .i64 a2_1, .slice A2_2 l2_2.length c2_2] 35)).alloc (.cells #[.int .i64 0, .int .i64 0, .slice none 0 0] 35) = W at HS ⊢
      have x0 : W.cell? ⟨w.heap.size, 0, none⟩ = some (.int .i64 a1_0) := (blk_cell (HS.out.at_ 2 rfl) 0).trans rfl; have x1 : W.cell? ⟨w.heap.size, 1, none⟩ = some (.int .i64 a1_1) := (blk_cell (HS.out.at_ 2 rfl) 1).trans rfl; have x2 : W.cell? ⟨w.heap.size, 2, none⟩ = some (.slice A1_2 l1_2.length c1_2) := (blk_cell (HS.out.at_ 2 rfl) 2).trans rfl; have y0 : W.cell? ⟨w.heap.size + 1, 0, none⟩ = some (.int .i64 a2_0) := (blk_cell (HS.out.at_ 1 rfl) 0).trans rfl; have y1 : W.cell? ⟨w.heap.size + 1, 1, none⟩ = some (.int .i64 a2_1) := (blk_cell (HS.out.at_ 1 rfl) 1).trans rfl; have y2 : W.cell? ⟨w.heap.size + 1, 2, none⟩ = some (.slice A2_2 l2_2.length c2_2) := (blk_cell (HS.out.at_ 1 rfl) 2).trans rfl; have z0 : W.cell? ⟨w.heap.size + 1 + 1, 0, none⟩ = some (.int .i64 0) := (blk_cell (HS.out.at_ 0 rfl) 0).trans rfl; have z1 : W.cell? ⟨w.heap.size + 1 + 1, 1, none⟩ = some (.int .i64 0) := (blk_cell (HS.out.at_ 0 rfl) 1).trans rfl; have z2 : W.cell? ⟨w.heap.size + 1 + 1, 2, none⟩ = some (.slice none 0 0) := (blk_cell (HS.out.at_ 0 rfl) 2).trans rfl; have f0 := blk_frozen (HS.out.at_ 0 rfl) 0; have f1 := blk_frozen (HS.out.at_ 0 rfl) 1; have f2 := blk_frozen (HS.out.at_ 0 rfl) 2
      go_wp2_with (go_at_call 34; (with_reducible refine (triglyphref04_truth.calls _ _ _ _ _ HT.out).mono ?_); rintro e w1 ⟨v2, rfl, hR, hb⟩; have HR := Aside0.mk (Kd.R_lower (Kd.R_mono (Kd.R_bound hR) (fun k hk => (hk.2.1 : _ ≤ k))) HS.out.bel.size); have HG := Aside0.mk (blk_lt (HS.out.at_ 0 rfl)); clear hR; obtain ⟨Av, cv, hv⟩ := Kd.R_slice HR.out; subst hv; have HS := Aside0.mk (HS.out.step hb); clear hb; (try clear x0 x1 x2 y0 y1 y2 z0 z1 z2 f0 f1 f2); have x0 : w1.cell? ⟨w.heap.size, 0, none⟩ = some (.int .i64 a1_0) := (blk_cell (HS.out.at_ 2 rfl) 0).trans rfl; have x1 : w1.cell? ⟨w.heap.size, 1, none⟩ = some (.int .i64 a1_1) := (blk_cell (HS.out.at_ 2 rfl) 1).trans rfl; have x2 : w1.cell? ⟨w.heap.size, 2, none⟩ = some (.slice A1_2 l1_2.length c1_2) := (blk_cell (HS.out.at_ 2 rfl) 2).trans rfl; have y0 : w1.cell? ⟨w.heap.size + 1, 0, none⟩ = some (.int .i64 a2_0) := (blk_cell (HS.out.at_ 1 rfl) 0).trans rfl; have y1 : w1.cell? ⟨w.heap.size + 1, 1, none⟩ = some (.int .i64 a2_1) := (blk_cell (HS.out.at_ 1 rfl) 1).trans rfl; have y2 : w1.cell? ⟨w.heap.size + 1, 2, none⟩ = some (.slice A2_2 l2_2.length c2_2) := (blk_cell (HS.out.at_ 1 rfl) 2).trans rfl; have z0 : w1.cell? ⟨w.heap.size + 1 + 1, 0, none⟩ = some (.int .i64 0) := (blk_cell (HS.out.at_ 0 rfl) 0).trans rfl; have z1 : w1.cell? ⟨w.heap.size + 1 + 1, 1, none⟩ = some (.int .i64 0) := (blk_cell (HS.out.at_ 0 rfl) 1).trans rfl; have z2 : w1.cell? ⟨w.heap.size + 1 + 1, 2, none⟩ = some (.slice none 0 0) := (blk_cell (HS.out.at_ 0 rfl) 2).trans rfl; have f0 := blk_frozen (HS.out.at_ 0 rfl) 0; have f1 := blk_frozen (HS.out.at_ 0 rfl) 1; have f2 := blk_frozen (HS.out.at_ 0 rfl) 2)
      all_goals (refine bodyPost_ret (results_ct rfl _ _ (w.heap.size + 1 + 1) 35 #[.int .i64 0, .int .i64 (0), .slice Av 0 cv] (0, 0) _ rfl (hf_z3 (HS.out.at_ 0 rfl) _ _ _) Try.underlying35 rfl (by kernel_rfl)) rfl ?_; exact ⟨_, rfl, Kd.R_mono (Kd.R_far (Kd.R_far (Kd.R_far HR.out (fun k hk => Nat.ne_of_gt (Nat.lt_of_lt_of_le HG.out hk)) _) (fun k hk => Nat.ne_of_gt (Nat.lt_of_lt_of_le HG.out hk)) _) (fun k hk => Nat.ne_of_gt (Nat.lt_of_lt_of_le HG.out hk)) _) (fun _ _ => trivial), ref04_below HS.out (List.mem_of_getElem? (i := 0) rfl) _ _ _⟩)
  rw [if_neg e] at h
  by_cases k1 : a1_0 = 0
  rotate_left
  · rw [if_pos k1] at h
    simp only [Option.some.injEq, Prod.mk.injEq] at h; obtain ⟨rfl, rfl, rfl, rfl⟩ := h
    have g1b : decide (a0 < 21) = false := decide_eq_false (by omega); have g2b : decide (a0 > 32) = false := decide_eq_false (by omega); have g3b : (a0 == 27) = false := beq_eq_false_iff_ne.2 (by omega); have g4b : (a0 == 28) = false := beq_eq_false_iff_ne.2 (by omega)
    have k1b : (a1_0 != 0) = true := bne_iff_ne.2 k1; clear k1 q e
    go_enter Try.func15, Try.ntmps15
    go_upto_region 1 with (fail)
    generalize ((w.alloc (.cells #[.int .i64 a1_0, .int .i64 a1_1, .slice A1_2 l1_2.length c1_2] 35)).alloc (.cells #[.int .i64 a2_0, .int .i64 a2_1, .slice A2_2 l2_2.length c2_2] 35)).alloc (.cells #[.int .i64 0, .int .i64 0, .slice none 0 0] 35) = W at HS ⊢
    have x0 : W.cell? ⟨w.heap.size, 0, none⟩ = some (.int .i64 a1_0) := (blk_cell (HS.out.at_ 2 rfl) 0).trans rfl; have x1 : W.cell? ⟨w.heap.size, 1, none⟩ = some (.int .i64 a1_1) := (blk_cell (HS.out.at_ 2 rfl) 1).trans rfl; have x2 : W.cell? ⟨w.heap.size, 2, none⟩ = some (.slice A1_2 l1_2.length c1_2) := (blk_cell (HS.out.at_ 2 rfl) 2).trans rfl; have y0 : W.cell? ⟨w.heap.size + 1, 0, none⟩ = some (.int .i64 a2_0) := (blk_cell (HS.out.at_ 1 rfl) 0).trans rfl; have y1 : W.cell? ⟨w.heap.size + 1, 1, none⟩ = some (.int .i64 a2_1) := (blk_cell (HS.out.at_ 1 rfl) 1).trans rfl; have y2 : W.cell? ⟨w.heap.size + 1, 2, none⟩ = some (.slice A2_2 l2_2.length c2_2) := (blk_cell (HS.out.at_ 1 rfl) 2).trans rfl; have z0 : W.cell? ⟨w.heap.size + 1 + 1, 0, none⟩ = some (.int .i64 0) := (blk_cell (HS.out.at_ 0 rfl) 0).trans rfl; have z1 : W.cell? ⟨w.heap.size + 1 + 1, 1, none⟩ = some (.int .i64 0) := (blk_cell (HS.out.at_ 0 rfl) 1).trans rfl; have z2 : W.cell? ⟨w.heap.size + 1 + 1, 2, none⟩ = some (.slice none 0 0) := (blk_cell (HS.out.at_ 0 rfl) 2).trans rfl; have f0 := blk_frozen (HS.out.at_ 0 rfl) 0; have f1 := blk_frozen (HS.out.at_ 0 rfl) 1; have f2 := blk_frozen (HS.out.at_ 0 rfl) 2
    go_wp2_with (fail)
    all_goals (refine bodyPost_ret (results_ct rfl _ _ (w.heap.size + 1 + 1) 35 #[.int .i64 0, .int .i64 (0), .slice none 0 0] (0, 0) _ rfl (hf_z3 (HS.out.at_ 0 rfl) _ _ _) Try.underlying35 rfl (by kernel_rfl)) rfl ?_; exact ⟨_, rfl, Kd.R_nil _ _ _ _ _, ref04_below HS.out (List.mem_of_getElem? (i := 0) rfl) _ _ _⟩)
  rw [if_neg (not_not_intro k1)] at h; have k1b : (a1_0 != 0) = false := bne_eq_false_iff_eq.2 k1; clear k1
  by_cases k2 : a2_0 = 0
  rotate_left
  · rw [if_pos k2] at h
    simp only [Option.some.injEq, Prod.mk.injEq] at h; obtain ⟨rfl, rfl, rfl, rfl⟩ := h
    have g1b : decide (a0 < 21) = false := decide_eq_false (by omega); have g2b : decide (a0 > 32) = false := decide_eq_false (by omega); have g3b : (a0 == 27) = false := beq_eq_false_iff_ne.2 (by omega); have g4b : (a0 == 28) = false := beq_eq_false_iff_ne.2 (by omega)
    have k2b : (a2_0 != 0) = true := bne_iff_ne.2 k2; clear k2 q e
    go_enter Try.func15, Try.ntmps15
    go_upto_region 1 with (fail)
    generalize ((w.alloc (.cells #[.int .i64 a1_0, .int .i64 a1_1, .slice A1_2 l1_2.length c1_2] 35)).alloc (.cells #[.int .i64 a2_0, .int .i64 a2_1, .slice A2_2 l2_2.length c2_2] 35)).alloc (.cells #[.int .i64 0, .int .i64 0, .slice none 0 0] 35) = W at HS ⊢
    have x0 : W.cell? ⟨w.heap.size, 0, none⟩ = some (.int .i64 a1_0) := (blk_cell (HS.out.at_ 2 rfl) 0).trans rfl; have x1 : W.cell? ⟨w.heap.size, 1, none⟩ = some (.int .i64 a1_1) := (blk_cell (HS.out.at_ 2 rfl) 1).trans rfl; have x2 : W.cell? ⟨w.heap.size, 2, none⟩ = some (.slice A1_2 l1_2.length c1_2) := (blk_cell (HS.out.at_ 2 rfl) 2).trans rfl; have y0 : W.cell? ⟨w.heap.size + 1, 0, none⟩ = some (.int .i64 a2_0) := (blk_cell (HS.out.at_ 1 rfl) 0).trans rfl; have y1 : W.cell? ⟨w.heap.size + 1, 1, none⟩ = some (.int .i64 a2_1) := (blk_cell (HS.out.at_ 1 rfl) 1).trans rfl; have y2 : W.cell? ⟨w.heap.size + 1, 2, none⟩ = some (.slice A2_2 l2_2.length c2_2) := (blk_cell (HS.out.at_ 1 rfl) 2).trans rfl; have z0 : W.cell? ⟨w.heap.size + 1 + 1, 0, none⟩ = some (.int .i64 0) := (blk_cell (HS.out.at_ 0 rfl) 0).trans rfl; have z1 : W.cell? ⟨w.heap.size + 1 + 1, 1, none⟩ = some (.int .i64 0) := (blk_cell (HS.out.at_ 0 rfl) 1).trans rfl; have z2 : W.cell? ⟨w.heap.size + 1 + 1, 2, none⟩ = some (.slice none 0 0) := (blk_cell (HS.out.at_ 0 rfl) 2).trans rfl; have f0 := blk_frozen (HS.out.at_ 0 rfl) 0; have f1 := blk_frozen (HS.out.at_ 0 rfl) 1; have f2 := blk_frozen (HS.out.at_ 0 rfl) 2
    go_wp2_with (fail)
    all_goals (refine bodyPost_ret (results_ct rfl _ _ (w.heap.size + 1 + 1) 35 #[.int .i64 0, .int .i64 (0), .slice none 0 0] (0, 0) _ rfl (hf_z3 (HS.out.at_ 0 rfl) _ _ _) Try.underlying35 rfl (by kernel_rfl)) rfl ?_; exact ⟨_, rfl, Kd.R_nil _ _ _ _ _, ref04_below HS.out (List.mem_of_getElem? (i := 0) rfl) _ _ _⟩)
  rw [if_neg (not_not_intro k2)] at h; have k2b : (a2_0 != 0) = false := bne_eq_false_iff_eq.2 k2; clear k2
  rcases (by omega : a0 = 21 ∨ a0 = 22 ∨ a0 = 23 ∨ a0 = 26 ∨ a0 = 24 ∨ a0 = 25 ∨ a0 = 29 ∨ a0 = 30 ∨ a0 = 31 ∨ a0 = 32) with c | c | c | c | c | c | c | c | c | c
  all_goals subst c; clear q e
  · skip
    rw [if_pos rfl] at h
    obtain ⟨t, q1, h⟩ := Option.bind_eq_some_iff.1 h; have Q1 := Aside0.mk q1; clear q1
    try dsimp only at h
    obtain ⟨t1, t2⟩ := t; dsimp only at h
    simp only [Option.some.injEq, Prod.mk.injEq] at h; obtain ⟨rfl, rfl, rfl, rfl⟩ := h
    go_enter Try.func15, Try.ntmps15
    go_upto_region 1 with (fail)
    generalize ((w.alloc (.cells #[.int .i64 a1_0, .int .i64 a1_1, .slice A1_2 l1_2.length c1_2] 35)).alloc (.cells #[.int .i64 a2_0, .int .i64 a2_1, .slice A2_2 l2_2.length c2_2] 35)).alloc (.cells #[.int .i64 0, .int .i64 0, .slice none 0 0] 35) = W at HS ⊢
    have x0 : W.cell? ⟨w.heap.size, 0, none⟩ = some (.int .i64 a1_0) := (blk_cell (HS.out.at_ 2 rfl) 0).trans rfl; have x1 : W.cell? ⟨w.heap.size, 1, none⟩ = some (.int .i64 a1_1) := (blk_cell (HS.out.at_ 2 rfl) 1).trans rfl; have x2 : W.cell? ⟨w.heap.size, 2, none⟩ = some (.slice A1_2 l1_2.length c1_2) := (blk_cell (HS.out.at_ 2 rfl) 2).trans rfl; have y0 : W.cell? ⟨w.heap.size + 1, 0, none⟩ = some (.int .i64 a2_0) := (blk_cell (HS.out.at_ 1 rfl) 0).trans rfl; have y1 : W.cell? ⟨w.heap.size + 1, 1, none⟩ = some (.int .i64 a2_1) := (blk_cell (HS.out.at_ 1 rfl) 1).trans rfl; have y2 : W.cell? ⟨w.heap.size + 1, 2, none⟩ = some (.slice A2_2 l2_2.length c2_2) := (blk_cell (HS.out.at_ 1 rfl) 2).trans rfl; have z0 : W.cell? ⟨w.heap.size + 1 + 1, 0, none⟩ = some (.int .i64 0) := (blk_cell (HS.out.at_ 0 rfl) 0).trans rfl; have z1 : W.cell? ⟨w.heap.size + 1 + 1, 1, none⟩ = some (.int .i64 0) := (blk_cell (HS.out.at_ 0 rfl) 1).trans rfl; have z2 : W.cell? ⟨w.heap.size + 1 + 1, 2, none⟩ = some (.slice none 0 0) := (blk_cell (HS.out.at_ 0 rfl) 2).trans rfl; have f0 := blk_frozen (HS.out.at_ 0 rfl) 0; have f1 := blk_frozen (HS.out.at_ 0 rfl) 1; have f2 := blk_frozen (HS.out.at_ 0 rfl) 2
    go_wp2_with (go_at_call 35; (with_reducible refine (triglyphref01_Add.calls k _ _ _ _ _ Q1.out).mono ?_); rintro e w1 ⟨rfl, hb⟩; have HS := Aside0.mk (HS.out.step hb); clear hb; (try clear x0 x1 x2 y0 y1 y2 z0 z1 z2 f0 f1 f2); have x0 : w1.cell? ⟨w.heap.size, 0, none⟩ = some (.int .i64 a1_0) := (blk_cell (HS.out.at_ 2 rfl) 0).trans rfl; have x1 : w1.cell? ⟨w.heap.size, 1, none⟩ = some (.int .i64 a1_1) := (blk_cell (HS.out.at_ 2 rfl) 1).trans rfl; have x2 : w1.cell? ⟨w.heap.size, 2, none⟩ = some (.slice A1_2 l1_2.length c1_2) := (blk_cell (HS.out.at_ 2 rfl) 2).trans rfl; have y0 : w1.cell? ⟨w.heap.size + 1, 0, none⟩ = some (.int .i64 a2_0) := (blk_cell (HS.out.at_ 1 rfl) 0).trans rfl; have y1 : w1.cell? ⟨w.heap.size + 1, 1, none⟩ = some (.int .i64 a2_1) := (blk_cell (HS.out.at_ 1 rfl) 1).trans rfl; have y2 : w1.cell? ⟨w.heap.size + 1, 2, none⟩ = some (.slice A2_2 l2_2.length c2_2) := (blk_cell (HS.out.at_ 1 rfl) 2).trans rfl; have z0 : w1.cell? ⟨w.heap.size + 1 + 1, 0, none⟩ = some (.int .i64 0) := (blk_cell (HS.out.at_ 0 rfl) 0).trans rfl; have z1 : w1.cell? ⟨w.heap.size + 1 + 1, 1, none⟩ = some (.int .i64 0) := (blk_cell (HS.out.at_ 0 rfl) 1).trans rfl; have z2 : w1.cell? ⟨w.heap.size + 1 + 1, 2, none⟩ = some (.slice none 0 0) := (blk_cell (HS.out.at_ 0 rfl) 2).trans rfl; have f0 := blk_frozen (HS.out.at_ 0 rfl) 0; have f1 := blk_frozen (HS.out.at_ 0 rfl) 1; have f2 := blk_frozen (HS.out.at_ 0 rfl) 2)
    all_goals (refine bodyPost_ret (results_ct rfl _ _ (w.heap.size + 1 + 1) 35 #[.int .i64 0, .int .i64 (_), .slice none 0 0] (0, 0) _ rfl (hf_z3 (HS.out.at_ 0 rfl) _ _ _) Try.underlying35 rfl (by kernel_rfl)) rfl ?_; exact ⟨_, rfl, Kd.R_nil _ _ _ _ _, ref04_below HS.out (List.mem_of_getElem? (i := 0) rfl) _ _ _⟩)
  · skip
    iterate 1 rw [if_neg (by decide)] at h
    rw [if_pos rfl] at h
    obtain ⟨t, q1, h⟩ := Option.bind_eq_some_iff.1 h; have Q1 := Aside0.mk q1; clear q1
    try dsimp only at h
    obtain ⟨t1, t2⟩ := t; dsimp only at h
    simp only [Option.some.injEq, Prod.mk.injEq] at h; obtain ⟨rfl, rfl, rfl, rfl⟩ := h
    go_enter Try.func15, Try.ntmps15
    go_upto_region 1 with (fail)
    generalize ((w.alloc (.cells #[.int .i64 a1_0, .int .i64 a1_1, .slice A1_2 l1_2.length c1_2] 35)).alloc (.cells #[.int .i64 a2_0, .int .i64 a2_1, .slice A2_2 l2_2.length c2_2] 35)).alloc (.cells #[.int .i64 0, .int .i64 0, .slice none 0 0] 35) = W at HS ⊢
    have x0 : W.cell? ⟨w.heap.size, 0, none⟩ = some (.int .i64 a1_0) := (blk_cell (HS.out.at_ 2 rfl) 0).trans rfl; have x1 : W.cell? ⟨w.heap.size, 1, none⟩ = some (.int .i64 a1_1) := (blk_cell (HS.out.at_ 2 rfl) 1).trans rfl; have x2 : W.cell? ⟨w.heap.size, 2, none⟩ = some (.slice A1_2 l1_2.length c1_2) := (blk_cell (HS.out.at_ 2 rfl) 2).trans rfl; have y0 : W.cell? ⟨w.heap.size + 1, 0, none⟩ = some (.int .i64 a2_0) := (blk_cell (HS.out.at_ 1 rfl) 0).trans rfl; have y1 : W.cell? ⟨w.heap.size + 1, 1, none⟩ = some (.int .i64 a2_1) := (blk_cell (HS.out.at_ 1 rfl) 1).trans rfl; have y2 : W.cell? ⟨w.heap.size + 1, 2, none⟩ = some (.slice A2_2 l2_2.length c2_2) := (blk_cell (HS.out.at_ 1 rfl) 2).trans rfl; have z0 : W.cell? ⟨w.heap.size + 1 + 1, 0, none⟩ = some (.int .i64 0) := (blk_cell (HS.out.at_ 0 rfl) 0).trans rfl; have z1 : W.cell? ⟨w.heap.size + 1 + 1, 1, none⟩ = some (.int .i64 0) := (blk_cell (HS.out.at_ 0 rfl) 1).trans rfl; have z2 : W.cell? ⟨w.heap.size + 1 + 1, 2, none⟩ = some (.slice none 0 0) := (blk_cell (HS.out.at_ 0 rfl) 2).trans rfl; have f0 := blk_frozen (HS.out.at_ 0 rfl) 0; have f1 := blk_frozen (HS.out.at_ 0 rfl) 1; have f2 := blk_frozen (HS.out.at_ 0 rfl) 2
    go_wp2_with (go_at_call 36; (with_reducible refine (triglyphref01_Sub.calls k _ _ _ _ _ Q1.out).mono ?_); rintro e w1 ⟨rfl, hb⟩; have HS := Aside0.mk (HS.out.step hb); clear hb; (try clear x0 x1 x2 y0 y1 y2 z0 z1 z2 f0 f1 f2); have x0 : w1.cell? ⟨w.heap.size, 0, none⟩ = some (.int .i64 a1_0) := (blk_cell (HS.out.at_ 2 rfl) 0).trans rfl; have x1 : w1.cell? ⟨w.heap.size, 1, none⟩ = some (.int .i64 a1_1) := (blk_cell (HS.out.at_ 2 rfl) 1).trans rfl; have x2 : w1.cell? ⟨w.heap.size, 2, none⟩ = some (.slice A1_2 l1_2.length c1_2) := (blk_cell (HS.out.at_ 2 rfl) 2).trans rfl; have y0 : w1.cell? ⟨w.heap.size + 1, 0, none⟩ = some (.int .i64 a2_0) := (blk_cell (HS.out.at_ 1 rfl) 0).trans rfl; have y1 : w1.cell? ⟨w.heap.size + 1, 1, none⟩ = some (.int .i64 a2_1) := (blk_cell (HS.out.at_ 1 rfl) 1).trans rfl; have y2 : w1.cell? ⟨w.heap.size + 1, 2, none⟩ = some (.slice A2_2 l2_2.length c2_2) := (blk_cell (HS.out.at_ 1 rfl) 2).trans rfl; have z0 : w1.cell? ⟨w.heap.size + 1 + 1, 0, none⟩ = some (.int .i64 0) := (blk_cell (HS.out.at_ 0 rfl) 0).trans rfl; have z1 : w1.cell? ⟨w.heap.size + 1 + 1, 1, none⟩ = some (.int .i64 0) := (blk_cell (HS.out.at_ 0 rfl) 1).trans rfl; have z2 : w1.cell? ⟨w.heap.size + 1 + 1, 2, none⟩ = some (.slice none 0 0) := (blk_cell (HS.out.at_ 0 rfl) 2).trans rfl; have f0 := blk_frozen (HS.out.at_ 0 rfl) 0; have f1 := blk_frozen (HS.out.at_ 0 rfl) 1; have f2 := blk_frozen (HS.out.at_ 0 rfl) 2)
    all_goals (refine bodyPost_ret (results_ct rfl _ _ (w.heap.size + 1 + 1) 35 #[.int .i64 0, .int .i64 (_), .slice none 0 0] (0, 0) _ rfl (hf_z3 (HS.out.at_ 0 rfl) _ _ _) Try.underlying35 rfl (by kernel_rfl)) rfl ?_; exact ⟨_, rfl, Kd.R_nil _ _ _ _ _, ref04_below HS.out (List.mem_of_getElem? (i := 0) rfl) _ _ _⟩)
  · skip
    iterate 2 rw [if_neg (by decide)] at h
    rw [if_pos rfl] at h
    obtain ⟨t, q1, h⟩ := Option.bind_eq_some_iff.1 h; have Q1 := Aside0.mk q1; clear q1
    try dsimp only at h
    obtain ⟨t1, t2⟩ := t; dsimp only at h
    simp only [Option.some.injEq, Prod.mk.injEq] at h; obtain ⟨rfl, rfl, rfl, rfl⟩ := h
    go_enter Try.func15, Try.ntmps15
    go_upto_region 1 with (fail)
    generalize ((w.alloc (.cells #[.int .i64 a1_0, .int .i64 a1_1, .slice A1_2 l1_2.length c1_2] 35)).alloc (.cells #[.int .i64 a2_0, .int .i64 a2_1, .slice A2_2 l2_2.length c2_2] 35)).alloc (.cells #[.int .i64 0, .int .i64 0, .slice none 0 0] 35) = W at HS ⊢
    have x0 : W.cell? ⟨w.heap.size, 0, none⟩ = some (.int .i64 a1_0) := (blk_cell (HS.out.at_ 2 rfl) 0).trans rfl; have x1 : W.cell? ⟨w.heap.size, 1, none⟩ = some (.int .i64 a1_1) := (blk_cell (HS.out.at_ 2 rfl) 1).trans rfl; have x2 : W.cell? ⟨w.heap.size, 2, none⟩ = some (.slice A1_2 l1_2.length c1_2) := (blk_cell (HS.out.at_ 2 rfl) 2).trans rfl; have y0 : W.cell? ⟨w.heap.size + 1, 0, none⟩ = some (.int .i64 a2_0) := (blk_cell (HS.out.at_ 1 rfl) 0).trans rfl; have y1 : W.cell? ⟨w.heap.size + 1, 1, none⟩ = some (.int .i64 a2_1) := (blk_cell (HS.out.at_ 1 rfl) 1).trans rfl; have y2 : W.cell? ⟨w.heap.size + 1, 2, none⟩ = some (.slice A2_2 l2_2.length c2_2) := (blk_cell (HS.out.at_ 1 rfl) 2).trans rfl; have z0 : W.cell? ⟨w.heap.size + 1 + 1, 0, none⟩ = some (.int .i64 0) := (blk_cell (HS.out.at_ 0 rfl) 0).trans rfl; have z1 : W.cell? ⟨w.heap.size + 1 + 1, 1, none⟩ = some (.int .i64 0) := (blk_cell (HS.out.at_ 0 rfl) 1).trans rfl; have z2 : W.cell? ⟨w.heap.size + 1 + 1, 2, none⟩ = some (.slice none 0 0) := (blk_cell (HS.out.at_ 0 rfl) 2).trans rfl; have f0 := blk_frozen (HS.out.at_ 0 rfl) 0; have f1 := blk_frozen (HS.out.at_ 0 rfl) 1; have f2 := blk_frozen (HS.out.at_ 0 rfl) 2
    go_wp2_with (go_at_call 37; (with_reducible refine (triglyphref01_Mul.calls k _ _ _ _ _ Q1.out).mono ?_); rintro e w1 ⟨rfl, hb⟩; have HS := Aside0.mk (HS.out.step hb); clear hb; (try clear x0 x1 x2 y0 y1 y2 z0 z1 z2 f0 f1 f2); have x0 : w1.cell? ⟨w.heap.size, 0, none⟩ = some (.int .i64 a1_0) := (blk_cell (HS.out.at_ 2 rfl) 0).trans rfl; have x1 : w1.cell? ⟨w.heap.size, 1, none⟩ = some (.int .i64 a1_1) := (blk_cell (HS.out.at_ 2 rfl) 1).trans rfl; have x2 : w1.cell? ⟨w.heap.size, 2, none⟩ = some (.slice A1_2 l1_2.length c1_2) := (blk_cell (HS.out.at_ 2 rfl) 2).trans rfl; have y0 : w1.cell? ⟨w.heap.size + 1, 0, none⟩ = some (.int .i64 a2_0) := (blk_cell (HS.out.at_ 1 rfl) 0).trans rfl; have y1 : w1.cell? ⟨w.heap.size + 1, 1, none⟩ = some (.int .i64 a2_1) := (blk_cell (HS.out.at_ 1 rfl) 1).trans rfl; have y2 : w1.cell? ⟨w.heap.size + 1, 2, none⟩ = some (.slice A2_2 l2_2.length c2_2) := (blk_cell (HS.out.at_ 1 rfl) 2).trans rfl; have z0 : w1.cell? ⟨w.heap.size + 1 + 1, 0, none⟩ = some (.int .i64 0) := (blk_cell (HS.out.at_ 0 rfl) 0).trans rfl; have z1 : w1.cell? ⟨w.heap.size + 1 + 1, 1, none⟩ = some (.int .i64 0) := (blk_cell (HS.out.at_ 0 rfl) 1).trans rfl; have z2 : w1.cell? ⟨w.heap.size + 1 + 1, 2, none⟩ = some (.slice none 0 0) := (blk_cell (HS.out.at_ 0 rfl) 2).trans rfl; have f0 := blk_frozen (HS.out.at_ 0 rfl) 0; have f1 := blk_frozen (HS.out.at_ 0 rfl) 1; have f2 := blk_frozen (HS.out.at_ 0 rfl) 2)
    all_goals (refine bodyPost_ret (results_ct rfl _ _ (w.heap.size + 1 + 1) 35 #[.int .i64 0, .int .i64 (_), .slice none 0 0] (0, 0) _ rfl (hf_z3 (HS.out.at_ 0 rfl) _ _ _) Try.underlying35 rfl (by kernel_rfl)) rfl ?_; exact ⟨_, rfl, Kd.R_nil _ _ _ _ _, ref04_below HS.out (List.mem_of_getElem? (i := 0) rfl) _ _ _⟩)
  · skip
    iterate 3 rw [if_neg (by decide)] at h
    rw [if_pos rfl] at h
    obtain ⟨t, q1, h⟩ := Option.bind_eq_some_iff.1 h; have Q1 := Aside0.mk q1; clear q1
    try dsimp only at h
    simp only [Option.some.injEq, Prod.mk.injEq] at h; obtain ⟨rfl, rfl, rfl, rfl⟩ := h
    go_enter Try.func15, Try.ntmps15
    go_upto_region 1 with (fail)
    generalize ((w.alloc (.cells #[.int .i64 a1_0, .int .i64 a1_1, .slice A1_2 l1_2.length c1_2] 35)).alloc (.cells #[.int .i64 a2_0, .int .i64 a2_1, .slice A2_2 l2_2.length c2_2] 35)).alloc (.cells #[.int .i64 0, .int .i64 0, .slice none 0 0] 35) = W at HS ⊢
    have x0 : W.cell? ⟨w.heap.size, 0, none⟩ = some (.int .i64 a1_0) := (blk_cell (HS.out.at_ 2 rfl) 0).trans rfl; have x1 : W.cell? ⟨w.heap.size, 1, none⟩ = some (.int .i64 a1_1) := (blk_cell (HS.out.at_ 2 rfl) 1).trans rfl; have x2 : W.cell? ⟨w.heap.size, 2, none⟩ = some (.slice A1_2 l1_2.length c1_2) := (blk_cell (HS.out.at_ 2 rfl) 2).trans rfl; have y0 : W.cell? ⟨w.heap.size + 1, 0, none⟩ = some (.int .i64 a2_0) := (blk_cell (HS.out.at_ 1 rfl) 0).trans rfl; have y1 : W.cell? ⟨w.heap.size + 1, 1, none⟩ = some (.int .i64 a2_1) := (blk_cell (HS.out.at_ 1 rfl) 1).trans rfl; have y2 : W.cell? ⟨w.heap.size + 1, 2, none⟩ = some (.slice A2_2 l2_2.length c2_2) := (blk_cell (HS.out.at_ 1 rfl) 2).trans rfl; have z0 : W.cell? ⟨w.heap.size + 1 + 1, 0, none⟩ = some (.int .i64 0) := (blk_cell (HS.out.at_ 0 rfl) 0).trans rfl; have z1 : W.cell? ⟨w.heap.size + 1 + 1, 1, none⟩ = some (.int .i64 0) := (blk_cell (HS.out.at_ 0 rfl) 1).trans rfl; have z2 : W.cell? ⟨w.heap.size + 1 + 1, 2, none⟩ = some (.slice none 0 0) := (blk_cell (HS.out.at_ 0 rfl) 2).trans rfl; have f0 := blk_frozen (HS.out.at_ 0 rfl) 0; have f1 := blk_frozen (HS.out.at_ 0 rfl) 1; have f2 := blk_frozen (HS.out.at_ 0 rfl) 2
    go_wp2_with (go_at_call 38; (with_reducible refine (triglyphref01_Res.calls k _ _ _ _ Q1.out).mono ?_); rintro e w1 ⟨rfl, hb⟩; have HS := Aside0.mk (HS.out.step hb.below); clear hb; (try clear x0 x1 x2 y0 y1 y2 z0 z1 z2 f0 f1 f2); have x0 : w1.cell? ⟨w.heap.size, 0, none⟩ = some (.int .i64 a1_0) := (blk_cell (HS.out.at_ 2 rfl) 0).trans rfl; have x1 : w1.cell? ⟨w.heap.size, 1, none⟩ = some (.int .i64 a1_1) := (blk_cell (HS.out.at_ 2 rfl) 1).trans rfl; have x2 : w1.cell? ⟨w.heap.size, 2, none⟩ = some (.slice A1_2 l1_2.length c1_2) := (blk_cell (HS.out.at_ 2 rfl) 2).trans rfl; have y0 : w1.cell? ⟨w.heap.size + 1, 0, none⟩ = some (.int .i64 a2_0) := (blk_cell (HS.out.at_ 1 rfl) 0).trans rfl; have y1 : w1.cell? ⟨w.heap.size + 1, 1, none⟩ = some (.int .i64 a2_1) := (blk_cell (HS.out.at_ 1 rfl) 1).trans rfl; have y2 : w1.cell? ⟨w.heap.size + 1, 2, none⟩ = some (.slice A2_2 l2_2.length c2_2) := (blk_cell (HS.out.at_ 1 rfl) 2).trans rfl; have z0 : w1.cell? ⟨w.heap.size + 1 + 1, 0, none⟩ = some (.int .i64 0) := (blk_cell (HS.out.at_ 0 rfl) 0).trans rfl; have z1 : w1.cell? ⟨w.heap.size + 1 + 1, 1, none⟩ = some (.int .i64 0) := (blk_cell (HS.out.at_ 0 rfl) 1).trans rfl; have z2 : w1.cell? ⟨w.heap.size + 1 + 1, 2, none⟩ = some (.slice none 0 0) := (blk_cell (HS.out.at_ 0 rfl) 2).trans rfl; have f0 := blk_frozen (HS.out.at_ 0 rfl) 0; have f1 := blk_frozen (HS.out.at_ 0 rfl) 1; have f2 := blk_frozen (HS.out.at_ 0 rfl) 2)
    all_goals (refine bodyPost_ret (results_ct rfl _ _ (w.heap.size + 1 + 1) 35 #[.int .i64 0, .int .i64 (_), .slice none 0 0] (0, 0) _ rfl (hf_z3 (HS.out.at_ 0 rfl) _ _ _) Try.underlying35 rfl (by kernel_rfl)) rfl ?_; exact ⟨_, rfl, Kd.R_nil _ _ _ _ _, ref04_below HS.out (List.mem_of_getElem? (i := 0) rfl) _ _ _⟩)
  · skip
    iterate 4 rw [if_neg (by decide)] at h
    rw [if_pos rfl] at h
    by_cases c : a2_1 < a1_1
    · rw [if_pos c] at h
      simp only [Option.some.injEq, Prod.mk.injEq] at h; obtain ⟨rfl, rfl, rfl, rfl⟩ := h
      have cb : decide (a2_1 < a1_1) = true := decide_eq_true c; clear c
      go_enter Try.func15, Try.ntmps15
      go_upto_region 1 with (fail)
      generalize ((w.alloc (.cells #[.int .i64 a1_0, .int .i64 a1_1, .slice A1_2 l1_2.length c1_2] 35)).alloc (.cells #[.int .i64 a2_0, .int .i64 a2_1, .slice A2_2 l2_2.length c2_2] 35)).alloc (.cells #[.int .i64 0, .int .i64 0, .slice none 0 0] 35) = W at HS ⊢
      have x0 : W.cell? ⟨w.heap.size, 0, none⟩ = some (.int .i64 a1_0) := (blk_cell (HS.out.at_ 2 rfl) 0).trans rfl; have x1 : W.cell? ⟨w.heap.size, 1, none⟩ = some (.int .i64 a1_1) := (blk_cell (HS.out.at_ 2 rfl) 1).trans rfl; have x2 : W.cell? ⟨w.heap.size, 2, none⟩ = some (.slice A1_2 l1_2.length c1_2) := (blk_cell (HS.out.at_ 2 rfl) 2).trans rfl; have y0 : W.cell? ⟨w.heap.size + 1, 0, none⟩ = some (.int .i64 a2_0) := (blk_cell (HS.out.at_ 1 rfl) 0).trans rfl; have y1 : W.cell? ⟨w.heap.size + 1, 1, none⟩ = some (.int .i64 a2_1) := (blk_cell (HS.out.at_ 1 rfl) 1).trans rfl; have y2 : W.cell? ⟨w.heap.size + 1, 2, none⟩ = some (.slice A2_2 l2_2.length c2_2) := (blk_cell (HS.out.at_ 1 rfl) 2).trans rfl; have z0 : W.cell? ⟨w.heap.size + 1 + 1, 0, none⟩ = some (.int .i64 0) := (blk_cell (HS.out.at_ 0 rfl) 0).trans rfl; have z1 : W.cell? ⟨w.heap.size + 1 + 1, 1, none⟩ = some (.int .i64 0) := (blk_cell (HS.out.at_ 0 rfl) 1).trans rfl; have z2 : W.cell? ⟨w.heap.size + 1 + 1, 2, none⟩ = some (.slice none 0 0) := (blk_cell (HS.out.at_ 0 rfl) 2).trans rfl; have f0 := blk_frozen (HS.out.at_ 0 rfl) 0; have f1 := blk_frozen (HS.out.at_ 0 rfl) 1; have f2 := blk_frozen (HS.out.at_ 0 rfl) 2
      go_wp2_with (fail)
      all_goals (refine bodyPost_ret (results_ct rfl _ _ (w.heap.size + 1 + 1) 35 #[.int .i64 0, .int .i64 (_), .slice none 0 0] (0, 0) _ rfl (hf_z3 (HS.out.at_ 0 rfl) _ _ _) Try.underlying35 rfl (by kernel_rfl)) rfl ?_; exact ⟨_, rfl, Kd.R_nil _ _ _ _ _, ref04_below HS.out (List.mem_of_getElem? (i := 0) rfl) _ _ _⟩)
    · rw [if_neg c] at h
      simp only [Option.some.injEq, Prod.mk.injEq] at h; obtain ⟨rfl, rfl, rfl, rfl⟩ := h
      have cb : decide (a2_1 < a1_1) = false := decide_eq_false c; clear c
      go_enter Try.func15, Try.ntmps15
      go_upto_region 1 with (fail)
      generalize ((w.alloc (.cells #[.int .i64 a1_0, .int .i64 a1_1, .slice A1_2 l1_2.length c1_2] 35)).alloc (.cells #[.int .i64 a2_0, .int .i64 a2_1, .slice A2_2 l2_2.length c2_2] 35)).alloc (.cells #[.int .i64 0, .int .i64 0, .slice none 0 0] 35) = W at HS ⊢
      have x0 : W.cell? ⟨w.heap.size, 0, none⟩ = some (.int .i64 a1_0) := (blk_cell (HS.out.at_ 2 rfl) 0).trans rfl; have x1 : W.cell? ⟨w.heap.size, 1, none⟩ = some (.int .i64 a1_1) := (blk_cell (HS.out.at_ 2 rfl) 1).trans rfl; have x2 : W.cell? ⟨w.heap.size, 2, none⟩ = some (.slice A1_2 l1_2.length c1_2) := (blk_cell (HS.out.at_ 2 rfl) 2).trans rfl; have y0 : W.cell? ⟨w.heap.size + 1, 0, none⟩ = some (.int .i64 a2_0) := (blk_cell (HS.out.at_ 1 rfl) 0).trans rfl; have y1 : W.cell? ⟨w.heap.size + 1, 1, none⟩ = some (.int .i64 a2_1) := (blk_cell (HS.out.at_ 1 rfl) 1).trans rfl; have y2 : W.cell? ⟨w.heap.size + 1, 2, none⟩ = some (.slice A2_2 l2_2.length c2_2) := (blk_cell (HS.out.at_ 1 rfl) 2).trans rfl; have z0 : W.cell? ⟨w.heap.size + 1 + 1, 0, none⟩ = some (.int .i64 0) := (blk_cell (HS.out.at_ 0 rfl) 0).trans rfl; have z1 : W.cell? ⟨w.heap.size + 1 + 1, 1, none⟩ = some (.int .i64 0) := (blk_cell (HS.out.at_ 0 rfl) 1).trans rfl; have z2 : W.cell? ⟨w.heap.size + 1 + 1, 2, none⟩ = some (.slice none 0 0) := (blk_cell (HS.out.at_ 0 rfl) 2).trans rfl; have f0 := blk_frozen (HS.out.at_ 0 rfl) 0; have f1 := blk_frozen (HS.out.at_ 0 rfl) 1; have f2 := blk_frozen (HS.out.at_ 0 rfl) 2
      go_wp2_with (fail)
      all_goals (refine bodyPost_ret (results_ct rfl _ _ (w.heap.size + 1 + 1) 35 #[.int .i64 0, .int .i64 (_), .slice none 0 0] (0, 0) _ rfl (hf_z3 (HS.out.at_ 0 rfl) _ _ _) Try.underlying35 rfl (by kernel_rfl)) rfl ?_; exact ⟨_, rfl, Kd.R_nil _ _ _ _ _, ref04_below HS.out (List.mem_of_getElem? (i := 0) rfl) _ _ _⟩)
  · skip
    iterate 5 rw [if_neg (by decide)] at h
    rw [if_pos rfl] at h
    by_cases c : a2_1 > a1_1
    · rw [if_pos c] at h
      simp only [Option.some.injEq, Prod.mk.injEq] at h; obtain ⟨rfl, rfl, rfl, rfl⟩ := h
      have cb : decide (a2_1 > a1_1) = true := decide_eq_true c; clear c
      go_enter Try.func15, Try.ntmps15
      go_upto_region 1 with (fail)
      generalize ((w.alloc (.cells #[.int .i64 a1_0, .int .i64 a1_1, .slice A1_2 l1_2.length c1_2] 35)).alloc (.cells #[.int .i64 a2_0, .int .i64 a2_1, .slice A2_2 l2_2.length c2_2] 35)).alloc (.cells #[.int .i64 0, .int .i64 0, .slice none 0 0] 35) = W at HS ⊢
      have x0 : W.cell? ⟨w.heap.size, 0, none⟩ = some (.int .i64 a1_0) := (blk_cell (HS.out.at_ 2 rfl) 0).trans rfl; have x1 : W.cell? ⟨w.heap.size, 1, none⟩ = some (.int .i64 a1_1) := (blk_cell (HS.out.at_ 2 rfl) 1).trans rfl; have x2 : W.cell? ⟨w.heap.size, 2, none⟩ = some (.slice A1_2 l1_2.length c1_2) := (blk_cell (HS.out.at_ 2 rfl) 2).trans rfl; have y0 : W.cell? ⟨w.heap.size + 1, 0, none⟩ = some (.int .i64 a2_0) := (blk_cell (HS.out.at_ 1 rfl) 0).trans rfl; have y1 : W.cell? ⟨w.heap.size + 1, 1, none⟩ = some (.int .i64 a2_1) := (blk_cell (HS.out.at_ 1 rfl) 1).trans rfl; have y2 : W.cell? ⟨w.heap.size + 1, 2, none⟩ = some (.slice A2_2 l2_2.length c2_2) := (blk_cell (HS.out.at_ 1 rfl) 2).trans rfl; have z0 : W.cell? ⟨w.heap.size + 1 + 1, 0, none⟩ = some (.int .i64 0) := (blk_cell (HS.out.at_ 0 rfl) 0).trans rfl; have z1 : W.cell? ⟨w.heap.size + 1 + 1, 1, none⟩ = some (.int .i64 0) := (blk_cell (HS.out.at_ 0 rfl) 1).trans rfl; have z2 : W.cell? ⟨w.heap.size + 1 + 1, 2, none⟩ = some (.slice none 0 0) := (blk_cell (HS.out.at_ 0 rfl) 2).trans rfl; have f0 := blk_frozen (HS.out.at_ 0 rfl) 0; have f1 := blk_frozen (HS.out.at_ 0 rfl) 1; have f2 := blk_frozen (HS.out.at_ 0 rfl) 2
      go_wp2_with (fail)
      all_goals (refine bodyPost_ret (results_ct rfl _ _ (w.heap.size + 1 + 1) 35 #[.int .i64 0, .int .i64 (_), .slice none 0 0] (0, 0) _ rfl (hf_z3 (HS.out.at_ 0 rfl) _ _ _) Try.underlying35 rfl (by kernel_rfl)) rfl ?_; exact ⟨_, rfl, Kd.R_nil _ _ _ _ _, ref04_below HS.out (List.mem_of_getElem? (i := 0) rfl) _ _ _⟩)
    · rw [if_neg c] at h
      simp only [Option.some.injEq, Prod.mk.injEq] at h; obtain ⟨rfl, rfl, rfl, rfl⟩ := h
      have cb : decide (a2_1 > a1_1) = false := decide_eq_false c; clear c
      go_enter Try.func15, Try.ntmps15
      go_upto_region 1 with (fail)
      generalize ((w.alloc (.cells #[.int .i64 a1_0, .int .i64 a1_1, .slice A1_2 l1_2.length c1_2] 35)).alloc (.cells #[.int .i64 a2_0, .int .i64 a2_1, .slice A2_2 l2_2.length c2_2] 35)).alloc (.cells #[.int .i64 0, .int .i64 0, .slice none 0 0] 35) = W at HS ⊢
      have x0 : W.cell? ⟨w.heap.size, 0, none⟩ = some (.int .i64 a1_0) := (blk_cell (HS.out.at_ 2 rfl) 0).trans rfl; have x1 : W.cell? ⟨w.heap.size, 1, none⟩ = some (.int .i64 a1_1) := (blk_cell (HS.out.at_ 2 rfl) 1).trans rfl; have x2 : W.cell? ⟨w.heap.size, 2, none⟩ = some (.slice A1_2 l1_2.length c1_2) := (blk_cell (HS.out.at_ 2 rfl) 2).trans rfl; have y0 : W.cell? ⟨w.heap.size + 1, 0, none⟩ = some (.int .i64 a2_0) := (blk_cell (HS.out.at_ 1 rfl) 0).trans rfl; have y1 : W.cell? ⟨w.heap.size + 1, 1, none⟩ = some (.int .i64 a2_1) := (blk_cell (HS.out.at_ 1 rfl) 1).trans rfl; have y2 : W.cell? ⟨w.heap.size + 1, 2, none⟩ = some (.slice A2_2 l2_2.length c2_2) := (blk_cell (HS.out.at_ 1 rfl) 2).trans rfl; have z0 : W.cell? ⟨w.heap.size + 1 + 1, 0, none⟩ = some (.int .i64 0) := (blk_cell (HS.out.at_ 0 rfl) 0).trans rfl; have z1 : W.cell? ⟨w.heap.size + 1 + 1, 1, none⟩ = some (.int .i64 0) := (blk_cell (HS.out.at_ 0 rfl) 1).trans rfl; have z2 : W.cell? ⟨w.heap.size + 1 + 1, 2, none⟩ = some (.slice none 0 0) := (blk_cell (HS.out.at_ 0 rfl) 2).trans rfl; have f0 := blk_frozen (HS.out.at_ 0 rfl) 0; have f1 := blk_frozen (HS.out.at_ 0 rfl) 1; have f2 := blk_frozen (HS.out.at_ 0 rfl) 2
      go_wp2_with (fail)
      all_goals (refine bodyPost_ret (results_ct rfl _ _ (w.heap.size + 1 + 1) 35 #[.int .i64 0, .int .i64 (_), .slice none 0 0] (0, 0) _ rfl (hf_z3 (HS.out.at_ 0 rfl) _ _ _) Try.underlying35 rfl (by kernel_rfl)) rfl ?_; exact ⟨_, rfl, Kd.R_nil _ _ _ _ _, ref04_below HS.out (List.mem_of_getElem? (i := 0) rfl) _ _ _⟩)
  · skip
    iterate 6 rw [if_neg (by decide)] at h
    rw [if_pos rfl] at h
    by_cases c : a1_1 < a2_1
    · rw [if_pos c] at h
      simp only [Option.some.injEq, Prod.mk.injEq] at h; obtain ⟨rfl, rfl, rfl, rfl⟩ := h
      have cb : decide (a1_1 < a2_1) = true := decide_eq_true c; clear c
      have HT := Aside0.mk (ref04_truth true)
      go_enter Try.func15, Try.ntmps15
      go_upto_region 1 with (fail)
      generalize ((w.alloc (.cells #[.int .i64 a1_0, .int .i64 a1_1, .slice A1_2 l1_2.length c1_2] 35)).alloc (.cells #[.int .i64 a2_0, .int .i64 a2_1, .slice A2_2 l2_2.length c2_2] 35)).alloc (.cells #[.int .i64 0, .int .i64 0, .slice none 0 0] 35) = W at HS ⊢
      have x0 : W.cell? ⟨w.heap.size, 0, none⟩ = some (.int .i64 a1_0) := (blk_cell (HS.out.at_ 2 rfl) 0).trans rfl; have x1 : W.cell? ⟨w.heap.size, 1, none⟩ = some (.int .i64 a1_1) := (blk_cell (HS.out.at_ 2 rfl) 1).trans rfl; have x2 : W.cell? ⟨w.heap.size, 2, none⟩ = some (.slice A1_2 l1_2.length c1_2) := (blk_cell (HS.out.at_ 2 rfl) 2).trans rfl; have y0 : W.cell? ⟨w.heap.size + 1, 0, none⟩ = some (.int .i64 a2_0) := (blk_cell (HS.out.at_ 1 rfl) 0).trans rfl; have y1 : W.cell? ⟨w.heap.size + 1, 1, none⟩ = some (.int .i64 a2_1) := (blk_cell (HS.out.at_ 1 rfl) 1).trans rfl; have y2 : W.cell? ⟨w.heap.size + 1, 2, none⟩ = some (.slice A2_2 l2_2.length c2_2) := (blk_cell (HS.out.at_ 1 rfl) 2).trans rfl; have z0 : W.cell? ⟨w.heap.size + 1 + 1, 0, none⟩ = some (.int .i64 0) := (blk_cell (HS.out.at_ 0 rfl) 0).trans rfl; have z1 : W.cell? ⟨w.heap.size + 1 + 1, 1, none⟩ = some (.int .i64 0) := (blk_cell (HS.out.at_ 0 rfl) 1).trans rfl; have z2 : W.cell? ⟨w.heap.size + 1 + 1, 2, none⟩ = some (.slice none 0 0) := (blk_cell (HS.out.at_ 0 rfl) 2).trans rfl; have f0 := blk_frozen (HS.out.at_ 0 rfl) 0; have f1 := blk_frozen (HS.out.at_ 0 rfl) 1; have f2 := blk_frozen (HS.out.at_ 0 rfl) 2
      go_wp2_with (go_at_call 34; (with_reducible refine (triglyphref04_truth.calls _ _ _ _ _ HT.out).mono ?_); rintro e w1 ⟨v2, rfl, hR, hb⟩; have HR := Aside0.mk (Kd.R_lower (Kd.R_mono (Kd.R_bound hR) (fun k hk => (hk.2.1 : _ ≤ k))) HS.out.bel.size); have HG := Aside0.mk (blk_lt (HS.out.at_ 0 rfl)); clear hR; obtain ⟨Av, cv, hv⟩ := Kd.R_slice HR.out; subst hv; have HS := Aside0.mk (HS.out.step hb); clear hb; (try clear x0 x1 x2 y0 y1 y2 z0 z1 z2 f0 f1 f2); have x0 : w1.cell? ⟨w.heap.size, 0, none⟩ = some (.int .i64 a1_0) := (blk_cell (HS.out.at_ 2 rfl) 0).trans rfl; have x1 : w1.cell? ⟨w.heap.size, 1, none⟩ = some (.int .i64 a1_1) := (blk_cell (HS.out.at_ 2 rfl) 1).trans rfl; have x2 : w1.cell? ⟨w.heap.size, 2, none⟩ = some (.slice A1_2 l1_2.length c1_2) := (blk_cell (HS.out.at_ 2 rfl) 2).trans rfl; have y0 : w1.cell? ⟨w.heap.size + 1, 0, none⟩ = some (.int .i64 a2_0) := (blk_cell (HS.out.at_ 1 rfl) 0).trans rfl; have y1 : w1.cell? ⟨w.heap.size + 1, 1, none⟩ = some (.int .i64 a2_1) := (blk_cell (HS.out.at_ 1 rfl) 1).trans rfl; have y2 : w1.cell? ⟨w.heap.size + 1, 2, none⟩ = some (.slice A2_2 l2_2.length c2_2) := (blk_cell (HS.out.at_ 1 rfl) 2).trans rfl; have z0 : w1.cell? ⟨w.heap.size + 1 + 1, 0, none⟩ = some (.int .i64 0) := (blk_cell (HS.out.at_ 0 rfl) 0).trans rfl; have z1 : w1.cell? ⟨w.heap.size + 1 + 1, 1, none⟩ = some (.int .i64 0) := (blk_cell (HS.out.at_ 0 rfl) 1).trans rfl; have z2 : w1.cell? ⟨w.heap.size + 1 + 1, 2, none⟩ = some (.slice none 0 0) := (blk_cell (HS.out.at_ 0 rfl) 2).trans rfl; have f0 := blk_frozen (HS.out.at_ 0 rfl) 0; have f1 := blk_frozen (HS.out.at_ 0 rfl) 1; have f2 := blk_frozen (HS.out.at_ 0 rfl) 2)
      all_goals (refine bodyPost_ret (results_ct rfl _ _ (w.heap.size + 1 + 1) 35 #[.int .i64 0, .int .i64 (1), .slice Av 0 cv] (0, 0) _ rfl (hf_z3 (HS.out.at_ 0 rfl) _ _ _) Try.underlying35 rfl (by kernel_rfl)) rfl ?_; exact ⟨_, rfl, Kd.R_mono (Kd.R_far (Kd.R_far (Kd.R_far HR.out (fun k hk => Nat.ne_of_gt (Nat.lt_of_lt_of_le HG.out hk)) _) (fun k hk => Nat.ne_of_gt (Nat.lt_of_lt_of_le HG.out hk)) _) (fun k hk => Nat.ne_of_gt (Nat.lt_of_lt_of_le HG.out hk)) _) (fun _ _ => trivial), ref04_below HS.out (List.mem_of_getElem? (i := 0) rfl) _ _ _⟩)
    · rw [if_neg c] at h
      simp only [Option.some.injEq, Prod.mk.injEq] at h; obtain ⟨rfl, rfl, rfl, rfl⟩ := h
      have cb : decide (a1_1 < a2_1) = false := decide_eq_false c; clear c
      have HT := Aside0.mk (ref04_truth false)
      go_enter Try.func15, Try.ntmps15
      go_upto_region 1 with (fail)
      generalize ((w.alloc (.cells #[.int .i64 a1_0, .int .i64 a1_1, .slice A1_2 l1_2.length c1_2] 35)).alloc (.cells #[.int .i64 a2_0, .int .i64 a2_1, .slice A2_2 l2_2.length c2_2] 35)).alloc (.cells #[.int .i64 0, .int .i64 0, .slice none 0 0] 35) = W at HS ⊢
      have x0 : W.cell? ⟨w.heap.size, 0, none⟩ = some (.int .i64 a1_0) := (blk_cell (HS.out.at_ 2 rfl) 0).trans rfl; have x1 : W.cell? ⟨w.heap.size, 1, none⟩ = some (.int .i64 a1_1) := (blk_cell (HS.out.at_ 2 rfl) 1).trans rfl; have x2 : W.cell? ⟨w.heap.size, 2, none⟩ = some (.slice A1_2 l1_2.length c1_2) := (blk_cell (HS.out.at_ 2 rfl) 2).trans rfl; have y0 : W.cell? ⟨w.heap.size + 1, 0, none⟩ = some (.int .i64 a2_0) := (blk_cell (HS.out.at_ 1 rfl) 0).trans rfl; have y1 : W.cell? ⟨w.heap.size + 1, 1, none⟩ = some (.int .i64 a2_1) := (blk_cell (HS.out.at_ 1 rfl) 1).trans rfl; have y2 : W.cell? ⟨w.heap.size + 1, 2, none⟩ = some (.slice A2_2 l2_2.length c2_2) := (blk_cell (HS.out.at_ 1 rfl) 2).trans rfl; have z0 : W.cell? ⟨w.heap.size + 1 + 1, 0, none⟩ = some (.int .i64 0) := (blk_cell (HS.out.at_ 0 rfl) 0).trans rfl; have z1 : W.cell? ⟨w.heap.size + 1 + 1, 1, none⟩ = some (.int .i64 0) := (blk_cell (HS.out.at_ 0 rfl) 1).trans rfl; have z2 : W.cell? ⟨w.heap.size + 1 + 1, 2, none⟩ = some (.slice none 0 0) := (blk_cell (HS.out.at_ 0 rfl) 2).trans rfl; have f0 := blk_frozen (HS.out.at_ 0 rfl) 0; have f1 := blk_frozen (HS.out.at_ 0 rfl) 1; have f2 := blk_frozen (HS.out.at_ 0 rfl) 2
      go_wp2_with (go_at_call 34; (with_reducible refine (triglyphref04_truth.calls _ _ _ _ _ HT.out).mono ?_); rintro e w1 ⟨v2, rfl, hR, hb⟩; have HR := Aside0.mk (Kd.R_lower (Kd.R_mono (Kd.R_bound hR) (fun k hk => (hk.2.1 : _ ≤ k))) HS.out.bel.size); have HG := Aside0.mk (blk_lt (HS.out.at_ 0 rfl)); clear hR; obtain ⟨Av, cv, hv⟩ := Kd.R_slice HR.out; subst hv; have HS := Aside0.mk (HS.out.step hb); clear hb; (try clear x0 x1 x2 y0 y1 y2 z0 z1 z2 f0 f1 f2); have x0 : w1.cell? ⟨w.heap.size, 0, none⟩ = some (.int .i64 a1_0) := (blk_cell (HS.out.at_ 2 rfl) 0).trans rfl; have x1 : w1.cell? ⟨w.heap.size, 1, none⟩ = some (.int .i64 a1_1) := (blk_cell (HS.out.at_ 2 rfl) 1).trans rfl; have x2 : w1.cell? ⟨w.heap.size, 2, none⟩ = some (.slice A1_2 l1_2.length c1_2) := (blk_cell (HS.out.at_ 2 rfl) 2).trans rfl; have y0 : w1.cell? ⟨w.heap.size + 1, 0, none⟩ = some (.int .i64 a2_0) := (blk_cell (HS.out.at_ 1 rfl) 0).trans rfl; have y1 : w1.cell? ⟨w.heap.size + 1, 1, none⟩ = some (.int .i64 a2_1) := (blk_cell (HS.out.at_ 1 rfl) 1).trans rfl; have y2 : w1.cell? ⟨w.heap.size + 1, 2, none⟩ = some (.slice A2_2 l2_2.length c2_2) := (blk_cell (HS.out.at_ 1 rfl) 2).trans rfl; have z0 : w1.cell? ⟨w.heap.size + 1 + 1, 0, none⟩ = some (.int .i64 0) := (blk_cell (HS.out.at_ 0 rfl) 0).trans rfl; have z1 : w1.cell? ⟨w.heap.size + 1 + 1, 1, none⟩ = some (.int .i64 0) := (blk_cell (HS.out.at_ 0 rfl) 1).trans rfl; have z2 : w1.cell? ⟨w.heap.size + 1 + 1, 2, none⟩ = some (.slice none 0 0) := (blk_cell (HS.out.at_ 0 rfl) 2).trans rfl; have f0 := blk_frozen (HS.out.at_ 0 rfl) 0; have f1 := blk_frozen (HS.out.at_ 0 rfl) 1; have f2 := blk_frozen (HS.out.at_ 0 rfl) 2)
      all_goals (refine bodyPost_ret (results_ct rfl _ _ (w.heap.size + 1 + 1) 35 #[.int .i64 0, .int .i64 (0), .slice Av 0 cv] (0, 0) _ rfl (hf_z3 (HS.out.at_ 0 rfl) _ _ _) Try.underlying35 rfl (by kernel_rfl)) rfl ?_; exact ⟨_, rfl, Kd.R_mono (Kd.R_far (Kd.R_far (Kd.R_far HR.out (fun k hk => Nat.ne_of_gt (Nat.lt_of_lt_of_le HG.out hk)) _) (fun k hk => Nat.ne_of_gt (Nat.lt_of_lt_of_le HG.out hk)) _) (fun k hk => Nat.ne_of_gt (Nat.lt_of_lt_of_le HG.out hk)) _) (fun _ _ => trivial), ref04_below HS.out (List.mem_of_getElem? (i := 0) rfl) _ _ _⟩)
  · skip
    iterate 7 rw [if_neg (by decide)] at h
    rw [if_pos rfl] at h
    by_cases c : a2_1 < a1_1
    · rw [if_pos c] at h
      simp only [Option.some.injEq, Prod.mk.injEq] at h; obtain ⟨rfl, rfl, rfl, rfl⟩ := h
      have cb : decide (a2_1 < a1_1) = true := decide_eq_true c; clear c
      have HT := Aside0.mk (ref04_truth true)
      go_enter Try.func15, Try.ntmps15
      go_upto_region 1 with (fail)
      generalize ((w.alloc (.cells #[.int .i64 a1_0, .int .i64 a1_1, .slice A1_2 l1_2.length c1_2] 35)).alloc (.cells #[.int .i64 a2_0, .int .i64 a2_1, .slice A2_2 l2_2.length c2_2] 35)).alloc (.cells #[.int .i64 0, .int .i64 0, .slice none 0 0] 35) = W at HS ⊢
      have x0 : W.cell? ⟨w.heap.size, 0, none⟩ = some (.int .i64 a1_0) := (blk_cell (HS.out.at_ 2 rfl) 0).trans rfl; have x1 : W.cell? ⟨w.heap.size, 1, none⟩ = some (.int .i64 a1_1) := (blk_cell (HS.out.at_ 2 rfl) 1).trans rfl; have x2 : W.cell? ⟨w.heap.size, 2, none⟩ = some (.slice A1_2 l1_2.length c1_2) := (blk_cell (HS.out.at_ 2 rfl) 2).trans rfl; have y0 : W.cell? ⟨w.heap.size + 1, 0, none⟩ = some (.int .i64 a2_0) := (blk_cell (HS.out.at_ 1 rfl) 0).trans rfl; have y1 : W.cell? ⟨w.heap.size + 1, 1, none⟩ = some (.int .i64 a2_1) := (blk_cell (HS.out.at_ 1 rfl) 1).trans rfl; have y2 : W.cell? ⟨w.heap.size + 1, 2, none⟩ = some (.slice A2_2 l2_2.length c2_2) := (blk_cell (HS.out.at_ 1 rfl) 2).trans rfl; have z0 : W.cell? ⟨w.heap.size + 1 + 1, 0, none⟩ = some (.int .i64 0) := (blk_cell (HS.out.at_ 0 rfl) 0).trans rfl; have z1 : W.cell? ⟨w.heap.size + 1 + 1, 1, none⟩ = some (.int .i64 0) := (blk_cell (HS.out.at_ 0 rfl) 1).trans rfl; have z2 : W.cell? ⟨w.heap.size + 1 + 1, 2, none⟩ = some (.slice none 0 0) := (blk_cell (HS.out.at_ 0 rfl) 2).trans rfl; have f0 := blk_frozen (HS.out.at_ 0 rfl) 0; have f1 := blk_frozen (HS.out.at_ 0 rfl) 1; have f2 := blk_frozen (HS.out.at_ 0 rfl) 2
      go_wp2_with (go_at_call 34; (with_reducible refine (triglyphref04_truth.calls _ _ _ _ _ HT.out).mono ?_); rintro e w1 ⟨v2, rfl, hR, hb⟩; have HR := Aside0.mk (Kd.R_lower (Kd.R_mono (Kd.R_bound hR) (fun k hk => (hk.2.1 : _ ≤ k))) HS.out.bel.size); have HG := Aside0.mk (blk_lt (HS.out.at_ 0 rfl)); clear hR; obtain ⟨Av, cv, hv⟩ := Kd.R_slice HR.out; subst hv; have HS := Aside0.mk (HS.out.step hb); clear hb; (try clear x0 x1 x2 y0 y1 y2 z0 z1 z2 f0 f1 f2); have x0 : w1.cell? ⟨w.heap.size, 0, none⟩ = some (.int .i64 a1_0) := (blk_cell (HS.out.at_ 2 rfl) 0).trans rfl; have x1 : w1.cell? ⟨w.heap.size, 1, none⟩ = some (.int .i64 a1_1) := (blk_cell (HS.out.at_ 2 rfl) 1).trans rfl; have x2 : w1.cell? ⟨w.heap.size, 2, none⟩ = some (.slice A1_2 l1_2.length c1_2) := (blk_cell (HS.out.at_ 2 rfl) 2).trans rfl; have y0 : w1.cell? ⟨w.heap.size + 1, 0, none⟩ = some (.int .i64 a2_0) := (blk_cell (HS.out.at_ 1 rfl) 0).trans rfl; have y1 : w1.cell? ⟨w.heap.size + 1, 1, none⟩ = some (.int .i64 a2_1) := (blk_cell (HS.out.at_ 1 rfl) 1).trans rfl; have y2 : w1.cell? ⟨w.heap.size + 1, 2, none⟩ = some (.slice A2_2 l2_2.length c2_2) := (blk_cell (HS.out.at_ 1 rfl) 2).trans rfl; have z0 : w1.cell? ⟨w.heap.size + 1 + 1, 0, none⟩ = some (.int .i64 0) := (blk_cell (HS.out.at_ 0 rfl) 0).trans rfl; have z1 : w1.cell? ⟨w.heap.size + 1 + 1, 1, none⟩ = some (.int .i64 0) := (blk_cell (HS.out.at_ 0 rfl) 1).trans rfl; have z2 : w1.cell? ⟨w.heap.size + 1 + 1, 2, none⟩ = some (.slice none 0 0) := (blk_cell (HS.out.at_ 0 rfl) 2).trans rfl; have f0 := blk_frozen (HS.out.at_ 0 rfl) 0; have f1 := blk_frozen (HS.out.at_ 0 rfl) 1; have f2 := blk_frozen (HS.out.at_ 0 rfl) 2)
      all_goals (refine bodyPost_ret (results_ct rfl _ _ (w.heap.size + 1 + 1) 35 #[.int .i64 0, .int .i64 (1), .slice Av 0 cv] (0, 0) _ rfl (hf_z3 (HS.out.at_ 0 rfl) _ _ _) Try.underlying35 rfl (by kernel_rfl)) rfl ?_; exact ⟨_, rfl, Kd.R_mono (Kd.R_far (Kd.R_far (Kd.R_far HR.out (fun k hk => Nat.ne_of_gt (Nat.lt_of_lt_of_le HG.out hk)) _) (fun k hk => Nat.ne_of_gt (Nat.lt_of_lt_of_le HG.out hk)) _) (fun k hk => Nat.ne_of_gt (Nat.lt_of_lt_of_le HG.out hk)) _) (fun _ _ => trivial), ref04_below HS.out (List.mem_of_getElem? (i := 0) rfl) _ _ _⟩)
    · rw [if_neg c] at h
      simp only [Option.some.injEq, Prod.mk.injEq] at h; obtain ⟨rfl, rfl, rfl, rfl⟩ := h
      have cb : decide (a2_1 < a1_1) = false := decide_eq_false c; clear c
      have HT := Aside0.mk (ref04_truth false)
      go_enter Try.func15, Try.ntmps15
      go_upto_region 1 with (fail)
      generalize ((w.alloc (.cells #[.int .i64 a1_0, .int .i64 a1_1, .slice A1_2 l1_2.length c1_2] 35)).alloc (.cells #[.int .i64 a2_0, .int .i64 a2_1, .slice A2_2 l2_2.length c2_2] 35)).alloc (.cells #[.int .i64 0, .int .i64 0, .slice none 0 0] 35) = W at HS ⊢
      have x0 : W.cell? ⟨w.heap.size, 0, none⟩ = some (.int .i64 a1_0) := (blk_cell (HS.out.at_ 2 rfl) 0).trans rfl; have x1 : W.cell? ⟨w.heap.size, 1, none⟩ = some (.int .i64 a1_1) := (blk_cell (HS.out.at_ 2 rfl) 1).trans rfl; have x2 : W.cell? ⟨w.heap.size, 2, none⟩ = some (.slice A1_2 l1_2.length c1_2) := (blk_cell (HS.out.at_ 2 rfl) 2).trans rfl; have y0 : W.cell? ⟨w.heap.size + 1, 0, none⟩ = some (.int .i64 a2_0) := (blk_cell (HS.out.at_ 1 rfl) 0).trans rfl; have y1 : W.cell? ⟨w.heap.size + 1, 1, none⟩ = some (.int .i64 a2_1) := (blk_cell (HS.out.at_ 1 rfl) 1).trans rfl; have y2 : W.cell? ⟨w.heap.size + 1, 2, none⟩ = some (.slice A2_2 l2_2.length c2_2) := (blk_cell (HS.out.at_ 1 rfl) 2).trans rfl; have z0 : W.cell? ⟨w.heap.size + 1 + 1, 0, none⟩ = some (.int .i64 0) := (blk_cell (HS.out.at_ 0 rfl) 0).trans rfl; have z1 : W.cell? ⟨w.heap.size + 1 + 1, 1, none⟩ = some (.int .i64 0) := (blk_cell (HS.out.at_ 0 rfl) 1).trans rfl; have z2 : W.cell? ⟨w.heap.size + 1 + 1, 2, none⟩ = some (.slice none 0 0) := (blk_cell (HS.out.at_ 0 rfl) 2).trans rfl; have f0 := blk_frozen (HS.out.at_ 0 rfl) 0; have f1 := blk_frozen (HS.out.at_ 0 rfl) 1; have f2 := blk_frozen (HS.out.at_ 0 rfl) 2
      go_wp2_with (go_at_call 34; (with_reducible refine (triglyphref04_truth.calls _ _ _ _ _ HT.out).mono ?_); rintro e w1 ⟨v2, rfl, hR, hb⟩; have HR := Aside0.mk (Kd.R_lower (Kd.R_mono (Kd.R_bound hR) (fun k hk => (hk.2.1 : _ ≤ k))) HS.out.bel.size); have HG := Aside0.mk (blk_lt (HS.out.at_ 0 rfl)); clear hR; obtain ⟨Av, cv, hv⟩ := Kd.R_slice HR.out; subst hv; have HS := Aside0.mk (HS.out.step hb); clear hb; (try clear x0 x1 x2 y0 y1 y2 z0 z1 z2 f0 f1 f2); have x0 : w1.cell? ⟨w.heap.size, 0, none⟩ = some (.int .i64 a1_0) := (blk_cell (HS.out.at_ 2 rfl) 0).trans rfl; have x1 : w1.cell? ⟨w.heap.size, 1, none⟩ = some (.int .i64 a1_1) := (blk_cell (HS.out.at_ 2 rfl) 1).trans rfl; have x2 : w1.cell? ⟨w.heap.size, 2, none⟩ = some (.slice A1_2 l1_2.length c1_2) := (blk_cell (HS.out.at_ 2 rfl) 2).trans rfl; have y0 : w1.cell? ⟨w.heap.size + 1, 0, none⟩ = some (.int .i64 a2_0) := (blk_cell (HS.out.at_ 1 rfl) 0).trans rfl; have y1 : w1.cell? ⟨w.heap.size + 1, 1, none⟩ = some (.int .i64 a2_1) := (blk_cell (HS.out.at_ 1 rfl) 1).trans rfl; have y2 : w1.cell? ⟨w.heap.size + 1, 2, none⟩ = some (.slice A2_2 l2_2.length c2_2) := (blk_cell (HS.out.at_ 1 rfl) 2).trans rfl; have z0 : w1.cell? ⟨w.heap.size + 1 + 1, 0, none⟩ = some (.int .i64 0) := (blk_cell (HS.out.at_ 0 rfl) 0).trans rfl; have z1 : w1.cell? ⟨w.heap.size + 1 + 1, 1, none⟩ = some (.int .i64 0) := (blk_cell (HS.out.at_ 0 rfl) 1).trans rfl; have z2 : w1.cell? ⟨w.heap.size + 1 + 1, 2, none⟩ = some (.slice none 0 0) := (blk_cell (HS.out.at_ 0 rfl) 2).trans rfl; have f0 := blk_frozen (HS.out.at_ 0 rfl) 0; have f1 := blk_frozen (HS.out.at_ 0 rfl) 1; have f2 := blk_frozen (HS.out.at_ 0 rfl) 2)
      all_goals (refine bodyPost_ret (results_ct rfl _ _ (w.heap.size + 1 + 1) 35 #[.int .i64 0, .int .i64 (0), .slice Av 0 cv] (0, 0) _ rfl (hf_z3 (HS.out.at_ 0 rfl) _ _ _) Try.underlying35 rfl (by kernel_rfl)) rfl ?_; exact ⟨_, rfl, Kd.R_mono (Kd.R_far (Kd.R_far (Kd.R_far HR.out (fun k hk => Nat.ne_of_gt (Nat.lt_of_lt_of_le HG.out hk)) _) (fun k hk => Nat.ne_of_gt (Nat.lt_of_lt_of_le HG.out hk)) _) (fun k hk => Nat.ne_of_gt (Nat.lt_of_lt_of_le HG.out hk)) _) (fun _ _ => trivial), ref04_below HS.out (List.mem_of_getElem? (i := 0) rfl) _ _ _⟩)
  · skip
    iterate 8 rw [if_neg (by decide)] at h
    rw [if_pos rfl] at h
    by_cases c : a2_1 < a1_1
    · rw [if_pos c] at h
      simp only [Option.some.injEq, Prod.mk.injEq] at h; obtain ⟨rfl, rfl, rfl, rfl⟩ := h
      have cb : decide (a2_1 < a1_1) = true := decide_eq_true c; clear c
      have HT := Aside0.mk (ref04_truth false)
      go_enter Try.func15, Try.ntmps15
      go_upto_region 1 with (fail)
      generalize ((w.alloc (.cells #[.int .i64 a1_0, .int .i64 a1_1, .slice A1_2 l1_2.length c1_2] 35)).alloc (.cells #[.int .i64 a2_0, .int .i64 a2_1, .slice A2_2 l2_2.length c2_2] 35)).alloc (.cells #[.int .i64 0, .int .i64 0, .slice none 0 0] 35) = W at HS ⊢
      have x0 : W.cell? ⟨w.heap.size, 0, none⟩ = some (.int .i64 a1_0) := (blk_cell (HS.out.at_ 2 rfl) 0).trans rfl; have x1 : W.cell? ⟨w.heap.size, 1, none⟩ = some (.int .i64 a1_1) := (blk_cell (HS.out.at_ 2 rfl) 1).trans rfl; have x2 : W.cell? ⟨w.heap.size, 2, none⟩ = some (.slice A1_2 l1_2.length c1_2) := (blk_cell (HS.out.at_ 2 rfl) 2).trans rfl; have y0 : W.cell? ⟨w.heap.size + 1, 0, none⟩ = some (.int .i64 a2_0) := (blk_cell (HS.out.at_ 1 rfl) 0).trans rfl; have y1 : W.cell? ⟨w.heap.size + 1, 1, none⟩ = some (.int .i64 a2_1) := (blk_cell (HS.out.at_ 1 rfl) 1).trans rfl; have y2 : W.cell? ⟨w.heap.size + 1, 2, none⟩ = some (.slice A2_2 l2_2.length c2_2) := (blk_cell (HS.out.at_ 1 rfl) 2).trans rfl; have z0 : W.cell? ⟨w.heap.size + 1 + 1, 0, none⟩ = some (.int .i64 0) := (blk_cell (HS.out.at_ 0 rfl) 0).trans rfl; have z1 : W.cell? ⟨w.heap.size + 1 + 1, 1, none⟩ = some (.int .i64 0) := (blk_cell (HS.out.at_ 0 rfl) 1).trans rfl; have z2 : W.cell? ⟨w.heap.size + 1 + 1, 2, none⟩ = some (.slice none 0 0) := (blk_cell (HS.out.at_ 0 rfl) 2).trans rfl; have f0 := blk_frozen (HS.out.at_ 0 rfl) 0; have f1 := blk_frozen (HS.out.at_ 0 rfl) 1; have f2 := blk_frozen (HS.out.at_ 0 rfl) 2
      go_wp2_with (go_at_call 34; (with_reducible refine (triglyphref04_truth.calls _ _ _ _ _ HT.out).mono ?_); rintro e w1 ⟨v2, rfl, hR, hb⟩; have HR := Aside0.mk (Kd.R_lower (Kd.R_mono (Kd.R_bound hR) (fun k hk => (hk.2.1 : _ ≤ k))) HS.out.bel.size); have HG := Aside0.mk (blk_lt (HS.out.at_ 0 rfl)); clear hR; obtain ⟨Av, cv, hv⟩ := Kd.R_slice HR.out; subst hv; have HS := Aside0.mk (HS.out.step hb); clear hb; (try clear x0 x1 x2 y0 y1 y2 z0 z1 z2 f0 f1 f2); have x0 : w1.cell? ⟨w.heap.size, 0, none⟩ = some (.int .i64 a1_0) := (blk_cell (HS.out.at_ 2 rfl) 0).trans rfl; have x1 : w1.cell? ⟨w.heap.size, 1, none⟩ = some (.int .i64 a1_1) := (blk_cell (HS.out.at_ 2 rfl) 1).trans rfl; have x2 : w1.cell? ⟨w.heap.size, 2, none⟩ = some (.slice A1_2 l1_2.length c1_2) := (blk_cell (HS.out.at_ 2 rfl) 2).trans rfl; have y0 : w1.cell? ⟨w.heap.size + 1, 0, none⟩ = some (.int .i64 a2_0) := (blk_cell (HS.out.at_ 1 rfl) 0).trans rfl; have y1 : w1.cell? ⟨w.heap.size + 1, 1, none⟩ = some (.int .i64 a2_1) := (blk_cell (HS.out.at_ 1 rfl) 1).trans rfl; have y2 : w1.cell? ⟨w.heap.size + 1, 2, none⟩ = some (.slice A2_2 l2_2.length c2_2) := (blk_cell (HS.out.at_ 1 rfl) 2).trans rfl; have z0 : w1.cell? ⟨w.heap.size + 1 + 1, 0, none⟩ = some (.int .i64 0) := (blk_cell (HS.out.at_ 0 rfl) 0).trans rfl; have z1 : w1.cell? ⟨w.heap.size + 1 + 1, 1, none⟩ = some (.int .i64 0) := (blk_cell (HS.out.at_ 0 rfl) 1).trans rfl; have z2 : w1.cell? ⟨w.heap.size + 1 + 1, 2, none⟩ = some (.slice none 0 0) := (blk_cell (HS.out.at_ 0 rfl) 2).trans rfl; have f0 := blk_frozen (HS.out.at_ 0 rfl) 0; have f1 := blk_frozen (HS.out.at_ 0 rfl) 1; have f2 := blk_frozen (HS.out.at_ 0 rfl) 2)
      all_goals (refine bodyPost_ret (results_ct rfl _ _ (w.heap.size + 1 + 1) 35 #[.int .i64 0, .int .i64 (0), .slice Av 0 cv] (0, 0) _ rfl (hf_z3 (HS.out.at_ 0 rfl) _ _ _) Try.underlying35 rfl (by kernel_rfl)) rfl ?_; exact ⟨_, rfl, Kd.R_mono (Kd.R_far (Kd.R_far (Kd.R_far HR.out (fun k hk => Nat.ne_of_gt (Nat.lt_of_lt_of_le HG.out hk)) _) (fun k hk => Nat.ne_of_gt (Nat.lt_of_lt_of_le HG.out hk)) _) (fun k hk => Nat.ne_of_gt (Nat.lt_of_lt_of_le HG.out hk)) _) (fun _ _ => trivial), ref04_below HS.out (List.mem_of_getElem? (i := 0) rfl) _ _ _⟩)
    · rw [if_neg c] at h
      simp only [Option.some.injEq, Prod.mk.injEq] at h; obtain ⟨rfl, rfl, rfl, rfl⟩ := h
      have cb : decide (a2_1 < a1_1) = false := decide_eq_false c; clear c
      have HT := Aside0.mk (ref04_truth true)
      go_enter Try.func15, Try.ntmps15
      go_upto_region 1 with (fail)
      generalize ((w.alloc (.cells #[.int .i64 a1_0, .int .i64 a1_1, .slice A1_2 l1_2.length c1_2] 35)).alloc (.cells #[.int .i64 a2_0, .int .i64 a2_1, .slice A2_2 l2_2.length c2_2] 35)).alloc (.cells #[.int .i64 0, .int .i64 0, .slice none 0 0] 35) = W at HS ⊢
      have x0 : W.cell? ⟨w.heap.size, 0, none⟩ = some (.int .i64 a1_0) := (blk_cell (HS.out.at_ 2 rfl) 0).trans rfl; have x1 : W.cell? ⟨w.heap.size, 1, none⟩ = some (.int .i64 a1_1) := (blk_cell (HS.out.at_ 2 rfl) 1).trans rfl; have x2 : W.cell? ⟨w.heap.size, 2, none⟩ = some (.slice A1_2 l1_2.length c1_2) := (blk_cell (HS.out.at_ 2 rfl) 2).trans rfl; have y0 : W.cell? ⟨w.heap.size + 1, 0, none⟩ = some (.int .i64 a2_0) := (blk_cell (HS.out.at_ 1 rfl) 0).trans rfl; have y1 : W.cell? ⟨w.heap.size + 1, 1, none⟩ = some (.int .i64 a2_1) := (blk_cell (HS.out.at_ 1 rfl) 1).trans rfl; have y2 : W.cell? ⟨w.heap.size + 1, 2, none⟩ = some (.slice A2_2 l2_2.length c2_2) := (blk_cell (HS.out.at_ 1 rfl) 2).trans rfl; have z0 : W.cell? ⟨w.heap.size + 1 + 1, 0, none⟩ = some (.int .i64 0) := (blk_cell (HS.out.at_ 0 rfl) 0).trans rfl; have z1 : W.cell? ⟨w.heap.size + 1 + 1, 1, none⟩ = some (.int .i64 0) := (blk_cell (HS.out.at_ 0 rfl) 1).trans rfl; have z2 : W.cell? ⟨w.heap.size + 1 + 1, 2, none⟩ = some (.slice none 0 0) := (blk_cell (HS.out.at_ 0 rfl) 2).trans rfl; have f0 := blk_frozen (HS.out.at_ 0 rfl) 0; have f1 := blk_frozen (HS.out.at_ 0 rfl) 1; have f2 := blk_frozen (HS.out.at_ 0 rfl) 2
      go_wp2_with (go_at_call 34; (with_reducible refine (triglyphref04_truth.calls _ _ _ _ _ HT.out).mono ?_); rintro e w1 ⟨v2, rfl, hR, hb⟩; have HR := Aside0.mk (Kd.R_lower (Kd.R_mono (Kd.R_bound hR) (fun k hk => (hk.2.1 : _ ≤ k))) HS.out.bel.size); have HG := Aside0.mk (blk_lt (HS.out.at_ 0 rfl)); clear hR; obtain ⟨Av, cv, hv⟩ := Kd.R_slice HR.out; subst hv; have HS := Aside0.mk (HS.out.step hb); clear hb; (try clear x0 x1 x2 y0 y1 y2 z0 z1 z2 f0 f1 f2); have x0 : w1.cell? ⟨w.heap.size, 0, none⟩ = some (.int .i64 a1_0) := (blk_cell (HS.out.at_ 2 rfl) 0).trans rfl; have x1 : w1.cell? ⟨w.heap.size, 1, none⟩ = some (.int .i64 a1_1) := (blk_cell (HS.out.at_ 2 rfl) 1).trans rfl; have x2 : w1.cell? ⟨w.heap.size, 2, none⟩ = some (.slice A1_2 l1_2.length c1_2) := (blk_cell (HS.out.at_ 2 rfl) 2).trans rfl; have y0 : w1.cell? ⟨w.heap.size + 1, 0, none⟩ = some (.int .i64 a2_0) := (blk_cell (HS.out.at_ 1 rfl) 0).trans rfl; have y1 : w1.cell? ⟨w.heap.size + 1, 1, none⟩ = some (.int .i64 a2_1) := (blk_cell (HS.out.at_ 1 rfl) 1).trans rfl; have y2 : w1.cell? ⟨w.heap.size + 1, 2, none⟩ = some (.slice A2_2 l2_2.length c2_2) := (blk_cell (HS.out.at_ 1 rfl) 2).trans rfl; have z0 : w1.cell? ⟨w.heap.size + 1 + 1, 0, none⟩ = some (.int .i64 0) := (blk_cell (HS.out.at_ 0 rfl) 0).trans rfl; have z1 : w1.cell? ⟨w.heap.size + 1 + 1, 1, none⟩ = some (.int .i64 0) := (blk_cell (HS.out.at_ 0 rfl) 1).trans rfl; have z2 : w1.cell? ⟨w.heap.size + 1 + 1, 2, none⟩ = some (.slice none 0 0) := (blk_cell (HS.out.at_ 0 rfl) 2).trans rfl; have f0 := blk_frozen (HS.out.at_ 0 rfl) 0; have f1 := blk_frozen (HS.out.at_ 0 rfl) 1; have f2 := blk_frozen (HS.out.at_ 0 rfl) 2)
      all_goals (refine bodyPost_ret (results_ct rfl _ _ (w.heap.size + 1 + 1) 35 #[.int .i64 0, .int .i64 (1), .slice Av 0 cv] (0, 0) _ rfl (hf_z3 (HS.out.at_ 0 rfl) _ _ _) Try.underlying35 rfl (by kernel_rfl)) rfl ?_; exact ⟨_, rfl, Kd.R_mono (Kd.R_far (Kd.R_far (Kd.R_far HR.out (fun k hk => Nat.ne_of_gt (Nat.lt_of_lt_of_le HG.out hk)) _) (fun k hk => Nat.ne_of_gt (Nat.lt_of_lt_of_le HG.out hk)) _) (fun k hk => Nat.ne_of_gt (Nat.lt_of_lt_of_le HG.out hk)) _) (fun _ _ => trivial), ref04_below HS.out (List.mem_of_getElem? (i := 0) rfl) _ _ _⟩)
  · skip
    iterate 9 rw [if_neg (by decide)] at h
    by_cases c : a1_1 < a2_1
    · rw [if_pos c] at h
      simp only [Option.some.injEq, Prod.mk.injEq] at h; obtain ⟨rfl, rfl, rfl, rfl⟩ := h
      have cb : decide (a1_1 < a2_1) = true := decide_eq_true c; clear c
      have HT := Aside0.mk (ref04_truth false)
      go_enter Try.func15, Try.ntmps15
      go_upto_region 1 with (fail)
      generalize ((w.alloc (.cells #[.int .i64 a1_0, .int .i64 a1_1, .slice A1_2 l1_2.length c1_2] 35)).alloc (.cells #[.int .i64 a2_0, .int .i64 a2_1, .slice A2_2 l2_2.length c2_2] 35)).alloc (.cells #[.int .i64 0, .int .i64 0, .slice none 0 0] 35) = W at HS ⊢
      have x0 : W.cell? ⟨w.heap.size, 0, none⟩ = some (.int .i64 a1_0) := (blk_cell (HS.out.at_ 2 rfl) 0).trans rfl; have x1 : W.cell? ⟨w.heap.size, 1, none⟩ = some (.int .i64 a1_1) := (blk_cell (HS.out.at_ 2 rfl) 1).trans rfl; have x2 : W.cell? ⟨w.heap.size, 2, none⟩ = some (.slice A1_2 l1_2.length c1_2) := (blk_cell (HS.out.at_ 2 rfl) 2).trans rfl; have y0 : W.cell? ⟨w.heap.size + 1, 0, none⟩ = some (.int .i64 a2_0) := (blk_cell (HS.out.at_ 1 rfl) 0).trans rfl; have y1 : W.cell? ⟨w.heap.size + 1, 1, none⟩ = some (.int .i64 a2_1) := (blk_cell (HS.out.at_ 1 rfl) 1).trans rfl; have y2 : W.cell? ⟨w.heap.size + 1, 2, none⟩ = some (.slice A2_2 l2_2.length c2_2) := (blk_cell (HS.out.at_ 1 rfl) 2).trans rfl; have z0 : W.cell? ⟨w.heap.size + 1 + 1, 0, none⟩ = some (.int .i64 0) := (blk_cell (HS.out.at_ 0 rfl) 0).trans rfl; have z1 : W.cell? ⟨w.heap.size + 1 + 1, 1, none⟩ = some (.int .i64 0) := (blk_cell (HS.out.at_ 0 rfl) 1).trans rfl; have z2 : W.cell? ⟨w.heap.size + 1 + 1, 2, none⟩ = some (.slice none 0 0) := (blk_cell (HS.out.at_ 0 rfl) 2).trans rfl; have f0 := blk_frozen (HS.out.at_ 0 rfl) 0; have f1 := blk_frozen (HS.out.at_ 0 rfl) 1; have f2 := blk_frozen (HS.out.at_ 0 rfl) 2
      go_wp2_with (go_at_call 34; (with_reducible refine (triglyphref04_truth.calls _ _ _ _ _ HT.out).mono ?_); rintro e w1 ⟨v2, rfl, hR, hb⟩; have HR := Aside0.mk (Kd.R_lower (Kd.R_mono (Kd.R_bound hR) (fun k hk => (hk.2.1 : _ ≤ k))) HS.out.bel.size); have HG := Aside0.mk (blk_lt (HS.out.at_ 0 rfl)); clear hR; obtain ⟨Av, cv, hv⟩ := Kd.R_slice HR.out; subst hv; have HS := Aside0.mk (HS.out.step hb); clear hb; (try clear x0 x1 x2 y0 y1 y2 z0 z1 z2 f0 f1 f2); have x0 : w1.cell? ⟨w.heap.size, 0, none⟩ = some (.int .i64 a1_0) := (blk_cell (HS.out.at_ 2 rfl) 0).trans rfl; have x1 : w1.cell? ⟨w.heap.size, 1, none⟩ = some (.int .i64 a1_1) := (blk_cell (HS.out.at_ 2 rfl) 1).trans rfl; have x2 : w1.cell? ⟨w.heap.size, 2, none⟩ = some (.slice A1_2 l1_2.length c1_2) := (blk_cell (HS.out.at_ 2 rfl) 2).trans rfl; have y0 : w1.cell? ⟨w.heap.size + 1, 0, none⟩ = some (.int .i64 a2_0) := (blk_cell (HS.out.at_ 1 rfl) 0).trans rfl; have y1 : w1.cell? ⟨w.heap.size + 1, 1, none⟩ = some (.int .i64 a2_1) := (blk_cell (HS.out.at_ 1 rfl) 1).trans rfl; have y2 : w1.cell? ⟨w.heap.size + 1, 2, none⟩ = some (.slice A2_2 l2_2.length c2_2) := (blk_cell (HS.out.at_ 1 rfl) 2).trans rfl; have z0 : w1.cell? ⟨w.heap.size + 1 + 1, 0, none⟩ = some (.int .i64 0) := (blk_cell (HS.out.at_ 0 rfl) 0).trans rfl; have z1 : w1.cell? ⟨w.heap.size + 1 + 1, 1, none⟩ = some (.int .i64 0) := (blk_cell (HS.out.at_ 0 rfl) 1).trans rfl; have z2 : w1.cell? ⟨w.heap.size + 1 + 1, 2, none⟩ = some (.slice none 0 0) := (blk_cell (HS.out.at_ 0 rfl) 2).trans rfl; have f0 := blk_frozen (HS.out.at_ 0 rfl) 0; have f1 := blk_frozen (HS.out.at_ 0 rfl) 1; have f2 := blk_frozen (HS.out.at_ 0 rfl) 2)
      all_goals (refine bodyPost_ret (results_ct rfl _ _ (w.heap.size + 1 + 1) 35 #[.int .i64 0, .int .i64 (0), .slice Av 0 cv] (0, 0) _ rfl (hf_z3 (HS.out.at_ 0 rfl) _ _ _) Try.underlying35 rfl (by kernel_rfl)) rfl ?_; exact ⟨_, rfl, Kd.R_mono (Kd.R_far (Kd.R_far (Kd.R_far HR.out (fun k hk => Nat.ne_of_gt (Nat.lt_of_lt_of_le HG.out hk)) _) (fun k hk => Nat.ne_of_gt (Nat.lt_of_lt_of_le HG.out hk)) _) (fun k hk => Nat.ne_of_gt (Nat.lt_of_lt_of_le HG.out hk)) _) (fun _ _ => trivial), ref04_below HS.out (List.mem_of_getElem? (i := 0) rfl) _ _ _⟩)
    · rw [if_neg c] at h
      simp only [Option.some.injEq, Prod.mk.injEq] at h; obtain ⟨rfl, rfl, rfl, rfl⟩ := h
      have cb : decide (a1_1 < a2_1) = false := decide_eq_false c; clear c
      have HT := Aside0.mk (ref04_truth true)
      go_enter Try.func15, Try.ntmps15
      go_upto_region 1 with (fail)
      generalize ((w.alloc (.cells #[.int .i64 a1_0, .int .i64 a1_1, .slice A1_2 l1_2.length c1_2] 35)).alloc (.cells #[.int .i64 a2_0, .int .i64 a2_1, .slice A2_2 l2_2.length c2_2] 35)).alloc (.cells #[.int .i64 0, .int .i64 0, .slice none 0 0] 35) = W at HS ⊢
      have x0 : W.cell? ⟨w.heap.size, 0, none⟩ = some (.int .i64 a1_0) := (blk_cell (HS.out.at_ 2 rfl) 0).trans rfl; have x1 : W.cell? ⟨w.heap.size, 1, none⟩ = some (.int .i64 a1_1) := (blk_cell (HS.out.at_ 2 rfl) 1).trans rfl; have x2 : W.cell? ⟨w.heap.size, 2, none⟩ = some (.slice A1_2 l1_2.length c1_2) := (blk_cell (HS.out.at_ 2 rfl) 2).trans rfl; have y0 : W.cell? ⟨w.heap.size + 1, 0, none⟩ = some (.int .i64 a2_0) := (blk_cell (HS.out.at_ 1 rfl) 0).trans rfl; have y1 : W.cell? ⟨w.heap.size + 1, 1, none⟩ = some (.int .i64 a2_1) := (blk_cell (HS.out.at_ 1 rfl) 1).trans rfl; have y2 : W.cell? ⟨w.heap.size + 1, 2, none⟩ = some (.slice A2_2 l2_2.length c2_2) := (blk_cell (HS.out.at_ 1 rfl) 2).trans rfl; have z0 : W.cell? ⟨w.heap.size + 1 + 1, 0, none⟩ = some (.int .i64 0) := (blk_cell (HS.out.at_ 0 rfl) 0).trans rfl; have z1 : W.cell? ⟨w.heap.size + 1 + 1, 1, none⟩ = some (.int .i64 0) := (blk_cell (HS.out.at_ 0 rfl) 1).trans rfl; have z2 : W.cell? ⟨w.heap.size + 1 + 1, 2, none⟩ = some (.slice none 0 0) := (blk_cell (HS.out.at_ 0 rfl) 2).trans rfl; have f0 := blk_frozen (HS.out.at_ 0 rfl) 0; have f1 := blk_frozen (HS.out.at_ 0 rfl) 1; have f2 := blk_frozen (HS.out.at_ 0 rfl) 2
      go_wp2_with (go_at_call 34; (with_reducible refine (triglyphref04_truth.calls _ _ _ _ _ HT.out).mono ?_); rintro e w1 ⟨v2, rfl, hR, hb⟩; have HR := Aside0.mk (Kd.R_lower (Kd.R_mono (Kd.R_bound hR) (fun k hk => (hk.2.1 : _ ≤ k))) HS.out.bel.size); have HG := Aside0.mk (blk_lt (HS.out.at_ 0 rfl)); clear hR; obtain ⟨Av, cv, hv⟩ := Kd.R_slice HR.out; subst hv; have HS := Aside0.mk (HS.out.step hb); clear hb; (try clear x0 x1 x2 y0 y1 y2 z0 z1 z2 f0 f1 f2); have x0 : w1.cell? ⟨w.heap.size, 0, none⟩ = some (.int .i64 a1_0) := (blk_cell (HS.out.at_ 2 rfl) 0).trans rfl; have x1 : w1.cell? ⟨w.heap.size, 1, none⟩ = some (.int .i64 a1_1) := (blk_cell (HS.out.at_ 2 rfl) 1).trans rfl; have x2 : w1.cell? ⟨w.heap.size, 2, none⟩ = some (.slice A1_2 l1_2.length c1_2) := (blk_cell (HS.out.at_ 2 rfl) 2).trans rfl; have y0 : w1.cell? ⟨w.heap.size + 1, 0, none⟩ = some (.int .i64 a2_0) := (blk_cell (HS.out.at_ 1 rfl) 0).trans rfl; have y1 : w1.cell? ⟨w.heap.size + 1, 1, none⟩ = some (.int .i64 a2_1) := (blk_cell (HS.out.at_ 1 rfl) 1).trans rfl; have y2 : w1.cell? ⟨w.heap.size + 1, 2, none⟩ = some (.slice A2_2 l2_2.length c2_2) := (blk_cell (HS.out.at_ 1 rfl) 2).trans rfl; have z0 : w1.cell? ⟨w.heap.size + 1 + 1, 0, none⟩ = some (.int .i64 0) := (blk_cell (HS.out.at_ 0 rfl) 0).trans rfl; have z1 : w1.cell? ⟨w.heap.size + 1 + 1, 1, none⟩ = some (.int .i64 0) := (blk_cell (HS.out.at_ 0 rfl) 1).trans rfl; have z2 : w1.cell? ⟨w.heap.size + 1 + 1, 2, none⟩ = some (.slice none 0 0) := (blk_cell (HS.out.at_ 0 rfl) 2).trans rfl; have f0 := blk_frozen (HS.out.at_ 0 rfl) 0; have f1 := blk_frozen (HS.out.at_ 0 rfl) 1; have f2 := blk_frozen (HS.out.at_ 0 rfl) 2)
      all_goals (refine bodyPost_ret (results_ct rfl _ _ (w.heap.size + 1 + 1) 35 #[.int .i64 0, .int .i64 (1), .slice Av 0 cv] (0, 0) _ rfl (hf_z3 (HS.out.at_ 0 rfl) _ _ _) Try.underlying35 rfl (by kernel_rfl)) rfl ?_; exact ⟨_, rfl, Kd.R_mono (Kd.R_far (Kd.R_far (Kd.R_far HR.out (fun k hk => Nat.ne_of_gt (Nat.lt_of_lt_of_le HG.out hk)) _) (fun k hk => Nat.ne_of_gt (Nat.lt_of_lt_of_le HG.out hk)) _) (fun k hk => Nat.ne_of_gt (Nat.lt_of_lt_of_le HG.out hk)) _) (fun _ _ => trivial), ref04_below HS.out (List.mem_of_getElem? (i := 0) rfl) _ _ _⟩)
def triglyphref03_Ints.l0 : Nat → List Int → List Int → Int → Option (Bool)
  | 0, _, _, _ => none
  | k + 1, x0, x1, x5 => if x5 < (x0.length : Int) then (if 0 ≤ x5 then (if x5 < (x1.length : Int) then (if (rd x0 x5) = (rd x1 x5) then (triglyphref03_Ints.l0 k x0 x1 (wrap64 (x5 + 1))) else (some false)) else (none)) else (none)) else (some true)
def triglyphref03_Ints.f (k : Nat) (l0 : List Int) (l1 : List Int) : Option (Bool) := if (l0.length : Int) = (l1.length : Int) then (triglyphref03_Ints.l0 k l0 l1 0) else (some false)
theorem triglyphref03_Ints.mono_l : ∀ k, (∀ y0 y1 y2, LeO (triglyphref03_Ints.l0 k y0 y1 y2) (triglyphref03_Ints.l0 (k + 1) y0 y1 y2))
  | 0 => fun _ _ _ r h => by simp [triglyphref03_Ints.l0] at h
  | k + 1 => by
    have ih0 := triglyphref03_Ints.mono_l k
    · intro y0 y1 y2
      unfold triglyphref03_Ints.l0
      repeat' first
      | (with_reducible exact ih0 _ _ _)
      | (with_reducible exact LeO.refl _)
      | (with_reducible exact LeO.none _)
      | (with_reducible refine LeO.ite ?_ ?_)
      | (with_reducible refine LeO.bind ?_ (fun _ => ?_))
      | exact ih0 _ _ _
      | exact LeO.none _
      | refine LeO.ite ?_ ?_
      | refine LeO.bind ?_ (fun _ => ?_)
theorem triglyphref03_Ints.mono : ∀ a0 a1 k, LeO (triglyphref03_Ints.f k a0 a1) (triglyphref03_Ints.f (k + 1) a0 a1) := by
  intro a0 a1 k
  have ih0 := triglyphref03_Ints.mono_l k
  unfold triglyphref03_Ints.f
  repeat' first
      | (with_reducible exact ih0 _ _ _)
      | (with_reducible exact LeO.refl _)
      | (with_reducible exact LeO.none _)
      | (with_reducible refine LeO.ite ?_ ?_)
      | (with_reducible refine LeO.bind ?_ (fun _ => ?_))
      | exact ih0 _ _ _
      | exact LeO.none _
      | refine LeO.ite ?_ ?_
      | refine LeO.bind ?_ (fun _ => ?_)
set_option maxHeartbeats 8000000 in
set_option maxRecDepth 100000 in
theorem triglyphref03_Ints.calls (k : Nat) (A0 : Option Addr) (c0 : Nat) (l0 : List Int) (A1 : Option Addr) (c1 : Nat) (l1 : List Int) (r : Bool) (w : World) (hr0 : Kd.C (Kd.int .i64) w A0 l0.length l0) (hc0 : l0.length ≤ c0) (hr1 : Kd.C (Kd.int .i64) w A1 l1.length l1) (hc1 : l1.length ≤ c1) (h : triglyphref03_Ints.f k l0 l1 = some r) :
    Calls Try.prog 22 #[.slice A0 l0.length c0, .slice A1 l1.length c1] w fun e w' => e = .returned (.bool r) ∧ Drawn0 w w' := by
  have HR0 := Aside0.mk hr0
  have HC0 := Aside0.mk hc0
  clear hr0 hc0
  have HR1 := Aside0.mk hr1
  have HC1 := Aside0.mk hc1
  clear hr1 hc1
  have H : (if (l0.length : Int) = (l1.length : Int) then (triglyphref03_Ints.l0 k l0 l1 0) else (some false)) = some r := h
  clear h
  by_cases c3 : (l0.length : Int) = (l1.length : Int)
  · rw [if_pos c3] at H
    have c3b0 : ((l0.length : Int) == (l1.length : Int)) = true := beq_iff_eq.mpr c3
    have c3b1 : ((l0.length : Int) != (l1.length : Int)) = false := bne_eq_false_iff_eq.mpr c3
    have c3b2 : (l0.length == l1.length) = true := by first | simpa using c3 | (simp at c3 ⊢; omega)
    clear c3
    have H' := Aside0.mk H
    clear H
    go_enter Try.func22, Try.ntmps22
    go_wp2
    repeat (go_quiet (fail); try go_wp2)
    go_loopg [5] k (fun kq v5 w' => ∃ (x5_1 : Int), v5 = .int .i64 x5_1 ∧ Aside0 (triglyphref03_Ints.l0 kq l0 l1 x5_1 = some r) ∧ Aside0 (kq ≤ k) ∧ Drawn0 w w')
    case atStart => exact ⟨(0), (by first | rfl | (simp; done) | (simp [*]; done)), H', ⟨Nat.le_refl _⟩, by repeat (first | exact Drawn0.refl _ | apply Drawn0.step)⟩
    case round =>
      clear H'
      try clear c1
      try clear c2
      try clear p2
      try clear c3
      try clear c3b0
      try clear c3b1
      try clear c3b2
      obtain ⟨x5_1, rfl, HA, HK1, ⟨m1, rfl⟩⟩ := hrel
      cases gk with
      | zero => exact absurd HA.out (by simp [triglyphref03_Ints.l0])
      | succ k1 =>
        have H := HA.out; clear HA
        simp only [triglyphref03_Ints.l0] at H
        by_cases c4 : x5_1 < (l0.length : Int)
        · rw [if_pos c4] at H
          have c4b0 : decide (x5_1 < (l0.length : Int)) = true := decide_eq_true c4
          clear c4
          by_cases c5 : 0 ≤ x5_1
          · rw [if_pos c5] at H
            have c5b0 : decide (0 ≤ x5_1) = true := decide_eq_true c5
            clear c5
            by_cases c6 : x5_1 < (l1.length : Int)
            · rw [if_pos c6] at H
              have c6b0 : decide (x5_1 < (l1.length : Int)) = true := decide_eq_true c6
              clear c6
              by_cases c7 : (rd l0 x5_1) = (rd l1 x5_1)
              · rw [if_pos c7] at H
                have c7b0 : ((rd l0 x5_1) == (rd l1 x5_1)) = true := beq_iff_eq.mpr c7
                have c7b1 : ((rd l0 x5_1) != (rd l1 x5_1)) = false := bne_eq_false_iff_eq.mpr c7
                clear c7
                have H' := Aside0.mk H
                clear H
                have p342 : 0 ≤ (x5_1 : Int) := of_decide_eq_true (by first | (with_reducible assumption) | assumption)
                have q342 : x5_1 < (l0.length : Int) := of_decide_eq_true (by first | (with_reducible assumption) | assumption)
                obtain ⟨ad342, e342, hx342_0⟩ := Kd.at_int HR0.out x5_1 p342 q342
                cases e342
                replace p342 := eq_true p342
                replace q342 := eq_true q342
                have p343 : 0 ≤ (x5_1 : Int) := of_decide_eq_true (by first | (with_reducible assumption) | assumption)
                have q343 : x5_1 < (l1.length : Int) := of_decide_eq_true (by first | (with_reducible assumption) | assumption)
                obtain ⟨ad343, e343, hx343_0⟩ := Kd.at_int HR1.out x5_1 p343 q343
                cases e343
                replace p343 := eq_true p343
                replace q343 := eq_true q343
                go_wp2
                repeat (go_quiet (fail); try go_wp2)
                go_roundg k1
                case measure => have := HK1.out; omega
                case rel => exact ⟨(wrap64 (x5_1 + 1)), (by first | rfl | (simp; done) | (simp [*]; done)), H', ⟨by have := HK1.out; omega⟩, by repeat (first | exact Drawn0.refl _ | apply Drawn0.step)⟩
              · rw [if_neg c7] at H
                have c7b0 : ((rd l0 x5_1) == (rd l1 x5_1)) = false := beq_eq_false_iff_ne.mpr c7
                have c7b1 : ((rd l0 x5_1) != (rd l1 x5_1)) = true := bne_iff_ne.mpr c7
                obtain rfl := Option.some.inj H
                have p342 : 0 ≤ (x5_1 : Int) := of_decide_eq_true (by first | (with_reducible assumption) | assumption)
                have q342 : x5_1 < (l0.length : Int) := of_decide_eq_true (by first | (with_reducible assumption) | assumption)
                obtain ⟨ad342, e342, hx342_0⟩ := Kd.at_int HR0.out x5_1 p342 q342
                cases e342
                replace p342 := eq_true p342
                replace q342 := eq_true q342
                have p343 : 0 ≤ (x5_1 : Int) := of_decide_eq_true (by first | (with_reducible assumption) | assumption)
                have q343 : x5_1 < (l1.length : Int) := of_decide_eq_true (by first | (with_reducible assumption) | assumption)
                obtain ⟨ad343, e343, hx343_0⟩ := Kd.at_int HR1.out x5_1 p343 q343
                cases e343
                replace p343 := eq_true p343
                replace q343 := eq_true q343
                go_wp2
                repeat (go_quiet (fail); try go_wp2)
                go_ret
                exact ⟨by first | rfl | (simp; done) | (simp [*]; done), by repeat (first | exact Drawn0.refl _ | apply Drawn0.step)⟩
            · rw [if_neg c6] at H
              exact absurd H (by simp)
          · rw [if_neg c5] at H
            exact absurd H (by simp)
        · rw [if_neg c4] at H
          have c4b0 : decide (x5_1 < (l0.length : Int)) = false := decide_eq_false c4
          clear c4
          obtain rfl := Option.some.inj H
          go_wp2
          repeat (go_quiet (fail); try go_wp2)
          go_ret
          exact ⟨by first | rfl | (simp; done) | (simp [*]; done), by repeat (first | exact Drawn0.refl _ | apply Drawn0.step)⟩
  · rw [if_neg c3] at H
    have c3b0 : ((l0.length : Int) == (l1.length : Int)) = false := beq_eq_false_iff_ne.mpr c3
    have c3b1 : ((l0.length : Int) != (l1.length : Int)) = true := bne_iff_ne.mpr c3
    have c3b2 : (l0.length == l1.length) = false := by first | simpa using c3 | (simp at c3 ⊢; omega)
    obtain rfl := Option.some.inj H
    go_enter Try.func22, Try.ntmps22
    go_wp2
    repeat (go_quiet (fail); try go_wp2)
    go_ret
    exact ⟨by first | rfl | (simp; done) | (simp [*]; done), by repeat (first | exact Drawn0.refl _ | apply Drawn0.step)⟩
def triglyphref04_Agree.f (k : Nat) (l0 l1 : List Int) : Option (List Int × Int) := if l0.length = 0 then some (l1, 0) else if l1.length = 0 then some (l0, 0) else if l0.length = l1.length then ((triglyphref03_Ints.f k l0 l1).bind fun t => if t = true then some (l0, 0) else some ([], 7)) else some ([], 6)
theorem triglyphref04_Agree.mono : ∀ a0 a1 k, LeO (triglyphref04_Agree.f k a0 a1) (triglyphref04_Agree.f (k + 1) a0 a1) := by
  intro a0 a1 k
  unfold triglyphref04_Agree.f
  exact LeO.ite (LeO.refl _) (LeO.ite (LeO.refl _) (LeO.ite (LeO.bind (triglyphref03_Ints.mono _ _ _) (fun _ => LeO.refl _)) (LeO.refl _)))
set_option maxHeartbeats 1000000 in
set_option maxRecDepth 100000 in
theorem triglyphref04_Agree.calls (k : Nat) (A0 : Option Addr) (c0 : Nat) (l0 : List Int) (A1 : Option Addr) (c1 : Nat) (l1 : List Int) (r1 : List Int) (r2 : Int) (w : World) (hr0 : Kd.C (Kd.int .i64) w A0 l0.length l0) (hc0 : l0.length ≤ c0) (hr1 : Kd.C (Kd.int .i64) w A1 l1.length l1) (hc1 : l1.length ≤ c1) (h : triglyphref04_Agree.f k l0 l1 = some (r1, r2)) :
    Calls Try.prog 21 #[.slice A0 l0.length c0, .slice A1 l1.length c1] w fun e w' => ∃ (A : Option Addr) (c : Nat), e = .returned (.tuple #[.slice A r1.length c, .int .i64 r2]) ∧ Kd.C (Kd.int .i64) w' A r1.length r1 ∧ r1.length ≤ c ∧ Drawn0 w w' := by
  have HR := Aside0.mk (And.intro (And.intro hr0 hc0) (And.intro hr1 hc1))
  clear hr0 hc0 hr1 hc1
  unfold triglyphref04_Agree.f at h
  by_cases q0 : l0.length = 0
  · rw [if_pos q0] at h
    simp only [Option.some.injEq, Prod.mk.injEq] at h
    obtain ⟨rfl, rfl⟩ := h
    have q0b : ((l0.length : Int) == 0) = true := by simp [q0]
    clear q0
    go_enter Try.func21, Try.ntmps21
    go_wp2_with (fail)
    go_ret2
    exact ⟨_, _, rfl, HR.out.2.1, HR.out.2.2, Drawn0.refl _⟩
  rw [if_neg q0] at h
  have q0b : ((l0.length : Int) == 0) = false := by simp; exact fun e => q0 (by simp [e])
  clear q0
  by_cases q1 : l1.length = 0
  · rw [if_pos q1] at h
    simp only [Option.some.injEq, Prod.mk.injEq] at h
    obtain ⟨rfl, rfl⟩ := h
    have q1b : ((l1.length : Int) == 0) = true := by simp [q1]
    clear q1
    go_enter Try.func21, Try.ntmps21
    go_wp2_with (fail)
    go_ret2
    exact ⟨_, _, rfl, HR.out.1.1, HR.out.1.2, Drawn0.refl _⟩
  rw [if_neg q1] at h
  have q1b : ((l1.length : Int) == 0) = false := by simp; exact fun e => q1 (by simp [e])
  clear q1
  by_cases q2 : l0.length = l1.length
  · rw [if_pos q2] at h
    have q2b : ((l0.length : Int) != (l1.length : Int)) = false := by simp [q2]
    clear q2
    obtain ⟨t, e1, h⟩ := Option.bind_eq_some_iff.1 h
    have E1 := Aside0.mk e1
    clear e1
    cases t with
    | true =>
      rw [if_pos rfl] at h
      simp only [Option.some.injEq, Prod.mk.injEq] at h
      obtain ⟨rfl, rfl⟩ := h
      go_enter Try.func21, Try.ntmps21
      go_wp2_with (go_at_call 22; (with_reducible refine (triglyphref03_Ints.calls k _ _ l0 _ _ l1 _ _ HR.out.1.1 HR.out.1.2 HR.out.2.1 HR.out.2.2 E1.out).mono ?_); rintro e w1 ⟨rfl, hd⟩; have HD := Aside0.mk hd; clear hd)
      go_ret2
      exact ⟨_, _, rfl, Kd.C_below HR.out.1.1 HD.out.below, HR.out.1.2, HD.out⟩
    | false =>
      rw [if_neg (by decide)] at h
      simp only [Option.some.injEq, Prod.mk.injEq] at h
      obtain ⟨rfl, rfl⟩ := h
      go_enter Try.func21, Try.ntmps21
      go_wp2_with (go_at_call 22; (with_reducible refine (triglyphref03_Ints.calls k _ _ l0 _ _ l1 _ _ HR.out.1.1 HR.out.1.2 HR.out.2.1 HR.out.2.2 E1.out).mono ?_); rintro e w1 ⟨rfl, hd⟩; have HD := Aside0.mk hd; clear hd)
      go_ret2
      exact ⟨none, 0, rfl, Kd.C_nil _ _, Nat.le_refl _, HD.out⟩
  · rw [if_neg q2] at h
    simp only [Option.some.injEq, Prod.mk.injEq] at h
    obtain ⟨rfl, rfl⟩ := h
    have q2b : ((l0.length : Int) != (l1.length : Int)) = true := by simp; exact fun e => q2 (by omega)
    clear q2
    go_enter Try.func21, Try.ntmps21
    go_wp2_with (fail)
    go_ret2
    exact ⟨none, 0, rfl, Kd.C_nil _ _, Nat.le_refl _, Drawn0.refl _⟩
def triglyphref04_Dy.lp (k : Nat) (op : Int) (c1 c2 : List S35) (s : List Int) : Nat → Nat → List S35 → Option (List Int × List S35 × Int)
  | 0, _, acc => some (s, acc, 0)
  | m + 1, i, acc => if 0 < c1.length ∧ 0 < c2.length then (triglyphref04_Cell.f k op (c1.getD (i % c1.length) z35).f0 (c1.getD (i % c1.length) z35).f1 (c1.getD (i % c1.length) z35).f2 (c2.getD (i % c2.length) z35).f0 (c2.getD (i % c2.length) z35).f1 (c2.getD (i % c2.length) z35).f2).bind fun b => if b.2.2.2 = 0 then (if acc.length < 3518437208883 then triglyphref04_Dy.lp k op c1 c2 s m (i + 1) (acc ++ [⟨b.1, b.2.1, b.2.2.1⟩]) else none) else some ([], [], b.2.2.2) else none
def triglyphref04_Dy.r5 (k : Nat) (a0 : Int) (l1_0 : List Int) (l1_1 : List S35) (l2_0 : List Int) (l2_1 : List S35) : Option (List Int × List S35 × Int) :=
  if a0 = 54 then some ([], [], 10) else if a0 < 21 then some ([], [], 1) else if 32 < a0 then some ([], [], 1) else (triglyphref04_Agree.f k l1_0 l2_0).bind fun b => if b.2 = 0 then ((triglyphref03_Size.f k b.1).bind fun n => if b.1.length < 17592186044416 ∧ n.1 ≤ 1000000 then triglyphref04_Dy.lp k a0 l1_1 l2_1 b.1 n.1.toNat 0 [] else none) else some ([], [], b.2)
def triglyphref04_Dy.f (k : Nat) (a0 : Int) (l1_0 : List Int) (l1_1 : List S35) (l2_0 : List Int) (l2_1 : List S35) : Option (List Int × List S35 × Int) :=
  (triglyphref03_Check.f k l1_0 l1_1).bind fun e1 => if e1 = 0 then ((triglyphref03_Check.f k l2_0 l2_1).bind fun e2 => if e2 = 0 then triglyphref04_Dy.r5 k a0 l1_0 l1_1 l2_0 l2_1 else some ([], [], e2)) else some ([], [], e1)
theorem triglyphref04_Dy.mono_lp (k : Nat) (op : Int) (c1 c2 : List S35) (s : List Int) : ∀ m i acc, LeO (triglyphref04_Dy.lp k op c1 c2 s m i acc) (triglyphref04_Dy.lp (k + 1) op c1 c2 s m i acc)
  | 0, _, _ => LeO.refl _
  | m + 1, i, acc => by
    unfold triglyphref04_Dy.lp
    exact LeO.ite (LeO.bind (triglyphref04_Cell.mono _ _ _ _ _ _ _ _) (fun _ => LeO.ite (LeO.ite (triglyphref04_Dy.mono_lp k op c1 c2 s m (i + 1) _) (LeO.none _)) (LeO.refl _))) (LeO.none _)
theorem triglyphref04_Dy.mono : ∀ a0 a1 a2 a3 a4 k, LeO (triglyphref04_Dy.f k a0 a1 a2 a3 a4) (triglyphref04_Dy.f (k + 1) a0 a1 a2 a3 a4) := by
  intro a0 a1 a2 a3 a4 k
  unfold triglyphref04_Dy.f triglyphref04_Dy.r5
  exact LeO.bind (triglyphref03_Check.mono _ _ _) (fun _ => LeO.ite (LeO.bind (triglyphref03_Check.mono _ _ _) (fun _ => LeO.ite (LeO.ite (LeO.refl _) (LeO.ite (LeO.refl _) (LeO.ite (LeO.refl _) (LeO.bind (triglyphref04_Agree.mono _ _ _) (fun _ => LeO.ite (LeO.bind (triglyphref03_Size.mono _ _) (fun _ => LeO.ite (triglyphref04_Dy.mono_lp _ _ _ _ _ _ _ _) (LeO.none _))) (LeO.refl _)))))) (LeO.refl _))) (LeO.refl _))
def triglyphref04_Dy.T20 : Bool × List (List Nat × List Nat) := (true, [([], []), ([0], [0]), ([], []), ([], []), ([3], [3]), ([4], [4]), ([2, 5], [2, 5]), ([1, 6], [1, 6]), ([7], [7]), ([], []), ([9, 8, 0, 1, 2, 3, 4, 5, 6, 7, 8, 9], [8, 9])])
def triglyphref04_Dy.B20 : List Nat := [0, 1, 0, 0, 8, 24, 60, 127, 255, 0, 1023]
theorem triglyphref04_Dy.tab20 : rtab .any (opsOf Try.f19 20) = triglyphref04_Dy.T20 := by kernel_rfl
theorem triglyphref04_Dy.bits20 : waitsOk triglyphref04_Dy.T20.2 triglyphref04_Dy.B20 = true := by kernel_rfl
def triglyphref04_Dy.T21 : Bool × List (List Nat × List Nat) := (true, [([], []), ([0], [0]), ([], []), ([], []), ([3], [3]), ([4], [4]), ([2, 5], [2, 5]), ([1, 6], [1, 6]), ([7], [7]), ([], []), ([9, 8, 0, 1, 2, 3, 4, 5, 6, 7, 8, 9], [8, 9])])
def triglyphref04_Dy.B21 : List Nat := [0, 1, 0, 0, 8, 24, 60, 127, 255, 0, 1023]
theorem triglyphref04_Dy.tab21 : rtab .any (opsOf Try.f19 21) = triglyphref04_Dy.T21 := by kernel_rfl
theorem triglyphref04_Dy.bits21 : waitsOk triglyphref04_Dy.T21.2 triglyphref04_Dy.B21 = true := by kernel_rfl
set_option maxHeartbeats 8000000 in
set_option maxRecDepth 100000 in
theorem triglyphref04_Dy.calls (k : Nat) (a0 : Int) (A1_0 : Option Addr) (c1_0 : Nat) (l1_0 : List Int) (A1_1 : Option Addr) (c1_1 : Nat) (l1_1 : List S35) (A2_0 : Option Addr) (c2_0 : Nat) (l2_0 : List Int) (A2_1 : Option Addr) (c2_1 : Nat) (l2_1 : List S35) (r1 : List Int) (r2 : List S35) (r3 : Int) (w : World) (hr1_0 : Kd.C (Kd.int .i64) w A1_0 l1_0.length l1_0) (hc1_0 : l1_0.length ≤ c1_0) (hr1_1 : Kd.C k35 w A1_1 l1_1.length l1_1) (hc1_1 : l1_1.length ≤ c1_1) (hr2_0 : Kd.C (Kd.int .i64) w A2_0 l2_0.length l2_0) (hc2_0 : l2_0.length ≤ c2_0) (hr2_1 : Kd.C k35 w A2_1 l2_1.length l2_1) (hc2_1 : l2_1.length ≤ c2_1) (h : triglyphref04_Dy.f k a0 l1_0 l1_1 l2_0 l2_1 = some (r1, r2, r3)) :
    Calls Try.prog 19 #[.int .i64 a0, .agg #[.slice A1_0 l1_0.length c1_0, .slice A1_1 l1_1.length c1_1], .agg #[.slice A2_0 l2_0.length c2_0, .slice A2_1 l2_1.length c2_1]] w fun e w' => ∃ v0_ v1_ : Value, e = .returned (.tuple #[.agg #[v0_, v1_], .int .i64 r3]) ∧ Kd.R (Kd.int .i64) 3 w' w.heap.size (fun _ => True) v0_ r1 ∧ Kd.R k35 35 w' w.heap.size (fun k_ => some k_ ≠ (v0_ : Value).ownBlock) v1_ r2 ∧ Below w.heap.size w w' := by
  have hu_a := Try.underlying25
  have hu_c := Try.underlying35
  have HR1 := Aside0.mk (And.intro (And.intro hr1_0 hc1_0) (And.intro hr1_1 hc1_1))
  have HR2 := Aside0.mk (And.intro (And.intro hr2_0 hc2_0) (And.intro hr2_1 hc2_1))
  clear hr1_0 hc1_0 hr1_1 hc1_1 hr2_0 hc2_0 hr2_1 hc2_1
  have HS := Aside0.mk (BxS.three w #[.slice A1_0 l1_0.length c1_0, .slice A1_1 l1_1.length c1_1] 25 #[.slice A2_0 l2_0.length c2_0, .slice A2_1 l2_1.length c2_1] 25 #[.slice none 0 0, .slice none 0 0] 25)
  unfold triglyphref04_Dy.f at h
  go_enter Try.func19, Try.ntmps19
  go_upto_region 1 with (fail)
  generalize ((w.alloc (.cells #[.slice A1_0 l1_0.length c1_0, .slice A1_1 l1_1.length c1_1] 25)).alloc (.cells #[.slice A2_0 l2_0.length c2_0, .slice A2_1 l2_1.length c2_1] 25)).alloc (.cells #[.slice none 0 0, .slice none 0 0] 25) = W at HS ⊢
  have x0 : W.cell? ⟨w.heap.size, 0, none⟩ = some (.slice A1_0 l1_0.length c1_0) := (blk_cell (HS.out.at_ 2 rfl) 0).trans rfl; have x1 : W.cell? ⟨w.heap.size, 1, none⟩ = some (.slice A1_1 l1_1.length c1_1) := (blk_cell (HS.out.at_ 2 rfl) 1).trans rfl; have y0 : W.cell? ⟨w.heap.size + 1, 0, none⟩ = some (.slice A2_0 l2_0.length c2_0) := (blk_cell (HS.out.at_ 1 rfl) 0).trans rfl; have y1 : W.cell? ⟨w.heap.size + 1, 1, none⟩ = some (.slice A2_1 l2_1.length c2_1) := (blk_cell (HS.out.at_ 1 rfl) 1).trans rfl; have z0 : W.cell? ⟨w.heap.size + 1 + 1, 0, none⟩ = some (.slice none 0 0) := (blk_cell (HS.out.at_ 0 rfl) 0).trans rfl; have z1 : W.cell? ⟨w.heap.size + 1 + 1, 1, none⟩ = some (.slice none 0 0) := (blk_cell (HS.out.at_ 0 rfl) 1).trans rfl; have f0 := blk_frozen (HS.out.at_ 0 rfl) 0; have f1 := blk_frozen (HS.out.at_ 0 rfl) 1
  obtain ⟨e1, q1, h⟩ := Option.bind_eq_some_iff.1 h; have Q1 := Aside0.mk q1; clear q1
  by_cases c1 : e1 = 0
  rotate_left
  · rw [if_neg c1] at h
    simp only [Option.some.injEq, Prod.mk.injEq] at h; obtain ⟨rfl, rfl, rfl⟩ := h
    have cb : (e1 != 0) = true := bne_iff_ne.2 c1; clear c1
    go_wp2_with (first | (go_at_call 23; (with_reducible refine (triglyphref03_Check.calls k _ _ l1_0 _ _ l1_1 _ _ (Kd.C_below HR1.out.1.1 HS.out.bel) HR1.out.1.2 (Kd.C_below HR1.out.2.1 HS.out.bel) HR1.out.2.2 Q1.out).mono ?_); rintro e w1 ⟨rfl, hb⟩; have HS := Aside0.mk (HS.out.step hb); clear hb; (try clear x0 x1 y0 y1 z0 z1 f0 f1); have x0 : w1.cell? ⟨w.heap.size, 0, none⟩ = some (.slice A1_0 l1_0.length c1_0) := (blk_cell (HS.out.at_ 2 rfl) 0).trans rfl; have x1 : w1.cell? ⟨w.heap.size, 1, none⟩ = some (.slice A1_1 l1_1.length c1_1) := (blk_cell (HS.out.at_ 2 rfl) 1).trans rfl; have y0 : w1.cell? ⟨w.heap.size + 1, 0, none⟩ = some (.slice A2_0 l2_0.length c2_0) := (blk_cell (HS.out.at_ 1 rfl) 0).trans rfl; have y1 : w1.cell? ⟨w.heap.size + 1, 1, none⟩ = some (.slice A2_1 l2_1.length c2_1) := (blk_cell (HS.out.at_ 1 rfl) 1).trans rfl; have z0 : w1.cell? ⟨w.heap.size + 1 + 1, 0, none⟩ = some (.slice none 0 0) := (blk_cell (HS.out.at_ 0 rfl) 0).trans rfl; have z1 : w1.cell? ⟨w.heap.size + 1 + 1, 1, none⟩ = some (.slice none 0 0) := (blk_cell (HS.out.at_ 0 rfl) 1).trans rfl; have f0 := blk_frozen (HS.out.at_ 0 rfl) 0; have f1 := blk_frozen (HS.out.at_ 0 rfl) 1))
    all_goals (refine bodyPost_ret (results_ct rfl _ _ (w.heap.size + 1 + 1) 25 #[.slice none 0 0, .slice none 0 0] (0, 0) _ rfl (hf_z2 (HS.out.at_ 0 rfl) _ _) Try.underlying25 rfl (by kernel_rfl)) rfl ?_; exact ⟨_, _, rfl, Kd.R_nil _ _ _ _ _, Kd.R_nil _ _ _ _ _, below_set (below_set HS.out.bel (HS.out.fr _ (List.mem_of_getElem? (i := 0) rfl))) (HS.out.fr _ (List.mem_of_getElem? (i := 0) rfl))⟩)
  rw [if_pos c1] at h; subst c1
  obtain ⟨e2, q2, h⟩ := Option.bind_eq_some_iff.1 h; have Q2 := Aside0.mk q2; clear q2
  by_cases c2 : e2 = 0
  rotate_left
  · rw [if_neg c2] at h
    simp only [Option.some.injEq, Prod.mk.injEq] at h; obtain ⟨rfl, rfl, rfl⟩ := h
    have cb : (e2 != 0) = true := bne_iff_ne.2 c2; clear c2
    go_wp2_with (first | (go_at_call 23; (with_reducible refine (triglyphref03_Check.calls k _ _ l1_0 _ _ l1_1 _ _ (Kd.C_below HR1.out.1.1 HS.out.bel) HR1.out.1.2 (Kd.C_below HR1.out.2.1 HS.out.bel) HR1.out.2.2 Q1.out).mono ?_); rintro e w1 ⟨rfl, hb⟩; have HS := Aside0.mk (HS.out.step hb); clear hb; (try clear x0 x1 y0 y1 z0 z1 f0 f1); have x0 : w1.cell? ⟨w.heap.size, 0, none⟩ = some (.slice A1_0 l1_0.length c1_0) := (blk_cell (HS.out.at_ 2 rfl) 0).trans rfl; have x1 : w1.cell? ⟨w.heap.size, 1, none⟩ = some (.slice A1_1 l1_1.length c1_1) := (blk_cell (HS.out.at_ 2 rfl) 1).trans rfl; have y0 : w1.cell? ⟨w.heap.size + 1, 0, none⟩ = some (.slice A2_0 l2_0.length c2_0) := (blk_cell (HS.out.at_ 1 rfl) 0).trans rfl; have y1 : w1.cell? ⟨w.heap.size + 1, 1, none⟩ = some (.slice A2_1 l2_1.length c2_1) := (blk_cell (HS.out.at_ 1 rfl) 1).trans rfl; have z0 : w1.cell? ⟨w.heap.size + 1 + 1, 0, none⟩ = some (.slice none 0 0) := (blk_cell (HS.out.at_ 0 rfl) 0).trans rfl; have z1 : w1.cell? ⟨w.heap.size + 1 + 1, 1, none⟩ = some (.slice none 0 0) := (blk_cell (HS.out.at_ 0 rfl) 1).trans rfl; have f0 := blk_frozen (HS.out.at_ 0 rfl) 0; have f1 := blk_frozen (HS.out.at_ 0 rfl) 1) | (go_at_call 23; (with_reducible refine (triglyphref03_Check.calls k _ _ l2_0 _ _ l2_1 _ _ (Kd.C_below HR2.out.1.1 HS.out.bel) HR2.out.1.2 (Kd.C_below HR2.out.2.1 HS.out.bel) HR2.out.2.2 Q2.out).mono ?_); rintro e w2 ⟨rfl, hb⟩; have HS := Aside0.mk (HS.out.step hb); clear hb; (try clear x0 x1 y0 y1 z0 z1 f0 f1); have x0 : w2.cell? ⟨w.heap.size, 0, none⟩ = some (.slice A1_0 l1_0.length c1_0) := (blk_cell (HS.out.at_ 2 rfl) 0).trans rfl; have x1 : w2.cell? ⟨w.heap.size, 1, none⟩ = some (.slice A1_1 l1_1.length c1_1) := (blk_cell (HS.out.at_ 2 rfl) 1).trans rfl; have y0 : w2.cell? ⟨w.heap.size + 1, 0, none⟩ = some (.slice A2_0 l2_0.length c2_0) := (blk_cell (HS.out.at_ 1 rfl) 0).trans rfl; have y1 : w2.cell? ⟨w.heap.size + 1, 1, none⟩ = some (.slice A2_1 l2_1.length c2_1) := (blk_cell (HS.out.at_ 1 rfl) 1).trans rfl; have z0 : w2.cell? ⟨w.heap.size + 1 + 1, 0, none⟩ = some (.slice none 0 0) := (blk_cell (HS.out.at_ 0 rfl) 0).trans rfl; have z1 : w2.cell? ⟨w.heap.size + 1 + 1, 1, none⟩ = some (.slice none 0 0) := (blk_cell (HS.out.at_ 0 rfl) 1).trans rfl; have f0 := blk_frozen (HS.out.at_ 0 rfl) 0; have f1 := blk_frozen (HS.out.at_ 0 rfl) 1))
    all_goals (refine bodyPost_ret (results_ct rfl _ _ (w.heap.size + 1 + 1) 25 #[.slice none 0 0, .slice none 0 0] (0, 0) _ rfl (hf_z2 (HS.out.at_ 0 rfl) _ _) Try.underlying25 rfl (by kernel_rfl)) rfl ?_; exact ⟨_, _, rfl, Kd.R_nil _ _ _ _ _, Kd.R_nil _ _ _ _ _, below_set (below_set HS.out.bel (HS.out.fr _ (List.mem_of_getElem? (i := 0) rfl))) (HS.out.fr _ (List.mem_of_getElem? (i := 0) rfl))⟩)
  rw [if_pos c2] at h; subst c2
  unfold triglyphref04_Dy.r5 at h
  go_upto_region 7 with (first | (go_at_call 23; (with_reducible refine (triglyphref03_Check.calls k _ _ l1_0 _ _ l1_1 _ _ (Kd.C_below HR1.out.1.1 HS.out.bel) HR1.out.1.2 (Kd.C_below HR1.out.2.1 HS.out.bel) HR1.out.2.2 Q1.out).mono ?_); rintro e w1 ⟨rfl, hb⟩; have HS := Aside0.mk (HS.out.step hb); clear hb; (try clear x0 x1 y0 y1 z0 z1 f0 f1); have x0 : w1.cell? ⟨w.heap.size, 0, none⟩ = some (.slice A1_0 l1_0.length c1_0) := (blk_cell (HS.out.at_ 2 rfl) 0).trans rfl; have x1 : w1.cell? ⟨w.heap.size, 1, none⟩ = some (.slice A1_1 l1_1.length c1_1) := (blk_cell (HS.out.at_ 2 rfl) 1).trans rfl; have y0 : w1.cell? ⟨w.heap.size + 1, 0, none⟩ = some (.slice A2_0 l2_0.length c2_0) := (blk_cell (HS.out.at_ 1 rfl) 0).trans rfl; have y1 : w1.cell? ⟨w.heap.size + 1, 1, none⟩ = some (.slice A2_1 l2_1.length c2_1) := (blk_cell (HS.out.at_ 1 rfl) 1).trans rfl; have z0 : w1.cell? ⟨w.heap.size + 1 + 1, 0, none⟩ = some (.slice none 0 0) := (blk_cell (HS.out.at_ 0 rfl) 0).trans rfl; have z1 : w1.cell? ⟨w.heap.size + 1 + 1, 1, none⟩ = some (.slice none 0 0) := (blk_cell (HS.out.at_ 0 rfl) 1).trans rfl; have f0 := blk_frozen (HS.out.at_ 0 rfl) 0; have f1 := blk_frozen (HS.out.at_ 0 rfl) 1) | (go_at_call 23; (with_reducible refine (triglyphref03_Check.calls k _ _ l2_0 _ _ l2_1 _ _ (Kd.C_below HR2.out.1.1 HS.out.bel) HR2.out.1.2 (Kd.C_below HR2.out.2.1 HS.out.bel) HR2.out.2.2 Q2.out).mono ?_); rintro e w2 ⟨rfl, hb⟩; have HS := Aside0.mk (HS.out.step hb); clear hb; (try clear x0 x1 y0 y1 z0 z1 f0 f1); have x0 : w2.cell? ⟨w.heap.size, 0, none⟩ = some (.slice A1_0 l1_0.length c1_0) := (blk_cell (HS.out.at_ 2 rfl) 0).trans rfl; have x1 : w2.cell? ⟨w.heap.size, 1, none⟩ = some (.slice A1_1 l1_1.length c1_1) := (blk_cell (HS.out.at_ 2 rfl) 1).trans rfl; have y0 : w2.cell? ⟨w.heap.size + 1, 0, none⟩ = some (.slice A2_0 l2_0.length c2_0) := (blk_cell (HS.out.at_ 1 rfl) 0).trans rfl; have y1 : w2.cell? ⟨w.heap.size + 1, 1, none⟩ = some (.slice A2_1 l2_1.length c2_1) := (blk_cell (HS.out.at_ 1 rfl) 1).trans rfl; have z0 : w2.cell? ⟨w.heap.size + 1 + 1, 0, none⟩ = some (.slice none 0 0) := (blk_cell (HS.out.at_ 0 rfl) 0).trans rfl; have z1 : w2.cell? ⟨w.heap.size + 1 + 1, 1, none⟩ = some (.slice none 0 0) := (blk_cell (HS.out.at_ 0 rfl) 1).trans rfl; have f0 := blk_frozen (HS.out.at_ 0 rfl) 0; have f1 := blk_frozen (HS.out.at_ 0 rfl) 1))
  by_cases c54 : a0 = 54
  · rw [if_pos c54] at h
    simp only [Option.some.injEq, Prod.mk.injEq] at h; obtain ⟨rfl, rfl, rfl⟩ := h
    subst c54
    go_wp2_with (fail)
    all_goals (refine bodyPost_ret (results_ct rfl _ _ (w.heap.size + 1 + 1) 25 #[.slice none 0 0, .slice none 0 0] (0, 0) _ rfl (hf_z2 (HS.out.at_ 0 rfl) _ _) Try.underlying25 rfl (by kernel_rfl)) rfl ?_; exact ⟨_, _, rfl, Kd.R_nil _ _ _ _ _, Kd.R_nil _ _ _ _ _, below_set (below_set HS.out.bel (HS.out.fr _ (List.mem_of_getElem? (i := 0) rfl))) (HS.out.fr _ (List.mem_of_getElem? (i := 0) rfl))⟩)
  rw [if_neg c54] at h; have c54b : (a0 == 54) = false := beq_eq_false_iff_ne.2 c54; clear c54
  by_cases c21 : a0 < 21
  · rw [if_pos c21] at h
    simp only [Option.some.injEq, Prod.mk.injEq] at h; obtain ⟨rfl, rfl, rfl⟩ := h
    have c21b : decide (a0 < 21) = true := decide_eq_true c21; clear c21
    go_wp2_with (fail)
    all_goals (refine bodyPost_ret (results_ct rfl _ _ (w.heap.size + 1 + 1) 25 #[.slice none 0 0, .slice none 0 0] (0, 0) _ rfl (hf_z2 (HS.out.at_ 0 rfl) _ _) Try.underlying25 rfl (by kernel_rfl)) rfl ?_; exact ⟨_, _, rfl, Kd.R_nil _ _ _ _ _, Kd.R_nil _ _ _ _ _, below_set (below_set HS.out.bel (HS.out.fr _ (List.mem_of_getElem? (i := 0) rfl))) (HS.out.fr _ (List.mem_of_getElem? (i := 0) rfl))⟩)
  rw [if_neg c21] at h; have c21b : decide (a0 < 21) = false := decide_eq_false c21; clear c21
  by_cases c32 : 32 < a0
  · rw [if_pos c32] at h
    simp only [Option.some.injEq, Prod.mk.injEq] at h; obtain ⟨rfl, rfl, rfl⟩ := h
    have c32b : decide (a0 > 32) = true := decide_eq_true c32; clear c32
    go_wp2_with (fail)
    all_goals (refine bodyPost_ret (results_ct rfl _ _ (w.heap.size + 1 + 1) 25 #[.slice none 0 0, .slice none 0 0] (0, 0) _ rfl (hf_z2 (HS.out.at_ 0 rfl) _ _) Try.underlying25 rfl (by kernel_rfl)) rfl ?_; exact ⟨_, _, rfl, Kd.R_nil _ _ _ _ _, Kd.R_nil _ _ _ _ _, below_set (below_set HS.out.bel (HS.out.fr _ (List.mem_of_getElem? (i := 0) rfl))) (HS.out.fr _ (List.mem_of_getElem? (i := 0) rfl))⟩)
  rw [if_neg c32] at h; have c32b : decide (a0 > 32) = false := decide_eq_false c32; clear c32
  obtain ⟨⟨s, e3⟩, q3, h⟩ := Option.bind_eq_some_iff.1 h; have Q3 := Aside0.mk q3; clear q3; dsimp only at h
  by_cases ce : e3 = 0
  rotate_left
  · rw [if_neg ce] at h
    simp only [Option.some.injEq, Prod.mk.injEq] at h; obtain ⟨rfl, rfl, rfl⟩ := h
    have ceb : (e3 != 0) = true := bne_iff_ne.2 ce; clear ce
    go_wp2_with (go_at_call 21; (with_reducible refine (triglyphref04_Agree.calls k _ _ l1_0 _ _ l2_0 _ _ _ (Kd.C_below HR1.out.1.1 HS.out.bel) HR1.out.1.2 (Kd.C_below HR2.out.1.1 HS.out.bel) HR2.out.1.2 Q3.out).mono ?_); rintro e w3 ⟨As, cs, rfl, hr, hl, hb⟩; have HV := Aside0.mk (And.intro hr hl); clear hr hl; have HS := Aside0.mk (HS.out.step hb.below); clear hb; (try clear x0 x1 y0 y1 z0 z1 f0 f1); have x0 : w3.cell? ⟨w.heap.size, 0, none⟩ = some (.slice A1_0 l1_0.length c1_0) := (blk_cell (HS.out.at_ 2 rfl) 0).trans rfl; have x1 : w3.cell? ⟨w.heap.size, 1, none⟩ = some (.slice A1_1 l1_1.length c1_1) := (blk_cell (HS.out.at_ 2 rfl) 1).trans rfl; have y0 : w3.cell? ⟨w.heap.size + 1, 0, none⟩ = some (.slice A2_0 l2_0.length c2_0) := (blk_cell (HS.out.at_ 1 rfl) 0).trans rfl; have y1 : w3.cell? ⟨w.heap.size + 1, 1, none⟩ = some (.slice A2_1 l2_1.length c2_1) := (blk_cell (HS.out.at_ 1 rfl) 1).trans rfl; have z0 : w3.cell? ⟨w.heap.size + 1 + 1, 0, none⟩ = some (.slice none 0 0) := (blk_cell (HS.out.at_ 0 rfl) 0).trans rfl; have z1 : w3.cell? ⟨w.heap.size + 1 + 1, 1, none⟩ = some (.slice none 0 0) := (blk_cell (HS.out.at_ 0 rfl) 1).trans rfl; have f0 := blk_frozen (HS.out.at_ 0 rfl) 0; have f1 := blk_frozen (HS.out.at_ 0 rfl) 1)
    all_goals (refine bodyPost_ret (results_ct rfl _ _ (w.heap.size + 1 + 1) 25 #[.slice none 0 0, .slice none 0 0] (0, 0) _ rfl (hf_z2 (HS.out.at_ 0 rfl) _ _) Try.underlying25 rfl (by kernel_rfl)) rfl ?_; exact ⟨_, _, rfl, Kd.R_nil _ _ _ _ _, Kd.R_nil _ _ _ _ _, below_set (below_set HS.out.bel (HS.out.fr _ (List.mem_of_getElem? (i := 0) rfl))) (HS.out.fr _ (List.mem_of_getElem? (i := 0) rfl))⟩)
  rw [if_pos ce] at h; subst ce
  obtain ⟨⟨n, en⟩, q4, h⟩ := Option.bind_eq_some_iff.1 h; have Q4 := Aside0.mk q4; clear q4; dsimp only at h
  by_cases cl : s.length < 17592186044416 ∧ n ≤ 1000000
  rotate_left
  · rw [if_neg cl] at h; cases h
  rw [if_pos cl] at h; have CL := Aside0.mk cl; have H := Aside0.mk h; clear cl h
  go_upto_region 16 with (first | (go_at_call 21; (with_reducible refine (triglyphref04_Agree.calls k _ _ l1_0 _ _ l2_0 _ _ _ (Kd.C_below HR1.out.1.1 HS.out.bel) HR1.out.1.2 (Kd.C_below HR2.out.1.1 HS.out.bel) HR2.out.1.2 Q3.out).mono ?_); rintro e w3 ⟨As, cs, rfl, hr, hl, hb⟩; have HV := Aside0.mk (And.intro hr hl); clear hr hl; have HS := Aside0.mk (HS.out.step hb.below); clear hb; (try clear x0 x1 y0 y1 z0 z1 f0 f1); have x0 : w3.cell? ⟨w.heap.size, 0, none⟩ = some (.slice A1_0 l1_0.length c1_0) := (blk_cell (HS.out.at_ 2 rfl) 0).trans rfl; have x1 : w3.cell? ⟨w.heap.size, 1, none⟩ = some (.slice A1_1 l1_1.length c1_1) := (blk_cell (HS.out.at_ 2 rfl) 1).trans rfl; have y0 : w3.cell? ⟨w.heap.size + 1, 0, none⟩ = some (.slice A2_0 l2_0.length c2_0) := (blk_cell (HS.out.at_ 1 rfl) 0).trans rfl; have y1 : w3.cell? ⟨w.heap.size + 1, 1, none⟩ = some (.slice A2_1 l2_1.length c2_1) := (blk_cell (HS.out.at_ 1 rfl) 1).trans rfl; have z0 : w3.cell? ⟨w.heap.size + 1 + 1, 0, none⟩ = some (.slice none 0 0) := (blk_cell (HS.out.at_ 0 rfl) 0).trans rfl; have z1 : w3.cell? ⟨w.heap.size + 1 + 1, 1, none⟩ = some (.slice none 0 0) := (blk_cell (HS.out.at_ 0 rfl) 1).trans rfl; have f0 := blk_frozen (HS.out.at_ 0 rfl) 0; have f1 := blk_frozen (HS.out.at_ 0 rfl) 1) | (go_at_call 40; (with_reducible refine (triglyphref03_Size.calls k _ _ s _ _ _ HV.out.1 HV.out.2 Q4.out).mono ?_); rintro e w4 ⟨rfl, hb⟩; have HV := Aside0.mk (And.intro (Kd.C_below HV.out.1 hb.below) HV.out.2); have HS := Aside0.mk (HS.out.step hb.below); clear hb; (try clear x0 x1 y0 y1 z0 z1 f0 f1); have x0 : w4.cell? ⟨w.heap.size, 0, none⟩ = some (.slice A1_0 l1_0.length c1_0) := (blk_cell (HS.out.at_ 2 rfl) 0).trans rfl; have x1 : w4.cell? ⟨w.heap.size, 1, none⟩ = some (.slice A1_1 l1_1.length c1_1) := (blk_cell (HS.out.at_ 2 rfl) 1).trans rfl; have y0 : w4.cell? ⟨w.heap.size + 1, 0, none⟩ = some (.slice A2_0 l2_0.length c2_0) := (blk_cell (HS.out.at_ 1 rfl) 0).trans rfl; have y1 : w4.cell? ⟨w.heap.size + 1, 1, none⟩ = some (.slice A2_1 l2_1.length c2_1) := (blk_cell (HS.out.at_ 1 rfl) 1).trans rfl; have z0 : w4.cell? ⟨w.heap.size + 1 + 1, 0, none⟩ = some (.slice none 0 0) := (blk_cell (HS.out.at_ 0 rfl) 0).trans rfl; have z1 : w4.cell? ⟨w.heap.size + 1 + 1, 1, none⟩ = some (.slice none 0 0) := (blk_cell (HS.out.at_ 0 rfl) 1).trans rfl; have f0 := blk_frozen (HS.out.at_ 0 rfl) 0; have f1 := blk_frozen (HS.out.at_ 0 rfl) 1))
  have HT := Aside0.mk (OutS.mk0 HS.out rfl (Kd.R_nil _ _ _ _ _))
  have HV := Aside0.mk (And.intro (Kd.C_alloc HV.out.1 (.cells #[.slice none 0 0, .slice none 0 0] 25)) HV.out.2)
  clear HS x0 x1 y0 y1 z0 z1 f0 f1
  generalize hgo : w4.heap.size = go at HT ⊢
  generalize w4.alloc (.cells #[.slice none 0 0, .slice none 0 0] 25) = W4 at HT HV ⊢
  clear hgo
  have hg0 : W4.cell? ⟨go, 0, none⟩ = some (.slice none 0 0) := (blk_cell HT.out.out 0).trans rfl
  go_upto_region 17 with ((with_reducible refine gate_builtin (b := .append) (xs := #[.tmp 61, .tmp 62]) rfl ?_); at_builtin; refine OutS.app0 HT.out rfl (.tmp 61) (.tmp 62) 22 rfl Try.underlying22 info3 rfl s _ _ rfl HV.out.1 CL.out.1 ?_; rintro v0 w5 hgo5 ⟨Av, cv, hv⟩ hT5 hB5; subst hv; have HT5 := Aside0.mk hT5; clear hT5 hB5; have hg0 : w5.cell? ⟨go, 0, none⟩ = some (.slice none 0 0) := (blk_cell hgo5 0).trans rfl; have hf0 := blk_frozen hgo5 0; clear hgo5)
  clear hg0 hf0 HT HV
  generalize w5.setCell ⟨go, 0, none⟩ (.slice Av s.length cv) = W5 at HT5 ⊢
  have HT := HT5; clear HT5
  go_wp2_with (fail)
  go_loopg [15] n.toNat (fun kq v15 W => ∃ (i : Nat) (acc : List S35) (v1 : Value), v15 = .int .i64 (i : Int) ∧ Aside0 (i + kq = n.toNat) ∧ Aside0 (triglyphref04_Dy.lp k a0 l1_1 l2_1 s kq i acc = some (r1, r2, r3)) ∧ Aside0 (OutS w W [(w.heap.size + 1 + 1, #[.slice none 0 0, .slice none 0 0], 25), (w.heap.size + 1, #[.slice A2_0 l2_0.length c2_0, .slice A2_1 l2_1.length c2_1], 25), (w.heap.size, #[.slice A1_0 l1_0.length c1_0, .slice A1_1 l1_1.length c1_1], 25)] go (.slice Av s.length cv) v1 v1 s acc))
  case atStart => exact ⟨0, [], _, rfl, ⟨by omega⟩, H, HT⟩
  case round =>
    clear H HT
    obtain ⟨i, acc, v1, rfl, HI, H, HT⟩ := hrel
    obtain ⟨Aq, cq, hv⟩ := Kd.R_slice HT.out.r1
    subst hv
    cases gk with
    | zero =>
      obtain ⟨rfl, rfl, rfl⟩ : s = r1 ∧ acc = r2 ∧ (0 : Int) = r3 := by have h := H.out; simp only [triglyphref04_Dy.lp, Option.some.injEq, Prod.mk.injEq] at h; exact h
      have hn : decide ((i : Int) < n) = false := decide_eq_false (by have := HI.out; omega)
      have hg0 : wr.cell? ⟨go, 0, none⟩ = some (.slice Av s.length cv) := (blk_cell HT.out.out 0).trans rfl; have hg1 : wr.cell? ⟨go, 1, none⟩ = some (.slice Aq acc.length cq) := (blk_cell HT.out.out 1).trans rfl
      have hz0 : wr.cell? ⟨w.heap.size + 1 + 1, 0, none⟩ = some (.slice none 0 0) := (blk_cell (HT.out.bx.at_ 0 rfl) 0).trans rfl; have hz1 : wr.cell? ⟨w.heap.size + 1 + 1, 1, none⟩ = some (.slice none 0 0) := (blk_cell (HT.out.bx.at_ 0 rfl) 1).trans rfl; have hf0 := blk_frozen (HT.out.bx.at_ 0 rfl) 0; have hf1 := blk_frozen (HT.out.bx.at_ 0 rfl) 1
      go_wp2_with (fail)
      refine bodyPost_ret (results_ct rfl _ _ (w.heap.size + 1 + 1) 25 #[.slice Av s.length cv, .slice Aq acc.length cq] (0, 0) _ rfl (hf_z2 (HT.out.bx.at_ 0 rfl) _ _) Try.underlying25 rfl (by kernel_rfl)) rfl ?_
      exact ⟨_, _, rfl, HT.out.ret (List.mem_of_getElem? (i := 0) rfl)⟩
    | succ q =>
      have hn : decide ((i : Int) < n) = true := decide_eq_true (by have := HI.out; omega)
      have h := H.out; rw [triglyphref04_Dy.lp] at h
      by_cases ci : 0 < l1_1.length ∧ 0 < l2_1.length
      rotate_left
      · rw [if_neg ci] at h; cases h
      rw [if_pos ci] at h; have H := Aside0.mk h; clear h
      obtain ⟨ci1, ci2⟩ := ci
      have hm1 : i % l1_1.length < l1_1.length := Nat.mod_lt _ ci1
      obtain ⟨ad1, E1, e1, ea1, x10, x11, x12, xl1, xc1⟩ := at_T35 HR1.out.2.1 ((i % l1_1.length : Nat) : Int) (by omega) (by omega)
      subst ea1
      have r1 : rd_T35 l1_1 ((i % l1_1.length : Nat) : Int) = l1_1.getD (i % l1_1.length) z35 := by unfold rd_T35; rw [Int.toNat_natCast]
      rw [Int.toNat_natCast, r1] at x10 x11 x12; rw [r1] at xl1 xc1; clear r1
      generalize l1_1.getD (i % l1_1.length) z35 = p1 at x10 x11 x12 xl1 xc1 H
      have X1 := Aside0.mk (And.intro x10 (And.intro x11 x12)); have XC1 := Aside0.mk (And.intro xc1 xl1); clear x10 x11 x12 xl1 xc1
      have hm2 : i % l2_1.length < l2_1.length := Nat.mod_lt _ ci2
      obtain ⟨ad2, E2, e2, ea2, x20, x21, x22, xl2, xc2⟩ := at_T35 HR2.out.2.1 ((i % l2_1.length : Nat) : Int) (by omega) (by omega)
      subst ea2
      have r2 : rd_T35 l2_1 ((i % l2_1.length : Nat) : Int) = l2_1.getD (i % l2_1.length) z35 := by unfold rd_T35; rw [Int.toNat_natCast]
      rw [Int.toNat_natCast, r2] at x20 x21 x22; rw [r2] at xl2 xc2; clear r2
      generalize l2_1.getD (i % l2_1.length) z35 = p2 at x20 x21 x22 xl2 xc2 H
      have X2 := Aside0.mk (And.intro x20 (And.intro x21 x22)); have XC2 := Aside0.mk (And.intro xc2 xl2); clear x20 x21 x22 xl2 xc2
      obtain ⟨⟨b1, b2, b3, b4⟩, qc, h⟩ := Option.bind_eq_some_iff.1 H.out; have QC := Aside0.mk qc; clear qc H; dsimp only at h
      have HWR : Aside0 (wrap64 ((i : Int) + 1) = ((i + 1 : Nat) : Int)) := ⟨by have := HI.out; have := CL.out.2; unfold wrap64; omega⟩
      have mq1 : ((i : Int) % (l1_1.length : Int)).toNat = i % l1_1.length := by rw [← Int.natCast_emod, Int.toNat_natCast]
      have m10 : (0 : Int) ≤ (i : Int) % (l1_1.length : Int) := Int.emod_nonneg _ (by omega)
      have m11 : (i : Int) % (l1_1.length : Int) < (l1_1.length : Int) := Int.emod_lt_of_pos _ (by omega)
      have mi1 : (0 : Int) < (l1_1.length : Int) := (by omega)
      have mn1 : ¬ l1_1 = [] := fun e => by rw [e] at ci1; exact absurd ci1 (by decide)
      have mt1 : Int.tmod (i : Int) (l1_1.length : Int) = (i : Int) % (l1_1.length : Int) := Int.tmod_eq_emod_of_nonneg (by omega)
      have mq2 : ((i : Int) % (l2_1.length : Int)).toNat = i % l2_1.length := by rw [← Int.natCast_emod, Int.toNat_natCast]
      have m20 : (0 : Int) ≤ (i : Int) % (l2_1.length : Int) := Int.emod_nonneg _ (by omega)
      have m21 : (i : Int) % (l2_1.length : Int) < (l2_1.length : Int) := Int.emod_lt_of_pos _ (by omega)
      have mi2 : (0 : Int) < (l2_1.length : Int) := (by omega)
      have mn2 : ¬ l2_1 = [] := fun e => by rw [e] at ci2; exact absurd ci2 (by decide)
      have mt2 : Int.tmod (i : Int) (l2_1.length : Int) = (i : Int) % (l2_1.length : Int) := Int.tmod_eq_emod_of_nonneg (by omega)
      have hi0 : (0 : Int) ≤ (i : Int) := (by omega)
      clear ci1 ci2 hm1 hm2
      go_upto_region 20 with (fail)
      refine start_ (n := 11) (S := fun W' => Below wr.drew.heap.size wr.drew W') (ds := []) #[false, false, false, false, false, false, false, false, false, false, false] (by kernel_rfl) rfl rfl (Below.refl _ _) (fun hHeld => ?_)
      refine with_tabW triglyphref04_Dy.tab20 triglyphref04_Dy.bits20 (fun HT_ HW_ => ?_)
      have HT := Aside0.mk (HT.out.step (below_drew (Below.refl _ _)))
      generalize wr.drew = Wr1 at HT hHeld ⊢
      refine pure_ (i := 0) (N := some 70) (v := ?_) (a' := ?_) #[true, false, false, false, false, false, false, false, false, false, false] rfl rfl (any_of HT_.out (by kernel_rfl)) (fun _ _ _ h => h) (Or.inl ⟨by rfl, ?_⟩) ?_ ?_; rotate_left
      · intro w'; go_simp; with_reducible rfl
      rotate_left
      · simp only [Act.put, List.setIfInBounds_toArray, List.set_cons_zero, List.set_cons_succ, i64_w, i32_w]; rfl
      refine take_ (i := 1) (N := some 71) (v := ?_) (a' := ?_) #[true, true, false, false, false, false, false, false, false, false, false] rfl rfl (take_ofW HT_.out HW_.out (by kernel_rfl)) (fun _ _ _ h => h) (Or.inl ⟨by rfl, ?_⟩) hHeld ?_ ?_; rotate_left
      · intro w' s0; have hz : w'.cell? ⟨w.heap.size, 1, none⟩ = some (.slice (some ad1) l1_1.length c1_1) := (blk_cell ((HT.out.bx.step s0).at_ 2 rfl) 1).trans rfl; go_simp; with_reducible rfl
      rotate_left
      · simp only [Act.put, List.setIfInBounds_toArray, List.set_cons_zero, List.set_cons_succ, i64_w, i32_w]; rfl
      refine pure_ (i := 2) (N := some 72) (v := ?_) (a' := ?_) #[true, true, true, false, false, false, false, false, false, false, false] rfl rfl (any_of HT_.out (by kernel_rfl)) (fun _ _ _ h => h) (Or.inl ⟨by rfl, ?_⟩) ?_ ?_; rotate_left
      · intro w'; go_simp; with_reducible rfl
      rotate_left
      · simp only [Act.put, List.setIfInBounds_toArray, List.set_cons_zero, List.set_cons_succ, i64_w, i32_w]; rfl
      refine pure_ (i := 3) (N := some 73) (v := ?_) (a' := ?_) #[true, true, true, true, false, false, false, false, false, false, false] rfl rfl (any_of HT_.out (by kernel_rfl)) (fun _ _ _ h => h) (Or.inl ⟨by rfl, ?_⟩) ?_ ?_; rotate_left
      · intro w'; go_simp; with_reducible rfl
      rotate_left
      · simp only [Act.put, List.setIfInBounds_toArray, List.set_cons_zero, List.set_cons_succ, i64_w, i32_w]; rfl
      refine take_ (i := 4) (N := some 74) (v := ?_) (a' := ?_) #[true, true, true, true, true, false, false, false, false, false, false] rfl rfl (take_ofW HT_.out HW_.out (by kernel_rfl)) (fun _ _ _ h => h) (Or.inl ⟨by rfl, ?_⟩) hHeld ?_ ?_; rotate_left
      · intro w' s0; have hz : w'.cell? ⟨w.heap.size, 1, none⟩ = some (.slice (some ad1) l1_1.length c1_1) := (blk_cell ((HT.out.bx.step s0).at_ 2 rfl) 1).trans rfl; go_simp; with_reducible rfl
      rotate_left
      · simp only [Act.put, List.setIfInBounds_toArray, List.set_cons_zero, List.set_cons_succ, i64_w, i32_w]; rfl
      refine pure_ (i := 5) (N := some 75) (v := ?_) (a' := ?_) #[true, true, true, true, true, true, false, false, false, false, false] rfl rfl (any_of HT_.out (by kernel_rfl)) (fun _ _ _ h => h) (Or.inl ⟨by rfl, ?_⟩) ?_ ?_; rotate_left
      · intro w'; go_simp; with_reducible rfl
      rotate_left
      · simp only [Act.put, List.setIfInBounds_toArray, List.set_cons_zero, List.set_cons_succ, i64_w, i32_w]; rfl
      skip
      refine pure_ (i := 6) (N := some 76) (v := ?_) (a' := ?_) #[true, true, true, true, true, true, true, false, false, false, false] rfl rfl (any_of HT_.out (by kernel_rfl)) (fun _ _ _ h => h) (Or.inl ⟨by rfl, ?_⟩) ?_ ?_; rotate_left
      · intro w'; go_simp; with_reducible rfl
      rotate_left
      · simp only [Act.put, List.setIfInBounds_toArray, List.set_cons_zero, List.set_cons_succ, i64_w, i32_w]; rfl
      refine pure_ (i := 7) (N := some 77) (v := ?_) (a' := ?_) #[true, true, true, true, true, true, true, true, false, false, false] rfl rfl (any_of HT_.out (by kernel_rfl)) (fun _ _ _ h => h) (Or.inl ⟨by rfl, ?_⟩) ?_ ?_; rotate_left
      · intro w'; go_simp; with_reducible rfl
      rotate_left
      · simp only [Act.put, List.setIfInBounds_toArray, List.set_cons_zero, List.set_cons_succ, i64_w, i32_w]; rfl
      refine take_ (i := 8) (N := some 78) (v := ?_) (a' := ?_) #[true, true, true, true, true, true, true, true, true, false, false] rfl rfl (take_ofW HT_.out HW_.out (by kernel_rfl)) (fun _ _ _ h => h) (Or.inl ⟨by rfl, ?_⟩) hHeld ?_ ?_; rotate_left
      · intro w' s0; have hb := (HT.out.bx.step s0).bel; have h0 := pw_cell_below hb X1.out.1; have h1 := pw_cell_below hb X1.out.2.1; have h2 := pw_cell_below hb X1.out.2.2; clear hb; go_simp; with_reducible rfl
      rotate_left
      · simp only [Act.put, List.setIfInBounds_toArray, List.set_cons_zero, List.set_cons_succ, i64_w, i32_w]; rfl
      refine one_ (i := 9) (N := some 16) #[true, true, true, true, true, true, true, true, true, true, false] rfl rfl (one_of HT_.out (by kernel_rfl)) (by decide) (fun K hK => ?_)
      refine box_step ?hg (N := 16) ?hd (cs := #[.int .i64 0, .int .i64 0, .slice none 0 0]) (t := 35) ?hr ?_; (case hd => rfl); (case hg => rfl); (case hr => first | (go_simp; done) | (go_simp; rfl))
      intro gx hg W1 hbox hb
      have hB := hHeld.trans (hb.mono hHeld.size); have hl : Wr1.heap.size ≤ gx := Nat.le_trans hHeld.size (Nat.le_of_eq hg.symm)
      have HX := Aside0.mk (show BxS Wr1 W1 [(gx, #[.int .i64 0, .int .i64 0, .slice none 0 0], 35)] from ⟨hB, fun p hp => by rw [List.mem_singleton.1 hp]; exact hbox, fun p hp => by rw [List.mem_singleton.1 hp]; exact hl⟩)
      refine hK.out _ _ hB (fun hHeld => ?_); clear hK K
      refine norm_ (a' := ?_) ?_ ?_; rotate_left
      · show Act.put _ (some 16) _ = _
        simp only [Act.put, List.setIfInBounds_toArray, List.set_cons_zero, List.set_cons_succ, i64_w, i32_w]; rfl
      clear hbox hg hb hl
      refine one_ (i := 10) (N := none) #[true, true, true, true, true, true, true, true, true, true, true] rfl rfl (one_of HT_.out (by kernel_rfl)) (by decide) (fun K hK => ?_)
      have hs0 : W1.cell? ⟨gx, 0, none⟩ = some (.int .i64 0) := (blk_cell (HX.out.at_ 0 rfl) 0).trans rfl; have hs1 : W1.cell? ⟨gx, 1, none⟩ = some (.int .i64 0) := (blk_cell (HX.out.at_ 0 rfl) 1).trans rfl; have hs2 : W1.cell? ⟨gx, 2, none⟩ = some (.slice none 0 0) := (blk_cell (HX.out.at_ 0 rfl) 2).trans rfl; have hz0 := blk_frozen (HX.out.at_ 0 rfl) 0; have hz1 := blk_frozen (HX.out.at_ 0 rfl) 1; have hz2 := blk_frozen (HX.out.at_ 0 rfl) 2
      refine skip_ (w1 := ?_) (by rfl) rfl ?_ ?_; rotate_left
      · go_simp; rfl
      have HX := Aside0.mk (HX.out.put3 (fun p hp => by cases hp) (.int .i64 p1.f0) (.int .i64 p1.f1) (.slice E1 p1.f2.length e1))
      refine hK.out _ _ HX.out.bel (fun hHeld => ?_); clear hK K
      clear hs0 hs1 hs2 hz0 hz1 hz2
      generalize ((W1.setCell _ _).setCell _ _).setCell _ _ = Wx at HX ⊢
      refine done_ (done_of HT_.out (by kernel_rfl)) ?_
      have HT := Aside0.mk (HT.out.step HX.out.bel)
      have HX1 := Aside0.mk HX.out; clear HX
      go_upto_region 21 with (fail)
      refine start_ (n := 11) (S := fun W' => Below Wx.drew.heap.size Wx.drew W') (ds := []) #[false, false, false, false, false, false, false, false, false, false, false] (by kernel_rfl) rfl rfl (Below.refl _ _) (fun hHeld => ?_)
      refine with_tabW triglyphref04_Dy.tab21 triglyphref04_Dy.bits21 (fun HT_ HW_ => ?_)
      have HT := Aside0.mk (HT.out.step (below_drew (Below.refl _ _)))
      have HX1 := Aside0.mk (HX1.out.step (below_drew (Below.refl _ _)))
      generalize Wx.drew = Wr2 at HT hHeld HX1 ⊢
      refine pure_ (i := 0) (N := some 79) (v := ?_) (a' := ?_) #[true, false, false, false, false, false, false, false, false, false, false] rfl rfl (any_of HT_.out (by kernel_rfl)) (fun _ _ _ h => h) (Or.inl ⟨by rfl, ?_⟩) ?_ ?_; rotate_left
      · intro w'; go_simp; with_reducible rfl
      rotate_left
      · simp only [Act.put, List.setIfInBounds_toArray, List.set_cons_zero, List.set_cons_succ, i64_w, i32_w]; rfl
      refine take_ (i := 1) (N := some 80) (v := ?_) (a' := ?_) #[true, true, false, false, false, false, false, false, false, false, false] rfl rfl (take_ofW HT_.out HW_.out (by kernel_rfl)) (fun _ _ _ h => h) (Or.inl ⟨by rfl, ?_⟩) hHeld ?_ ?_; rotate_left
      · intro w' s0; have hz : w'.cell? ⟨w.heap.size + 1, 1, none⟩ = some (.slice (some ad2) l2_1.length c2_1) := (blk_cell ((HT.out.bx.step s0).at_ 1 rfl) 1).trans rfl; go_simp; with_reducible rfl
      rotate_left
      · simp only [Act.put, List.setIfInBounds_toArray, List.set_cons_zero, List.set_cons_succ, i64_w, i32_w]; rfl
      refine pure_ (i := 2) (N := some 81) (v := ?_) (a' := ?_) #[true, true, true, false, false, false, false, false, false, false, false] rfl rfl (any_of HT_.out (by kernel_rfl)) (fun _ _ _ h => h) (Or.inl ⟨by rfl, ?_⟩) ?_ ?_; rotate_left
      · intro w'; go_simp; with_reducible rfl
      rotate_left
      · simp only [Act.put, List.setIfInBounds_toArray, List.set_cons_zero, List.set_cons_succ, i64_w, i32_w]; rfl
      refine pure_ (i := 3) (N := some 82) (v := ?_) (a' := ?_) #[true, true, true, true, false, false, false, false, false, false, false] rfl rfl (any_of HT_.out (by kernel_rfl)) (fun _ _ _ h => h) (Or.inl ⟨by rfl, ?_⟩) ?_ ?_; rotate_left
      · intro w'; go_simp; with_reducible rfl
      rotate_left
      · simp only [Act.put, List.setIfInBounds_toArray, List.set_cons_zero, List.set_cons_succ, i64_w, i32_w]; rfl
      refine take_ (i := 4) (N := some 83) (v := ?_) (a' := ?_) #[true, true, true, true, true, false, false, false, false, false, false] rfl rfl (take_ofW HT_.out HW_.out (by kernel_rfl)) (fun _ _ _ h => h) (Or.inl ⟨by rfl, ?_⟩) hHeld ?_ ?_; rotate_left
      · intro w' s0; have hz : w'.cell? ⟨w.heap.size + 1, 1, none⟩ = some (.slice (some ad2) l2_1.length c2_1) := (blk_cell ((HT.out.bx.step s0).at_ 1 rfl) 1).trans rfl; go_simp; with_reducible rfl
      rotate_left
      · simp only [Act.put, List.setIfInBounds_toArray, List.set_cons_zero, List.set_cons_succ, i64_w, i32_w]; rfl
      refine pure_ (i := 5) (N := some 84) (v := ?_) (a' := ?_) #[true, true, true, true, true, true, false, false, false, false, false] rfl rfl (any_of HT_.out (by kernel_rfl)) (fun _ _ _ h => h) (Or.inl ⟨by rfl, ?_⟩) ?_ ?_; rotate_left
      · intro w'; go_simp; with_reducible rfl
      rotate_left
      · simp only [Act.put, List.setIfInBounds_toArray, List.set_cons_zero, List.set_cons_succ, i64_w, i32_w]; rfl
      skip
      refine pure_ (i := 6) (N := some 85) (v := ?_) (a' := ?_) #[true, true, true, true, true, true, true, false, false, false, false] rfl rfl (any_of HT_.out (by kernel_rfl)) (fun _ _ _ h => h) (Or.inl ⟨by rfl, ?_⟩) ?_ ?_; rotate_left
      · intro w'; go_simp; with_reducible rfl
      rotate_left
      · simp only [Act.put, List.setIfInBounds_toArray, List.set_cons_zero, List.set_cons_succ, i64_w, i32_w]; rfl
      refine pure_ (i := 7) (N := some 86) (v := ?_) (a' := ?_) #[true, true, true, true, true, true, true, true, false, false, false] rfl rfl (any_of HT_.out (by kernel_rfl)) (fun _ _ _ h => h) (Or.inl ⟨by rfl, ?_⟩) ?_ ?_; rotate_left
      · intro w'; go_simp; with_reducible rfl
      rotate_left
      · simp only [Act.put, List.setIfInBounds_toArray, List.set_cons_zero, List.set_cons_succ, i64_w, i32_w]; rfl
      refine take_ (i := 8) (N := some 87) (v := ?_) (a' := ?_) #[true, true, true, true, true, true, true, true, true, false, false] rfl rfl (take_ofW HT_.out HW_.out (by kernel_rfl)) (fun _ _ _ h => h) (Or.inl ⟨by rfl, ?_⟩) hHeld ?_ ?_; rotate_left
      · intro w' s0; have hb := (HT.out.bx.step s0).bel; have h0 := pw_cell_below hb X2.out.1; have h1 := pw_cell_below hb X2.out.2.1; have h2 := pw_cell_below hb X2.out.2.2; clear hb; go_simp; with_reducible rfl
      rotate_left
      · simp only [Act.put, List.setIfInBounds_toArray, List.set_cons_zero, List.set_cons_succ, i64_w, i32_w]; rfl
      refine one_ (i := 9) (N := some 17) #[true, true, true, true, true, true, true, true, true, true, false] rfl rfl (one_of HT_.out (by kernel_rfl)) (by decide) (fun K hK => ?_)
      refine box_step ?hg (N := 17) ?hd (cs := #[.int .i64 0, .int .i64 0, .slice none 0 0]) (t := 35) ?hr ?_; (case hd => rfl); (case hg => rfl); (case hr => first | (go_simp; done) | (go_simp; rfl))
      intro gy hg W1 hbox hb
      have hB := hHeld.trans (hb.mono hHeld.size); have hl : Wr2.heap.size ≤ gy := Nat.le_trans hHeld.size (Nat.le_of_eq hg.symm)
      have HX := Aside0.mk (show BxS Wr2 W1 [(gy, #[.int .i64 0, .int .i64 0, .slice none 0 0], 35)] from ⟨hB, fun p hp => by rw [List.mem_singleton.1 hp]; exact hbox, fun p hp => by rw [List.mem_singleton.1 hp]; exact hl⟩)
      refine hK.out _ _ hB (fun hHeld => ?_); clear hK K
      refine norm_ (a' := ?_) ?_ ?_; rotate_left
      · show Act.put _ (some 17) _ = _
        simp only [Act.put, List.setIfInBounds_toArray, List.set_cons_zero, List.set_cons_succ, i64_w, i32_w]; rfl
      clear hbox hg hb hl
      refine one_ (i := 10) (N := none) #[true, true, true, true, true, true, true, true, true, true, true] rfl rfl (one_of HT_.out (by kernel_rfl)) (by decide) (fun K hK => ?_)
      have hs0 : W1.cell? ⟨gy, 0, none⟩ = some (.int .i64 0) := (blk_cell (HX.out.at_ 0 rfl) 0).trans rfl; have hs1 : W1.cell? ⟨gy, 1, none⟩ = some (.int .i64 0) := (blk_cell (HX.out.at_ 0 rfl) 1).trans rfl; have hs2 : W1.cell? ⟨gy, 2, none⟩ = some (.slice none 0 0) := (blk_cell (HX.out.at_ 0 rfl) 2).trans rfl; have hz0 := blk_frozen (HX.out.at_ 0 rfl) 0; have hz1 := blk_frozen (HX.out.at_ 0 rfl) 1; have hz2 := blk_frozen (HX.out.at_ 0 rfl) 2
      refine skip_ (w1 := ?_) (by rfl) rfl ?_ ?_; rotate_left
      · go_simp; rfl
      have HX := Aside0.mk (HX.out.put3 (fun p hp => by cases hp) (.int .i64 p2.f0) (.int .i64 p2.f1) (.slice E2 p2.f2.length e2))
      refine hK.out _ _ HX.out.bel (fun hHeld => ?_); clear hK K
      clear hs0 hs1 hs2 hz0 hz1 hz2
      generalize ((W1.setCell _ _).setCell _ _).setCell _ _ = Wy at HX ⊢
      refine done_ (done_of HT_.out (by kernel_rfl)) ?_
      have HT := Aside0.mk (HT.out.step HX.out.bel)
      have HX1 := Aside0.mk (HX1.out.step HX.out.bel)
      have xs0 : Wy.cell? ⟨gx, 0, none⟩ = some (.int .i64 p1.f0) := (blk_cell (HX1.out.at_ 0 rfl) 0).trans rfl; have xs1 : Wy.cell? ⟨gx, 1, none⟩ = some (.int .i64 p1.f1) := (blk_cell (HX1.out.at_ 0 rfl) 1).trans rfl; have xs2 : Wy.cell? ⟨gx, 2, none⟩ = some (.slice E1 p1.f2.length e1) := (blk_cell (HX1.out.at_ 0 rfl) 2).trans rfl; have ys0 : Wy.cell? ⟨gy, 0, none⟩ = some (.int .i64 p2.f0) := (blk_cell (HX.out.at_ 0 rfl) 0).trans rfl; have ys1 : Wy.cell? ⟨gy, 1, none⟩ = some (.int .i64 p2.f1) := (blk_cell (HX.out.at_ 0 rfl) 1).trans rfl; have ys2 : Wy.cell? ⟨gy, 2, none⟩ = some (.slice E2 p2.f2.length e2) := (blk_cell (HX.out.at_ 0 rfl) 2).trans rfl
      by_cases ce : b4 = 0
      rotate_left
      · rw [if_neg ce] at h
        simp only [Option.some.injEq, Prod.mk.injEq] at h; obtain ⟨rfl, rfl, rfl⟩ := h
        have ceb : (b4 != 0) = true := bne_iff_ne.2 ce; clear ce
        go_wp2_with (go_at_call 15; (with_reducible refine (triglyphref04_Cell.calls k a0 p1.f0 p1.f1 _ _ p1.f2 p2.f0 p2.f1 _ _ p2.f2 b1 b2 b3 _ _ (Kd.C_below XC1.out.1 HT.out.bx.bel) XC1.out.2 (Kd.C_below XC2.out.1 HT.out.bx.bel) XC2.out.2 QC.out).mono ?_); rintro e w5 ⟨v2, rfl, hR, hb⟩; have HR := Aside0.mk (Kd.R_lower (Kd.R_mono (Kd.R_bound hR) (fun k hk => (hk.2.1 : Wy.heap.size ≤ k))) HT.out.bx.bel.size); clear hR; obtain ⟨Ab, cb, hv⟩ := Kd.R_slice HR.out; subst hv; have HT6 := Aside0.mk ((HT.out.step hb).step (below_alloc (Below.refl _ _) (.cells #[.int .i64 b1, .int .i64 b2, .slice Ab b3.length cb] 35))); clear hb; have hz0 : (w5.alloc (.cells #[.int .i64 b1, .int .i64 b2, .slice Ab b3.length cb] 35)).cell? ⟨w.heap.size + 1 + 1, 0, none⟩ = some (.slice none 0 0) := (blk_cell (HT6.out.bx.at_ 0 rfl) 0).trans rfl; have hz1 : (w5.alloc (.cells #[.int .i64 b1, .int .i64 b2, .slice Ab b3.length cb] 35)).cell? ⟨w.heap.size + 1 + 1, 1, none⟩ = some (.slice none 0 0) := (blk_cell (HT6.out.bx.at_ 0 rfl) 1).trans rfl; have hf0 := blk_frozen (HT6.out.bx.at_ 0 rfl) 0; have hf1 := blk_frozen (HT6.out.bx.at_ 0 rfl) 1; have hg1 : (w5.alloc (.cells #[.int .i64 b1, .int .i64 b2, .slice Ab b3.length cb] 35)).cell? ⟨go, 1, none⟩ = some (.slice Aq acc.length cq) := (blk_cell HT6.out.out 1).trans rfl)
        all_goals (refine bodyPost_ret (results_ct rfl _ _ (w.heap.size + 1 + 1) 25 #[.slice none 0 0, .slice none 0 0] (0, 0) _ rfl (hf_z2 (HT6.out.bx.at_ 0 rfl) _ _) Try.underlying25 rfl (by kernel_rfl)) rfl ?_; exact ⟨_, _, rfl, Kd.R_nil _ _ _ _ _, Kd.R_nil _ _ _ _ _, below_set (below_set HT6.out.bx.bel (HT6.out.bx.fr _ (List.mem_of_getElem? (i := 0) rfl))) (HT6.out.bx.fr _ (List.mem_of_getElem? (i := 0) rfl))⟩)
      rw [if_pos ce] at h; subst ce
      by_cases cl : acc.length < 3518437208883
      rotate_left
      · rw [if_neg cl] at h; cases h
      rw [if_pos cl] at h; have H := Aside0.mk h; have CA := Aside0.mk cl; clear h cl
      go_wp2_with (first | (go_at_call 15; (with_reducible refine (triglyphref04_Cell.calls k a0 p1.f0 p1.f1 _ _ p1.f2 p2.f0 p2.f1 _ _ p2.f2 b1 b2 b3 _ _ (Kd.C_below XC1.out.1 HT.out.bx.bel) XC1.out.2 (Kd.C_below XC2.out.1 HT.out.bx.bel) XC2.out.2 QC.out).mono ?_); rintro e w5 ⟨v2, rfl, hR, hb⟩; have HR := Aside0.mk (Kd.R_lower (Kd.R_mono (Kd.R_bound hR) (fun k hk => (hk.2.1 : Wy.heap.size ≤ k))) HT.out.bx.bel.size); clear hR; obtain ⟨Ab, cb, hv⟩ := Kd.R_slice HR.out; subst hv; have HT6 := Aside0.mk ((HT.out.step hb).step (below_alloc (Below.refl _ _) (.cells #[.int .i64 b1, .int .i64 b2, .slice Ab b3.length cb] 35))); clear hb; have hz0 : (w5.alloc (.cells #[.int .i64 b1, .int .i64 b2, .slice Ab b3.length cb] 35)).cell? ⟨w.heap.size + 1 + 1, 0, none⟩ = some (.slice none 0 0) := (blk_cell (HT6.out.bx.at_ 0 rfl) 0).trans rfl; have hz1 : (w5.alloc (.cells #[.int .i64 b1, .int .i64 b2, .slice Ab b3.length cb] 35)).cell? ⟨w.heap.size + 1 + 1, 1, none⟩ = some (.slice none 0 0) := (blk_cell (HT6.out.bx.at_ 0 rfl) 1).trans rfl; have hf0 := blk_frozen (HT6.out.bx.at_ 0 rfl) 0; have hf1 := blk_frozen (HT6.out.bx.at_ 0 rfl) 1; have hg1 : (w5.alloc (.cells #[.int .i64 b1, .int .i64 b2, .slice Ab b3.length cb] 35)).cell? ⟨go, 1, none⟩ = some (.slice Aq acc.length cq) := (blk_cell HT6.out.out 1).trans rfl) | ((with_reducible refine gate_builtin (b := .append) (xs := #[.tmp 100, .tmp 102]) rfl ?_); at_builtin; refine OutS.app HT6.out rfl (.tmp 100) (.tmp 102) 23 (.agg #[(.int .i64 0), (.int .i64 0), (.slice none 0 0)]) rfl Try.underlying23 info35 rfl rfl (by first | (go_simp; done) | (go_simp; rfl)) (⟨b1, b2, b3⟩ : S35) [.int .i64 b1, .int .i64 b2, .slice Ab b3.length cb] (fun k => Wy.heap.size ≤ k) (k35_mkM _ _ _ (⟨b1, b2, b3⟩ : S35) (Kd.R_alloc HR.out _)) (fun k hk => HT.out.okf k hk) (by have := CA.out; omega) ?_; intro v3 w7 hT7; have HT7 := Aside0.mk hT7; clear hT7; obtain ⟨A7, c7, hv⟩ := Kd.R_slice HT7.out.r1; rw [List.length_append, List.length_singleton] at hv; subst hv; have hq1 : w7.cell? ⟨go, 1, none⟩ = some (.slice Aq acc.length cq) := (blk_cell HT7.out.out 1).trans rfl; have hqf := blk_frozen HT7.out.out 1))
      go_roundg q
      case measure => omega
      case rel => exact ⟨i + 1, acc ++ [⟨b1, b2, b3⟩], .slice A7 (acc.length + 1) c7, congrArg (Value.int .i64) HWR.out, ⟨by have := HI.out; omega⟩, H, ⟨HT7.out.put1⟩⟩
end Go.Proofs.Ytemlommdfmeabaa.P
