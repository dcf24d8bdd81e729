/- Written by a program of this session: the functions that the laws reach, what each comes to, and each law as it is stated, for every input. No condition. -/
import Derived.Test.YtfblidojoepcpaaPx0
namespace Go.Proofs.Ytfblidojoepcpaa.P
open Go.RowKit Go.Proofs.YtfblidojoepcpaaW.PrintWords Go.Proofs.YtfblidojoepcpaaW.PrintLast Go.Proofs.YtfblidojoepcpaaW.PrintMore
attribute [local go_sem] max2_int min2_int max_two min_two max_three min_three max_four min_four   -- for this text's walks alone
set_option linter.unusedVariables false
set_option linter.unusedSimpArgs false
mutual
def triglyphref10_Name.j0 : Nat → ByteArray → Bool → Option (Bool)
 | 0, _, _ => none
 | k + 1, x0, x12 => if x12 = true then (some false) else (triglyphref10_Name.l0 k x0 0)
def triglyphref10_Name.l0 : Nat → ByteArray → Int → Option (Bool)
 | 0, _, _ => none
 | k + 1, x0, x3 => if x3 < (x0.size : Int) then (if 0 ≤ x3 then (if (bt x0 x3) ≥ 48 then (if (bt x0 x3) < 97 then (if x3 = 0 then (some false) else (if ((bt x0 x3) ≤ 57) then (triglyphref10_Name.l0 k x0 (wrap64 (x3 + 1))) else (some false))) else (if (bt x0 x3) > 119 then (if x3 = 0 then (some false) else (if ((bt x0 x3) ≤ 57) then (triglyphref10_Name.l0 k x0 (wrap64 (x3 + 1))) else (some false))) else (triglyphref10_Name.l0 k x0 (wrap64 (x3 + 1))))) else (if (bt x0 x3) < 97 then (if x3 = 0 then (some false) else (some false)) else (if (bt x0 x3) > 119 then (if x3 = 0 then (some false) else (some false)) else (triglyphref10_Name.l0 k x0 (wrap64 (x3 + 1)))))) else (none)) else (some true)
end
def triglyphref10_Name.f (k : Nat) (a0 : ByteArray) : Option (Bool) := if (a0.size : Int) < 1 then (triglyphref10_Name.j0 k a0 true) else (triglyphref10_Name.j0 k a0 (decide ((a0.size : Int) > 8)))
theorem triglyphref10_Name.mono_l : ∀ k, (∀ y0 y1, LeO (triglyphref10_Name.j0 k y0 y1) (triglyphref10_Name.j0 (k + 1) y0 y1)) ∧ (∀ y0 y1, LeO (triglyphref10_Name.l0 k y0 y1) (triglyphref10_Name.l0 (k + 1) y0 y1))
 | 0 => ⟨fun _ _ r h => by simp [triglyphref10_Name.j0] at h, fun _ _ r h => by simp [triglyphref10_Name.l0] at h⟩
 | k + 1 => by
  obtain ⟨ih0, ih1⟩ := triglyphref10_Name.mono_l k
  refine ⟨?_, ?_⟩
  ·intro y0 y1
   unfold triglyphref10_Name.j0
   repeat' first
   | (with_reducible exact ih0 _ _)
   | (with_reducible exact ih1 _ _)
   | (with_reducible exact LeO.refl _)
   | (with_reducible exact LeO.none _)
   | (with_reducible refine LeO.ite ?_ ?_)
   | (with_reducible refine LeO.bind ?_ (fun _ => ?_))





  ·intro y0 y1
   unfold triglyphref10_Name.l0
   repeat' first
   | (with_reducible exact ih0 _ _)
   | (with_reducible exact ih1 _ _)
   | (with_reducible exact LeO.refl _)
   | (with_reducible exact LeO.none _)
   | (with_reducible refine LeO.ite ?_ ?_)
   | (with_reducible refine LeO.bind ?_ (fun _ => ?_))
theorem triglyphref10_Name.mono : ∀ a0 k, LeO (triglyphref10_Name.f k a0) (triglyphref10_Name.f (k + 1) a0) := by
 intro a0 k
 obtain ⟨ih0, ih1⟩ := triglyphref10_Name.mono_l k
 unfold triglyphref10_Name.f
 repeat' first
   | (with_reducible exact ih0 _ _)
   | (with_reducible exact ih1 _ _)
   | (with_reducible exact LeO.refl _)
   | (with_reducible exact LeO.none _)
   | (with_reducible refine LeO.ite ?_ ?_)
   | (with_reducible refine LeO.bind ?_ (fun _ => ?_))
set_option maxHeartbeats 8000000 in
set_option maxRecDepth 100000 in
theorem triglyphref10_Name.calls (k : Nat) (a0 : ByteArray) (r : Bool) (w : World) (h : triglyphref10_Name.f k a0 = some r) :
  Calls Try.prog 10 #[.string a0] w fun e w' => e = .returned (.bool r) ∧ Drawn0 w w' := by
 have H : (if (a0.size : Int) < 1 then (triglyphref10_Name.j0 k a0 true) else (triglyphref10_Name.j0 k a0 (decide ((a0.size : Int) > 8)))) = some r := h
 clear h
 have HC2 := gA H
 clear H
 go_enter Try.func10, Try.ntmps10
 go_upto_region 1 with (fail)
 go_cut [12] (fun v12 wc => ∃ (kq : Nat) (x12_1 : Bool), v12 = .bool x12_1 ∧ Aside0 (triglyphref10_Name.j0 kq a0 x12_1 = some r) ∧ Aside0 (kq ≤ k) ∧ Drawn0 w wc)
 case first =>
  have H := HC2.out; clear HC2
  by_cases c3 : (a0.size : Int) < 1
  ·rw [if_pos c3] at H
   have c3b0 := decide_eq_true c3
   have c3b1 : decide (a0.size < 1) = true := decide_eq_true (by omega)
   clear c3
   (first | rw [c3b0] | rw [c3b1] | (simp only [i64_w, i32_w]; rw [c3b0]) | skip)
   have H' := gA H
   clear H
   go_wp2
   all_goals (go_meet; (case rel => exact ⟨_, (true), (by first | rfl | (simp; done) | (simp [*]; done) | (exfalso; simp_all; done) | (exfalso; simp_all; omega)), H', ⟨by first | omega | exact Nat.le_refl _⟩, by repeat (first | exact Drawn0.refl _ | apply Drawn0.step)⟩))
  ·rw [if_neg c3] at H
   have c3b0 := decide_eq_false c3
   have c3b1 : decide (a0.size < 1) = false := decide_eq_false (by omega)
   clear c3
   (first | rw [c3b0] | rw [c3b1] | (simp only [i64_w, i32_w]; rw [c3b0]) | skip)
   have H' := gA H
   clear H
   go_wp2
   all_goals (go_meet; (case rel => exact ⟨_, (decide ((a0.size : Int) > 8)), (by first | rfl | (simp; done) | (simp [*]; done) | (exfalso; simp_all; done) | (exfalso; simp_all; omega)), H', ⟨by first | omega | exact Nat.le_refl _⟩, by repeat (first | exact Drawn0.refl _ | apply Drawn0.step)⟩))
 case rest =>
  clear HC2
  try clear c1
  try clear p2
  try clear c3
  try clear c3b0
  try clear c3b1
  obtain ⟨kq, x12_1, rfl, HA, HJ1, ⟨mc1, rfl⟩⟩ := hcut
  cases kq with
  | zero => exact absurd HA.out (by simp [triglyphref10_Name.j0])
  | succ kj1 =>
   have H := HA.out; clear HA
   simp only [triglyphref10_Name.j0] at H
   by_cases c4 : x12_1 = true
   ·subst c4
    have H1 : (some false) = some r := by rw [if_pos rfl] at H; exact H
    clear H; have H := H1; clear H1
    obtain rfl := Option.some.inj H
    go_wp2
    go_ret
    exact ⟨rfl, by repeat (first | exact Drawn0.refl _ | apply Drawn0.step)⟩
   ·replace c4 := Bool.eq_false_iff.mpr c4
    subst c4
    have H1 : (triglyphref10_Name.l0 kj1 a0 0) = some r := by rw [if_neg (show ¬ (false = true) by decide)] at H; exact H
    clear H; have H := H1; clear H1
    have H' := gA H
    clear H
    go_wp2
    go_loopg [3] kj1 (fun kq v3 w' => ∃ (x3_2 : Int), v3 = .int .i64 x3_2 ∧ Aside0 (triglyphref10_Name.l0 kq a0 x3_2 = some r) ∧ Aside0 (kq ≤ kj1) ∧ Drawn0 w w')
    case atStart => exact ⟨(0), (rfl), H', ⟨Nat.le_refl _⟩, by repeat (first | exact Drawn0.refl _ | apply Drawn0.step)⟩
    case round =>
     clear H'
     try clear c1
     try clear p2
     try clear c3
     try clear c3b0
     try clear c3b1
     try clear c4
     try clear p2
     obtain ⟨x3_2, rfl, HA, HK2, ⟨m2, rfl⟩⟩ := hrel
     cases gk with
     | zero => exact absurd HA.out (by simp [triglyphref10_Name.l0])
     | succ k2 =>
      have H := HA.out; clear HA
      simp only [triglyphref10_Name.l0] at H
      by_cases c5 : x3_2 < (a0.size : Int)
      ·rw [if_pos c5] at H
       have c5b0 := decide_eq_true c5
       clear c5
       obtain ⟨c6, H⟩ := iS H
       have c6b0 := decide_eq_true c6
       clear c6
       by_cases c8 : (bt a0 x3_2) ≥ 48
       ·rw [if_pos c8] at H
        have c8b0 : decide (48 ≤ (bt a0 x3_2)) = true := decide_eq_true c8
        clear c8
        by_cases c11 : (bt a0 x3_2) < 97
        ·rw [if_pos c11] at H
         have c11b0 := decide_eq_true c11
         clear c11
         by_cases c12 : x3_2 = 0
         ·rw [if_pos c12] at H
          have c12b0 : (x3_2 == 0) = true := beq_iff_eq.mpr c12
          have c12b1 : (x3_2 != 0) = false := bne_eq_false_iff_eq.mpr c12
          clear c12
          obtain rfl := Option.some.inj H
          have p7 : 0 ≤ (x3_2 : Int) := of_decide_eq_true (by assumption)
          have q7 : x3_2 < (a0.size : Int) := of_decide_eq_true (by assumption)
          have hx7 := bt_at a0 x3_2
          replace p7 := eq_true p7
          replace q7 := eq_true q7
          have p9 : 0 ≤ (x3_2 : Int) := of_decide_eq_true (by assumption)
          have q9 : x3_2 < (a0.size : Int) := of_decide_eq_true (by assumption)
          have hx9 := bt_at a0 x3_2
          replace p9 := eq_true p9
          replace q9 := eq_true q9
          have p10 : 0 ≤ (x3_2 : Int) := of_decide_eq_true (by assumption)
          have q10 : x3_2 < (a0.size : Int) := of_decide_eq_true (by assumption)
          have hx10 := bt_at a0 x3_2
          replace p10 := eq_true p10
          replace q10 := eq_true q10
          go_wp2
          go_ret
          exact ⟨rfl, by repeat (first | exact Drawn0.refl _ | apply Drawn0.step)⟩
         ·rw [if_neg c12] at H
          have c12b0 : (x3_2 == 0) = false := beq_eq_false_iff_ne.mpr c12
          have c12b1 : (x3_2 != 0) = true := bne_iff_ne.mpr c12
          by_cases c13 : ((bt a0 x3_2) ≤ 57)
          ·rw [if_pos c13] at H
           have c13b0 : decide ((bt a0 x3_2) ≤ 57) = true := decide_eq_true c13
           clear c13
           have H' := gA H
           clear H
           have p7 : 0 ≤ (x3_2 : Int) := of_decide_eq_true (by assumption)
           have q7 : x3_2 < (a0.size : Int) := of_decide_eq_true (by assumption)
           have hx7 := bt_at a0 x3_2
           replace p7 := eq_true p7
           replace q7 := eq_true q7
           have p9 : 0 ≤ (x3_2 : Int) := of_decide_eq_true (by assumption)
           have q9 : x3_2 < (a0.size : Int) := of_decide_eq_true (by assumption)
           have hx9 := bt_at a0 x3_2
           replace p9 := eq_true p9
           replace q9 := eq_true q9
           have p10 : 0 ≤ (x3_2 : Int) := of_decide_eq_true (by assumption)
           have q10 : x3_2 < (a0.size : Int) := of_decide_eq_true (by assumption)
           have hx10 := bt_at a0 x3_2
           replace p10 := eq_true p10
           replace q10 := eq_true q10
           go_wp2
           go_roundg k2
           case measure => have := HJ1.out; have := HK2.out; omega
           case rel => exact ⟨(wrap64 (x3_2 + 1)), (rfl), H', ⟨by have := HJ1.out; have := HK2.out; omega⟩, by repeat (first | exact Drawn0.refl _ | apply Drawn0.step)⟩
          ·rw [if_neg c13] at H
           have c13b0 : decide ((bt a0 x3_2) ≤ 57) = false := decide_eq_false c13
           clear c13
           obtain rfl := Option.some.inj H
           have p7 : 0 ≤ (x3_2 : Int) := of_decide_eq_true (by assumption)
           have q7 : x3_2 < (a0.size : Int) := of_decide_eq_true (by assumption)
           have hx7 := bt_at a0 x3_2
           replace p7 := eq_true p7
           replace q7 := eq_true q7
           have p9 : 0 ≤ (x3_2 : Int) := of_decide_eq_true (by assumption)
           have q9 : x3_2 < (a0.size : Int) := of_decide_eq_true (by assumption)
           have hx9 := bt_at a0 x3_2
           replace p9 := eq_true p9
           replace q9 := eq_true q9
           have p10 : 0 ≤ (x3_2 : Int) := of_decide_eq_true (by assumption)
           have q10 : x3_2 < (a0.size : Int) := of_decide_eq_true (by assumption)
           have hx10 := bt_at a0 x3_2
           replace p10 := eq_true p10
           replace q10 := eq_true q10
           go_wp2
           go_ret
           exact ⟨rfl, by repeat (first | exact Drawn0.refl _ | apply Drawn0.step)⟩
        ·rw [if_neg c11] at H
         have c11b0 := decide_eq_false c11
         clear c11
         by_cases c15 : (bt a0 x3_2) > 119
         ·rw [if_pos c15] at H
          have c15b0 : decide (119 < (bt a0 x3_2)) = true := decide_eq_true c15
          clear c15
          by_cases c16 : x3_2 = 0
          ·rw [if_pos c16] at H
           have c16b0 : (x3_2 == 0) = true := beq_iff_eq.mpr c16
           have c16b1 : (x3_2 != 0) = false := bne_eq_false_iff_eq.mpr c16
           clear c16
           obtain rfl := Option.some.inj H
           have p7 : 0 ≤ (x3_2 : Int) := of_decide_eq_true (by assumption)
           have q7 : x3_2 < (a0.size : Int) := of_decide_eq_true (by assumption)
           have hx7 := bt_at a0 x3_2
           replace p7 := eq_true p7
           replace q7 := eq_true q7
           have p9 : 0 ≤ (x3_2 : Int) := of_decide_eq_true (by assumption)
           have q9 : x3_2 < (a0.size : Int) := of_decide_eq_true (by assumption)
           have hx9 := bt_at a0 x3_2
           replace p9 := eq_true p9
           replace q9 := eq_true q9
           have p10 : 0 ≤ (x3_2 : Int) := of_decide_eq_true (by assumption)
           have q10 : x3_2 < (a0.size : Int) := of_decide_eq_true (by assumption)
           have hx10 := bt_at a0 x3_2
           replace p10 := eq_true p10
           replace q10 := eq_true q10
           have p14 : 0 ≤ (x3_2 : Int) := of_decide_eq_true (by assumption)
           have q14 : x3_2 < (a0.size : Int) := of_decide_eq_true (by assumption)
           have hx14 := bt_at a0 x3_2
           replace p14 := eq_true p14
           replace q14 := eq_true q14
           go_wp2
           go_ret
           exact ⟨rfl, by repeat (first | exact Drawn0.refl _ | apply Drawn0.step)⟩
          ·rw [if_neg c16] at H
           have c16b0 : (x3_2 == 0) = false := beq_eq_false_iff_ne.mpr c16
           have c16b1 : (x3_2 != 0) = true := bne_iff_ne.mpr c16
           by_cases c17 : ((bt a0 x3_2) ≤ 57)
           ·rw [if_pos c17] at H
            have c17b0 : decide ((bt a0 x3_2) ≤ 57) = true := decide_eq_true c17
            clear c17
            have H' := gA H
            clear H
            have p7 : 0 ≤ (x3_2 : Int) := of_decide_eq_true (by assumption)
            have q7 : x3_2 < (a0.size : Int) := of_decide_eq_true (by assumption)
            have hx7 := bt_at a0 x3_2
            replace p7 := eq_true p7
            replace q7 := eq_true q7
            have p9 : 0 ≤ (x3_2 : Int) := of_decide_eq_true (by assumption)
            have q9 : x3_2 < (a0.size : Int) := of_decide_eq_true (by assumption)
            have hx9 := bt_at a0 x3_2
            replace p9 := eq_true p9
            replace q9 := eq_true q9
            have p10 : 0 ≤ (x3_2 : Int) := of_decide_eq_true (by assumption)
            have q10 : x3_2 < (a0.size : Int) := of_decide_eq_true (by assumption)
            have hx10 := bt_at a0 x3_2
            replace p10 := eq_true p10
            replace q10 := eq_true q10
            have p14 : 0 ≤ (x3_2 : Int) := of_decide_eq_true (by assumption)
            have q14 : x3_2 < (a0.size : Int) := of_decide_eq_true (by assumption)
            have hx14 := bt_at a0 x3_2
            replace p14 := eq_true p14
            replace q14 := eq_true q14
            go_wp2
            go_roundg k2
            case measure => have := HJ1.out; have := HK2.out; omega
            case rel => exact ⟨(wrap64 (x3_2 + 1)), (rfl), H', ⟨by have := HJ1.out; have := HK2.out; omega⟩, by repeat (first | exact Drawn0.refl _ | apply Drawn0.step)⟩
           ·rw [if_neg c17] at H
            have c17b0 : decide ((bt a0 x3_2) ≤ 57) = false := decide_eq_false c17
            clear c17
            obtain rfl := Option.some.inj H
            have p7 : 0 ≤ (x3_2 : Int) := of_decide_eq_true (by assumption)
            have q7 : x3_2 < (a0.size : Int) := of_decide_eq_true (by assumption)
            have hx7 := bt_at a0 x3_2
            replace p7 := eq_true p7
            replace q7 := eq_true q7
            have p9 : 0 ≤ (x3_2 : Int) := of_decide_eq_true (by assumption)
            have q9 : x3_2 < (a0.size : Int) := of_decide_eq_true (by assumption)
            have hx9 := bt_at a0 x3_2
            replace p9 := eq_true p9
            replace q9 := eq_true q9
            have p10 : 0 ≤ (x3_2 : Int) := of_decide_eq_true (by assumption)
            have q10 : x3_2 < (a0.size : Int) := of_decide_eq_true (by assumption)
            have hx10 := bt_at a0 x3_2
            replace p10 := eq_true p10
            replace q10 := eq_true q10
            have p14 : 0 ≤ (x3_2 : Int) := of_decide_eq_true (by assumption)
            have q14 : x3_2 < (a0.size : Int) := of_decide_eq_true (by assumption)
            have hx14 := bt_at a0 x3_2
            replace p14 := eq_true p14
            replace q14 := eq_true q14
            go_wp2
            go_ret
            exact ⟨rfl, by repeat (first | exact Drawn0.refl _ | apply Drawn0.step)⟩
         ·rw [if_neg c15] at H
          have c15b0 : decide (119 < (bt a0 x3_2)) = false := decide_eq_false c15
          clear c15
          have H' := gA H
          clear H
          have p7 : 0 ≤ (x3_2 : Int) := of_decide_eq_true (by assumption)
          have q7 : x3_2 < (a0.size : Int) := of_decide_eq_true (by assumption)
          have hx7 := bt_at a0 x3_2
          replace p7 := eq_true p7
          replace q7 := eq_true q7
          have p9 : 0 ≤ (x3_2 : Int) := of_decide_eq_true (by assumption)
          have q9 : x3_2 < (a0.size : Int) := of_decide_eq_true (by assumption)
          have hx9 := bt_at a0 x3_2
          replace p9 := eq_true p9
          replace q9 := eq_true q9
          have p10 : 0 ≤ (x3_2 : Int) := of_decide_eq_true (by assumption)
          have q10 : x3_2 < (a0.size : Int) := of_decide_eq_true (by assumption)
          have hx10 := bt_at a0 x3_2
          replace p10 := eq_true p10
          replace q10 := eq_true q10
          have p14 : 0 ≤ (x3_2 : Int) := of_decide_eq_true (by assumption)
          have q14 : x3_2 < (a0.size : Int) := of_decide_eq_true (by assumption)
          have hx14 := bt_at a0 x3_2
          replace p14 := eq_true p14
          replace q14 := eq_true q14
          go_wp2
          go_roundg k2
          case measure => have := HJ1.out; have := HK2.out; omega
          case rel => exact ⟨(wrap64 (x3_2 + 1)), (rfl), H', ⟨by have := HJ1.out; have := HK2.out; omega⟩, by repeat (first | exact Drawn0.refl _ | apply Drawn0.step)⟩
       ·rw [if_neg c8] at H
        have c8b0 : decide (48 ≤ (bt a0 x3_2)) = false := decide_eq_false c8
        clear c8
        by_cases c19 : (bt a0 x3_2) < 97
        ·rw [if_pos c19] at H
         have c19b0 := decide_eq_true c19
         clear c19
         by_cases c20 : x3_2 = 0
         ·rw [if_pos c20] at H
          have c20b0 : (x3_2 == 0) = true := beq_iff_eq.mpr c20
          have c20b1 : (x3_2 != 0) = false := bne_eq_false_iff_eq.mpr c20
          clear c20
          obtain rfl := Option.some.inj H
          have p7 : 0 ≤ (x3_2 : Int) := of_decide_eq_true (by assumption)
          have q7 : x3_2 < (a0.size : Int) := of_decide_eq_true (by assumption)
          have hx7 := bt_at a0 x3_2
          replace p7 := eq_true p7
          replace q7 := eq_true q7
          have p18 : 0 ≤ (x3_2 : Int) := of_decide_eq_true (by assumption)
          have q18 : x3_2 < (a0.size : Int) := of_decide_eq_true (by assumption)
          have hx18 := bt_at a0 x3_2
          replace p18 := eq_true p18
          replace q18 := eq_true q18
          go_wp2
          go_ret
          exact ⟨rfl, by repeat (first | exact Drawn0.refl _ | apply Drawn0.step)⟩
         ·rw [if_neg c20] at H
          have c20b0 : (x3_2 == 0) = false := beq_eq_false_iff_ne.mpr c20
          have c20b1 : (x3_2 != 0) = true := bne_iff_ne.mpr c20
          obtain rfl := Option.some.inj H
          have p7 : 0 ≤ (x3_2 : Int) := of_decide_eq_true (by assumption)
          have q7 : x3_2 < (a0.size : Int) := of_decide_eq_true (by assumption)
          have hx7 := bt_at a0 x3_2
          replace p7 := eq_true p7
          replace q7 := eq_true q7
          have p18 : 0 ≤ (x3_2 : Int) := of_decide_eq_true (by assumption)
          have q18 : x3_2 < (a0.size : Int) := of_decide_eq_true (by assumption)
          have hx18 := bt_at a0 x3_2
          replace p18 := eq_true p18
          replace q18 := eq_true q18
          go_wp2
          go_ret
          exact ⟨rfl, by repeat (first | exact Drawn0.refl _ | apply Drawn0.step)⟩
        ·rw [if_neg c19] at H
         have c19b0 := decide_eq_false c19
         clear c19
         by_cases c22 : (bt a0 x3_2) > 119
         ·rw [if_pos c22] at H
          have c22b0 : decide (119 < (bt a0 x3_2)) = true := decide_eq_true c22
          clear c22
          by_cases c23 : x3_2 = 0
          ·rw [if_pos c23] at H
           have c23b0 : (x3_2 == 0) = true := beq_iff_eq.mpr c23
           have c23b1 : (x3_2 != 0) = false := bne_eq_false_iff_eq.mpr c23
           clear c23
           obtain rfl := Option.some.inj H
           have p7 : 0 ≤ (x3_2 : Int) := of_decide_eq_true (by assumption)
           have q7 : x3_2 < (a0.size : Int) := of_decide_eq_true (by assumption)
           have hx7 := bt_at a0 x3_2
           replace p7 := eq_true p7
           replace q7 := eq_true q7
           have p18 : 0 ≤ (x3_2 : Int) := of_decide_eq_true (by assumption)
           have q18 : x3_2 < (a0.size : Int) := of_decide_eq_true (by assumption)
           have hx18 := bt_at a0 x3_2
           replace p18 := eq_true p18
           replace q18 := eq_true q18
           have p21 : 0 ≤ (x3_2 : Int) := of_decide_eq_true (by assumption)
           have q21 : x3_2 < (a0.size : Int) := of_decide_eq_true (by assumption)
           have hx21 := bt_at a0 x3_2
           replace p21 := eq_true p21
           replace q21 := eq_true q21
           go_wp2
           go_ret
           exact ⟨rfl, by repeat (first | exact Drawn0.refl _ | apply Drawn0.step)⟩
          ·rw [if_neg c23] at H
           have c23b0 : (x3_2 == 0) = false := beq_eq_false_iff_ne.mpr c23
           have c23b1 : (x3_2 != 0) = true := bne_iff_ne.mpr c23
           obtain rfl := Option.some.inj H
           have p7 : 0 ≤ (x3_2 : Int) := of_decide_eq_true (by assumption)
           have q7 : x3_2 < (a0.size : Int) := of_decide_eq_true (by assumption)
           have hx7 := bt_at a0 x3_2
           replace p7 := eq_true p7
           replace q7 := eq_true q7
           have p18 : 0 ≤ (x3_2 : Int) := of_decide_eq_true (by assumption)
           have q18 : x3_2 < (a0.size : Int) := of_decide_eq_true (by assumption)
           have hx18 := bt_at a0 x3_2
           replace p18 := eq_true p18
           replace q18 := eq_true q18
           have p21 : 0 ≤ (x3_2 : Int) := of_decide_eq_true (by assumption)
           have q21 : x3_2 < (a0.size : Int) := of_decide_eq_true (by assumption)
           have hx21 := bt_at a0 x3_2
           replace p21 := eq_true p21
           replace q21 := eq_true q21
           go_wp2
           go_ret
           exact ⟨rfl, by repeat (first | exact Drawn0.refl _ | apply Drawn0.step)⟩
         ·rw [if_neg c22] at H
          have c22b0 : decide (119 < (bt a0 x3_2)) = false := decide_eq_false c22
          clear c22
          have H' := gA H
          clear H
          have p7 : 0 ≤ (x3_2 : Int) := of_decide_eq_true (by assumption)
          have q7 : x3_2 < (a0.size : Int) := of_decide_eq_true (by assumption)
          have hx7 := bt_at a0 x3_2
          replace p7 := eq_true p7
          replace q7 := eq_true q7
          have p18 : 0 ≤ (x3_2 : Int) := of_decide_eq_true (by assumption)
          have q18 : x3_2 < (a0.size : Int) := of_decide_eq_true (by assumption)
          have hx18 := bt_at a0 x3_2
          replace p18 := eq_true p18
          replace q18 := eq_true q18
          have p21 : 0 ≤ (x3_2 : Int) := of_decide_eq_true (by assumption)
          have q21 : x3_2 < (a0.size : Int) := of_decide_eq_true (by assumption)
          have hx21 := bt_at a0 x3_2
          replace p21 := eq_true p21
          replace q21 := eq_true q21
          go_wp2
          go_roundg k2
          case measure => have := HJ1.out; have := HK2.out; omega
          case rel => exact ⟨(wrap64 (x3_2 + 1)), (rfl), H', ⟨by have := HJ1.out; have := HK2.out; omega⟩, by repeat (first | exact Drawn0.refl _ | apply Drawn0.step)⟩
      ·rw [if_neg c5] at H
       have c5b0 := decide_eq_false c5
       clear c5
       obtain rfl := Option.some.inj H
       go_wp2
       go_ret
       exact ⟨rfl, by repeat (first | exact Drawn0.refl _ | apply Drawn0.step)⟩
mutual
def triglyphref03_Size.l0 : Nat → List Int → Bool → Int → Option (Int × Int)
 | 0, _, _, _ => none
 | k + 1, x0, x4, x5 => if x5 < (x0.length : Int) then (if 0 ≤ x5 then (if (rd x0 x5) < 0 then (some (0, 1)) else (if (rd x0 x5) = 0 then (triglyphref03_Size.l0 k x0 true (wrap64 (x5 + 1))) else (triglyphref03_Size.l0 k x0 x4 (wrap64 (x5 + 1))))) else (none)) else (if x4 = true then (some (0, 0)) else (triglyphref03_Size.l1 k x0 1 0))
def triglyphref03_Size.l1 : Nat → List Int → Int → Int → Option (Int × Int)
 | 0, _, _, _ => none
 | k + 1, x0, x6, x7 => if x7 < (x0.length : Int) then (if 0 ≤ x7 then (if (rd x0 x7) > 16384 then (some (0, 12)) else (if (wrap64 (x6 * (rd x0 x7))) > 16384 then (some (0, 12)) else (triglyphref03_Size.l1 k x0 (wrap64 (x6 * (rd x0 x7))) (wrap64 (x7 + 1))))) else (none)) else (some (x6, 0))
end
def triglyphref03_Size.f (k : Nat) (l0 : List Int) : Option (Int × Int) := if (l0.length : Int) > 8 then (some (0, 6)) else (triglyphref03_Size.l0 k l0 false 0)
theorem triglyphref03_Size.mono_l : ∀ k, (∀ y0 y1 y2, LeO (triglyphref03_Size.l0 k y0 y1 y2) (triglyphref03_Size.l0 (k + 1) y0 y1 y2)) ∧ (∀ y0 y1 y2, LeO (triglyphref03_Size.l1 k y0 y1 y2) (triglyphref03_Size.l1 (k + 1) y0 y1 y2))
 | 0 => ⟨fun _ _ _ r h => by simp [triglyphref03_Size.l0] at h, fun _ _ _ r h => by simp [triglyphref03_Size.l1] at h⟩
 | k + 1 => by
  obtain ⟨ih0, ih1⟩ := triglyphref03_Size.mono_l k
  refine ⟨?_, ?_⟩
  ·intro y0 y1 y2
   unfold triglyphref03_Size.l0
   repeat' first
   | (with_reducible exact ih0 _ _ _)
   | (with_reducible exact ih1 _ _ _)
   | (with_reducible exact LeO.refl _)
   | (with_reducible exact LeO.none _)
   | (with_reducible refine LeO.ite ?_ ?_)
   | (with_reducible refine LeO.bind ?_ (fun _ => ?_))





  ·intro y0 y1 y2
   unfold triglyphref03_Size.l1
   repeat' first
   | (with_reducible exact ih0 _ _ _)
   | (with_reducible exact ih1 _ _ _)
   | (with_reducible exact LeO.refl _)
   | (with_reducible exact LeO.none _)
   | (with_reducible refine LeO.ite ?_ ?_)
   | (with_reducible refine LeO.bind ?_ (fun _ => ?_))
theorem triglyphref03_Size.mono : ∀ a0 k, LeO (triglyphref03_Size.f k a0) (triglyphref03_Size.f (k + 1) a0) := by
 intro a0 k
 obtain ⟨ih0, ih1⟩ := triglyphref03_Size.mono_l k
 unfold triglyphref03_Size.f
 repeat' first
   | (with_reducible exact ih0 _ _ _)
   | (with_reducible exact ih1 _ _ _)
   | (with_reducible exact LeO.refl _)
   | (with_reducible exact LeO.none _)
   | (with_reducible refine LeO.ite ?_ ?_)
   | (with_reducible refine LeO.bind ?_ (fun _ => ?_))
set_option maxHeartbeats 8000000 in
set_option maxRecDepth 100000 in
theorem triglyphref03_Size.calls (k : Nat) (A0 : Option Addr) (c0 : Nat) (l0 : List Int) (r1 : Int) (r2 : Int) (w : World) (hr0 : Kd.C (Kd.int .i64) w A0 l0.length l0) (hc0 : l0.length ≤ c0) (h : triglyphref03_Size.f k l0 = some (r1, r2)) :
  Calls Try.prog 53 #[.slice A0 l0.length c0] w fun e w' => e = .returned (.tuple #[.int .i64 r1, .int .i64 r2]) ∧ Drawn0 w w' := by
 have HR0 := gA hr0
 have HC0 := gA hc0
 clear hr0 hc0
 have H : (if (l0.length : Int) > 8 then (some (0, 6)) else (triglyphref03_Size.l0 k l0 false 0)) = some (r1, r2) := h
 clear h
 by_cases c2 : (l0.length : Int) > 8
 ·rw [if_pos c2] at H
  have c2b0 : decide (8 < (l0.length : Int)) = true := decide_eq_true c2
  have c2b1 : decide (8 < l0.length) = true := decide_eq_true (by omega)
  clear c2
  simp only [Option.some.injEq, Prod.mk.injEq] at H
  obtain ⟨rfl, rfl⟩ := H
  go_enter Try.func53, Try.ntmps53
  go_wp2
  go_ret2
  exact ⟨rfl, by repeat (first | exact Drawn0.refl _ | apply Drawn0.step)⟩
 ·rw [if_neg c2] at H
  have c2b0 : decide (8 < (l0.length : Int)) = false := decide_eq_false c2
  have c2b1 : decide (8 < l0.length) = false := decide_eq_false (by omega)
  clear c2
  have H' := gA H
  clear H
  go_enter Try.func53, Try.ntmps53
  go_wp2
  go_loopg [4, 5] k (fun kq v4 v5 w' => ∃ (x4_1 : Bool) (x5_1 : Int), v4 = .bool x4_1 ∧ v5 = .int .i64 x5_1 ∧ Aside0 (triglyphref03_Size.l0 kq l0 x4_1 x5_1 = some (r1, r2)) ∧ Aside0 (kq ≤ k) ∧ Drawn0 w w')
  case atStart => exact ⟨(false), (0), (rfl), (rfl), H', ⟨Nat.le_refl _⟩, by repeat (first | exact Drawn0.refl _ | apply Drawn0.step)⟩
  case round =>
   clear H'
   try clear c2
   try clear c2b0
   try clear c2b1
   try clear p2
   obtain ⟨x4_1, x5_1, rfl, rfl, HA, HK1, ⟨m1, rfl⟩⟩ := hrel
   cases gk with
   | zero => exact absurd HA.out (by simp [triglyphref03_Size.l0])
   | succ k1 =>
    have H := HA.out; clear HA
    simp only [triglyphref03_Size.l0] at H
    by_cases c3 : x5_1 < (l0.length : Int)
    ·rw [if_pos c3] at H
     have c3b0 := decide_eq_true c3
     clear c3
     obtain ⟨c4, H⟩ := iS H
     have c4b0 := decide_eq_true c4
     clear c4
     by_cases c5 : (rd l0 x5_1) < 0
     ·rw [if_pos c5] at H
      have c5b0 := decide_eq_true c5
      clear c5
      simp only [Option.some.injEq, Prod.mk.injEq] at H
      obtain ⟨rfl, rfl⟩ := H
      have p207 : 0 ≤ (x5_1 : Int) := of_decide_eq_true (by assumption)
      have q207 : x5_1 < (l0.length : Int) := of_decide_eq_true (by assumption)
      obtain ⟨ad207, e207, hx207_0⟩ := Kd.at_int HR0.out x5_1 p207 q207
      cases e207
      replace p207 := eq_true p207
      replace q207 := eq_true q207
      go_wp2
      go_ret2
      exact ⟨rfl, by repeat (first | exact Drawn0.refl _ | apply Drawn0.step)⟩
     ·rw [if_neg c5] at H
      have c5b0 := decide_eq_false c5
      clear c5
      by_cases c6 : (rd l0 x5_1) = 0
      ·rw [if_pos c6] at H
       have c6b0 : ((rd l0 x5_1) == 0) = true := beq_iff_eq.mpr c6
       have c6b1 : ((rd l0 x5_1) != 0) = false := bne_eq_false_iff_eq.mpr c6
       clear c6
       have H' := gA H
       clear H
       have p207 : 0 ≤ (x5_1 : Int) := of_decide_eq_true (by assumption)
       have q207 : x5_1 < (l0.length : Int) := of_decide_eq_true (by assumption)
       obtain ⟨ad207, e207, hx207_0⟩ := Kd.at_int HR0.out x5_1 p207 q207
       cases e207
       replace p207 := eq_true p207
       replace q207 := eq_true q207
       have p208 : 0 ≤ (x5_1 : Int) := of_decide_eq_true (by assumption)
       have q208 : x5_1 < (l0.length : Int) := of_decide_eq_true (by assumption)
       obtain ⟨ad208, e208, hx208_0⟩ := Kd.at_int HR0.out x5_1 p208 q208
       obtain rfl : ad207 = ad208 := (by injection e208)
       replace p208 := eq_true p208
       replace q208 := eq_true q208
       go_wp2
       go_roundg k1
       case measure => have := HK1.out; omega
       case rel => exact ⟨(true), (wrap64 (x5_1 + 1)), (rfl), (rfl), H', ⟨by have := HK1.out; omega⟩, by repeat (first | exact Drawn0.refl _ | apply Drawn0.step)⟩
      ·rw [if_neg c6] at H
       have c6b0 : ((rd l0 x5_1) == 0) = false := beq_eq_false_iff_ne.mpr c6
       have c6b1 : ((rd l0 x5_1) != 0) = true := bne_iff_ne.mpr c6
       have H' := gA H
       clear H
       have p207 : 0 ≤ (x5_1 : Int) := of_decide_eq_true (by assumption)
       have q207 : x5_1 < (l0.length : Int) := of_decide_eq_true (by assumption)
       obtain ⟨ad207, e207, hx207_0⟩ := Kd.at_int HR0.out x5_1 p207 q207
       cases e207
       replace p207 := eq_true p207
       replace q207 := eq_true q207
       have p208 : 0 ≤ (x5_1 : Int) := of_decide_eq_true (by assumption)
       have q208 : x5_1 < (l0.length : Int) := of_decide_eq_true (by assumption)
       obtain ⟨ad208, e208, hx208_0⟩ := Kd.at_int HR0.out x5_1 p208 q208
       obtain rfl : ad207 = ad208 := (by injection e208)
       replace p208 := eq_true p208
       replace q208 := eq_true q208
       go_wp2
       go_roundg k1
       case measure => have := HK1.out; omega
       case rel => exact ⟨(x4_1), (wrap64 (x5_1 + 1)), (rfl), (rfl), H', ⟨by have := HK1.out; omega⟩, by repeat (first | exact Drawn0.refl _ | apply Drawn0.step)⟩
    ·rw [if_neg c3] at H
     have c3b0 := decide_eq_false c3
     clear c3
     by_cases c7 : x4_1 = true
     ·subst c7
      have H1 : (some (0, 0)) = some (r1, r2) := by rw [if_pos rfl] at H; exact H
      clear H; have H := H1; clear H1
      simp only [Option.some.injEq, Prod.mk.injEq] at H
      obtain ⟨rfl, rfl⟩ := H
      go_wp2
      go_ret2
      exact ⟨rfl, by repeat (first | exact Drawn0.refl _ | apply Drawn0.step)⟩
     ·replace c7 := Bool.eq_false_iff.mpr c7
      subst c7
      have H1 : (triglyphref03_Size.l1 k1 l0 1 0) = some (r1, r2) := by rw [if_neg (show ¬ (false = true) by decide)] at H; exact H
      clear H; have H := H1; clear H1
      have H' := gA H
      clear H
      go_wp2
      go_loopg [6, 7] k1 (fun kq v6 v7 w' => ∃ (x6_2 : Int) (x7_2 : Int), v6 = .int .i64 x6_2 ∧ v7 = .int .i64 x7_2 ∧ Aside0 (triglyphref03_Size.l1 kq l0 x6_2 x7_2 = some (r1, r2)) ∧ Aside0 (kq ≤ k1) ∧ Drawn0 w w')
      case atStart => exact ⟨(1), (0), (rfl), (rfl), H', ⟨Nat.le_refl _⟩, by repeat (first | exact Drawn0.refl _ | apply Drawn0.step)⟩
      case round =>
       clear H'
       try clear c2
       try clear c2b0
       try clear c2b1
       try clear p2
       try clear q2
       try clear hx2
       try clear c3
       try clear c3b0
       try clear c4
       try clear c4b0
       try clear c5
       try clear c5b0
       try clear c6
       try clear c6b0
       try clear c6b1
       try clear p6
       try clear c7
       try clear hx207_0
       try clear hx208_0
       try clear p2
       try clear p207
       try clear p208
       try clear q207
       try clear q208
       obtain ⟨x6_2, x7_2, rfl, rfl, HA, HK2, ⟨m2, rfl⟩⟩ := hrel
       cases gk with
       | zero => exact absurd HA.out (by simp [triglyphref03_Size.l1])
       | succ k2 =>
        have H := HA.out; clear HA
        simp only [triglyphref03_Size.l1] at H
        by_cases c8 : x7_2 < (l0.length : Int)
        ·rw [if_pos c8] at H
         have c8b0 := decide_eq_true c8
         clear c8
         obtain ⟨c9, H⟩ := iS H
         have c9b0 := decide_eq_true c9
         clear c9
         by_cases c10 : (rd l0 x7_2) > 16384
         ·rw [if_pos c10] at H
          have c10b0 : decide (16384 < (rd l0 x7_2)) = true := decide_eq_true c10
          clear c10
          simp only [Option.some.injEq, Prod.mk.injEq] at H
          obtain ⟨rfl, rfl⟩ := H
          have p209 : 0 ≤ (x7_2 : Int) := of_decide_eq_true (by assumption)
          have q209 : x7_2 < (l0.length : Int) := of_decide_eq_true (by assumption)
          obtain ⟨ad209, e209, hx209_0⟩ := Kd.at_int HR0.out x7_2 p209 q209
          cases e209
          replace p209 := eq_true p209
          replace q209 := eq_true q209
          go_wp2
          go_ret2
          exact ⟨rfl, by repeat (first | exact Drawn0.refl _ | apply Drawn0.step)⟩
         ·rw [if_neg c10] at H
          have c10b0 : decide (16384 < (rd l0 x7_2)) = false := decide_eq_false c10
          clear c10
          by_cases c11 : (wrap64 (x6_2 * (rd l0 x7_2))) > 16384
          ·rw [if_pos c11] at H
           have c11b0 : decide (16384 < (wrap64 (x6_2 * (rd l0 x7_2)))) = true := decide_eq_true c11
           clear c11
           simp only [Option.some.injEq, Prod.mk.injEq] at H
           obtain ⟨rfl, rfl⟩ := H
           have p209 : 0 ≤ (x7_2 : Int) := of_decide_eq_true (by assumption)
           have q209 : x7_2 < (l0.length : Int) := of_decide_eq_true (by assumption)
           obtain ⟨ad209, e209, hx209_0⟩ := Kd.at_int HR0.out x7_2 p209 q209
           cases e209
           replace p209 := eq_true p209
           replace q209 := eq_true q209
           have p210 : 0 ≤ (x7_2 : Int) := of_decide_eq_true (by assumption)
           have q210 : x7_2 < (l0.length : Int) := of_decide_eq_true (by assumption)
           obtain ⟨ad210, e210, hx210_0⟩ := Kd.at_int HR0.out x7_2 p210 q210
           obtain rfl : ad209 = ad210 := (by injection e210)
           replace p210 := eq_true p210
           replace q210 := eq_true q210
           go_wp2
           go_ret2
           exact ⟨rfl, by repeat (first | exact Drawn0.refl _ | apply Drawn0.step)⟩
          ·rw [if_neg c11] at H
           have c11b0 : decide (16384 < (wrap64 (x6_2 * (rd l0 x7_2)))) = false := decide_eq_false c11
           clear c11
           have H' := gA H
           clear H
           have p209 : 0 ≤ (x7_2 : Int) := of_decide_eq_true (by assumption)
           have q209 : x7_2 < (l0.length : Int) := of_decide_eq_true (by assumption)
           obtain ⟨ad209, e209, hx209_0⟩ := Kd.at_int HR0.out x7_2 p209 q209
           cases e209
           replace p209 := eq_true p209
           replace q209 := eq_true q209
           have p210 : 0 ≤ (x7_2 : Int) := of_decide_eq_true (by assumption)
           have q210 : x7_2 < (l0.length : Int) := of_decide_eq_true (by assumption)
           obtain ⟨ad210, e210, hx210_0⟩ := Kd.at_int HR0.out x7_2 p210 q210
           obtain rfl : ad209 = ad210 := (by injection e210)
           replace p210 := eq_true p210
           replace q210 := eq_true q210
           go_wp2
           go_roundg k2
           case measure => have := HK1.out; have := HK2.out; omega
           case rel => exact ⟨(wrap64 (x6_2 * (rd l0 x7_2))), (wrap64 (x7_2 + 1)), (rfl), (rfl), H', ⟨by have := HK1.out; have := HK2.out; omega⟩, by repeat (first | exact Drawn0.refl _ | apply Drawn0.step)⟩
        ·rw [if_neg c8] at H
         have c8b0 := decide_eq_false c8
         clear c8
         simp only [Option.some.injEq, Prod.mk.injEq] at H
         obtain ⟨rfl, rfl⟩ := H
         go_wp2
         go_ret2
         exact ⟨rfl, by repeat (first | exact Drawn0.refl _ | apply Drawn0.step)⟩
def triglyphref02_Good.f (a0 : Int) : Option (Bool) := if a0 ≥ 0 then (if a0 < 55296 then (some true) else (if a0 > 57343 then (some (decide (a0 < 1114112))) else (some false))) else (if a0 > 57343 then (some (decide (a0 < 1114112))) else (some false))
set_option maxHeartbeats 8000000 in
set_option maxRecDepth 100000 in
theorem triglyphref02_Good.calls (a0 : Int) (r : Bool) (w : World) (h : triglyphref02_Good.f a0 = some r) :
  Calls Try.prog 69 #[.int .i64 a0] w fun e w' => e = .returned (.bool r) ∧ Drawn0 w w' := by
 have H : (if a0 ≥ 0 then (if a0 < 55296 then (some true) else (if a0 > 57343 then (some (decide (a0 < 1114112))) else (some false))) else (if a0 > 57343 then (some (decide (a0 < 1114112))) else (some false))) = some r := h
 clear h
 by_cases c2 : a0 ≥ 0
 ·rw [if_pos c2] at H
  have c2b0 : decide (0 ≤ a0) = true := decide_eq_true c2
  clear c2
  by_cases c3 : a0 < 55296
  ·rw [if_pos c3] at H
   have c3b0 := decide_eq_true c3
   clear c3
   obtain rfl := Option.some.inj H
   go_enter Try.func69, Try.ntmps69
   go_wp2
   go_ret
   exact ⟨rfl, by repeat (first | exact Drawn0.refl _ | apply Drawn0.step)⟩
  ·rw [if_neg c3] at H
   have c3b0 := decide_eq_false c3
   clear c3
   by_cases c4 : a0 > 57343
   ·rw [if_pos c4] at H
    have c4b0 : decide (57343 < a0) = true := decide_eq_true c4
    clear c4
    obtain rfl := Option.some.inj H
    go_enter Try.func69, Try.ntmps69
    go_wp2
    go_ret
    exact ⟨rfl, by repeat (first | exact Drawn0.refl _ | apply Drawn0.step)⟩
   ·rw [if_neg c4] at H
    have c4b0 : decide (57343 < a0) = false := decide_eq_false c4
    clear c4
    obtain rfl := Option.some.inj H
    go_enter Try.func69, Try.ntmps69
    go_wp2
    go_ret
    exact ⟨rfl, by repeat (first | exact Drawn0.refl _ | apply Drawn0.step)⟩
 ·rw [if_neg c2] at H
  have c2b0 : decide (0 ≤ a0) = false := decide_eq_false c2
  clear c2
  by_cases c5 : a0 > 57343
  ·rw [if_pos c5] at H
   have c5b0 : decide (57343 < a0) = true := decide_eq_true c5
   clear c5
   obtain rfl := Option.some.inj H
   go_enter Try.func69, Try.ntmps69
   go_wp2
   go_ret
   exact ⟨rfl, by repeat (first | exact Drawn0.refl _ | apply Drawn0.step)⟩
  ·rw [if_neg c5] at H
   have c5b0 : decide (57343 < a0) = false := decide_eq_false c5
   clear c5
   obtain rfl := Option.some.inj H
   go_enter Try.func69, Try.ntmps69
   go_wp2
   go_ret
   exact ⟨rfl, by repeat (first | exact Drawn0.refl _ | apply Drawn0.step)⟩
end Go.Proofs.Ytfblidojoepcpaa.P
