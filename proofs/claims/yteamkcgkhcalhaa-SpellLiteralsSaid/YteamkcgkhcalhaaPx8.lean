/- Written by a program of this session: the functions that the laws reach, what each comes to, and each law as it is stated, for every input. No condition. -/
import Derived.Test.YteamkcgkhcalhaaPx0
namespace Go.Proofs.Yteamkcgkhcalhaa.P
open Go.RowKit Go.Proofs.YteamkcgkhcalhaaW.PrintWords Go.Proofs.YteamkcgkhcalhaaW.PrintLast Go.Proofs.YteamkcgkhcalhaaW.PrintMore
attribute [local go_sem] max2_int min2_int max_two min_two max_three min_three max_four min_four   -- for this text's walks alone
set_option linter.unusedVariables false
set_option linter.unusedSimpArgs false
mutual
def triglyphref03_Size.l0 : Nat → List Int → Bool → Int → Option (Int × Int)
 | 0, _, _, _ => none
 | k + 1, x0, x4, x5 => if x5 < (x0.length : Int) then (if 0 ≤ x5 then (if (rd x0 x5) < 0 then (some (0, 1)) else (if (rd x0 x5) = 0 then (triglyphref03_Size.l0 k x0 true (wrap64 (x5 + 1))) else (triglyphref03_Size.l0 k x0 x4 (wrap64 (x5 + 1))))) else (none)) else (if x4 = true then (some (0, 0)) else (triglyphref03_Size.l1 k x0 1 0))
def triglyphref03_Size.l1 : Nat → List Int → Int → Int → Option (Int × Int)
 | 0, _, _, _ => none
 | k + 1, x0, x6, x7 => if x7 < (x0.length : Int) then (if 0 ≤ x7 then (if (rd x0 x7) > 16384 then (some (0, 12)) else (if (wrap64 (x6 * (rd x0 x7))) > 16384 then (some (0, 12)) else (triglyphref03_Size.l1 k x0 (wrap64 (x6 * (rd x0 x7))) (wrap64 (x7 + 1))))) else (none)) else (some (x6, 0))
end
def triglyphref03_Size.f (k : Nat) (l0 : List Int) : Option (Int × Int) := if (l0.length : Int) > 8 then (some (0, 6)) else (triglyphref03_Size.l0 k l0 false 0)
theorem triglyphref03_Size.mono_l : ∀ k, (∀ y0 y1 y2, LeO (triglyphref03_Size.l0 k y0 y1 y2) (triglyphref03_Size.l0 (k + 1) y0 y1 y2)) ∧ (∀ y0 y1 y2, LeO (triglyphref03_Size.l1 k y0 y1 y2) (triglyphref03_Size.l1 (k + 1) y0 y1 y2))
 | 0 => ⟨fun _ _ _ r h => by simp [triglyphref03_Size.l0] at h, fun _ _ _ r h => by simp [triglyphref03_Size.l1] at h⟩
 | k + 1 => by
  obtain ⟨ih0, ih1⟩ := triglyphref03_Size.mono_l k
  refine ⟨?_, ?_⟩
  ·intro y0 y1 y2
   unfold triglyphref03_Size.l0
   repeat' first
   | (with_reducible exact ih0 _ _ _)
   | (with_reducible exact ih1 _ _ _)
   | (with_reducible exact LeO.refl _)
   | (with_reducible exact LeO.none _)
   | (with_reducible refine LeO.ite ?_ ?_)
   | (with_reducible refine LeO.bind ?_ (fun _ => ?_))





  ·intro y0 y1 y2
   unfold triglyphref03_Size.l1
   repeat' first
   | (with_reducible exact ih0 _ _ _)
   | (with_reducible exact ih1 _ _ _)
   | (with_reducible exact LeO.refl _)
   | (with_reducible exact LeO.none _)
   | (with_reducible refine LeO.ite ?_ ?_)
   | (with_reducible refine LeO.bind ?_ (fun _ => ?_))
theorem triglyphref03_Size.mono : ∀ a0 k, LeO (triglyphref03_Size.f k a0) (triglyphref03_Size.f (k + 1) a0) := by
 intro a0 k
 obtain ⟨ih0, ih1⟩ := triglyphref03_Size.mono_l k
 unfold triglyphref03_Size.f
 repeat' first
   | (with_reducible exact ih0 _ _ _)
   | (with_reducible exact ih1 _ _ _)
   | (with_reducible exact LeO.refl _)
   | (with_reducible exact LeO.none _)
   | (with_reducible refine LeO.ite ?_ ?_)
   | (with_reducible refine LeO.bind ?_ (fun _ => ?_))
set_option maxHeartbeats 8000000 in
set_option maxRecDepth 100000 in
theorem triglyphref03_Size.calls (k : Nat) (A0 : Option Addr) (c0 : Nat) (l0 : List Int) (r1 : Int) (r2 : Int) (w : World) (hr0 : Kd.C (Kd.int .i64) w A0 l0.length l0) (hc0 : l0.length ≤ c0) (h : triglyphref03_Size.f k l0 = some (r1, r2)) :
  Calls Try.prog 81 #[.slice A0 l0.length c0] w fun e w' => e = .returned (.tuple #[.int .i64 r1, .int .i64 r2]) ∧ Drawn0 w w' := by
 have HR0 := gA hr0
 have HC0 := gA hc0
 clear hr0 hc0
 have H : (if (l0.length : Int) > 8 then (some (0, 6)) else (triglyphref03_Size.l0 k l0 false 0)) = some (r1, r2) := h
 clear h
 by_cases c2 : (l0.length : Int) > 8
 ·rw [if_pos c2] at H
  have c2b0 : decide (8 < (l0.length : Int)) = true := decide_eq_true c2
  have c2b1 : decide (8 < l0.length) = true := decide_eq_true (by omega)
  clear c2
  simp only [Option.some.injEq, Prod.mk.injEq] at H
  obtain ⟨rfl, rfl⟩ := H
  go_enter Try.func81, Try.ntmps81
  go_wp2
  go_ret2
  exact ⟨rfl, by repeat (first | exact Drawn0.refl _ | apply Drawn0.step)⟩
 ·rw [if_neg c2] at H
  have c2b0 : decide (8 < (l0.length : Int)) = false := decide_eq_false c2
  have c2b1 : decide (8 < l0.length) = false := decide_eq_false (by omega)
  clear c2
  have H' := gA H
  clear H
  go_enter Try.func81, Try.ntmps81
  go_wp2
  go_loopg [4, 5] k (fun kq v4 v5 w' => ∃ (x4_1 : Bool) (x5_1 : Int), v4 = .bool x4_1 ∧ v5 = .int .i64 x5_1 ∧ Aside0 (triglyphref03_Size.l0 kq l0 x4_1 x5_1 = some (r1, r2)) ∧ Aside0 (kq ≤ k) ∧ Drawn0 w w')
  case atStart => exact ⟨(false), (0), (rfl), (rfl), H', ⟨Nat.le_refl _⟩, by repeat (first | exact Drawn0.refl _ | apply Drawn0.step)⟩
  case round =>
   clear H'
   try clear c2
   try clear c2b0
   try clear c2b1
   try clear p2
   obtain ⟨x4_1, x5_1, rfl, rfl, HA, HK1, ⟨m1, rfl⟩⟩ := hrel
   cases gk with
   | zero => exact absurd HA.out (by simp [triglyphref03_Size.l0])
   | succ k1 =>
    have H := HA.out; clear HA
    simp only [triglyphref03_Size.l0] at H
    by_cases c3 : x5_1 < (l0.length : Int)
    ·rw [if_pos c3] at H
     have c3b0 := decide_eq_true c3
     clear c3
     obtain ⟨c4, H⟩ := iS H
     have c4b0 := decide_eq_true c4
     clear c4
     by_cases c5 : (rd l0 x5_1) < 0
     ·rw [if_pos c5] at H
      have c5b0 := decide_eq_true c5
      clear c5
      simp only [Option.some.injEq, Prod.mk.injEq] at H
      obtain ⟨rfl, rfl⟩ := H
      have p224 : 0 ≤ (x5_1 : Int) := of_decide_eq_true (by assumption)
      have q224 : x5_1 < (l0.length : Int) := of_decide_eq_true (by assumption)
      obtain ⟨ad224, e224, hx224_0⟩ := Kd.at_int HR0.out x5_1 p224 q224
      cases e224
      replace p224 := eq_true p224
      replace q224 := eq_true q224
      go_wp2
      go_ret2
      exact ⟨rfl, by repeat (first | exact Drawn0.refl _ | apply Drawn0.step)⟩
     ·rw [if_neg c5] at H
      have c5b0 := decide_eq_false c5
      clear c5
      by_cases c6 : (rd l0 x5_1) = 0
      ·rw [if_pos c6] at H
       have c6b0 : ((rd l0 x5_1) == 0) = true := beq_iff_eq.mpr c6
       have c6b1 : ((rd l0 x5_1) != 0) = false := bne_eq_false_iff_eq.mpr c6
       clear c6
       have H' := gA H
       clear H
       have p224 : 0 ≤ (x5_1 : Int) := of_decide_eq_true (by assumption)
       have q224 : x5_1 < (l0.length : Int) := of_decide_eq_true (by assumption)
       obtain ⟨ad224, e224, hx224_0⟩ := Kd.at_int HR0.out x5_1 p224 q224
       cases e224
       replace p224 := eq_true p224
       replace q224 := eq_true q224
       have p225 : 0 ≤ (x5_1 : Int) := of_decide_eq_true (by assumption)
       have q225 : x5_1 < (l0.length : Int) := of_decide_eq_true (by assumption)
       obtain ⟨ad225, e225, hx225_0⟩ := Kd.at_int HR0.out x5_1 p225 q225
       obtain rfl : ad224 = ad225 := (by injection e225)
       replace p225 := eq_true p225
       replace q225 := eq_true q225
       go_wp2
       go_roundg k1
       case measure => have := HK1.out; omega
       case rel => exact ⟨(true), (wrap64 (x5_1 + 1)), (rfl), (rfl), H', ⟨by have := HK1.out; omega⟩, by repeat (first | exact Drawn0.refl _ | apply Drawn0.step)⟩
      ·rw [if_neg c6] at H
       have c6b0 : ((rd l0 x5_1) == 0) = false := beq_eq_false_iff_ne.mpr c6
       have c6b1 : ((rd l0 x5_1) != 0) = true := bne_iff_ne.mpr c6
       have H' := gA H
       clear H
       have p224 : 0 ≤ (x5_1 : Int) := of_decide_eq_true (by assumption)
       have q224 : x5_1 < (l0.length : Int) := of_decide_eq_true (by assumption)
       obtain ⟨ad224, e224, hx224_0⟩ := Kd.at_int HR0.out x5_1 p224 q224
       cases e224
       replace p224 := eq_true p224
       replace q224 := eq_true q224
       have p225 : 0 ≤ (x5_1 : Int) := of_decide_eq_true (by assumption)
       have q225 : x5_1 < (l0.length : Int) := of_decide_eq_true (by assumption)
       obtain ⟨ad225, e225, hx225_0⟩ := Kd.at_int HR0.out x5_1 p225 q225
       obtain rfl : ad224 = ad225 := (by injection e225)
       replace p225 := eq_true p225
       replace q225 := eq_true q225
       go_wp2
       go_roundg k1
       case measure => have := HK1.out; omega
       case rel => exact ⟨(x4_1), (wrap64 (x5_1 + 1)), (rfl), (rfl), H', ⟨by have := HK1.out; omega⟩, by repeat (first | exact Drawn0.refl _ | apply Drawn0.step)⟩
    ·rw [if_neg c3] at H
     have c3b0 := decide_eq_false c3
     clear c3
     by_cases c7 : x4_1 = true
     ·subst c7
      have H1 : (some (0, 0)) = some (r1, r2) := by rw [if_pos rfl] at H; exact H
      clear H; have H := H1; clear H1
      simp only [Option.some.injEq, Prod.mk.injEq] at H
      obtain ⟨rfl, rfl⟩ := H
      go_wp2
      go_ret2
      exact ⟨rfl, by repeat (first | exact Drawn0.refl _ | apply Drawn0.step)⟩
     ·replace c7 := Bool.eq_false_iff.mpr c7
      subst c7
      have H1 : (triglyphref03_Size.l1 k1 l0 1 0) = some (r1, r2) := by rw [if_neg (show ¬ (false = true) by decide)] at H; exact H
      clear H; have H := H1; clear H1
      have H' := gA H
      clear H
      go_wp2
      go_loopg [6, 7] k1 (fun kq v6 v7 w' => ∃ (x6_2 : Int) (x7_2 : Int), v6 = .int .i64 x6_2 ∧ v7 = .int .i64 x7_2 ∧ Aside0 (triglyphref03_Size.l1 kq l0 x6_2 x7_2 = some (r1, r2)) ∧ Aside0 (kq ≤ k1) ∧ Drawn0 w w')
      case atStart => exact ⟨(1), (0), (by first | rfl | (simp; done) | (simp [*]; done)), (by first | rfl | (simp; done) | (simp [*]; done)), H', ⟨Nat.le_refl _⟩, by repeat (first | exact Drawn0.refl _ | apply Drawn0.step)⟩
      case round =>
       clear H'
       try clear c2
       try clear c2b0
       try clear c2b1
       try clear p2
       try clear q2
       try clear hx2
       try clear c3
       try clear c3b0
       try clear c4
       try clear c4b0
       try clear c5
       try clear c5b0
       try clear c6
       try clear c6b0
       try clear c6b1
       try clear p6
       try clear c7
       try clear hx224_0
       try clear hx225_0
       try clear p2
       try clear p224
       try clear p225
       try clear q224
       try clear q225
       obtain ⟨x6_2, x7_2, rfl, rfl, HA, HK2, ⟨m2, rfl⟩⟩ := hrel
       cases gk with
       | zero => exact absurd HA.out (by simp [triglyphref03_Size.l1])
       | succ k2 =>
        have H := HA.out; clear HA
        simp only [triglyphref03_Size.l1] at H
        by_cases c8 : x7_2 < (l0.length : Int)
        ·rw [if_pos c8] at H
         have c8b0 := decide_eq_true c8
         clear c8
         obtain ⟨c9, H⟩ := iS H
         have c9b0 := decide_eq_true c9
         clear c9
         by_cases c10 : (rd l0 x7_2) > 16384
         ·rw [if_pos c10] at H
          have c10b0 : decide (16384 < (rd l0 x7_2)) = true := decide_eq_true c10
          clear c10
          simp only [Option.some.injEq, Prod.mk.injEq] at H
          obtain ⟨rfl, rfl⟩ := H
          have p226 : 0 ≤ (x7_2 : Int) := of_decide_eq_true (by assumption)
          have q226 : x7_2 < (l0.length : Int) := of_decide_eq_true (by assumption)
          obtain ⟨ad226, e226, hx226_0⟩ := Kd.at_int HR0.out x7_2 p226 q226
          cases e226
          replace p226 := eq_true p226
          replace q226 := eq_true q226
          go_wp2
          go_ret2
          exact ⟨rfl, by repeat (first | exact Drawn0.refl _ | apply Drawn0.step)⟩
         ·rw [if_neg c10] at H
          have c10b0 : decide (16384 < (rd l0 x7_2)) = false := decide_eq_false c10
          clear c10
          by_cases c11 : (wrap64 (x6_2 * (rd l0 x7_2))) > 16384
          ·rw [if_pos c11] at H
           have c11b0 : decide (16384 < (wrap64 (x6_2 * (rd l0 x7_2)))) = true := decide_eq_true c11
           clear c11
           simp only [Option.some.injEq, Prod.mk.injEq] at H
           obtain ⟨rfl, rfl⟩ := H
           have p226 : 0 ≤ (x7_2 : Int) := of_decide_eq_true (by assumption)
           have q226 : x7_2 < (l0.length : Int) := of_decide_eq_true (by assumption)
           obtain ⟨ad226, e226, hx226_0⟩ := Kd.at_int HR0.out x7_2 p226 q226
           cases e226
           replace p226 := eq_true p226
           replace q226 := eq_true q226
           have p227 : 0 ≤ (x7_2 : Int) := of_decide_eq_true (by assumption)
           have q227 : x7_2 < (l0.length : Int) := of_decide_eq_true (by assumption)
           obtain ⟨ad227, e227, hx227_0⟩ := Kd.at_int HR0.out x7_2 p227 q227
           obtain rfl : ad226 = ad227 := (by injection e227)
           replace p227 := eq_true p227
           replace q227 := eq_true q227
           go_wp2
           go_ret2
           exact ⟨rfl, by repeat (first | exact Drawn0.refl _ | apply Drawn0.step)⟩
          ·rw [if_neg c11] at H
           have c11b0 : decide (16384 < (wrap64 (x6_2 * (rd l0 x7_2)))) = false := decide_eq_false c11
           clear c11
           have H' := gA H
           clear H
           have p226 : 0 ≤ (x7_2 : Int) := of_decide_eq_true (by assumption)
           have q226 : x7_2 < (l0.length : Int) := of_decide_eq_true (by assumption)
           obtain ⟨ad226, e226, hx226_0⟩ := Kd.at_int HR0.out x7_2 p226 q226
           cases e226
           replace p226 := eq_true p226
           replace q226 := eq_true q226
           have p227 : 0 ≤ (x7_2 : Int) := of_decide_eq_true (by assumption)
           have q227 : x7_2 < (l0.length : Int) := of_decide_eq_true (by assumption)
           obtain ⟨ad227, e227, hx227_0⟩ := Kd.at_int HR0.out x7_2 p227 q227
           obtain rfl : ad226 = ad227 := (by injection e227)
           replace p227 := eq_true p227
           replace q227 := eq_true q227
           go_wp2
           go_roundg k2
           case measure => have := HK1.out; have := HK2.out; omega
           case rel => exact ⟨(wrap64 (x6_2 * (rd l0 x7_2))), (wrap64 (x7_2 + 1)), (rfl), (rfl), H', ⟨by have := HK1.out; have := HK2.out; omega⟩, by repeat (first | exact Drawn0.refl _ | apply Drawn0.step)⟩
        ·rw [if_neg c8] at H
         have c8b0 := decide_eq_false c8
         clear c8
         simp only [Option.some.injEq, Prod.mk.injEq] at H
         obtain ⟨rfl, rfl⟩ := H
         go_wp2
         go_ret2
         exact ⟨rfl, by repeat (first | exact Drawn0.refl _ | apply Drawn0.step)⟩
end Go.Proofs.Yteamkcgkhcalhaa.P
