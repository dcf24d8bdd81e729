/- Written by a program of this session: the functions that the laws reach, what each comes to, and each law as it is stated, for every input. No condition. -/
import Derived.Test.YtfblidojoepcpaaPx0
namespace Go.Proofs.Ytfblidojoepcpaa.P
open Go.RowKit Go.Proofs.YtfblidojoepcpaaW.PrintWords Go.Proofs.YtfblidojoepcpaaW.PrintLast Go.Proofs.YtfblidojoepcpaaW.PrintMore
attribute [local go_sem] max2_int min2_int max_two min_two max_three min_three max_four min_four   -- for this text's walks alone
set_option linter.unusedVariables false
set_option linter.unusedSimpArgs false
def core_Name.l0 : Nat → ByteArray → Int → Int → Option (Bool)
 | 0, _, _, _ => none
 | k + 1, x0, x6, x7 => if x7 < x6 then (if 0 ≤ x7 then (if x7 < (x0.size : Int) then (if (bt x0 x7) ≥ 97 then (if ((bt x0 x7) ≤ 119) then (core_Name.l0 k x0 x6 (wrap64 (x7 + 1))) else (if x7 = 0 then (some false) else (if (bt x0 x7) < 48 then (some false) else (if (bt x0 x7) > 57 then (some false) else (core_Name.l0 k x0 x6 (wrap64 (x7 + 1))))))) else (if x7 = 0 then (some false) else (if (bt x0 x7) < 48 then (some false) else (if (bt x0 x7) > 57 then (some false) else (core_Name.l0 k x0 x6 (wrap64 (x7 + 1))))))) else (none)) else (none)) else (if (x0.size : Int) > 0 then (some (decide ((x0.size : Int) ≤ 8))) else (some false))
def core_Name.f (k : Nat) (a0 : ByteArray) : Option (Bool) := core_Name.l0 k a0 (a0.size : Int) 0
theorem core_Name.mono_l : ∀ k, (∀ y0 y1 y2, LeO (core_Name.l0 k y0 y1 y2) (core_Name.l0 (k + 1) y0 y1 y2))
 | 0 => fun _ _ _ r h => by simp [core_Name.l0] at h
 | k + 1 => by
  have ih0 := core_Name.mono_l k
  ·intro y0 y1 y2
   unfold core_Name.l0
   repeat' first
   | (with_reducible exact ih0 _ _ _)
   | (with_reducible exact LeO.refl _)
   | (with_reducible exact LeO.none _)
   | (with_reducible refine LeO.ite ?_ ?_)
   | (with_reducible refine LeO.bind ?_ (fun _ => ?_))
theorem core_Name.mono : ∀ a0 k, LeO (core_Name.f k a0) (core_Name.f (k + 1) a0) := by
 intro a0 k
 have ih0 := core_Name.mono_l k
 unfold core_Name.f
 repeat' first
   | (with_reducible exact ih0 _ _ _)
   | (with_reducible exact LeO.refl _)
   | (with_reducible exact LeO.none _)
   | (with_reducible refine LeO.ite ?_ ?_)
   | (with_reducible refine LeO.bind ?_ (fun _ => ?_))
set_option maxHeartbeats 8000000 in
set_option maxRecDepth 100000 in
theorem core_Name.calls (k : Nat) (a0 : ByteArray) (r : Bool) (w : World) (h : core_Name.f k a0 = some r) :
  Calls Try.prog 9 #[.string a0] w fun e w' => e = .returned (.bool r) ∧ Drawn0 w w' := by
 have H : (core_Name.l0 k a0 (a0.size : Int) 0) = some r := h
 clear h
 have H' := gA H
 clear H
 go_enter Try.func9, Try.ntmps9
 go_wp2
 go_loopg [7] k (fun kq v7 w' => ∃ (x7_1 : Int), v7 = .int .i64 x7_1 ∧ Aside0 (core_Name.l0 kq a0 (a0.size : Int) x7_1 = some r) ∧ Aside0 (kq ≤ k) ∧ Drawn0 w w')
 case atStart => exact ⟨(0), (rfl), H', ⟨Nat.le_refl _⟩, by repeat (first | exact Drawn0.refl _ | apply Drawn0.step)⟩
 case round =>
  clear H'
  obtain ⟨x7_1, rfl, HA, HK1, ⟨m1, rfl⟩⟩ := hrel
  cases gk with
  | zero => exact absurd HA.out (by simp [core_Name.l0])
  | succ k1 =>
   have H := HA.out; clear HA
   simp only [core_Name.l0] at H
   by_cases c2 : x7_1 < (a0.size : Int)
   ·rw [if_pos c2] at H
    have c2b0 := decide_eq_true c2
    clear c2
    obtain ⟨c3, H⟩ := iS H
    have c3b0 := decide_eq_true c3
    clear c3
    obtain ⟨c4, H⟩ := iS H
    have c4b0 := decide_eq_true c4
    clear c4
    by_cases c6 : (bt a0 x7_1) ≥ 97
    ·rw [if_pos c6] at H
     have c6b0 : decide (97 ≤ (bt a0 x7_1)) = true := decide_eq_true c6
     clear c6
     by_cases c8 : ((bt a0 x7_1) ≤ 119)
     ·rw [if_pos c8] at H
      have c8b0 : decide ((bt a0 x7_1) ≤ 119) = true := decide_eq_true c8
      clear c8
      have H' := gA H
      clear H
      have p5 : 0 ≤ (x7_1 : Int) := of_decide_eq_true (by assumption)
      have q5 : x7_1 < (a0.size : Int) := of_decide_eq_true (by assumption)
      have hx5 := bt_at a0 x7_1
      replace p5 := eq_true p5
      replace q5 := eq_true q5
      have p7 : 0 ≤ (x7_1 : Int) := of_decide_eq_true (by assumption)
      have q7 : x7_1 < (a0.size : Int) := of_decide_eq_true (by assumption)
      have hx7 := bt_at a0 x7_1
      replace p7 := eq_true p7
      replace q7 := eq_true q7
      go_wp2
      go_roundg k1
      case measure => have := HK1.out; omega
      case rel => exact ⟨(wrap64 (x7_1 + 1)), (rfl), H', ⟨by have := HK1.out; omega⟩, by repeat (first | exact Drawn0.refl _ | apply Drawn0.step)⟩
     ·rw [if_neg c8] at H
      have c8b0 : decide ((bt a0 x7_1) ≤ 119) = false := decide_eq_false c8
      clear c8
      by_cases c9 : x7_1 = 0
      ·rw [if_pos c9] at H
       have c9b0 : (x7_1 == 0) = true := beq_iff_eq.mpr c9
       have c9b1 : (x7_1 != 0) = false := bne_eq_false_iff_eq.mpr c9
       clear c9
       obtain rfl := Option.some.inj H
       have p5 : 0 ≤ (x7_1 : Int) := of_decide_eq_true (by assumption)
       have q5 : x7_1 < (a0.size : Int) := of_decide_eq_true (by assumption)
       have hx5 := bt_at a0 x7_1
       replace p5 := eq_true p5
       replace q5 := eq_true q5
       have p7 : 0 ≤ (x7_1 : Int) := of_decide_eq_true (by assumption)
       have q7 : x7_1 < (a0.size : Int) := of_decide_eq_true (by assumption)
       have hx7 := bt_at a0 x7_1
       replace p7 := eq_true p7
       replace q7 := eq_true q7
       go_wp2
       go_ret
       exact ⟨rfl, by repeat (first | exact Drawn0.refl _ | apply Drawn0.step)⟩
      ·rw [if_neg c9] at H
       have c9b0 : (x7_1 == 0) = false := beq_eq_false_iff_ne.mpr c9
       have c9b1 : (x7_1 != 0) = true := bne_iff_ne.mpr c9
       by_cases c11 : (bt a0 x7_1) < 48
       ·rw [if_pos c11] at H
        have c11b0 := decide_eq_true c11
        clear c11
        obtain rfl := Option.some.inj H
        have p5 : 0 ≤ (x7_1 : Int) := of_decide_eq_true (by assumption)
        have q5 : x7_1 < (a0.size : Int) := of_decide_eq_true (by assumption)
        have hx5 := bt_at a0 x7_1
        replace p5 := eq_true p5
        replace q5 := eq_true q5
        have p7 : 0 ≤ (x7_1 : Int) := of_decide_eq_true (by assumption)
        have q7 : x7_1 < (a0.size : Int) := of_decide_eq_true (by assumption)
        have hx7 := bt_at a0 x7_1
        replace p7 := eq_true p7
        replace q7 := eq_true q7
        have p10 : 0 ≤ (x7_1 : Int) := of_decide_eq_true (by assumption)
        have q10 : x7_1 < (a0.size : Int) := of_decide_eq_true (by assumption)
        have hx10 := bt_at a0 x7_1
        replace p10 := eq_true p10
        replace q10 := eq_true q10
        go_wp2
        go_ret
        exact ⟨rfl, by repeat (first | exact Drawn0.refl _ | apply Drawn0.step)⟩
       ·rw [if_neg c11] at H
        have c11b0 := decide_eq_false c11
        clear c11
        by_cases c13 : (bt a0 x7_1) > 57
        ·rw [if_pos c13] at H
         have c13b0 : decide (57 < (bt a0 x7_1)) = true := decide_eq_true c13
         clear c13
         obtain rfl := Option.some.inj H
         have p5 : 0 ≤ (x7_1 : Int) := of_decide_eq_true (by assumption)
         have q5 : x7_1 < (a0.size : Int) := of_decide_eq_true (by assumption)
         have hx5 := bt_at a0 x7_1
         replace p5 := eq_true p5
         replace q5 := eq_true q5
         have p7 : 0 ≤ (x7_1 : Int) := of_decide_eq_true (by assumption)
         have q7 : x7_1 < (a0.size : Int) := of_decide_eq_true (by assumption)
         have hx7 := bt_at a0 x7_1
         replace p7 := eq_true p7
         replace q7 := eq_true q7
         have p10 : 0 ≤ (x7_1 : Int) := of_decide_eq_true (by assumption)
         have q10 : x7_1 < (a0.size : Int) := of_decide_eq_true (by assumption)
         have hx10 := bt_at a0 x7_1
         replace p10 := eq_true p10
         replace q10 := eq_true q10
         have p12 : 0 ≤ (x7_1 : Int) := of_decide_eq_true (by assumption)
         have q12 : x7_1 < (a0.size : Int) := of_decide_eq_true (by assumption)
         have hx12 := bt_at a0 x7_1
         replace p12 := eq_true p12
         replace q12 := eq_true q12
         go_wp2
         go_ret
         exact ⟨rfl, by repeat (first | exact Drawn0.refl _ | apply Drawn0.step)⟩
        ·rw [if_neg c13] at H
         have c13b0 : decide (57 < (bt a0 x7_1)) = false := decide_eq_false c13
         clear c13
         have H' := gA H
         clear H
         have p5 : 0 ≤ (x7_1 : Int) := of_decide_eq_true (by assumption)
         have q5 : x7_1 < (a0.size : Int) := of_decide_eq_true (by assumption)
         have hx5 := bt_at a0 x7_1
         replace p5 := eq_true p5
         replace q5 := eq_true q5
         have p7 : 0 ≤ (x7_1 : Int) := of_decide_eq_true (by assumption)
         have q7 : x7_1 < (a0.size : Int) := of_decide_eq_true (by assumption)
         have hx7 := bt_at a0 x7_1
         replace p7 := eq_true p7
         replace q7 := eq_true q7
         have p10 : 0 ≤ (x7_1 : Int) := of_decide_eq_true (by assumption)
         have q10 : x7_1 < (a0.size : Int) := of_decide_eq_true (by assumption)
         have hx10 := bt_at a0 x7_1
         replace p10 := eq_true p10
         replace q10 := eq_true q10
         have p12 : 0 ≤ (x7_1 : Int) := of_decide_eq_true (by assumption)
         have q12 : x7_1 < (a0.size : Int) := of_decide_eq_true (by assumption)
         have hx12 := bt_at a0 x7_1
         replace p12 := eq_true p12
         replace q12 := eq_true q12
         go_wp2
         go_roundg k1
         case measure => have := HK1.out; omega
         case rel => exact ⟨(wrap64 (x7_1 + 1)), (rfl), H', ⟨by have := HK1.out; omega⟩, by repeat (first | exact Drawn0.refl _ | apply Drawn0.step)⟩
    ·rw [if_neg c6] at H
     have c6b0 : decide (97 ≤ (bt a0 x7_1)) = false := decide_eq_false c6
     clear c6
     by_cases c14 : x7_1 = 0
     ·rw [if_pos c14] at H
      have c14b0 : (x7_1 == 0) = true := beq_iff_eq.mpr c14
      have c14b1 : (x7_1 != 0) = false := bne_eq_false_iff_eq.mpr c14
      clear c14
      obtain rfl := Option.some.inj H
      have p5 : 0 ≤ (x7_1 : Int) := of_decide_eq_true (by assumption)
      have q5 : x7_1 < (a0.size : Int) := of_decide_eq_true (by assumption)
      have hx5 := bt_at a0 x7_1
      replace p5 := eq_true p5
      replace q5 := eq_true q5
      go_wp2
      go_ret
      exact ⟨rfl, by repeat (first | exact Drawn0.refl _ | apply Drawn0.step)⟩
     ·rw [if_neg c14] at H
      have c14b0 : (x7_1 == 0) = false := beq_eq_false_iff_ne.mpr c14
      have c14b1 : (x7_1 != 0) = true := bne_iff_ne.mpr c14
      by_cases c16 : (bt a0 x7_1) < 48
      ·rw [if_pos c16] at H
       have c16b0 := decide_eq_true c16
       clear c16
       obtain rfl := Option.some.inj H
       have p5 : 0 ≤ (x7_1 : Int) := of_decide_eq_true (by assumption)
       have q5 : x7_1 < (a0.size : Int) := of_decide_eq_true (by assumption)
       have hx5 := bt_at a0 x7_1
       replace p5 := eq_true p5
       replace q5 := eq_true q5
       have p15 : 0 ≤ (x7_1 : Int) := of_decide_eq_true (by assumption)
       have q15 : x7_1 < (a0.size : Int) := of_decide_eq_true (by assumption)
       have hx15 := bt_at a0 x7_1
       replace p15 := eq_true p15
       replace q15 := eq_true q15
       go_wp2
       go_ret
       exact ⟨rfl, by repeat (first | exact Drawn0.refl _ | apply Drawn0.step)⟩
      ·rw [if_neg c16] at H
       have c16b0 := decide_eq_false c16
       clear c16
       by_cases c18 : (bt a0 x7_1) > 57
       ·rw [if_pos c18] at H
        have c18b0 : decide (57 < (bt a0 x7_1)) = true := decide_eq_true c18
        clear c18
        obtain rfl := Option.some.inj H
        have p5 : 0 ≤ (x7_1 : Int) := of_decide_eq_true (by assumption)
        have q5 : x7_1 < (a0.size : Int) := of_decide_eq_true (by assumption)
        have hx5 := bt_at a0 x7_1
        replace p5 := eq_true p5
        replace q5 := eq_true q5
        have p15 : 0 ≤ (x7_1 : Int) := of_decide_eq_true (by assumption)
        have q15 : x7_1 < (a0.size : Int) := of_decide_eq_true (by assumption)
        have hx15 := bt_at a0 x7_1
        replace p15 := eq_true p15
        replace q15 := eq_true q15
        have p17 : 0 ≤ (x7_1 : Int) := of_decide_eq_true (by assumption)
        have q17 : x7_1 < (a0.size : Int) := of_decide_eq_true (by assumption)
        have hx17 := bt_at a0 x7_1
        replace p17 := eq_true p17
        replace q17 := eq_true q17
        go_wp2
        go_ret
        exact ⟨rfl, by repeat (first | exact Drawn0.refl _ | apply Drawn0.step)⟩
       ·rw [if_neg c18] at H
        have c18b0 : decide (57 < (bt a0 x7_1)) = false := decide_eq_false c18
        clear c18
        have H' := gA H
        clear H
        have p5 : 0 ≤ (x7_1 : Int) := of_decide_eq_true (by assumption)
        have q5 : x7_1 < (a0.size : Int) := of_decide_eq_true (by assumption)
        have hx5 := bt_at a0 x7_1
        replace p5 := eq_true p5
        replace q5 := eq_true q5
        have p15 : 0 ≤ (x7_1 : Int) := of_decide_eq_true (by assumption)
        have q15 : x7_1 < (a0.size : Int) := of_decide_eq_true (by assumption)
        have hx15 := bt_at a0 x7_1
        replace p15 := eq_true p15
        replace q15 := eq_true q15
        have p17 : 0 ≤ (x7_1 : Int) := of_decide_eq_true (by assumption)
        have q17 : x7_1 < (a0.size : Int) := of_decide_eq_true (by assumption)
        have hx17 := bt_at a0 x7_1
        replace p17 := eq_true p17
        replace q17 := eq_true q17
        go_wp2
        go_roundg k1
        case measure => have := HK1.out; omega
        case rel => exact ⟨(wrap64 (x7_1 + 1)), (rfl), H', ⟨by have := HK1.out; omega⟩, by repeat (first | exact Drawn0.refl _ | apply Drawn0.step)⟩
   ·rw [if_neg c2] at H
    have c2b0 := decide_eq_false c2
    clear c2
    by_cases c19 : (a0.size : Int) > 0
    ·rw [if_pos c19] at H
     have c19b0 : decide (0 < (a0.size : Int)) = true := decide_eq_true c19
     have c19b1 : decide (0 < a0.size) = true := decide_eq_true (by omega)
     clear c19
     obtain rfl := Option.some.inj H
     go_wp2
     go_ret
     exact ⟨rfl, by repeat (first | exact Drawn0.refl _ | apply Drawn0.step)⟩
    ·rw [if_neg c19] at H
     have c19b0 : decide (0 < (a0.size : Int)) = false := decide_eq_false c19
     have c19b1 : decide (0 < a0.size) = false := decide_eq_false (by omega)
     clear c19
     obtain rfl := Option.some.inj H
     go_wp2
     go_ret
     exact ⟨rfl, by repeat (first | exact Drawn0.refl _ | apply Drawn0.step)⟩
def ordI (a b : Int) : Int := if a < b then -1 else if a > b then 1 else 0
def shp : List Int → List Int → Int
 | [], _ => 0
 | _ :: _, [] => 0
 | x :: xs, y :: ys => if ordI x y ≠ 0 then ordI x y else shp xs ys
mutual
def cmpA : S25 → S25 → Int
 | ⟨s, c⟩, b => if ordI s.length b.f0.length ≠ 0 then ordI s.length b.f0.length else if shp s b.f0 ≠ 0 then shp s b.f0 else if cmpCs c b.f1 ≠ 0 then cmpCs c b.f1 else ordI c.length b.f1.length
def cmpCs : List S52 → List S52 → Int
 | [], _ => 0
 | _ :: _, [] => 0
 | x :: xs, y :: ys => if cmpC x y ≠ 0 then cmpC x y else cmpCs xs ys
def cmpC : S52 → S52 → Int
 | ⟨k, n, bx⟩, d => if ordI k d.f0 ≠ 0 then ordI k d.f0 else if ordI n d.f1 ≠ 0 then ordI n d.f1 else cmpB bx d.f2
def cmpB : List S25 → List S25 → Int
 | [], y => ordI 0 y.length
 | x :: xs, [] => ordI ((x :: xs).length) 0
 | x :: _, y :: _ => cmpA x y
end
def fnz (g : Nat → Int) : Nat → Nat → Int
 | 0, _ => 0
 | d + 1, i => if g i ≠ 0 then g i else fnz g d (i + 1)
theorem ord37 (a b : Int) (w : World) : Calls Try.prog 56 #[.int .i64 a, .int .i64 b] w fun e w' => e = .returned (.int .i64 (ordI a b)) ∧ w' = w := by
 by_cases h1 : a < b
 ·have e : ordI a b = -1 := by unfold ordI; rw [if_pos h1]
  rw [e]
  go_enter Try.func56, Try.ntmps56
  go_wp2
  go_ret
  exact ⟨rfl, rfl⟩
 ·by_cases h2 : a > b
  ·have e : ordI a b = 1 := by unfold ordI; rw [if_neg h1, if_pos h2]
   rw [e]
   go_enter Try.func56, Try.ntmps56
   go_wp2
   go_ret
   exact ⟨rfl, rfl⟩
  ·have e : ordI a b = 0 := by unfold ordI; rw [if_neg h1, if_neg h2]
   rw [e]
   go_enter Try.func56, Try.ntmps56
   go_wp2
   go_ret
   exact ⟨rfl, rfl⟩
theorem ord41 (a b : Int) (w : World) : Calls Try.prog 70 #[.int .i64 a, .int .i64 b] w fun e w' => e = .returned (.int .i64 (ordI a b)) ∧ w' = w := by
 by_cases h1 : a < b
 ·have e : ordI a b = -1 := by unfold ordI; rw [if_pos h1]
  rw [e]
  go_enter Try.func70, Try.ntmps70
  go_wp2
  go_ret
  exact ⟨rfl, rfl⟩
 ·by_cases h2 : a > b
  ·have e : ordI a b = 1 := by unfold ordI; rw [if_neg h1, if_pos h2]
   rw [e]
   go_enter Try.func70, Try.ntmps70
   go_wp2
   go_ret
   exact ⟨rfl, rfl⟩
  ·have e : ordI a b = 0 := by unfold ordI; rw [if_neg h1, if_neg h2]
   rw [e]
   go_enter Try.func70, Try.ntmps70
   go_wp2
   go_ret
   exact ⟨rfl, rfl⟩
set_option maxHeartbeats 1000000 in
set_option maxRecDepth 100000 in
theorem steps380 (p2 p3 : Value) (m : Nat) (hm : m ≤ 9223372036854775807) (g : Nat → Int) (w : World)
  (hf : ∀ (i : Nat) (W : World), i < m → Below w.heap.size w W → Calls Try.prog 57 #[.int .i64 i, p2, p3] W (fun e W' => e = .returned (.int .i64 (g i)) ∧ Below W.heap.size W W')) :
  Calls Try.prog 55 #[.int .i64 m, .func (.func 57) #[] #[p2, p3]] w (fun e W' => e = .returned (.int .i64 (fnz g m 0)) ∧ Below w.heap.size w W') := by
 have HF := Aside0.mk hf
 clear hf
 go_enter Try.func55, Try.ntmps55
 go_wp2
 go_loopg [8] m (fun kq v8 W => ∃ (j : Nat), v8 = .int .i64 (j : Int) ∧ Aside0 (j + kq = m) ∧ Aside0 (fnz g m 0 = fnz g kq j) ∧ Aside0 (Below w.heap.size w W))
 case atStart => exact ⟨0, rfl, ⟨by omega⟩, ⟨rfl⟩, ⟨Below.refl _ _⟩⟩
 case round =>
  obtain ⟨j, rfl, HJ, HG, HB⟩ := hrel
  by_cases hlt : j < m
  ·obtain ⟨q, rfl⟩ : ∃ q, gk = q + 1 := ⟨gk - 1, by have := HJ.out; omega⟩
   have HWR : Aside0 (wrap64 ((j : Int) + 1) = ((j + 1 : Nat) : Int)) := ⟨by unfold wrap64; omega⟩
   have HC := Aside0.mk (HF.out j wr hlt HB.out)
   by_cases hz : g j = 0
   ·have hzb : (g j != 0) = false := by simpa using hz
    have HG2 : Aside0 (fnz g m 0 = fnz g q (j + 1)) := ⟨by rw [HG.out]; show (if g j ≠ 0 then _ else _) = _; rw [if_neg (by simpa using hz)]⟩
    clear hz HG
    go_wp2_with (first | (go_at_call 57; (with_reducible refine HC.out.mono ?_); rintro e w1 ⟨rfl, hb1⟩; have HB1 := Aside0.mk (HB.out.trans (hb1.mono HB.out.size)); clear hb1))
    go_roundg q
    case measure => omega
    case rel => exact ⟨j + 1, by go_num, ⟨by have := HJ.out; omega⟩, HG2, HB1⟩
   ·have hzb : (g j != 0) = true := by simpa using hz
    have HG2 : Aside0 (fnz g m 0 = g j) := ⟨by rw [HG.out]; show (if g j ≠ 0 then _ else _) = _; rw [if_pos hz]⟩
    clear hz HG
    go_wp2_with (first | (go_at_call 57; (with_reducible refine HC.out.mono ?_); rintro e w1 ⟨rfl, hb1⟩; have HB1 := Aside0.mk (HB.out.trans (hb1.mono HB.out.size)); clear hb1))
    go_ret
    exact ⟨by rw [HG2.out]; rfl, HB1.out⟩
  ·have hk : gk = 0 := by have := HJ.out; omega
   subst hk
   go_wp2_with (fail)
   go_ret
   exact ⟨by rw [HG.out]; rfl, HB.out⟩
set_option maxHeartbeats 1000000 in
set_option maxRecDepth 100000 in
theorem steps390 (p2 p3 : Value) (m : Nat) (hm : m ≤ 9223372036854775807) (g : Nat → Int) (w : World)
  (hf : ∀ (i : Nat) (W : World), i < m → Below w.heap.size w W → Calls Try.prog 58 #[.int .i64 i, p2, p3] W (fun e W' => e = .returned (.int .i64 (g i)) ∧ Below W.heap.size W W')) :
  Calls Try.prog 55 #[.int .i64 m, .func (.func 58) #[] #[p2, p3]] w (fun e W' => e = .returned (.int .i64 (fnz g m 0)) ∧ Below w.heap.size w W') := by
 have HF := Aside0.mk hf
 clear hf
 go_enter Try.func55, Try.ntmps55
 go_wp2
 go_loopg [8] m (fun kq v8 W => ∃ (j : Nat), v8 = .int .i64 (j : Int) ∧ Aside0 (j + kq = m) ∧ Aside0 (fnz g m 0 = fnz g kq j) ∧ Aside0 (Below w.heap.size w W))
 case atStart => exact ⟨0, rfl, ⟨by omega⟩, ⟨rfl⟩, ⟨Below.refl _ _⟩⟩
 case round =>
  obtain ⟨j, rfl, HJ, HG, HB⟩ := hrel
  by_cases hlt : j < m
  ·obtain ⟨q, rfl⟩ : ∃ q, gk = q + 1 := ⟨gk - 1, by have := HJ.out; omega⟩
   have HWR : Aside0 (wrap64 ((j : Int) + 1) = ((j + 1 : Nat) : Int)) := ⟨by unfold wrap64; omega⟩
   have HC := Aside0.mk (HF.out j wr hlt HB.out)
   by_cases hz : g j = 0
   ·have hzb : (g j != 0) = false := by simpa using hz
    have HG2 : Aside0 (fnz g m 0 = fnz g q (j + 1)) := ⟨by rw [HG.out]; show (if g j ≠ 0 then _ else _) = _; rw [if_neg (by simpa using hz)]⟩
    clear hz HG
    go_wp2_with (first | (go_at_call 58; (with_reducible refine HC.out.mono ?_); rintro e w1 ⟨rfl, hb1⟩; have HB1 := Aside0.mk (HB.out.trans (hb1.mono HB.out.size)); clear hb1))
    go_roundg q
    case measure => omega
    case rel => exact ⟨j + 1, by go_num, ⟨by have := HJ.out; omega⟩, HG2, HB1⟩
   ·have hzb : (g j != 0) = true := by simpa using hz
    have HG2 : Aside0 (fnz g m 0 = g j) := ⟨by rw [HG.out]; show (if g j ≠ 0 then _ else _) = _; rw [if_pos hz]⟩
    clear hz HG
    go_wp2_with (first | (go_at_call 58; (with_reducible refine HC.out.mono ?_); rintro e w1 ⟨rfl, hb1⟩; have HB1 := Aside0.mk (HB.out.trans (hb1.mono HB.out.size)); clear hb1))
    go_ret
    exact ⟨by rw [HG2.out]; rfl, HB1.out⟩
  ·have hk : gk = 0 := by have := HJ.out; omega
   subst hk
   go_wp2_with (fail)
   go_ret
   exact ⟨by rw [HG.out]; rfl, HB.out⟩
theorem steps38 (p2 p3 : Value) (m : Nat) (r : Int) (hm : m ≤ 9223372036854775807) (g : Nat → Int) (w : World) (hr : fnz g m 0 = r)
  (hf : ∀ (i : Nat) (W : World), i < m → Below w.heap.size w W → Calls Try.prog 57 #[.int .i64 i, p2, p3] W (fun e W' => e = .returned (.int .i64 (g i)) ∧ Below W.heap.size W W')) :
  Calls Try.prog 55 #[.int .i64 m, .func (.func 57) #[] #[p2, p3]] w (fun e W' => e = .returned (.int .i64 r) ∧ Below w.heap.size w W') := by
 subst hr
 exact steps380 p2 p3 m hm g w hf
theorem steps39 (p2 p3 : Value) (m : Nat) (r : Int) (hm : m ≤ 9223372036854775807) (g : Nat → Int) (w : World) (hr : fnz g m 0 = r)
  (hf : ∀ (i : Nat) (W : World), i < m → Below w.heap.size w W → Calls Try.prog 58 #[.int .i64 i, p2, p3] W (fun e W' => e = .returned (.int .i64 (g i)) ∧ Below W.heap.size W W')) :
  Calls Try.prog 55 #[.int .i64 m, .func (.func 58) #[] #[p2, p3]] w (fun e W' => e = .returned (.int .i64 r) ∧ Below w.heap.size w W') := by
 subst hr
 exact steps390 p2 p3 m hm g w hf
theorem shp_fnz : ∀ (s t : List Int), s.length = t.length → shp s t = fnz (fun i => ordI (s.getD i 0) (t.getD i 0)) s.length 0 := by
 have key : ∀ (s t : List Int) (g : Nat → Int) (j : Nat), s.length = t.length → (∀ i, i < s.length → g (j + i) = ordI (s.getD i 0) (t.getD i 0)) → fnz g s.length j = shp s t := by
  intro s
  induction s with
  | nil => intro t g j h hg; rfl
  | cons x s ih =>
   intro t g j h hg
   cases t with
   | nil => simp at h
   | cons y t =>
    simp only [List.length_cons] at h
    have h0 := hg 0 (by simp)
    simp only [Nat.add_zero, List.getD_cons_zero] at h0
    show (if g j ≠ 0 then g j else fnz g s.length (j + 1)) = (if ordI x y ≠ 0 then ordI x y else shp s t)
    rw [h0, ih t g (j + 1) (by omega) (fun i hi => by have := hg (i + 1) (by simp; omega); rw [List.getD_cons_succ, List.getD_cons_succ] at this; rw [← this]; congr 1; omega)]
 intro s t h
 exact (key s t _ 0 h (fun i _ => by rw [Nat.zero_add])).symm
theorem cmpCs_fnz : ∀ (s t : List S52), cmpCs s t = fnz (fun i => cmpC (s.getD i z52) (t.getD i z52)) (min s.length t.length) 0 := by
 have key : ∀ (s t : List S52) (g : Nat → Int) (j : Nat), (∀ i, i < min s.length t.length → g (j + i) = cmpC (s.getD i z52) (t.getD i z52)) → fnz g (min s.length t.length) j = cmpCs s t := by
  intro s
  induction s with
  | nil => intro t g j hg; simp [fnz, cmpCs]
  | cons x s ih =>
   intro t g j hg
   cases t with
   | nil => simp [fnz, cmpCs]
   | cons y t =>
    have e : min (x :: s).length (y :: t).length = min s.length t.length + 1 := by simp only [List.length_cons]; omega
    have h0 := hg 0 (by omega)
    simp only [Nat.add_zero, List.getD_cons_zero] at h0
    rw [e]
    show (if g j ≠ 0 then g j else fnz g (min s.length t.length) (j + 1)) = cmpCs (x :: s) (y :: t)
    rw [h0, ih t g (j + 1) (fun i hi => by have := hg (i + 1) (by omega); rw [List.getD_cons_succ, List.getD_cons_succ] at this; rw [← this]; congr 1; omega)]
    rw [cmpCs]
 intro s t
 exact (key s t _ 0 (fun i _ => by rw [Nat.zero_add])).symm
set_option maxHeartbeats 1000000 in
set_option maxRecDepth 100000 in
theorem clo38 (g2 g3 : Nat) (A0 A1 B0 B1 : Option Addr) (c0 c1 d0 d1 n1 m1 : Nat) (s t : List Int) (W : World)
  (hb2 : W.heap[g2]? = some (.cells #[.slice A0 s.length c0, .slice A1 n1 c1] 25 (0, 0))) (hb3 : W.heap[g3]? = some (.cells #[.slice B0 t.length d0, .slice B1 m1 d1] 25 (0, 0)))
  (hs : (Kd.int .i64).C W A0 s.length s) (ht : (Kd.int .i64).C W B0 t.length t) (i : Nat) (h1 : i < s.length) (h2 : i < t.length) :
  Calls Try.prog 57 #[.int .i64 i, .pointer (some ⟨g2, 0, none⟩), .pointer (some ⟨g3, 0, none⟩)] W fun e W' => e = .returned (.int .i64 (ordI (s.getD i 0) (t.getD i 0))) ∧ Below W.heap.size W W' := by
 have hc2 : W.cell? ⟨g2, 0, none⟩ = some (.slice A0 s.length c0) := (blk_cell hb2 0).trans rfl
 have hc3 : W.cell? ⟨g3, 0, none⟩ = some (.slice B0 t.length d0) := (blk_cell hb3 0).trans rfl
 obtain ⟨ad, e1, hx⟩ := Kd.at_int hs (i : Int) (by omega) (by omega)
 obtain ⟨bd, e2, hy⟩ := Kd.at_int ht (i : Int) (by omega) (by omega)
 subst e1 e2
 rw [Int.toNat_natCast] at hx hy
 have r1 : rd s (i : Int) = s.getD i 0 := by simp [rd]
 have r2 : rd t (i : Int) = t.getD i 0 := by simp [rd]
 rw [r1] at hx
 rw [r2] at hy
 generalize s.getD i 0 = x at hx ⊢
 generalize t.getD i 0 = y at hy ⊢
 have hi1 : (i : Int) < s.length := by omega
 have hi2 : (i : Int) < t.length := by omega
 have hut := Try.underlying25
 clear hs ht hb2 hb3 r1 r2
 go_enter Try.func57, Try.ntmps57
 go_wp2
 go_quiet ((go_at_call 56; exact Calls.quiet_of_same (ord37 _ _ _)))
 go_wp2
 go_ret
 exact ⟨rfl, pw_below_drewN (Below.refl _ _) _⟩
abbrev CellOK (x y : S52) : Prop := ∀ (A1 A2 : Option Addr) (c1 c2 : Nat) (w : World), k25.C w A1 x.f2.length x.f2 → x.f2.length ≤ c1 → k25.C w A2 y.f2.length y.f2 → y.f2.length ≤ c2 →
 Calls Try.prog 59 #[.agg #[.int .i64 x.f0, .int .i64 x.f1, .slice A1 x.f2.length c1], .agg #[.int .i64 y.f0, .int .i64 y.f1, .slice A2 y.f2.length c2]] w fun e w' => e = .returned (.int .i64 (cmpC x y)) ∧ Below w.heap.size w w'
set_option maxHeartbeats 1000000 in
set_option maxRecDepth 100000 in
theorem clo39 (g2 g3 : Nat) (A0 A1 B0 B1 : Option Addr) (c0 c1 d0 d1 n1 m1 : Nat) (s t : List S52) (W : World)
  (hb2 : W.heap[g2]? = some (.cells #[.slice A0 n1 c0, .slice A1 s.length c1] 25 (0, 0))) (hb3 : W.heap[g3]? = some (.cells #[.slice B0 m1 d0, .slice B1 t.length d1] 25 (0, 0)))
  (hs : k52.C W A1 s.length s) (ht : k52.C W B1 t.length t) (i : Nat) (h1 : i < s.length) (h2 : i < t.length) (hok : CellOK (s.getD i z52) (t.getD i z52)) :
  Calls Try.prog 58 #[.int .i64 i, .pointer (some ⟨g2, 0, none⟩), .pointer (some ⟨g3, 0, none⟩)] W fun e W' => e = .returned (.int .i64 (cmpC (s.getD i z52) (t.getD i z52))) ∧ Below W.heap.size W W' := by
 have hc2 : W.cell? ⟨g2, 1, none⟩ = some (.slice A1 s.length c1) := (blk_cell hb2 1).trans rfl
 have hc3 : W.cell? ⟨g3, 1, none⟩ = some (.slice B1 t.length d1) := (blk_cell hb3 1).trans rfl
 obtain ⟨ad, E1, k1, e1, hx0, hx1, hx2, hxl, hxc⟩ := at_T52 hs (i : Int) (by omega) (by omega)
 obtain ⟨bd, E2, k2, e2, hy0, hy1, hy2, hyl, hyc⟩ := at_T52 ht (i : Int) (by omega) (by omega)
 subst e1 e2
 rw [Int.toNat_natCast] at hx0 hx1 hx2 hy0 hy1 hy2
 have r1 : rd_T52 s (i : Int) = s.getD i z52 := by simp [rd_T52]
 have r2 : rd_T52 t (i : Int) = t.getD i z52 := by simp [rd_T52]
 rw [r1] at hx0 hx1 hx2 hxl hxc
 rw [r2] at hy0 hy1 hy2 hyl hyc
 generalize s.getD i z52 = x at hok hx0 hx1 hx2 hxl hxc ⊢
 generalize t.getD i z52 = y at hok hy0 hy1 hy2 hyl hyc ⊢
 have HOK := Aside0.mk hok
 have HXL := Aside0.mk hxl
 have HXC := Aside0.mk hxc
 have HYL := Aside0.mk hyl
 have HYC := Aside0.mk hyc
 have hi1 : (i : Int) < s.length := by omega
 have hi2 : (i : Int) < t.length := by omega
 have hut := Try.underlying25
 have hut2 := Try.underlying52
 clear hs ht hb2 hb3 r1 r2 hok hxl hxc hyl hyc
 go_enter Try.func58, Try.ntmps58
 go_wp2
 go_still_tail 10, (by kernel_rfl)
 change wpList _ _ _ _ _ W.drew
 have HBW := Aside0.mk (below_drew (Below.refl W.heap.size W))
 have HXC2 := Aside0.mk (Kd.C_below HXC.out HBW.out)
 have HYC2 := Aside0.mk (Kd.C_below HYC.out HBW.out)
 clear HXC HYC hc2 hc3 hx0 hx1 hx2 hy0 hy1 hy2
 generalize W.drew = W2 at HBW HXC2 HYC2 ⊢
 go_wp2_with (first | (go_at_call 59; (with_reducible refine (HOK.out E1 E2 k1 k2 W2 HXC2.out HXL.out HYC2.out HYL.out).mono ?_); rintro e w1 ⟨rfl, hb1⟩; have HB1 := Aside0.mk (HBW.out.trans (hb1.mono HBW.out.size)); clear hb1))
 go_ret
 exact ⟨rfl, HB1.out⟩
abbrev CmpOK (a b : S25) : Prop := ∀ (A0 A1 B0 B1 : Option Addr) (c0 c1 d0 d1 : Nat) (w : World), (Kd.int .i64).C w A0 a.f0.length a.f0 → a.f0.length ≤ c0 → k52.C w A1 a.f1.length a.f1 → a.f1.length ≤ c1 → (Kd.int .i64).C w B0 b.f0.length b.f0 → b.f0.length ≤ d0 → k52.C w B1 b.f1.length b.f1 → b.f1.length ≤ d1 →
 Calls Try.prog 41 #[.agg #[.slice A0 a.f0.length c0, .slice A1 a.f1.length c1], .agg #[.slice B0 b.f0.length d0, .slice B1 b.f1.length d1]] w fun e w' => e = .returned (.int .i64 (cmpA a b)) ∧ Below w.heap.size w w'
theorem box2 (w : World) (o1 o2 : Obj) : Below w.heap.size w ((w.alloc o1).alloc o2) ∧ ((w.alloc o1).alloc o2).heap[w.heap.size]? = some o1 ∧ ((w.alloc o1).alloc o2).heap[w.heap.size + 1]? = some o2 :=
 ⟨below_alloc (below_alloc (Below.refl _ _) _) _, blk_alloc (blk_new w _) _, by simpa using blk_new (w.alloc o1) o2⟩
set_option maxHeartbeats 2000000 in
set_option maxRecDepth 100000 in
theorem cell_step (x y : S52) (hok : ∀ a ∈ x.f2, ∀ b, CmpOK a b) : CellOK x y := by
 intro A1 A2 c1 c2 w hx hxl hy hyl
 have hut := Try.underlying52
 obtain ⟨x0, x1, x2⟩ := x
 obtain ⟨y0, y1, y2⟩ := y
 simp only at hx hxl hy hyl hok ⊢
 by_cases h1 : ordI x0 y0 = 0
 ·have h1b : (ordI x0 y0 != 0) = false := by simpa using h1
  by_cases h2 : ordI x1 y1 = 0
  ·have h2b : (ordI x1 y1 != 0) = false := by simpa using h2
   have h2c : (ordI x1 y1 == 0) = true := by simpa using h2
   have e : cmpC ⟨x0, x1, x2⟩ ⟨y0, y1, y2⟩ = cmpB x2 y2 := by rw [cmpC, if_neg (by simpa using h1), if_neg (by simpa using h2)]
   rw [e]
   clear h1 h2 e
   cases x2 with
   | nil =>
    have e : cmpB [] y2 = ordI 0 y2.length := by rw [cmpB]
    rw [e]
    clear e
    go_enter Try.func59, Try.ntmps59
    go_wp2_with (first | (go_at_call 56; (with_reducible refine (ord37 _ _ _).mono ?_); rintro e w1 ⟨rfl, rfl⟩) | (go_at_call 70; (with_reducible refine (ord41 _ _ _).mono ?_); rintro e w1 ⟨rfl, rfl⟩))
    go_ret
    exact ⟨rfl, below_alloc (below_alloc (Below.refl _ _) _) _⟩
   | cons a x2 =>
    have hxn : (((a :: x2).length : Int) == 0) = false := by simp; omega
    cases y2 with
    | nil =>
     have e : cmpB (a :: x2) [] = ordI (a :: x2).length 0 := by rw [cmpB]
     rw [e]
     generalize (a :: x2).length = lx at hxn ⊢
     clear e
     go_enter Try.func59, Try.ntmps59
     go_wp2_with (first | (go_at_call 56; (with_reducible refine (ord37 _ _ _).mono ?_); rintro e w1 ⟨rfl, rfl⟩) | (go_at_call 70; (with_reducible refine (ord41 _ _ _).mono ?_); rintro e w1 ⟨rfl, rfl⟩))
     go_ret
     exact ⟨rfl, below_alloc (below_alloc (Below.refl _ _) _) _⟩
    | cons b y2 =>
     have hyn : (((b :: y2).length : Int) == 0) = false := by simp; omega
     have e : cmpB (a :: x2) (b :: y2) = cmpA a b := by rw [cmpB]
     rw [e]
     have HOK := Aside0.mk (hok a (by simp) b)
     obtain ⟨ad, E0, k0, E1, k1, e1, ha0, ha1, hl0, hs0, hl1, hs1⟩ := at_T25 hx 0 (by omega) (by simp)
     obtain ⟨bd, F0, m0, F1, m1, e2, hb0, hb1, hm0, ht0, hm1, ht1⟩ := at_T25 hy 0 (by omega) (by simp)
     rw [show rd_T25 (a :: x2) 0 = a from rfl] at ha0 ha1 hl0 hs0 hl1 hs1
     rw [show rd_T25 (b :: y2) 0 = b from rfl] at hb0 hb1 hm0 ht0 hm1 ht1
     rw [show Int.toNat 0 * 2 = 0 from rfl] at ha0 ha1 hb0 hb1
     subst e1 e2
     have HW := Aside0.mk (box2 w (.cells #[.int .i64 x0, .int .i64 x1, .slice (some ad) (a :: x2).length c1] 52) (.cells #[.int .i64 y0, .int .i64 y1, .slice (some bd) (b :: y2).length c2] 52))
     have hn1 : 0 < (a :: x2).length := by simp
     have hn2 : 0 < (b :: y2).length := by simp
     generalize (a :: x2).length = lx at hxn hn1 HW ⊢
     generalize (b :: y2).length = ly at hyn hn2 HW ⊢
     have HA0 := Aside0.mk ha0
     have HA1 := Aside0.mk ha1
     have HB0 := Aside0.mk hb0
     have HB1 := Aside0.mk hb1
     clear e ha0 ha1 hb0 hb1
     go_enter Try.func59, Try.ntmps59
     go_upto_region 9 with (first | (go_at_call 56; (with_reducible refine (ord37 _ _ _).mono ?_); rintro e w1 ⟨rfl, rfl⟩) | (go_at_call 70; (with_reducible refine (ord41 _ _ _).mono ?_); rintro e w1 ⟨rfl, rfl⟩))
     have HW2 := HW.out
     clear HW
     generalize ((w.alloc (.cells #[.int .i64 x0, .int .i64 x1, .slice (some ad) lx c1] 52)).alloc (.cells #[.int .i64 y0, .int .i64 y1, .slice (some bd) ly c2] 52)) = W at HW2 ⊢
     have hcX : W.cell? ⟨w.heap.size, 2, none⟩ = some (.slice (some ad) lx c1) := (blk_cell HW2.2.1 2).trans rfl
     have hcY : W.cell? ⟨w.heap.size + 1, 2, none⟩ = some (.slice (some bd) ly c2) := (blk_cell HW2.2.2 2).trans rfl
     have ha0 := pw_cell_below HW2.1 HA0.out
     have ha1 := pw_cell_below HW2.1 HA1.out
     have hb0 := pw_cell_below HW2.1 HB0.out
     have hb1 := pw_cell_below HW2.1 HB1.out
     rw [show ad.add 0 = ad by simp [Addr.add]] at ha0 ha1
     rw [show bd.add 0 = bd by simp [Addr.add]] at hb0 hb1
     have HBA := Aside0.mk HW2.1
     have HS0 := Aside0.mk (Kd.C_below hs0 HW2.1)
     have HS1 := Aside0.mk (Kd.C_below hs1 HW2.1)
     have HT0 := Aside0.mk (Kd.C_below ht0 HW2.1)
     have HT1 := Aside0.mk (Kd.C_below ht1 HW2.1)
     have HL0 := Aside0.mk hl0
     have HL1 := Aside0.mk hl1
     have HM0 := Aside0.mk hm0
     have HM1 := Aside0.mk hm1
     have hut25 := Try.underlying25
     clear HW2 HA0 HA1 HB0 HB1 hs0 hs1 ht0 ht1 hl0 hl1 hm0 hm1 hx hy hxl hyl hok h1b h2b h2c
     go_still_tail 8, (by kernel_rfl)
     change wpList _ _ _ _ _ W.drew
     have HBW := Aside0.mk (below_drew (Below.refl W.heap.size W))
     have HS0 := Aside0.mk (Kd.C_below HS0.out HBW.out)
     have HS1 := Aside0.mk (Kd.C_below HS1.out HBW.out)
     have HT0 := Aside0.mk (Kd.C_below HT0.out HBW.out)
     have HT1 := Aside0.mk (Kd.C_below HT1.out HBW.out)
     have HBA := Aside0.mk (HBA.out.trans (HBW.out.mono HBA.out.size))
     clear hcX hcY ha0 ha1 hb0 hb1 HBW
     generalize W.drew = W2 at HS0 HS1 HT0 HT1 HBA ⊢
     go_wp2_with (first | (go_at_call 41; (with_reducible refine (HOK.out E0 E1 F0 F1 k0 k1 m0 m1 W2 HS0.out HL0.out HS1.out HL1.out HT0.out HM0.out HT1.out HM1.out).mono ?_); rintro e w1 ⟨rfl, hb1⟩; have HB1 := Aside0.mk (HBA.out.trans (hb1.mono HBA.out.size)); clear hb1))
     go_ret
     exact ⟨rfl, HB1.out⟩
  ·have h2b : (ordI x1 y1 != 0) = true := by simpa using h2
   have h2c : (ordI x1 y1 == 0) = false := by simpa using h2
   have e : cmpC ⟨x0, x1, x2⟩ ⟨y0, y1, y2⟩ = ordI x1 y1 := by rw [cmpC, if_neg (by simpa using h1), if_pos h2]
   rw [e]
   clear h1 h2 e
   go_enter Try.func59, Try.ntmps59
   go_wp2_with (first | (go_at_call 56; (with_reducible refine (ord37 _ _ _).mono ?_); rintro e w1 ⟨rfl, rfl⟩) | (go_at_call 70; (with_reducible refine (ord41 _ _ _).mono ?_); rintro e w1 ⟨rfl, rfl⟩))
   go_ret
   exact ⟨rfl, below_alloc (below_alloc (Below.refl _ _) _) _⟩
 ·have h1b : (ordI x0 y0 != 0) = true := by simpa using h1
  have e : cmpC ⟨x0, x1, x2⟩ ⟨y0, y1, y2⟩ = ordI x0 y0 := by rw [cmpC]; rw [if_pos h1]
  rw [e]
  clear h1 e
  go_enter Try.func59, Try.ntmps59
  go_wp2_with (first | (go_at_call 56; (with_reducible refine (ord37 _ _ _).mono ?_); rintro e w1 ⟨rfl, rfl⟩) | (go_at_call 70; (with_reducible refine (ord41 _ _ _).mono ?_); rintro e w1 ⟨rfl, rfl⟩))
  go_ret
  exact ⟨rfl, below_alloc (below_alloc (Below.refl _ _) _) _⟩
theorem getD_mem {α : Type} {l : List α} {i : Nat} {z : α} (h : i < l.length) : l.getD i z ∈ l := by
 rw [List.getD_eq_getElem?_getD, List.getElem?_eq_getElem h]
 exact List.getElem_mem h
theorem ordI_zero {a b : Int} (h : ordI a b = 0) : a = b := by
 unfold ordI at h
 split at h
 ·cases h
 ·split at h
  ·cases h
  ·omega
set_option maxHeartbeats 2000000 in
set_option maxRecDepth 100000 in
theorem cmp_step (a b : S25) (hok : ∀ x ∈ a.f1, ∀ y, CellOK x y) : CmpOK a b := by
 intro A0 A1 B0 B1 c0 c1 d0 d1 w hs0 hc0 hs1 hc1 ht0 hd0 ht1 hd1
 have hut := Try.underlying25
 obtain ⟨s, c⟩ := a
 obtain ⟨t, d⟩ := b
 simp only at hs0 hc0 hs1 hc1 ht0 hd0 ht1 hd1 hok ⊢
 have hml := hs0.2.1
 have hml1 := hs1.2.1
 have HS0 := Aside0.mk hs0
 have HS1 := Aside0.mk hs1
 have HT0 := Aside0.mk ht0
 have HT1 := Aside0.mk ht1
 have HOK := Aside0.mk hok
 have HM := Aside0.mk hml
 have HM1 := Aside0.mk hml1
 clear hs0 hs1 ht0 ht1 hc0 hc1 hd0 hd1 hok hml hml1
 go_enter Try.func41, Try.ntmps41
 go_upto_region 2 with (fail)
 have HW2 := box2 w (.cells #[.slice A0 s.length c0, .slice A1 c.length c1] 25) (.cells #[.slice B0 t.length d0, .slice B1 d.length d1] 25)
 generalize ((w.alloc (.cells #[.slice A0 s.length c0, .slice A1 c.length c1] 25)).alloc (.cells #[.slice B0 t.length d0, .slice B1 d.length d1] 25)) = W at HW2 ⊢
 have hX0 : W.cell? ⟨w.heap.size, 0, none⟩ = some (.slice A0 s.length c0) := (blk_cell HW2.2.1 0).trans rfl
 have hX1 : W.cell? ⟨w.heap.size, 1, none⟩ = some (.slice A1 c.length c1) := (blk_cell HW2.2.1 1).trans rfl
 have hY0 : W.cell? ⟨w.heap.size + 1, 0, none⟩ = some (.slice B0 t.length d0) := (blk_cell HW2.2.2 0).trans rfl
 have hY1 : W.cell? ⟨w.heap.size + 1, 1, none⟩ = some (.slice B1 d.length d1) := (blk_cell HW2.2.2 1).trans rfl
 have HBK := Aside0.mk HW2
 clear HW2
 by_cases h1 : ordI s.length t.length = 0
 ·have h1b : (ordI s.length t.length != 0) = false := by simpa using h1
  have hst : s.length = t.length := by have := ordI_zero h1; omega
  have HR := Aside0.mk (shp_fnz s t hst).symm
  have H38 : Aside0 (∀ (i : Nat) (W' : World), i < s.length → Below W.heap.size W W' → Calls Try.prog 57 #[.int .i64 i, .pointer (some ⟨w.heap.size, 0, none⟩), .pointer (some ⟨w.heap.size + 1, 0, none⟩)] W' (fun e W'' => e = .returned (.int .i64 (ordI (s.getD i 0) (t.getD i 0))) ∧ Below W'.heap.size W' W'')) :=
   ⟨fun i W' hi hb => clo38 _ _ A0 A1 B0 B1 c0 c1 d0 d1 c.length d.length s t W' (blk_below HBK.out.2.1 hb) (blk_below HBK.out.2.2 hb) (Kd.C_below (Kd.C_below HS0.out HBK.out.1) hb) (Kd.C_below (Kd.C_below HT0.out HBK.out.1) hb) i hi (by omega)⟩
  have HC1 := Aside0.mk h1
  clear h1 hst
  by_cases h2 : shp s t = 0
  ·have h2b : (shp s t != 0) = false := by simpa using h2
   have HC2 := Aside0.mk h2
   clear h2
   have H390 : Aside0 (∀ w2, Below W.heap.size W w2 → ∀ (i : Nat) (W' : World), i < min c.length d.length → Below w2.heap.size w2 W' → Calls Try.prog 58 #[.int .i64 i, .pointer (some ⟨w.heap.size, 0, none⟩), .pointer (some ⟨w.heap.size + 1, 0, none⟩)] W' (fun e W'' => e = .returned (.int .i64 (cmpC (c.getD i z52) (d.getD i z52))) ∧ Below W'.heap.size W' W'')) :=
    ⟨fun w2 hb2 i W' hi hb => clo39 _ _ A0 A1 B0 B1 c0 c1 d0 d1 s.length t.length c d W' (blk_below (blk_below HBK.out.2.1 hb2) hb) (blk_below (blk_below HBK.out.2.2 hb2) hb) (Kd.C_below (Kd.C_below (Kd.C_below HS1.out HBK.out.1) hb2) hb) (Kd.C_below (Kd.C_below (Kd.C_below HT1.out HBK.out.1) hb2) hb) i (by omega) (by omega) (HOK.out _ (getD_mem (by omega)) _)⟩
   have HR3 := Aside0.mk (cmpCs_fnz c d).symm
   have HMM : Aside0 (min c.length d.length ≤ 9223372036854775807) := ⟨by have := HM1.out; omega⟩
   by_cases hcd : d.length < c.length
   ·rw [show min c.length d.length = d.length by omega] at H390 HR3 HMM
    have hcdi : (d.length : Int) < (c.length : Int) := by omega
    by_cases h3 : cmpCs c d = 0
    ·have h3b : (cmpCs c d != 0) = false := by simpa using h3
     have HE : Aside0 (cmpA ⟨s, c⟩ ⟨t, d⟩ = ordI c.length d.length) := ⟨by rw [cmpA, if_neg (by simpa using HC1.out), if_neg (by simpa using HC2.out), if_neg (by simpa using h3)]⟩
     clear h3
     go_wp2_with (first | (go_at_call 56; (with_reducible refine (ord37 _ _ _).mono ?_); rintro e w1 ⟨rfl, hw1⟩; subst w1) | (go_at_call 55; (with_reducible refine (steps38 _ _ s.length (shp s t) HM.out _ W HR.out H38.out).mono ?_); rintro e w2 ⟨rfl, hb2⟩; have HB2 := Aside0.mk hb2; have H39 := Aside0.mk (H390.out w2 hb2); clear hb2; have hX1' : w2.cell? ⟨w.heap.size, 1, none⟩ = some (.slice A1 c.length c1) := (blk_cell (blk_below HBK.out.2.1 HB2.out) 1).trans rfl; have hY1' : w2.cell? ⟨w.heap.size + 1, 1, none⟩ = some (.slice B1 d.length d1) := (blk_cell (blk_below HBK.out.2.2 HB2.out) 1).trans rfl) | (go_at_call 55; (with_reducible refine (steps39 _ _ d.length (cmpCs c d) HMM.out _ w2 HR3.out H39.out).mono ?_); rintro e w3 ⟨rfl, hb3⟩; have HB3 := Aside0.mk (HB2.out.trans (hb3.mono HB2.out.size)); clear hb3; have hX1'' : w3.cell? ⟨w.heap.size, 1, none⟩ = some (.slice A1 c.length c1) := (blk_cell (blk_below HBK.out.2.1 HB3.out) 1).trans rfl; have hY1'' : w3.cell? ⟨w.heap.size + 1, 1, none⟩ = some (.slice B1 d.length d1) := (blk_cell (blk_below HBK.out.2.2 HB3.out) 1).trans rfl))
     go_ret
     exact ⟨by rw [HE.out]; rfl, HBK.out.1.trans (HB3.out.mono HBK.out.1.size)⟩
    ·have h3b : (cmpCs c d != 0) = true := by simpa using h3
     have HE : Aside0 (cmpA ⟨s, c⟩ ⟨t, d⟩ = cmpCs c d) := ⟨by rw [cmpA, if_neg (by simpa using HC1.out), if_neg (by simpa using HC2.out), if_pos h3]⟩
     clear h3
     go_wp2_with (first | (go_at_call 56; (with_reducible refine (ord37 _ _ _).mono ?_); rintro e w1 ⟨rfl, hw1⟩; subst w1) | (go_at_call 55; (with_reducible refine (steps38 _ _ s.length (shp s t) HM.out _ W HR.out H38.out).mono ?_); rintro e w2 ⟨rfl, hb2⟩; have HB2 := Aside0.mk hb2; have H39 := Aside0.mk (H390.out w2 hb2); clear hb2; have hX1' : w2.cell? ⟨w.heap.size, 1, none⟩ = some (.slice A1 c.length c1) := (blk_cell (blk_below HBK.out.2.1 HB2.out) 1).trans rfl; have hY1' : w2.cell? ⟨w.heap.size + 1, 1, none⟩ = some (.slice B1 d.length d1) := (blk_cell (blk_below HBK.out.2.2 HB2.out) 1).trans rfl) | (go_at_call 55; (with_reducible refine (steps39 _ _ d.length (cmpCs c d) HMM.out _ w2 HR3.out H39.out).mono ?_); rintro e w3 ⟨rfl, hb3⟩; have HB3 := Aside0.mk (HB2.out.trans (hb3.mono HB2.out.size)); clear hb3; have hX1'' : w3.cell? ⟨w.heap.size, 1, none⟩ = some (.slice A1 c.length c1) := (blk_cell (blk_below HBK.out.2.1 HB3.out) 1).trans rfl; have hY1'' : w3.cell? ⟨w.heap.size + 1, 1, none⟩ = some (.slice B1 d.length d1) := (blk_cell (blk_below HBK.out.2.2 HB3.out) 1).trans rfl))
     go_ret
     exact ⟨by rw [HE.out]; rfl, HBK.out.1.trans (HB3.out.mono HBK.out.1.size)⟩
   ·rw [show min c.length d.length = c.length by omega] at H390 HR3 HMM
    have hcdi : ¬ ((d.length : Int) < (c.length : Int)) := by omega
    by_cases h3 : cmpCs c d = 0
    ·have h3b : (cmpCs c d != 0) = false := by simpa using h3
     have HE : Aside0 (cmpA ⟨s, c⟩ ⟨t, d⟩ = ordI c.length d.length) := ⟨by rw [cmpA, if_neg (by simpa using HC1.out), if_neg (by simpa using HC2.out), if_neg (by simpa using h3)]⟩
     clear h3
     go_wp2_with (first | (go_at_call 56; (with_reducible refine (ord37 _ _ _).mono ?_); rintro e w1 ⟨rfl, hw1⟩; subst w1) | (go_at_call 55; (with_reducible refine (steps38 _ _ s.length (shp s t) HM.out _ W HR.out H38.out).mono ?_); rintro e w2 ⟨rfl, hb2⟩; have HB2 := Aside0.mk hb2; have H39 := Aside0.mk (H390.out w2 hb2); clear hb2; have hX1' : w2.cell? ⟨w.heap.size, 1, none⟩ = some (.slice A1 c.length c1) := (blk_cell (blk_below HBK.out.2.1 HB2.out) 1).trans rfl; have hY1' : w2.cell? ⟨w.heap.size + 1, 1, none⟩ = some (.slice B1 d.length d1) := (blk_cell (blk_below HBK.out.2.2 HB2.out) 1).trans rfl) | (go_at_call 55; (with_reducible refine (steps39 _ _ c.length (cmpCs c d) HMM.out _ w2 HR3.out H39.out).mono ?_); rintro e w3 ⟨rfl, hb3⟩; have HB3 := Aside0.mk (HB2.out.trans (hb3.mono HB2.out.size)); clear hb3; have hX1'' : w3.cell? ⟨w.heap.size, 1, none⟩ = some (.slice A1 c.length c1) := (blk_cell (blk_below HBK.out.2.1 HB3.out) 1).trans rfl; have hY1'' : w3.cell? ⟨w.heap.size + 1, 1, none⟩ = some (.slice B1 d.length d1) := (blk_cell (blk_below HBK.out.2.2 HB3.out) 1).trans rfl))
     go_ret
     exact ⟨by rw [HE.out]; rfl, HBK.out.1.trans (HB3.out.mono HBK.out.1.size)⟩
    ·have h3b : (cmpCs c d != 0) = true := by simpa using h3
     have HE : Aside0 (cmpA ⟨s, c⟩ ⟨t, d⟩ = cmpCs c d) := ⟨by rw [cmpA, if_neg (by simpa using HC1.out), if_neg (by simpa using HC2.out), if_pos h3]⟩
     clear h3
     go_wp2_with (first | (go_at_call 56; (with_reducible refine (ord37 _ _ _).mono ?_); rintro e w1 ⟨rfl, hw1⟩; subst w1) | (go_at_call 55; (with_reducible refine (steps38 _ _ s.length (shp s t) HM.out _ W HR.out H38.out).mono ?_); rintro e w2 ⟨rfl, hb2⟩; have HB2 := Aside0.mk hb2; have H39 := Aside0.mk (H390.out w2 hb2); clear hb2; have hX1' : w2.cell? ⟨w.heap.size, 1, none⟩ = some (.slice A1 c.length c1) := (blk_cell (blk_below HBK.out.2.1 HB2.out) 1).trans rfl; have hY1' : w2.cell? ⟨w.heap.size + 1, 1, none⟩ = some (.slice B1 d.length d1) := (blk_cell (blk_below HBK.out.2.2 HB2.out) 1).trans rfl) | (go_at_call 55; (with_reducible refine (steps39 _ _ c.length (cmpCs c d) HMM.out _ w2 HR3.out H39.out).mono ?_); rintro e w3 ⟨rfl, hb3⟩; have HB3 := Aside0.mk (HB2.out.trans (hb3.mono HB2.out.size)); clear hb3; have hX1'' : w3.cell? ⟨w.heap.size, 1, none⟩ = some (.slice A1 c.length c1) := (blk_cell (blk_below HBK.out.2.1 HB3.out) 1).trans rfl; have hY1'' : w3.cell? ⟨w.heap.size + 1, 1, none⟩ = some (.slice B1 d.length d1) := (blk_cell (blk_below HBK.out.2.2 HB3.out) 1).trans rfl))
     go_ret
     exact ⟨by rw [HE.out]; rfl, HBK.out.1.trans (HB3.out.mono HBK.out.1.size)⟩
  ·have h2b : (shp s t != 0) = true := by simpa using h2
   have HE : Aside0 (cmpA ⟨s, c⟩ ⟨t, d⟩ = shp s t) := ⟨by rw [cmpA, if_neg (by simpa using HC1.out), if_pos h2]⟩
   clear h2
   go_wp2_with (first | (go_at_call 56; (with_reducible refine (ord37 _ _ _).mono ?_); rintro e w1 ⟨rfl, hw1⟩; subst w1) | (go_at_call 55; (with_reducible refine (steps38 _ _ s.length (shp s t) HM.out _ W HR.out H38.out).mono ?_); rintro e w2 ⟨rfl, hb2⟩; have HB2 := Aside0.mk hb2; clear hb2; have hX1' : w2.cell? ⟨w.heap.size, 1, none⟩ = some (.slice A1 c.length c1) := (blk_cell (blk_below HBK.out.2.1 HB2.out) 1).trans rfl; have hY1' : w2.cell? ⟨w.heap.size + 1, 1, none⟩ = some (.slice B1 d.length d1) := (blk_cell (blk_below HBK.out.2.2 HB2.out) 1).trans rfl))
   go_ret
   exact ⟨by rw [HE.out]; rfl, HBK.out.1.trans (HB2.out.mono HBK.out.1.size)⟩
 ·have h1b : (ordI s.length t.length != 0) = true := by simpa using h1
  have e : cmpA ⟨s, c⟩ ⟨t, d⟩ = ordI s.length t.length := by rw [cmpA, if_pos h1]
  have HE := Aside0.mk e
  clear h1 e
  go_wp2_with (first | (go_at_call 56; (with_reducible refine (ord37 _ _ _).mono ?_); rintro e w1 ⟨rfl, hw1⟩; subst w1))
  go_ret
  exact ⟨by rw [HE.out]; rfl, HBK.out.1⟩
theorem cmp_upto : ∀ (N : Nat) (a : S25), SizeOf.sizeOf a ≤ N → ∀ b, CmpOK a b := by
 intro N
 induction N with
 | zero =>
  intro a h
  obtain ⟨s, c⟩ := a
  simp at h
 | succ N ih =>
  intro a h b
  refine cmp_step a b (fun x hx y => cell_step x y (fun a' ha' b' => ih a' ?_ b'))
  obtain ⟨s, c⟩ := a
  obtain ⟨x0, x1, x2⟩ := x
  have h1 := List.sizeOf_lt_of_mem hx
  have h2 := List.sizeOf_lt_of_mem ha'
  simp at h h1 h2
  omega
theorem cmp_all (a b : S25) : CmpOK a b := cmp_upto _ a (Nat.le_refl _) b
def arr_Cmp.f (l0_0 : List Int) (l0_1 : List S52) (l1_0 : List Int) (l1_1 : List S52) : Option Int := some (cmpA ⟨l0_0, l0_1⟩ ⟨l1_0, l1_1⟩)
theorem arr_Cmp.calls (A0_0 : Option Addr) (c0_0 : Nat) (l0_0 : List Int) (A0_1 : Option Addr) (c0_1 : Nat) (l0_1 : List S52) (A1_0 : Option Addr) (c1_0 : Nat) (l1_0 : List Int) (A1_1 : Option Addr) (c1_1 : Nat) (l1_1 : List S52) (r : Int) (w : World) (hr0_0 : Kd.C (Kd.int .i64) w A0_0 l0_0.length l0_0) (hc0_0 : l0_0.length ≤ c0_0) (hr0_1 : Kd.C k52 w A0_1 l0_1.length l0_1) (hc0_1 : l0_1.length ≤ c0_1) (hr1_0 : Kd.C (Kd.int .i64) w A1_0 l1_0.length l1_0) (hc1_0 : l1_0.length ≤ c1_0) (hr1_1 : Kd.C k52 w A1_1 l1_1.length l1_1) (hc1_1 : l1_1.length ≤ c1_1) (h : arr_Cmp.f l0_0 l0_1 l1_0 l1_1 = some r) :
  Calls Try.prog 41 #[.agg #[.slice A0_0 l0_0.length c0_0, .slice A0_1 l0_1.length c0_1], .agg #[.slice A1_0 l1_0.length c1_0, .slice A1_1 l1_1.length c1_1]] w fun e w' => e = .returned (.int .i64 r) ∧ Below w.heap.size w w' := by
 obtain rfl := Option.some.inj h
 exact cmp_all ⟨l0_0, l0_1⟩ ⟨l1_0, l1_1⟩ A0_0 A0_1 A1_0 A1_1 c0_0 c0_1 c1_0 c1_1 w hr0_0 hc0_0 hr0_1 hc0_1 hr1_0 hc1_0 hr1_1 hc1_1
def arr_Same.f (l0_0 : List Int) (l0_1 : List (S52)) (l1_0 : List Int) (l1_1 : List (S52)) : Option (Bool) := (arr_Cmp.f l0_0 l0_1 l1_0 l1_1).bind fun t103 => (some (t103 == 0))
set_option maxHeartbeats 8000000 in
set_option maxRecDepth 100000 in
theorem arr_Same.calls (A0_0 : Option Addr) (c0_0 : Nat) (l0_0 : List Int) (A0_1 : Option Addr) (c0_1 : Nat) (l0_1 : List (S52)) (A1_0 : Option Addr) (c1_0 : Nat) (l1_0 : List Int) (A1_1 : Option Addr) (c1_1 : Nat) (l1_1 : List (S52)) (r : Bool) (w : World) (hr0_0 : Kd.C (Kd.int .i64) w A0_0 l0_0.length l0_0) (hc0_0 : l0_0.length ≤ c0_0) (hr0_1 : Kd.C k52 w A0_1 l0_1.length l0_1) (hc0_1 : l0_1.length ≤ c0_1) (hr1_0 : Kd.C (Kd.int .i64) w A1_0 l1_0.length l1_0) (hc1_0 : l1_0.length ≤ c1_0) (hr1_1 : Kd.C k52 w A1_1 l1_1.length l1_1) (hc1_1 : l1_1.length ≤ c1_1) (h : arr_Same.f l0_0 l0_1 l1_0 l1_1 = some r) :
  Calls Try.prog 34 #[.agg #[.slice A0_0 l0_0.length c0_0, .slice A0_1 l0_1.length c0_1], .agg #[.slice A1_0 l1_0.length c1_0, .slice A1_1 l1_1.length c1_1]] w fun e w' => e = .returned (.bool r) ∧ Below w.heap.size w w' := by
 have hu25 := Try.underlying25
 have HR0_0 := gA hr0_0
 have HC0_0 := gA hc0_0
 clear hr0_0 hc0_0
 have HR0_1 := gA hr0_1
 have HC0_1 := gA hc0_1
 clear hr0_1 hc0_1
 have HR1_0 := gA hr1_0
 have HC1_0 := gA hc1_0
 clear hr1_0 hc1_0
 have HR1_1 := gA hr1_1
 have HC1_1 := gA hc1_1
 clear hr1_1 hc1_1
 have HB := gA (Below.refl w.heap.size w)
 have H : ((arr_Cmp.f l0_0 l0_1 l1_0 l1_1).bind fun t103 => (some (t103 == 0))) = some r := h
 clear h
 replace H := Option.bind_eq_some_iff.mp H
 obtain ⟨t103, A30, H⟩ := H
 replace H : (some (t103 == 0)) = some r := H
 have A3 := gA A30
 clear A30
 obtain rfl := Option.some.inj H
 go_enter Try.func34, Try.ntmps34
 go_wp2_with (first | ((with_reducible refine gate_dst (N := 2) rfl ?_); refine box_event ?hg (N := 2) ?hd (cs := #[.slice A0_0 l0_0.length c0_0, .slice A0_1 l0_1.length c0_1]) (t := 25) ?hr ?_; (case hd => rfl); (case hg => rfl); (case hr => first | (go_simp; done) | (go_simp; rfl)); intro gb101 hg w4 hbox hb; have BK101 := gA (hbox); have GW101 := gA ((by rw [hg]; exact (below_size (gB HB)) : w.heap.size ≤ gb101)); have GE101 := gA ((by rw [hg]; exact (below_size (gB HB)) : w.heap.size ≤ gb101)); replace HB := gA (below_step (gB HB) hb); clear hb hbox hg) | ((with_reducible refine gate_dst (N := 3) rfl ?_); refine box_event ?hg (N := 3) ?hd (cs := #[.slice A1_0 l1_0.length c1_0, .slice A1_1 l1_1.length c1_1]) (t := 25) ?hr ?_; (case hd => rfl); (case hg => rfl); (case hr => first | (go_simp; done) | (go_simp; rfl)); intro gb102 hg w5 hbox hb; have BK102 := gA (hbox); have GW102 := gA ((by rw [hg]; exact (below_size (gB HB)) : w.heap.size ≤ gb102)); have GE102 := gA ((by rw [hg]; exact (below_size (gB HB)) : w.heap.size ≤ gb102)); replace HB := gA (below_step (gB HB) hb); have NB101_102 := gA ((by rw [hg]; exact Nat.ne_of_lt (blk_lt (gK BK101)) : gb101 ≠ gb102)); have NB102_101 := gA ((by rw [hg]; exact Nat.ne_of_gt (blk_lt (gK BK101)) : gb102 ≠ gb101)); replace BK101 := gA (blk_below (gK BK101) hb); clear hb hbox hg; have hnb6 := NB101_102.out; have hnc6 := NB102_101.out; obtain ⟨hcz7_0, hcz7_1, hfz7_0, hfz7_1⟩ := gz2 BK101; obtain ⟨hcz8_0, hcz8_1, hfz8_0, hfz8_1⟩ := gz2 BK102) | ((with_reducible refine gate_callee (f := 41) rfl ?_); refine goesL_ (some 7) rfl rfl Try.func41 (by kernel_rfl) rfl #[.agg #[.slice A0_0 l0_0.length c0_0, .slice A0_1 l0_1.length c0_1], .agg #[.slice A1_0 l1_0.length c1_0, .slice A1_1 l1_1.length c1_1]] rfl (by (try simp only [List.map_toArray, List.map_cons, List.map_nil]); first | done | rfl | (simp only [List.length_drop, List.length_take]; rfl)) ?_; (with_reducible refine (arr_Cmp.calls _ _ l0_0 _ _ l0_1 _ _ l1_0 _ _ l1_1 t103 _ ?side1 ?side2 ?side3 ?side4 ?side5 ?side6 ?side7 ?side8 A3.out).mono ?_); (case side1 => exact gC HR0_0 HB); (case side2 => exact HC0_0.out); (case side3 => exact gC HR0_1 HB); (case side4 => exact HC0_1.out); (case side5 => exact gC HR1_0 HB); (case side6 => exact HC1_0.out); (case side7 => exact gC HR1_1 HB); (case side8 => exact HC1_1.out); rintro e w9 ⟨rfl, hb⟩; refine ⟨_, rfl, ?_⟩; replace BK101 := gA (blk_below (gK BK101) hb); replace BK102 := gA (blk_below (gK BK102) hb); replace HB := gA (below_step (gB HB) hb); (try clear hb)))
 go_ret
 exact ⟨rfl, by repeat first | exact gB HB | refine below_set ?_ GE101.out | refine below_set ?_ GE102.out⟩
end Go.Proofs.Ytfblidojoepcpaa.P
