/- Written by a program of this session: the functions that the laws reach, what each comes to, and each law as it is stated, for every input. No condition. -/
import Derived.Test.YtahgfebdjjfkhaaPx0
import Derived.Test.YtahgfebdjjfkhaaPx12
namespace Go.Proofs.Ytahgfebdjjfkhaa.P
open Go.RowKit Go.Proofs.YtahgfebdjjfkhaaW.PrintWords Go.Proofs.YtahgfebdjjfkhaaW.PrintLast Go.Proofs.YtahgfebdjjfkhaaW.PrintMore
attribute [local go_sem] max2_int min2_int max_two min_two max_three min_three max_four min_four   -- for this text's walks alone
set_option linter.unusedVariables false
set_option linter.unusedSimpArgs false
def triglyphref03_Place.l0 : Nat → List Int → List Int → Int → Int → Option (Int × Int)
 | 0, _, _, _, _ => none
 | k + 1, x0, x1, x8, x9 => if x9 < (x1.length : Int) then (if 0 ≤ x9 then (if (rd x1 x9) < 0 then (some (0, 8)) else (if x9 < (x0.length : Int) then (if (rd x1 x9) ≥ (rd x0 x9) then (some (0, 8)) else (triglyphref03_Place.l0 k x0 x1 (wrap64 ((wrap64 (x8 * (rd x0 x9))) + (rd x1 x9))) (wrap64 (x9 + 1)))) else (none))) else (none)) else (some (x8, 0))
def triglyphref03_Place.f (k : Nat) (l0 : List Int) (l1 : List Int) : Option (Int × Int) := (triglyphref03_Size.f k l0).bind fun bt331 => (if bt331.2 = 0 then (if (l1.length : Int) = (l0.length : Int) then (triglyphref03_Place.l0 k l0 l1 0 0) else (some (0, 6))) else (some (0, bt331.2)))
theorem triglyphref03_Place.mono_l : ∀ k, (∀ y0 y1 y2 y3, LeO (triglyphref03_Place.l0 k y0 y1 y2 y3) (triglyphref03_Place.l0 (k + 1) y0 y1 y2 y3))
 | 0 => fun _ _ _ _ r h => by simp [triglyphref03_Place.l0] at h
 | k + 1 => by
  have ih0 := triglyphref03_Place.mono_l k
  ·intro y0 y1 y2 y3
   unfold triglyphref03_Place.l0
   repeat' first
   | (with_reducible exact ih0 _ _ _ _)
   | (with_reducible exact triglyphref03_Size.mono _ _)
   | (with_reducible exact LeO.refl _)
   | (with_reducible exact LeO.none _)
   | (with_reducible refine LeO.ite ?_ ?_)
   | (with_reducible refine LeO.bind ?_ (fun _ => ?_))

   | exact triglyphref03_Size.mono _ _
theorem triglyphref03_Place.mono : ∀ a0 a1 k, LeO (triglyphref03_Place.f k a0 a1) (triglyphref03_Place.f (k + 1) a0 a1) := by
 intro a0 a1 k
 have ih0 := triglyphref03_Place.mono_l k
 unfold triglyphref03_Place.f
 repeat' first
   | (with_reducible exact ih0 _ _ _ _)
   | (with_reducible exact triglyphref03_Size.mono _ _)
   | (with_reducible exact LeO.refl _)
   | (with_reducible exact LeO.none _)
   | (with_reducible refine LeO.ite ?_ ?_)
   | (with_reducible refine LeO.bind ?_ (fun _ => ?_))

   | exact triglyphref03_Size.mono _ _
set_option maxHeartbeats 8000000 in
set_option maxRecDepth 100000 in
theorem triglyphref03_Place.calls (k : Nat) (A0 : Option Addr) (c0 : Nat) (l0 : List Int) (A1 : Option Addr) (c1 : Nat) (l1 : List Int) (r1 : Int) (r2 : Int) (w : World) (hr0 : Kd.C (Kd.int .i64) w A0 l0.length l0) (hc0 : l0.length ≤ c0) (hr1 : Kd.C (Kd.int .i64) w A1 l1.length l1) (hc1 : l1.length ≤ c1) (h : triglyphref03_Place.f k l0 l1 = some (r1, r2)) :
  Calls Try.prog 41 #[.slice A0 l0.length c0, .slice A1 l1.length c1] w fun e w' => e = .returned (.tuple #[.int .i64 r1, .int .i64 r2]) ∧ Drawn0 w w' := by
 have HR0 := gA hr0
 have HC0 := gA hc0
 clear hr0 hc0
 have HR1 := gA hr1
 have HC1 := gA hc1
 clear hr1 hc1
 have H : ((triglyphref03_Size.f k l0).bind fun bt331 => (if bt331.2 = 0 then (if (l1.length : Int) = (l0.length : Int) then (triglyphref03_Place.l0 k l0 l1 0 0) else (some (0, 6))) else (some (0, bt331.2)))) = some (r1, r2) := h
 clear h
 replace H := Option.bind_eq_some_iff.mp H
 obtain ⟨⟨t331, t332⟩, A30, H⟩ := H
 replace H : (if t332 = 0 then (if (l1.length : Int) = (l0.length : Int) then (triglyphref03_Place.l0 k l0 l1 0 0) else (some (0, 6))) else (some (0, t332))) = some (r1, r2) := H
 have A3 := gA A30
 clear A30
 by_cases c4 : t332 = 0
 ·rw [if_pos c4] at H
  have c4b0 : (t332 == 0) = true := beq_iff_eq.mpr c4
  have c4b1 : (t332 != 0) = false := bne_eq_false_iff_eq.mpr c4
  clear c4
  by_cases c5 : (l1.length : Int) = (l0.length : Int)
  ·rw [if_pos c5] at H
   have c5b0 : ((l1.length : Int) == (l0.length : Int)) = true := beq_iff_eq.mpr c5
   have c5b1 : ((l1.length : Int) != (l0.length : Int)) = false := bne_eq_false_iff_eq.mpr c5
   have c5b2 : (l1.length == l0.length) = true := by first | simpa using c5 | (simp at c5 ⊢; omega)
   clear c5
   have H' := gA H
   clear H
   go_enter Try.func41, Try.ntmps41
   iterate 6 ((try go_quiet (fail)); go_wp2_with (first | (go_at_call 36; (with_reducible refine (triglyphref03_Size.calls k _ _ l0 t331 t332 _ ?side1 ?side2 A3.out).mono ?_); (case side1 => repeat (first | exact HR0.out | (with_reducible refine Kd.C_alloc ?_ _) | (with_reducible refine Kd.C_drewN ?_ _) | (with_reducible refine Kd.C_drew ?_))); (case side2 => exact HC0.out); rintro e w' ⟨rfl, ⟨nd, rfl⟩⟩; (try first | exact ⟨rfl, _, World.drewN_drewN _ _ _⟩ | exact ⟨rfl, _, Eq.trans (World.drewN_drewN _ _ _) (congrArg (World.drewN _) (Nat.add_assoc _ _ _))⟩))))
   skip
   go_loopg [8, 9] k (fun kq v8 v9 w' => ∃ (x8_1 : Int) (x9_1 : Int), v8 = .int .i64 x8_1 ∧ v9 = .int .i64 x9_1 ∧ Aside0 (triglyphref03_Place.l0 kq l0 l1 x8_1 x9_1 = some (r1, r2)) ∧ Aside0 (kq ≤ k) ∧ Drawn0 w w')
   case atStart => exact ⟨(0), (0), (rfl), (rfl), H', ⟨Nat.le_refl _⟩, by repeat (first | exact Drawn0.refl _ | apply Drawn0.step)⟩
   case round =>
    clear H'
    try clear c1
    try clear p2
    try clear c4
    try clear c4b0
    try clear c4b1
    try clear c5
    try clear c5b0
    try clear c5b1
    try clear c5b2
    obtain ⟨x8_1, x9_1, rfl, rfl, HA, HK1, ⟨m1, rfl⟩⟩ := hrel
    cases gk with
    | zero => exact absurd HA.out (by simp [triglyphref03_Place.l0])
    | succ k1 =>
     have H := HA.out; clear HA
     simp only [triglyphref03_Place.l0] at H
     by_cases c6 : x9_1 < (l1.length : Int)
     ·rw [if_pos c6] at H
      have c6b0 := decide_eq_true c6
      clear c6
      obtain ⟨c7, H⟩ := iS H
      have c7b0 := decide_eq_true c7
      clear c7
      by_cases c8 : (rd l1 x9_1) < 0
      ·rw [if_pos c8] at H
       have c8b0 := decide_eq_true c8
       clear c8
       simp only [Option.some.injEq, Prod.mk.injEq] at H
       obtain ⟨rfl, rfl⟩ := H
       have p333 : 0 ≤ (x9_1 : Int) := of_decide_eq_true (by assumption)
       have q333 : x9_1 < (l1.length : Int) := of_decide_eq_true (by assumption)
       obtain ⟨ad333, e333, hx333_0⟩ := Kd.at_int HR1.out x9_1 p333 q333
       cases e333
       replace p333 := eq_true p333
       replace q333 := eq_true q333
       go_wp2
       repeat (go_quiet (fail); try go_wp2)
       go_ret2
       exact ⟨rfl, by repeat (first | exact Drawn0.refl _ | apply Drawn0.step)⟩
      ·rw [if_neg c8] at H
       have c8b0 := decide_eq_false c8
       clear c8
       obtain ⟨c9, H⟩ := iS H
       have c9b0 := decide_eq_true c9
       clear c9
       by_cases c10 : (rd l1 x9_1) ≥ (rd l0 x9_1)
       ·rw [if_pos c10] at H
        have c10b0 : decide ((rd l0 x9_1) ≤ (rd l1 x9_1)) = true := decide_eq_true c10
        clear c10
        simp only [Option.some.injEq, Prod.mk.injEq] at H
        obtain ⟨rfl, rfl⟩ := H
        have p333 : 0 ≤ (x9_1 : Int) := of_decide_eq_true (by assumption)
        have q333 : x9_1 < (l1.length : Int) := of_decide_eq_true (by assumption)
        obtain ⟨ad333, e333, hx333_0⟩ := Kd.at_int HR1.out x9_1 p333 q333
        cases e333
        replace p333 := eq_true p333
        replace q333 := eq_true q333
        have p334 : 0 ≤ (x9_1 : Int) := of_decide_eq_true (by assumption)
        have q334 : x9_1 < (l1.length : Int) := of_decide_eq_true (by assumption)
        obtain ⟨ad334, e334, hx334_0⟩ := Kd.at_int HR1.out x9_1 p334 q334
        obtain rfl : ad333 = ad334 := (by injection e334)
        replace p334 := eq_true p334
        replace q334 := eq_true q334
        have p335 : 0 ≤ (x9_1 : Int) := of_decide_eq_true (by assumption)
        have q335 : x9_1 < (l0.length : Int) := of_decide_eq_true (by assumption)
        obtain ⟨ad335, e335, hx335_0⟩ := Kd.at_int HR0.out x9_1 p335 q335
        cases e335
        replace p335 := eq_true p335
        replace q335 := eq_true q335
        go_wp2
        repeat (go_quiet (fail); try go_wp2)
        go_ret2
        exact ⟨rfl, by repeat (first | exact Drawn0.refl _ | apply Drawn0.step)⟩
       ·rw [if_neg c10] at H
        have c10b0 : decide ((rd l0 x9_1) ≤ (rd l1 x9_1)) = false := decide_eq_false c10
        clear c10
        have H' := gA H
        clear H
        have p333 : 0 ≤ (x9_1 : Int) := of_decide_eq_true (by assumption)
        have q333 : x9_1 < (l1.length : Int) := of_decide_eq_true (by assumption)
        obtain ⟨ad333, e333, hx333_0⟩ := Kd.at_int HR1.out x9_1 p333 q333
        cases e333
        replace p333 := eq_true p333
        replace q333 := eq_true q333
        have p334 : 0 ≤ (x9_1 : Int) := of_decide_eq_true (by assumption)
        have q334 : x9_1 < (l1.length : Int) := of_decide_eq_true (by assumption)
        obtain ⟨ad334, e334, hx334_0⟩ := Kd.at_int HR1.out x9_1 p334 q334
        obtain rfl : ad333 = ad334 := (by injection e334)
        replace p334 := eq_true p334
        replace q334 := eq_true q334
        have p335 : 0 ≤ (x9_1 : Int) := of_decide_eq_true (by assumption)
        have q335 : x9_1 < (l0.length : Int) := of_decide_eq_true (by assumption)
        obtain ⟨ad335, e335, hx335_0⟩ := Kd.at_int HR0.out x9_1 p335 q335
        cases e335
        replace p335 := eq_true p335
        replace q335 := eq_true q335
        have p336 : 0 ≤ (x9_1 : Int) := of_decide_eq_true (by assumption)
        have q336 : x9_1 < (l0.length : Int) := of_decide_eq_true (by assumption)
        obtain ⟨ad336, e336, hx336_0⟩ := Kd.at_int HR0.out x9_1 p336 q336
        obtain rfl : ad335 = ad336 := (by injection e336)
        replace p336 := eq_true p336
        replace q336 := eq_true q336
        have p337 : 0 ≤ (x9_1 : Int) := of_decide_eq_true (by assumption)
        have q337 : x9_1 < (l1.length : Int) := of_decide_eq_true (by assumption)
        obtain ⟨ad337, e337, hx337_0⟩ := Kd.at_int HR1.out x9_1 p337 q337
        obtain rfl : ad333 = ad337 := (by injection e337)
        replace p337 := eq_true p337
        replace q337 := eq_true q337
        go_wp2
        repeat (go_quiet (fail); try go_wp2)
        go_roundg k1
        case measure => have := HK1.out; omega
        case rel => exact ⟨(wrap64 ((wrap64 (x8_1 * (rd l0 x9_1))) + (rd l1 x9_1))), (wrap64 (x9_1 + 1)), (rfl), (rfl), H', ⟨by have := HK1.out; omega⟩, by repeat (first | exact Drawn0.refl _ | apply Drawn0.step)⟩
     ·rw [if_neg c6] at H
      have c6b0 := decide_eq_false c6
      clear c6
      simp only [Option.some.injEq, Prod.mk.injEq] at H
      obtain ⟨rfl, rfl⟩ := H
      go_wp2
      repeat (go_quiet (fail); try go_wp2)
      go_ret2
      exact ⟨rfl, by repeat (first | exact Drawn0.refl _ | apply Drawn0.step)⟩
  ·rw [if_neg c5] at H
   have c5b0 : ((l1.length : Int) == (l0.length : Int)) = false := beq_eq_false_iff_ne.mpr c5
   have c5b1 : ((l1.length : Int) != (l0.length : Int)) = true := bne_iff_ne.mpr c5
   have c5b2 : (l1.length == l0.length) = false := by first | simpa using c5 | (simp at c5 ⊢; omega)
   simp only [Option.some.injEq, Prod.mk.injEq] at H
   obtain ⟨rfl, rfl⟩ := H
   go_enter Try.func41, Try.ntmps41
   iterate 6 ((try go_quiet (fail)); go_wp2_with (first | (go_at_call 36; (with_reducible refine (triglyphref03_Size.calls k _ _ l0 t331 t332 _ ?side1 ?side2 A3.out).mono ?_); (case side1 => repeat (first | exact HR0.out | (with_reducible refine Kd.C_alloc ?_ _) | (with_reducible refine Kd.C_drewN ?_ _) | (with_reducible refine Kd.C_drew ?_))); (case side2 => exact HC0.out); rintro e w' ⟨rfl, ⟨nd, rfl⟩⟩; (try first | exact ⟨rfl, _, World.drewN_drewN _ _ _⟩ | exact ⟨rfl, _, Eq.trans (World.drewN_drewN _ _ _) (congrArg (World.drewN _) (Nat.add_assoc _ _ _))⟩))))
   skip
   go_ret2
   exact ⟨rfl, by repeat (first | exact Drawn0.refl _ | apply Drawn0.step)⟩
 ·rw [if_neg c4] at H
  have c4b0 : (t332 == 0) = false := beq_eq_false_iff_ne.mpr c4
  have c4b1 : (t332 != 0) = true := bne_iff_ne.mpr c4
  simp only [Option.some.injEq, Prod.mk.injEq] at H
  obtain ⟨rfl, rfl⟩ := H
  go_enter Try.func41, Try.ntmps41
  iterate 6 ((try go_quiet (fail)); go_wp2_with (first | (go_at_call 36; (with_reducible refine (triglyphref03_Size.calls k _ _ l0 t331 t332 _ ?side1 ?side2 A3.out).mono ?_); (case side1 => repeat (first | exact HR0.out | (with_reducible refine Kd.C_alloc ?_ _) | (with_reducible refine Kd.C_drewN ?_ _) | (with_reducible refine Kd.C_drew ?_))); (case side2 => exact HC0.out); rintro e w' ⟨rfl, ⟨nd, rfl⟩⟩; (try first | exact ⟨rfl, _, World.drewN_drewN _ _ _⟩ | exact ⟨rfl, _, Eq.trans (World.drewN_drewN _ _ _) (congrArg (World.drewN _) (Nat.add_assoc _ _ _))⟩))))
  skip
  go_ret2
  exact ⟨rfl, by repeat (first | exact Drawn0.refl _ | apply Drawn0.step)⟩
end Go.Proofs.Ytahgfebdjjfkhaa.P
