/- Written by a program of this session: the functions that the laws reach, what each comes to, and each law as it is stated, for every input. No condition. -/
import Derived.Test.YtahgfebdjjfkhaaPx0
import Derived.Test.YtahgfebdjjfkhaaPx4
namespace Go.Proofs.Ytahgfebdjjfkhaa.P
open Go.RowKit Go.Proofs.YtahgfebdjjfkhaaW.PrintWords Go.Proofs.YtahgfebdjjfkhaaW.PrintLast Go.Proofs.YtahgfebdjjfkhaaW.PrintMore
attribute [local go_sem] max2_int min2_int max_two min_two max_three min_three max_four min_four   -- for this text's walks alone
set_option linter.unusedVariables false
set_option linter.unusedSimpArgs false
def num_signed.j0 : Nat → Int → Bool → Bool → Option (Int × Int)
 | 0, _, _, _ => none
 | k + 1, x0, x1, x6 => if x6 = true then (some (wrap64 ((wrap64 (-(wrap64 (IntKind.u64.wrap (x0 - 1))))) - 1), 0)) else (if x1 = true then (some (0, 9)) else (if x0 ≤ 9223372036854775807 then (some (wrap64 (x0), 0)) else (some (0, 9))))
def num_signed.f (k : Nat) (a0 : Int) (a1 : Bool) : Option (Int × Int) := if a1 = true then (num_signed.j0 k a0 a1 (decide (a0 ≤ 9223372036854775808))) else (num_signed.j0 k a0 a1 false)
theorem num_signed.mono_l : ∀ k, (∀ y0 y1 y2, LeO (num_signed.j0 k y0 y1 y2) (num_signed.j0 (k + 1) y0 y1 y2))
 | 0 => fun _ _ _ r h => by simp [num_signed.j0] at h
 | k + 1 => by
  have ih0 := num_signed.mono_l k
  ·intro y0 y1 y2
   unfold num_signed.j0
   repeat' first
   | (with_reducible exact ih0 _ _ _)
   | (with_reducible exact LeO.refl _)
   | (with_reducible exact LeO.none _)
   | (with_reducible refine LeO.ite ?_ ?_)
   | (with_reducible refine LeO.bind ?_ (fun _ => ?_))
theorem num_signed.mono : ∀ a0 a1 k, LeO (num_signed.f k a0 a1) (num_signed.f (k + 1) a0 a1) := by
 intro a0 a1 k
 have ih0 := num_signed.mono_l k
 unfold num_signed.f
 repeat' first
   | (with_reducible exact ih0 _ _ _)
   | (with_reducible exact LeO.refl _)
   | (with_reducible exact LeO.none _)
   | (with_reducible refine LeO.ite ?_ ?_)
   | (with_reducible refine LeO.bind ?_ (fun _ => ?_))
set_option maxHeartbeats 8000000 in
set_option maxRecDepth 100000 in
theorem num_signed.calls (k : Nat) (a0 : Int) (a1 : Bool) (r1 : Int) (r2 : Int) (w : World) (h : num_signed.f k a0 a1 = some (r1, r2)) :
  Calls Try.prog 68 #[.int .u64 a0, .bool a1] w fun e w' => e = .returned (.tuple #[.int .i64 r1, .int .i64 r2]) ∧ Drawn0 w w' := by
 have H : (if a1 = true then (num_signed.j0 k a0 a1 (decide (a0 ≤ 9223372036854775808))) else (num_signed.j0 k a0 a1 false)) = some (r1, r2) := h
 clear h
 have HC3 := gA H
 clear H
 go_enter Try.func68, Try.ntmps68
 go_upto_region 1 with (fail)
 go_cut [6] (fun v6 wc => ∃ (kq : Nat) (x6_2 : Bool), v6 = .bool x6_2 ∧ Aside0 (num_signed.j0 kq a0 a1 x6_2 = some (r1, r2)) ∧ Aside0 (kq ≤ k) ∧ Drawn0 w wc)
 case first =>
  have H := HC3.out; clear HC3
  by_cases c4 : a1 = true
  ·subst c4
   have H1 : (num_signed.j0 k a0 true (decide (a0 ≤ 9223372036854775808))) = some (r1, r2) := by rw [if_pos rfl] at H; exact H
   clear H; have H := H1; clear H1
   have H' := gA H
   clear H
   go_wp2
   all_goals (go_meet; (case rel => exact ⟨_, (decide (a0 ≤ 9223372036854775808)), (by first | rfl | (simp; done) | (simp [*]; done) | (exfalso; simp_all; done) | (exfalso; simp_all; omega)), H', ⟨by first | omega | exact Nat.le_refl _⟩, by repeat (first | exact Drawn0.refl _ | apply Drawn0.step)⟩))
  ·replace c4 := Bool.eq_false_iff.mpr c4
   subst c4
   have H1 : (num_signed.j0 k a0 false false) = some (r1, r2) := by rw [if_neg (show ¬ (false = true) by decide)] at H; exact H
   clear H; have H := H1; clear H1
   have H' := gA H
   clear H
   go_wp2
   all_goals (go_meet; (case rel => exact ⟨_, (false), (by first | rfl | (simp; done) | (simp [*]; done) | (exfalso; simp_all; done) | (exfalso; simp_all; omega)), H', ⟨by first | omega | exact Nat.le_refl _⟩, by repeat (first | exact Drawn0.refl _ | apply Drawn0.step)⟩))
 case rest =>
  clear HC3
  try clear p2
  try clear c4
  obtain ⟨kq, x6_2, rfl, HA, HJ2, ⟨mc2, rfl⟩⟩ := hcut
  cases kq with
  | zero => exact absurd HA.out (by simp [num_signed.j0])
  | succ kj2 =>
   have H := HA.out; clear HA
   simp only [num_signed.j0] at H
   by_cases c5 : x6_2 = true
   ·subst c5
    have H1 : (some (wrap64 ((wrap64 (-(wrap64 (IntKind.u64.wrap (a0 - 1))))) - 1), 0)) = some (r1, r2) := by rw [if_pos rfl] at H; exact H
    clear H; have H := H1; clear H1
    simp only [Option.some.injEq, Prod.mk.injEq] at H
    obtain ⟨rfl, rfl⟩ := H
    go_wp2
    go_ret2
    exact ⟨rfl, by repeat (first | exact Drawn0.refl _ | apply Drawn0.step)⟩
   ·replace c5 := Bool.eq_false_iff.mpr c5
    subst c5
    have H1 : (if a1 = true then (some (0, 9)) else (if a0 ≤ 9223372036854775807 then (some (wrap64 (a0), 0)) else (some (0, 9)))) = some (r1, r2) := by rw [if_neg (show ¬ (false = true) by decide)] at H; exact H
    clear H; have H := H1; clear H1
    by_cases c6 : a1 = true
    ·subst c6
     have H1 : (some (0, 9)) = some (r1, r2) := by rw [if_pos rfl] at H; exact H
     clear H; have H := H1; clear H1
     simp only [Option.some.injEq, Prod.mk.injEq] at H
     obtain ⟨rfl, rfl⟩ := H
     go_wp2
     go_ret2
     exact ⟨rfl, by repeat (first | exact Drawn0.refl _ | apply Drawn0.step)⟩
    ·replace c6 := Bool.eq_false_iff.mpr c6
     subst c6
     have H1 : (if a0 ≤ 9223372036854775807 then (some (wrap64 (a0), 0)) else (some (0, 9))) = some (r1, r2) := by rw [if_neg (show ¬ (false = true) by decide)] at H; exact H
     clear H; have H := H1; clear H1
     by_cases c7 : a0 ≤ 9223372036854775807
     ·rw [if_pos c7] at H
      have c7b0 := decide_eq_true c7
      clear c7
      simp only [Option.some.injEq, Prod.mk.injEq] at H
      obtain ⟨rfl, rfl⟩ := H
      go_wp2
      go_ret2
      exact ⟨rfl, by repeat (first | exact Drawn0.refl _ | apply Drawn0.step)⟩
     ·rw [if_neg c7] at H
      have c7b0 := decide_eq_false c7
      clear c7
      simp only [Option.some.injEq, Prod.mk.injEq] at H
      obtain ⟨rfl, rfl⟩ := H
      go_wp2
      go_ret2
      exact ⟨rfl, by repeat (first | exact Drawn0.refl _ | apply Drawn0.step)⟩
def num_Prod.l0 : Nat → List Int → Int → Bool → Bool → Int → Int → Option (Int × Int)
 | 0, _, _, _, _, _, _ => none
 | k + 1, x0, x4, x5, x6, x11, x12 => if x12 < x11 then (if 0 ≤ x12 then (if x12 < (x0.length : Int) then ((num_size.f (rd x0 x12)).bind fun bt192 => (if bt192.1 = 0 then (some (0, 0)) else (if x6 = true then (num_Prod.l0 k x0 x4 (x5 != bt192.2) true x11 (wrap64 (x12 + 1))) else (if x4 > (IntKind.u64.wrap (Int.tdiv (9223372036854775808 : Int) bt192.1)) then (num_Prod.l0 k x0 x4 (x5 != bt192.2) true x11 (wrap64 (x12 + 1))) else (num_Prod.l0 k x0 (IntKind.u64.wrap (x4 * bt192.1)) (x5 != bt192.2) x6 x11 (wrap64 (x12 + 1))))))) else (none)) else (none)) else (if x6 = true then (some (0, 9)) else ((num_signed.f k x4 x5).bind fun bt189 => (some (bt189.1, bt189.2))))
def num_Prod.f (k : Nat) (l0 : List Int) : Option (Int × Int) := num_Prod.l0 k l0 1 false false (l0.length : Int) 0
theorem num_Prod.mono_l : ∀ k, (∀ y0 y1 y2 y3 y4 y5, LeO (num_Prod.l0 k y0 y1 y2 y3 y4 y5) (num_Prod.l0 (k + 1) y0 y1 y2 y3 y4 y5))
 | 0 => fun _ _ _ _ _ _ r h => by simp [num_Prod.l0] at h
 | k + 1 => by
  have ih0 := num_Prod.mono_l k
  ·intro y0 y1 y2 y3 y4 y5
   unfold num_Prod.l0
   repeat' first
   | (with_reducible exact ih0 _ _ _ _ _ _)
   | (with_reducible exact num_signed.mono _ _ _)
   | (with_reducible exact LeO.refl _)
   | (with_reducible exact LeO.none _)
   | (with_reducible refine LeO.ite ?_ ?_)
   | (with_reducible refine LeO.bind ?_ (fun _ => ?_))

   | exact num_signed.mono _ _ _
theorem num_Prod.mono : ∀ a0 k, LeO (num_Prod.f k a0) (num_Prod.f (k + 1) a0) := by
 intro a0 k
 have ih0 := num_Prod.mono_l k
 unfold num_Prod.f
 repeat' first
   | (with_reducible exact ih0 _ _ _ _ _ _)
   | (with_reducible exact num_signed.mono _ _ _)
   | (with_reducible exact LeO.refl _)
   | (with_reducible exact LeO.none _)
   | (with_reducible refine LeO.ite ?_ ?_)
   | (with_reducible refine LeO.bind ?_ (fun _ => ?_))

   | exact num_signed.mono _ _ _
set_option maxHeartbeats 8000000 in
set_option maxRecDepth 100000 in
theorem num_Prod.calls (k : Nat) (A0 : Option Addr) (c0 : Nat) (l0 : List Int) (r1 : Int) (r2 : Int) (w : World) (hr0 : Kd.C (Kd.int .i64) w A0 l0.length l0) (hc0 : l0.length ≤ c0) (h : num_Prod.f k l0 = some (r1, r2)) :
  Calls Try.prog 57 #[.slice A0 l0.length c0] w fun e w' => e = .returned (.tuple #[.int .i64 r1, .int .i64 r2]) ∧ Drawn0 w w' := by
 have HR0 := gA hr0
 have HC0 := gA hc0
 clear hr0 hc0
 have H : (num_Prod.l0 k l0 1 false false (l0.length : Int) 0) = some (r1, r2) := h
 clear h
 have H' := gA H
 clear H
 go_enter Try.func57, Try.ntmps57
 go_wp2
 go_loopg [4, 5, 6, 12] k (fun kq v4 v5 v6 v12 w' => ∃ (x4_1 : Int) (x5_1 : Bool) (x6_1 : Bool) (x12_1 : Int), v4 = .int .u64 x4_1 ∧ v5 = .bool x5_1 ∧ v6 = .bool x6_1 ∧ v12 = .int .i64 x12_1 ∧ Aside0 (num_Prod.l0 kq l0 x4_1 x5_1 x6_1 (l0.length : Int) x12_1 = some (r1, r2)) ∧ Aside0 (kq ≤ k) ∧ Drawn0 w w')
 case atStart => exact ⟨(1), (false), (false), (0), (rfl), (rfl), (rfl), (rfl), H', ⟨Nat.le_refl _⟩, by repeat (first | exact Drawn0.refl _ | apply Drawn0.step)⟩
 case round =>
  clear H'
  obtain ⟨x4_1, x5_1, x6_1, x12_1, rfl, rfl, rfl, rfl, HA, HK1, ⟨m1, rfl⟩⟩ := hrel
  cases gk with
  | zero => exact absurd HA.out (by simp [num_Prod.l0])
  | succ k1 =>
   have H := HA.out; clear HA
   simp only [num_Prod.l0] at H
   by_cases c2 : x12_1 < (l0.length : Int)
   ·rw [if_pos c2] at H
    have c2b0 := decide_eq_true c2
    clear c2
    obtain ⟨c3, H⟩ := iS H
    have c3b0 := decide_eq_true c3
    clear c3
    obtain ⟨c4, H⟩ := iS H
    have c4b0 := decide_eq_true c4
    clear c4
    replace H := Option.bind_eq_some_iff.mp H
    obtain ⟨⟨t192, t193⟩, A50, H⟩ := H
    replace H : (if t192 = 0 then (some (0, 0)) else (if x6_1 = true then (num_Prod.l0 k1 l0 x4_1 (x5_1 != t193) true (l0.length : Int) (wrap64 (x12_1 + 1))) else (if x4_1 > (IntKind.u64.wrap (Int.tdiv (9223372036854775808 : Int) t192)) then (num_Prod.l0 k1 l0 x4_1 (x5_1 != t193) true (l0.length : Int) (wrap64 (x12_1 + 1))) else (num_Prod.l0 k1 l0 (IntKind.u64.wrap (x4_1 * t192)) (x5_1 != t193) x6_1 (l0.length : Int) (wrap64 (x12_1 + 1)))))) = some (r1, r2) := H
    have A5 := gA A50
    clear A50
    by_cases c6 : t192 = 0
    ·rw [if_pos c6] at H
     have c6b0 : (t192 == 0) = true := beq_iff_eq.mpr c6
     have c6b1 : (t192 != 0) = false := bne_eq_false_iff_eq.mpr c6
     clear c6
     simp only [Option.some.injEq, Prod.mk.injEq] at H
     obtain ⟨rfl, rfl⟩ := H
     have p191 : 0 ≤ (x12_1 : Int) := of_decide_eq_true (by assumption)
     have q191 : x12_1 < (l0.length : Int) := of_decide_eq_true (by assumption)
     obtain ⟨ad191, e191, hx191_0⟩ := Kd.at_int HR0.out x12_1 p191 q191
     cases e191
     replace p191 := eq_true p191
     replace q191 := eq_true q191
     go_wp2_with (first | ((with_reducible refine gate_callee (f := 63) rfl ?_); refine goesL_ (some 20) rfl rfl Try.func63 (by kernel_rfl) rfl #[.int .i64 (rd l0 x12_1)] rfl (by (try simp only [List.map_toArray, List.map_cons, List.map_nil]); first | done | rfl | (simp only [List.length_drop, List.length_take]; rfl)) ?_; (with_reducible refine (num_size.calls (rd l0 x12_1) t192 t193 _ A5.out).mono ?_); rintro e w' ⟨rfl, ⟨nd, rfl⟩⟩; refine ⟨_, rfl, ?_⟩))
     go_ret2
     exact ⟨rfl, by repeat (first | exact Drawn0.refl _ | apply Drawn0.step)⟩
    ·rw [if_neg c6] at H
     have c6b0 : (t192 == 0) = false := beq_eq_false_iff_ne.mpr c6
     have c6b1 : (t192 != 0) = true := bne_iff_ne.mpr c6
     by_cases c7 : x6_1 = true
     ·subst c7
      have H1 : (num_Prod.l0 k1 l0 x4_1 (x5_1 != t193) true (l0.length : Int) (wrap64 (x12_1 + 1))) = some (r1, r2) := by rw [if_pos rfl] at H; exact H
      clear H; have H := H1; clear H1
      have H' := gA H
      clear H
      have p191 : 0 ≤ (x12_1 : Int) := of_decide_eq_true (by assumption)
      have q191 : x12_1 < (l0.length : Int) := of_decide_eq_true (by assumption)
      obtain ⟨ad191, e191, hx191_0⟩ := Kd.at_int HR0.out x12_1 p191 q191
      cases e191
      replace p191 := eq_true p191
      replace q191 := eq_true q191
      go_wp2_with (first | ((with_reducible refine gate_callee (f := 63) rfl ?_); refine goesL_ (some 20) rfl rfl Try.func63 (by kernel_rfl) rfl #[.int .i64 (rd l0 x12_1)] rfl (by (try simp only [List.map_toArray, List.map_cons, List.map_nil]); first | done | rfl | (simp only [List.length_drop, List.length_take]; rfl)) ?_; (with_reducible refine (num_size.calls (rd l0 x12_1) t192 t193 _ A5.out).mono ?_); rintro e w' ⟨rfl, ⟨nd, rfl⟩⟩; refine ⟨_, rfl, ?_⟩))
      go_roundg k1
      case measure => have := HK1.out; omega
      case rel => exact ⟨(x4_1), ((x5_1 != t193)), (true), (wrap64 (x12_1 + 1)), (rfl), (rfl), (rfl), (rfl), H', ⟨by have := HK1.out; omega⟩, by repeat (first | exact Drawn0.refl _ | apply Drawn0.step)⟩
     ·replace c7 := Bool.eq_false_iff.mpr c7
      subst c7
      have H1 : (if x4_1 > (IntKind.u64.wrap (Int.tdiv (9223372036854775808 : Int) t192)) then (num_Prod.l0 k1 l0 x4_1 (x5_1 != t193) true (l0.length : Int) (wrap64 (x12_1 + 1))) else (num_Prod.l0 k1 l0 (IntKind.u64.wrap (x4_1 * t192)) (x5_1 != t193) false (l0.length : Int) (wrap64 (x12_1 + 1)))) = some (r1, r2) := by rw [if_neg (show ¬ (false = true) by decide)] at H; exact H
      clear H; have H := H1; clear H1
      by_cases c8 : x4_1 > (IntKind.u64.wrap (Int.tdiv (9223372036854775808 : Int) t192))
      ·rw [if_pos c8] at H
       have c8b0 : decide ((IntKind.u64.wrap (Int.tdiv (9223372036854775808 : Int) t192)) < x4_1) = true := decide_eq_true c8
       clear c8
       have H' := gA H
       clear H
       have p191 : 0 ≤ (x12_1 : Int) := of_decide_eq_true (by assumption)
       have q191 : x12_1 < (l0.length : Int) := of_decide_eq_true (by assumption)
       obtain ⟨ad191, e191, hx191_0⟩ := Kd.at_int HR0.out x12_1 p191 q191
       cases e191
       replace p191 := eq_true p191
       replace q191 := eq_true q191
       go_wp2_with (first | ((with_reducible refine gate_callee (f := 63) rfl ?_); refine goesL_ (some 20) rfl rfl Try.func63 (by kernel_rfl) rfl #[.int .i64 (rd l0 x12_1)] rfl (by (try simp only [List.map_toArray, List.map_cons, List.map_nil]); first | done | rfl | (simp only [List.length_drop, List.length_take]; rfl)) ?_; (with_reducible refine (num_size.calls (rd l0 x12_1) t192 t193 _ A5.out).mono ?_); rintro e w' ⟨rfl, ⟨nd, rfl⟩⟩; refine ⟨_, rfl, ?_⟩))
       go_roundg k1
       case measure => have := HK1.out; omega
       case rel => exact ⟨(x4_1), ((x5_1 != t193)), (true), (wrap64 (x12_1 + 1)), (rfl), (rfl), (rfl), (rfl), H', ⟨by have := HK1.out; omega⟩, by repeat (first | exact Drawn0.refl _ | apply Drawn0.step)⟩
      ·rw [if_neg c8] at H
       have c8b0 : decide ((IntKind.u64.wrap (Int.tdiv (9223372036854775808 : Int) t192)) < x4_1) = false := decide_eq_false c8
       clear c8
       have H' := gA H
       clear H
       have p191 : 0 ≤ (x12_1 : Int) := of_decide_eq_true (by assumption)
       have q191 : x12_1 < (l0.length : Int) := of_decide_eq_true (by assumption)
       obtain ⟨ad191, e191, hx191_0⟩ := Kd.at_int HR0.out x12_1 p191 q191
       cases e191
       replace p191 := eq_true p191
       replace q191 := eq_true q191
       go_wp2_with (first | ((with_reducible refine gate_callee (f := 63) rfl ?_); refine goesL_ (some 20) rfl rfl Try.func63 (by kernel_rfl) rfl #[.int .i64 (rd l0 x12_1)] rfl (by (try simp only [List.map_toArray, List.map_cons, List.map_nil]); first | done | rfl | (simp only [List.length_drop, List.length_take]; rfl)) ?_; (with_reducible refine (num_size.calls (rd l0 x12_1) t192 t193 _ A5.out).mono ?_); rintro e w' ⟨rfl, ⟨nd, rfl⟩⟩; refine ⟨_, rfl, ?_⟩))
       go_roundg k1
       case measure => have := HK1.out; omega
       case rel => exact ⟨(IntKind.u64.wrap (x4_1 * t192)), ((x5_1 != t193)), (false), (wrap64 (x12_1 + 1)), (rfl), (rfl), (rfl), (rfl), H', ⟨by have := HK1.out; omega⟩, by repeat (first | exact Drawn0.refl _ | apply Drawn0.step)⟩
   ·rw [if_neg c2] at H
    have c2b0 := decide_eq_false c2
    clear c2
    by_cases c9 : x6_1 = true
    ·subst c9
     have H1 : (some (0, 9)) = some (r1, r2) := by rw [if_pos rfl] at H; exact H
     clear H; have H := H1; clear H1
     simp only [Option.some.injEq, Prod.mk.injEq] at H
     obtain ⟨rfl, rfl⟩ := H
     go_wp2
     go_ret2
     exact ⟨rfl, by repeat (first | exact Drawn0.refl _ | apply Drawn0.step)⟩
    ·replace c9 := Bool.eq_false_iff.mpr c9
     subst c9
     have H1 : ((num_signed.f k1 x4_1 x5_1).bind fun bt189 => (some (bt189.1, bt189.2))) = some (r1, r2) := by rw [if_neg (show ¬ (false = true) by decide)] at H; exact H
     clear H; have H := H1; clear H1
     replace H := Option.bind_eq_some_iff.mp H
     obtain ⟨⟨t189, t190⟩, A100, H⟩ := H
     replace H : (some (t189, t190)) = some (r1, r2) := H
     have A10 := gA A100
     clear A100
     simp only [Option.some.injEq, Prod.mk.injEq] at H
     obtain ⟨rfl, rfl⟩ := H
     go_wp2_with (first | ((with_reducible refine gate_callee (f := 68) rfl ?_); refine goesL_ (some 42) rfl rfl Try.func68 (by kernel_rfl) rfl #[.int .u64 x4_1, .bool x5_1] rfl (by (try simp only [List.map_toArray, List.map_cons, List.map_nil]); first | done | rfl | (simp only [List.length_drop, List.length_take]; rfl)) ?_; (with_reducible refine (num_signed.calls k1 x4_1 x5_1 t189 t190 _ A10.out).mono ?_); rintro e w' ⟨rfl, ⟨nd, rfl⟩⟩; refine ⟨_, rfl, ?_⟩))
     go_ret2
     exact ⟨rfl, by repeat (first | exact Drawn0.refl _ | apply Drawn0.step)⟩
def num_Mul.f (k : Nat) (a0 : Int) (a1 : Int) : Option (Int × Int) := (num_Prod.f k (([a0, a1] : List Int))).bind fun bt197 => (some (bt197.1, bt197.2))
theorem num_Mul.mono : ∀ a0 a1 k, LeO (num_Mul.f k a0 a1) (num_Mul.f (k + 1) a0 a1) := by
 intro a0 a1 k
 unfold num_Mul.f
 repeat' first
   | (with_reducible exact num_Prod.mono _ _)
   | (with_reducible exact LeO.refl _)
   | (with_reducible exact LeO.none _)
   | (with_reducible refine LeO.ite ?_ ?_)
   | (with_reducible refine LeO.bind ?_ (fun _ => ?_))
   | exact num_Prod.mono _ _
set_option maxHeartbeats 8000000 in
set_option maxRecDepth 100000 in
theorem num_Mul.calls (k : Nat) (a0 : Int) (a1 : Int) (r1 : Int) (r2 : Int) (w : World) (h : num_Mul.f k a0 a1 = some (r1, r2)) :
  Calls Try.prog 79 #[.int .i64 a0, .int .i64 a1] w fun e w' => e = .returned (.tuple #[.int .i64 r1, .int .i64 r2]) ∧ Below w.heap.size w w' := by
 have HB := gA (Below.refl w.heap.size w)
 have H : ((num_Prod.f k (([a0, a1] : List Int))).bind fun bt197 => (some (bt197.1, bt197.2))) = some (r1, r2) := h
 clear h
 obtain ⟨y194, hy194⟩ : ∃ y_ : List Int, y_ = (([a0, a1] : List Int)) := ⟨_, rfl⟩
 replace H : ((num_Prod.f k y194).bind fun bt197 => (some (bt197.1, bt197.2))) = some (r1, r2) := by first | (rw [hy194]; with_reducible exact H) | (have H2_ := (Option.bind_some _ _).symm.trans H; rw [hy194]; with_reducible exact H2_) | (have H2_ := (Option.bind_some _ _).symm.trans H; with_reducible exact H2_) | with_reducible exact H | (rw [hy194]; exact H) | exact H
 have Ny194 := gA hy194
 clear hy194
 replace H := Option.bind_eq_some_iff.mp H
 obtain ⟨⟨t197, t198⟩, A30, H⟩ := H
 replace H : (some (t197, t198)) = some (r1, r2) := H
 have A3 := gA A30
 clear A30
 simp only [Option.some.injEq, Prod.mk.injEq] at H
 obtain ⟨rfl, rfl⟩ := H
 go_enter Try.func79, Try.ntmps79
 go_wp2_with (first | ((with_reducible refine gate_dst (N := 8) rfl ?_); refine Kd.R_lit (Kd.int .i64) _ 2 ?hg (N := 8) ?hd (xs := ([a0, a1] : List Int)) (inner := [.int .i64 a0, .int .i64 a1]) (ok := fun _ => True) (okp := fun _ => True) ?hr ?hp (fun _ hk => hk) trivial (Below.refl _ _) (Nat.le_refl _) (by simp) ?_; (case hd => rfl); (case hg => rfl); (case hr => first | (go_simp; done) | (go_simp; rfl)); (case hp => exact (Reps.one (show Kd.M (Kd.int .i64) _ _ _ a0 [.int .i64 a0] from rfl) (Reps.one (show Kd.M (Kd.int .i64) _ _ _ a1 [.int .i64 a1] from rfl) (Reps.none _ _)))); intro v195 w4 ho5 hb hg_ hnew_; clear hg_ hnew_; (first | rw [← Ny194.out] at ho5 | (simp only [Int.reduceToNat] at ho5; rw [← Ny194.out] at ho5)); have HO196 := gA (Kd.R_lower ho5 (below_size (gB HB))); replace HB := gA (below_step (gB HB) hb); clear hb ho5; obtain ⟨Ao6, co6, eo6⟩ := Kd.R_slice HO196.out; subst eo6) | ((with_reducible refine gate_callee (f := 57) rfl ?_); refine goesL_ (some 9) rfl rfl Try.func57 (by kernel_rfl) rfl #[.slice Ao6 y194.length co6] rfl (by (try simp only [List.map_toArray, List.map_cons, List.map_nil]); first | done | rfl | (simp only [List.length_drop, List.length_take]; rfl)) ?_; (with_reducible refine (num_Prod.calls k _ _ y194 t197 t198 _ ?side1 ?side2 A3.out).mono ?_); (case side1 => repeat (first | exact (Kd.R_reads' HO196.out).2.2 | (with_reducible refine Kd.C_alloc ?_ _) | (with_reducible refine Kd.C_drewN ?_ _) | (with_reducible refine Kd.C_drew ?_))); (case side2 => exact (Kd.R_reads' HO196.out).2.1); rintro e w' ⟨rfl, ⟨nd, rfl⟩⟩; refine ⟨_, rfl, ?_⟩))
 go_ret2
 exact ⟨by first | rfl | (simp [errW_none, errW_some] <;> rfl) | (simp [*, errW_none, errW_some] <;> rfl), by repeat (first | (with_reducible first | exact HB.out | apply below_alloc | apply pw_below_drewN | apply below_drew1) | exact HB.out)⟩
def num_Res.f (a0 : Int) (a1 : Int) : Option (Int) := if a0 = 0 then (some a1) else (if a0 = (-1) then (some 0) else (if (Int.tmod a1 a0) = 0 then (some (Int.tmod a1 a0)) else (if ((decide ((Int.tmod a1 a0) < 0)) != (decide (a0 < 0))) = true then (some (wrap64 ((Int.tmod a1 a0) + a0))) else (some (Int.tmod a1 a0)))))
set_option maxHeartbeats 8000000 in
set_option maxRecDepth 100000 in
theorem num_Res.calls (a0 : Int) (a1 : Int) (r : Int) (w : World) (h : num_Res.f a0 a1 = some r) :
  Calls Try.prog 80 #[.int .i64 a0, .int .i64 a1] w fun e w' => e = .returned (.int .i64 r) ∧ Drawn0 w w' := by
 have H : (if a0 = 0 then (some a1) else (if a0 = (-1) then (some 0) else (if (Int.tmod a1 a0) = 0 then (some (Int.tmod a1 a0)) else (if ((decide ((Int.tmod a1 a0) < 0)) != (decide (a0 < 0))) = true then (some (wrap64 ((Int.tmod a1 a0) + a0))) else (some (Int.tmod a1 a0)))))) = some r := h
 clear h
 by_cases c3 : a0 = 0
 ·rw [if_pos c3] at H
  have c3b0 : (a0 == 0) = true := beq_iff_eq.mpr c3
  have c3b1 : (a0 != 0) = false := bne_eq_false_iff_eq.mpr c3
  clear c3
  obtain rfl := Option.some.inj H
  go_enter Try.func80, Try.ntmps80
  go_wp2
  go_ret
  exact ⟨rfl, by repeat (first | exact Drawn0.refl _ | apply Drawn0.step)⟩
 ·rw [if_neg c3] at H
  have c3b0 : (a0 == 0) = false := beq_eq_false_iff_ne.mpr c3
  have c3b1 : (a0 != 0) = true := bne_iff_ne.mpr c3
  by_cases c4 : a0 = (-1)
  ·rw [if_pos c4] at H
   have c4b0 : (a0 == (-1)) = true := beq_iff_eq.mpr c4
   have c4b1 : (a0 != (-1)) = false := bne_eq_false_iff_eq.mpr c4
   clear c4
   obtain rfl := Option.some.inj H
   go_enter Try.func80, Try.ntmps80
   go_wp2
   go_ret
   exact ⟨rfl, by repeat (first | exact Drawn0.refl _ | apply Drawn0.step)⟩
  ·rw [if_neg c4] at H
   have c4b0 : (a0 == (-1)) = false := beq_eq_false_iff_ne.mpr c4
   have c4b1 : (a0 != (-1)) = true := bne_iff_ne.mpr c4
   by_cases c5 : (Int.tmod a1 a0) = 0
   ·rw [if_pos c5] at H
    have c5b0 : ((Int.tmod a1 a0) == 0) = true := beq_iff_eq.mpr c5
    have c5b1 : ((Int.tmod a1 a0) != 0) = false := bne_eq_false_iff_eq.mpr c5
    clear c5
    obtain rfl := Option.some.inj H
    go_enter Try.func80, Try.ntmps80
    go_wp2
    go_ret
    exact ⟨rfl, by repeat (first | exact Drawn0.refl _ | apply Drawn0.step)⟩
   ·rw [if_neg c5] at H
    have c5b0 : ((Int.tmod a1 a0) == 0) = false := beq_eq_false_iff_ne.mpr c5
    have c5b1 : ((Int.tmod a1 a0) != 0) = true := bne_iff_ne.mpr c5
    by_cases c6 : ((decide ((Int.tmod a1 a0) < 0)) != (decide (a0 < 0))) = true
    ·rw [if_pos c6] at H
     have c6b0 : ((decide ((Int.tmod a1 a0) < 0)) != (decide (a0 < 0))) = true := c6
     (try (have c6b1 : decide ((decide ((Int.tmod a1 a0) < 0)) = (decide (a0 < 0))) = false := by simpa using c6))
     (try (have c6b2 : ((decide ((Int.tmod a1 a0) < 0)) == (decide (a0 < 0))) = false := by simpa using c6))
     (try (have c6b3 : ¬ ((decide ((Int.tmod a1 a0) < 0)) = (decide (a0 < 0))) := by simpa using c6))
     clear c6
     obtain rfl := Option.some.inj H
     go_enter Try.func80, Try.ntmps80
     go_wp2
     go_ret
     exact ⟨rfl, by repeat (first | exact Drawn0.refl _ | apply Drawn0.step)⟩
    ·rw [if_neg c6] at H
     have c6b0 : ((decide ((Int.tmod a1 a0) < 0)) != (decide (a0 < 0))) = false := by simpa using c6
     (try (have c6b1 : decide ((decide ((Int.tmod a1 a0) < 0)) = (decide (a0 < 0))) = true := by simpa using c6))
     (try (have c6b2 : ((decide ((Int.tmod a1 a0) < 0)) == (decide (a0 < 0))) = true := by simpa using c6))
     clear c6
     obtain rfl := Option.some.inj H
     go_enter Try.func80, Try.ntmps80
     go_wp2
     go_ret
     exact ⟨rfl, by repeat (first | exact Drawn0.refl _ | apply Drawn0.step)⟩
def atomic_reckon.f (k : Nat) (a0 : Int) (a1 : Int) (a2 : Int) : Option (Int × Int) := if a0 = 21 then ((num_Add.f a1 a2).bind fun bt199 => (some (bt199.1, bt199.2))) else (if a0 = 22 then ((num_Sub.f a1 a2).bind fun bt201 => (some (bt201.1, bt201.2))) else (if a0 = 23 then ((num_Mul.f k a1 a2).bind fun bt203 => (some (bt203.1, bt203.2))) else (if a0 = 24 then (some (mn a1 a2, 0)) else (if a0 = 25 then (some (mx a1 a2, 0)) else ((num_Res.f a1 a2).bind fun t205 => (some (t205, 0)))))))
theorem atomic_reckon.mono : ∀ a0 a1 a2 k, LeO (atomic_reckon.f k a0 a1 a2) (atomic_reckon.f (k + 1) a0 a1 a2) := by
 intro a0 a1 a2 k
 unfold atomic_reckon.f
 repeat' first
   | (with_reducible exact num_Mul.mono _ _ _)
   | (with_reducible exact LeO.refl _)
   | (with_reducible exact LeO.none _)
   | (with_reducible refine LeO.ite ?_ ?_)
   | (with_reducible refine LeO.bind ?_ (fun _ => ?_))
   | exact num_Mul.mono _ _ _
set_option maxHeartbeats 8000000 in
set_option maxRecDepth 100000 in
theorem atomic_reckon.calls (k : Nat) (a0 : Int) (a1 : Int) (a2 : Int) (r1 : Int) (r2 : Int) (w : World) (h : atomic_reckon.f k a0 a1 a2 = some (r1, r2)) :
  Calls Try.prog 73 #[.int .i64 a0, .int .i64 a1, .int .i64 a2] w fun e w' => e = .returned (.tuple #[.int .i64 r1, .int .i64 r2]) ∧ Below w.heap.size w w' := by
 have HB := gA (Below.refl w.heap.size w)
 have H : (if a0 = 21 then ((num_Add.f a1 a2).bind fun bt199 => (some (bt199.1, bt199.2))) else (if a0 = 22 then ((num_Sub.f a1 a2).bind fun bt201 => (some (bt201.1, bt201.2))) else (if a0 = 23 then ((num_Mul.f k a1 a2).bind fun bt203 => (some (bt203.1, bt203.2))) else (if a0 = 24 then (some (mn a1 a2, 0)) else (if a0 = 25 then (some (mx a1 a2, 0)) else ((num_Res.f a1 a2).bind fun t205 => (some (t205, 0)))))))) = some (r1, r2) := h
 clear h
 by_cases c4 : a0 = 21
 ·rw [if_pos c4] at H
  have c4b0 : (a0 == 21) = true := beq_iff_eq.mpr c4
  have c4b1 : (a0 != 21) = false := bne_eq_false_iff_eq.mpr c4
  clear c4
  replace H := Option.bind_eq_some_iff.mp H
  obtain ⟨⟨t199, t200⟩, A50, H⟩ := H
  replace H : (some (t199, t200)) = some (r1, r2) := H
  have A5 := gA A50
  clear A50
  simp only [Option.some.injEq, Prod.mk.injEq] at H
  obtain ⟨rfl, rfl⟩ := H
  go_enter Try.func73, Try.ntmps73
  go_wp2_with (first | ((with_reducible refine gate_callee (f := 77) rfl ?_); refine goesL_ (some 13) rfl rfl Try.func77 (by kernel_rfl) rfl #[.int .i64 a1, .int .i64 a2] rfl (by (try simp only [List.map_toArray, List.map_cons, List.map_nil]); first | done | rfl | (simp only [List.length_drop, List.length_take]; rfl)) ?_; (with_reducible refine (num_Add.calls a1 a2 t199 t200 _ A5.out).mono ?_); rintro e w' ⟨rfl, ⟨nd, rfl⟩⟩; refine ⟨_, rfl, ?_⟩))
  go_ret2
  exact ⟨by first | rfl | (simp [errW_none, errW_some] <;> rfl) | (simp [*, errW_none, errW_some] <;> rfl), by repeat (first | (with_reducible first | exact HB.out | apply below_alloc | apply pw_below_drewN | apply below_drew1) | exact HB.out)⟩
 ·rw [if_neg c4] at H
  have c4b0 : (a0 == 21) = false := beq_eq_false_iff_ne.mpr c4
  have c4b1 : (a0 != 21) = true := bne_iff_ne.mpr c4
  by_cases c6 : a0 = 22
  ·rw [if_pos c6] at H
   have c6b0 : (a0 == 22) = true := beq_iff_eq.mpr c6
   have c6b1 : (a0 != 22) = false := bne_eq_false_iff_eq.mpr c6
   clear c6
   replace H := Option.bind_eq_some_iff.mp H
   obtain ⟨⟨t201, t202⟩, A70, H⟩ := H
   replace H : (some (t201, t202)) = some (r1, r2) := H
   have A7 := gA A70
   clear A70
   simp only [Option.some.injEq, Prod.mk.injEq] at H
   obtain ⟨rfl, rfl⟩ := H
   go_enter Try.func73, Try.ntmps73
   go_wp2_with (first | ((with_reducible refine gate_callee (f := 78) rfl ?_); refine goesL_ (some 20) rfl rfl Try.func78 (by kernel_rfl) rfl #[.int .i64 a1, .int .i64 a2] rfl (by (try simp only [List.map_toArray, List.map_cons, List.map_nil]); first | done | rfl | (simp only [List.length_drop, List.length_take]; rfl)) ?_; (with_reducible refine (num_Sub.calls a1 a2 t201 t202 _ A7.out).mono ?_); rintro e w' ⟨rfl, ⟨nd, rfl⟩⟩; refine ⟨_, rfl, ?_⟩))
   go_ret2
   exact ⟨by first | rfl | (simp [errW_none, errW_some] <;> rfl) | (simp [*, errW_none, errW_some] <;> rfl), by repeat (first | (with_reducible first | exact HB.out | apply below_alloc | apply pw_below_drewN | apply below_drew1) | exact HB.out)⟩
  ·rw [if_neg c6] at H
   have c6b0 : (a0 == 22) = false := beq_eq_false_iff_ne.mpr c6
   have c6b1 : (a0 != 22) = true := bne_iff_ne.mpr c6
   by_cases c8 : a0 = 23
   ·rw [if_pos c8] at H
    have c8b0 : (a0 == 23) = true := beq_iff_eq.mpr c8
    have c8b1 : (a0 != 23) = false := bne_eq_false_iff_eq.mpr c8
    clear c8
    replace H := Option.bind_eq_some_iff.mp H
    obtain ⟨⟨t203, t204⟩, A90, H⟩ := H
    replace H : (some (t203, t204)) = some (r1, r2) := H
    have A9 := gA A90
    clear A90
    simp only [Option.some.injEq, Prod.mk.injEq] at H
    obtain ⟨rfl, rfl⟩ := H
    go_enter Try.func73, Try.ntmps73
    go_wp2_with (first | ((with_reducible refine gate_callee (f := 79) rfl ?_); refine goesL_ (some 27) rfl rfl Try.func79 (by kernel_rfl) rfl #[.int .i64 a1, .int .i64 a2] rfl (by (try simp only [List.map_toArray, List.map_cons, List.map_nil]); first | done | rfl | (simp only [List.length_drop, List.length_take]; rfl)) ?_; (with_reducible refine (num_Mul.calls k a1 a2 t203 t204 _ A9.out).mono ?_); rintro e w10 ⟨rfl, hb⟩; refine ⟨_, rfl, ?_⟩; replace HB := gA (below_step (gB HB) hb); (try clear hb)))
    go_ret2
    exact ⟨by first | rfl | (simp [errW_none, errW_some] <;> rfl) | (simp [*, errW_none, errW_some] <;> rfl), by repeat (first | (with_reducible first | exact HB.out | apply below_alloc | apply pw_below_drewN | apply below_drew1) | exact HB.out)⟩
   ·rw [if_neg c8] at H
    have c8b0 : (a0 == 23) = false := beq_eq_false_iff_ne.mpr c8
    have c8b1 : (a0 != 23) = true := bne_iff_ne.mpr c8
    by_cases c11 : a0 = 24
    ·rw [if_pos c11] at H
     have c11b0 : (a0 == 24) = true := beq_iff_eq.mpr c11
     have c11b1 : (a0 != 24) = false := bne_eq_false_iff_eq.mpr c11
     clear c11
     obtain ⟨ji12, hji12⟩ : ∃ j_ : Int, (mn a1 a2) = j_ := ⟨_, rfl⟩
     replace H : (some (ji12, 0)) = some (r1, r2) := by first | (rw [hji12] at H; exact H) | (simp only [hji12] at H ⊢; exact H)
     have hji12_ : (if a2 < a1 then a2 else a1) = ji12 := hji12
     simp only [Option.some.injEq, Prod.mk.injEq] at H
     obtain ⟨rfl, rfl⟩ := H
     go_enter Try.func73, Try.ntmps73
     go_wp2
     go_ret2
     exact ⟨by first | rfl | (simp [errW_none, errW_some] <;> rfl) | (simp only [← hji12]; first | rfl | (simp [errW_none, errW_some] <;> rfl)) | (simp [*, errW_none, errW_some] <;> rfl), gB HB⟩
    ·rw [if_neg c11] at H
     have c11b0 : (a0 == 24) = false := beq_eq_false_iff_ne.mpr c11
     have c11b1 : (a0 != 24) = true := bne_iff_ne.mpr c11
     by_cases c13 : a0 = 25
     ·rw [if_pos c13] at H
      have c13b0 : (a0 == 25) = true := beq_iff_eq.mpr c13
      have c13b1 : (a0 != 25) = false := bne_eq_false_iff_eq.mpr c13
      clear c13
      obtain ⟨ji14, hji14⟩ : ∃ j_ : Int, (mx a1 a2) = j_ := ⟨_, rfl⟩
      replace H : (some (ji14, 0)) = some (r1, r2) := by first | (rw [hji14] at H; exact H) | (simp only [hji14] at H ⊢; exact H)
      have hji14_ : (if a1 < a2 then a2 else a1) = ji14 := hji14
      simp only [Option.some.injEq, Prod.mk.injEq] at H
      obtain ⟨rfl, rfl⟩ := H
      go_enter Try.func73, Try.ntmps73
      go_wp2
      go_ret2
      exact ⟨by first | rfl | (simp [errW_none, errW_some] <;> rfl) | (simp only [← hji14]; first | rfl | (simp [errW_none, errW_some] <;> rfl)) | (simp [*, errW_none, errW_some] <;> rfl), gB HB⟩
     ·rw [if_neg c13] at H
      have c13b0 : (a0 == 25) = false := beq_eq_false_iff_ne.mpr c13
      have c13b1 : (a0 != 25) = true := bne_iff_ne.mpr c13
      replace H := Option.bind_eq_some_iff.mp H
      obtain ⟨t205, A150, H⟩ := H
      replace H : (some (t205, 0)) = some (r1, r2) := H
      have A15 := gA A150
      clear A150
      simp only [Option.some.injEq, Prod.mk.injEq] at H
      obtain ⟨rfl, rfl⟩ := H
      go_enter Try.func73, Try.ntmps73
      go_wp2_with (first | ((with_reducible refine gate_callee (f := 80) rfl ?_); refine goesL_ (some 42) rfl rfl Try.func80 (by kernel_rfl) rfl #[.int .i64 a1, .int .i64 a2] rfl (by (try simp only [List.map_toArray, List.map_cons, List.map_nil]); first | done | rfl | (simp only [List.length_drop, List.length_take]; rfl)) ?_; (with_reducible refine (num_Res.calls a1 a2 t205 _ A15.out).mono ?_); rintro e w' ⟨rfl, ⟨nd, rfl⟩⟩; refine ⟨_, rfl, ?_⟩))
      go_ret2
      exact ⟨by first | rfl | (simp [errW_none, errW_some] <;> rfl) | (simp [*, errW_none, errW_some] <;> rfl), by repeat (first | (with_reducible first | exact HB.out | apply below_alloc | apply pw_below_drewN | apply below_drew1) | exact HB.out)⟩
end Go.Proofs.Ytahgfebdjjfkhaa.P
