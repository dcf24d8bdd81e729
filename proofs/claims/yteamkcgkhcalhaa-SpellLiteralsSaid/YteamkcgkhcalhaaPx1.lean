/- Written by a program of this session: the functions that the laws reach, what each comes to, and each law as it is stated, for every input. No condition. -/
import Derived.Test.YteamkcgkhcalhaaPx0
namespace Go.Proofs.Yteamkcgkhcalhaa.P
open Go.RowKit Go.Proofs.YteamkcgkhcalhaaW.PrintWords Go.Proofs.YteamkcgkhcalhaaW.PrintLast Go.Proofs.YteamkcgkhcalhaaW.PrintMore
attribute [local go_sem] max2_int min2_int max_two min_two max_three min_three max_four min_four   -- for this text's walks alone
set_option linter.unusedVariables false
set_option linter.unusedSimpArgs false
def spell_digits.d : Nat → Int → ByteArray
 | 0, _ => ⟨#[]⟩
 | k + 1, n => (if n < 10 then ⟨#[]⟩ else spell_digits.d k (n / 10)) ++ Utf8.encode (48 + n % 10)
def spell_digits.f (a0 : Int) : Option ByteArray := if 0 ≤ a0 ∧ a0 ≤ 18446744073709551615 then some (spell_digits.d 20 a0) else none
theorem spell_digits.enc (n : Int) (h0 : 0 ≤ n) (h1 : n < 10) : Utf8.encode (48 + n) = ⟨#[UInt8.ofNat (48 + n).toNat]⟩ := by
 have hv : Utf8.valid (48 + n) = true := by unfold Utf8.valid; simp; omega
 have hl : (48 + n).toNat < 128 := by omega
 unfold Utf8.encode
 simp [hv, hl]
theorem spell_digits.one (n : Int) : (Utf8.encode (48 + n % 10)).size = 1 := by rw [spell_digits.enc _ (by omega) (by omega)]; rfl
theorem spell_digits.le : ∀ k n, (spell_digits.d k n).size ≤ k
 | 0, _ => Nat.le_refl _
 | k + 1, n => by
  have h := spell_digits.le k (n / 10)
  simp only [spell_digits.d]
  rw [ByteArray.size_append, spell_digits.one]
  split
  ·show 0 + 1 ≤ k + 1; omega
  ·omega
set_option maxHeartbeats 2000000 in
set_option maxRecDepth 100000 in
theorem spell_digits.walk : ∀ (k : Nat) (n : Int) (w : World), 0 ≤ n → n < 10 ^ k → n ≤ 18446744073709551615 → 0 < k → k ≤ 20 →
  Calls Try.prog 12 #[.int .u64 n] w fun e w' => e = .returned (.string (spell_digits.d k n)) ∧ w' = w := by
 intro k
 induction k with
 | zero => intro n w _ _ _ h _; omega
 | succ k ih =>
  intro n w h0 h1 h2 hk hk2
  have HT := Aside0.mk hk2
  clear hk hk2
  have HI := Aside0.mk ih
  have HP := Aside0.mk h1
  clear ih h1
  by_cases hc : n < 10
  ·have hg : ¬ 10 ≤ n := by omega
   have HV : Aside0 (spell_digits.d (k + 1) n = (⟨#[]⟩ : ByteArray) ++ Utf8.encode (48 + n % 10)) := ⟨by simp only [spell_digits.d]; rw [if_pos hc]⟩
   have hs : ¬ 9223372036854775807 < (Utf8.encode (48 + n % 10)).size := by rw [spell_digits.one]; decide
   go_enter Try.func12, Try.ntmps12
   go_wp2
   go_ret
   exact ⟨congrArg (fun s => Ending.returned (.string s)) HV.out.symm, rfl⟩
  ·have hg : 10 ≤ n := by omega
   have HV : Aside0 (spell_digits.d (k + 1) n = spell_digits.d k (n / 10) ++ Utf8.encode (48 + n % 10)) := ⟨by simp only [spell_digits.d]; rw [if_neg hc]⟩
   have HK : Aside0 (0 < k ∧ n / 10 < 10 ^ k) := ⟨by
    have := HP.out
    rw [Int.pow_succ] at this
    refine ⟨?_, by omega⟩
    rcases Nat.eq_zero_or_pos k with hz | hz
    ·subst hz; omega
    ·exact hz⟩
   have hs : ¬ 9223372036854775807 < (spell_digits.d k (n / 10)).size + (Utf8.encode (48 + n % 10)).size := by rw [spell_digits.one]; have := spell_digits.le k (n / 10); have := HT.out; omega
   go_enter Try.func12, Try.ntmps12
   go_wp2_with (go_at_call 12; (with_reducible refine (HI.out _ _ (by omega) HK.out.2 (by omega) HK.out.1 (by have := HT.out; omega)).mono ?_); rintro e w1 ⟨rfl, rfl⟩)
   go_ret
   exact ⟨congrArg (fun s => Ending.returned (.string s)) HV.out.symm, rfl⟩
theorem spell_digits.calls (a0 : Int) (r : ByteArray) (w : World) (h : spell_digits.f a0 = some r) :
  Calls Try.prog 12 #[.int .u64 a0] w fun e w' => e = .returned (.string r) ∧ Below w.heap.size w w' := by
 unfold spell_digits.f at h
 by_cases hc : 0 ≤ a0 ∧ a0 ≤ 18446744073709551615
 ·rw [if_pos hc] at h
  obtain rfl := Option.some.inj h
  refine (spell_digits.walk 20 a0 w hc.1 (by have := hc.2; omega) hc.2 (by decide) (by decide)).mono ?_
  rintro e w' ⟨he, rfl⟩
  exact ⟨he, Below.refl _ _⟩
 ·rw [if_neg hc] at h
  cases h
def spell_Number.f (a0 : Int) (a1 : ByteArray) : Option (ByteArray) := if a0 < 0 then ((spell_digits.f (IntKind.u64.wrap (-(IntKind.u64.wrap (a0))))).bind fun t101 => (if a1.size + t101.size ≤ 9223372036854775807 then (some (a1 ++ t101)) else (none))) else ((spell_digits.f (IntKind.u64.wrap (a0))).bind fun t102 => (some t102))
set_option maxHeartbeats 8000000 in
set_option maxRecDepth 100000 in
theorem spell_Number.calls (a0 : Int) (a1 : ByteArray) (r : ByteArray) (w : World) (h : spell_Number.f a0 a1 = some r) :
  Calls Try.prog 5 #[.int .i64 a0, .string a1] w fun e w' => e = .returned (.string r) ∧ Below w.heap.size w w' := by
 have HB := gA (Below.refl w.heap.size w)
 have H : (if a0 < 0 then ((spell_digits.f (IntKind.u64.wrap (-(IntKind.u64.wrap (a0))))).bind fun t101 => (if a1.size + t101.size ≤ 9223372036854775807 then (some (a1 ++ t101)) else (none))) else ((spell_digits.f (IntKind.u64.wrap (a0))).bind fun t102 => (some t102))) = some r := h
 clear h
 by_cases c3 : a0 < 0
 ·rw [if_pos c3] at H
  have c3b0 := decide_eq_true c3
  clear c3
  replace H := Option.bind_eq_some_iff.mp H
  obtain ⟨t101, A40, H⟩ := H
  replace H : (if a1.size + t101.size ≤ 9223372036854775807 then (some (a1 ++ t101)) else (none)) = some r := H
  have A4 := gA A40
  clear A40
  obtain ⟨c5, H⟩ := iS H
  have c5b0 := eq_true c5
  have c5b1 := decide_eq_true c5
  try have c5b2 : (9223372036854775807 < a1.size + t101.size) = False := eq_false (Nat.not_lt.2 c5)
  obtain rfl := Option.some.inj H
  go_enter Try.func5, Try.ntmps5
  go_wp2_with (first | ((with_reducible refine gate_callee (f := 12) rfl ?_); refine goesL_ (some 11) rfl rfl Try.func12 (by kernel_rfl) rfl #[.int .u64 (IntKind.u64.wrap (-(IntKind.u64.wrap (a0))))] rfl (by (try simp only [List.map_toArray, List.map_cons, List.map_nil]); first | done | rfl | (simp only [List.length_drop, List.length_take]; rfl)) ?_; (with_reducible refine (spell_digits.calls (IntKind.u64.wrap (-(IntKind.u64.wrap (a0)))) t101 _ A4.out).mono ?_); rintro e w6 ⟨rfl, hb⟩; refine ⟨_, rfl, ?_⟩; replace HB := gA (below_step (gB HB) hb); (try clear hb)))
  go_ret
  exact ⟨by first | rfl | (simp [errW_none, errW_some] <;> rfl) | (simp [*, errW_none, errW_some] <;> rfl), by repeat (first | (with_reducible first | exact HB.out | apply below_alloc | apply pw_below_drewN | apply below_drew1) | exact HB.out)⟩
 ·rw [if_neg c3] at H
  have c3b0 := decide_eq_false c3
  clear c3
  replace H := Option.bind_eq_some_iff.mp H
  obtain ⟨t102, A70, H⟩ := H
  replace H : (some t102) = some r := H
  have A7 := gA A70
  clear A70
  obtain rfl := Option.some.inj H
  go_enter Try.func5, Try.ntmps5
  go_wp2_with (first | ((with_reducible refine gate_callee (f := 12) rfl ?_); refine goesL_ (some 15) rfl rfl Try.func12 (by kernel_rfl) rfl #[.int .u64 (IntKind.u64.wrap (a0))] rfl (by (try simp only [List.map_toArray, List.map_cons, List.map_nil]); first | done | rfl | (simp only [List.length_drop, List.length_take]; rfl)) ?_; (with_reducible refine (spell_digits.calls (IntKind.u64.wrap (a0)) t102 _ A7.out).mono ?_); rintro e w8 ⟨rfl, hb⟩; refine ⟨_, rfl, ?_⟩; replace HB := gA (below_step (gB HB) hb); (try clear hb)))
  go_ret
  exact ⟨by first | rfl | (simp [errW_none, errW_some] <;> rfl) | (simp [*, errW_none, errW_some] <;> rfl), by repeat (first | (with_reducible first | exact HB.out | apply below_alloc | apply pw_below_drewN | apply below_drew1) | exact HB.out)⟩
mutual
def arr_Size.l0 : Nat → List Int → Int → Bool → List Int → Int → Int → Option (Int × Int)
 | 0, _, _, _, _, _, _ => none
 | k + 1, x0, x4, x5, x13, x14, x15 => if x15 < x14 then (if 0 ≤ x15 then (if x15 < (x13.length : Int) then (if (rd x13 x15) < 0 then (some (0, 1)) else (if x5 = true then (arr_Size.l0 k x0 x4 true x13 x14 (wrap64 (x15 + 1))) else (arr_Size.l0 k x0 x4 ((rd x13 x15) == 0) x13 x14 (wrap64 (x15 + 1))))) else (none)) else (none)) else (if x5 = true then (some (0, 0)) else (arr_Size.l1 k x4 x0 (x0.length : Int) 0))
def arr_Size.l1 : Nat → Int → List Int → Int → Int → Option (Int × Int)
 | 0, _, _, _, _ => none
 | k + 1, x4, x28, x29, x30 => if x30 < x29 then (if 0 ≤ x30 then (if x30 < (x28.length : Int) then (if x4 = 0 then (none) else (if (rd x28 x30) > (wrap64 (Int.tdiv (16384 : Int) x4)) then (some (0, 12)) else (arr_Size.l1 k (wrap64 (x4 * (rd x28 x30))) x28 x29 (wrap64 (x30 + 1))))) else (none)) else (none)) else (some (x4, 0))
end
def arr_Size.f (k : Nat) (l0 : List Int) : Option (Int × Int) := if (l0.length : Int) > 8 then (some (0, 6)) else (arr_Size.l0 k l0 1 false l0 (l0.length : Int) 0)
theorem arr_Size.mono_l : ∀ k, (∀ y0 y1 y2 y3 y4 y5, LeO (arr_Size.l0 k y0 y1 y2 y3 y4 y5) (arr_Size.l0 (k + 1) y0 y1 y2 y3 y4 y5)) ∧ (∀ y0 y1 y2 y3, LeO (arr_Size.l1 k y0 y1 y2 y3) (arr_Size.l1 (k + 1) y0 y1 y2 y3))
 | 0 => ⟨fun _ _ _ _ _ _ r h => by simp [arr_Size.l0] at h, fun _ _ _ _ r h => by simp [arr_Size.l1] at h⟩
 | k + 1 => by
  obtain ⟨ih0, ih1⟩ := arr_Size.mono_l k
  refine ⟨?_, ?_⟩
  ·intro y0 y1 y2 y3 y4 y5
   unfold arr_Size.l0
   repeat' first
   | (with_reducible exact ih0 _ _ _ _ _ _)
   | (with_reducible exact ih1 _ _ _ _)
   | (with_reducible exact LeO.refl _)
   | (with_reducible exact LeO.none _)
   | (with_reducible refine LeO.ite ?_ ?_)
   | (with_reducible refine LeO.bind ?_ (fun _ => ?_))





  ·intro y0 y1 y2 y3
   unfold arr_Size.l1
   repeat' first
   | (with_reducible exact ih0 _ _ _ _ _ _)
   | (with_reducible exact ih1 _ _ _ _)
   | (with_reducible exact LeO.refl _)
   | (with_reducible exact LeO.none _)
   | (with_reducible refine LeO.ite ?_ ?_)
   | (with_reducible refine LeO.bind ?_ (fun _ => ?_))
theorem arr_Size.mono : ∀ a0 k, LeO (arr_Size.f k a0) (arr_Size.f (k + 1) a0) := by
 intro a0 k
 obtain ⟨ih0, ih1⟩ := arr_Size.mono_l k
 unfold arr_Size.f
 repeat' first
   | (with_reducible exact ih0 _ _ _ _ _ _)
   | (with_reducible exact ih1 _ _ _ _)
   | (with_reducible exact LeO.refl _)
   | (with_reducible exact LeO.none _)
   | (with_reducible refine LeO.ite ?_ ?_)
   | (with_reducible refine LeO.bind ?_ (fun _ => ?_))
set_option maxHeartbeats 8000000 in
set_option maxRecDepth 100000 in
theorem arr_Size.calls (k : Nat) (A0 : Option Addr) (c0 : Nat) (l0 : List Int) (r1 : Int) (r2 : Int) (w : World) (hr0 : Kd.C (Kd.int .i64) w A0 l0.length l0) (hc0 : l0.length ≤ c0) (h : arr_Size.f k l0 = some (r1, r2)) :
  Calls Try.prog 77 #[.slice A0 l0.length c0] w fun e w' => e = .returned (.tuple #[.int .i64 r1, .int .i64 r2]) ∧ Drawn0 w w' := by
 have HR0 := gA hr0
 have HC0 := gA hc0
 clear hr0 hc0
 have H : (if (l0.length : Int) > 8 then (some (0, 6)) else (arr_Size.l0 k l0 1 false l0 (l0.length : Int) 0)) = some (r1, r2) := h
 clear h
 by_cases c2 : (l0.length : Int) > 8
 ·rw [if_pos c2] at H
  have c2b0 : decide (8 < (l0.length : Int)) = true := decide_eq_true c2
  have c2b1 : decide (8 < l0.length) = true := decide_eq_true (by omega)
  clear c2
  simp only [Option.some.injEq, Prod.mk.injEq] at H
  obtain ⟨rfl, rfl⟩ := H
  go_enter Try.func77, Try.ntmps77
  go_wp2
  go_ret2
  exact ⟨rfl, by repeat (first | exact Drawn0.refl _ | apply Drawn0.step)⟩
 ·rw [if_neg c2] at H
  have c2b0 : decide (8 < (l0.length : Int)) = false := decide_eq_false c2
  have c2b1 : decide (8 < l0.length) = false := decide_eq_false (by omega)
  clear c2
  have H' := gA H
  clear H
  go_enter Try.func77, Try.ntmps77
  go_wp2
  go_loopg [5, 15] k (fun kq v5 v15 w' => ∃ (x5_1 : Bool) (x15_1 : Int), v5 = .bool x5_1 ∧ v15 = .int .i64 x15_1 ∧ Aside0 (arr_Size.l0 kq l0 1 x5_1 l0 (l0.length : Int) x15_1 = some (r1, r2)) ∧ Aside0 (kq ≤ k) ∧ Drawn0 w w')
  case atStart => exact ⟨(false), (0), (rfl), (rfl), H', ⟨Nat.le_refl _⟩, by repeat (first | exact Drawn0.refl _ | apply Drawn0.step)⟩
  case round =>
   clear H'
   try clear c2
   try clear c2b0
   try clear c2b1
   try clear p2
   obtain ⟨x5_1, x15_1, rfl, rfl, HA, HK1, ⟨m1, rfl⟩⟩ := hrel
   cases gk with
   | zero => exact absurd HA.out (by simp [arr_Size.l0])
   | succ k1 =>
    have H := HA.out; clear HA
    simp only [arr_Size.l0] at H
    by_cases c3 : x15_1 < (l0.length : Int)
    ·rw [if_pos c3] at H
     have c3b0 := decide_eq_true c3
     clear c3
     obtain ⟨c4, H⟩ := iS H
     have c4b0 := decide_eq_true c4
     clear c4
     obtain ⟨c5, H⟩ := iS H
     have c5b0 := decide_eq_true c5
     clear c5
     by_cases c6 : (rd l0 x15_1) < 0
     ·rw [if_pos c6] at H
      have c6b0 := decide_eq_true c6
      clear c6
      simp only [Option.some.injEq, Prod.mk.injEq] at H
      obtain ⟨rfl, rfl⟩ := H
      have p103 : 0 ≤ (x15_1 : Int) := of_decide_eq_true (by assumption)
      have q103 : x15_1 < (l0.length : Int) := of_decide_eq_true (by assumption)
      obtain ⟨ad103, e103, hx103_0⟩ := Kd.at_int HR0.out x15_1 p103 q103
      cases e103
      replace p103 := eq_true p103
      replace q103 := eq_true q103
      go_wp2
      go_ret2
      exact ⟨rfl, by repeat (first | exact Drawn0.refl _ | apply Drawn0.step)⟩
     ·rw [if_neg c6] at H
      have c6b0 := decide_eq_false c6
      clear c6
      by_cases c7 : x5_1 = true
      ·subst c7
       have H1 : (arr_Size.l0 k1 l0 1 true l0 (l0.length : Int) (wrap64 (x15_1 + 1))) = some (r1, r2) := by rw [if_pos rfl] at H; exact H
       clear H; have H := H1; clear H1
       have H' := gA H
       clear H
       have p103 : 0 ≤ (x15_1 : Int) := of_decide_eq_true (by assumption)
       have q103 : x15_1 < (l0.length : Int) := of_decide_eq_true (by assumption)
       obtain ⟨ad103, e103, hx103_0⟩ := Kd.at_int HR0.out x15_1 p103 q103
       cases e103
       replace p103 := eq_true p103
       replace q103 := eq_true q103
       go_wp2
       go_roundg k1
       case measure => have := HK1.out; omega
       case rel => exact ⟨(true), (wrap64 (x15_1 + 1)), (rfl), (rfl), H', ⟨by have := HK1.out; omega⟩, by repeat (first | exact Drawn0.refl _ | apply Drawn0.step)⟩
      ·replace c7 := Bool.eq_false_iff.mpr c7
       subst c7
       have H1 : (arr_Size.l0 k1 l0 1 ((rd l0 x15_1) == 0) l0 (l0.length : Int) (wrap64 (x15_1 + 1))) = some (r1, r2) := by rw [if_neg (show ¬ (false = true) by decide)] at H; exact H
       clear H; have H := H1; clear H1
       have H' := gA H
       clear H
       have p103 : 0 ≤ (x15_1 : Int) := of_decide_eq_true (by assumption)
       have q103 : x15_1 < (l0.length : Int) := of_decide_eq_true (by assumption)
       obtain ⟨ad103, e103, hx103_0⟩ := Kd.at_int HR0.out x15_1 p103 q103
       cases e103
       replace p103 := eq_true p103
       replace q103 := eq_true q103
       go_wp2
       go_roundg k1
       case measure => have := HK1.out; omega
       case rel => exact ⟨(((rd l0 x15_1) == 0)), (wrap64 (x15_1 + 1)), (rfl), (rfl), H', ⟨by have := HK1.out; omega⟩, by repeat (first | exact Drawn0.refl _ | apply Drawn0.step)⟩
    ·rw [if_neg c3] at H
     have c3b0 := decide_eq_false c3
     clear c3
     by_cases c8 : x5_1 = true
     ·subst c8
      have H1 : (some (0, 0)) = some (r1, r2) := by rw [if_pos rfl] at H; exact H
      clear H; have H := H1; clear H1
      simp only [Option.some.injEq, Prod.mk.injEq] at H
      obtain ⟨rfl, rfl⟩ := H
      go_wp2
      go_ret2
      exact ⟨rfl, by repeat (first | exact Drawn0.refl _ | apply Drawn0.step)⟩
     ·replace c8 := Bool.eq_false_iff.mpr c8
      subst c8
      have H1 : (arr_Size.l1 k1 1 l0 (l0.length : Int) 0) = some (r1, r2) := by rw [if_neg (show ¬ (false = true) by decide)] at H; exact H
      clear H; have H := H1; clear H1
      have H' := gA H
      clear H
      go_wp2
      go_loopg [4, 30] k1 (fun kq v4 v30 w' => ∃ (x4_2 : Int) (x30_2 : Int), v4 = .int .i64 x4_2 ∧ v30 = .int .i64 x30_2 ∧ Aside0 (arr_Size.l1 kq x4_2 l0 (l0.length : Int) x30_2 = some (r1, r2)) ∧ Aside0 (kq ≤ k1) ∧ Drawn0 w w')
      case atStart => exact ⟨(1), (0), (by first | rfl | (simp; done) | (simp [*]; done)), (by first | rfl | (simp; done) | (simp [*]; done)), H', ⟨Nat.le_refl _⟩, by repeat (first | exact Drawn0.refl _ | apply Drawn0.step)⟩
      case round =>
       clear H'
       try clear p1
       try clear q1
       try clear hx1
       try clear c2
       try clear c2b0
       try clear c2b1
       try clear p2
       try clear c3
       try clear c3b0
       try clear c4
       try clear c4b0
       try clear c5
       try clear c5b0
       try clear c6
       try clear c6b0
       try clear p6
       try clear c7
       try clear c8
       try clear hx103_0
       try clear p103
       try clear p2
       try clear q103
       obtain ⟨x4_2, x30_2, rfl, rfl, HA, HK2, ⟨m2, rfl⟩⟩ := hrel
       cases gk with
       | zero => exact absurd HA.out (by simp [arr_Size.l1])
       | succ k2 =>
        have H := HA.out; clear HA
        simp only [arr_Size.l1] at H
        by_cases c9 : x30_2 < (l0.length : Int)
        ·rw [if_pos c9] at H
         have c9b0 := decide_eq_true c9
         clear c9
         obtain ⟨c10, H⟩ := iS H
         have c10b0 := decide_eq_true c10
         clear c10
         obtain ⟨c11, H⟩ := iS H
         have c11b0 := decide_eq_true c11
         clear c11
         obtain ⟨c12, H⟩ := iN H
         have c12b0 : (x4_2 == 0) = false := beq_eq_false_iff_ne.mpr c12
         have c12b1 : (x4_2 != 0) = true := bne_iff_ne.mpr c12
         by_cases c13 : (rd l0 x30_2) > (wrap64 (Int.tdiv (16384 : Int) x4_2))
         ·rw [if_pos c13] at H
          have c13b0 : decide ((wrap64 (Int.tdiv (16384 : Int) x4_2)) < (rd l0 x30_2)) = true := decide_eq_true c13
          clear c13
          simp only [Option.some.injEq, Prod.mk.injEq] at H
          obtain ⟨rfl, rfl⟩ := H
          have p104 : 0 ≤ (x30_2 : Int) := of_decide_eq_true (by assumption)
          have q104 : x30_2 < (l0.length : Int) := of_decide_eq_true (by assumption)
          obtain ⟨ad104, e104, hx104_0⟩ := Kd.at_int HR0.out x30_2 p104 q104
          cases e104
          replace p104 := eq_true p104
          replace q104 := eq_true q104
          go_wp2
          go_ret2
          exact ⟨rfl, by repeat (first | exact Drawn0.refl _ | apply Drawn0.step)⟩
         ·rw [if_neg c13] at H
          have c13b0 : decide ((wrap64 (Int.tdiv (16384 : Int) x4_2)) < (rd l0 x30_2)) = false := decide_eq_false c13
          clear c13
          have H' := gA H
          clear H
          have p104 : 0 ≤ (x30_2 : Int) := of_decide_eq_true (by assumption)
          have q104 : x30_2 < (l0.length : Int) := of_decide_eq_true (by assumption)
          obtain ⟨ad104, e104, hx104_0⟩ := Kd.at_int HR0.out x30_2 p104 q104
          cases e104
          replace p104 := eq_true p104
          replace q104 := eq_true q104
          go_wp2
          go_roundg k2
          case measure => have := HK1.out; have := HK2.out; omega
          case rel => exact ⟨(wrap64 (x4_2 * (rd l0 x30_2))), (wrap64 (x30_2 + 1)), (rfl), (rfl), H', ⟨by have := HK1.out; have := HK2.out; omega⟩, by repeat (first | exact Drawn0.refl _ | apply Drawn0.step)⟩
        ·rw [if_neg c9] at H
         have c9b0 := decide_eq_false c9
         clear c9
         simp only [Option.some.injEq, Prod.mk.injEq] at H
         obtain ⟨rfl, rfl⟩ := H
         go_wp2
         go_ret2
         exact ⟨rfl, by repeat (first | exact Drawn0.refl _ | apply Drawn0.step)⟩
def arr_good.f (a0 : Int) : Option (Bool) := if a0 ≥ 0 then (if a0 ≤ 1114111 then (if a0 < 55296 then (some true) else (some (decide (a0 > 57343)))) else (some false)) else (some false)
set_option maxHeartbeats 8000000 in
set_option maxRecDepth 100000 in
theorem arr_good.calls (a0 : Int) (r : Bool) (w : World) (h : arr_good.f a0 = some r) :
  Calls Try.prog 78 #[.int .i64 a0] w fun e w' => e = .returned (.bool r) ∧ Drawn0 w w' := by
 have H : (if a0 ≥ 0 then (if a0 ≤ 1114111 then (if a0 < 55296 then (some true) else (some (decide (a0 > 57343)))) else (some false)) else (some false)) = some r := h
 clear h
 by_cases c2 : a0 ≥ 0
 ·rw [if_pos c2] at H
  have c2b0 : decide (0 ≤ a0) = true := decide_eq_true c2
  clear c2
  by_cases c3 : a0 ≤ 1114111
  ·rw [if_pos c3] at H
   have c3b0 := decide_eq_true c3
   clear c3
   by_cases c4 : a0 < 55296
   ·rw [if_pos c4] at H
    have c4b0 := decide_eq_true c4
    clear c4
    obtain rfl := Option.some.inj H
    go_enter Try.func78, Try.ntmps78
    go_wp2
    go_ret
    exact ⟨rfl, by repeat (first | exact Drawn0.refl _ | apply Drawn0.step)⟩
   ·rw [if_neg c4] at H
    have c4b0 := decide_eq_false c4
    clear c4
    obtain rfl := Option.some.inj H
    go_enter Try.func78, Try.ntmps78
    go_wp2
    go_ret
    exact ⟨rfl, by repeat (first | exact Drawn0.refl _ | apply Drawn0.step)⟩
  ·rw [if_neg c3] at H
   have c3b0 := decide_eq_false c3
   clear c3
   obtain rfl := Option.some.inj H
   go_enter Try.func78, Try.ntmps78
   go_wp2
   go_ret
   exact ⟨rfl, by repeat (first | exact Drawn0.refl _ | apply Drawn0.step)⟩
 ·rw [if_neg c2] at H
  have c2b0 : decide (0 ≤ a0) = false := decide_eq_false c2
  clear c2
  obtain rfl := Option.some.inj H
  go_enter Try.func78, Try.ntmps78
  go_wp2
  go_ret
  exact ⟨rfl, by repeat (first | exact Drawn0.refl _ | apply Drawn0.step)⟩
end Go.Proofs.Yteamkcgkhcalhaa.P
