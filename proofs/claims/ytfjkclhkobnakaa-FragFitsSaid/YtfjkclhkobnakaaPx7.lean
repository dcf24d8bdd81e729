/- Written by a program of this session: the functions that the laws reach, what each comes to, and each law as it is stated, for every input. No condition. -/
import Derived.Test.YtfjkclhkobnakaaPx0
namespace Go.Proofs.Ytfjkclhkobnakaa.P
open Go.RowKit Go.Proofs.YtfjkclhkobnakaaW.PrintWords Go.Proofs.YtfjkclhkobnakaaW.PrintLast Go.Proofs.YtfjkclhkobnakaaW.PrintMore
attribute [local go_sem] max2_int min2_int max_two min_two max_three min_three max_four min_four   -- for this text's walks alone
set_option linter.unusedVariables false
set_option linter.unusedSimpArgs false
def frag_Says.j0 : Nat → Int → Int → Bool → Option (Bool)
 | 0, _, _, _ => none
 | k + 1, x0, x1, x5 => if x5 = true then (some false) else (if x0 = 0 then (if x1 = 17 then (some false) else (if x1 = 18 then (some false) else (some (x1 != 53)))) else (if x0 = 1 then (if x1 = 47 then (some false) else (if x1 = 51 then (some false) else (some (x1 != 53)))) else (if x1 = 1 then (some true) else (if x1 = 4 then (some true) else (if x1 = 5 then (some true) else (if x1 = 6 then (some true) else (if x1 = 7 then (some true) else (if x1 = 9 then (some true) else (if x1 = 12 then (some true) else (if x1 = 13 then (some true) else (if x1 = 14 then (some true) else (if x1 = 17 then (some true) else (if x1 = 18 then (some true) else (if x1 = 21 then (some true) else (if x1 = 22 then (some true) else (if x1 = 23 then (some true) else (if x1 = 24 then (some true) else (if x1 = 25 then (some true) else (if x1 = 27 then (some true) else (if x1 = 29 then (some true) else (if x1 = 30 then (some true) else (if x1 = 41 then (some true) else (if x1 = 43 then (some true) else (if x1 = 46 then (some true) else (if x1 = 53 then (some true) else (some false))))))))))))))))))))))))))
def frag_Says.f (k : Nat) (a0 : Int) (a1 : Int) : Option (Bool) := if a1 = 19 then (frag_Says.j0 k a0 a1 true) else (if a1 = 54 then (frag_Says.j0 k a0 a1 true) else (if a1 < 1 then (frag_Says.j0 k a0 a1 true) else (if a1 > 54 then (frag_Says.j0 k a0 a1 true) else (if a1 > 18 then (if a1 < 21 then (frag_Says.j0 k a0 a1 true) else (if a1 > 32 then (frag_Says.j0 k a0 a1 (decide (a1 < 41))) else (frag_Says.j0 k a0 a1 false))) else (if a1 > 32 then (frag_Says.j0 k a0 a1 (decide (a1 < 41))) else (frag_Says.j0 k a0 a1 false))))))
theorem frag_Says.mono_l : ∀ k, (∀ y0 y1 y2, LeO (frag_Says.j0 k y0 y1 y2) (frag_Says.j0 (k + 1) y0 y1 y2))
 | 0 => fun _ _ _ r h => by simp [frag_Says.j0] at h
 | k + 1 => by
  have ih0 := frag_Says.mono_l k
  ·intro y0 y1 y2
   unfold frag_Says.j0
   repeat' first
   | (with_reducible exact ih0 _ _ _)
   | (with_reducible exact LeO.refl _)
   | (with_reducible exact LeO.none _)
   | (with_reducible refine LeO.ite ?_ ?_)
   | (with_reducible refine LeO.bind ?_ (fun _ => ?_))
theorem frag_Says.mono : ∀ a0 a1 k, LeO (frag_Says.f k a0 a1) (frag_Says.f (k + 1) a0 a1) := by
 intro a0 a1 k
 have ih0 := frag_Says.mono_l k
 unfold frag_Says.f
 repeat' first
   | (with_reducible exact ih0 _ _ _)
   | (with_reducible exact LeO.refl _)
   | (with_reducible exact LeO.none _)
   | (with_reducible refine LeO.ite ?_ ?_)
   | (with_reducible refine LeO.bind ?_ (fun _ => ?_))
set_option maxHeartbeats 8000000 in
set_option maxRecDepth 100000 in
theorem frag_Says.calls (k : Nat) (a0 : Int) (a1 : Int) (r : Bool) (w : World) (h : frag_Says.f k a0 a1 = some r) :
  Calls Try.prog 11 #[.int .i64 a0, .int .i64 a1] w fun e w' => e = .returned (.bool r) ∧ Drawn0 w w' := by
 have H : (if a1 = 19 then (frag_Says.j0 k a0 a1 true) else (if a1 = 54 then (frag_Says.j0 k a0 a1 true) else (if a1 < 1 then (frag_Says.j0 k a0 a1 true) else (if a1 > 54 then (frag_Says.j0 k a0 a1 true) else (if a1 > 18 then (if a1 < 21 then (frag_Says.j0 k a0 a1 true) else (if a1 > 32 then (frag_Says.j0 k a0 a1 (decide (a1 < 41))) else (frag_Says.j0 k a0 a1 false))) else (if a1 > 32 then (frag_Says.j0 k a0 a1 (decide (a1 < 41))) else (frag_Says.j0 k a0 a1 false))))))) = some r := h
 clear h
 have HC3 := gA H
 clear H
 go_enter Try.func11, Try.ntmps11
 go_upto_region 1 with (fail)
 go_cut [5] (fun v5 wc => ∃ (kq : Nat) (x5_2 : Bool), v5 = .bool x5_2 ∧ Aside0 (frag_Says.j0 kq a0 a1 x5_2 = some r) ∧ Aside0 (kq ≤ k) ∧ Drawn0 w wc)
 case first =>
  have H := HC3.out; clear HC3
  by_cases c4 : a1 = 19
  ·rw [if_pos c4] at H
   have c4b0 : (a1 == 19) = true := beq_iff_eq.mpr c4
   have c4b1 : (a1 != 19) = false := bne_eq_false_iff_eq.mpr c4
   clear c4
   (first | rw [c4b0] | rw [c4b1] | (simp only [i64_w, i32_w]; rw [c4b0]) | skip)
   have H' := gA H
   clear H
   go_wp2
   all_goals (go_meet; (case rel => exact ⟨_, (true), (by first | rfl | (simp; done) | (simp [*]; done) | (exfalso; simp_all; done) | (exfalso; simp_all; omega)), H', ⟨by first | omega | exact Nat.le_refl _⟩, by repeat (first | exact Drawn0.refl _ | apply Drawn0.step)⟩))
  ·rw [if_neg c4] at H
   have c4b0 : (a1 == 19) = false := beq_eq_false_iff_ne.mpr c4
   have c4b1 : (a1 != 19) = true := bne_iff_ne.mpr c4
   (first | rw [c4b0] | rw [c4b1] | (simp only [i64_w, i32_w]; rw [c4b0]) | skip)
   by_cases c5 : a1 = 54
   ·rw [if_pos c5] at H
    have c5b0 : (a1 == 54) = true := beq_iff_eq.mpr c5
    have c5b1 : (a1 != 54) = false := bne_eq_false_iff_eq.mpr c5
    clear c5
    have H' := gA H
    clear H
    go_wp2
    all_goals (go_meet; (case rel => exact ⟨_, (true), (by first | rfl | (simp; done) | (simp [*]; done) | (exfalso; simp_all; done) | (exfalso; simp_all; omega)), H', ⟨by first | omega | exact Nat.le_refl _⟩, by repeat (first | exact Drawn0.refl _ | apply Drawn0.step)⟩))
   ·rw [if_neg c5] at H
    have c5b0 : (a1 == 54) = false := beq_eq_false_iff_ne.mpr c5
    have c5b1 : (a1 != 54) = true := bne_iff_ne.mpr c5
    by_cases c6 : a1 < 1
    ·rw [if_pos c6] at H
     have c6b0 := decide_eq_true c6
     clear c6
     have H' := gA H
     clear H
     go_wp2
     all_goals (go_meet; (case rel => exact ⟨_, (true), (by first | rfl | (simp; done) | (simp [*]; done) | (exfalso; simp_all; done) | (exfalso; simp_all; omega)), H', ⟨by first | omega | exact Nat.le_refl _⟩, by repeat (first | exact Drawn0.refl _ | apply Drawn0.step)⟩))
    ·rw [if_neg c6] at H
     have c6b0 := decide_eq_false c6
     clear c6
     by_cases c7 : a1 > 54
     ·rw [if_pos c7] at H
      have c7b0 : decide (54 < a1) = true := decide_eq_true c7
      clear c7
      have H' := gA H
      clear H
      go_wp2
      all_goals (go_meet; (case rel => exact ⟨_, (true), (by first | rfl | (simp; done) | (simp [*]; done) | (exfalso; simp_all; done) | (exfalso; simp_all; omega)), H', ⟨by first | omega | exact Nat.le_refl _⟩, by repeat (first | exact Drawn0.refl _ | apply Drawn0.step)⟩))
     ·rw [if_neg c7] at H
      have c7b0 : decide (54 < a1) = false := decide_eq_false c7
      clear c7
      by_cases c8 : a1 > 18
      ·rw [if_pos c8] at H
       have c8b0 : decide (18 < a1) = true := decide_eq_true c8
       clear c8
       by_cases c9 : a1 < 21
       ·rw [if_pos c9] at H
        have c9b0 := decide_eq_true c9
        clear c9
        have H' := gA H
        clear H
        go_wp2
        all_goals (go_meet; (case rel => exact ⟨_, (true), (by first | rfl | (simp; done) | (simp [*]; done) | (exfalso; simp_all; done) | (exfalso; simp_all; omega)), H', ⟨by first | omega | exact Nat.le_refl _⟩, by repeat (first | exact Drawn0.refl _ | apply Drawn0.step)⟩))
       ·rw [if_neg c9] at H
        have c9b0 := decide_eq_false c9
        clear c9
        by_cases c10 : a1 > 32
        ·rw [if_pos c10] at H
         have c10b0 : decide (32 < a1) = true := decide_eq_true c10
         clear c10
         have H' := gA H
         clear H
         go_wp2
         all_goals (go_meet; (case rel => exact ⟨_, (decide (a1 < 41)), (by first | rfl | (simp; done) | (simp [*]; done) | (exfalso; simp_all; done) | (exfalso; simp_all; omega)), H', ⟨by first | omega | exact Nat.le_refl _⟩, by repeat (first | exact Drawn0.refl _ | apply Drawn0.step)⟩))
        ·rw [if_neg c10] at H
         have c10b0 : decide (32 < a1) = false := decide_eq_false c10
         clear c10
         have H' := gA H
         clear H
         go_wp2
         all_goals (go_meet; (case rel => exact ⟨_, (false), (by first | rfl | (simp; done) | (simp [*]; done) | (exfalso; simp_all; done) | (exfalso; simp_all; omega)), H', ⟨by first | omega | exact Nat.le_refl _⟩, by repeat (first | exact Drawn0.refl _ | apply Drawn0.step)⟩))
      ·rw [if_neg c8] at H
       have c8b0 : decide (18 < a1) = false := decide_eq_false c8
       clear c8
       by_cases c11 : a1 > 32
       ·rw [if_pos c11] at H
        have c11b0 : decide (32 < a1) = true := decide_eq_true c11
        clear c11
        have H' := gA H
        clear H
        go_wp2
        all_goals (go_meet; (case rel => exact ⟨_, (decide (a1 < 41)), (by first | rfl | (simp; done) | (simp [*]; done) | (exfalso; simp_all; done) | (exfalso; simp_all; omega)), H', ⟨by first | omega | exact Nat.le_refl _⟩, by repeat (first | exact Drawn0.refl _ | apply Drawn0.step)⟩))
       ·rw [if_neg c11] at H
        have c11b0 : decide (32 < a1) = false := decide_eq_false c11
        clear c11
        have H' := gA H
        clear H
        go_wp2
        all_goals (go_meet; (case rel => exact ⟨_, (false), (by first | rfl | (simp; done) | (simp [*]; done) | (exfalso; simp_all; done) | (exfalso; simp_all; omega)), H', ⟨by first | omega | exact Nat.le_refl _⟩, by repeat (first | exact Drawn0.refl _ | apply Drawn0.step)⟩))
 case rest =>
  clear HC3
  try clear c1
  try clear p2
  try clear c4
  try clear c4b0
  try clear c4b1
  try clear c5
  try clear c5b0
  try clear c5b1
  try clear c6
  try clear c6b0
  try clear c7
  try clear c7b0
  try clear c8
  try clear c8b0
  try clear c9
  try clear c9b0
  try clear c10
  try clear c10b0
  try clear c11
  try clear c11b0
  obtain ⟨kq, x5_2, rfl, HA, HJ2, ⟨mc2, rfl⟩⟩ := hcut
  cases kq with
  | zero => exact absurd HA.out (by simp [frag_Says.j0])
  | succ kj2 =>
   have H := HA.out; clear HA
   simp only [frag_Says.j0] at H
   by_cases c12 : x5_2 = true
   ·subst c12
    have H1 : (some false) = some r := by rw [if_pos rfl] at H; exact H
    clear H; have H := H1; clear H1
    obtain rfl := Option.some.inj H
    go_wp2
    go_ret
    exact ⟨rfl, by repeat (first | exact Drawn0.refl _ | apply Drawn0.step)⟩
   ·replace c12 := Bool.eq_false_iff.mpr c12
    subst c12
    have H1 : (if a0 = 0 then (if a1 = 17 then (some false) else (if a1 = 18 then (some false) else (some (a1 != 53)))) else (if a0 = 1 then (if a1 = 47 then (some false) else (if a1 = 51 then (some false) else (some (a1 != 53)))) else (if a1 = 1 then (some true) else (if a1 = 4 then (some true) else (if a1 = 5 then (some true) else (if a1 = 6 then (some true) else (if a1 = 7 then (some true) else (if a1 = 9 then (some true) else (if a1 = 12 then (some true) else (if a1 = 13 then (some true) else (if a1 = 14 then (some true) else (if a1 = 17 then (some true) else (if a1 = 18 then (some true) else (if a1 = 21 then (some true) else (if a1 = 22 then (some true) else (if a1 = 23 then (some true) else (if a1 = 24 then (some true) else (if a1 = 25 then (some true) else (if a1 = 27 then (some true) else (if a1 = 29 then (some true) else (if a1 = 30 then (some true) else (if a1 = 41 then (some true) else (if a1 = 43 then (some true) else (if a1 = 46 then (some true) else (if a1 = 53 then (some true) else (some false)))))))))))))))))))))))))) = some r := by rw [if_neg (show ¬ (false = true) by decide)] at H; exact H
    clear H; have H := H1; clear H1
    by_cases c13 : a0 = 0
    ·rw [if_pos c13] at H
     have c13b0 : (a0 == 0) = true := beq_iff_eq.mpr c13
     have c13b1 : (a0 != 0) = false := bne_eq_false_iff_eq.mpr c13
     clear c13
     by_cases c14 : a1 = 17
     ·rw [if_pos c14] at H
      have c14b0 : (a1 == 17) = true := beq_iff_eq.mpr c14
      have c14b1 : (a1 != 17) = false := bne_eq_false_iff_eq.mpr c14
      clear c14
      obtain rfl := Option.some.inj H
      go_wp2
      go_ret
      exact ⟨rfl, by repeat (first | exact Drawn0.refl _ | apply Drawn0.step)⟩
     ·rw [if_neg c14] at H
      have c14b0 : (a1 == 17) = false := beq_eq_false_iff_ne.mpr c14
      have c14b1 : (a1 != 17) = true := bne_iff_ne.mpr c14
      by_cases c15 : a1 = 18
      ·rw [if_pos c15] at H
       have c15b0 : (a1 == 18) = true := beq_iff_eq.mpr c15
       have c15b1 : (a1 != 18) = false := bne_eq_false_iff_eq.mpr c15
       clear c15
       obtain rfl := Option.some.inj H
       go_wp2
       go_ret
       exact ⟨rfl, by repeat (first | exact Drawn0.refl _ | apply Drawn0.step)⟩
      ·rw [if_neg c15] at H
       have c15b0 : (a1 == 18) = false := beq_eq_false_iff_ne.mpr c15
       have c15b1 : (a1 != 18) = true := bne_iff_ne.mpr c15
       obtain rfl := Option.some.inj H
       go_wp2
       go_ret
       exact ⟨rfl, by repeat (first | exact Drawn0.refl _ | apply Drawn0.step)⟩
    ·rw [if_neg c13] at H
     have c13b0 : (a0 == 0) = false := beq_eq_false_iff_ne.mpr c13
     have c13b1 : (a0 != 0) = true := bne_iff_ne.mpr c13
     by_cases c16 : a0 = 1
     ·rw [if_pos c16] at H
      have c16b0 : (a0 == 1) = true := beq_iff_eq.mpr c16
      have c16b1 : (a0 != 1) = false := bne_eq_false_iff_eq.mpr c16
      clear c16
      by_cases c17 : a1 = 47
      ·rw [if_pos c17] at H
       have c17b0 : (a1 == 47) = true := beq_iff_eq.mpr c17
       have c17b1 : (a1 != 47) = false := bne_eq_false_iff_eq.mpr c17
       clear c17
       obtain rfl := Option.some.inj H
       go_wp2
       go_ret
       exact ⟨rfl, by repeat (first | exact Drawn0.refl _ | apply Drawn0.step)⟩
      ·rw [if_neg c17] at H
       have c17b0 : (a1 == 47) = false := beq_eq_false_iff_ne.mpr c17
       have c17b1 : (a1 != 47) = true := bne_iff_ne.mpr c17
       by_cases c18 : a1 = 51
       ·rw [if_pos c18] at H
        have c18b0 : (a1 == 51) = true := beq_iff_eq.mpr c18
        have c18b1 : (a1 != 51) = false := bne_eq_false_iff_eq.mpr c18
        clear c18
        obtain rfl := Option.some.inj H
        go_wp2
        go_ret
        exact ⟨rfl, by repeat (first | exact Drawn0.refl _ | apply Drawn0.step)⟩
       ·rw [if_neg c18] at H
        have c18b0 : (a1 == 51) = false := beq_eq_false_iff_ne.mpr c18
        have c18b1 : (a1 != 51) = true := bne_iff_ne.mpr c18
        obtain rfl := Option.some.inj H
        go_wp2
        go_ret
        exact ⟨rfl, by repeat (first | exact Drawn0.refl _ | apply Drawn0.step)⟩
     ·rw [if_neg c16] at H
      have c16b0 : (a0 == 1) = false := beq_eq_false_iff_ne.mpr c16
      have c16b1 : (a0 != 1) = true := bne_iff_ne.mpr c16
      by_cases c19 : a1 = 1
      ·rw [if_pos c19] at H
       have c19b0 : (a1 == 1) = true := beq_iff_eq.mpr c19
       have c19b1 : (a1 != 1) = false := bne_eq_false_iff_eq.mpr c19
       clear c19
       obtain rfl := Option.some.inj H
       go_wp2
       go_ret
       exact ⟨rfl, by repeat (first | exact Drawn0.refl _ | apply Drawn0.step)⟩
      ·rw [if_neg c19] at H
       have c19b0 : (a1 == 1) = false := beq_eq_false_iff_ne.mpr c19
       have c19b1 : (a1 != 1) = true := bne_iff_ne.mpr c19
       by_cases c20 : a1 = 4
       ·rw [if_pos c20] at H
        have c20b0 : (a1 == 4) = true := beq_iff_eq.mpr c20
        have c20b1 : (a1 != 4) = false := bne_eq_false_iff_eq.mpr c20
        clear c20
        obtain rfl := Option.some.inj H
        go_wp2
        go_ret
        exact ⟨rfl, by repeat (first | exact Drawn0.refl _ | apply Drawn0.step)⟩
       ·rw [if_neg c20] at H
        have c20b0 : (a1 == 4) = false := beq_eq_false_iff_ne.mpr c20
        have c20b1 : (a1 != 4) = true := bne_iff_ne.mpr c20
        by_cases c21 : a1 = 5
        ·rw [if_pos c21] at H
         have c21b0 : (a1 == 5) = true := beq_iff_eq.mpr c21
         have c21b1 : (a1 != 5) = false := bne_eq_false_iff_eq.mpr c21
         clear c21
         obtain rfl := Option.some.inj H
         go_wp2
         go_ret
         exact ⟨rfl, by repeat (first | exact Drawn0.refl _ | apply Drawn0.step)⟩
        ·rw [if_neg c21] at H
         have c21b0 : (a1 == 5) = false := beq_eq_false_iff_ne.mpr c21
         have c21b1 : (a1 != 5) = true := bne_iff_ne.mpr c21
         by_cases c22 : a1 = 6
         ·rw [if_pos c22] at H
          have c22b0 : (a1 == 6) = true := beq_iff_eq.mpr c22
          have c22b1 : (a1 != 6) = false := bne_eq_false_iff_eq.mpr c22
          clear c22
          obtain rfl := Option.some.inj H
          go_wp2
          go_ret
          exact ⟨rfl, by repeat (first | exact Drawn0.refl _ | apply Drawn0.step)⟩
         ·rw [if_neg c22] at H
          have c22b0 : (a1 == 6) = false := beq_eq_false_iff_ne.mpr c22
          have c22b1 : (a1 != 6) = true := bne_iff_ne.mpr c22
          by_cases c23 : a1 = 7
          ·rw [if_pos c23] at H
           have c23b0 : (a1 == 7) = true := beq_iff_eq.mpr c23
           have c23b1 : (a1 != 7) = false := bne_eq_false_iff_eq.mpr c23
           clear c23
           obtain rfl := Option.some.inj H
           go_wp2
           go_ret
           exact ⟨rfl, by repeat (first | exact Drawn0.refl _ | apply Drawn0.step)⟩
          ·rw [if_neg c23] at H
           have c23b0 : (a1 == 7) = false := beq_eq_false_iff_ne.mpr c23
           have c23b1 : (a1 != 7) = true := bne_iff_ne.mpr c23
           by_cases c24 : a1 = 9
           ·rw [if_pos c24] at H
            have c24b0 : (a1 == 9) = true := beq_iff_eq.mpr c24
            have c24b1 : (a1 != 9) = false := bne_eq_false_iff_eq.mpr c24
            clear c24
            obtain rfl := Option.some.inj H
            go_wp2
            go_ret
            exact ⟨rfl, by repeat (first | exact Drawn0.refl _ | apply Drawn0.step)⟩
           ·rw [if_neg c24] at H
            have c24b0 : (a1 == 9) = false := beq_eq_false_iff_ne.mpr c24
            have c24b1 : (a1 != 9) = true := bne_iff_ne.mpr c24
            by_cases c25 : a1 = 12
            ·rw [if_pos c25] at H
             have c25b0 : (a1 == 12) = true := beq_iff_eq.mpr c25
             have c25b1 : (a1 != 12) = false := bne_eq_false_iff_eq.mpr c25
             clear c25
             obtain rfl := Option.some.inj H
             go_wp2
             go_ret
             exact ⟨rfl, by repeat (first | exact Drawn0.refl _ | apply Drawn0.step)⟩
            ·rw [if_neg c25] at H
             have c25b0 : (a1 == 12) = false := beq_eq_false_iff_ne.mpr c25
             have c25b1 : (a1 != 12) = true := bne_iff_ne.mpr c25
             by_cases c26 : a1 = 13
             ·rw [if_pos c26] at H
              have c26b0 : (a1 == 13) = true := beq_iff_eq.mpr c26
              have c26b1 : (a1 != 13) = false := bne_eq_false_iff_eq.mpr c26
              clear c26
              obtain rfl := Option.some.inj H
              go_wp2
              go_ret
              exact ⟨rfl, by repeat (first | exact Drawn0.refl _ | apply Drawn0.step)⟩
             ·rw [if_neg c26] at H
              have c26b0 : (a1 == 13) = false := beq_eq_false_iff_ne.mpr c26
              have c26b1 : (a1 != 13) = true := bne_iff_ne.mpr c26
              by_cases c27 : a1 = 14
              ·rw [if_pos c27] at H
               have c27b0 : (a1 == 14) = true := beq_iff_eq.mpr c27
               have c27b1 : (a1 != 14) = false := bne_eq_false_iff_eq.mpr c27
               clear c27
               obtain rfl := Option.some.inj H
               go_wp2
               go_ret
               exact ⟨rfl, by repeat (first | exact Drawn0.refl _ | apply Drawn0.step)⟩
              ·rw [if_neg c27] at H
               have c27b0 : (a1 == 14) = false := beq_eq_false_iff_ne.mpr c27
               have c27b1 : (a1 != 14) = true := bne_iff_ne.mpr c27
               by_cases c28 : a1 = 17
               ·rw [if_pos c28] at H
                have c28b0 : (a1 == 17) = true := beq_iff_eq.mpr c28
                have c28b1 : (a1 != 17) = false := bne_eq_false_iff_eq.mpr c28
                clear c28
                obtain rfl := Option.some.inj H
                go_wp2
                go_ret
                exact ⟨rfl, by repeat (first | exact Drawn0.refl _ | apply Drawn0.step)⟩
               ·rw [if_neg c28] at H
                have c28b0 : (a1 == 17) = false := beq_eq_false_iff_ne.mpr c28
                have c28b1 : (a1 != 17) = true := bne_iff_ne.mpr c28
                by_cases c29 : a1 = 18
                ·rw [if_pos c29] at H
                 have c29b0 : (a1 == 18) = true := beq_iff_eq.mpr c29
                 have c29b1 : (a1 != 18) = false := bne_eq_false_iff_eq.mpr c29
                 clear c29
                 obtain rfl := Option.some.inj H
                 go_wp2
                 go_ret
                 exact ⟨rfl, by repeat (first | exact Drawn0.refl _ | apply Drawn0.step)⟩
                ·rw [if_neg c29] at H
                 have c29b0 : (a1 == 18) = false := beq_eq_false_iff_ne.mpr c29
                 have c29b1 : (a1 != 18) = true := bne_iff_ne.mpr c29
                 by_cases c30 : a1 = 21
                 ·rw [if_pos c30] at H
                  have c30b0 : (a1 == 21) = true := beq_iff_eq.mpr c30
                  have c30b1 : (a1 != 21) = false := bne_eq_false_iff_eq.mpr c30
                  clear c30
                  obtain rfl := Option.some.inj H
                  go_wp2
                  go_ret
                  exact ⟨rfl, by repeat (first | exact Drawn0.refl _ | apply Drawn0.step)⟩
                 ·rw [if_neg c30] at H
                  have c30b0 : (a1 == 21) = false := beq_eq_false_iff_ne.mpr c30
                  have c30b1 : (a1 != 21) = true := bne_iff_ne.mpr c30
                  by_cases c31 : a1 = 22
                  ·rw [if_pos c31] at H
                   have c31b0 : (a1 == 22) = true := beq_iff_eq.mpr c31
                   have c31b1 : (a1 != 22) = false := bne_eq_false_iff_eq.mpr c31
                   clear c31
                   obtain rfl := Option.some.inj H
                   go_wp2
                   go_ret
                   exact ⟨rfl, by repeat (first | exact Drawn0.refl _ | apply Drawn0.step)⟩
                  ·rw [if_neg c31] at H
                   have c31b0 : (a1 == 22) = false := beq_eq_false_iff_ne.mpr c31
                   have c31b1 : (a1 != 22) = true := bne_iff_ne.mpr c31
                   by_cases c32 : a1 = 23
                   ·rw [if_pos c32] at H
                    have c32b0 : (a1 == 23) = true := beq_iff_eq.mpr c32
                    have c32b1 : (a1 != 23) = false := bne_eq_false_iff_eq.mpr c32
                    clear c32
                    obtain rfl := Option.some.inj H
                    go_wp2
                    go_ret
                    exact ⟨rfl, by repeat (first | exact Drawn0.refl _ | apply Drawn0.step)⟩
                   ·rw [if_neg c32] at H
                    have c32b0 : (a1 == 23) = false := beq_eq_false_iff_ne.mpr c32
                    have c32b1 : (a1 != 23) = true := bne_iff_ne.mpr c32
                    by_cases c33 : a1 = 24
                    ·rw [if_pos c33] at H
                     have c33b0 : (a1 == 24) = true := beq_iff_eq.mpr c33
                     have c33b1 : (a1 != 24) = false := bne_eq_false_iff_eq.mpr c33
                     clear c33
                     obtain rfl := Option.some.inj H
                     go_wp2
                     go_ret
                     exact ⟨rfl, by repeat (first | exact Drawn0.refl _ | apply Drawn0.step)⟩
                    ·rw [if_neg c33] at H
                     have c33b0 : (a1 == 24) = false := beq_eq_false_iff_ne.mpr c33
                     have c33b1 : (a1 != 24) = true := bne_iff_ne.mpr c33
                     by_cases c34 : a1 = 25
                     ·rw [if_pos c34] at H
                      have c34b0 : (a1 == 25) = true := beq_iff_eq.mpr c34
                      have c34b1 : (a1 != 25) = false := bne_eq_false_iff_eq.mpr c34
                      clear c34
                      obtain rfl := Option.some.inj H
                      go_wp2
                      go_ret
                      exact ⟨rfl, by repeat (first | exact Drawn0.refl _ | apply Drawn0.step)⟩
                     ·rw [if_neg c34] at H
                      have c34b0 : (a1 == 25) = false := beq_eq_false_iff_ne.mpr c34
                      have c34b1 : (a1 != 25) = true := bne_iff_ne.mpr c34
                      by_cases c35 : a1 = 27
                      ·rw [if_pos c35] at H
                       have c35b0 : (a1 == 27) = true := beq_iff_eq.mpr c35
                       have c35b1 : (a1 != 27) = false := bne_eq_false_iff_eq.mpr c35
                       clear c35
                       obtain rfl := Option.some.inj H
                       go_wp2
                       go_ret
                       exact ⟨rfl, by repeat (first | exact Drawn0.refl _ | apply Drawn0.step)⟩
                      ·rw [if_neg c35] at H
                       have c35b0 : (a1 == 27) = false := beq_eq_false_iff_ne.mpr c35
                       have c35b1 : (a1 != 27) = true := bne_iff_ne.mpr c35
                       by_cases c36 : a1 = 29
                       ·rw [if_pos c36] at H
                        have c36b0 : (a1 == 29) = true := beq_iff_eq.mpr c36
                        have c36b1 : (a1 != 29) = false := bne_eq_false_iff_eq.mpr c36
                        clear c36
                        obtain rfl := Option.some.inj H
                        go_wp2
                        go_ret
                        exact ⟨rfl, by repeat (first | exact Drawn0.refl _ | apply Drawn0.step)⟩
                       ·rw [if_neg c36] at H
                        have c36b0 : (a1 == 29) = false := beq_eq_false_iff_ne.mpr c36
                        have c36b1 : (a1 != 29) = true := bne_iff_ne.mpr c36
                        by_cases c37 : a1 = 30
                        ·rw [if_pos c37] at H
                         have c37b0 : (a1 == 30) = true := beq_iff_eq.mpr c37
                         have c37b1 : (a1 != 30) = false := bne_eq_false_iff_eq.mpr c37
                         clear c37
                         obtain rfl := Option.some.inj H
                         go_wp2
                         go_ret
                         exact ⟨rfl, by repeat (first | exact Drawn0.refl _ | apply Drawn0.step)⟩
                        ·rw [if_neg c37] at H
                         have c37b0 : (a1 == 30) = false := beq_eq_false_iff_ne.mpr c37
                         have c37b1 : (a1 != 30) = true := bne_iff_ne.mpr c37
                         by_cases c38 : a1 = 41
                         ·rw [if_pos c38] at H
                          have c38b0 : (a1 == 41) = true := beq_iff_eq.mpr c38
                          have c38b1 : (a1 != 41) = false := bne_eq_false_iff_eq.mpr c38
                          clear c38
                          obtain rfl := Option.some.inj H
                          go_wp2
                          go_ret
                          exact ⟨rfl, by repeat (first | exact Drawn0.refl _ | apply Drawn0.step)⟩
                         ·rw [if_neg c38] at H
                          have c38b0 : (a1 == 41) = false := beq_eq_false_iff_ne.mpr c38
                          have c38b1 : (a1 != 41) = true := bne_iff_ne.mpr c38
                          by_cases c39 : a1 = 43
                          ·rw [if_pos c39] at H
                           have c39b0 : (a1 == 43) = true := beq_iff_eq.mpr c39
                           have c39b1 : (a1 != 43) = false := bne_eq_false_iff_eq.mpr c39
                           clear c39
                           obtain rfl := Option.some.inj H
                           go_wp2
                           go_ret
                           exact ⟨rfl, by repeat (first | exact Drawn0.refl _ | apply Drawn0.step)⟩
                          ·rw [if_neg c39] at H
                           have c39b0 : (a1 == 43) = false := beq_eq_false_iff_ne.mpr c39
                           have c39b1 : (a1 != 43) = true := bne_iff_ne.mpr c39
                           by_cases c40 : a1 = 46
                           ·rw [if_pos c40] at H
                            have c40b0 : (a1 == 46) = true := beq_iff_eq.mpr c40
                            have c40b1 : (a1 != 46) = false := bne_eq_false_iff_eq.mpr c40
                            clear c40
                            obtain rfl := Option.some.inj H
                            go_wp2
                            go_ret
                            exact ⟨rfl, by repeat (first | exact Drawn0.refl _ | apply Drawn0.step)⟩
                           ·rw [if_neg c40] at H
                            have c40b0 : (a1 == 46) = false := beq_eq_false_iff_ne.mpr c40
                            have c40b1 : (a1 != 46) = true := bne_iff_ne.mpr c40
                            by_cases c41 : a1 = 53
                            ·rw [if_pos c41] at H
                             have c41b0 : (a1 == 53) = true := beq_iff_eq.mpr c41
                             have c41b1 : (a1 != 53) = false := bne_eq_false_iff_eq.mpr c41
                             clear c41
                             obtain rfl := Option.some.inj H
                             go_wp2
                             go_ret
                             exact ⟨rfl, by repeat (first | exact Drawn0.refl _ | apply Drawn0.step)⟩
                            ·rw [if_neg c41] at H
                             have c41b0 : (a1 == 53) = false := beq_eq_false_iff_ne.mpr c41
                             have c41b1 : (a1 != 53) = true := bne_iff_ne.mpr c41
                             obtain rfl := Option.some.inj H
                             go_wp2
                             go_ret
                             exact ⟨rfl, by repeat (first | exact Drawn0.refl _ | apply Drawn0.step)⟩
end Go.Proofs.Ytfjkclhkobnakaa.P
