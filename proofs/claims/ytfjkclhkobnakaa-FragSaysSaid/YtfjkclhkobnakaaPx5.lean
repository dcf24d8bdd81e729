/- Written by a program of this session: the functions that the laws reach, what each comes to, and each law as it is stated, for every input. No condition. -/
import Derived.Test.YtfjkclhkobnakaaPx0
namespace Go.Proofs.Ytfjkclhkobnakaa.P
open Go.RowKit Go.Proofs.YtfjkclhkobnakaaW.PrintWords Go.Proofs.YtfjkclhkobnakaaW.PrintLast Go.Proofs.YtfjkclhkobnakaaW.PrintMore
attribute [local go_sem] max2_int min2_int max_two min_two max_three min_three max_four min_four   -- for this text's walks alone
set_option linter.unusedVariables false
set_option linter.unusedSimpArgs false

/-! ### frag_Says: function 11 -/
def frag_Says.j0 : Nat → Int → Int → Bool → Option (Bool)
  | 0, _, _, _ => none
  | k + 1, x0, x1, x5 => if x5 = true then (some false) else (if x0 = 0 then (if x1 = 17 then (some false) else (if x1 = 18 then (some false) else (some (x1 != 53)))) else (if x0 = 1 then (if x1 = 47 then (some false) else (if x1 = 51 then (some false) else (some (x1 != 53)))) else (if x1 = 1 then (some true) else (if x1 = 4 then (some true) else (if x1 = 5 then (some true) else (if x1 = 6 then (some true) else (if x1 = 7 then (some true) else (if x1 = 9 then (some true) else (if x1 = 12 then (some true) else (if x1 = 13 then (some true) else (if x1 = 14 then (some true) else (if x1 = 17 then (some true) else (if x1 = 18 then (some true) else (if x1 = 21 then (some true) else (if x1 = 22 then (some true) else (if x1 = 23 then (some true) else (if x1 = 24 then (some true) else (if x1 = 25 then (some true) else (if x1 = 27 then (some true) else (if x1 = 29 then (some true) else (if x1 = 30 then (some true) else (if x1 = 41 then (some true) else (if x1 = 43 then (some true) else (if x1 = 46 then (some true) else (if x1 = 53 then (some true) else (some false))))))))))))))))))))))))))
def frag_Says.f (k : Nat) (a0 : Int) (a1 : Int) : Option (Bool) := if a1 = 19 then (frag_Says.j0 k a0 a1 true) else (if a1 = 54 then (frag_Says.j0 k a0 a1 true) else (if a1 < 1 then (frag_Says.j0 k a0 a1 true) else (if a1 > 54 then (frag_Says.j0 k a0 a1 true) else (if a1 > 18 then (if a1 < 21 then (frag_Says.j0 k a0 a1 true) else (if a1 > 32 then (frag_Says.j0 k a0 a1 (decide (a1 < 41))) else (frag_Says.j0 k a0 a1 false))) else (if a1 > 32 then (frag_Says.j0 k a0 a1 (decide (a1 < 41))) else (frag_Says.j0 k a0 a1 false))))))
theorem frag_Says.mono_l : ∀ k, (∀ y0 y1 y2, LeO (frag_Says.j0 k y0 y1 y2) (frag_Says.j0 (k + 1) y0 y1 y2))
  | 0 => fun _ _ _ r h => by simp [frag_Says.j0] at h
  | k + 1 => by
    have ih0 := frag_Says.mono_l k
    · intro y0 y1 y2
      unfold frag_Says.j0
      repeat' first
      | (with_reducible exact ih0 _ _ _)
      | (with_reducible exact LeO.refl _)
      | (with_reducible exact LeO.none _)
      | (with_reducible refine LeO.ite ?_ ?_)
      | (with_reducible refine LeO.bind ?_ (fun _ => ?_))
      | exact ih0 _ _ _
      | exact LeO.none _
      | refine LeO.ite ?_ ?_
      | refine LeO.bind ?_ (fun _ => ?_)
theorem frag_Says.mono : ∀ a0 a1 k, LeO (frag_Says.f k a0 a1) (frag_Says.f (k + 1) a0 a1) := by
  intro a0 a1 k
  have ih0 := frag_Says.mono_l k
  unfold frag_Says.f
  repeat' first
      | (with_reducible exact ih0 _ _ _)
      | (with_reducible exact LeO.refl _)
      | (with_reducible exact LeO.none _)
      | (with_reducible refine LeO.ite ?_ ?_)
      | (with_reducible refine LeO.bind ?_ (fun _ => ?_))
      | exact ih0 _ _ _
      | exact LeO.none _
      | refine LeO.ite ?_ ?_
      | refine LeO.bind ?_ (fun _ => ?_)
set_option maxHeartbeats 8000000 in
set_option maxRecDepth 100000 in
theorem frag_Says.calls (k : Nat) (a0 : Int) (a1 : Int) (r : Bool) (w : World) (h : frag_Says.f k a0 a1 = some r) :
    Calls Try.prog 11 #[.int .i64 a0, .int .i64 a1] w fun e w' => e = .returned (.bool r) ∧ Drawn0 w w' := by
  have H : (if a1 = 19 then (frag_Says.j0 k a0 a1 true) else (if a1 = 54 then (frag_Says.j0 k a0 a1 true) else (if a1 < 1 then (frag_Says.j0 k a0 a1 true) else (if a1 > 54 then (frag_Says.j0 k a0 a1 true) else (if a1 > 18 then (if a1 < 21 then (frag_Says.j0 k a0 a1 true) else (if a1 > 32 then (frag_Says.j0 k a0 a1 (decide (a1 < 41))) else (frag_Says.j0 k a0 a1 false))) else (if a1 > 32 then (frag_Says.j0 k a0 a1 (decide (a1 < 41))) else (frag_Says.j0 k a0 a1 false))))))) = some r := h
  clear h
  have HC3 := Aside0.mk H
  clear H
  go_enter Try.func11, Try.ntmps11
  go_upto_region 1 with (fail)
  go_cut [5] (fun v5 wc => ∃ (kq : Nat) (x5_2 : Bool), v5 = .bool x5_2 ∧ Aside0 (frag_Says.j0 kq a0 a1 x5_2 = some r) ∧ Aside0 (kq ≤ k) ∧ Drawn0 w wc)
  case first =>
    have H := HC3.out; clear HC3
    by_cases c4 : a1 = 19
    · rw [if_pos c4] at H
      have c4b0 : (a1 == 19) = true := beq_iff_eq.mpr c4
      have c4b1 : (a1 != 19) = false := bne_eq_false_iff_eq.mpr c4
      clear c4
      (first | rw [c4b0] | (simp only [i64_w, i32_w]; rw [c4b0]) | skip)
      have H' := Aside0.mk H
      clear H
      go_wp2
      all_goals (go_meet; (case rel => exact ⟨_, (true), (by first | rfl | (simp; done) | (simp [*]; done) | (exfalso; simp_all; done) | (exfalso; simp_all; omega)), H', ⟨by first | omega | exact Nat.le_refl _⟩, by repeat (first | exact Drawn0.refl _ | apply Drawn0.step)⟩))
    · rw [if_neg c4] at H
      have c4b0 : (a1 == 19) = false := beq_eq_false_iff_ne.mpr c4
      have c4b1 : (a1 != 19) = true := bne_iff_ne.mpr c4
      (first | rw [c4b0] | (simp only [i64_w, i32_w]; rw [c4b0]) | skip)
      by_cases c5 : a1 = 54
      · rw [if_pos c5] at H
        have c5b0 : (a1 == 54) = true := beq_iff_eq.mpr c5
        have c5b1 : (a1 != 54) = false := bne_eq_false_iff_eq.mpr c5
        clear c5
        have H' := Aside0.mk H
        clear H
        go_wp2
        all_goals (go_meet; (case rel => exact ⟨_, (true), (by first | rfl | (simp; done) | (simp [*]; done) | (exfalso; simp_all; done) | (exfalso; simp_all; omega)), H', ⟨by first | omega | exact Nat.le_refl _⟩, by repeat (first | exact Drawn0.refl _ | apply Drawn0.step)⟩))
      · rw [if_neg c5] at H
        have c5b0 : (a1 == 54) = false := beq_eq_false_iff_ne.mpr c5
        have c5b1 : (a1 != 54) = true := bne_iff_ne.mpr c5
        by_cases c6 : a1 < 1
        · rw [if_pos c6] at H
          have c6b0 : decide (a1 < 1) = true := decide_eq_true c6
          clear c6
          have H' := Aside0.mk H
          clear H
          go_wp2
          all_goals (go_meet; (case rel => exact ⟨_, (true), (by first | rfl | (simp; done) | (simp [*]; done) | (exfalso; simp_all; done) | (exfalso; simp_all; omega)), H', ⟨by first | omega | exact Nat.le_refl _⟩, by repeat (first | exact Drawn0.refl _ | apply Drawn0.step)⟩))
        · rw [if_neg c6] at H
          have c6b0 : decide (a1 < 1) = false := decide_eq_false c6
          clear c6
          by_cases c7 : a1 > 54
          · rw [if_pos c7] at H
            have c7b0 : decide (54 < a1) = true := decide_eq_true c7
            clear c7
            have H' := Aside0.mk H
            clear H
            go_wp2
            all_goals (go_meet; (case rel => exact ⟨_, (true), (by first | rfl | (simp; done) | (simp [*]; done) | (exfalso; simp_all; done) | (exfalso; simp_all; omega)), H', ⟨by first | omega | exact Nat.le_refl _⟩, by repeat (first | exact Drawn0.refl _ | apply Drawn0.step)⟩))
          · rw [if_neg c7] at H
            have c7b0 : decide (54 < a1) = false := decide_eq_false c7
            clear c7
            by_cases c8 : a1 > 18
            · rw [if_pos c8] at H
              have c8b0 : decide (18 < a1) = true := decide_eq_true c8
              clear c8
              by_cases c9 : a1 < 21
              · rw [if_pos c9] at H
                have c9b0 : decide (a1 < 21) = true := decide_eq_true c9
                clear c9
                have H' := Aside0.mk H
                clear H
                go_wp2
                all_goals (go_meet; (case rel => exact ⟨_, (true), (by first | rfl | (simp; done) | (simp [*]; done) | (exfalso; simp_all; done) | (exfalso; simp_all; omega)), H', ⟨by first | omega | exact Nat.le_refl _⟩, by repeat (first | exact Drawn0.refl _ | apply Drawn0.step)⟩))
              · rw [if_neg c9] at H
                have c9b0 : decide (a1 < 21) = false := decide_eq_false c9
                clear c9
                by_cases c10 : a1 > 32
                · rw [if_pos c10] at H
                  have c10b0 : decide (32 < a1) = true := decide_eq_true c10
                  clear c10
                  have H' := Aside0.mk H
                  clear H
                  go_wp2
                  all_goals (go_meet; (case rel => exact ⟨_, (decide (a1 < 41)), (by first | rfl | (simp; done) | (simp [*]; done) | (exfalso; simp_all; done) | (exfalso; simp_all; omega)), H', ⟨by first | omega | exact Nat.le_refl _⟩, by repeat (first | exact Drawn0.refl _ | apply Drawn0.step)⟩))
                · rw [if_neg c10] at H
                  have c10b0 : decide (32 < a1) = false := decide_eq_false c10
                  clear c10
                  have H' := Aside0.mk H
                  clear H
                  go_wp2
                  all_goals (go_meet; (case rel => exact ⟨_, (false), (by first | rfl | (simp; done) | (simp [*]; done) | (exfalso; simp_all; done) | (exfalso; simp_all; omega)), H', ⟨by first | omega | exact Nat.le_refl _⟩, by repeat (first | exact Drawn0.refl _ | apply Drawn0.step)⟩))
            · rw [if_neg c8] at H
              have c8b0 : decide (18 < a1) = false := decide_eq_false c8
              clear c8
              by_cases c11 : a1 > 32
              · rw [if_pos c11] at H
                have c11b0 : decide (32 < a1) = true := decide_eq_true c11
                clear c11
                have H' := Aside0.mk H
                clear H
                go_wp2
                all_goals (go_meet; (case rel => exact ⟨_, (decide (a1 < 41)), (by first | rfl | (simp; done) | (simp [*]; done) | (exfalso; simp_all; done) | (exfalso; simp_all; omega)), H', ⟨by first | omega | exact Nat.le_refl _⟩, by repeat (first | exact Drawn0.refl _ | apply Drawn0.step)⟩))
              · rw [if_neg c11] at H
                have c11b0 : decide (32 < a1) = false := decide_eq_false c11
                clear c11
                have H' := Aside0.mk H
                clear H
                go_wp2
                all_goals (go_meet; (case rel => exact ⟨_, (false), (by first | rfl | (simp; done) | (simp [*]; done) | (exfalso; simp_all; done) | (exfalso; simp_all; omega)), H', ⟨by first | omega | exact Nat.le_refl _⟩, by repeat (first | exact Drawn0.refl _ | apply Drawn0.step)⟩))
  case rest =>
    clear HC3
    try clear c1
    try clear p2
    try clear c4
    try clear c4b0
    try clear c4b1
    try clear c5
    try clear c5b0
    try clear c5b1
    try clear c6
    try clear c6b0
    try clear c7
    try clear c7b0
    try clear c8
    try clear c8b0
    try clear c9
    try clear c9b0
    try clear c10
    try clear c10b0
    try clear c11
    try clear c11b0
    obtain ⟨kq, x5_2, rfl, HA, HJ2, ⟨mc2, rfl⟩⟩ := hcut
    cases kq with
    | zero => exact absurd HA.out (by simp [frag_Says.j0])
    | succ kj2 =>
      have H := HA.out; clear HA
      simp only [frag_Says.j0] at H
      by_cases c12 : x5_2 = true
      · subst c12
        have H1 : (some false) = some r := by rw [if_pos rfl] at H; exact H
        clear H; have H := H1; clear H1
        obtain rfl := Option.some.inj H
        go_wp2
        go_ret
        exact ⟨by first | rfl | (simp; done) | (simp [*]; done), by repeat (first | exact Drawn0.refl _ | apply Drawn0.step)⟩
      · replace c12 := Bool.eq_false_iff.mpr c12
        subst c12
        have H1 : (if a0 = 0 then (if a1 = 17 then (some false) else (if a1 = 18 then (some false) else (some (a1 != 53)))) else (if a0 = 1 then (if a1 = 47 then (some false) else (if a1 = 51 then (some false) else (some (a1 != 53)))) else (if a1 = 1 then (some true) else (if a1 = 4 then (some true) else (if a1 = 5 then (some true) else (if a1 = 6 then (some true) else (if a1 = 7 then (some true) else (if a1 = 9 then (some true) else (if a1 = 12 then (some true) else (if a1 = 13 then (some true) else (if a1 = 14 then (some true) else (if a1 = 17 then (some true) else (if a1 = 18 then (some true) else (if a1 = 21 then (some true) else (if a1 = 22 then (some true) else (if a1 = 23 then (some true) else (if a1 = 24 then (some true) else (if a1 = 25 then (some true) else (if a1 = 27 then (some true) else (if a1 = 29 then (some true) else (if a1 = 30 then (some true) else (if a1 = 41 then (some true) else (if a1 = 43 then (some true) else (if a1 = 46 then (some true) else (if a1 = 53 then (some true) else (some false)))))))))))))))))))))))))) = some r := by rw [if_neg (show ¬ (false = true) by decide)] at H; exact H
        clear H; have H := H1; clear H1
        by_cases c13 : a0 = 0
        · rw [if_pos c13] at H
          have c13b0 : (a0 == 0) = true := beq_iff_eq.mpr c13
          have c13b1 : (a0 != 0) = false := bne_eq_false_iff_eq.mpr c13
          clear c13
          by_cases c14 : a1 = 17
          · rw [if_pos c14] at H
            have c14b0 : (a1 == 17) = true := beq_iff_eq.mpr c14
            have c14b1 : (a1 != 17) = false := bne_eq_false_iff_eq.mpr c14
            clear c14
            obtain rfl := Option.some.inj H
            go_wp2
            go_ret
            exact ⟨by first | rfl | (simp; done) | (simp [*]; done), by repeat (first | exact Drawn0.refl _ | apply Drawn0.step)⟩
          · rw [if_neg c14] at H
            have c14b0 : (a1 == 17) = false := beq_eq_false_iff_ne.mpr c14
            have c14b1 : (a1 != 17) = true := bne_iff_ne.mpr c14
            by_cases c15 : a1 = 18
            · rw [if_pos c15] at H
              have c15b0 : (a1 == 18) = true := beq_iff_eq.mpr c15
              have c15b1 : (a1 != 18) = false := bne_eq_false_iff_eq.mpr c15
              clear c15
              obtain rfl := Option.some.inj H
              go_wp2
              go_ret
              exact ⟨by first | rfl | (simp; done) | (simp [*]; done), by repeat (first | exact Drawn0.refl _ | apply Drawn0.step)⟩
            · rw [if_neg c15] at H
              have c15b0 : (a1 == 18) = false := beq_eq_false_iff_ne.mpr c15
              have c15b1 : (a1 != 18) = true := bne_iff_ne.mpr c15
              obtain rfl := Option.some.inj H
              go_wp2
              go_ret
              exact ⟨by first | rfl | (simp; done) | (simp [*]; done), by repeat (first | exact Drawn0.refl _ | apply Drawn0.step)⟩
        · rw [if_neg c13] at H
          have c13b0 : (a0 == 0) = false := beq_eq_false_iff_ne.mpr c13
          have c13b1 : (a0 != 0) = true := bne_iff_ne.mpr c13
          by_cases c16 : a0 = 1
          · rw [if_pos c16] at H
            have c16b0 : (a0 == 1) = true := beq_iff_eq.mpr c16
            have c16b1 : (a0 != 1) = false := bne_eq_false_iff_eq.mpr c16
            clear c16
            by_cases c17 : a1 = 47
            · rw [if_pos c17] at H
              have c17b0 : (a1 == 47) = true := beq_iff_eq.mpr c17
              have c17b1 : (a1 != 47) = false := bne_eq_false_iff_eq.mpr c17
              clear c17
              obtain rfl := Option.some.inj H
              go_wp2
              go_ret
              exact ⟨by first | rfl | (simp; done) | (simp [*]; done), by repeat (first | exact Drawn0.refl _ | apply Drawn0.step)⟩
            · rw [if_neg c17] at H
              have c17b0 : (a1 == 47) = false := beq_eq_false_iff_ne.mpr c17
              have c17b1 : (a1 != 47) = true := bne_iff_ne.mpr c17
              by_cases c18 : a1 = 51
              · rw [if_pos c18] at H
                have c18b0 : (a1 == 51) = true := beq_iff_eq.mpr c18
                have c18b1 : (a1 != 51) = false := bne_eq_false_iff_eq.mpr c18
                clear c18
                obtain rfl := Option.some.inj H
                go_wp2
                go_ret
                exact ⟨by first | rfl | (simp; done) | (simp [*]; done), by repeat (first | exact Drawn0.refl _ | apply Drawn0.step)⟩
              · rw [if_neg c18] at H
                have c18b0 : (a1 == 51) = false := beq_eq_false_iff_ne.mpr c18
                have c18b1 : (a1 != 51) = true := bne_iff_ne.mpr c18
                obtain rfl := Option.some.inj H
                go_wp2
                go_ret
                exact ⟨by first | rfl | (simp; done) | (simp [*]; done), by repeat (first | exact Drawn0.refl _ | apply Drawn0.step)⟩
          · rw [if_neg c16] at H
            have c16b0 : (a0 == 1) = false := beq_eq_false_iff_ne.mpr c16
            have c16b1 : (a0 != 1) = true := bne_iff_ne.mpr c16
            by_cases c19 : a1 = 1
            · rw [if_pos c19] at H
              have c19b0 : (a1 == 1) = true := beq_iff_eq.mpr c19
              have c19b1 : (a1 != 1) = false := bne_eq_false_iff_eq.mpr c19
              clear c19
              obtain rfl := Option.some.inj H
              go_wp2
              go_ret
              exact ⟨by first | rfl | (simp; done) | (simp [*]; done), by repeat (first | exact Drawn0.refl _ | apply Drawn0.step)⟩
            · rw [if_neg c19] at H
              have c19b0 : (a1 == 1) = false := beq_eq_false_iff_ne.mpr c19
              have c19b1 : (a1 != 1) = true := bne_iff_ne.mpr c19
              by_cases c20 : a1 = 4
              · rw [if_pos c20] at H
                have c20b0 : (a1 == 4) = true := beq_iff_eq.mpr c20
                have c20b1 : (a1 != 4) = false := bne_eq_false_iff_eq.mpr c20
                clear c20
                obtain rfl := Option.some.inj H
                go_wp2
                go_ret
                exact ⟨by first | rfl | (simp; done) | (simp [*]; done), by repeat (first | exact Drawn0.refl _ | apply Drawn0.step)⟩
              · rw [if_neg c20] at H
                have c20b0 : (a1 == 4) = false := beq_eq_false_iff_ne.mpr c20
                have c20b1 : (a1 != 4) = true := bne_iff_ne.mpr c20
                by_cases c21 : a1 = 5
                · rw [if_pos c21] at H
                  have c21b0 : (a1 == 5) = true := beq_iff_eq.mpr c21
                  have c21b1 : (a1 != 5) = false := bne_eq_false_iff_eq.mpr c21
                  clear c21
                  obtain rfl := Option.some.inj H
                  go_wp2
                  go_ret
                  exact ⟨by first | rfl | (simp; done) | (simp [*]; done), by repeat (first | exact Drawn0.refl _ | apply Drawn0.step)⟩
                · rw [if_neg c21] at H
                  have c21b0 : (a1 == 5) = false := beq_eq_false_iff_ne.mpr c21
                  have c21b1 : (a1 != 5) = true := bne_iff_ne.mpr c21
                  by_cases c22 : a1 = 6
                  · rw [if_pos c22] at H
                    have c22b0 : (a1 == 6) = true := beq_iff_eq.mpr c22
                    have c22b1 : (a1 != 6) = false := bne_eq_false_iff_eq.mpr c22
                    clear c22
                    obtain rfl := Option.some.inj H
                    go_wp2
                    go_ret
                    exact ⟨by first | rfl | (simp; done) | (simp [*]; done), by repeat (first | exact Drawn0.refl _ | apply Drawn0.step)⟩
                  · rw [if_neg c22] at H
                    have c22b0 : (a1 == 6) = false := beq_eq_false_iff_ne.mpr c22
                    have c22b1 : (a1 != 6) = true := bne_iff_ne.mpr c22
                    by_cases c23 : a1 = 7
                    · rw [if_pos c23] at H
                      have c23b0 : (a1 == 7) = true := beq_iff_eq.mpr c23
                      have c23b1 : (a1 != 7) = false := bne_eq_false_iff_eq.mpr c23
                      clear c23
                      obtain rfl := Option.some.inj H
                      go_wp2
                      go_ret
                      exact ⟨by first | rfl | (simp; done) | (simp [*]; done), by repeat (first | exact Drawn0.refl _ | apply Drawn0.step)⟩
                    · rw [if_neg c23] at H
                      have c23b0 : (a1 == 7) = false := beq_eq_false_iff_ne.mpr c23
                      have c23b1 : (a1 != 7) = true := bne_iff_ne.mpr c23
                      by_cases c24 : a1 = 9
                      · rw [if_pos c24] at H
                        have c24b0 : (a1 == 9) = true := beq_iff_eq.mpr c24
                        have c24b1 : (a1 != 9) = false := bne_eq_false_iff_eq.mpr c24
                        clear c24
                        obtain rfl := Option.some.inj H
                        go_wp2
                        go_ret
                        exact ⟨by first | rfl | (simp; done) | (simp [*]; done), by repeat (first | exact Drawn0.refl _ | apply Drawn0.step)⟩
                      · rw [if_neg c24] at H
                        have c24b0 : (a1 == 9) = false := beq_eq_false_iff_ne.mpr c24
                        have c24b1 : (a1 != 9) = true := bne_iff_ne.mpr c24
                        by_cases c25 : a1 = 12
                        · rw [if_pos c25] at H
                          have c25b0 : (a1 == 12) = true := beq_iff_eq.mpr c25
                          have c25b1 : (a1 != 12) = false := bne_eq_false_iff_eq.mpr c25
                          clear c25
                          obtain rfl := Option.some.inj H
                          go_wp2
                          go_ret
                          exact ⟨by first | rfl | (simp; done) | (simp [*]; done), by repeat (first | exact Drawn0.refl _ | apply Drawn0.step)⟩
                        · rw [if_neg c25] at H
                          have c25b0 : (a1 == 12) = false := beq_eq_false_iff_ne.mpr c25
                          have c25b1 : (a1 != 12) = true := bne_iff_ne.mpr c25
                          by_cases c26 : a1 = 13
                          · rw [if_pos c26] at H
                            have c26b0 : (a1 == 13) = true := beq_iff_eq.mpr c26
                            have c26b1 : (a1 != 13) = false := bne_eq_false_iff_eq.mpr c26
                            clear c26
                            obtain rfl := Option.some.inj H
                            go_wp2
                            go_ret
                            exact ⟨by first | rfl | (simp; done) | (simp [*]; done), by repeat (first | exact Drawn0.refl _ | apply Drawn0.step)⟩
                          · rw [if_neg c26] at H
                            have c26b0 : (a1 == 13) = false := beq_eq_false_iff_ne.mpr c26
                            have c26b1 : (a1 != 13) = true := bne_iff_ne.mpr c26
                            by_cases c27 : a1 = 14
                            · rw [if_pos c27] at H
                              have c27b0 : (a1 == 14) = true := beq_iff_eq.mpr c27
                              have c27b1 : (a1 != 14) = false := bne_eq_false_iff_eq.mpr c27
                              clear c27
                              obtain rfl := Option.some.inj H
                              go_wp2
                              go_ret
                              exact ⟨by first | rfl | (simp; done) | (simp [*]; done), by repeat (first | exact Drawn0.refl _ | apply Drawn0.step)⟩
                            · rw [if_neg c27] at H
                              have c27b0 : (a1 == 14) = false := beq_eq_false_iff_ne.mpr c27
                              have c27b1 : (a1 != 14) = true := bne_iff_ne.mpr c27
                              by_cases c28 : a1 = 17
                              · rw [if_pos c28] at H
                                have c28b0 : (a1 == 17) = true := beq_iff_eq.mpr c28
                                have c28b1 : (a1 != 17) = false := bne_eq_false_iff_eq.mpr c28
                                clear c28
                                obtain rfl := Option.some.inj H
                                go_wp2
                                go_ret
                                exact ⟨by first | rfl | (simp; done) | (simp [*]; done), by repeat (first | exact Drawn0.refl _ | apply Drawn0.step)⟩
                              · rw [if_neg c28] at H
                                have c28b0 : (a1 == 17) = false := beq_eq_false_iff_ne.mpr c28
                                have c28b1 : (a1 != 17) = true := bne_iff_ne.mpr c28
                                by_cases c29 : a1 = 18
                                · rw [if_pos c29] at H
                                  have c29b0 : (a1 == 18) = true := beq_iff_eq.mpr c29
                                  have c29b1 : (a1 != 18) = false := bne_eq_false_iff_eq.mpr c29
                                  clear c29
                                  obtain rfl := Option.some.inj H
                                  go_wp2
                                  go_ret
                                  exact ⟨by first | rfl | (simp; done) | (simp [*]; done), by repeat (first | exact Drawn0.refl _ | apply Drawn0.step)⟩
                                · rw [if_neg c29] at H
                                  have c29b0 : (a1 == 18) = false := beq_eq_false_iff_ne.mpr c29
                                  have c29b1 : (a1 != 18) = true := bne_iff_ne.mpr c29
                                  by_cases c30 : a1 = 21
                                  · rw [if_pos c30] at H
                                    have c30b0 : (a1 == 21) = true := beq_iff_eq.mpr c30
                                    have c30b1 : (a1 != 21) = false := bne_eq_false_iff_eq.mpr c30
                                    clear c30
                                    obtain rfl := Option.some.inj H
                                    go_wp2
                                    go_ret
                                    exact ⟨by first | rfl | (simp; done) | (simp [*]; done), by repeat (first | exact Drawn0.refl _ | apply Drawn0.step)⟩
                                  · rw [if_neg c30] at H
                                    have c30b0 : (a1 == 21) = false := beq_eq_false_iff_ne.mpr c30
                                    have c30b1 : (a1 != 21) = true := bne_iff_ne.mpr c30
                                    by_cases c31 : a1 = 22
                                    · rw [if_pos c31] at H
                                      have c31b0 : (a1 == 22) = true := beq_iff_eq.mpr c31
                                      have c31b1 : (a1 != 22) = false := bne_eq_false_iff_eq.mpr c31
                                      clear c31
                                      obtain rfl := Option.some.inj H
                                      go_wp2
                                      go_ret
                                      exact ⟨by first | rfl | (simp; done) | (simp [*]; done), by repeat (first | exact Drawn0.refl _ | apply Drawn0.step)⟩
                                    · rw [if_neg c31] at H
                                      have c31b0 : (a1 == 22) = false := beq_eq_false_iff_ne.mpr c31
                                      have c31b1 : (a1 != 22) = true := bne_iff_ne.mpr c31
                                      by_cases c32 : a1 = 23
                                      · rw [if_pos c32] at H
                                        have c32b0 : (a1 == 23) = true := beq_iff_eq.mpr c32
                                        have c32b1 : (a1 != 23) = false := bne_eq_false_iff_eq.mpr c32
                                        clear c32
                                        obtain rfl := Option.some.inj H
                                        go_wp2
                                        go_ret
                                        exact ⟨by first | rfl | (simp; done) | (simp [*]; done), by repeat (first | exact Drawn0.refl _ | apply Drawn0.step)⟩
                                      · rw [if_neg c32] at H
                                        have c32b0 : (a1 == 23) = false := beq_eq_false_iff_ne.mpr c32
                                        have c32b1 : (a1 != 23) = true := bne_iff_ne.mpr c32
                                        by_cases c33 : a1 = 24
                                        · rw [if_pos c33] at H
                                          have c33b0 : (a1 == 24) = true := beq_iff_eq.mpr c33
                                          have c33b1 : (a1 != 24) = false := bne_eq_false_iff_eq.mpr c33
                                          clear c33
                                          obtain rfl := Option.some.inj H
                                          go_wp2
                                          go_ret
                                          exact ⟨by first | rfl | (simp; done) | (simp [*]; done), by repeat (first | exact Drawn0.refl _ | apply Drawn0.step)⟩
                                        · rw [if_neg c33] at H
                                          have c33b0 : (a1 == 24) = false := beq_eq_false_iff_ne.mpr c33
                                          have c33b1 : (a1 != 24) = true := bne_iff_ne.mpr c33
                                          by_cases c34 : a1 = 25
                                          · rw [if_pos c34] at H
                                            have c34b0 : (a1 == 25) = true := beq_iff_eq.mpr c34
                                            have c34b1 : (a1 != 25) = false := bne_eq_false_iff_eq.mpr c34
                                            clear c34
                                            obtain rfl := Option.some.inj H
                                            go_wp2
                                            go_ret
                                            exact ⟨by first | rfl | (simp; done) | (simp [*]; done), by repeat (first | exact Drawn0.refl _ | apply Drawn0.step)⟩
                                          · rw [if_neg c34] at H
                                            have c34b0 : (a1 == 25) = false := beq_eq_false_iff_ne.mpr c34
                                            have c34b1 : (a1 != 25) = true := bne_iff_ne.mpr c34
                                            by_cases c35 : a1 = 27
                                            · rw [if_pos c35] at H
                                              have c35b0 : (a1 == 27) = true := beq_iff_eq.mpr c35
                                              have c35b1 : (a1 != 27) = false := bne_eq_false_iff_eq.mpr c35
                                              clear c35
                                              obtain rfl := Option.some.inj H
                                              go_wp2
                                              go_ret
                                              exact ⟨by first | rfl | (simp; done) | (simp [*]; done), by repeat (first | exact Drawn0.refl _ | apply Drawn0.step)⟩
                                            · rw [if_neg c35] at H
                                              have c35b0 : (a1 == 27) = false := beq_eq_false_iff_ne.mpr c35
                                              have c35b1 : (a1 != 27) = true := bne_iff_ne.mpr c35
                                              by_cases c36 : a1 = 29
                                              · rw [if_pos c36] at H
                                                have c36b0 : (a1 == 29) = true := beq_iff_eq.mpr c36
                                                have c36b1 : (a1 != 29) = false := bne_eq_false_iff_eq.mpr c36
                                                clear c36
                                                obtain rfl := Option.some.inj H
                                                go_wp2
                                                go_ret
                                                exact ⟨by first | rfl | (simp; done) | (simp [*]; done), by repeat (first | exact Drawn0.refl _ | apply Drawn0.step)⟩
                                              · rw [if_neg c36] at H
                                                have c36b0 : (a1 == 29) = false := beq_eq_false_iff_ne.mpr c36
                                                have c36b1 : (a1 != 29) = true := bne_iff_ne.mpr c36
                                                by_cases c37 : a1 = 30
                                                · rw [if_pos c37] at H
                                                  have c37b0 : (a1 == 30) = true := beq_iff_eq.mpr c37
                                                  have c37b1 : (a1 != 30) = false := bne_eq_false_iff_eq.mpr c37
                                                  clear c37
                                                  obtain rfl := Option.some.inj H
                                                  go_wp2
                                                  go_ret
                                                  exact ⟨by first | rfl | (simp; done) | (simp [*]; done), by repeat (first | exact Drawn0.refl _ | apply Drawn0.step)⟩
                                                · rw [if_neg c37] at H
                                                  have c37b0 : (a1 == 30) = false := beq_eq_false_iff_ne.mpr c37
                                                  have c37b1 : (a1 != 30) = true := bne_iff_ne.mpr c37
                                                  by_cases c38 : a1 = 41
                                                  · rw [if_pos c38] at H
                                                    have c38b0 : (a1 == 41) = true := beq_iff_eq.mpr c38
                                                    have c38b1 : (a1 != 41) = false := bne_eq_false_iff_eq.mpr c38
                                                    clear c38
                                                    obtain rfl := Option.some.inj H
                                                    go_wp2
                                                    go_ret
                                                    exact ⟨by first | rfl | (simp; done) | (simp [*]; done), by repeat (first | exact Drawn0.refl _ | apply Drawn0.step)⟩
                                                  · rw [if_neg c38] at H
                                                    have c38b0 : (a1 == 41) = false := beq_eq_false_iff_ne.mpr c38
                                                    have c38b1 : (a1 != 41) = true := bne_iff_ne.mpr c38
                                                    by_cases c39 : a1 = 43
                                                    · rw [if_pos c39] at H
                                                      have c39b0 : (a1 == 43) = true := beq_iff_eq.mpr c39
                                                      have c39b1 : (a1 != 43) = false := bne_eq_false_iff_eq.mpr c39
                                                      clear c39
                                                      obtain rfl := Option.some.inj H
                                                      go_wp2
                                                      go_ret
                                                      exact ⟨by first | rfl | (simp; done) | (simp [*]; done), by repeat (first | exact Drawn0.refl _ | apply Drawn0.step)⟩
                                                    · rw [if_neg c39] at H
                                                      have c39b0 : (a1 == 43) = false := beq_eq_false_iff_ne.mpr c39
                                                      have c39b1 : (a1 != 43) = true := bne_iff_ne.mpr c39
                                                      by_cases c40 : a1 = 46
                                                      · rw [if_pos c40] at H
                                                        have c40b0 : (a1 == 46) = true := beq_iff_eq.mpr c40
                                                        have c40b1 : (a1 != 46) = false := bne_eq_false_iff_eq.mpr c40
                                                        clear c40
                                                        obtain rfl := Option.some.inj H
                                                        go_wp2
                                                        go_ret
                                                        exact ⟨by first | rfl | (simp; done) | (simp [*]; done), by repeat (first | exact Drawn0.refl _ | apply Drawn0.step)⟩
                                                      · rw [if_neg c40] at H
                                                        have c40b0 : (a1 == 46) = false := beq_eq_false_iff_ne.mpr c40
                                                        have c40b1 : (a1 != 46) = true := bne_iff_ne.mpr c40
                                                        by_cases c41 : a1 = 53
                                                        · rw [if_pos c41] at H
                                                          have c41b0 : (a1 == 53) = true := beq_iff_eq.mpr c41
                                                          have c41b1 : (a1 != 53) = false := bne_eq_false_iff_eq.mpr c41
                                                          clear c41
                                                          obtain rfl := Option.some.inj H
                                                          go_wp2
                                                          go_ret
                                                          exact ⟨by first | rfl | (simp; done) | (simp [*]; done), by repeat (first | exact Drawn0.refl _ | apply Drawn0.step)⟩
                                                        · rw [if_neg c41] at H
                                                          have c41b0 : (a1 == 53) = false := beq_eq_false_iff_ne.mpr c41
                                                          have c41b1 : (a1 != 53) = true := bne_iff_ne.mpr c41
                                                          obtain rfl := Option.some.inj H
                                                          go_wp2
                                                          go_ret
                                                          exact ⟨by first | rfl | (simp; done) | (simp [*]; done), by repeat (first | exact Drawn0.refl _ | apply Drawn0.step)⟩

/-- A state of type 48 at block g of W; what its slices lead to came in by w0. -/
def IsS48 (w0 W : World) (g : Nat) (f0 : Int) (f1 : Int) (f2 : Int) (f3 : Int) : Prop := W.heap[g]? = some (.cells #[.int .i64 f0, .int .i64 f1, .int .i64 f2, .int .i64 f3] 48 (0, 0)) ∧ w0.heap.size ≤ g
theorem IsS48.grown {w0 W : World} {g : Nat} {f0 : Int} {f1 : Int} {f2 : Int} {f3 : Int} {W1 : World} {row : Option Nat} (h : IsS48 w0 W g f0 f1 f2 f3) (hw : W.grownBy W1 row) (hne : some g ≠ row) : IsS48 w0 W1 g f0 f1 f2 f3 := by
  obtain ⟨hb, hg⟩ := h
  exact ⟨blk_grown hb hw hne, hg⟩
theorem IsS48.own_neN {w0 W : World} {g : Nat} {f0 : Int} {f1 : Int} {f2 : Int} {f3 : Int} {α : Type} {d : Kd α} {e : Nat} {base : Nat} {ok : Nat → Prop} {v : Value} {xs : List α} (h : IsS48 w0 W g f0 f1 f2 f3) (ho : Kd.N d e W base ok v xs) (ht : e ≠ 48) : some g ≠ v.ownBlock := by
  obtain ⟨hb, hg⟩ := h
  exact Kd.N_ne ho hb ht
theorem IsS48.fresh {w0 W : World} {g : Nat} {f0 : Int} {f1 : Int} {f2 : Int} {f3 : Int} (h : IsS48 w0 W g f0 f1 f2 f3) : ∀ k, W.heap.size ≤ k → k ≠ g := by
  obtain ⟨hb, hg⟩ := h
  exact Kd.freshB hb
theorem IsS48.kept {w0 W : World} {g : Nat} {f0 : Int} {f1 : Int} {f2 : Int} {f3 : Int} {W1 : World} {S : Nat → Prop} (h : IsS48 w0 W g f0 f1 f2 f3) (hk : Kept W W1 S) (hne : ¬ S g) : IsS48 w0 W1 g f0 f1 f2 f3 := by
  obtain ⟨hb, hg⟩ := h
  exact ⟨blk_kept hb hk hne, hg⟩
theorem IsS48.below {w0 W : World} {g : Nat} {f0 : Int} {f1 : Int} {f2 : Int} {f3 : Int} {W1 : World} (h : IsS48 w0 W g f0 f1 f2 f3) (hw : Below W.heap.size W W1) : IsS48 w0 W1 g f0 f1 f2 f3 := h.grown (grown_of_below hw none) (by simp)
theorem IsS48.alloc {w0 W : World} {g : Nat} {f0 : Int} {f1 : Int} {f2 : Int} {f3 : Int} (h : IsS48 w0 W g f0 f1 f2 f3) (o : Obj) : IsS48 w0 (W.alloc o) g f0 f1 f2 f3 := h.below (below_alloc (Below.refl _ _) o)
theorem IsS48.drewN {w0 W : World} {g : Nat} {f0 : Int} {f1 : Int} {f2 : Int} {f3 : Int} (h : IsS48 w0 W g f0 f1 f2 f3) (m : Nat) : IsS48 w0 (W.drewN m) g f0 f1 f2 f3 := h
theorem IsS48.drew {w0 W : World} {g : Nat} {f0 : Int} {f1 : Int} {f2 : Int} {f3 : Int} (h : IsS48 w0 W g f0 f1 f2 f3) : IsS48 w0 W.drew g f0 f1 f2 f3 := h
theorem IsS48.at_ {w0 W : World} {g : Nat} {f0 : Int} {f1 : Int} {f2 : Int} {f3 : Int} {w' : World} {m : Nat} (hq : W.drewN m = w') (h : IsS48 w0 W g f0 f1 f2 f3) : IsS48 w0 w' g f0 f1 f2 f3 := by subst hq; exact IsS48.drewN h m
theorem IsS48.apart {w0 W : World} {g : Nat} {f0 : Int} {f1 : Int} {f2 : Int} {f3 : Int} {α : Type} {d : Kd α} {e : Nat} {base : Nat} {ok : Nat → Prop} {v : Value} {xs : List α} (h : IsS48 w0 W g f0 f1 f2 f3) (ho : d.R e W base ok v xs) (ht : ∀ q, q ∈ e :: d.E → q ≠ 48) : d.R e W base (fun k => ok k ∧ k ≠ g) v xs := by
  obtain ⟨hb, hg⟩ := h
  exact Kd.R_types ho hb ht
theorem IsS48.own_ne {w0 W : World} {g : Nat} {f0 : Int} {f1 : Int} {f2 : Int} {f3 : Int} {α : Type} {d : Kd α} {e : Nat} {base : Nat} {ok : Nat → Prop} {v : Value} {xs : List α} (h : IsS48 w0 W g f0 f1 f2 f3) (ho : d.R e W base ok v xs) (ht : e ≠ 48) : some g ≠ v.ownBlock := by
  obtain ⟨hb, hg⟩ := h
  exact Kd.R_ne ho hb ht
theorem IsS48.apartQ {w0 W : World} {g : Nat} {f0 : Int} {f1 : Int} {f2 : Int} {f3 : Int} {α : Type} {d : Kd α} {e : Nat} {base : Nat} {ok : Nat → Prop} {v : Value} {xs : List α} (h : IsS48 w0 W g f0 f1 f2 f3) (ho : d.Q e W base ok v xs) (ht : ∀ q, q ∈ e :: d.E → q ≠ 48) : d.Q e W base (fun k => ok k ∧ k ≠ g) v xs := by
  obtain ⟨hb, hg⟩ := h
  exact Kd.Q_types ho hb ht
theorem IsS48.own_neQ {w0 W : World} {g : Nat} {f0 : Int} {f1 : Int} {f2 : Int} {f3 : Int} {α : Type} {d : Kd α} {e : Nat} {base : Nat} {ok : Nat → Prop} {v : Value} {xs : List α} (h : IsS48 w0 W g f0 f1 f2 f3) (ho : d.Q e W base ok v xs) (ht : e ≠ 48) : some g ≠ v.ownBlock := by
  obtain ⟨hb, hg⟩ := h
  exact Kd.Q_ne ho hb ht
theorem IsS48.apartS {w0 W : World} {g : Nat} {f0 : Int} {f1 : Int} {f2 : Int} {f3 : Int} {α : Type} {d : Kd α} {e : Nat} {base : Nat} {ok : Nat → Prop} {v : Value} {xs : List α} (h : IsS48 w0 W g f0 f1 f2 f3) (ho : d.S e W base ok v xs) (ht : ∀ q, q ∈ e :: d.E → q ≠ 48) : d.S e W base (fun k => ok k ∧ k ≠ g) v xs := by
  obtain ⟨hb, hg⟩ := h
  exact Kd.S_types ho hb ht
theorem IsS48.own_neS {w0 W : World} {g : Nat} {f0 : Int} {f1 : Int} {f2 : Int} {f3 : Int} {α : Type} {d : Kd α} {e : Nat} {base : Nat} {ok : Nat → Prop} {v : Value} {xs : List α} (h : IsS48 w0 W g f0 f1 f2 f3) (ho : d.S e W base ok v xs) (ht : e ≠ 48) : some g ≠ v.ownBlock := by
  obtain ⟨hb, hg⟩ := h
  exact Kd.S_ne ho hb ht
theorem IsS48.lt {w0 W : World} {g : Nat} {f0 : Int} {f1 : Int} {f2 : Int} {f3 : Int} (h : IsS48 w0 W g f0 f1 f2 f3) : g < W.heap.size := by
  obtain ⟨hb, hg⟩ := h
  exact blk_lt hb
theorem IsS48.ge {w0 W : World} {g : Nat} {f0 : Int} {f1 : Int} {f2 : Int} {f3 : Int} (h : IsS48 w0 W g f0 f1 f2 f3) : w0.heap.size ≤ g := by
  obtain ⟨hb, hg⟩ := h
  exact hg
theorem IsS48.ne_blk {w0 W : World} {g : Nat} {f0 : Int} {f1 : Int} {f2 : Int} {f3 : Int} {a : Nat} {cs : Array Value} {t : TypeId} {fr : Nat × Nat} (h : IsS48 w0 W g f0 f1 f2 f3) (hb2 : W.heap[a]? = some (.cells cs t fr)) (ht : t ≠ 48) : g ≠ a := by
  obtain ⟨hb, hg⟩ := h
  rintro rfl
  rw [hb] at hb2
  injection hb2 with hb2
  injection hb2 with _ ht2
  exact ht ht2.symm
theorem IsS48.far {w0 W : World} {g : Nat} {f0 : Int} {f1 : Int} {f2 : Int} {f3 : Int} {p : Addr} (h : IsS48 w0 W g f0 f1 f2 f3) (hne : g ≠ p.block) (u : Value) : IsS48 w0 (W.setCell p u) g f0 f1 f2 f3 := by
  obtain ⟨hb, hg⟩ := h
  exact ⟨blk_far hb hne u, hg⟩
theorem cellS48_0 {W : World} {g : Nat} {f0 : Int} {f1 : Int} {f2 : Int} {f3 : Int} (h : W.heap[g]? = some (.cells #[.int .i64 f0, .int .i64 f1, .int .i64 f2, .int .i64 f3] 48 (0, 0))) : W.cell? ⟨g, 0, none⟩ = some (.int .i64 f0) := (blk_cell h 0).trans rfl
theorem IsS48.set_0 {w0 W : World} {g : Nat} {f0 : Int} {f1 : Int} {f2 : Int} {f3 : Int} (h : IsS48 w0 W g f0 f1 f2 f3) (x : Int) : IsS48 w0 (W.setCell ⟨g, 0, none⟩ (.int .i64 x)) g x f1 f2 f3 := by
  obtain ⟨hb, hg⟩ := h
  exact ⟨by simpa using blk_set hb 0 (.int .i64 x), hg⟩
theorem cellS48_1 {W : World} {g : Nat} {f0 : Int} {f1 : Int} {f2 : Int} {f3 : Int} (h : W.heap[g]? = some (.cells #[.int .i64 f0, .int .i64 f1, .int .i64 f2, .int .i64 f3] 48 (0, 0))) : W.cell? ⟨g, 1, none⟩ = some (.int .i64 f1) := (blk_cell h 1).trans rfl
theorem IsS48.set_1 {w0 W : World} {g : Nat} {f0 : Int} {f1 : Int} {f2 : Int} {f3 : Int} (h : IsS48 w0 W g f0 f1 f2 f3) (x : Int) : IsS48 w0 (W.setCell ⟨g, 1, none⟩ (.int .i64 x)) g f0 x f2 f3 := by
  obtain ⟨hb, hg⟩ := h
  exact ⟨by simpa using blk_set hb 1 (.int .i64 x), hg⟩
theorem cellS48_2 {W : World} {g : Nat} {f0 : Int} {f1 : Int} {f2 : Int} {f3 : Int} (h : W.heap[g]? = some (.cells #[.int .i64 f0, .int .i64 f1, .int .i64 f2, .int .i64 f3] 48 (0, 0))) : W.cell? ⟨g, 2, none⟩ = some (.int .i64 f2) := (blk_cell h 2).trans rfl
theorem IsS48.set_2 {w0 W : World} {g : Nat} {f0 : Int} {f1 : Int} {f2 : Int} {f3 : Int} (h : IsS48 w0 W g f0 f1 f2 f3) (x : Int) : IsS48 w0 (W.setCell ⟨g, 2, none⟩ (.int .i64 x)) g f0 f1 x f3 := by
  obtain ⟨hb, hg⟩ := h
  exact ⟨by simpa using blk_set hb 2 (.int .i64 x), hg⟩
theorem cellS48_3 {W : World} {g : Nat} {f0 : Int} {f1 : Int} {f2 : Int} {f3 : Int} (h : W.heap[g]? = some (.cells #[.int .i64 f0, .int .i64 f1, .int .i64 f2, .int .i64 f3] 48 (0, 0))) : W.cell? ⟨g, 3, none⟩ = some (.int .i64 f3) := (blk_cell h 3).trans rfl
theorem IsS48.set_3 {w0 W : World} {g : Nat} {f0 : Int} {f1 : Int} {f2 : Int} {f3 : Int} (h : IsS48 w0 W g f0 f1 f2 f3) (x : Int) : IsS48 w0 (W.setCell ⟨g, 3, none⟩ (.int .i64 x)) g f0 f1 f2 x := by
  obtain ⟨hb, hg⟩ := h
  exact ⟨by simpa using blk_set hb 3 (.int .i64 x), hg⟩
theorem IsS48.new (w0 W : World) (f0 : Int) (f1 : Int) (f2 : Int) (f3 : Int) (hB : Below w0.heap.size w0 W) : IsS48 w0 (W.alloc (.cells #[.int .i64 f0, .int .i64 f1, .int .i64 f2, .int .i64 f3] 48)) W.heap.size f0 f1 f2 f3 := ⟨by simpa using heap_alloc_new W _, hB.size⟩

/-! ### frag_finder_reject: function 47 -/
def frag_finder_reject.f (s0_0 : Int) (s0_1 : Int) (s0_2 : Int) (s0_3 : Int) (a1_0 : Int) (a1_1 : Int) (a1_2 : ByteArray) (l1_3 : List Int) (l1_4 : List (S57)) (l1_5 : List (S28)) (a1_6 : Int) (a2 : Int) : Option (Int × Int × Int × Int) := if s0_1 = 0 then (some (s0_0, 13, a1_6, a2)) else (some (s0_0, s0_1, s0_2, s0_3))
set_option maxHeartbeats 8000000 in
set_option maxRecDepth 100000 in
theorem frag_finder_reject.calls (g : Nat) (s0_0 : Int) (s0_1 : Int) (s0_2 : Int) (s0_3 : Int) (a1_0 : Int) (a1_1 : Int) (a1_2 : ByteArray) (A1_3 : Option Addr) (c1_3 : Nat) (l1_3 : List Int) (A1_4 : Option Addr) (c1_4 : Nat) (l1_4 : List (S57)) (A1_5 : Option Addr) (c1_5 : Nat) (l1_5 : List (S28)) (a1_6 : Int) (a2 : Int) (r1 : Int) (r2 : Int) (r3 : Int) (r4 : Int) (w0 w : World) (hI : IsS48 w0 w g s0_0 s0_1 s0_2 s0_3) (hB : Below w0.heap.size w0 w) (hr1_3 : Kd.C (Kd.int .i64) w A1_3 l1_3.length l1_3) (hc1_3 : l1_3.length ≤ c1_3) (hf1_3 : ∀ ad, A1_3 = some ad → 0 < l1_3.length → ad.block ≠ g) (hr1_4 : ∀ W_, KeepBut w W_ g none → Kd.C k57 W_ A1_4 l1_4.length l1_4) (hc1_4 : l1_4.length ≤ c1_4) (hr1_5 : ∀ W_, KeepBut w W_ g none → Kd.C k28 W_ A1_5 l1_5.length l1_5) (hc1_5 : l1_5.length ≤ c1_5) (h : frag_finder_reject.f s0_0 s0_1 s0_2 s0_3 a1_0 a1_1 a1_2 l1_3 l1_4 l1_5 a1_6 a2 = some (r1, r2, r3, r4)) :
    Calls Try.prog 47 #[.pointer (some ⟨g, 0, none⟩), .agg #[.int .i64 a1_0, .int .i64 a1_1, .string a1_2, .slice A1_3 l1_3.length c1_3, .slice A1_4 l1_4.length c1_4, .slice A1_5 l1_5.length c1_5, .int .i64 a1_6], .int .i64 a2] w fun e w' => e = .returned (.tuple #[]) ∧ IsS48 w0 w' g r1 r2 r3 r4 ∧ Below w0.heap.size w0 w' ∧ KeepBut w w' g none := by
  have hu28 := Try.underlying28
  have hu33 := Try.underlying33
  have HR1_3 := Aside0.mk hr1_3
  have HC1_3 := Aside0.mk hc1_3
  clear hr1_3 hc1_3
  have HR1_4 := Aside0.mk hr1_4
  have HC1_4 := Aside0.mk hc1_4
  clear hr1_4 hc1_4
  have HR1_5 := Aside0.mk hr1_5
  have HC1_5 := Aside0.mk hc1_5
  clear hr1_5 hc1_5
  have HI0 := Aside0.mk hI
  have HK := Aside0.mk (KeepBut.refl w g none)
  have HL := Aside0.mk hB.size
  clear hI
  have HW0 := Aside0.mk hB.size
  have HB := Aside0.mk hB
  clear hB
  have H : (if s0_1 = 0 then (some (s0_0, 13, a1_6, a2)) else (some (s0_0, s0_1, s0_2, s0_3))) = some (r1, r2, r3, r4) := h
  clear h
  by_cases c4 : s0_1 = 0
  · rw [if_pos c4] at H
    have c4b0 : (s0_1 == 0) = true := beq_iff_eq.mpr c4
    have c4b1 : (s0_1 != 0) = false := bne_eq_false_iff_eq.mpr c4
    clear c4
    simp only [Option.some.injEq, Prod.mk.injEq] at H
    obtain ⟨rfl, rfl, rfl, rfl⟩ := H
    go_enter Try.func47, Try.ntmps47
    go_wp2_with (first | ((with_reducible refine gate_dst (N := 4) rfl ?_); refine box_event ?hg (N := 4) ?hd (cs := #[.int .i64 a1_0, .int .i64 a1_1, .string a1_2, .slice A1_3 l1_3.length c1_3, .slice A1_4 l1_4.length c1_4, .slice A1_5 l1_5.length c1_5, .int .i64 a1_6]) (t := 28) ?hr ?_; (case hd => rfl); (case hg => rfl); (case hr => first | (go_simp; done) | (go_simp; rfl)); intro gb114 hg w5 hbox hb; have n0_ := Aside0.mk (IsS48.below (by repeat (first | (with_reducible first | exact HI0.out | apply IsS48.alloc | apply IsS48.drewN | apply IsS48.drew | apply IsS48.set_0 | apply IsS48.set_1 | apply IsS48.set_2 | apply IsS48.set_3) | exact HI0.out)) hb); have n1_ := Aside0.mk (KeepBut.trans (by repeat (first | (with_reducible first | exact HK.out | apply KeepBut.set_ | apply keep_drewN | apply keep_drew | apply keep_alloc) | exact HK.out)) (KeepBut.of_below hb g none) (.inl rfl)); have n2_ := Aside0.mk (below_step (by repeat (first | (with_reducible first | exact HB.out | apply below_alloc | apply pw_below_drewN | apply below_drew1 | refine below_set ?_ (IsS48.ge HI0.out)) | exact HB.out)) hb); have n3_ := Aside0.mk (hbox); have n4_ := Aside0.mk ((by rw [hg]; exact (keep_size (w := w) (g := g) (row := none) (by repeat (first | (with_reducible first | exact HK.out | apply KeepBut.set_ | apply keep_drewN | apply keep_drew | apply keep_alloc) | exact HK.out))) : w.heap.size ≤ gb114)); have n5_ := Aside0.mk ((Nat.le_trans HW0.out (by rw [hg]; exact (keep_size (w := w) (g := g) (row := none) (by repeat (first | (with_reducible first | exact HK.out | apply KeepBut.set_ | apply keep_drewN | apply keep_drew | apply keep_alloc) | exact HK.out))) : w.heap.size ≤ gb114) : w0.heap.size ≤ gb114)); have n6_ := Aside0.mk ((by rw [hg]; exact Nat.ne_of_lt (IsS48.lt (show IsS48 w0 _ g s0_0 s0_1 s0_2 s0_3 from by repeat (first | (with_reducible first | exact HI0.out | apply IsS48.alloc | apply IsS48.drewN | apply IsS48.drew | apply IsS48.set_0 | apply IsS48.set_1 | apply IsS48.set_2 | apply IsS48.set_3) | exact HI0.out))) : g ≠ gb114)); have n7_ := Aside0.mk ((by rw [hg]; exact Nat.ne_of_gt (IsS48.lt (show IsS48 w0 _ g s0_0 s0_1 s0_2 s0_3 from by repeat (first | (with_reducible first | exact HI0.out | apply IsS48.alloc | apply IsS48.drewN | apply IsS48.drew | apply IsS48.set_0 | apply IsS48.set_1 | apply IsS48.set_2 | apply IsS48.set_3) | exact HI0.out))) : gb114 ≠ g)); clear HI0; clear HK; clear HB; have HI0 := n0_; have HK := n1_; have HB := n2_; have BK114 := n3_; have GW114 := n4_; have GE114 := n5_; have NB0_114 := n6_; have NB114_0 := n7_; clear n0_ n1_ n2_ n3_ n4_ n5_ n6_ n7_; clear hb hbox hg; obtain ⟨HGz6, hgz6⟩ := HI0.out; have hcz6_0 := cellS48_0 HGz6; have hcz6_1 := cellS48_1 HGz6; have hcz6_2 := cellS48_2 HGz6; have hcz6_3 := cellS48_3 HGz6; have hfz6_0 := blk_frozen HGz6 0; have hfz6_1 := blk_frozen HGz6 1; have hfz6_2 := blk_frozen HGz6 2; have hfz6_3 := blk_frozen HGz6 3; clear HGz6 hgz6; have hnb7 := NB114_0.out; have hnc7 := NB0_114.out; have hcz8_0 : w5.cell? ⟨gb114, 0, none⟩ = some (.int .i64 a1_0) := (blk_cell BK114.out 0).trans rfl; have hcz8_1 : w5.cell? ⟨gb114, 1, none⟩ = some (.int .i64 a1_1) := (blk_cell BK114.out 1).trans rfl; have hcz8_2 : w5.cell? ⟨gb114, 2, none⟩ = some (.string a1_2) := (blk_cell BK114.out 2).trans rfl; have hcz8_3 : w5.cell? ⟨gb114, 3, none⟩ = some (.slice A1_3 l1_3.length c1_3) := (blk_cell BK114.out 3).trans rfl; have hcz8_4 : w5.cell? ⟨gb114, 4, none⟩ = some (.slice A1_4 l1_4.length c1_4) := (blk_cell BK114.out 4).trans rfl; have hcz8_5 : w5.cell? ⟨gb114, 5, none⟩ = some (.slice A1_5 l1_5.length c1_5) := (blk_cell BK114.out 5).trans rfl; have hcz8_6 : w5.cell? ⟨gb114, 6, none⟩ = some (.int .i64 a1_6) := (blk_cell BK114.out 6).trans rfl; have hfz8_0 := blk_frozen BK114.out 0; have hfz8_1 := blk_frozen BK114.out 1; have hfz8_2 := blk_frozen BK114.out 2; have hfz8_3 := blk_frozen BK114.out 3; have hfz8_4 := blk_frozen BK114.out 4; have hfz8_5 := blk_frozen BK114.out 5; have hfz8_6 := blk_frozen BK114.out 6))
    first | go_end0 | ((try simp only [Exit.inBlock, Exit.then]); refine bodyPost_ret (results_none rfl _ _ _) rfl ?_)
    exact ⟨by first | rfl | (simp [errW_none, errW_some] <;> rfl) | (simp [*, errW_none, errW_some] <;> rfl), by repeat (first | (with_reducible first | exact HI0.out | apply IsS48.alloc | apply IsS48.drewN | apply IsS48.drew | apply IsS48.set_0 | apply IsS48.set_1 | apply IsS48.set_2 | apply IsS48.set_3 | refine IsS48.far ?_ NB0_114.out _) | exact HI0.out), by repeat (first | (with_reducible first | exact HB.out | apply below_alloc | apply pw_below_drewN | apply below_drew1 | refine below_set ?_ (IsS48.ge HI0.out) | refine below_set ?_ GE114.out) | exact HB.out), by repeat (first | (with_reducible first | exact HK.out | apply KeepBut.set_ | apply keep_drewN | apply keep_drew | apply keep_alloc | refine keep_far ?_ GW114.out _) | exact HK.out)⟩
  · rw [if_neg c4] at H
    have c4b0 : (s0_1 == 0) = false := beq_eq_false_iff_ne.mpr c4
    have c4b1 : (s0_1 != 0) = true := bne_iff_ne.mpr c4
    simp only [Option.some.injEq, Prod.mk.injEq] at H
    obtain ⟨rfl, rfl, rfl, rfl⟩ := H
    go_enter Try.func47, Try.ntmps47
    go_wp2_with (first | ((with_reducible refine gate_dst (N := 4) rfl ?_); refine box_event ?hg (N := 4) ?hd (cs := #[.int .i64 a1_0, .int .i64 a1_1, .string a1_2, .slice A1_3 l1_3.length c1_3, .slice A1_4 l1_4.length c1_4, .slice A1_5 l1_5.length c1_5, .int .i64 a1_6]) (t := 28) ?hr ?_; (case hd => rfl); (case hg => rfl); (case hr => first | (go_simp; done) | (go_simp; rfl)); intro gb114 hg w9 hbox hb; have n0_ := Aside0.mk (IsS48.below (by repeat (first | (with_reducible first | exact HI0.out | apply IsS48.alloc | apply IsS48.drewN | apply IsS48.drew | apply IsS48.set_0 | apply IsS48.set_1 | apply IsS48.set_2 | apply IsS48.set_3) | exact HI0.out)) hb); have n1_ := Aside0.mk (KeepBut.trans (by repeat (first | (with_reducible first | exact HK.out | apply KeepBut.set_ | apply keep_drewN | apply keep_drew | apply keep_alloc) | exact HK.out)) (KeepBut.of_below hb g none) (.inl rfl)); have n2_ := Aside0.mk (below_step (by repeat (first | (with_reducible first | exact HB.out | apply below_alloc | apply pw_below_drewN | apply below_drew1 | refine below_set ?_ (IsS48.ge HI0.out)) | exact HB.out)) hb); have n3_ := Aside0.mk (hbox); have n4_ := Aside0.mk ((by rw [hg]; exact (keep_size (w := w) (g := g) (row := none) (by repeat (first | (with_reducible first | exact HK.out | apply KeepBut.set_ | apply keep_drewN | apply keep_drew | apply keep_alloc) | exact HK.out))) : w.heap.size ≤ gb114)); have n5_ := Aside0.mk ((Nat.le_trans HW0.out (by rw [hg]; exact (keep_size (w := w) (g := g) (row := none) (by repeat (first | (with_reducible first | exact HK.out | apply KeepBut.set_ | apply keep_drewN | apply keep_drew | apply keep_alloc) | exact HK.out))) : w.heap.size ≤ gb114) : w0.heap.size ≤ gb114)); have n6_ := Aside0.mk ((by rw [hg]; exact Nat.ne_of_lt (IsS48.lt (show IsS48 w0 _ g s0_0 s0_1 s0_2 s0_3 from by repeat (first | (with_reducible first | exact HI0.out | apply IsS48.alloc | apply IsS48.drewN | apply IsS48.drew | apply IsS48.set_0 | apply IsS48.set_1 | apply IsS48.set_2 | apply IsS48.set_3) | exact HI0.out))) : g ≠ gb114)); have n7_ := Aside0.mk ((by rw [hg]; exact Nat.ne_of_gt (IsS48.lt (show IsS48 w0 _ g s0_0 s0_1 s0_2 s0_3 from by repeat (first | (with_reducible first | exact HI0.out | apply IsS48.alloc | apply IsS48.drewN | apply IsS48.drew | apply IsS48.set_0 | apply IsS48.set_1 | apply IsS48.set_2 | apply IsS48.set_3) | exact HI0.out))) : gb114 ≠ g)); clear HI0; clear HK; clear HB; have HI0 := n0_; have HK := n1_; have HB := n2_; have BK114 := n3_; have GW114 := n4_; have GE114 := n5_; have NB0_114 := n6_; have NB114_0 := n7_; clear n0_ n1_ n2_ n3_ n4_ n5_ n6_ n7_; clear hb hbox hg; obtain ⟨HGz10, hgz10⟩ := HI0.out; have hcz10_0 := cellS48_0 HGz10; have hcz10_1 := cellS48_1 HGz10; have hcz10_2 := cellS48_2 HGz10; have hcz10_3 := cellS48_3 HGz10; have hfz10_0 := blk_frozen HGz10 0; have hfz10_1 := blk_frozen HGz10 1; have hfz10_2 := blk_frozen HGz10 2; have hfz10_3 := blk_frozen HGz10 3; clear HGz10 hgz10))
    first | go_end0 | ((try simp only [Exit.inBlock, Exit.then]); refine bodyPost_ret (results_none rfl _ _ _) rfl ?_)
    exact ⟨by first | rfl | (simp [errW_none, errW_some] <;> rfl) | (simp [*, errW_none, errW_some] <;> rfl), by repeat (first | (with_reducible first | exact HI0.out | apply IsS48.alloc | apply IsS48.drewN | apply IsS48.drew | apply IsS48.set_0 | apply IsS48.set_1 | apply IsS48.set_2 | apply IsS48.set_3 | refine IsS48.far ?_ NB0_114.out _) | exact HI0.out), by repeat (first | (with_reducible first | exact HB.out | apply below_alloc | apply pw_below_drewN | apply below_drew1 | refine below_set ?_ (IsS48.ge HI0.out) | refine below_set ?_ GE114.out) | exact HB.out), by repeat (first | (with_reducible first | exact HK.out | apply KeepBut.set_ | apply keep_drewN | apply keep_drew | apply keep_alloc | refine keep_far ?_ GW114.out _) | exact HK.out)⟩

end Go.Proofs.Ytfjkclhkobnakaa.P
