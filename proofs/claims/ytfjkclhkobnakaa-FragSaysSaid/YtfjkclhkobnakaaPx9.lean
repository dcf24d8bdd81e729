/- Written by a program of this session: the functions that the laws reach, what each comes to, and each law as it is stated, for every input. No condition. -/
import Derived.Test.YtfjkclhkobnakaaPx0
import Derived.Test.YtfjkclhkobnakaaPx5
import Derived.Test.YtfjkclhkobnakaaPx7
import Derived.Test.YtfjkclhkobnakaaPx8
namespace Go.Proofs.Ytfjkclhkobnakaa.P
open Go.RowKit Go.Proofs.YtfjkclhkobnakaaW.PrintWords Go.Proofs.YtfjkclhkobnakaaW.PrintLast Go.Proofs.YtfjkclhkobnakaaW.PrintMore
attribute [local go_sem] max2_int min2_int max_two min_two max_three min_three max_four min_four   -- for this text's walks alone
set_option linter.unusedVariables false
set_option linter.unusedSimpArgs false

/-! ### triglyphlaw24_FragSays: function 4 -/
mutual
def triglyphlaw24_FragSays.j0 : Nat → Int → Int → Bool → Option (Bool)
  | 0, _, _, _ => none
  | k + 1, x1, x5, x6 => if x5 = 1 then (if x1 = 10 then (triglyphlaw24_FragSays.j1 k x1 x5 x6 true) else (triglyphlaw24_FragSays.j1 k x1 x5 x6 (x1 == 45))) else (triglyphlaw24_FragSays.j1 k x1 x5 x6 false)
def triglyphlaw24_FragSays.j1 : Nat → Int → Int → Bool → Bool → Option (Bool)
  | 0, _, _, _, _ => none
  | k + 1, x1, x5, x6, x39 => if x39 = true then ((frag_Says.f k x5 x1).bind fun t266 => (if (t266 == true) = true then ((triglyphlaw24_works.f k).bind fun t267 => (some t267)) else (none))) else ((frag_Says.f k x5 x1).bind fun t268 => (if (t268 == x6) = true then ((triglyphlaw24_works.f k).bind fun t269 => (some t269)) else (none)))
end
def triglyphlaw24_FragSays.f (k : Nat) (a0 : Int) (a1 : Int) : Option (Bool) := (triglyphref24_Word.f k (Int.tmod (wrap64 (a0)) 3) a1).bind fun t265 => (if t265.toList = ([] : List UInt8) then (triglyphlaw24_FragSays.j0 k a1 (Int.tmod (wrap64 (a0)) 3) false) else (if a1 = 19 then (triglyphlaw24_FragSays.j0 k a1 (Int.tmod (wrap64 (a0)) 3) false) else (if a1 = 54 then (triglyphlaw24_FragSays.j0 k a1 (Int.tmod (wrap64 (a0)) 3) false) else (if a1 = 53 then (triglyphlaw24_FragSays.j0 k a1 (Int.tmod (wrap64 (a0)) 3) ((Int.tmod (wrap64 (a0)) 3) == 2)) else (triglyphlaw24_FragSays.j0 k a1 (Int.tmod (wrap64 (a0)) 3) true)))))
theorem triglyphlaw24_FragSays.mono_l : ∀ k, (∀ y0 y1 y2, LeO (triglyphlaw24_FragSays.j0 k y0 y1 y2) (triglyphlaw24_FragSays.j0 (k + 1) y0 y1 y2)) ∧ (∀ y0 y1 y2 y3, LeO (triglyphlaw24_FragSays.j1 k y0 y1 y2 y3) (triglyphlaw24_FragSays.j1 (k + 1) y0 y1 y2 y3))
  | 0 => ⟨fun _ _ _ r h => by simp [triglyphlaw24_FragSays.j0] at h, fun _ _ _ _ r h => by simp [triglyphlaw24_FragSays.j1] at h⟩
  | k + 1 => by
    obtain ⟨ih0, ih1⟩ := triglyphlaw24_FragSays.mono_l k
    refine ⟨?_, ?_⟩
    · intro y0 y1 y2
      unfold triglyphlaw24_FragSays.j0
      repeat' first
      | (with_reducible exact ih0 _ _ _)
      | (with_reducible exact ih1 _ _ _ _)
      | (with_reducible exact frag_Says.mono _ _ _)
      | (with_reducible exact triglyphlaw24_works.mono _)
      | (with_reducible exact triglyphref24_Word.mono _ _ _)
      | (with_reducible exact LeO.refl _)
      | (with_reducible exact LeO.none _)
      | (with_reducible refine LeO.ite ?_ ?_)
      | (with_reducible refine LeO.bind ?_ (fun _ => ?_))
      | exact ih0 _ _ _
      | exact ih1 _ _ _ _
      | exact frag_Says.mono _ _ _
      | exact triglyphlaw24_works.mono _
      | exact triglyphref24_Word.mono _ _ _
      | exact LeO.none _
      | refine LeO.ite ?_ ?_
      | refine LeO.bind ?_ (fun _ => ?_)
    · intro y0 y1 y2 y3
      unfold triglyphlaw24_FragSays.j1
      repeat' first
      | (with_reducible exact ih0 _ _ _)
      | (with_reducible exact ih1 _ _ _ _)
      | (with_reducible exact frag_Says.mono _ _ _)
      | (with_reducible exact triglyphlaw24_works.mono _)
      | (with_reducible exact triglyphref24_Word.mono _ _ _)
      | (with_reducible exact LeO.refl _)
      | (with_reducible exact LeO.none _)
      | (with_reducible refine LeO.ite ?_ ?_)
      | (with_reducible refine LeO.bind ?_ (fun _ => ?_))
      | exact ih0 _ _ _
      | exact ih1 _ _ _ _
      | exact frag_Says.mono _ _ _
      | exact triglyphlaw24_works.mono _
      | exact triglyphref24_Word.mono _ _ _
      | exact LeO.none _
      | refine LeO.ite ?_ ?_
      | refine LeO.bind ?_ (fun _ => ?_)
theorem triglyphlaw24_FragSays.mono : ∀ a0 a1 k, LeO (triglyphlaw24_FragSays.f k a0 a1) (triglyphlaw24_FragSays.f (k + 1) a0 a1) := by
  intro a0 a1 k
  obtain ⟨ih0, ih1⟩ := triglyphlaw24_FragSays.mono_l k
  unfold triglyphlaw24_FragSays.f
  repeat' first
      | (with_reducible exact ih0 _ _ _)
      | (with_reducible exact ih1 _ _ _ _)
      | (with_reducible exact frag_Says.mono _ _ _)
      | (with_reducible exact triglyphlaw24_works.mono _)
      | (with_reducible exact triglyphref24_Word.mono _ _ _)
      | (with_reducible exact LeO.refl _)
      | (with_reducible exact LeO.none _)
      | (with_reducible refine LeO.ite ?_ ?_)
      | (with_reducible refine LeO.bind ?_ (fun _ => ?_))
      | exact ih0 _ _ _
      | exact ih1 _ _ _ _
      | exact frag_Says.mono _ _ _
      | exact triglyphlaw24_works.mono _
      | exact triglyphref24_Word.mono _ _ _
      | exact LeO.none _
      | refine LeO.ite ?_ ?_
      | refine LeO.bind ?_ (fun _ => ?_)
set_option maxHeartbeats 8000000 in
set_option maxRecDepth 100000 in
theorem triglyphlaw24_FragSays.calls (k : Nat) (a0 : Int) (a1 : Int) (r : Bool) (w : World) (h : triglyphlaw24_FragSays.f k a0 a1 = some r) :
    Calls Try.prog 4 #[.int .u8 a0, .int .i64 a1] w fun e w' => e = .returned (.bool r) ∧ Below w.heap.size w w' := by
  have HB := Aside0.mk (Below.refl w.heap.size w)
  have H : ((triglyphref24_Word.f k (Int.tmod (wrap64 (a0)) 3) a1).bind fun t265 => (if t265.toList = ([] : List UInt8) then (triglyphlaw24_FragSays.j0 k a1 (Int.tmod (wrap64 (a0)) 3) false) else (if a1 = 19 then (triglyphlaw24_FragSays.j0 k a1 (Int.tmod (wrap64 (a0)) 3) false) else (if a1 = 54 then (triglyphlaw24_FragSays.j0 k a1 (Int.tmod (wrap64 (a0)) 3) false) else (if a1 = 53 then (triglyphlaw24_FragSays.j0 k a1 (Int.tmod (wrap64 (a0)) 3) ((Int.tmod (wrap64 (a0)) 3) == 2)) else (triglyphlaw24_FragSays.j0 k a1 (Int.tmod (wrap64 (a0)) 3) true)))))) = some r := h
  clear h
  have HC3 := Aside0.mk H
  clear H
  go_enter Try.func4, Try.ntmps4
  go_upto_region 2 with (fail)
  go_cut [6] (fun v6 wc => ∃ (kq : Nat) (x6_2 : Bool), v6 = .bool x6_2 ∧ Aside0 (triglyphlaw24_FragSays.j0 kq a1 (Int.tmod (wrap64 (a0)) 3) x6_2 = some r) ∧ Aside0 (kq ≤ k) ∧ Aside0 (Below w.heap.size w wc))
  case first =>
    have H := HC3.out; clear HC3
    replace H := Option.bind_eq_some_iff.mp H
    obtain ⟨t265, A40, H⟩ := H
    replace H : (if t265.toList = ([] : List UInt8) then (triglyphlaw24_FragSays.j0 k a1 (Int.tmod (wrap64 (a0)) 3) false) else (if a1 = 19 then (triglyphlaw24_FragSays.j0 k a1 (Int.tmod (wrap64 (a0)) 3) false) else (if a1 = 54 then (triglyphlaw24_FragSays.j0 k a1 (Int.tmod (wrap64 (a0)) 3) false) else (if a1 = 53 then (triglyphlaw24_FragSays.j0 k a1 (Int.tmod (wrap64 (a0)) 3) ((Int.tmod (wrap64 (a0)) 3) == 2)) else (triglyphlaw24_FragSays.j0 k a1 (Int.tmod (wrap64 (a0)) 3) true))))) = some r := H
    have A4 := Aside0.mk A40
    clear A40
    by_cases c5 : t265.toList = ([] : List UInt8)
    · rw [if_pos c5] at H
      have c5b0 : (t265.toList == ([] : List UInt8)) = true := beq_iff_eq.mpr c5
      have c5b1 : (t265.toList != ([] : List UInt8)) = false := bne_eq_false_iff_eq.mpr c5
      clear c5
      (first | rw [c5b0] | (simp only [i64_w, i32_w]; rw [c5b0]) | skip)
      have H' := Aside0.mk H
      clear H
      go_wp2_with (first | ((with_reducible refine gate_callee (f := 10) rfl ?_); refine goesL_ (some 12) rfl rfl Try.func10 (by kernel_rfl) rfl #[.int .i64 (Int.tmod (wrap64 (a0)) 3), .int .i64 a1] rfl (by (try simp only [List.map_toArray, List.map_cons, List.map_nil]); first | done | rfl | (simp only [List.length_drop, List.length_take]; rfl)) ?_; (with_reducible refine (triglyphref24_Word.calls k (Int.tmod (wrap64 (a0)) 3) a1 t265 _ A4.out).mono ?_); rintro e w6 ⟨rfl, hb⟩; refine ⟨_, rfl, ?_⟩; have n0_ := Aside0.mk (below_step (by repeat (first | (with_reducible first | exact HB.out | apply below_alloc | apply pw_below_drewN | apply below_drew1) | exact HB.out)) hb); clear HB; have HB := n0_; clear n0_; (try clear hb); (try clear hb2); (try clear hk); (try clear hi)))
      all_goals (go_meet; (case rel => exact ⟨_, (false), (by first | rfl | (simp; done) | (simp [*]; done) | (exfalso; simp_all; done) | (exfalso; simp_all; omega)), H', ⟨by first | omega | exact Nat.le_refl _⟩, ⟨by repeat (first | (with_reducible first | exact HB.out | apply below_alloc | apply pw_below_drewN | apply below_drew1) | exact HB.out)⟩⟩))
    · rw [if_neg c5] at H
      have c5b0 : (t265.toList == ([] : List UInt8)) = false := beq_eq_false_iff_ne.mpr c5
      have c5b1 : (t265.toList != ([] : List UInt8)) = true := bne_iff_ne.mpr c5
      (first | rw [c5b0] | (simp only [i64_w, i32_w]; rw [c5b0]) | skip)
      by_cases c7 : a1 = 19
      · rw [if_pos c7] at H
        have c7b0 : (a1 == 19) = true := beq_iff_eq.mpr c7
        have c7b1 : (a1 != 19) = false := bne_eq_false_iff_eq.mpr c7
        clear c7
        have H' := Aside0.mk H
        clear H
        go_wp2_with (first | ((with_reducible refine gate_callee (f := 10) rfl ?_); refine goesL_ (some 12) rfl rfl Try.func10 (by kernel_rfl) rfl #[.int .i64 (Int.tmod (wrap64 (a0)) 3), .int .i64 a1] rfl (by (try simp only [List.map_toArray, List.map_cons, List.map_nil]); first | done | rfl | (simp only [List.length_drop, List.length_take]; rfl)) ?_; (with_reducible refine (triglyphref24_Word.calls k (Int.tmod (wrap64 (a0)) 3) a1 t265 _ A4.out).mono ?_); rintro e w8 ⟨rfl, hb⟩; refine ⟨_, rfl, ?_⟩; have n0_ := Aside0.mk (below_step (by repeat (first | (with_reducible first | exact HB.out | apply below_alloc | apply pw_below_drewN | apply below_drew1) | exact HB.out)) hb); clear HB; have HB := n0_; clear n0_; (try clear hb); (try clear hb2); (try clear hk); (try clear hi)))
        all_goals (go_meet; (case rel => exact ⟨_, (false), (by first | rfl | (simp; done) | (simp [*]; done) | (exfalso; simp_all; done) | (exfalso; simp_all; omega)), H', ⟨by first | omega | exact Nat.le_refl _⟩, ⟨by repeat (first | (with_reducible first | exact HB.out | apply below_alloc | apply pw_below_drewN | apply below_drew1) | exact HB.out)⟩⟩))
      · rw [if_neg c7] at H
        have c7b0 : (a1 == 19) = false := beq_eq_false_iff_ne.mpr c7
        have c7b1 : (a1 != 19) = true := bne_iff_ne.mpr c7
        by_cases c9 : a1 = 54
        · rw [if_pos c9] at H
          have c9b0 : (a1 == 54) = true := beq_iff_eq.mpr c9
          have c9b1 : (a1 != 54) = false := bne_eq_false_iff_eq.mpr c9
          clear c9
          have H' := Aside0.mk H
          clear H
          go_wp2_with (first | ((with_reducible refine gate_callee (f := 10) rfl ?_); refine goesL_ (some 12) rfl rfl Try.func10 (by kernel_rfl) rfl #[.int .i64 (Int.tmod (wrap64 (a0)) 3), .int .i64 a1] rfl (by (try simp only [List.map_toArray, List.map_cons, List.map_nil]); first | done | rfl | (simp only [List.length_drop, List.length_take]; rfl)) ?_; (with_reducible refine (triglyphref24_Word.calls k (Int.tmod (wrap64 (a0)) 3) a1 t265 _ A4.out).mono ?_); rintro e w10 ⟨rfl, hb⟩; refine ⟨_, rfl, ?_⟩; have n0_ := Aside0.mk (below_step (by repeat (first | (with_reducible first | exact HB.out | apply below_alloc | apply pw_below_drewN | apply below_drew1) | exact HB.out)) hb); clear HB; have HB := n0_; clear n0_; (try clear hb); (try clear hb2); (try clear hk); (try clear hi)))
          all_goals (go_meet; (case rel => exact ⟨_, (false), (by first | rfl | (simp; done) | (simp [*]; done) | (exfalso; simp_all; done) | (exfalso; simp_all; omega)), H', ⟨by first | omega | exact Nat.le_refl _⟩, ⟨by repeat (first | (with_reducible first | exact HB.out | apply below_alloc | apply pw_below_drewN | apply below_drew1) | exact HB.out)⟩⟩))
        · rw [if_neg c9] at H
          have c9b0 : (a1 == 54) = false := beq_eq_false_iff_ne.mpr c9
          have c9b1 : (a1 != 54) = true := bne_iff_ne.mpr c9
          by_cases c11 : a1 = 53
          · rw [if_pos c11] at H
            have c11b0 : (a1 == 53) = true := beq_iff_eq.mpr c11
            have c11b1 : (a1 != 53) = false := bne_eq_false_iff_eq.mpr c11
            clear c11
            have H' := Aside0.mk H
            clear H
            go_wp2_with (first | ((with_reducible refine gate_callee (f := 10) rfl ?_); refine goesL_ (some 12) rfl rfl Try.func10 (by kernel_rfl) rfl #[.int .i64 (Int.tmod (wrap64 (a0)) 3), .int .i64 a1] rfl (by (try simp only [List.map_toArray, List.map_cons, List.map_nil]); first | done | rfl | (simp only [List.length_drop, List.length_take]; rfl)) ?_; (with_reducible refine (triglyphref24_Word.calls k (Int.tmod (wrap64 (a0)) 3) a1 t265 _ A4.out).mono ?_); rintro e w12 ⟨rfl, hb⟩; refine ⟨_, rfl, ?_⟩; have n0_ := Aside0.mk (below_step (by repeat (first | (with_reducible first | exact HB.out | apply below_alloc | apply pw_below_drewN | apply below_drew1) | exact HB.out)) hb); clear HB; have HB := n0_; clear n0_; (try clear hb); (try clear hb2); (try clear hk); (try clear hi)))
            all_goals (go_meet; (case rel => exact ⟨_, (((Int.tmod (wrap64 (a0)) 3) == 2)), (by first | rfl | (simp; done) | (simp [*]; done) | (exfalso; simp_all; done) | (exfalso; simp_all; omega)), H', ⟨by first | omega | exact Nat.le_refl _⟩, ⟨by repeat (first | (with_reducible first | exact HB.out | apply below_alloc | apply pw_below_drewN | apply below_drew1) | exact HB.out)⟩⟩))
          · rw [if_neg c11] at H
            have c11b0 : (a1 == 53) = false := beq_eq_false_iff_ne.mpr c11
            have c11b1 : (a1 != 53) = true := bne_iff_ne.mpr c11
            have H' := Aside0.mk H
            clear H
            go_wp2_with (first | ((with_reducible refine gate_callee (f := 10) rfl ?_); refine goesL_ (some 12) rfl rfl Try.func10 (by kernel_rfl) rfl #[.int .i64 (Int.tmod (wrap64 (a0)) 3), .int .i64 a1] rfl (by (try simp only [List.map_toArray, List.map_cons, List.map_nil]); first | done | rfl | (simp only [List.length_drop, List.length_take]; rfl)) ?_; (with_reducible refine (triglyphref24_Word.calls k (Int.tmod (wrap64 (a0)) 3) a1 t265 _ A4.out).mono ?_); rintro e w13 ⟨rfl, hb⟩; refine ⟨_, rfl, ?_⟩; have n0_ := Aside0.mk (below_step (by repeat (first | (with_reducible first | exact HB.out | apply below_alloc | apply pw_below_drewN | apply below_drew1) | exact HB.out)) hb); clear HB; have HB := n0_; clear n0_; (try clear hb); (try clear hb2); (try clear hk); (try clear hi)))
            all_goals (go_meet; (case rel => exact ⟨_, (true), (by first | rfl | (simp; done) | (simp [*]; done) | (exfalso; simp_all; done) | (exfalso; simp_all; omega)), H', ⟨by first | omega | exact Nat.le_refl _⟩, ⟨by repeat (first | (with_reducible first | exact HB.out | apply below_alloc | apply pw_below_drewN | apply below_drew1) | exact HB.out)⟩⟩))
  case rest =>
    clear HC3
    try clear c1
    try clear p2
    try clear c4
    try clear c5
    try clear c5b0
    try clear c5b1
    try clear p6
    try clear c7
    try clear c7b0
    try clear c7b1
    try clear c9
    try clear c9b0
    try clear c9b1
    try clear c10
    try clear c11
    try clear c11b0
    try clear c11b1
    obtain ⟨kq, x6_2, rfl, HA, HJ2, HB⟩ := hcut
    cases kq with
    | zero => exact absurd HA.out (by simp [triglyphlaw24_FragSays.j0])
    | succ kj2 =>
      have H := HA.out; clear HA
      simp only [triglyphlaw24_FragSays.j0] at H
      have HC14 := Aside0.mk H
      clear H
      go_upto_region 3 with (fail)
      go_cut [39] (fun v39 wc => ∃ (kq : Nat) (x39_13 : Bool), v39 = .bool x39_13 ∧ Aside0 (triglyphlaw24_FragSays.j1 kq a1 (Int.tmod (wrap64 (a0)) 3) x6_2 x39_13 = some r) ∧ Aside0 (kq ≤ kj2) ∧ Aside0 (Below w.heap.size w wc))
      case first =>
        have H := HC14.out; clear HC14
        by_cases c15 : (Int.tmod (wrap64 (a0)) 3) = 1
        · rw [if_pos c15] at H
          have c15b0 : ((Int.tmod (wrap64 (a0)) 3) == 1) = true := beq_iff_eq.mpr c15
          have c15b1 : ((Int.tmod (wrap64 (a0)) 3) != 1) = false := bne_eq_false_iff_eq.mpr c15
          clear c15
          (first | rw [c15b0] | (simp only [i64_w, i32_w]; rw [c15b0]) | skip)
          by_cases c16 : a1 = 10
          · rw [if_pos c16] at H
            have c16b0 : (a1 == 10) = true := beq_iff_eq.mpr c16
            have c16b1 : (a1 != 10) = false := bne_eq_false_iff_eq.mpr c16
            clear c16
            have H' := Aside0.mk H
            clear H
            go_wp2
            all_goals (go_meet; (case rel => exact ⟨_, (true), (by first | rfl | (simp; done) | (simp [*]; done) | (exfalso; simp_all; done) | (exfalso; simp_all; omega)), H', ⟨by have := HJ2.out; first | omega | exact Nat.le_refl _⟩, ⟨by repeat (first | (with_reducible first | exact HB.out | apply below_alloc | apply pw_below_drewN | apply below_drew1) | exact HB.out)⟩⟩))
          · rw [if_neg c16] at H
            have c16b0 : (a1 == 10) = false := beq_eq_false_iff_ne.mpr c16
            have c16b1 : (a1 != 10) = true := bne_iff_ne.mpr c16
            have H' := Aside0.mk H
            clear H
            go_wp2
            all_goals (go_meet; (case rel => exact ⟨_, ((a1 == 45)), (by first | rfl | (simp; done) | (simp [*]; done) | (exfalso; simp_all; done) | (exfalso; simp_all; omega)), H', ⟨by have := HJ2.out; first | omega | exact Nat.le_refl _⟩, ⟨by repeat (first | (with_reducible first | exact HB.out | apply below_alloc | apply pw_below_drewN | apply below_drew1) | exact HB.out)⟩⟩))
        · rw [if_neg c15] at H
          have c15b0 : ((Int.tmod (wrap64 (a0)) 3) == 1) = false := beq_eq_false_iff_ne.mpr c15
          have c15b1 : ((Int.tmod (wrap64 (a0)) 3) != 1) = true := bne_iff_ne.mpr c15
          (first | rw [c15b0] | (simp only [i64_w, i32_w]; rw [c15b0]) | skip)
          have H' := Aside0.mk H
          clear H
          go_wp2
          all_goals (go_meet; (case rel => exact ⟨_, (false), (by first | rfl | (simp; done) | (simp [*]; done) | (exfalso; simp_all; done) | (exfalso; simp_all; omega)), H', ⟨by have := HJ2.out; first | omega | exact Nat.le_refl _⟩, ⟨by repeat (first | (with_reducible first | exact HB.out | apply below_alloc | apply pw_below_drewN | apply below_drew1) | exact HB.out)⟩⟩))
      case rest =>
        clear HC14
        try clear c1
        try clear p2
        try clear c4
        try clear c5
        try clear c5b0
        try clear c5b1
        try clear p6
        try clear c7
        try clear c7b0
        try clear c7b1
        try clear c9
        try clear c9b0
        try clear c9b1
        try clear c10
        try clear c11
        try clear c11b0
        try clear c11b1
        try clear c15
        try clear c15b0
        try clear c15b1
        try clear c16
        try clear c16b0
        try clear c16b1
        try clear p2
        try clear p6
        obtain ⟨kq, x39_13, rfl, HA, HJ13, HB⟩ := hcut
        cases kq with
        | zero => exact absurd HA.out (by simp [triglyphlaw24_FragSays.j1])
        | succ kj13 =>
          have H := HA.out; clear HA
          simp only [triglyphlaw24_FragSays.j1] at H
          by_cases c17 : x39_13 = true
          · subst c17
            have H1 : ((frag_Says.f kj13 (Int.tmod (wrap64 (a0)) 3) a1).bind fun t266 => (if (t266 == true) = true then ((triglyphlaw24_works.f kj13).bind fun t267 => (some t267)) else (none))) = some r := by rw [if_pos rfl] at H; exact H
            clear H; have H := H1; clear H1
            replace H := Option.bind_eq_some_iff.mp H
            obtain ⟨t266, A180, H⟩ := H
            replace H : (if (t266 == true) = true then ((triglyphlaw24_works.f kj13).bind fun t267 => (some t267)) else (none)) = some r := H
            have A18 := Aside0.mk A180
            clear A180
            by_cases c19 : (t266 == true) = true
            · rw [if_pos c19] at H
              have c19b0 : (t266 == true) = true := c19
              (try (have c19b1 : decide (t266 = true) = true := by simpa using c19))
              (try (have c19b2 : (t266 == true) = true := by simpa using c19))
              clear c19
              replace H := Option.bind_eq_some_iff.mp H
              obtain ⟨t267, A200, H⟩ := H
              replace H : (some t267) = some r := H
              have A20 := Aside0.mk A200
              clear A200
              obtain rfl := Option.some.inj H
              go_wp2_with (first | ((with_reducible refine gate_callee (f := 11) rfl ?_); refine goesL_ (some 42) rfl rfl Try.func11 (by kernel_rfl) rfl #[.int .i64 (Int.tmod (wrap64 (a0)) 3), .int .i64 a1] rfl (by (try simp only [List.map_toArray, List.map_cons, List.map_nil]); first | done | rfl | (simp only [List.length_drop, List.length_take]; rfl)) ?_; (with_reducible refine (frag_Says.calls kj13 (Int.tmod (wrap64 (a0)) 3) a1 t266 _ A18.out).mono ?_); rintro e w' ⟨rfl, ⟨nd, rfl⟩⟩; refine ⟨_, rfl, ?_⟩) | (go_at_call 7; (with_reducible refine (triglyphlaw24_works.calls kj13  t267 _ A20.out).mono ?_); rintro e w21 ⟨rfl, hb⟩; have n0_ := Aside0.mk (below_step (by repeat (first | (with_reducible first | exact HB.out | apply below_alloc | apply pw_below_drewN | apply below_drew1) | exact HB.out)) hb); clear HB; have HB := n0_; clear n0_; (try clear hb); (try clear hb2); (try clear hk); (try clear hi)))
              go_ret
              exact ⟨by first | rfl | (simp [errW_none, errW_some] <;> rfl) | (simp [*, errW_none, errW_some] <;> rfl), by repeat (first | (with_reducible first | exact HB.out | apply below_alloc | apply pw_below_drewN | apply below_drew1) | exact HB.out)⟩
            · rw [if_neg c19] at H
              exact absurd H (by simp)
          · replace c17 := Bool.eq_false_iff.mpr c17
            subst c17
            have H1 : ((frag_Says.f kj13 (Int.tmod (wrap64 (a0)) 3) a1).bind fun t268 => (if (t268 == x6_2) = true then ((triglyphlaw24_works.f kj13).bind fun t269 => (some t269)) else (none))) = some r := by rw [if_neg (show ¬ (false = true) by decide)] at H; exact H
            clear H; have H := H1; clear H1
            replace H := Option.bind_eq_some_iff.mp H
            obtain ⟨t268, A220, H⟩ := H
            replace H : (if (t268 == x6_2) = true then ((triglyphlaw24_works.f kj13).bind fun t269 => (some t269)) else (none)) = some r := H
            have A22 := Aside0.mk A220
            clear A220
            by_cases c23 : (t268 == x6_2) = true
            · rw [if_pos c23] at H
              have c23b0 : (t268 == x6_2) = true := c23
              (try (have c23b1 : decide (t268 = x6_2) = true := by simpa using c23))
              (try (have c23b2 : (t268 == x6_2) = true := by simpa using c23))
              clear c23
              replace H := Option.bind_eq_some_iff.mp H
              obtain ⟨t269, A240, H⟩ := H
              replace H : (some t269) = some r := H
              have A24 := Aside0.mk A240
              clear A240
              obtain rfl := Option.some.inj H
              go_wp2_with (first | ((with_reducible refine gate_callee (f := 11) rfl ?_); refine goesL_ (some 42) rfl rfl Try.func11 (by kernel_rfl) rfl #[.int .i64 (Int.tmod (wrap64 (a0)) 3), .int .i64 a1] rfl (by (try simp only [List.map_toArray, List.map_cons, List.map_nil]); first | done | rfl | (simp only [List.length_drop, List.length_take]; rfl)) ?_; (with_reducible refine (frag_Says.calls kj13 (Int.tmod (wrap64 (a0)) 3) a1 t268 _ A22.out).mono ?_); rintro e w' ⟨rfl, ⟨nd, rfl⟩⟩; refine ⟨_, rfl, ?_⟩) | (go_at_call 7; (with_reducible refine (triglyphlaw24_works.calls kj13  t269 _ A24.out).mono ?_); rintro e w25 ⟨rfl, hb⟩; have n0_ := Aside0.mk (below_step (by repeat (first | (with_reducible first | exact HB.out | apply below_alloc | apply pw_below_drewN | apply below_drew1) | exact HB.out)) hb); clear HB; have HB := n0_; clear n0_; (try clear hb); (try clear hb2); (try clear hk); (try clear hi)))
              go_ret
              exact ⟨by first | rfl | (simp [errW_none, errW_some] <;> rfl) | (simp [*, errW_none, errW_some] <;> rfl), by repeat (first | (with_reducible first | exact HB.out | apply below_alloc | apply pw_below_drewN | apply below_drew1) | exact HB.out)⟩
            · rw [if_neg c23] at H
              exact absurd H (by simp)

/-- THE ONE PURE STATEMENT of triglyphlaw24_FragSays: yours. -/
def triglyphlaw24_FragSays.Pure : Prop := ∀ (a0 : Int) (a1 : Int), (Lit.int .u8 a0).wf = true → (Lit.int .i64 a1).wf = true → ∃ k, triglyphlaw24_FragSays.f k a0 a1 = some true
theorem triglyphlaw24_FragSays.walk (P : triglyphlaw24_FragSays.Pure) (a0 : Int) (a1 : Int) (w : World) (w0 : (Lit.int .u8 a0).wf = true) (w1 : (Lit.int .i64 a1).wf = true) :
    Calls Try.prog 4 #[.int .u8 a0, .int .i64 a1] w fun e w' => e = .returned (.bool true) ∧ Below w.heap.size w w' := by
  obtain ⟨k, h⟩ := P a0 a1 w0 w1
  refine (triglyphlaw24_FragSays.calls k a0 a1 true w h).mono ?_
  rintro e w' ⟨rfl, hd⟩
  exact ⟨rfl, hd⟩

end Go.Proofs.Ytfjkclhkobnakaa.P
