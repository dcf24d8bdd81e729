/- Written by a program of this session: the functions that the laws reach, what each comes to, and each law as it is stated, for every input. No condition. -/
import Derived.Test.YtfjkclhkobnakaaPx0
namespace Go.Proofs.Ytfjkclhkobnakaa.P
open Go.RowKit Go.Proofs.YtfjkclhkobnakaaW.PrintWords Go.Proofs.YtfjkclhkobnakaaW.PrintLast Go.Proofs.YtfjkclhkobnakaaW.PrintMore
attribute [local go_sem] max2_int min2_int max_two min_two max_three min_three max_four min_four   -- for this text's walks alone
set_option linter.unusedVariables false
set_option linter.unusedSimpArgs false
mutual
def triglyphref10_Uses.j0 : Nat → Int → Bool → Int → Int → ByteArray → List Int → List (S57) → List (S28) → Int → Option (Bool)
 | 0, _, _, _, _, _, _, _, _, _ => none
 | k + 1, x1, x17, x239000, x239001, x239002, x239003, x239004, x239005, x239006 => if x17 = true then (some false) else (triglyphref10_Uses.l0 k x1 0 x239000 x239001 x239002 x239003 x239004 x239005 x239006)
def triglyphref10_Uses.l0 : Nat → Int → Int → Int → Int → ByteArray → List Int → List (S57) → List (S28) → Int → Option (Bool)
 | 0, _, _, _, _, _, _, _, _, _ => none
 | k + 1, x1, x5, x239000, x239001, x239002, x239003, x239004, x239005, x239006 => if x5 < (x239005.length : Int) then (if 0 ≤ x5 then ((triglyphref10_Uses.f k ((rd_T28 x239005 x5).f0) ((rd_T28 x239005 x5).f1) ((rd_T28 x239005 x5).f2) ((rd_T28 x239005 x5).f3.f0) ((rd_T28 x239005 x5).f3.f1) ((rd_T28 x239005 x5).f4) ((rd_T28 x239005 x5).f5) x1).bind fun t240 => (if t240 = true then (some true) else (triglyphref10_Uses.l0 k x1 (wrap64 (x5 + 1)) x239000 x239001 x239002 x239003 x239004 x239005 x239006))) else (none)) else (some false)
def triglyphref10_Uses.f : Nat → Int → Int → ByteArray → List Int → List (S57) → List (S28) → Int → Int → Option (Bool)
 | 0, _, _, _, _, _, _, _, _ => none
 | k + 1, a0_0, a0_1, a0_2, l0_3, l0_4, l0_5, a0_6, a1 => if a0_0 = a1 then (some true) else (if a0_0 = 22 then (triglyphref10_Uses.j0 k a1 true a0_0 a0_1 a0_2 l0_3 l0_4 l0_5 a0_6) else (triglyphref10_Uses.j0 k a1 (a0_0 == 23) a0_0 a0_1 a0_2 l0_3 l0_4 l0_5 a0_6))
end
theorem triglyphref10_Uses.mono_l : ∀ k, (∀ y0 y1 y2 y3 y4 y5 y6 y7, LeO (triglyphref10_Uses.f k y0 y1 y2 y3 y4 y5 y6 y7) (triglyphref10_Uses.f (k + 1) y0 y1 y2 y3 y4 y5 y6 y7)) ∧ (∀ y0 y1 y2 y3 y4 y5 y6 y7 y8, LeO (triglyphref10_Uses.j0 k y0 y1 y2 y3 y4 y5 y6 y7 y8) (triglyphref10_Uses.j0 (k + 1) y0 y1 y2 y3 y4 y5 y6 y7 y8)) ∧ (∀ y0 y1 y2 y3 y4 y5 y6 y7 y8, LeO (triglyphref10_Uses.l0 k y0 y1 y2 y3 y4 y5 y6 y7 y8) (triglyphref10_Uses.l0 (k + 1) y0 y1 y2 y3 y4 y5 y6 y7 y8))
 | 0 => ⟨fun _ _ _ _ _ _ _ _ r h => by simp [triglyphref10_Uses.f] at h, fun _ _ _ _ _ _ _ _ _ r h => by simp [triglyphref10_Uses.j0] at h, fun _ _ _ _ _ _ _ _ _ r h => by simp [triglyphref10_Uses.l0] at h⟩
 | k + 1 => by
  obtain ⟨ih0, ih1, ih2⟩ := triglyphref10_Uses.mono_l k
  refine ⟨?_, ?_, ?_⟩
  ·intro y0 y1 y2 y3 y4 y5 y6 y7
   unfold triglyphref10_Uses.f
   repeat' first
   | (with_reducible exact ih0 _ _ _ _ _ _ _ _)
   | (with_reducible exact ih1 _ _ _ _ _ _ _ _ _)
   | (with_reducible exact ih2 _ _ _ _ _ _ _ _ _)
   | (with_reducible exact LeO.refl _)
   | (with_reducible exact LeO.none _)
   | (with_reducible refine LeO.ite ?_ ?_)
   | (with_reducible refine LeO.bind ?_ (fun _ => ?_))






  ·intro y0 y1 y2 y3 y4 y5 y6 y7 y8
   unfold triglyphref10_Uses.j0
   repeat' first
   | (with_reducible exact ih0 _ _ _ _ _ _ _ _)
   | (with_reducible exact ih1 _ _ _ _ _ _ _ _ _)
   | (with_reducible exact ih2 _ _ _ _ _ _ _ _ _)
   | (with_reducible exact LeO.refl _)
   | (with_reducible exact LeO.none _)
   | (with_reducible refine LeO.ite ?_ ?_)
   | (with_reducible refine LeO.bind ?_ (fun _ => ?_))






  ·intro y0 y1 y2 y3 y4 y5 y6 y7 y8
   unfold triglyphref10_Uses.l0
   repeat' first
   | (with_reducible exact ih0 _ _ _ _ _ _ _ _)
   | (with_reducible exact ih1 _ _ _ _ _ _ _ _ _)
   | (with_reducible exact ih2 _ _ _ _ _ _ _ _ _)
   | (with_reducible exact LeO.refl _)
   | (with_reducible exact LeO.none _)
   | (with_reducible refine LeO.ite ?_ ?_)
   | (with_reducible refine LeO.bind ?_ (fun _ => ?_))
theorem triglyphref10_Uses.mono : ∀ a0 a1 a2 a3 a4 a5 a6 a7 k, LeO (triglyphref10_Uses.f k a0 a1 a2 a3 a4 a5 a6 a7) (triglyphref10_Uses.f (k + 1) a0 a1 a2 a3 a4 a5 a6 a7) := by
 intro a0 a1 a2 a3 a4 a5 a6 a7 k
 obtain ⟨ih0, ih1, ih2⟩ := triglyphref10_Uses.mono_l k
 exact ih0 a0 a1 a2 a3 a4 a5 a6 a7
set_option maxHeartbeats 8000000 in
set_option maxRecDepth 100000 in
theorem triglyphref10_Uses.calls (k : Nat) : ∀ (a0_0 : Int) (a0_1 : Int) (a0_2 : ByteArray) (A0_3 : Option Addr) (c0_3 : Nat) (l0_3 : List Int) (A0_4 : Option Addr) (c0_4 : Nat) (l0_4 : List (S57)) (A0_5 : Option Addr) (c0_5 : Nat) (l0_5 : List (S28)) (a0_6 : Int) (a1 : Int) (r : Bool) (w : World) (hr0_3 : Kd.C (Kd.int .i64) w A0_3 l0_3.length l0_3) (hc0_3 : l0_3.length ≤ c0_3) (hr0_4 : Kd.C k57 w A0_4 l0_4.length l0_4) (hc0_4 : l0_4.length ≤ c0_4) (hr0_5 : Kd.C k28 w A0_5 l0_5.length l0_5) (hc0_5 : l0_5.length ≤ c0_5) (h : triglyphref10_Uses.f k a0_0 a0_1 a0_2 l0_3 l0_4 l0_5 a0_6 a1 = some r),
  Calls Try.prog 62 #[.agg #[.int .i64 a0_0, .int .i64 a0_1, .string a0_2, .slice A0_3 l0_3.length c0_3, .slice A0_4 l0_4.length c0_4, .slice A0_5 l0_5.length c0_5, .int .i64 a0_6], .int .i64 a1] w fun e w' => e = .returned (.bool r) ∧ Below w.heap.size w w' := by
 induction k using Nat.strongRecOn with
 | _ k ih =>
 intro a0_0 a0_1 a0_2 A0_3 c0_3 l0_3 A0_4 c0_4 l0_4 A0_5 c0_5 l0_5 a0_6 a1 r w hr0_3 hc0_3 hr0_4 hc0_4 hr0_5 hc0_5 h
 cases k with
 | zero => exact absurd h (by simp [triglyphref10_Uses.f])
 | succ k =>
 simp only [triglyphref10_Uses.f] at h
 have hu28 := Try.underlying28
 have HR0_3 := gA hr0_3
 have HC0_3 := gA hc0_3
 clear hr0_3 hc0_3
 have HR0_4 := gA hr0_4
 have HC0_4 := gA hc0_4
 clear hr0_4 hc0_4
 have HR0_5 := gA hr0_5
 have HC0_5 := gA hc0_5
 clear hr0_5 hc0_5
 have HB := gA (Below.refl w.heap.size w)
 have H : (if a0_0 = a1 then (some true) else (if a0_0 = 22 then (triglyphref10_Uses.j0 k a1 true a0_0 a0_1 a0_2 l0_3 l0_4 l0_5 a0_6) else (triglyphref10_Uses.j0 k a1 (a0_0 == 23) a0_0 a0_1 a0_2 l0_3 l0_4 l0_5 a0_6))) = some r := h
 clear h
 by_cases c3 : a0_0 = a1
 ·rw [if_pos c3] at H
  have c3b0 : (a0_0 == a1) = true := beq_iff_eq.mpr c3
  have c3b1 : (a0_0 != a1) = false := bne_eq_false_iff_eq.mpr c3
  clear c3
  obtain rfl := Option.some.inj H
  go_enter Try.func62, Try.ntmps62
  go_wp2_with (first | ((with_reducible refine gate_dst (N := 2) rfl ?_); refine box_event ?hg (N := 2) ?hd (cs := #[.int .i64 a0_0, .int .i64 a0_1, .string a0_2, .slice A0_3 l0_3.length c0_3, .slice A0_4 l0_4.length c0_4, .slice A0_5 l0_5.length c0_5, .int .i64 a0_6]) (t := 28) ?hr ?_; (case hd => rfl); (case hg => rfl); (case hr => first | (go_simp; done) | (go_simp; rfl)); intro gb238 hg w4 hbox hb; have BK238 := gA (hbox); have GW238 := gA ((by rw [hg]; exact (below_size (gB HB)) : w.heap.size ≤ gb238)); have GE238 := gA ((by rw [hg]; exact (below_size (gB HB)) : w.heap.size ≤ gb238)); replace HB := gA (below_step (gB HB) hb); clear hb hbox hg; have hcz5_0 := gz BK238 0 rfl; have hcz5_1 := gz BK238 1 rfl; have hcz5_2 := gz BK238 2 rfl; have hcz5_3 := gz BK238 3 rfl; have hcz5_4 := gz BK238 4 rfl; have hcz5_5 := gz BK238 5 rfl; have hcz5_6 := gz BK238 6 rfl; have hfz5_0 := blk_frozen BK238.out 0; have hfz5_1 := blk_frozen BK238.out 1; have hfz5_2 := blk_frozen BK238.out 2; have hfz5_3 := blk_frozen BK238.out 3; have hfz5_4 := blk_frozen BK238.out 4; have hfz5_5 := blk_frozen BK238.out 5; have hfz5_6 := blk_frozen BK238.out 6))
  go_ret
  exact ⟨rfl, by repeat first | exact gB HB | refine below_set ?_ GE238.out⟩
 ·rw [if_neg c3] at H
  have c3b0 : (a0_0 == a1) = false := beq_eq_false_iff_ne.mpr c3
  have c3b1 : (a0_0 != a1) = true := bne_iff_ne.mpr c3
  have HC6 := gA H
  clear H
  go_enter Try.func62, Try.ntmps62
  go_upto_region 3 with (first | ((with_reducible refine gate_dst (N := 2) rfl ?_); refine box_event ?hg (N := 2) ?hd (cs := #[.int .i64 a0_0, .int .i64 a0_1, .string a0_2, .slice A0_3 l0_3.length c0_3, .slice A0_4 l0_4.length c0_4, .slice A0_5 l0_5.length c0_5, .int .i64 a0_6]) (t := 28) ?hr ?_; (case hd => rfl); (case hg => rfl); (case hr => first | (go_simp; done) | (go_simp; rfl)); intro gb238 hg w7 hbox hb; have BK238 := gA (hbox); have GW238 := gA ((by rw [hg]; exact (below_size (gB HB)) : w.heap.size ≤ gb238)); have GE238 := gA ((by rw [hg]; exact (below_size (gB HB)) : w.heap.size ≤ gb238)); replace HB := gA (below_step (gB HB) hb); clear hb hbox hg; have hcz8_0 := gz BK238 0 rfl; have hcz8_1 := gz BK238 1 rfl; have hcz8_2 := gz BK238 2 rfl; have hcz8_3 := gz BK238 3 rfl; have hcz8_4 := gz BK238 4 rfl; have hcz8_5 := gz BK238 5 rfl; have hcz8_6 := gz BK238 6 rfl; have hfz8_0 := blk_frozen BK238.out 0; have hfz8_1 := blk_frozen BK238.out 1; have hfz8_2 := blk_frozen BK238.out 2; have hfz8_3 := blk_frozen BK238.out 3; have hfz8_4 := blk_frozen BK238.out 4; have hfz8_5 := blk_frozen BK238.out 5; have hfz8_6 := blk_frozen BK238.out 6))
  (try simp only [Act.put, List.setIfInBounds_toArray, List.set_cons_zero, List.set_cons_succ])
  go_cut [17] (fun v17 wc => ∃ (kq : Nat) (x17_5 : Bool), v17 = .bool x17_5 ∧ Aside0 (triglyphref10_Uses.j0 kq a1 x17_5 a0_0 a0_1 a0_2 l0_3 l0_4 l0_5 a0_6 = some r) ∧ Aside0 (kq ≤ k) ∧ Aside0 (wc.heap[gb238]? = some (.cells #[.int .i64 a0_0, .int .i64 a0_1, .string a0_2, (.slice A0_3 l0_3.length c0_3), (.slice A0_4 l0_4.length c0_4), (.slice A0_5 l0_5.length c0_5), .int .i64 a0_6] 28 (0, 0))) ∧ Aside0 (Below w.heap.size w wc))
  case first =>
   have H := HC6.out; clear HC6
   by_cases c9 : a0_0 = 22
   ·rw [if_pos c9] at H
    have c9b0 : (a0_0 == 22) = true := beq_iff_eq.mpr c9
    have c9b1 : (a0_0 != 22) = false := bne_eq_false_iff_eq.mpr c9
    clear c9
    (first | rw [c9b0] | rw [c9b1] | (simp only [i64_w, i32_w]; rw [c9b0]) | skip)
    have H' := gA H
    clear H
    have hcz10_0 := gz BK238 0 rfl
    have hcz10_1 := gz BK238 1 rfl
    have hcz10_2 := gz BK238 2 rfl
    have hcz10_3 := gz BK238 3 rfl
    have hcz10_4 := gz BK238 4 rfl
    have hcz10_5 := gz BK238 5 rfl
    have hcz10_6 := gz BK238 6 rfl
    have hfz10_0 := blk_frozen BK238.out 0
    have hfz10_1 := blk_frozen BK238.out 1
    have hfz10_2 := blk_frozen BK238.out 2
    have hfz10_3 := blk_frozen BK238.out 3
    have hfz10_4 := blk_frozen BK238.out 4
    have hfz10_5 := blk_frozen BK238.out 5
    have hfz10_6 := blk_frozen BK238.out 6
    go_wp2
    all_goals (go_meet; (case rel => exact ⟨_, (true), (by first | rfl | (simp; done) | (simp [*]; done) | (exfalso; simp_all; done) | (exfalso; simp_all; omega)), H', ⟨by first | omega | exact Nat.le_refl _⟩, ⟨gK BK238⟩, ⟨gB HB⟩⟩))
   ·rw [if_neg c9] at H
    have c9b0 : (a0_0 == 22) = false := beq_eq_false_iff_ne.mpr c9
    have c9b1 : (a0_0 != 22) = true := bne_iff_ne.mpr c9
    (first | rw [c9b0] | rw [c9b1] | (simp only [i64_w, i32_w]; rw [c9b0]) | skip)
    have H' := gA H
    clear H
    have hcz11_0 := gz BK238 0 rfl
    have hcz11_1 := gz BK238 1 rfl
    have hcz11_2 := gz BK238 2 rfl
    have hcz11_3 := gz BK238 3 rfl
    have hcz11_4 := gz BK238 4 rfl
    have hcz11_5 := gz BK238 5 rfl
    have hcz11_6 := gz BK238 6 rfl
    have hfz11_0 := blk_frozen BK238.out 0
    have hfz11_1 := blk_frozen BK238.out 1
    have hfz11_2 := blk_frozen BK238.out 2
    have hfz11_3 := blk_frozen BK238.out 3
    have hfz11_4 := blk_frozen BK238.out 4
    have hfz11_5 := blk_frozen BK238.out 5
    have hfz11_6 := blk_frozen BK238.out 6
    go_wp2
    all_goals (go_meet; (case rel => exact ⟨_, ((a0_0 == 23)), (by first | rfl | (simp; done) | (simp [*]; done) | (exfalso; simp_all; done) | (exfalso; simp_all; omega)), H', ⟨by first | omega | exact Nat.le_refl _⟩, ⟨gK BK238⟩, ⟨gB HB⟩⟩))
  case rest =>
   clear HC6
   try clear p2
   try clear c3
   try clear c3b0
   try clear c3b1
   try clear c6
   try clear c9
   try clear c9b0
   try clear c9b1
   try clear hcz10_0
   try clear hcz10_1
   try clear hcz10_2
   try clear hcz10_3
   try clear hcz10_4
   try clear hcz10_5
   try clear hcz10_6
   try clear hcz11_0
   try clear hcz11_1
   try clear hcz11_2
   try clear hcz11_3
   try clear hcz11_4
   try clear hcz11_5
   try clear hcz11_6
   try clear hcz5_0
   try clear hcz5_1
   try clear hcz5_2
   try clear hcz5_3
   try clear hcz5_4
   try clear hcz5_5
   try clear hcz5_6
   try clear hcz8_0
   try clear hcz8_1
   try clear hcz8_2
   try clear hcz8_3
   try clear hcz8_4
   try clear hcz8_5
   try clear hcz8_6
   try clear hfz10_0
   try clear hfz10_1
   try clear hfz10_2
   try clear hfz10_3
   try clear hfz10_4
   try clear hfz10_5
   try clear hfz10_6
   try clear hfz11_0
   try clear hfz11_1
   try clear hfz11_2
   try clear hfz11_3
   try clear hfz11_4
   try clear hfz11_5
   try clear hfz11_6
   try clear hfz5_0
   try clear hfz5_1
   try clear hfz5_2
   try clear hfz5_3
   try clear hfz5_4
   try clear hfz5_5
   try clear hfz5_6
   try clear hfz8_0
   try clear hfz8_1
   try clear hfz8_2
   try clear hfz8_3
   try clear hfz8_4
   try clear hfz8_5
   try clear hfz8_6
   obtain ⟨kq, x17_5, rfl, HA, HJ5, BK238, HB⟩ := hcut
   cases kq with
   | zero => exact absurd HA.out (by simp [triglyphref10_Uses.j0])
   | succ kj5 =>
    have H := HA.out; clear HA
    simp only [triglyphref10_Uses.j0] at H
    by_cases c12 : x17_5 = true
    ·subst c12
     have H1 : (some false) = some r := by rw [if_pos rfl] at H; exact H
     clear H; have H := H1; clear H1
     obtain rfl := Option.some.inj H
     go_wp2
     go_ret
     exact ⟨rfl, by repeat first | exact gB HB | refine below_set ?_ GE238.out⟩
    ·replace c12 := Bool.eq_false_iff.mpr c12
     subst c12
     have H1 : (triglyphref10_Uses.l0 kj5 a1 0 a0_0 a0_1 a0_2 l0_3 l0_4 l0_5 a0_6) = some r := by rw [if_neg (show ¬ (false = true) by decide)] at H; exact H
     clear H; have H := H1; clear H1
     have H' := gA H
     clear H
     go_wp2
     go_loopg [5] kj5 (fun kq v5 w' => ∃ (x5_2 : Int), v5 = .int .i64 x5_2 ∧ Aside0 (triglyphref10_Uses.l0 kq a1 x5_2 a0_0 a0_1 a0_2 l0_3 l0_4 l0_5 a0_6 = some r) ∧ Aside0 (kq ≤ kj5) ∧ Aside0 (w'.heap[gb238]? = some (.cells #[.int .i64 a0_0, .int .i64 a0_1, .string a0_2, (.slice A0_3 l0_3.length c0_3), (.slice A0_4 l0_4.length c0_4), (.slice A0_5 l0_5.length c0_5), .int .i64 a0_6] 28 (0, 0))) ∧ Aside0 (Below w.heap.size w w'))
     case atStart => exact ⟨(0), (rfl), H', ⟨Nat.le_refl _⟩, ⟨gK BK238⟩, ⟨by repeat first | exact gB HB | refine below_set ?_ GE238.out⟩⟩
     case round =>
      clear H'
      try clear c1
      try clear p2
      try clear c3
      try clear c3b0
      try clear c3b1
      try clear c6
      try clear c9
      try clear c9b0
      try clear c9b1
      try clear c12
      try clear hcz10_0
      try clear hcz10_1
      try clear hcz10_2
      try clear hcz10_3
      try clear hcz10_4
      try clear hcz10_5
      try clear hcz10_6
      try clear hcz11_0
      try clear hcz11_1
      try clear hcz11_2
      try clear hcz11_3
      try clear hcz11_4
      try clear hcz11_5
      try clear hcz11_6
      try clear hcz5_0
      try clear hcz5_1
      try clear hcz5_2
      try clear hcz5_3
      try clear hcz5_4
      try clear hcz5_5
      try clear hcz5_6
      try clear hcz8_0
      try clear hcz8_1
      try clear hcz8_2
      try clear hcz8_3
      try clear hcz8_4
      try clear hcz8_5
      try clear hcz8_6
      try clear hfz10_0
      try clear hfz10_1
      try clear hfz10_2
      try clear hfz10_3
      try clear hfz10_4
      try clear hfz10_5
      try clear hfz10_6
      try clear hfz11_0
      try clear hfz11_1
      try clear hfz11_2
      try clear hfz11_3
      try clear hfz11_4
      try clear hfz11_5
      try clear hfz11_6
      try clear hfz5_0
      try clear hfz5_1
      try clear hfz5_2
      try clear hfz5_3
      try clear hfz5_4
      try clear hfz5_5
      try clear hfz5_6
      try clear hfz8_0
      try clear hfz8_1
      try clear hfz8_2
      try clear hfz8_3
      try clear hfz8_4
      try clear hfz8_5
      try clear hfz8_6
      try clear p2
      obtain ⟨x5_2, rfl, HA, HK2, BK238, HB⟩ := hrel
      cases gk with
      | zero => exact absurd HA.out (by simp [triglyphref10_Uses.l0])
      | succ k2 =>
       have H := HA.out; clear HA
       simp only [triglyphref10_Uses.l0] at H
       by_cases c13 : x5_2 < (l0_5.length : Int)
       ·rw [if_pos c13] at H
        have c13b0 := decide_eq_true c13
        clear c13
        obtain ⟨c14, H⟩ := iS H
        have c14b0 := decide_eq_true c14
        clear c14
        replace H := Option.bind_eq_some_iff.mp H
        obtain ⟨t240, A150, H⟩ := H
        replace H : (if t240 = true then (some true) else (triglyphref10_Uses.l0 k2 a1 (wrap64 (x5_2 + 1)) a0_0 a0_1 a0_2 l0_3 l0_4 l0_5 a0_6)) = some r := H
        have A15 := gA A150
        clear A150
        by_cases c16 : t240 = true
        ·subst c16
         have H1 : (some true) = some r := by rw [if_pos rfl] at H; exact H
         clear H; have H := H1; clear H1
         obtain rfl := Option.some.inj H
         have hcz17_0 := gz BK238 0 rfl
         have hcz17_1 := gz BK238 1 rfl
         have hcz17_2 := gz BK238 2 rfl
         have hcz17_3 := gz BK238 3 rfl
         have hcz17_4 := gz BK238 4 rfl
         have hcz17_5 := gz BK238 5 rfl
         have hcz17_6 := gz BK238 6 rfl
         have hfz17_0 := blk_frozen BK238.out 0
         have hfz17_1 := blk_frozen BK238.out 1
         have hfz17_2 := blk_frozen BK238.out 2
         have hfz17_3 := blk_frozen BK238.out 3
         have hfz17_4 := blk_frozen BK238.out 4
         have hfz17_5 := blk_frozen BK238.out 5
         have hfz17_6 := blk_frozen BK238.out 6
         have p239 : 0 ≤ (x5_2 : Int) := of_decide_eq_true (by assumption)
         have q239 : x5_2 < (l0_5.length : Int) := of_decide_eq_true (by assumption)
         obtain ⟨ad239, A239_3, c239_3, A239_4, c239_4, A239_5, c239_5, e239, hx239_0, hx239_1, hx239_2, hx239_3, hx239_4, hx239_5, hx239_6, hl239_3, hi239_3, hl239_4, hi239_4, hl239_5, hi239_5⟩ := at_T28 HR0_5.out x5_2 p239 q239
         cases e239
         replace hx239_0 := (HB.out.cell (World.block_lt_of_cell? w _ hx239_0)).trans hx239_0
         replace hx239_1 := (HB.out.cell (World.block_lt_of_cell? w _ hx239_1)).trans hx239_1
         replace hx239_2 := (HB.out.cell (World.block_lt_of_cell? w _ hx239_2)).trans hx239_2
         replace hx239_3 := (HB.out.cell (World.block_lt_of_cell? w _ hx239_3)).trans hx239_3
         replace hx239_4 := (HB.out.cell (World.block_lt_of_cell? w _ hx239_4)).trans hx239_4
         replace hx239_5 := (HB.out.cell (World.block_lt_of_cell? w _ hx239_5)).trans hx239_5
         replace hx239_6 := (HB.out.cell (World.block_lt_of_cell? w _ hx239_6)).trans hx239_6
         have HR239_3 := gA hi239_3
         have HC239_3 := gA hl239_3
         clear hi239_3 hl239_3
         have HR239_4 := gA hi239_4
         have HC239_4 := gA hl239_4
         clear hi239_4 hl239_4
         have HR239_5 := gA hi239_5
         have HC239_5 := gA hl239_5
         clear hi239_5 hl239_5
         replace p239 := eq_true p239
         replace q239 := eq_true q239
         go_wp2_with (first | ((with_reducible refine gate_callee (f := 62) rfl ?_); refine goesL_ (some 31) rfl rfl Try.func62 (by kernel_rfl) rfl #[.agg #[.int .i64 ((rd_T28 l0_5 x5_2).f0), .int .i64 ((rd_T28 l0_5 x5_2).f1), .string ((rd_T28 l0_5 x5_2).f2), .slice A239_3 ((rd_T28 l0_5 x5_2).f3.f0).length c239_3, .slice A239_4 ((rd_T28 l0_5 x5_2).f3.f1).length c239_4, .slice A239_5 ((rd_T28 l0_5 x5_2).f4).length c239_5, .int .i64 ((rd_T28 l0_5 x5_2).f5)], .int .i64 a1] rfl (by (try simp only [List.map_toArray, List.map_cons, List.map_nil]); first | done | rfl | (simp only [List.length_drop, List.length_take]; rfl)) ?_; (with_reducible refine (ih k2 (by have := HJ5.out; have := HK2.out; omega) ((rd_T28 l0_5 x5_2).f0) ((rd_T28 l0_5 x5_2).f1) ((rd_T28 l0_5 x5_2).f2) _ _ ((rd_T28 l0_5 x5_2).f3.f0) _ _ ((rd_T28 l0_5 x5_2).f3.f1) _ _ ((rd_T28 l0_5 x5_2).f4) ((rd_T28 l0_5 x5_2).f5) a1 true _ ?side1 ?side2 ?side3 ?side4 ?side5 ?side6 A15.out).mono ?_); (case side1 => exact gC HR239_3 HB); (case side2 => exact HC239_3.out); (case side3 => exact gC HR239_4 HB); (case side4 => exact HC239_4.out); (case side5 => exact gC HR239_5 HB); (case side6 => exact HC239_5.out); rintro e w18 ⟨rfl, hb⟩; refine ⟨_, rfl, ?_⟩; replace BK238 := gA (blk_below (gK BK238) hb); replace HB := gA (below_step (gB HB) hb); (try clear hb)))
         go_ret
         exact ⟨rfl, by repeat first | exact gB HB | refine below_set ?_ GE238.out⟩
        ·replace c16 := Bool.eq_false_iff.mpr c16
         subst c16
         have H1 : (triglyphref10_Uses.l0 k2 a1 (wrap64 (x5_2 + 1)) a0_0 a0_1 a0_2 l0_3 l0_4 l0_5 a0_6) = some r := by rw [if_neg (show ¬ (false = true) by decide)] at H; exact H
         clear H; have H := H1; clear H1
         have H' := gA H
         clear H
         have hcz19_0 := gz BK238 0 rfl
         have hcz19_1 := gz BK238 1 rfl
         have hcz19_2 := gz BK238 2 rfl
         have hcz19_3 := gz BK238 3 rfl
         have hcz19_4 := gz BK238 4 rfl
         have hcz19_5 := gz BK238 5 rfl
         have hcz19_6 := gz BK238 6 rfl
         have hfz19_0 := blk_frozen BK238.out 0
         have hfz19_1 := blk_frozen BK238.out 1
         have hfz19_2 := blk_frozen BK238.out 2
         have hfz19_3 := blk_frozen BK238.out 3
         have hfz19_4 := blk_frozen BK238.out 4
         have hfz19_5 := blk_frozen BK238.out 5
         have hfz19_6 := blk_frozen BK238.out 6
         have p239 : 0 ≤ (x5_2 : Int) := of_decide_eq_true (by assumption)
         have q239 : x5_2 < (l0_5.length : Int) := of_decide_eq_true (by assumption)
         obtain ⟨ad239, A239_3, c239_3, A239_4, c239_4, A239_5, c239_5, e239, hx239_0, hx239_1, hx239_2, hx239_3, hx239_4, hx239_5, hx239_6, hl239_3, hi239_3, hl239_4, hi239_4, hl239_5, hi239_5⟩ := at_T28 HR0_5.out x5_2 p239 q239
         cases e239
         replace hx239_0 := (HB.out.cell (World.block_lt_of_cell? w _ hx239_0)).trans hx239_0
         replace hx239_1 := (HB.out.cell (World.block_lt_of_cell? w _ hx239_1)).trans hx239_1
         replace hx239_2 := (HB.out.cell (World.block_lt_of_cell? w _ hx239_2)).trans hx239_2
         replace hx239_3 := (HB.out.cell (World.block_lt_of_cell? w _ hx239_3)).trans hx239_3
         replace hx239_4 := (HB.out.cell (World.block_lt_of_cell? w _ hx239_4)).trans hx239_4
         replace hx239_5 := (HB.out.cell (World.block_lt_of_cell? w _ hx239_5)).trans hx239_5
         replace hx239_6 := (HB.out.cell (World.block_lt_of_cell? w _ hx239_6)).trans hx239_6
         have HR239_3 := gA hi239_3
         have HC239_3 := gA hl239_3
         clear hi239_3 hl239_3
         have HR239_4 := gA hi239_4
         have HC239_4 := gA hl239_4
         clear hi239_4 hl239_4
         have HR239_5 := gA hi239_5
         have HC239_5 := gA hl239_5
         clear hi239_5 hl239_5
         replace p239 := eq_true p239
         replace q239 := eq_true q239
         go_wp2_with (first | ((with_reducible refine gate_callee (f := 62) rfl ?_); refine goesL_ (some 31) rfl rfl Try.func62 (by kernel_rfl) rfl #[.agg #[.int .i64 ((rd_T28 l0_5 x5_2).f0), .int .i64 ((rd_T28 l0_5 x5_2).f1), .string ((rd_T28 l0_5 x5_2).f2), .slice A239_3 ((rd_T28 l0_5 x5_2).f3.f0).length c239_3, .slice A239_4 ((rd_T28 l0_5 x5_2).f3.f1).length c239_4, .slice A239_5 ((rd_T28 l0_5 x5_2).f4).length c239_5, .int .i64 ((rd_T28 l0_5 x5_2).f5)], .int .i64 a1] rfl (by (try simp only [List.map_toArray, List.map_cons, List.map_nil]); first | done | rfl | (simp only [List.length_drop, List.length_take]; rfl)) ?_; (with_reducible refine (ih k2 (by have := HJ5.out; have := HK2.out; omega) ((rd_T28 l0_5 x5_2).f0) ((rd_T28 l0_5 x5_2).f1) ((rd_T28 l0_5 x5_2).f2) _ _ ((rd_T28 l0_5 x5_2).f3.f0) _ _ ((rd_T28 l0_5 x5_2).f3.f1) _ _ ((rd_T28 l0_5 x5_2).f4) ((rd_T28 l0_5 x5_2).f5) a1 false _ ?side1 ?side2 ?side3 ?side4 ?side5 ?side6 A15.out).mono ?_); (case side1 => exact gC HR239_3 HB); (case side2 => exact HC239_3.out); (case side3 => exact gC HR239_4 HB); (case side4 => exact HC239_4.out); (case side5 => exact gC HR239_5 HB); (case side6 => exact HC239_5.out); rintro e w20 ⟨rfl, hb⟩; refine ⟨_, rfl, ?_⟩; replace BK238 := gA (blk_below (gK BK238) hb); replace HB := gA (below_step (gB HB) hb); (try clear hb)))
         go_roundg k2
         case measure => have := HJ5.out; have := HK2.out; omega
         case rel => exact ⟨(wrap64 (x5_2 + 1)), (rfl), H', ⟨by have := HJ5.out; have := HK2.out; omega⟩, ⟨gK BK238⟩, ⟨gB HB⟩⟩
       ·rw [if_neg c13] at H
        have c13b0 := decide_eq_false c13
        clear c13
        obtain rfl := Option.some.inj H
        have hcz21_0 := gz BK238 0 rfl
        have hcz21_1 := gz BK238 1 rfl
        have hcz21_2 := gz BK238 2 rfl
        have hcz21_3 := gz BK238 3 rfl
        have hcz21_4 := gz BK238 4 rfl
        have hcz21_5 := gz BK238 5 rfl
        have hcz21_6 := gz BK238 6 rfl
        have hfz21_0 := blk_frozen BK238.out 0
        have hfz21_1 := blk_frozen BK238.out 1
        have hfz21_2 := blk_frozen BK238.out 2
        have hfz21_3 := blk_frozen BK238.out 3
        have hfz21_4 := blk_frozen BK238.out 4
        have hfz21_5 := blk_frozen BK238.out 5
        have hfz21_6 := blk_frozen BK238.out 6
        go_wp2
        go_ret
        exact ⟨rfl, by repeat first | exact gB HB | refine below_set ?_ GE238.out⟩
end Go.Proofs.Ytfjkclhkobnakaa.P
