/- Written by a program of this session: the functions that the laws reach, what each comes to, and each law as it is stated, for every input. No condition. -/
import Derived.Test.YtfjkclhkobnakaaPx0
import Derived.Test.YtfjkclhkobnakaaPx10
namespace Go.Proofs.Ytfjkclhkobnakaa.P
open Go.RowKit Go.Proofs.YtfjkclhkobnakaaW.PrintWords Go.Proofs.YtfjkclhkobnakaaW.PrintLast Go.Proofs.YtfjkclhkobnakaaW.PrintMore
attribute [local go_sem] max2_int min2_int max_two min_two max_three min_three max_four min_four   -- for this text's walks alone
set_option linter.unusedVariables false
set_option linter.unusedSimpArgs false
mutual
def triglyphref10_Literal.j0 : Nat → Bool → List Int → List (S57) → Option (Bool)
 | 0, _, _, _ => none
 | k + 1, x13, x233000, x233001 => if x13 = true then (some false) else (if (x233000.length : Int) = 1 then (if 0 < (x233000.length : Int) then (triglyphref10_Literal.j1 k ((rd x233000 0) == 1) x233000 x233001) else (none)) else (triglyphref10_Literal.j1 k false x233000 x233001))
def triglyphref10_Literal.j1 : Nat → Bool → List Int → List (S57) → Option (Bool)
 | 0, _, _, _ => none
 | k + 1, x24, x233000, x233001 => if x24 = true then (some false) else (triglyphref10_Literal.l0 k 0 x233000 x233001)
def triglyphref10_Literal.l0 : Nat → Int → List Int → List (S57) → Option (Bool)
 | 0, _, _, _ => none
 | k + 1, x3, x233000, x233001 => if x3 < (x233001.length : Int) then (if 0 ≤ x3 then (if 0 < (x233001.length : Int) then (if ((rd_T57 x233001 x3).f0) = ((rd_T57 x233001 0).f0) then (triglyphref10_Literal.j3 k x3 (((rd_T57 x233001 x3).f0) == 2) x233000 x233001 ((rd_T57 x233001 x3).f0) ((rd_T57 x233001 x3).f1) ((rd_T57 x233001 x3).f2)) else (triglyphref10_Literal.j3 k x3 true x233000 x233001 ((rd_T57 x233001 x3).f0) ((rd_T57 x233001 x3).f1) ((rd_T57 x233001 x3).f2))) else (none)) else (none)) else (some true)
def triglyphref10_Literal.j3 : Nat → Int → Bool → List Int → List (S57) → Int → Int → List (S25) → Option (Bool)
 | 0, _, _, _, _, _, _, _ => none
 | k + 1, x3, x49, x233000, x233001, x237000, x237001, x237002 => if x49 = true then (some false) else (if x237000 = 1 then (if x237001 < 32 then (some false) else (if x237001 = 127 then (some false) else (triglyphref10_Literal.l0 k (wrap64 (x3 + 1)) x233000 x233001))) else (triglyphref10_Literal.l0 k (wrap64 (x3 + 1)) x233000 x233001))
end
def triglyphref10_Literal.f (k : Nat) (l0_0 : List Int) (l0_1 : List (S57)) : Option (Bool) := (triglyphref03_Check.f k l0_0 l0_1).bind fun t233 => (if t233 = 0 then (triglyphref10_Literal.j0 k (decide ((l0_0.length : Int) > 1)) l0_0 l0_1) else (triglyphref10_Literal.j0 k true l0_0 l0_1))
theorem triglyphref10_Literal.mono_l : ∀ k, (∀ y0 y1 y2, LeO (triglyphref10_Literal.j0 k y0 y1 y2) (triglyphref10_Literal.j0 (k + 1) y0 y1 y2)) ∧ (∀ y0 y1 y2, LeO (triglyphref10_Literal.j1 k y0 y1 y2) (triglyphref10_Literal.j1 (k + 1) y0 y1 y2)) ∧ (∀ y0 y1 y2, LeO (triglyphref10_Literal.l0 k y0 y1 y2) (triglyphref10_Literal.l0 (k + 1) y0 y1 y2)) ∧ (∀ y0 y1 y2 y3 y4 y5 y6, LeO (triglyphref10_Literal.j3 k y0 y1 y2 y3 y4 y5 y6) (triglyphref10_Literal.j3 (k + 1) y0 y1 y2 y3 y4 y5 y6))
 | 0 => ⟨fun _ _ _ r h => by simp [triglyphref10_Literal.j0] at h, fun _ _ _ r h => by simp [triglyphref10_Literal.j1] at h, fun _ _ _ r h => by simp [triglyphref10_Literal.l0] at h, fun _ _ _ _ _ _ _ r h => by simp [triglyphref10_Literal.j3] at h⟩
 | k + 1 => by
  obtain ⟨ih0, ih1, ih2, ih3⟩ := triglyphref10_Literal.mono_l k
  refine ⟨?_, ?_, ?_, ?_⟩
  ·intro y0 y1 y2
   unfold triglyphref10_Literal.j0
   repeat' first
   | (with_reducible exact ih0 _ _ _)
   | (with_reducible exact ih1 _ _ _)
   | (with_reducible exact ih2 _ _ _)
   | (with_reducible exact ih3 _ _ _ _ _ _ _)
   | (with_reducible exact triglyphref03_Check.mono _ _ _)
   | (with_reducible exact LeO.refl _)
   | (with_reducible exact LeO.none _)
   | (with_reducible refine LeO.ite ?_ ?_)
   | (with_reducible refine LeO.bind ?_ (fun _ => ?_))




   | exact triglyphref03_Check.mono _ _ _



  ·intro y0 y1 y2
   unfold triglyphref10_Literal.j1
   repeat' first
   | (with_reducible exact ih0 _ _ _)
   | (with_reducible exact ih1 _ _ _)
   | (with_reducible exact ih2 _ _ _)
   | (with_reducible exact ih3 _ _ _ _ _ _ _)
   | (with_reducible exact triglyphref03_Check.mono _ _ _)
   | (with_reducible exact LeO.refl _)
   | (with_reducible exact LeO.none _)
   | (with_reducible refine LeO.ite ?_ ?_)
   | (with_reducible refine LeO.bind ?_ (fun _ => ?_))




   | exact triglyphref03_Check.mono _ _ _



  ·intro y0 y1 y2
   unfold triglyphref10_Literal.l0
   repeat' first
   | (with_reducible exact ih0 _ _ _)
   | (with_reducible exact ih1 _ _ _)
   | (with_reducible exact ih2 _ _ _)
   | (with_reducible exact ih3 _ _ _ _ _ _ _)
   | (with_reducible exact triglyphref03_Check.mono _ _ _)
   | (with_reducible exact LeO.refl _)
   | (with_reducible exact LeO.none _)
   | (with_reducible refine LeO.ite ?_ ?_)
   | (with_reducible refine LeO.bind ?_ (fun _ => ?_))




   | exact triglyphref03_Check.mono _ _ _



  ·intro y0 y1 y2 y3 y4 y5 y6
   unfold triglyphref10_Literal.j3
   repeat' first
   | (with_reducible exact ih0 _ _ _)
   | (with_reducible exact ih1 _ _ _)
   | (with_reducible exact ih2 _ _ _)
   | (with_reducible exact ih3 _ _ _ _ _ _ _)
   | (with_reducible exact triglyphref03_Check.mono _ _ _)
   | (with_reducible exact LeO.refl _)
   | (with_reducible exact LeO.none _)
   | (with_reducible refine LeO.ite ?_ ?_)
   | (with_reducible refine LeO.bind ?_ (fun _ => ?_))




   | exact triglyphref03_Check.mono _ _ _
theorem triglyphref10_Literal.mono : ∀ a0 a1 k, LeO (triglyphref10_Literal.f k a0 a1) (triglyphref10_Literal.f (k + 1) a0 a1) := by
 intro a0 a1 k
 obtain ⟨ih0, ih1, ih2, ih3⟩ := triglyphref10_Literal.mono_l k
 unfold triglyphref10_Literal.f
 repeat' first
   | (with_reducible exact ih0 _ _ _)
   | (with_reducible exact ih1 _ _ _)
   | (with_reducible exact ih2 _ _ _)
   | (with_reducible exact ih3 _ _ _ _ _ _ _)
   | (with_reducible exact triglyphref03_Check.mono _ _ _)
   | (with_reducible exact LeO.refl _)
   | (with_reducible exact LeO.none _)
   | (with_reducible refine LeO.ite ?_ ?_)
   | (with_reducible refine LeO.bind ?_ (fun _ => ?_))




   | exact triglyphref03_Check.mono _ _ _
set_option maxHeartbeats 8000000 in
set_option maxRecDepth 100000 in
theorem triglyphref10_Literal.calls (k : Nat) (A0_0 : Option Addr) (c0_0 : Nat) (l0_0 : List Int) (A0_1 : Option Addr) (c0_1 : Nat) (l0_1 : List (S57)) (r : Bool) (w : World) (hr0_0 : Kd.C (Kd.int .i64) w A0_0 l0_0.length l0_0) (hc0_0 : l0_0.length ≤ c0_0) (hr0_1 : Kd.C k57 w A0_1 l0_1.length l0_1) (hc0_1 : l0_1.length ≤ c0_1) (h : triglyphref10_Literal.f k l0_0 l0_1 = some r) :
  Calls Try.prog 36 #[.agg #[.slice A0_0 l0_0.length c0_0, .slice A0_1 l0_1.length c0_1]] w fun e w' => e = .returned (.bool r) ∧ Below w.heap.size w w' := by
 have hu25 := Try.underlying25
 have hu57 := Try.underlying57
 have HR0_0 := gA hr0_0
 have HC0_0 := gA hc0_0
 clear hr0_0 hc0_0
 have HR0_1 := gA hr0_1
 have HC0_1 := gA hc0_1
 clear hr0_1 hc0_1
 have HB := gA (Below.refl w.heap.size w)
 have H : ((triglyphref03_Check.f k l0_0 l0_1).bind fun t233 => (if t233 = 0 then (triglyphref10_Literal.j0 k (decide ((l0_0.length : Int) > 1)) l0_0 l0_1) else (triglyphref10_Literal.j0 k true l0_0 l0_1))) = some r := h
 clear h
 have HC2 := gA H
 clear H
 go_enter Try.func36, Try.ntmps36
 iterate 6 ((try go_quiet (fail)); (try go_upto_region 1 with (first | ((with_reducible refine gate_dst (N := 1) rfl ?_); (try (refine gate_guard (by rfl) ?_; dsimp only)); refine box_event ?hg (N := 1) ?hd (cs := #[.slice A0_0 l0_0.length c0_0, .slice A0_1 l0_1.length c0_1]) (t := 25) ?hr ?_; (case hd => rfl); (case hg => rfl); (case hr => first | (go_simp; done) | (go_simp; rfl)); intro gb232 hg w3 hbox hb; have BK232 := gA (hbox); have GW232 := gA ((by rw [hg]; exact (below_size (by repeat (first | (with_reducible first | exact HB.out | apply below_alloc | apply pw_below_drewN | apply below_drew1) | exact HB.out))) : w.heap.size ≤ gb232)); have GE232 := gA ((by rw [hg]; exact (below_size (by repeat (first | (with_reducible first | exact HB.out | apply below_alloc | apply pw_below_drewN | apply below_drew1) | exact HB.out))) : w.heap.size ≤ gb232)); replace HB := gA (below_step (by repeat (first | (with_reducible first | exact HB.out | apply below_alloc | apply pw_below_drewN | apply below_drew1) | exact HB.out)) hb); clear hb hbox hg))))
 skip
 (try simp only [Act.put, List.setIfInBounds_toArray, List.set_cons_zero, List.set_cons_succ])
 go_cut [13] (fun v13 wc => ∃ (kq : Nat) (x13_1 : Bool), v13 = .bool x13_1 ∧ Aside0 (triglyphref10_Literal.j0 kq x13_1 l0_0 l0_1 = some r) ∧ Aside0 (kq ≤ k) ∧ Aside0 (wc.heap[gb232]? = some (.cells #[(.slice A0_0 l0_0.length c0_0), (.slice A0_1 l0_1.length c0_1)] 25 (0, 0))) ∧ Aside0 (Below w.heap.size w wc))
 case first =>
  have H := HC2.out; clear HC2
  replace H := Option.bind_eq_some_iff.mp H
  obtain ⟨t233, A40, H⟩ := H
  replace H : (if t233 = 0 then (triglyphref10_Literal.j0 k (decide ((l0_0.length : Int) > 1)) l0_0 l0_1) else (triglyphref10_Literal.j0 k true l0_0 l0_1)) = some r := H
  have A4 := gA A40
  clear A40
  by_cases c5 : t233 = 0
  ·rw [if_pos c5] at H
   have c5b0 : (t233 == 0) = true := beq_iff_eq.mpr c5
   have c5b1 : (t233 != 0) = false := bne_eq_false_iff_eq.mpr c5
   clear c5
   (first | rw [c5b0] | rw [c5b1] | (simp only [i64_w, i32_w]; rw [c5b0]) | skip)
   have H' := gA H
   clear H
   obtain ⟨hcz6_0, hcz6_1, hfz6_0, hfz6_1⟩ := gz2 BK232
   iterate 6 ((try go_quiet (fail)); go_wp2_with (first | (go_at_call 49; (with_reducible refine (triglyphref03_Check.calls k _ _ l0_0 _ _ l0_1 t233 _ ?side1 ?side2 ?side3 ?side4 A4.out).mono ?_); (case side1 => repeat (first | exact (Kd.C_below HR0_0.out HB.out) | (with_reducible refine Kd.C_alloc ?_ _) | (with_reducible refine Kd.C_drewN ?_ _) | (with_reducible refine Kd.C_drew ?_))); (case side2 => exact HC0_0.out); (case side3 => repeat (first | exact (Kd.C_below HR0_1.out HB.out) | (with_reducible refine Kd.C_alloc ?_ _) | (with_reducible refine Kd.C_drewN ?_ _) | (with_reducible refine Kd.C_drew ?_))); (case side4 => exact HC0_1.out); rintro e w7 ⟨rfl, hb⟩; replace BK232 := gA (blk_below (g := gb232) (o := .cells #[.slice A0_0 l0_0.length c0_0, .slice A0_1 l0_1.length c0_1] 25 (0, 0)) (by (with_reducible repeat (first | refine blk_drewN ?_ _ | refine blk_drew ?_ | refine blk_alloc ?_ _)); exact BK232.out) hb); replace HB := gA (below_step (by repeat (first | (with_reducible first | exact HB.out | apply below_alloc | apply pw_below_drewN | apply below_drew1 | refine below_set ?_ GE232.out) | exact HB.out)) hb); (try clear hb); obtain ⟨hcz8_0, hcz8_1, hfz8_0, hfz8_1⟩ := gz2 BK232)))
   skip
   all_goals (go_meet; (case rel => exact ⟨_, (decide ((l0_0.length : Int) > 1)), (by first | rfl | (simp; done) | (simp [*]; done) | (exfalso; simp_all; done) | (exfalso; simp_all; omega)), H', ⟨by first | omega | exact Nat.le_refl _⟩, ⟨by (with_reducible repeat (first | refine blk_drewN ?_ _ | refine blk_drew ?_ | refine blk_alloc ?_ _)); exact BK232.out⟩, ⟨by repeat (first | (with_reducible first | exact HB.out | apply below_alloc | apply pw_below_drewN | apply below_drew1 | refine below_set ?_ GE232.out) | exact HB.out)⟩⟩))
  ·rw [if_neg c5] at H
   have c5b0 : (t233 == 0) = false := beq_eq_false_iff_ne.mpr c5
   have c5b1 : (t233 != 0) = true := bne_iff_ne.mpr c5
   (first | rw [c5b0] | rw [c5b1] | (simp only [i64_w, i32_w]; rw [c5b0]) | skip)
   have H' := gA H
   clear H
   obtain ⟨hcz9_0, hcz9_1, hfz9_0, hfz9_1⟩ := gz2 BK232
   iterate 6 ((try go_quiet (fail)); go_wp2_with (first | (go_at_call 49; (with_reducible refine (triglyphref03_Check.calls k _ _ l0_0 _ _ l0_1 t233 _ ?side1 ?side2 ?side3 ?side4 A4.out).mono ?_); (case side1 => repeat (first | exact (Kd.C_below HR0_0.out HB.out) | (with_reducible refine Kd.C_alloc ?_ _) | (with_reducible refine Kd.C_drewN ?_ _) | (with_reducible refine Kd.C_drew ?_))); (case side2 => exact HC0_0.out); (case side3 => repeat (first | exact (Kd.C_below HR0_1.out HB.out) | (with_reducible refine Kd.C_alloc ?_ _) | (with_reducible refine Kd.C_drewN ?_ _) | (with_reducible refine Kd.C_drew ?_))); (case side4 => exact HC0_1.out); rintro e w10 ⟨rfl, hb⟩; replace BK232 := gA (blk_below (g := gb232) (o := .cells #[.slice A0_0 l0_0.length c0_0, .slice A0_1 l0_1.length c0_1] 25 (0, 0)) (by (with_reducible repeat (first | refine blk_drewN ?_ _ | refine blk_drew ?_ | refine blk_alloc ?_ _)); exact BK232.out) hb); replace HB := gA (below_step (by repeat (first | (with_reducible first | exact HB.out | apply below_alloc | apply pw_below_drewN | apply below_drew1 | refine below_set ?_ GE232.out) | exact HB.out)) hb); (try clear hb))))
   skip
   all_goals (go_meet; (case rel => exact ⟨_, (true), (by first | rfl | (simp; done) | (simp [*]; done) | (exfalso; simp_all; done) | (exfalso; simp_all; omega)), H', ⟨by first | omega | exact Nat.le_refl _⟩, ⟨by (with_reducible repeat (first | refine blk_drewN ?_ _ | refine blk_drew ?_ | refine blk_alloc ?_ _)); exact BK232.out⟩, ⟨by repeat (first | (with_reducible first | exact HB.out | apply below_alloc | apply pw_below_drewN | apply below_drew1 | refine below_set ?_ GE232.out) | exact HB.out)⟩⟩))
 case rest =>
  clear HC2
  try clear p2
  try clear c3
  try clear c5
  try clear c5b0
  try clear c5b1
  try clear hcz6_0
  try clear hcz6_1
  try clear hcz8_0
  try clear hcz8_1
  try clear hcz9_0
  try clear hcz9_1
  try clear hfz6_0
  try clear hfz6_1
  try clear hfz8_0
  try clear hfz8_1
  try clear hfz9_0
  try clear hfz9_1
  obtain ⟨kq, x13_1, rfl, HA, HJ1, BK232, HB⟩ := hcut
  cases kq with
  | zero => exact absurd HA.out (by simp [triglyphref10_Literal.j0])
  | succ kj1 =>
   have H := HA.out; clear HA
   simp only [triglyphref10_Literal.j0] at H
   by_cases c11 : x13_1 = true
   ·subst c11
    have H1 : (some false) = some r := by rw [if_pos rfl] at H; exact H
    clear H; have H := H1; clear H1
    obtain rfl := Option.some.inj H
    go_wp2
    repeat (go_quiet (fail); try go_wp2)
    go_ret
    exact ⟨by first | rfl | (simp [errW_none, errW_some] <;> rfl) | (simp [*, errW_none, errW_some] <;> rfl), by repeat (first | (with_reducible first | exact HB.out | apply below_alloc | apply pw_below_drewN | apply below_drew1 | refine below_set ?_ GE232.out) | exact HB.out)⟩
   ·replace c11 := Bool.eq_false_iff.mpr c11
    subst c11
    have H1 : (if (l0_0.length : Int) = 1 then (if 0 < (l0_0.length : Int) then (triglyphref10_Literal.j1 kj1 ((rd l0_0 0) == 1) l0_0 l0_1) else (none)) else (triglyphref10_Literal.j1 kj1 false l0_0 l0_1)) = some r := by rw [if_neg (show ¬ (false = true) by decide)] at H; exact H
    clear H; have H := H1; clear H1
    have HC12 := gA H
    clear H
    go_upto_region 3 with (fail)
    repeat (go_quiet (fail); go_upto_region 3 with (fail))
    go_cut [24] (fun v24 wc => ∃ (kq : Nat) (x24_11 : Bool), v24 = .bool x24_11 ∧ Aside0 (triglyphref10_Literal.j1 kq x24_11 l0_0 l0_1 = some r) ∧ Aside0 (kq ≤ kj1) ∧ Aside0 (wc.heap[gb232]? = some (.cells #[(.slice A0_0 l0_0.length c0_0), (.slice A0_1 l0_1.length c0_1)] 25 (0, 0))) ∧ Aside0 (Below w.heap.size w wc))
    case first =>
     have H := HC12.out; clear HC12
     by_cases c13 : (l0_0.length : Int) = 1
     ·rw [if_pos c13] at H
      have c13b0 : ((l0_0.length : Int) == 1) = true := beq_iff_eq.mpr c13
      have c13b1 : ((l0_0.length : Int) != 1) = false := bne_eq_false_iff_eq.mpr c13
      clear c13
      (first | rw [c13b0] | rw [c13b1] | (simp only [i64_w, i32_w]; rw [c13b0]) | skip)
      obtain ⟨c14, H⟩ := iS H
      have c14b0 := decide_eq_true c14
      have c14b1 : decide (0 < l0_0.length) = true := decide_eq_true (by omega)
      clear c14
      have H' := gA H
      clear H
      obtain ⟨hcz15_0, hcz15_1, hfz15_0, hfz15_1⟩ := gz2 BK232
      have p234 : 0 ≤ (0 : Int) := (by omega)
      have q234 : 0 < (l0_0.length : Int) := of_decide_eq_true (by first | (with_reducible assumption) | assumption)
      obtain ⟨ad234, e234, hx234_0⟩ := Kd.at_int HR0_0.out 0 p234 q234
      cases e234
      have qi234 : (0 < l0_0.length) = True := eq_true (by omega)
      (try rw [show ((0 : Int)).toNat = 0 from rfl] at hx234_0)
      (try rw [Addr.add_zero'] at hx234_0)
      replace hx234_0 := (HB.out.cell (World.block_lt_of_cell? w _ hx234_0)).trans hx234_0
      replace p234 := eq_true p234
      replace q234 := eq_true q234
      go_wp2
      repeat (go_quiet (fail); try go_wp2)
      all_goals (go_meet; (case rel => exact ⟨_, (((rd l0_0 0) == 1)), (by first | rfl | (simp; done) | (simp [*]; done) | (exfalso; simp_all; done) | (exfalso; simp_all; omega)), H', ⟨by have := HJ1.out; first | omega | exact Nat.le_refl _⟩, ⟨by (with_reducible repeat (first | refine blk_drewN ?_ _ | refine blk_drew ?_ | refine blk_alloc ?_ _)); exact BK232.out⟩, ⟨by repeat (first | (with_reducible first | exact HB.out | apply below_alloc | apply pw_below_drewN | apply below_drew1 | refine below_set ?_ GE232.out) | exact HB.out)⟩⟩))
     ·rw [if_neg c13] at H
      have c13b0 : ((l0_0.length : Int) == 1) = false := beq_eq_false_iff_ne.mpr c13
      have c13b1 : ((l0_0.length : Int) != 1) = true := bne_iff_ne.mpr c13
      (first | rw [c13b0] | rw [c13b1] | (simp only [i64_w, i32_w]; rw [c13b0]) | skip)
      have H' := gA H
      clear H
      obtain ⟨hcz16_0, hcz16_1, hfz16_0, hfz16_1⟩ := gz2 BK232
      go_wp2
      repeat (go_quiet (fail); try go_wp2)
      all_goals (go_meet; (case rel => exact ⟨_, (false), (by first | rfl | (simp; done) | (simp [*]; done) | (exfalso; simp_all; done) | (exfalso; simp_all; omega)), H', ⟨by have := HJ1.out; first | omega | exact Nat.le_refl _⟩, ⟨by (with_reducible repeat (first | refine blk_drewN ?_ _ | refine blk_drew ?_ | refine blk_alloc ?_ _)); exact BK232.out⟩, ⟨by repeat (first | (with_reducible first | exact HB.out | apply below_alloc | apply pw_below_drewN | apply below_drew1 | refine below_set ?_ GE232.out) | exact HB.out)⟩⟩))
    case rest =>
     clear HC12
     try clear c1
     try clear p2
     try clear q2
     try clear hx2
     try clear qi2
     try clear c3
     try clear c5
     try clear c5b0
     try clear c5b1
     try clear c11
     try clear c13
     try clear c13b0
     try clear c13b1
     try clear c14
     try clear c14b0
     try clear c14b1
     try clear hcz15_0
     try clear hcz15_1
     try clear hcz16_0
     try clear hcz16_1
     try clear hcz6_0
     try clear hcz6_1
     try clear hcz8_0
     try clear hcz8_1
     try clear hcz9_0
     try clear hcz9_1
     try clear hfz15_0
     try clear hfz15_1
     try clear hfz16_0
     try clear hfz16_1
     try clear hfz6_0
     try clear hfz6_1
     try clear hfz8_0
     try clear hfz8_1
     try clear hfz9_0
     try clear hfz9_1
     try clear hx234_0
     try clear p2
     try clear p234
     try clear q234
     obtain ⟨kq, x24_11, rfl, HA, HJ11, BK232, HB⟩ := hcut
     cases kq with
     | zero => exact absurd HA.out (by simp [triglyphref10_Literal.j1])
     | succ kj11 =>
      have H := HA.out; clear HA
      simp only [triglyphref10_Literal.j1] at H
      by_cases c17 : x24_11 = true
      ·subst c17
       have H1 : (some false) = some r := by rw [if_pos rfl] at H; exact H
       clear H; have H := H1; clear H1
       obtain rfl := Option.some.inj H
       go_wp2
       repeat (go_quiet (fail); try go_wp2)
       go_ret
       exact ⟨by first | rfl | (simp [errW_none, errW_some] <;> rfl) | (simp [*, errW_none, errW_some] <;> rfl), by repeat (first | (with_reducible first | exact HB.out | apply below_alloc | apply pw_below_drewN | apply below_drew1 | refine below_set ?_ GE232.out) | exact HB.out)⟩
      ·replace c17 := Bool.eq_false_iff.mpr c17
       subst c17
       have H1 : (triglyphref10_Literal.l0 kj11 0 l0_0 l0_1) = some r := by rw [if_neg (show ¬ (false = true) by decide)] at H; exact H
       clear H; have H := H1; clear H1
       have H' := gA H
       clear H
       go_wp2
       repeat (go_quiet (fail); try go_wp2)
       go_loopg [3] kj11 (fun kq v3 w' => ∃ (x3_3 : Int), v3 = .int .i64 x3_3 ∧ Aside0 (triglyphref10_Literal.l0 kq x3_3 l0_0 l0_1 = some r) ∧ Aside0 (kq ≤ kj11) ∧ Aside0 (w'.heap[gb232]? = some (.cells #[(.slice A0_0 l0_0.length c0_0), (.slice A0_1 l0_1.length c0_1)] 25 (0, 0))) ∧ Aside0 (Below w.heap.size w w'))
       case atStart => exact ⟨(0), (by first | rfl | (simp; done) | (simp [*]; done)), H', ⟨Nat.le_refl _⟩, ⟨by (with_reducible repeat (first | refine blk_drewN ?_ _ | refine blk_drew ?_ | refine blk_alloc ?_ _)); exact BK232.out⟩, ⟨by repeat (first | (with_reducible first | exact HB.out | apply below_alloc | apply pw_below_drewN | apply below_drew1 | refine below_set ?_ GE232.out) | exact HB.out)⟩⟩
       case round =>
        clear H'
        try clear c1
        try clear p2
        try clear q2
        try clear hx2
        try clear qi2
        try clear c3
        try clear c5
        try clear c5b0
        try clear c5b1
        try clear c11
        try clear c13
        try clear c13b0
        try clear c13b1
        try clear c14
        try clear c14b0
        try clear c14b1
        try clear c17
        try clear hcz15_0
        try clear hcz15_1
        try clear hcz16_0
        try clear hcz16_1
        try clear hcz6_0
        try clear hcz6_1
        try clear hcz8_0
        try clear hcz8_1
        try clear hcz9_0
        try clear hcz9_1
        try clear hfz15_0
        try clear hfz15_1
        try clear hfz16_0
        try clear hfz16_1
        try clear hfz6_0
        try clear hfz6_1
        try clear hfz8_0
        try clear hfz8_1
        try clear hfz9_0
        try clear hfz9_1
        try clear hx234_0
        try clear p2
        try clear p234
        try clear q2
        try clear q234
        obtain ⟨x3_3, rfl, HA, HK3, BK232, HB⟩ := hrel
        cases gk with
        | zero => exact absurd HA.out (by simp [triglyphref10_Literal.l0])
        | succ k3 =>
         have H := HA.out; clear HA
         simp only [triglyphref10_Literal.l0] at H
         by_cases c18 : x3_3 < (l0_1.length : Int)
         ·rw [if_pos c18] at H
          have c18b0 := decide_eq_true c18
          clear c18
          obtain ⟨c19, H⟩ := iS H
          have c19b0 := decide_eq_true c19
          clear c19
          have HC20 := gA H
          clear H
          obtain ⟨hcz21_0, hcz21_1, hfz21_0, hfz21_1⟩ := gz2 BK232
          have p235 : 0 ≤ (x3_3 : Int) := of_decide_eq_true (by first | (with_reducible assumption) | assumption)
          have q235 : x3_3 < (l0_1.length : Int) := of_decide_eq_true (by first | (with_reducible assumption) | assumption)
          obtain ⟨ad235, A235_2, c235_2, e235, hx235_0, hx235_1, hx235_2, hl235_2, hi235_2⟩ := at_T57 HR0_1.out x3_3 p235 q235
          cases e235
          replace hx235_0 := (HB.out.cell (World.block_lt_of_cell? w _ hx235_0)).trans hx235_0
          replace hx235_1 := (HB.out.cell (World.block_lt_of_cell? w _ hx235_1)).trans hx235_1
          replace hx235_2 := (HB.out.cell (World.block_lt_of_cell? w _ hx235_2)).trans hx235_2
          have HR235_2 := gA hi235_2
          have HC235_2 := gA hl235_2
          clear hi235_2 hl235_2
          replace p235 := eq_true p235
          replace q235 := eq_true q235
          iterate 6 ((try go_quiet (fail)); (try go_upto_region 9 with (first | ((with_reducible refine gate_dst (N := 4) rfl ?_); (try (refine gate_guard (by rfl) ?_; dsimp only)); refine box_event ?hg (N := 4) ?hd (cs := #[.int .i64 0, .int .i64 0, .slice none 0 0]) (t := 57) ?hr ?_; (case hd => rfl); (case hg => rfl); (case hr => first | (go_simp; done) | (go_simp; rfl)); intro gb236 hg w22 hbox hb; have BK236 := gA (hbox); have GW236 := gA ((by rw [hg]; exact (below_size (by repeat (first | (with_reducible first | exact HB.out | apply below_alloc | apply pw_below_drewN | apply below_drew1 | refine below_set ?_ GE232.out) | exact HB.out))) : w.heap.size ≤ gb236)); have GE236 := gA ((by rw [hg]; exact (below_size (by repeat (first | (with_reducible first | exact HB.out | apply below_alloc | apply pw_below_drewN | apply below_drew1 | refine below_set ?_ GE232.out) | exact HB.out))) : w.heap.size ≤ gb236)); replace HB := gA (below_step (by repeat (first | (with_reducible first | exact HB.out | apply below_alloc | apply pw_below_drewN | apply below_drew1 | refine below_set ?_ GE232.out) | exact HB.out)) hb); have NB232_236 := gA ((by rw [hg]; exact Nat.ne_of_lt (blk_lt (g := gb232) (o := .cells #[.slice A0_0 l0_0.length c0_0, .slice (some ad235) l0_1.length c0_1] 25 (0, 0)) (by (with_reducible repeat (first | refine blk_drewN ?_ _ | refine blk_drew ?_ | refine blk_alloc ?_ _)); exact BK232.out)) : gb232 ≠ gb236)); have NB236_232 := gA ((by rw [hg]; exact Nat.ne_of_gt (blk_lt (g := gb232) (o := .cells #[.slice A0_0 l0_0.length c0_0, .slice (some ad235) l0_1.length c0_1] 25 (0, 0)) (by (with_reducible repeat (first | refine blk_drewN ?_ _ | refine blk_drew ?_ | refine blk_alloc ?_ _)); exact BK232.out)) : gb236 ≠ gb232)); replace BK232 := gA (blk_below (g := gb232) (o := .cells #[.slice A0_0 l0_0.length c0_0, .slice (some ad235) l0_1.length c0_1] 25 (0, 0)) (by (with_reducible repeat (first | refine blk_drewN ?_ _ | refine blk_drew ?_ | refine blk_alloc ?_ _)); exact BK232.out) hb); clear hb hbox hg; have hnb23 := NB236_232.out; have hnc23 := NB232_236.out; obtain ⟨hcz24_0, hcz24_1, hcz24_2, hfz24_0, hfz24_1, hfz24_2⟩ := gz3 BK236))))
          skip
          (try simp only [Act.put, List.setIfInBounds_toArray, List.set_cons_zero, List.set_cons_succ])
          go_cut [49] (fun v49 wc => ∃ (kq : Nat) (x49_19 : Bool), v49 = .bool x49_19 ∧ Aside0 (triglyphref10_Literal.j3 kq x3_3 x49_19 l0_0 l0_1 ((rd_T57 l0_1 x3_3).f0) ((rd_T57 l0_1 x3_3).f1) ((rd_T57 l0_1 x3_3).f2) = some r) ∧ Aside0 (kq ≤ k3) ∧ Aside0 (wc.heap[gb232]? = some (.cells #[(.slice A0_0 l0_0.length c0_0), (.slice (some ad235) l0_1.length c0_1)] 25 (0, 0))) ∧ Aside0 (wc.heap[gb236]? = some (.cells #[.int .i64 ((rd_T57 l0_1 x3_3).f0), .int .i64 ((rd_T57 l0_1 x3_3).f1), (.slice A235_2 ((rd_T57 l0_1 x3_3).f2).length c235_2)] 57 (0, 0))) ∧ Aside0 (Below w.heap.size w wc))
          case first =>
           have H := HC20.out; clear HC20
           obtain ⟨c25, H⟩ := iS H
           have c25b0 := decide_eq_true c25
           have c25b1 : decide (0 < l0_1.length) = true := decide_eq_true (by omega)
           clear c25
           (first | rw [c25b0] | rw [c25b1] | (simp only [i64_w, i32_w]; rw [c25b0]) | skip)
           by_cases c26 : ((rd_T57 l0_1 x3_3).f0) = ((rd_T57 l0_1 0).f0)
           ·rw [if_pos c26] at H
            have c26b0 : (((rd_T57 l0_1 x3_3).f0) == ((rd_T57 l0_1 0).f0)) = true := beq_iff_eq.mpr c26
            have c26b1 : (((rd_T57 l0_1 x3_3).f0) != ((rd_T57 l0_1 0).f0)) = false := bne_eq_false_iff_eq.mpr c26
            clear c26
            have H' := gA H
            clear H
            have hnb27 := NB236_232.out
            have hnc27 := NB232_236.out
            obtain ⟨hcz28_0, hcz28_1, hcz28_2, hfz28_0, hfz28_1, hfz28_2⟩ := gz3 BK236
            obtain ⟨hcz29_0, hcz29_1, hfz29_0, hfz29_1⟩ := gz2 BK232
            have p237 : 0 ≤ (0 : Int) := (by omega)
            have q237 : 0 < (l0_1.length : Int) := of_decide_eq_true (by first | (with_reducible assumption) | assumption)
            obtain ⟨ad237, A237_2, c237_2, e237, hx237_0, hx237_1, hx237_2, hl237_2, hi237_2⟩ := at_T57 HR0_1.out 0 p237 q237
            obtain rfl : ad235 = ad237 := (by injection e237)
            have qi237 : (0 < l0_1.length) = True := eq_true (by omega)
            (try rw [show ((0 : Int)).toNat = 0 from rfl] at hx237_0)
            (try rw [show 0 * 3 = 0 from rfl] at hx237_0)
            (try rw [Addr.add_zero'] at hx237_0)
            (try rw [show ((0 : Int)).toNat = 0 from rfl] at hx237_1)
            (try rw [show 0 * 3 = 0 from rfl] at hx237_1)
            (try rw [Addr.add_zero'] at hx237_1)
            (try rw [show ((0 : Int)).toNat = 0 from rfl] at hx237_2)
            (try rw [show 0 * 3 = 0 from rfl] at hx237_2)
            (try rw [Addr.add_zero'] at hx237_2)
            have hn237_0 : ad235.block ≠ gb236 := Nat.ne_of_lt (Nat.lt_of_lt_of_le (by have := World.block_lt_of_cell? _ _ hx237_0; first | rwa [add_block] at this | exact this) GW236.out)
            have hn237_1 : ad235.block ≠ gb236 := Nat.ne_of_lt (Nat.lt_of_lt_of_le (by have := World.block_lt_of_cell? _ _ hx237_0; first | rwa [add_block] at this | exact this) GW236.out)
            have hn237_2 : ad235.block ≠ gb236 := Nat.ne_of_lt (Nat.lt_of_lt_of_le (by have := World.block_lt_of_cell? _ _ hx237_0; first | rwa [add_block] at this | exact this) GW236.out)
            replace hx237_0 := (HB.out.cell (World.block_lt_of_cell? w _ hx237_0)).trans hx237_0
            replace hx237_1 := (HB.out.cell (World.block_lt_of_cell? w _ hx237_1)).trans hx237_1
            replace hx237_2 := (HB.out.cell (World.block_lt_of_cell? w _ hx237_2)).trans hx237_2
            have HR237_2 := gA hi237_2
            have HC237_2 := gA hl237_2
            clear hi237_2 hl237_2
            replace hx237_0 := (cell_far (p := ⟨gb236, 0, none⟩) (by first | (rw [add_block]; exact hn237_0) | (show (Addr.add _ _).block ≠ _; rw [add_block]; exact hn237_0) | exact hn237_0) (.int .i64 ((rd_T57 l0_1 x3_3).f0))).trans hx237_0
            replace hx237_1 := (cell_far (p := ⟨gb236, 0, none⟩) (by first | (rw [add_block]; exact hn237_0) | (show (Addr.add _ _).block ≠ _; rw [add_block]; exact hn237_0) | exact hn237_0) (.int .i64 ((rd_T57 l0_1 x3_3).f0))).trans hx237_1
            replace hx237_2 := (cell_far (p := ⟨gb236, 0, none⟩) (by first | (rw [add_block]; exact hn237_0) | (show (Addr.add _ _).block ≠ _; rw [add_block]; exact hn237_0) | exact hn237_0) (.int .i64 ((rd_T57 l0_1 x3_3).f0))).trans hx237_2
            replace hx237_0 := (cell_far (p := ⟨gb236, 1, none⟩) (by first | (rw [add_block]; exact hn237_1) | (show (Addr.add _ _).block ≠ _; rw [add_block]; exact hn237_1) | exact hn237_1) (.int .i64 ((rd_T57 l0_1 x3_3).f1))).trans hx237_0
            replace hx237_1 := (cell_far (p := ⟨gb236, 1, none⟩) (by first | (rw [add_block]; exact hn237_1) | (show (Addr.add _ _).block ≠ _; rw [add_block]; exact hn237_1) | exact hn237_1) (.int .i64 ((rd_T57 l0_1 x3_3).f1))).trans hx237_1
            replace hx237_2 := (cell_far (p := ⟨gb236, 1, none⟩) (by first | (rw [add_block]; exact hn237_1) | (show (Addr.add _ _).block ≠ _; rw [add_block]; exact hn237_1) | exact hn237_1) (.int .i64 ((rd_T57 l0_1 x3_3).f1))).trans hx237_2
            replace hx237_0 := (cell_far (p := ⟨gb236, 2, none⟩) (by first | (rw [add_block]; exact hn237_2) | (show (Addr.add _ _).block ≠ _; rw [add_block]; exact hn237_2) | exact hn237_2) (.slice A235_2 ((rd_T57 l0_1 x3_3).f2).length c235_2)).trans hx237_0
            replace hx237_1 := (cell_far (p := ⟨gb236, 2, none⟩) (by first | (rw [add_block]; exact hn237_2) | (show (Addr.add _ _).block ≠ _; rw [add_block]; exact hn237_2) | exact hn237_2) (.slice A235_2 ((rd_T57 l0_1 x3_3).f2).length c235_2)).trans hx237_1
            replace hx237_2 := (cell_far (p := ⟨gb236, 2, none⟩) (by first | (rw [add_block]; exact hn237_2) | (show (Addr.add _ _).block ≠ _; rw [add_block]; exact hn237_2) | exact hn237_2) (.slice A235_2 ((rd_T57 l0_1 x3_3).f2).length c235_2)).trans hx237_2
            (try have hy237_0 := fun (n_ : Nat) => (show (((((w22.drewN n_).setCell ⟨gb236, 0, none⟩ (.int .i64 ((rd_T57 l0_1 x3_3).f0))).setCell ⟨gb236, 1, none⟩ (.int .i64 ((rd_T57 l0_1 x3_3).f1))).setCell ⟨gb236, 2, none⟩ (.slice A235_2 ((rd_T57 l0_1 x3_3).f2).length c235_2))).cell? _ = some _ from hx237_0))
            (try have hy237_1 := fun (n_ : Nat) => (show (((((w22.drewN n_).setCell ⟨gb236, 0, none⟩ (.int .i64 ((rd_T57 l0_1 x3_3).f0))).setCell ⟨gb236, 1, none⟩ (.int .i64 ((rd_T57 l0_1 x3_3).f1))).setCell ⟨gb236, 2, none⟩ (.slice A235_2 ((rd_T57 l0_1 x3_3).f2).length c235_2))).cell? _ = some _ from hx237_1))
            (try have hy237_2 := fun (n_ : Nat) => (show (((((w22.drewN n_).setCell ⟨gb236, 0, none⟩ (.int .i64 ((rd_T57 l0_1 x3_3).f0))).setCell ⟨gb236, 1, none⟩ (.int .i64 ((rd_T57 l0_1 x3_3).f1))).setCell ⟨gb236, 2, none⟩ (.slice A235_2 ((rd_T57 l0_1 x3_3).f2).length c235_2))).cell? _ = some _ from hx237_2))
            clear hn237_0 hn237_1 hn237_2
            replace p237 := eq_true p237
            replace q237 := eq_true q237
            go_wp2
            repeat (go_quiet (fail); try go_wp2)
            all_goals (go_meet; (case rel => exact ⟨_, ((((rd_T57 l0_1 x3_3).f0) == 2)), (by first | rfl | (simp; done) | (simp [*]; done) | (exfalso; simp_all; done) | (exfalso; simp_all; omega)), H', ⟨by have := HJ1.out; have := HJ11.out; have := HK3.out; first | omega | exact Nat.le_refl _⟩, ⟨by (with_reducible repeat (first | refine blk_drewN ?_ _ | refine blk_drew ?_ | refine blk_alloc ?_ _)); refine blk_far ?_ NB232_236.out _; (with_reducible repeat (first | refine blk_drewN ?_ _ | refine blk_drew ?_ | refine blk_alloc ?_ _)); refine blk_far ?_ NB232_236.out _; (with_reducible repeat (first | refine blk_drewN ?_ _ | refine blk_drew ?_ | refine blk_alloc ?_ _)); refine blk_far ?_ NB232_236.out _; (with_reducible repeat (first | refine blk_drewN ?_ _ | refine blk_drew ?_ | refine blk_alloc ?_ _)); exact BK232.out⟩, ⟨by (with_reducible repeat (first | refine blk_drewN ?_ _ | refine blk_drew ?_ | refine blk_alloc ?_ _)); refine blk_put (cs := #[.int .i64 ((rd_T57 l0_1 x3_3).f0), .int .i64 ((rd_T57 l0_1 x3_3).f1), .slice none 0 0]) ?_ 2 _ rfl; (with_reducible repeat (first | refine blk_drewN ?_ _ | refine blk_drew ?_ | refine blk_alloc ?_ _)); refine blk_put (cs := #[.int .i64 ((rd_T57 l0_1 x3_3).f0), .int .i64 0, .slice none 0 0]) ?_ 1 _ rfl; (with_reducible repeat (first | refine blk_drewN ?_ _ | refine blk_drew ?_ | refine blk_alloc ?_ _)); refine blk_put (cs := #[.int .i64 0, .int .i64 0, .slice none 0 0]) ?_ 0 _ rfl; (with_reducible repeat (first | refine blk_drewN ?_ _ | refine blk_drew ?_ | refine blk_alloc ?_ _)); exact BK236.out⟩, ⟨by repeat (first | (with_reducible first | exact HB.out | apply below_alloc | apply pw_below_drewN | apply below_drew1 | refine below_set ?_ GE232.out | refine below_set ?_ GE236.out) | exact HB.out)⟩⟩))
           ·rw [if_neg c26] at H
            have c26b0 : (((rd_T57 l0_1 x3_3).f0) == ((rd_T57 l0_1 0).f0)) = false := beq_eq_false_iff_ne.mpr c26
            have c26b1 : (((rd_T57 l0_1 x3_3).f0) != ((rd_T57 l0_1 0).f0)) = true := bne_iff_ne.mpr c26
            have H' := gA H
            clear H
            have hnb30 := NB236_232.out
            have hnc30 := NB232_236.out
            obtain ⟨hcz31_0, hcz31_1, hcz31_2, hfz31_0, hfz31_1, hfz31_2⟩ := gz3 BK236
            obtain ⟨hcz32_0, hcz32_1, hfz32_0, hfz32_1⟩ := gz2 BK232
            have p237 : 0 ≤ (0 : Int) := (by omega)
            have q237 : 0 < (l0_1.length : Int) := of_decide_eq_true (by first | (with_reducible assumption) | assumption)
            obtain ⟨ad237, A237_2, c237_2, e237, hx237_0, hx237_1, hx237_2, hl237_2, hi237_2⟩ := at_T57 HR0_1.out 0 p237 q237
            obtain rfl : ad235 = ad237 := (by injection e237)
            have qi237 : (0 < l0_1.length) = True := eq_true (by omega)
            (try rw [show ((0 : Int)).toNat = 0 from rfl] at hx237_0)
            (try rw [show 0 * 3 = 0 from rfl] at hx237_0)
            (try rw [Addr.add_zero'] at hx237_0)
            (try rw [show ((0 : Int)).toNat = 0 from rfl] at hx237_1)
            (try rw [show 0 * 3 = 0 from rfl] at hx237_1)
            (try rw [Addr.add_zero'] at hx237_1)
            (try rw [show ((0 : Int)).toNat = 0 from rfl] at hx237_2)
            (try rw [show 0 * 3 = 0 from rfl] at hx237_2)
            (try rw [Addr.add_zero'] at hx237_2)
            have hn237_0 : ad235.block ≠ gb236 := Nat.ne_of_lt (Nat.lt_of_lt_of_le (by have := World.block_lt_of_cell? _ _ hx237_0; first | rwa [add_block] at this | exact this) GW236.out)
            have hn237_1 : ad235.block ≠ gb236 := Nat.ne_of_lt (Nat.lt_of_lt_of_le (by have := World.block_lt_of_cell? _ _ hx237_0; first | rwa [add_block] at this | exact this) GW236.out)
            have hn237_2 : ad235.block ≠ gb236 := Nat.ne_of_lt (Nat.lt_of_lt_of_le (by have := World.block_lt_of_cell? _ _ hx237_0; first | rwa [add_block] at this | exact this) GW236.out)
            replace hx237_0 := (HB.out.cell (World.block_lt_of_cell? w _ hx237_0)).trans hx237_0
            replace hx237_1 := (HB.out.cell (World.block_lt_of_cell? w _ hx237_1)).trans hx237_1
            replace hx237_2 := (HB.out.cell (World.block_lt_of_cell? w _ hx237_2)).trans hx237_2
            have HR237_2 := gA hi237_2
            have HC237_2 := gA hl237_2
            clear hi237_2 hl237_2
            replace hx237_0 := (cell_far (p := ⟨gb236, 0, none⟩) (by first | (rw [add_block]; exact hn237_0) | (show (Addr.add _ _).block ≠ _; rw [add_block]; exact hn237_0) | exact hn237_0) (.int .i64 ((rd_T57 l0_1 x3_3).f0))).trans hx237_0
            replace hx237_1 := (cell_far (p := ⟨gb236, 0, none⟩) (by first | (rw [add_block]; exact hn237_0) | (show (Addr.add _ _).block ≠ _; rw [add_block]; exact hn237_0) | exact hn237_0) (.int .i64 ((rd_T57 l0_1 x3_3).f0))).trans hx237_1
            replace hx237_2 := (cell_far (p := ⟨gb236, 0, none⟩) (by first | (rw [add_block]; exact hn237_0) | (show (Addr.add _ _).block ≠ _; rw [add_block]; exact hn237_0) | exact hn237_0) (.int .i64 ((rd_T57 l0_1 x3_3).f0))).trans hx237_2
            replace hx237_0 := (cell_far (p := ⟨gb236, 1, none⟩) (by first | (rw [add_block]; exact hn237_1) | (show (Addr.add _ _).block ≠ _; rw [add_block]; exact hn237_1) | exact hn237_1) (.int .i64 ((rd_T57 l0_1 x3_3).f1))).trans hx237_0
            replace hx237_1 := (cell_far (p := ⟨gb236, 1, none⟩) (by first | (rw [add_block]; exact hn237_1) | (show (Addr.add _ _).block ≠ _; rw [add_block]; exact hn237_1) | exact hn237_1) (.int .i64 ((rd_T57 l0_1 x3_3).f1))).trans hx237_1
            replace hx237_2 := (cell_far (p := ⟨gb236, 1, none⟩) (by first | (rw [add_block]; exact hn237_1) | (show (Addr.add _ _).block ≠ _; rw [add_block]; exact hn237_1) | exact hn237_1) (.int .i64 ((rd_T57 l0_1 x3_3).f1))).trans hx237_2
            replace hx237_0 := (cell_far (p := ⟨gb236, 2, none⟩) (by first | (rw [add_block]; exact hn237_2) | (show (Addr.add _ _).block ≠ _; rw [add_block]; exact hn237_2) | exact hn237_2) (.slice A235_2 ((rd_T57 l0_1 x3_3).f2).length c235_2)).trans hx237_0
            replace hx237_1 := (cell_far (p := ⟨gb236, 2, none⟩) (by first | (rw [add_block]; exact hn237_2) | (show (Addr.add _ _).block ≠ _; rw [add_block]; exact hn237_2) | exact hn237_2) (.slice A235_2 ((rd_T57 l0_1 x3_3).f2).length c235_2)).trans hx237_1
            replace hx237_2 := (cell_far (p := ⟨gb236, 2, none⟩) (by first | (rw [add_block]; exact hn237_2) | (show (Addr.add _ _).block ≠ _; rw [add_block]; exact hn237_2) | exact hn237_2) (.slice A235_2 ((rd_T57 l0_1 x3_3).f2).length c235_2)).trans hx237_2
            (try have hy237_0 := fun (n_ : Nat) => (show (((((w22.drewN n_).setCell ⟨gb236, 0, none⟩ (.int .i64 ((rd_T57 l0_1 x3_3).f0))).setCell ⟨gb236, 1, none⟩ (.int .i64 ((rd_T57 l0_1 x3_3).f1))).setCell ⟨gb236, 2, none⟩ (.slice A235_2 ((rd_T57 l0_1 x3_3).f2).length c235_2))).cell? _ = some _ from hx237_0))
            (try have hy237_1 := fun (n_ : Nat) => (show (((((w22.drewN n_).setCell ⟨gb236, 0, none⟩ (.int .i64 ((rd_T57 l0_1 x3_3).f0))).setCell ⟨gb236, 1, none⟩ (.int .i64 ((rd_T57 l0_1 x3_3).f1))).setCell ⟨gb236, 2, none⟩ (.slice A235_2 ((rd_T57 l0_1 x3_3).f2).length c235_2))).cell? _ = some _ from hx237_1))
            (try have hy237_2 := fun (n_ : Nat) => (show (((((w22.drewN n_).setCell ⟨gb236, 0, none⟩ (.int .i64 ((rd_T57 l0_1 x3_3).f0))).setCell ⟨gb236, 1, none⟩ (.int .i64 ((rd_T57 l0_1 x3_3).f1))).setCell ⟨gb236, 2, none⟩ (.slice A235_2 ((rd_T57 l0_1 x3_3).f2).length c235_2))).cell? _ = some _ from hx237_2))
            clear hn237_0 hn237_1 hn237_2
            replace p237 := eq_true p237
            replace q237 := eq_true q237
            go_wp2
            repeat (go_quiet (fail); try go_wp2)
            all_goals (go_meet; (case rel => exact ⟨_, (true), (by first | rfl | (simp; done) | (simp [*]; done) | (exfalso; simp_all; done) | (exfalso; simp_all; omega)), H', ⟨by have := HJ1.out; have := HJ11.out; have := HK3.out; first | omega | exact Nat.le_refl _⟩, ⟨by (with_reducible repeat (first | refine blk_drewN ?_ _ | refine blk_drew ?_ | refine blk_alloc ?_ _)); refine blk_far ?_ NB232_236.out _; (with_reducible repeat (first | refine blk_drewN ?_ _ | refine blk_drew ?_ | refine blk_alloc ?_ _)); refine blk_far ?_ NB232_236.out _; (with_reducible repeat (first | refine blk_drewN ?_ _ | refine blk_drew ?_ | refine blk_alloc ?_ _)); refine blk_far ?_ NB232_236.out _; (with_reducible repeat (first | refine blk_drewN ?_ _ | refine blk_drew ?_ | refine blk_alloc ?_ _)); exact BK232.out⟩, ⟨by (with_reducible repeat (first | refine blk_drewN ?_ _ | refine blk_drew ?_ | refine blk_alloc ?_ _)); refine blk_put (cs := #[.int .i64 ((rd_T57 l0_1 x3_3).f0), .int .i64 ((rd_T57 l0_1 x3_3).f1), .slice none 0 0]) ?_ 2 _ rfl; (with_reducible repeat (first | refine blk_drewN ?_ _ | refine blk_drew ?_ | refine blk_alloc ?_ _)); refine blk_put (cs := #[.int .i64 ((rd_T57 l0_1 x3_3).f0), .int .i64 0, .slice none 0 0]) ?_ 1 _ rfl; (with_reducible repeat (first | refine blk_drewN ?_ _ | refine blk_drew ?_ | refine blk_alloc ?_ _)); refine blk_put (cs := #[.int .i64 0, .int .i64 0, .slice none 0 0]) ?_ 0 _ rfl; (with_reducible repeat (first | refine blk_drewN ?_ _ | refine blk_drew ?_ | refine blk_alloc ?_ _)); exact BK236.out⟩, ⟨by repeat (first | (with_reducible first | exact HB.out | apply below_alloc | apply pw_below_drewN | apply below_drew1 | refine below_set ?_ GE232.out | refine below_set ?_ GE236.out) | exact HB.out)⟩⟩))
          case rest =>
           clear HC20
           try clear c1
           try clear c2
           try clear p2
           try clear q2
           try clear hx2
           try clear qi2
           try clear c3
           try clear c5
           try clear c5b0
           try clear c5b1
           try clear c11
           try clear c13
           try clear c13b0
           try clear c13b1
           try clear c14
           try clear c14b0
           try clear c14b1
           try clear c17
           try clear c18
           try clear c18b0
           try clear c19
           try clear c19b0
           try clear c23
           try clear p23
           try clear q23
           try clear hx23
           try clear qi23
           try clear c25
           try clear c25b0
           try clear c25b1
           try clear c26
           try clear c26b0
           try clear c26b1
           try clear c27
           try clear c30
           try clear hcz15_0
           try clear hcz15_1
           try clear hcz16_0
           try clear hcz16_1
           try clear hcz21_0
           try clear hcz21_1
           try clear hcz24_0
           try clear hcz24_1
           try clear hcz24_2
           try clear hcz28_0
           try clear hcz28_1
           try clear hcz28_2
           try clear hcz29_0
           try clear hcz29_1
           try clear hcz31_0
           try clear hcz31_1
           try clear hcz31_2
           try clear hcz32_0
           try clear hcz32_1
           try clear hcz6_0
           try clear hcz6_1
           try clear hcz8_0
           try clear hcz8_1
           try clear hcz9_0
           try clear hcz9_1
           try clear hfz15_0
           try clear hfz15_1
           try clear hfz16_0
           try clear hfz16_1
           try clear hfz21_0
           try clear hfz21_1
           try clear hfz24_0
           try clear hfz24_1
           try clear hfz24_2
           try clear hfz28_0
           try clear hfz28_1
           try clear hfz28_2
           try clear hfz29_0
           try clear hfz29_1
           try clear hfz31_0
           try clear hfz31_1
           try clear hfz31_2
           try clear hfz32_0
           try clear hfz32_1
           try clear hfz6_0
           try clear hfz6_1
           try clear hfz8_0
           try clear hfz8_1
           try clear hfz9_0
           try clear hfz9_1
           try clear hx234_0
           try clear hx235_0
           try clear hx235_1
           try clear hx235_2
           try clear hx237_0
           try clear hx237_1
           try clear hx237_2
           try clear p2
           try clear p234
           try clear p235
           try clear p237
           try clear q2
           try clear q234
           try clear q235
           try clear q237
           obtain ⟨kq, x49_19, rfl, HA, HJ19, BK232, BK236, HB⟩ := hcut
           cases kq with
           | zero => exact absurd HA.out (by simp [triglyphref10_Literal.j3])
           | succ kj19 =>
            have H := HA.out; clear HA
            simp only [triglyphref10_Literal.j3] at H
            by_cases c33 : x49_19 = true
            ·subst c33
             have H1 : (some false) = some r := by rw [if_pos rfl] at H; exact H
             clear H; have H := H1; clear H1
             obtain rfl := Option.some.inj H
             go_wp2
             repeat (go_quiet (fail); try go_wp2)
             go_ret
             exact ⟨by first | rfl | (simp [errW_none, errW_some] <;> rfl) | (simp [*, errW_none, errW_some] <;> rfl), by repeat (first | (with_reducible first | exact HB.out | apply below_alloc | apply pw_below_drewN | apply below_drew1 | refine below_set ?_ GE232.out | refine below_set ?_ GE236.out) | exact HB.out)⟩
            ·replace c33 := Bool.eq_false_iff.mpr c33
             subst c33
             have H1 : (if ((rd_T57 l0_1 x3_3).f0) = 1 then (if ((rd_T57 l0_1 x3_3).f1) < 32 then (some false) else (if ((rd_T57 l0_1 x3_3).f1) = 127 then (some false) else (triglyphref10_Literal.l0 kj19 (wrap64 (x3_3 + 1)) l0_0 l0_1))) else (triglyphref10_Literal.l0 kj19 (wrap64 (x3_3 + 1)) l0_0 l0_1)) = some r := by rw [if_neg (show ¬ (false = true) by decide)] at H; exact H
             clear H; have H := H1; clear H1
             by_cases c34 : ((rd_T57 l0_1 x3_3).f0) = 1
             ·rw [if_pos c34] at H
              have c34b0 : (((rd_T57 l0_1 x3_3).f0) == 1) = true := beq_iff_eq.mpr c34
              have c34b1 : (((rd_T57 l0_1 x3_3).f0) != 1) = false := bne_eq_false_iff_eq.mpr c34
              clear c34
              by_cases c35 : ((rd_T57 l0_1 x3_3).f1) < 32
              ·rw [if_pos c35] at H
               have c35b0 := decide_eq_true c35
               clear c35
               obtain rfl := Option.some.inj H
               have hnb36 := NB236_232.out
               have hnc36 := NB232_236.out
               obtain ⟨hcz37_0, hcz37_1, hcz37_2, hfz37_0, hfz37_1, hfz37_2⟩ := gz3 BK236
               go_wp2
               repeat (go_quiet (fail); try go_wp2)
               go_ret
               exact ⟨by first | rfl | (simp [errW_none, errW_some] <;> rfl) | (simp [*, errW_none, errW_some] <;> rfl), by repeat (first | (with_reducible first | exact HB.out | apply below_alloc | apply pw_below_drewN | apply below_drew1 | refine below_set ?_ GE232.out | refine below_set ?_ GE236.out) | exact HB.out)⟩
              ·rw [if_neg c35] at H
               have c35b0 := decide_eq_false c35
               clear c35
               by_cases c38 : ((rd_T57 l0_1 x3_3).f1) = 127
               ·rw [if_pos c38] at H
                have c38b0 : (((rd_T57 l0_1 x3_3).f1) == 127) = true := beq_iff_eq.mpr c38
                have c38b1 : (((rd_T57 l0_1 x3_3).f1) != 127) = false := bne_eq_false_iff_eq.mpr c38
                clear c38
                obtain rfl := Option.some.inj H
                have hnb39 := NB236_232.out
                have hnc39 := NB232_236.out
                obtain ⟨hcz40_0, hcz40_1, hcz40_2, hfz40_0, hfz40_1, hfz40_2⟩ := gz3 BK236
                go_wp2
                repeat (go_quiet (fail); try go_wp2)
                go_ret
                exact ⟨by first | rfl | (simp [errW_none, errW_some] <;> rfl) | (simp [*, errW_none, errW_some] <;> rfl), by repeat (first | (with_reducible first | exact HB.out | apply below_alloc | apply pw_below_drewN | apply below_drew1 | refine below_set ?_ GE232.out | refine below_set ?_ GE236.out) | exact HB.out)⟩
               ·rw [if_neg c38] at H
                have c38b0 : (((rd_T57 l0_1 x3_3).f1) == 127) = false := beq_eq_false_iff_ne.mpr c38
                have c38b1 : (((rd_T57 l0_1 x3_3).f1) != 127) = true := bne_iff_ne.mpr c38
                have H' := gA H
                clear H
                have hnb41 := NB236_232.out
                have hnc41 := NB232_236.out
                obtain ⟨hcz42_0, hcz42_1, hcz42_2, hfz42_0, hfz42_1, hfz42_2⟩ := gz3 BK236
                go_wp2
                repeat (go_quiet (fail); try go_wp2)
                go_roundg kj19
                case measure => have := HJ1.out; have := HJ11.out; have := HK3.out; have := HJ19.out; omega
                case rel => exact ⟨(wrap64 (x3_3 + 1)), (by first | rfl | (simp; done) | (simp [*]; done)), H', ⟨by have := HJ1.out; have := HJ11.out; have := HK3.out; have := HJ19.out; omega⟩, ⟨by (with_reducible repeat (first | refine blk_drewN ?_ _ | refine blk_drew ?_ | refine blk_alloc ?_ _)); exact BK232.out⟩, ⟨by repeat (first | (with_reducible first | exact HB.out | apply below_alloc | apply pw_below_drewN | apply below_drew1 | refine below_set ?_ GE232.out | refine below_set ?_ GE236.out) | exact HB.out)⟩⟩
             ·rw [if_neg c34] at H
              have c34b0 : (((rd_T57 l0_1 x3_3).f0) == 1) = false := beq_eq_false_iff_ne.mpr c34
              have c34b1 : (((rd_T57 l0_1 x3_3).f0) != 1) = true := bne_iff_ne.mpr c34
              have H' := gA H
              clear H
              have hnb43 := NB236_232.out
              have hnc43 := NB232_236.out
              obtain ⟨hcz44_0, hcz44_1, hcz44_2, hfz44_0, hfz44_1, hfz44_2⟩ := gz3 BK236
              go_wp2
              repeat (go_quiet (fail); try go_wp2)
              go_roundg kj19
              case measure => have := HJ1.out; have := HJ11.out; have := HK3.out; have := HJ19.out; omega
              case rel => exact ⟨(wrap64 (x3_3 + 1)), (by first | rfl | (simp; done) | (simp [*]; done)), H', ⟨by have := HJ1.out; have := HJ11.out; have := HK3.out; have := HJ19.out; omega⟩, ⟨by (with_reducible repeat (first | refine blk_drewN ?_ _ | refine blk_drew ?_ | refine blk_alloc ?_ _)); exact BK232.out⟩, ⟨by repeat (first | (with_reducible first | exact HB.out | apply below_alloc | apply pw_below_drewN | apply below_drew1 | refine below_set ?_ GE232.out | refine below_set ?_ GE236.out) | exact HB.out)⟩⟩
         ·rw [if_neg c18] at H
          have c18b0 := decide_eq_false c18
          clear c18
          obtain rfl := Option.some.inj H
          obtain ⟨hcz45_0, hcz45_1, hfz45_0, hfz45_1⟩ := gz2 BK232
          go_wp2
          repeat (go_quiet (fail); try go_wp2)
          go_ret
          exact ⟨by first | rfl | (simp [errW_none, errW_some] <;> rfl) | (simp [*, errW_none, errW_some] <;> rfl), by repeat (first | (with_reducible first | exact HB.out | apply below_alloc | apply pw_below_drewN | apply below_drew1 | refine below_set ?_ GE232.out) | exact HB.out)⟩
end Go.Proofs.Ytfjkclhkobnakaa.P
