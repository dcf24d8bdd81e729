/- Written by a program of this session: the functions that the laws reach, what each comes to, and each law as it is stated, for every input. No condition. -/
import Derived.Test.YteamkcgkhcalhaaPx0
import Derived.Test.YteamkcgkhcalhaaPx9
namespace Go.Proofs.Yteamkcgkhcalhaa.P
open Go.RowKit Go.Proofs.YteamkcgkhcalhaaW.PrintWords Go.Proofs.YteamkcgkhcalhaaW.PrintLast Go.Proofs.YteamkcgkhcalhaaW.PrintMore
attribute [local go_sem] max2_int min2_int max_two min_two max_three min_three max_four min_four   -- for this text's walks alone
set_option linter.unusedVariables false
set_option linter.unusedSimpArgs false
mutual
def triglyphref10_Literal.j0 : Nat → Bool → List Int → List (S60) → Option (Bool)
 | 0, _, _, _ => none
 | k + 1, x13, x251000, x251001 => if x13 = true then (some false) else (if (x251000.length : Int) = 1 then (if 0 < (x251000.length : Int) then (triglyphref10_Literal.j1 k ((rd x251000 0) == 1) x251000 x251001) else (none)) else (triglyphref10_Literal.j1 k false x251000 x251001))
def triglyphref10_Literal.j1 : Nat → Bool → List Int → List (S60) → Option (Bool)
 | 0, _, _, _ => none
 | k + 1, x24, x251000, x251001 => if x24 = true then (some false) else (triglyphref10_Literal.l0 k 0 x251000 x251001)
def triglyphref10_Literal.l0 : Nat → Int → List Int → List (S60) → Option (Bool)
 | 0, _, _, _ => none
 | k + 1, x3, x251000, x251001 => if x3 < (x251001.length : Int) then (if 0 ≤ x3 then (if 0 < (x251001.length : Int) then (if ((rd_T60 x251001 x3).f0) = ((rd_T60 x251001 0).f0) then (triglyphref10_Literal.j3 k x3 (((rd_T60 x251001 x3).f0) == 2) x251000 x251001 ((rd_T60 x251001 x3).f0) ((rd_T60 x251001 x3).f1) ((rd_T60 x251001 x3).f2)) else (triglyphref10_Literal.j3 k x3 true x251000 x251001 ((rd_T60 x251001 x3).f0) ((rd_T60 x251001 x3).f1) ((rd_T60 x251001 x3).f2))) else (none)) else (none)) else (some true)
def triglyphref10_Literal.j3 : Nat → Int → Bool → List Int → List (S60) → Int → Int → List (S28) → Option (Bool)
 | 0, _, _, _, _, _, _, _ => none
 | k + 1, x3, x49, x251000, x251001, x255000, x255001, x255002 => if x49 = true then (some false) else (if x255000 = 1 then (if x255001 < 32 then (some false) else (if x255001 = 127 then (some false) else (triglyphref10_Literal.l0 k (wrap64 (x3 + 1)) x251000 x251001))) else (triglyphref10_Literal.l0 k (wrap64 (x3 + 1)) x251000 x251001))
end
def triglyphref10_Literal.f (k : Nat) (l0_0 : List Int) (l0_1 : List (S60)) : Option (Bool) := (triglyphref03_Check.f k l0_0 l0_1).bind fun t251 => (if t251 = 0 then (triglyphref10_Literal.j0 k (decide ((l0_0.length : Int) > 1)) l0_0 l0_1) else (triglyphref10_Literal.j0 k true l0_0 l0_1))
theorem triglyphref10_Literal.mono_l : ∀ k, (∀ y0 y1 y2, LeO (triglyphref10_Literal.j0 k y0 y1 y2) (triglyphref10_Literal.j0 (k + 1) y0 y1 y2)) ∧ (∀ y0 y1 y2, LeO (triglyphref10_Literal.j1 k y0 y1 y2) (triglyphref10_Literal.j1 (k + 1) y0 y1 y2)) ∧ (∀ y0 y1 y2, LeO (triglyphref10_Literal.l0 k y0 y1 y2) (triglyphref10_Literal.l0 (k + 1) y0 y1 y2)) ∧ (∀ y0 y1 y2 y3 y4 y5 y6, LeO (triglyphref10_Literal.j3 k y0 y1 y2 y3 y4 y5 y6) (triglyphref10_Literal.j3 (k + 1) y0 y1 y2 y3 y4 y5 y6))
 | 0 => ⟨fun _ _ _ r h => by simp [triglyphref10_Literal.j0] at h, fun _ _ _ r h => by simp [triglyphref10_Literal.j1] at h, fun _ _ _ r h => by simp [triglyphref10_Literal.l0] at h, fun _ _ _ _ _ _ _ r h => by simp [triglyphref10_Literal.j3] at h⟩
 | k + 1 => by
  obtain ⟨ih0, ih1, ih2, ih3⟩ := triglyphref10_Literal.mono_l k
  refine ⟨?_, ?_, ?_, ?_⟩
  ·intro y0 y1 y2
   unfold triglyphref10_Literal.j0
   repeat' first
   | (with_reducible exact ih0 _ _ _)
   | (with_reducible exact ih1 _ _ _)
   | (with_reducible exact ih2 _ _ _)
   | (with_reducible exact ih3 _ _ _ _ _ _ _)
   | (with_reducible exact triglyphref03_Check.mono _ _ _)
   | (with_reducible exact LeO.refl _)
   | (with_reducible exact LeO.none _)
   | (with_reducible refine LeO.ite ?_ ?_)
   | (with_reducible refine LeO.bind ?_ (fun _ => ?_))




   | exact triglyphref03_Check.mono _ _ _



  ·intro y0 y1 y2
   unfold triglyphref10_Literal.j1
   repeat' first
   | (with_reducible exact ih0 _ _ _)
   | (with_reducible exact ih1 _ _ _)
   | (with_reducible exact ih2 _ _ _)
   | (with_reducible exact ih3 _ _ _ _ _ _ _)
   | (with_reducible exact triglyphref03_Check.mono _ _ _)
   | (with_reducible exact LeO.refl _)
   | (with_reducible exact LeO.none _)
   | (with_reducible refine LeO.ite ?_ ?_)
   | (with_reducible refine LeO.bind ?_ (fun _ => ?_))




   | exact triglyphref03_Check.mono _ _ _



  ·intro y0 y1 y2
   unfold triglyphref10_Literal.l0
   repeat' first
   | (with_reducible exact ih0 _ _ _)
   | (with_reducible exact ih1 _ _ _)
   | (with_reducible exact ih2 _ _ _)
   | (with_reducible exact ih3 _ _ _ _ _ _ _)
   | (with_reducible exact triglyphref03_Check.mono _ _ _)
   | (with_reducible exact LeO.refl _)
   | (with_reducible exact LeO.none _)
   | (with_reducible refine LeO.ite ?_ ?_)
   | (with_reducible refine LeO.bind ?_ (fun _ => ?_))




   | exact triglyphref03_Check.mono _ _ _



  ·intro y0 y1 y2 y3 y4 y5 y6
   unfold triglyphref10_Literal.j3
   repeat' first
   | (with_reducible exact ih0 _ _ _)
   | (with_reducible exact ih1 _ _ _)
   | (with_reducible exact ih2 _ _ _)
   | (with_reducible exact ih3 _ _ _ _ _ _ _)
   | (with_reducible exact triglyphref03_Check.mono _ _ _)
   | (with_reducible exact LeO.refl _)
   | (with_reducible exact LeO.none _)
   | (with_reducible refine LeO.ite ?_ ?_)
   | (with_reducible refine LeO.bind ?_ (fun _ => ?_))




   | exact triglyphref03_Check.mono _ _ _
theorem triglyphref10_Literal.mono : ∀ a0 a1 k, LeO (triglyphref10_Literal.f k a0 a1) (triglyphref10_Literal.f (k + 1) a0 a1) := by
 intro a0 a1 k
 obtain ⟨ih0, ih1, ih2, ih3⟩ := triglyphref10_Literal.mono_l k
 unfold triglyphref10_Literal.f
 repeat' first
   | (with_reducible exact ih0 _ _ _)
   | (with_reducible exact ih1 _ _ _)
   | (with_reducible exact ih2 _ _ _)
   | (with_reducible exact ih3 _ _ _ _ _ _ _)
   | (with_reducible exact triglyphref03_Check.mono _ _ _)
   | (with_reducible exact LeO.refl _)
   | (with_reducible exact LeO.none _)
   | (with_reducible refine LeO.ite ?_ ?_)
   | (with_reducible refine LeO.bind ?_ (fun _ => ?_))




   | exact triglyphref03_Check.mono _ _ _
set_option maxHeartbeats 8000000 in
set_option maxRecDepth 100000 in
theorem triglyphref10_Literal.calls (k : Nat) (A0_0 : Option Addr) (c0_0 : Nat) (l0_0 : List Int) (A0_1 : Option Addr) (c0_1 : Nat) (l0_1 : List (S60)) (r : Bool) (w : World) (hr0_0 : Kd.C (Kd.int .i64) w A0_0 l0_0.length l0_0) (hc0_0 : l0_0.length ≤ c0_0) (hr0_1 : Kd.C k60 w A0_1 l0_1.length l0_1) (hc0_1 : l0_1.length ≤ c0_1) (h : triglyphref10_Literal.f k l0_0 l0_1 = some r) :
  Calls Try.prog 28 #[.agg #[.slice A0_0 l0_0.length c0_0, .slice A0_1 l0_1.length c0_1]] w fun e w' => e = .returned (.bool r) ∧ Below w.heap.size w w' := by
 have hu28 := Try.underlying28
 have hu60 := Try.underlying60
 have HR0_0 := gA hr0_0
 have HC0_0 := gA hc0_0
 clear hr0_0 hc0_0
 have HR0_1 := gA hr0_1
 have HC0_1 := gA hc0_1
 clear hr0_1 hc0_1
 have HB := gA (Below.refl w.heap.size w)
 have H : ((triglyphref03_Check.f k l0_0 l0_1).bind fun t251 => (if t251 = 0 then (triglyphref10_Literal.j0 k (decide ((l0_0.length : Int) > 1)) l0_0 l0_1) else (triglyphref10_Literal.j0 k true l0_0 l0_1))) = some r := h
 clear h
 have HC2 := gA H
 clear H
 go_enter Try.func28, Try.ntmps28
 iterate 6 ((try go_quiet (fail)); (try go_upto_region 1 with (first | ((with_reducible refine gate_dst (N := 1) rfl ?_); (try (refine gate_guard (by rfl) ?_; dsimp only)); refine box_event ?hg (N := 1) ?hd (cs := #[.slice A0_0 l0_0.length c0_0, .slice A0_1 l0_1.length c0_1]) (t := 28) ?hr ?_; (case hd => rfl); (case hg => rfl); (case hr => first | (go_simp; done) | (go_simp; rfl)); intro gb250 hg w3 hbox hb; have BK250 := gA (hbox); have GW250 := gA ((by rw [hg]; exact (below_size (by repeat (first | (with_reducible first | exact HB.out | apply below_alloc | apply pw_below_drewN | apply below_drew1) | exact HB.out))) : w.heap.size ≤ gb250)); have GE250 := gA ((by rw [hg]; exact (below_size (by repeat (first | (with_reducible first | exact HB.out | apply below_alloc | apply pw_below_drewN | apply below_drew1) | exact HB.out))) : w.heap.size ≤ gb250)); replace HB := gA (below_step (by repeat (first | (with_reducible first | exact HB.out | apply below_alloc | apply pw_below_drewN | apply below_drew1) | exact HB.out)) hb); clear hb hbox hg))))
 skip
 (try simp only [Act.put, List.setIfInBounds_toArray, List.set_cons_zero, List.set_cons_succ])
 go_cut [13] (fun v13 wc => ∃ (kq : Nat) (x13_1 : Bool), v13 = .bool x13_1 ∧ Aside0 (triglyphref10_Literal.j0 kq x13_1 l0_0 l0_1 = some r) ∧ Aside0 (kq ≤ k) ∧ Aside0 (wc.heap[gb250]? = some (.cells #[(.slice A0_0 l0_0.length c0_0), (.slice A0_1 l0_1.length c0_1)] 28 (0, 0))) ∧ Aside0 (Below w.heap.size w wc))
 case first =>
  have H := HC2.out; clear HC2
  replace H := Option.bind_eq_some_iff.mp H
  obtain ⟨t251, A40, H⟩ := H
  replace H : (if t251 = 0 then (triglyphref10_Literal.j0 k (decide ((l0_0.length : Int) > 1)) l0_0 l0_1) else (triglyphref10_Literal.j0 k true l0_0 l0_1)) = some r := H
  have A4 := gA A40
  clear A40
  by_cases c5 : t251 = 0
  ·rw [if_pos c5] at H
   have c5b0 : (t251 == 0) = true := beq_iff_eq.mpr c5
   have c5b1 : (t251 != 0) = false := bne_eq_false_iff_eq.mpr c5
   clear c5
   (first | rw [c5b0] | rw [c5b1] | (simp only [i64_w, i32_w]; rw [c5b0]) | skip)
   have H' := gA H
   clear H
   obtain ⟨hcz6_0, hcz6_1, hfz6_0, hfz6_1⟩ := gz2 BK250
   iterate 6 ((try go_quiet (fail)); go_wp2_with (first | (go_at_call 42; (with_reducible refine (triglyphref03_Check.calls k _ _ l0_0 _ _ l0_1 t251 _ ?side1 ?side2 ?side3 ?side4 A4.out).mono ?_); (case side1 => repeat (first | exact (Kd.C_below HR0_0.out HB.out) | (with_reducible refine Kd.C_alloc ?_ _) | (with_reducible refine Kd.C_drewN ?_ _) | (with_reducible refine Kd.C_drew ?_))); (case side2 => exact HC0_0.out); (case side3 => repeat (first | exact (Kd.C_below HR0_1.out HB.out) | (with_reducible refine Kd.C_alloc ?_ _) | (with_reducible refine Kd.C_drewN ?_ _) | (with_reducible refine Kd.C_drew ?_))); (case side4 => exact HC0_1.out); rintro e w7 ⟨rfl, hb⟩; replace BK250 := gA (blk_below (g := gb250) (o := .cells #[.slice A0_0 l0_0.length c0_0, .slice A0_1 l0_1.length c0_1] 28 (0, 0)) (by (with_reducible repeat (first | refine blk_drewN ?_ _ | refine blk_drew ?_ | refine blk_alloc ?_ _)); exact BK250.out) hb); replace HB := gA (below_step (by repeat (first | (with_reducible first | exact HB.out | apply below_alloc | apply pw_below_drewN | apply below_drew1 | refine below_set ?_ GE250.out) | exact HB.out)) hb); (try clear hb); obtain ⟨hcz8_0, hcz8_1, hfz8_0, hfz8_1⟩ := gz2 BK250)))
   skip
   all_goals (go_meet; (case rel => exact ⟨_, (decide ((l0_0.length : Int) > 1)), (by first | rfl | (simp; done) | (simp [*]; done) | (exfalso; simp_all; done) | (exfalso; simp_all; omega)), H', ⟨by first | omega | exact Nat.le_refl _⟩, ⟨by (with_reducible repeat (first | refine blk_drewN ?_ _ | refine blk_drew ?_ | refine blk_alloc ?_ _)); exact BK250.out⟩, ⟨by repeat (first | (with_reducible first | exact HB.out | apply below_alloc | apply pw_below_drewN | apply below_drew1 | refine below_set ?_ GE250.out) | exact HB.out)⟩⟩))
  ·rw [if_neg c5] at H
   have c5b0 : (t251 == 0) = false := beq_eq_false_iff_ne.mpr c5
   have c5b1 : (t251 != 0) = true := bne_iff_ne.mpr c5
   (first | rw [c5b0] | rw [c5b1] | (simp only [i64_w, i32_w]; rw [c5b0]) | skip)
   have H' := gA H
   clear H
   obtain ⟨hcz9_0, hcz9_1, hfz9_0, hfz9_1⟩ := gz2 BK250
   iterate 6 ((try go_quiet (fail)); go_wp2_with (first | (go_at_call 42; (with_reducible refine (triglyphref03_Check.calls k _ _ l0_0 _ _ l0_1 t251 _ ?side1 ?side2 ?side3 ?side4 A4.out).mono ?_); (case side1 => repeat (first | exact (Kd.C_below HR0_0.out HB.out) | (with_reducible refine Kd.C_alloc ?_ _) | (with_reducible refine Kd.C_drewN ?_ _) | (with_reducible refine Kd.C_drew ?_))); (case side2 => exact HC0_0.out); (case side3 => repeat (first | exact (Kd.C_below HR0_1.out HB.out) | (with_reducible refine Kd.C_alloc ?_ _) | (with_reducible refine Kd.C_drewN ?_ _) | (with_reducible refine Kd.C_drew ?_))); (case side4 => exact HC0_1.out); rintro e w10 ⟨rfl, hb⟩; replace BK250 := gA (blk_below (g := gb250) (o := .cells #[.slice A0_0 l0_0.length c0_0, .slice A0_1 l0_1.length c0_1] 28 (0, 0)) (by (with_reducible repeat (first | refine blk_drewN ?_ _ | refine blk_drew ?_ | refine blk_alloc ?_ _)); exact BK250.out) hb); replace HB := gA (below_step (by repeat (first | (with_reducible first | exact HB.out | apply below_alloc | apply pw_below_drewN | apply below_drew1 | refine below_set ?_ GE250.out) | exact HB.out)) hb); (try clear hb))))
   skip
   all_goals (go_meet; (case rel => exact ⟨_, (true), (by first | rfl | (simp; done) | (simp [*]; done) | (exfalso; simp_all; done) | (exfalso; simp_all; omega)), H', ⟨by first | omega | exact Nat.le_refl _⟩, ⟨by (with_reducible repeat (first | refine blk_drewN ?_ _ | refine blk_drew ?_ | refine blk_alloc ?_ _)); exact BK250.out⟩, ⟨by repeat (first | (with_reducible first | exact HB.out | apply below_alloc | apply pw_below_drewN | apply below_drew1 | refine below_set ?_ GE250.out) | exact HB.out)⟩⟩))
 case rest =>
  clear HC2
  try clear c2
  try clear p2
  try clear c5
  try clear c5b0
  try clear c5b1
  try clear hcz6_0
  try clear hcz6_1
  try clear hcz8_0
  try clear hcz8_1
  try clear hcz9_0
  try clear hcz9_1
  try clear hfz6_0
  try clear hfz6_1
  try clear hfz8_0
  try clear hfz8_1
  try clear hfz9_0
  try clear hfz9_1
  obtain ⟨kq, x13_1, rfl, HA, HJ1, BK250, HB⟩ := hcut
  cases kq with
  | zero => exact absurd HA.out (by simp [triglyphref10_Literal.j0])
  | succ kj1 =>
   have H := HA.out; clear HA
   simp only [triglyphref10_Literal.j0] at H
   by_cases c11 : x13_1 = true
   ·subst c11
    have H1 : (some false) = some r := by rw [if_pos rfl] at H; exact H
    clear H; have H := H1; clear H1
    obtain rfl := Option.some.inj H
    go_wp2
    repeat (go_quiet (fail); try go_wp2)
    go_ret
    exact ⟨by first | rfl | (simp [errW_none, errW_some] <;> rfl) | (simp [*, errW_none, errW_some] <;> rfl), by repeat (first | (with_reducible first | exact HB.out | apply below_alloc | apply pw_below_drewN | apply below_drew1 | refine below_set ?_ GE250.out) | exact HB.out)⟩
   ·replace c11 := Bool.eq_false_iff.mpr c11
    subst c11
    have H1 : (if (l0_0.length : Int) = 1 then (if 0 < (l0_0.length : Int) then (triglyphref10_Literal.j1 kj1 ((rd l0_0 0) == 1) l0_0 l0_1) else (none)) else (triglyphref10_Literal.j1 kj1 false l0_0 l0_1)) = some r := by rw [if_neg (show ¬ (false = true) by decide)] at H; exact H
    clear H; have H := H1; clear H1
    have HC12 := gA H
    clear H
    go_upto_region 3 with (fail)
    repeat (go_quiet (fail); go_upto_region 3 with (fail))
    go_cut [24] (fun v24 wc => ∃ (kq : Nat) (x24_11 : Bool), v24 = .bool x24_11 ∧ Aside0 (triglyphref10_Literal.j1 kq x24_11 l0_0 l0_1 = some r) ∧ Aside0 (kq ≤ kj1) ∧ Aside0 (wc.heap[gb250]? = some (.cells #[(.slice A0_0 l0_0.length c0_0), (.slice A0_1 l0_1.length c0_1)] 28 (0, 0))) ∧ Aside0 (Below w.heap.size w wc))
    case first =>
     have H := HC12.out; clear HC12
     by_cases c13 : (l0_0.length : Int) = 1
     ·rw [if_pos c13] at H
      have c13b0 : ((l0_0.length : Int) == 1) = true := beq_iff_eq.mpr c13
      have c13b1 : ((l0_0.length : Int) != 1) = false := bne_eq_false_iff_eq.mpr c13
      clear c13
      (first | rw [c13b0] | rw [c13b1] | (simp only [i64_w, i32_w]; rw [c13b0]) | skip)
      obtain ⟨c14, H⟩ := iS H
      have c14b0 := decide_eq_true c14
      have c14b1 : decide (0 < l0_0.length) = true := decide_eq_true (by omega)
      clear c14
      have H' := gA H
      clear H
      obtain ⟨hcz15_0, hcz15_1, hfz15_0, hfz15_1⟩ := gz2 BK250
      have p252 : 0 ≤ (0 : Int) := (by omega)
      have q252 : 0 < (l0_0.length : Int) := of_decide_eq_true (by first | (with_reducible assumption) | assumption)
      obtain ⟨ad252, e252, hx252_0⟩ := Kd.at_int HR0_0.out 0 p252 q252
      cases e252
      have qi252 : (0 < l0_0.length) = True := eq_true (by omega)
      (try rw [show ((0 : Int)).toNat = 0 from rfl] at hx252_0)
      (try rw [Addr.add_zero'] at hx252_0)
      replace hx252_0 := (HB.out.cell (World.block_lt_of_cell? w _ hx252_0)).trans hx252_0
      replace p252 := eq_true p252
      replace q252 := eq_true q252
      go_wp2
      repeat (go_quiet (fail); try go_wp2)
      all_goals (go_meet; (case rel => exact ⟨_, (((rd l0_0 0) == 1)), (by first | rfl | (simp; done) | (simp [*]; done) | (exfalso; simp_all; done) | (exfalso; simp_all; omega)), H', ⟨by have := HJ1.out; first | omega | exact Nat.le_refl _⟩, ⟨by (with_reducible repeat (first | refine blk_drewN ?_ _ | refine blk_drew ?_ | refine blk_alloc ?_ _)); exact BK250.out⟩, ⟨by repeat (first | (with_reducible first | exact HB.out | apply below_alloc | apply pw_below_drewN | apply below_drew1 | refine below_set ?_ GE250.out) | exact HB.out)⟩⟩))
     ·rw [if_neg c13] at H
      have c13b0 : ((l0_0.length : Int) == 1) = false := beq_eq_false_iff_ne.mpr c13
      have c13b1 : ((l0_0.length : Int) != 1) = true := bne_iff_ne.mpr c13
      (first | rw [c13b0] | rw [c13b1] | (simp only [i64_w, i32_w]; rw [c13b0]) | skip)
      have H' := gA H
      clear H
      obtain ⟨hcz16_0, hcz16_1, hfz16_0, hfz16_1⟩ := gz2 BK250
      go_wp2
      repeat (go_quiet (fail); try go_wp2)
      all_goals (go_meet; (case rel => exact ⟨_, (false), (by first | rfl | (simp; done) | (simp [*]; done) | (exfalso; simp_all; done) | (exfalso; simp_all; omega)), H', ⟨by have := HJ1.out; first | omega | exact Nat.le_refl _⟩, ⟨by (with_reducible repeat (first | refine blk_drewN ?_ _ | refine blk_drew ?_ | refine blk_alloc ?_ _)); exact BK250.out⟩, ⟨by repeat (first | (with_reducible first | exact HB.out | apply below_alloc | apply pw_below_drewN | apply below_drew1 | refine below_set ?_ GE250.out) | exact HB.out)⟩⟩))
    case rest =>
     clear HC12
     try clear c1
     try clear c2
     try clear p2
     try clear q2
     try clear hx2
     try clear qi2
     try clear c5
     try clear c5b0
     try clear c5b1
     try clear c11
     try clear c13
     try clear c13b0
     try clear c13b1
     try clear c14
     try clear c14b0
     try clear c14b1
     try clear hcz15_0
     try clear hcz15_1
     try clear hcz16_0
     try clear hcz16_1
     try clear hcz6_0
     try clear hcz6_1
     try clear hcz8_0
     try clear hcz8_1
     try clear hcz9_0
     try clear hcz9_1
     try clear hfz15_0
     try clear hfz15_1
     try clear hfz16_0
     try clear hfz16_1
     try clear hfz6_0
     try clear hfz6_1
     try clear hfz8_0
     try clear hfz8_1
     try clear hfz9_0
     try clear hfz9_1
     try clear hx252_0
     try clear p2
     try clear p252
     try clear q252
     obtain ⟨kq, x24_11, rfl, HA, HJ11, BK250, HB⟩ := hcut
     cases kq with
     | zero => exact absurd HA.out (by simp [triglyphref10_Literal.j1])
     | succ kj11 =>
      have H := HA.out; clear HA
      simp only [triglyphref10_Literal.j1] at H
      by_cases c17 : x24_11 = true
      ·subst c17
       have H1 : (some false) = some r := by rw [if_pos rfl] at H; exact H
       clear H; have H := H1; clear H1
       obtain rfl := Option.some.inj H
       go_wp2
       repeat (go_quiet (fail); try go_wp2)
       go_ret
       exact ⟨by first | rfl | (simp [errW_none, errW_some] <;> rfl) | (simp [*, errW_none, errW_some] <;> rfl), by repeat (first | (with_reducible first | exact HB.out | apply below_alloc | apply pw_below_drewN | apply below_drew1 | refine below_set ?_ GE250.out) | exact HB.out)⟩
      ·replace c17 := Bool.eq_false_iff.mpr c17
       subst c17
       have H1 : (triglyphref10_Literal.l0 kj11 0 l0_0 l0_1) = some r := by rw [if_neg (show ¬ (false = true) by decide)] at H; exact H
       clear H; have H := H1; clear H1
       have H' := gA H
       clear H
       go_wp2
       repeat (go_quiet (fail); try go_wp2)
       go_loopg [3] kj11 (fun kq v3 w' => ∃ (x3_3 : Int), v3 = .int .i64 x3_3 ∧ Aside0 (triglyphref10_Literal.l0 kq x3_3 l0_0 l0_1 = some r) ∧ Aside0 (kq ≤ kj11) ∧ Aside0 (w'.heap[gb250]? = some (.cells #[(.slice A0_0 l0_0.length c0_0), (.slice A0_1 l0_1.length c0_1)] 28 (0, 0))) ∧ Aside0 (Below w.heap.size w w'))
       case atStart => exact ⟨(0), (by first | rfl | (simp; done) | (simp [*]; done)), H', ⟨Nat.le_refl _⟩, ⟨by (with_reducible repeat (first | refine blk_drewN ?_ _ | refine blk_drew ?_ | refine blk_alloc ?_ _)); exact BK250.out⟩, ⟨by repeat (first | (with_reducible first | exact HB.out | apply below_alloc | apply pw_below_drewN | apply below_drew1 | refine below_set ?_ GE250.out) | exact HB.out)⟩⟩
       case round =>
        clear H'
        try clear c1
        try clear c2
        try clear p2
        try clear q2
        try clear hx2
        try clear qi2
        try clear c5
        try clear c5b0
        try clear c5b1
        try clear c11
        try clear c13
        try clear c13b0
        try clear c13b1
        try clear c14
        try clear c14b0
        try clear c14b1
        try clear c17
        try clear hcz15_0
        try clear hcz15_1
        try clear hcz16_0
        try clear hcz16_1
        try clear hcz6_0
        try clear hcz6_1
        try clear hcz8_0
        try clear hcz8_1
        try clear hcz9_0
        try clear hcz9_1
        try clear hfz15_0
        try clear hfz15_1
        try clear hfz16_0
        try clear hfz16_1
        try clear hfz6_0
        try clear hfz6_1
        try clear hfz8_0
        try clear hfz8_1
        try clear hfz9_0
        try clear hfz9_1
        try clear hx252_0
        try clear p2
        try clear p252
        try clear q2
        try clear q252
        obtain ⟨x3_3, rfl, HA, HK3, BK250, HB⟩ := hrel
        cases gk with
        | zero => exact absurd HA.out (by simp [triglyphref10_Literal.l0])
        | succ k3 =>
         have H := HA.out; clear HA
         simp only [triglyphref10_Literal.l0] at H
         by_cases c18 : x3_3 < (l0_1.length : Int)
         ·rw [if_pos c18] at H
          have c18b0 := decide_eq_true c18
          clear c18
          obtain ⟨c19, H⟩ := iS H
          have c19b0 := decide_eq_true c19
          clear c19
          have HC20 := gA H
          clear H
          obtain ⟨hcz21_0, hcz21_1, hfz21_0, hfz21_1⟩ := gz2 BK250
          have p253 : 0 ≤ (x3_3 : Int) := of_decide_eq_true (by first | (with_reducible assumption) | assumption)
          have q253 : x3_3 < (l0_1.length : Int) := of_decide_eq_true (by first | (with_reducible assumption) | assumption)
          obtain ⟨ad253, A253_2, c253_2, e253, hx253_0, hx253_1, hx253_2, hl253_2, hi253_2⟩ := at_T60 HR0_1.out x3_3 p253 q253
          cases e253
          replace hx253_0 := (HB.out.cell (World.block_lt_of_cell? w _ hx253_0)).trans hx253_0
          replace hx253_1 := (HB.out.cell (World.block_lt_of_cell? w _ hx253_1)).trans hx253_1
          replace hx253_2 := (HB.out.cell (World.block_lt_of_cell? w _ hx253_2)).trans hx253_2
          have HR253_2 := gA hi253_2
          have HC253_2 := gA hl253_2
          clear hi253_2 hl253_2
          replace p253 := eq_true p253
          replace q253 := eq_true q253
          iterate 6 ((try go_quiet (fail)); (try go_upto_region 9 with (first | ((with_reducible refine gate_dst (N := 4) rfl ?_); (try (refine gate_guard (by rfl) ?_; dsimp only)); refine box_event ?hg (N := 4) ?hd (cs := #[.int .i64 0, .int .i64 0, .slice none 0 0]) (t := 60) ?hr ?_; (case hd => rfl); (case hg => rfl); (case hr => first | (go_simp; done) | (go_simp; rfl)); intro gb254 hg w22 hbox hb; have BK254 := gA (hbox); have GW254 := gA ((by rw [hg]; exact (below_size (by repeat (first | (with_reducible first | exact HB.out | apply below_alloc | apply pw_below_drewN | apply below_drew1 | refine below_set ?_ GE250.out) | exact HB.out))) : w.heap.size ≤ gb254)); have GE254 := gA ((by rw [hg]; exact (below_size (by repeat (first | (with_reducible first | exact HB.out | apply below_alloc | apply pw_below_drewN | apply below_drew1 | refine below_set ?_ GE250.out) | exact HB.out))) : w.heap.size ≤ gb254)); replace HB := gA (below_step (by repeat (first | (with_reducible first | exact HB.out | apply below_alloc | apply pw_below_drewN | apply below_drew1 | refine below_set ?_ GE250.out) | exact HB.out)) hb); have NB250_254 := gA ((by rw [hg]; exact Nat.ne_of_lt (blk_lt (g := gb250) (o := .cells #[.slice A0_0 l0_0.length c0_0, .slice (some ad253) l0_1.length c0_1] 28 (0, 0)) (by (with_reducible repeat (first | refine blk_drewN ?_ _ | refine blk_drew ?_ | refine blk_alloc ?_ _)); exact BK250.out)) : gb250 ≠ gb254)); have NB254_250 := gA ((by rw [hg]; exact Nat.ne_of_gt (blk_lt (g := gb250) (o := .cells #[.slice A0_0 l0_0.length c0_0, .slice (some ad253) l0_1.length c0_1] 28 (0, 0)) (by (with_reducible repeat (first | refine blk_drewN ?_ _ | refine blk_drew ?_ | refine blk_alloc ?_ _)); exact BK250.out)) : gb254 ≠ gb250)); replace BK250 := gA (blk_below (g := gb250) (o := .cells #[.slice A0_0 l0_0.length c0_0, .slice (some ad253) l0_1.length c0_1] 28 (0, 0)) (by (with_reducible repeat (first | refine blk_drewN ?_ _ | refine blk_drew ?_ | refine blk_alloc ?_ _)); exact BK250.out) hb); clear hb hbox hg; have hnb23 := NB254_250.out; have hnc23 := NB250_254.out; obtain ⟨hcz24_0, hcz24_1, hcz24_2, hfz24_0, hfz24_1, hfz24_2⟩ := gz3 BK254))))
          skip
          (try simp only [Act.put, List.setIfInBounds_toArray, List.set_cons_zero, List.set_cons_succ])
          go_cut [49] (fun v49 wc => ∃ (kq : Nat) (x49_19 : Bool), v49 = .bool x49_19 ∧ Aside0 (triglyphref10_Literal.j3 kq x3_3 x49_19 l0_0 l0_1 ((rd_T60 l0_1 x3_3).f0) ((rd_T60 l0_1 x3_3).f1) ((rd_T60 l0_1 x3_3).f2) = some r) ∧ Aside0 (kq ≤ k3) ∧ Aside0 (wc.heap[gb250]? = some (.cells #[(.slice A0_0 l0_0.length c0_0), (.slice (some ad253) l0_1.length c0_1)] 28 (0, 0))) ∧ Aside0 (wc.heap[gb254]? = some (.cells #[.int .i64 ((rd_T60 l0_1 x3_3).f0), .int .i64 ((rd_T60 l0_1 x3_3).f1), (.slice A253_2 ((rd_T60 l0_1 x3_3).f2).length c253_2)] 60 (0, 0))) ∧ Aside0 (Below w.heap.size w wc))
          case first =>
           have H := HC20.out; clear HC20
           obtain ⟨c25, H⟩ := iS H
           have c25b0 := decide_eq_true c25
           have c25b1 : decide (0 < l0_1.length) = true := decide_eq_true (by omega)
           clear c25
           (first | rw [c25b0] | rw [c25b1] | (simp only [i64_w, i32_w]; rw [c25b0]) | skip)
           by_cases c26 : ((rd_T60 l0_1 x3_3).f0) = ((rd_T60 l0_1 0).f0)
           ·rw [if_pos c26] at H
            have c26b0 : (((rd_T60 l0_1 x3_3).f0) == ((rd_T60 l0_1 0).f0)) = true := beq_iff_eq.mpr c26
            have c26b1 : (((rd_T60 l0_1 x3_3).f0) != ((rd_T60 l0_1 0).f0)) = false := bne_eq_false_iff_eq.mpr c26
            clear c26
            have H' := gA H
            clear H
            have hnb27 := NB254_250.out
            have hnc27 := NB250_254.out
            obtain ⟨hcz28_0, hcz28_1, hcz28_2, hfz28_0, hfz28_1, hfz28_2⟩ := gz3 BK254
            obtain ⟨hcz29_0, hcz29_1, hfz29_0, hfz29_1⟩ := gz2 BK250
            have p255 : 0 ≤ (0 : Int) := (by omega)
            have q255 : 0 < (l0_1.length : Int) := of_decide_eq_true (by first | (with_reducible assumption) | assumption)
            obtain ⟨ad255, A255_2, c255_2, e255, hx255_0, hx255_1, hx255_2, hl255_2, hi255_2⟩ := at_T60 HR0_1.out 0 p255 q255
            obtain rfl : ad253 = ad255 := (by injection e255)
            have qi255 : (0 < l0_1.length) = True := eq_true (by omega)
            (try rw [show ((0 : Int)).toNat = 0 from rfl] at hx255_0)
            (try rw [show 0 * 3 = 0 from rfl] at hx255_0)
            (try rw [Addr.add_zero'] at hx255_0)
            (try rw [show ((0 : Int)).toNat = 0 from rfl] at hx255_1)
            (try rw [show 0 * 3 = 0 from rfl] at hx255_1)
            (try rw [Addr.add_zero'] at hx255_1)
            (try rw [show ((0 : Int)).toNat = 0 from rfl] at hx255_2)
            (try rw [show 0 * 3 = 0 from rfl] at hx255_2)
            (try rw [Addr.add_zero'] at hx255_2)
            have hn255_0 : ad253.block ≠ gb254 := Nat.ne_of_lt (Nat.lt_of_lt_of_le (by have := World.block_lt_of_cell? _ _ hx255_0; first | rwa [add_block] at this | exact this) GW254.out)
            have hn255_1 : ad253.block ≠ gb254 := Nat.ne_of_lt (Nat.lt_of_lt_of_le (by have := World.block_lt_of_cell? _ _ hx255_0; first | rwa [add_block] at this | exact this) GW254.out)
            have hn255_2 : ad253.block ≠ gb254 := Nat.ne_of_lt (Nat.lt_of_lt_of_le (by have := World.block_lt_of_cell? _ _ hx255_0; first | rwa [add_block] at this | exact this) GW254.out)
            replace hx255_0 := (HB.out.cell (World.block_lt_of_cell? w _ hx255_0)).trans hx255_0
            replace hx255_1 := (HB.out.cell (World.block_lt_of_cell? w _ hx255_1)).trans hx255_1
            replace hx255_2 := (HB.out.cell (World.block_lt_of_cell? w _ hx255_2)).trans hx255_2
            have HR255_2 := gA hi255_2
            have HC255_2 := gA hl255_2
            clear hi255_2 hl255_2
            replace hx255_0 := (cell_far (p := ⟨gb254, 0, none⟩) (by first | (rw [add_block]; exact hn255_0) | (show (Addr.add _ _).block ≠ _; rw [add_block]; exact hn255_0) | exact hn255_0) (.int .i64 ((rd_T60 l0_1 x3_3).f0))).trans hx255_0
            replace hx255_1 := (cell_far (p := ⟨gb254, 0, none⟩) (by first | (rw [add_block]; exact hn255_0) | (show (Addr.add _ _).block ≠ _; rw [add_block]; exact hn255_0) | exact hn255_0) (.int .i64 ((rd_T60 l0_1 x3_3).f0))).trans hx255_1
            replace hx255_2 := (cell_far (p := ⟨gb254, 0, none⟩) (by first | (rw [add_block]; exact hn255_0) | (show (Addr.add _ _).block ≠ _; rw [add_block]; exact hn255_0) | exact hn255_0) (.int .i64 ((rd_T60 l0_1 x3_3).f0))).trans hx255_2
            replace hx255_0 := (cell_far (p := ⟨gb254, 1, none⟩) (by first | (rw [add_block]; exact hn255_1) | (show (Addr.add _ _).block ≠ _; rw [add_block]; exact hn255_1) | exact hn255_1) (.int .i64 ((rd_T60 l0_1 x3_3).f1))).trans hx255_0
            replace hx255_1 := (cell_far (p := ⟨gb254, 1, none⟩) (by first | (rw [add_block]; exact hn255_1) | (show (Addr.add _ _).block ≠ _; rw [add_block]; exact hn255_1) | exact hn255_1) (.int .i64 ((rd_T60 l0_1 x3_3).f1))).trans hx255_1
            replace hx255_2 := (cell_far (p := ⟨gb254, 1, none⟩) (by first | (rw [add_block]; exact hn255_1) | (show (Addr.add _ _).block ≠ _; rw [add_block]; exact hn255_1) | exact hn255_1) (.int .i64 ((rd_T60 l0_1 x3_3).f1))).trans hx255_2
            replace hx255_0 := (cell_far (p := ⟨gb254, 2, none⟩) (by first | (rw [add_block]; exact hn255_2) | (show (Addr.add _ _).block ≠ _; rw [add_block]; exact hn255_2) | exact hn255_2) (.slice A253_2 ((rd_T60 l0_1 x3_3).f2).length c253_2)).trans hx255_0
            replace hx255_1 := (cell_far (p := ⟨gb254, 2, none⟩) (by first | (rw [add_block]; exact hn255_2) | (show (Addr.add _ _).block ≠ _; rw [add_block]; exact hn255_2) | exact hn255_2) (.slice A253_2 ((rd_T60 l0_1 x3_3).f2).length c253_2)).trans hx255_1
            replace hx255_2 := (cell_far (p := ⟨gb254, 2, none⟩) (by first | (rw [add_block]; exact hn255_2) | (show (Addr.add _ _).block ≠ _; rw [add_block]; exact hn255_2) | exact hn255_2) (.slice A253_2 ((rd_T60 l0_1 x3_3).f2).length c253_2)).trans hx255_2
            (try have hy255_0 := fun (n_ : Nat) => (show (((((w22.drewN n_).setCell ⟨gb254, 0, none⟩ (.int .i64 ((rd_T60 l0_1 x3_3).f0))).setCell ⟨gb254, 1, none⟩ (.int .i64 ((rd_T60 l0_1 x3_3).f1))).setCell ⟨gb254, 2, none⟩ (.slice A253_2 ((rd_T60 l0_1 x3_3).f2).length c253_2))).cell? _ = some _ from hx255_0))
            (try have hy255_1 := fun (n_ : Nat) => (show (((((w22.drewN n_).setCell ⟨gb254, 0, none⟩ (.int .i64 ((rd_T60 l0_1 x3_3).f0))).setCell ⟨gb254, 1, none⟩ (.int .i64 ((rd_T60 l0_1 x3_3).f1))).setCell ⟨gb254, 2, none⟩ (.slice A253_2 ((rd_T60 l0_1 x3_3).f2).length c253_2))).cell? _ = some _ from hx255_1))
            (try have hy255_2 := fun (n_ : Nat) => (show (((((w22.drewN n_).setCell ⟨gb254, 0, none⟩ (.int .i64 ((rd_T60 l0_1 x3_3).f0))).setCell ⟨gb254, 1, none⟩ (.int .i64 ((rd_T60 l0_1 x3_3).f1))).setCell ⟨gb254, 2, none⟩ (.slice A253_2 ((rd_T60 l0_1 x3_3).f2).length c253_2))).cell? _ = some _ from hx255_2))
            clear hn255_0 hn255_1 hn255_2
            replace p255 := eq_true p255
            replace q255 := eq_true q255
            go_wp2
            repeat (go_quiet (fail); try go_wp2)
            all_goals (go_meet; (case rel => exact ⟨_, ((((rd_T60 l0_1 x3_3).f0) == 2)), (by first | rfl | (simp; done) | (simp [*]; done) | (exfalso; simp_all; done) | (exfalso; simp_all; omega)), H', ⟨by have := HJ1.out; have := HJ11.out; have := HK3.out; first | omega | exact Nat.le_refl _⟩, ⟨by (with_reducible repeat (first | refine blk_drewN ?_ _ | refine blk_drew ?_ | refine blk_alloc ?_ _)); refine blk_far ?_ NB250_254.out _; (with_reducible repeat (first | refine blk_drewN ?_ _ | refine blk_drew ?_ | refine blk_alloc ?_ _)); refine blk_far ?_ NB250_254.out _; (with_reducible repeat (first | refine blk_drewN ?_ _ | refine blk_drew ?_ | refine blk_alloc ?_ _)); refine blk_far ?_ NB250_254.out _; (with_reducible repeat (first | refine blk_drewN ?_ _ | refine blk_drew ?_ | refine blk_alloc ?_ _)); exact BK250.out⟩, ⟨by (with_reducible repeat (first | refine blk_drewN ?_ _ | refine blk_drew ?_ | refine blk_alloc ?_ _)); refine blk_put (cs := #[.int .i64 ((rd_T60 l0_1 x3_3).f0), .int .i64 ((rd_T60 l0_1 x3_3).f1), .slice none 0 0]) ?_ 2 _ rfl; (with_reducible repeat (first | refine blk_drewN ?_ _ | refine blk_drew ?_ | refine blk_alloc ?_ _)); refine blk_put (cs := #[.int .i64 ((rd_T60 l0_1 x3_3).f0), .int .i64 0, .slice none 0 0]) ?_ 1 _ rfl; (with_reducible repeat (first | refine blk_drewN ?_ _ | refine blk_drew ?_ | refine blk_alloc ?_ _)); refine blk_put (cs := #[.int .i64 0, .int .i64 0, .slice none 0 0]) ?_ 0 _ rfl; (with_reducible repeat (first | refine blk_drewN ?_ _ | refine blk_drew ?_ | refine blk_alloc ?_ _)); exact BK254.out⟩, ⟨by repeat (first | (with_reducible first | exact HB.out | apply below_alloc | apply pw_below_drewN | apply below_drew1 | refine below_set ?_ GE250.out | refine below_set ?_ GE254.out) | exact HB.out)⟩⟩))
           ·rw [if_neg c26] at H
            have c26b0 : (((rd_T60 l0_1 x3_3).f0) == ((rd_T60 l0_1 0).f0)) = false := beq_eq_false_iff_ne.mpr c26
            have c26b1 : (((rd_T60 l0_1 x3_3).f0) != ((rd_T60 l0_1 0).f0)) = true := bne_iff_ne.mpr c26
            have H' := gA H
            clear H
            have hnb30 := NB254_250.out
            have hnc30 := NB250_254.out
            obtain ⟨hcz31_0, hcz31_1, hcz31_2, hfz31_0, hfz31_1, hfz31_2⟩ := gz3 BK254
            obtain ⟨hcz32_0, hcz32_1, hfz32_0, hfz32_1⟩ := gz2 BK250
            have p255 : 0 ≤ (0 : Int) := (by omega)
            have q255 : 0 < (l0_1.length : Int) := of_decide_eq_true (by first | (with_reducible assumption) | assumption)
            obtain ⟨ad255, A255_2, c255_2, e255, hx255_0, hx255_1, hx255_2, hl255_2, hi255_2⟩ := at_T60 HR0_1.out 0 p255 q255
            obtain rfl : ad253 = ad255 := (by injection e255)
            have qi255 : (0 < l0_1.length) = True := eq_true (by omega)
            (try rw [show ((0 : Int)).toNat = 0 from rfl] at hx255_0)
            (try rw [show 0 * 3 = 0 from rfl] at hx255_0)
            (try rw [Addr.add_zero'] at hx255_0)
            (try rw [show ((0 : Int)).toNat = 0 from rfl] at hx255_1)
            (try rw [show 0 * 3 = 0 from rfl] at hx255_1)
            (try rw [Addr.add_zero'] at hx255_1)
            (try rw [show ((0 : Int)).toNat = 0 from rfl] at hx255_2)
            (try rw [show 0 * 3 = 0 from rfl] at hx255_2)
            (try rw [Addr.add_zero'] at hx255_2)
            have hn255_0 : ad253.block ≠ gb254 := Nat.ne_of_lt (Nat.lt_of_lt_of_le (by have := World.block_lt_of_cell? _ _ hx255_0; first | rwa [add_block] at this | exact this) GW254.out)
            have hn255_1 : ad253.block ≠ gb254 := Nat.ne_of_lt (Nat.lt_of_lt_of_le (by have := World.block_lt_of_cell? _ _ hx255_0; first | rwa [add_block] at this | exact this) GW254.out)
            have hn255_2 : ad253.block ≠ gb254 := Nat.ne_of_lt (Nat.lt_of_lt_of_le (by have := World.block_lt_of_cell? _ _ hx255_0; first | rwa [add_block] at this | exact this) GW254.out)
            replace hx255_0 := (HB.out.cell (World.block_lt_of_cell? w _ hx255_0)).trans hx255_0
            replace hx255_1 := (HB.out.cell (World.block_lt_of_cell? w _ hx255_1)).trans hx255_1
            replace hx255_2 := (HB.out.cell (World.block_lt_of_cell? w _ hx255_2)).trans hx255_2
            have HR255_2 := gA hi255_2
            have HC255_2 := gA hl255_2
            clear hi255_2 hl255_2
            replace hx255_0 := (cell_far (p := ⟨gb254, 0, none⟩) (by first | (rw [add_block]; exact hn255_0) | (show (Addr.add _ _).block ≠ _; rw [add_block]; exact hn255_0) | exact hn255_0) (.int .i64 ((rd_T60 l0_1 x3_3).f0))).trans hx255_0
            replace hx255_1 := (cell_far (p := ⟨gb254, 0, none⟩) (by first | (rw [add_block]; exact hn255_0) | (show (Addr.add _ _).block ≠ _; rw [add_block]; exact hn255_0) | exact hn255_0) (.int .i64 ((rd_T60 l0_1 x3_3).f0))).trans hx255_1
            replace hx255_2 := (cell_far (p := ⟨gb254, 0, none⟩) (by first | (rw [add_block]; exact hn255_0) | (show (Addr.add _ _).block ≠ _; rw [add_block]; exact hn255_0) | exact hn255_0) (.int .i64 ((rd_T60 l0_1 x3_3).f0))).trans hx255_2
            replace hx255_0 := (cell_far (p := ⟨gb254, 1, none⟩) (by first | (rw [add_block]; exact hn255_1) | (show (Addr.add _ _).block ≠ _; rw [add_block]; exact hn255_1) | exact hn255_1) (.int .i64 ((rd_T60 l0_1 x3_3).f1))).trans hx255_0
            replace hx255_1 := (cell_far (p := ⟨gb254, 1, none⟩) (by first | (rw [add_block]; exact hn255_1) | (show (Addr.add _ _).block ≠ _; rw [add_block]; exact hn255_1) | exact hn255_1) (.int .i64 ((rd_T60 l0_1 x3_3).f1))).trans hx255_1
            replace hx255_2 := (cell_far (p := ⟨gb254, 1, none⟩) (by first | (rw [add_block]; exact hn255_1) | (show (Addr.add _ _).block ≠ _; rw [add_block]; exact hn255_1) | exact hn255_1) (.int .i64 ((rd_T60 l0_1 x3_3).f1))).trans hx255_2
            replace hx255_0 := (cell_far (p := ⟨gb254, 2, none⟩) (by first | (rw [add_block]; exact hn255_2) | (show (Addr.add _ _).block ≠ _; rw [add_block]; exact hn255_2) | exact hn255_2) (.slice A253_2 ((rd_T60 l0_1 x3_3).f2).length c253_2)).trans hx255_0
            replace hx255_1 := (cell_far (p := ⟨gb254, 2, none⟩) (by first | (rw [add_block]; exact hn255_2) | (show (Addr.add _ _).block ≠ _; rw [add_block]; exact hn255_2) | exact hn255_2) (.slice A253_2 ((rd_T60 l0_1 x3_3).f2).length c253_2)).trans hx255_1
            replace hx255_2 := (cell_far (p := ⟨gb254, 2, none⟩) (by first | (rw [add_block]; exact hn255_2) | (show (Addr.add _ _).block ≠ _; rw [add_block]; exact hn255_2) | exact hn255_2) (.slice A253_2 ((rd_T60 l0_1 x3_3).f2).length c253_2)).trans hx255_2
            (try have hy255_0 := fun (n_ : Nat) => (show (((((w22.drewN n_).setCell ⟨gb254, 0, none⟩ (.int .i64 ((rd_T60 l0_1 x3_3).f0))).setCell ⟨gb254, 1, none⟩ (.int .i64 ((rd_T60 l0_1 x3_3).f1))).setCell ⟨gb254, 2, none⟩ (.slice A253_2 ((rd_T60 l0_1 x3_3).f2).length c253_2))).cell? _ = some _ from hx255_0))
            (try have hy255_1 := fun (n_ : Nat) => (show (((((w22.drewN n_).setCell ⟨gb254, 0, none⟩ (.int .i64 ((rd_T60 l0_1 x3_3).f0))).setCell ⟨gb254, 1, none⟩ (.int .i64 ((rd_T60 l0_1 x3_3).f1))).setCell ⟨gb254, 2, none⟩ (.slice A253_2 ((rd_T60 l0_1 x3_3).f2).length c253_2))).cell? _ = some _ from hx255_1))
            (try have hy255_2 := fun (n_ : Nat) => (show (((((w22.drewN n_).setCell ⟨gb254, 0, none⟩ (.int .i64 ((rd_T60 l0_1 x3_3).f0))).setCell ⟨gb254, 1, none⟩ (.int .i64 ((rd_T60 l0_1 x3_3).f1))).setCell ⟨gb254, 2, none⟩ (.slice A253_2 ((rd_T60 l0_1 x3_3).f2).length c253_2))).cell? _ = some _ from hx255_2))
            clear hn255_0 hn255_1 hn255_2
            replace p255 := eq_true p255
            replace q255 := eq_true q255
            go_wp2
            repeat (go_quiet (fail); try go_wp2)
            all_goals (go_meet; (case rel => exact ⟨_, (true), (by first | rfl | (simp; done) | (simp [*]; done) | (exfalso; simp_all; done) | (exfalso; simp_all; omega)), H', ⟨by have := HJ1.out; have := HJ11.out; have := HK3.out; first | omega | exact Nat.le_refl _⟩, ⟨by (with_reducible repeat (first | refine blk_drewN ?_ _ | refine blk_drew ?_ | refine blk_alloc ?_ _)); refine blk_far ?_ NB250_254.out _; (with_reducible repeat (first | refine blk_drewN ?_ _ | refine blk_drew ?_ | refine blk_alloc ?_ _)); refine blk_far ?_ NB250_254.out _; (with_reducible repeat (first | refine blk_drewN ?_ _ | refine blk_drew ?_ | refine blk_alloc ?_ _)); refine blk_far ?_ NB250_254.out _; (with_reducible repeat (first | refine blk_drewN ?_ _ | refine blk_drew ?_ | refine blk_alloc ?_ _)); exact BK250.out⟩, ⟨by (with_reducible repeat (first | refine blk_drewN ?_ _ | refine blk_drew ?_ | refine blk_alloc ?_ _)); refine blk_put (cs := #[.int .i64 ((rd_T60 l0_1 x3_3).f0), .int .i64 ((rd_T60 l0_1 x3_3).f1), .slice none 0 0]) ?_ 2 _ rfl; (with_reducible repeat (first | refine blk_drewN ?_ _ | refine blk_drew ?_ | refine blk_alloc ?_ _)); refine blk_put (cs := #[.int .i64 ((rd_T60 l0_1 x3_3).f0), .int .i64 0, .slice none 0 0]) ?_ 1 _ rfl; (with_reducible repeat (first | refine blk_drewN ?_ _ | refine blk_drew ?_ | refine blk_alloc ?_ _)); refine blk_put (cs := #[.int .i64 0, .int .i64 0, .slice none 0 0]) ?_ 0 _ rfl; (with_reducible repeat (first | refine blk_drewN ?_ _ | refine blk_drew ?_ | refine blk_alloc ?_ _)); exact BK254.out⟩, ⟨by repeat (first | (with_reducible first | exact HB.out | apply below_alloc | apply pw_below_drewN | apply below_drew1 | refine below_set ?_ GE250.out | refine below_set ?_ GE254.out) | exact HB.out)⟩⟩))
          case rest =>
           clear HC20
           try clear c1
           try clear c2
           try clear p2
           try clear q2
           try clear hx2
           try clear qi2
           try clear c3
           try clear c5
           try clear c5b0
           try clear c5b1
           try clear c11
           try clear c13
           try clear c13b0
           try clear c13b1
           try clear c14
           try clear c14b0
           try clear c14b1
           try clear c17
           try clear c18
           try clear c18b0
           try clear c19
           try clear c19b0
           try clear c23
           try clear c25
           try clear c25b0
           try clear c25b1
           try clear p25
           try clear q25
           try clear hx25
           try clear qi25
           try clear c26
           try clear c26b0
           try clear c26b1
           try clear c27
           try clear c28
           try clear c30
           try clear hcz15_0
           try clear hcz15_1
           try clear hcz16_0
           try clear hcz16_1
           try clear hcz21_0
           try clear hcz21_1
           try clear hcz24_0
           try clear hcz24_1
           try clear hcz24_2
           try clear hcz28_0
           try clear hcz28_1
           try clear hcz28_2
           try clear hcz29_0
           try clear hcz29_1
           try clear hcz31_0
           try clear hcz31_1
           try clear hcz31_2
           try clear hcz32_0
           try clear hcz32_1
           try clear hcz6_0
           try clear hcz6_1
           try clear hcz8_0
           try clear hcz8_1
           try clear hcz9_0
           try clear hcz9_1
           try clear hfz15_0
           try clear hfz15_1
           try clear hfz16_0
           try clear hfz16_1
           try clear hfz21_0
           try clear hfz21_1
           try clear hfz24_0
           try clear hfz24_1
           try clear hfz24_2
           try clear hfz28_0
           try clear hfz28_1
           try clear hfz28_2
           try clear hfz29_0
           try clear hfz29_1
           try clear hfz31_0
           try clear hfz31_1
           try clear hfz31_2
           try clear hfz32_0
           try clear hfz32_1
           try clear hfz6_0
           try clear hfz6_1
           try clear hfz8_0
           try clear hfz8_1
           try clear hfz9_0
           try clear hfz9_1
           try clear hx252_0
           try clear hx253_0
           try clear hx253_1
           try clear hx253_2
           try clear hx255_0
           try clear hx255_1
           try clear hx255_2
           try clear p2
           try clear p252
           try clear p253
           try clear p255
           try clear q2
           try clear q252
           try clear q253
           try clear q255
           obtain ⟨kq, x49_19, rfl, HA, HJ19, BK250, BK254, HB⟩ := hcut
           cases kq with
           | zero => exact absurd HA.out (by simp [triglyphref10_Literal.j3])
           | succ kj19 =>
            have H := HA.out; clear HA
            simp only [triglyphref10_Literal.j3] at H
            by_cases c33 : x49_19 = true
            ·subst c33
             have H1 : (some false) = some r := by rw [if_pos rfl] at H; exact H
             clear H; have H := H1; clear H1
             obtain rfl := Option.some.inj H
             go_wp2
             repeat (go_quiet (fail); try go_wp2)
             go_ret
             exact ⟨by first | rfl | (simp [errW_none, errW_some] <;> rfl) | (simp [*, errW_none, errW_some] <;> rfl), by repeat (first | (with_reducible first | exact HB.out | apply below_alloc | apply pw_below_drewN | apply below_drew1 | refine below_set ?_ GE250.out | refine below_set ?_ GE254.out) | exact HB.out)⟩
            ·replace c33 := Bool.eq_false_iff.mpr c33
             subst c33
             have H1 : (if ((rd_T60 l0_1 x3_3).f0) = 1 then (if ((rd_T60 l0_1 x3_3).f1) < 32 then (some false) else (if ((rd_T60 l0_1 x3_3).f1) = 127 then (some false) else (triglyphref10_Literal.l0 kj19 (wrap64 (x3_3 + 1)) l0_0 l0_1))) else (triglyphref10_Literal.l0 kj19 (wrap64 (x3_3 + 1)) l0_0 l0_1)) = some r := by rw [if_neg (show ¬ (false = true) by decide)] at H; exact H
             clear H; have H := H1; clear H1
             by_cases c34 : ((rd_T60 l0_1 x3_3).f0) = 1
             ·rw [if_pos c34] at H
              have c34b0 : (((rd_T60 l0_1 x3_3).f0) == 1) = true := beq_iff_eq.mpr c34
              have c34b1 : (((rd_T60 l0_1 x3_3).f0) != 1) = false := bne_eq_false_iff_eq.mpr c34
              clear c34
              by_cases c35 : ((rd_T60 l0_1 x3_3).f1) < 32
              ·rw [if_pos c35] at H
               have c35b0 := decide_eq_true c35
               clear c35
               obtain rfl := Option.some.inj H
               have hnb36 := NB254_250.out
               have hnc36 := NB250_254.out
               obtain ⟨hcz37_0, hcz37_1, hcz37_2, hfz37_0, hfz37_1, hfz37_2⟩ := gz3 BK254
               go_wp2
               repeat (go_quiet (fail); try go_wp2)
               go_ret
               exact ⟨by first | rfl | (simp [errW_none, errW_some] <;> rfl) | (simp [*, errW_none, errW_some] <;> rfl), by repeat (first | (with_reducible first | exact HB.out | apply below_alloc | apply pw_below_drewN | apply below_drew1 | refine below_set ?_ GE250.out | refine below_set ?_ GE254.out) | exact HB.out)⟩
              ·rw [if_neg c35] at H
               have c35b0 := decide_eq_false c35
               clear c35
               by_cases c38 : ((rd_T60 l0_1 x3_3).f1) = 127
               ·rw [if_pos c38] at H
                have c38b0 : (((rd_T60 l0_1 x3_3).f1) == 127) = true := beq_iff_eq.mpr c38
                have c38b1 : (((rd_T60 l0_1 x3_3).f1) != 127) = false := bne_eq_false_iff_eq.mpr c38
                clear c38
                obtain rfl := Option.some.inj H
                have hnb39 := NB254_250.out
                have hnc39 := NB250_254.out
                obtain ⟨hcz40_0, hcz40_1, hcz40_2, hfz40_0, hfz40_1, hfz40_2⟩ := gz3 BK254
                go_wp2
                repeat (go_quiet (fail); try go_wp2)
                go_ret
                exact ⟨by first | rfl | (simp [errW_none, errW_some] <;> rfl) | (simp [*, errW_none, errW_some] <;> rfl), by repeat (first | (with_reducible first | exact HB.out | apply below_alloc | apply pw_below_drewN | apply below_drew1 | refine below_set ?_ GE250.out | refine below_set ?_ GE254.out) | exact HB.out)⟩
               ·rw [if_neg c38] at H
                have c38b0 : (((rd_T60 l0_1 x3_3).f1) == 127) = false := beq_eq_false_iff_ne.mpr c38
                have c38b1 : (((rd_T60 l0_1 x3_3).f1) != 127) = true := bne_iff_ne.mpr c38
                have H' := gA H
                clear H
                have hnb41 := NB254_250.out
                have hnc41 := NB250_254.out
                obtain ⟨hcz42_0, hcz42_1, hcz42_2, hfz42_0, hfz42_1, hfz42_2⟩ := gz3 BK254
                go_wp2
                repeat (go_quiet (fail); try go_wp2)
                go_roundg kj19
                case measure => have := HJ1.out; have := HJ11.out; have := HK3.out; have := HJ19.out; omega
                case rel => exact ⟨(wrap64 (x3_3 + 1)), (by first | rfl | (simp; done) | (simp [*]; done)), H', ⟨by have := HJ1.out; have := HJ11.out; have := HK3.out; have := HJ19.out; omega⟩, ⟨by (with_reducible repeat (first | refine blk_drewN ?_ _ | refine blk_drew ?_ | refine blk_alloc ?_ _)); exact BK250.out⟩, ⟨by repeat (first | (with_reducible first | exact HB.out | apply below_alloc | apply pw_below_drewN | apply below_drew1 | refine below_set ?_ GE250.out | refine below_set ?_ GE254.out) | exact HB.out)⟩⟩
             ·rw [if_neg c34] at H
              have c34b0 : (((rd_T60 l0_1 x3_3).f0) == 1) = false := beq_eq_false_iff_ne.mpr c34
              have c34b1 : (((rd_T60 l0_1 x3_3).f0) != 1) = true := bne_iff_ne.mpr c34
              have H' := gA H
              clear H
              have hnb43 := NB254_250.out
              have hnc43 := NB250_254.out
              obtain ⟨hcz44_0, hcz44_1, hcz44_2, hfz44_0, hfz44_1, hfz44_2⟩ := gz3 BK254
              go_wp2
              repeat (go_quiet (fail); try go_wp2)
              go_roundg kj19
              case measure => have := HJ1.out; have := HJ11.out; have := HK3.out; have := HJ19.out; omega
              case rel => exact ⟨(wrap64 (x3_3 + 1)), (by first | rfl | (simp; done) | (simp [*]; done)), H', ⟨by have := HJ1.out; have := HJ11.out; have := HK3.out; have := HJ19.out; omega⟩, ⟨by (with_reducible repeat (first | refine blk_drewN ?_ _ | refine blk_drew ?_ | refine blk_alloc ?_ _)); exact BK250.out⟩, ⟨by repeat (first | (with_reducible first | exact HB.out | apply below_alloc | apply pw_below_drewN | apply below_drew1 | refine below_set ?_ GE250.out | refine below_set ?_ GE254.out) | exact HB.out)⟩⟩
         ·rw [if_neg c18] at H
          have c18b0 := decide_eq_false c18
          clear c18
          obtain rfl := Option.some.inj H
          obtain ⟨hcz45_0, hcz45_1, hfz45_0, hfz45_1⟩ := gz2 BK250
          go_wp2
          repeat (go_quiet (fail); try go_wp2)
          go_ret
          exact ⟨by first | rfl | (simp [errW_none, errW_some] <;> rfl) | (simp [*, errW_none, errW_some] <;> rfl), by repeat (first | (with_reducible first | exact HB.out | apply below_alloc | apply pw_below_drewN | apply below_drew1 | refine below_set ?_ GE250.out) | exact HB.out)⟩
end Go.Proofs.Yteamkcgkhcalhaa.P
