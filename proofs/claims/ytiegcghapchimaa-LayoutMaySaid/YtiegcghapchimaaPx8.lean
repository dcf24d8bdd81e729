/- Written by a program of this session: the functions that the laws reach, what each comes to, and each law as it is stated, for every input. No condition. -/
import Derived.Test.YtiegcghapchimaaPx0
import Derived.Test.YtiegcghapchimaaPx7
namespace Go.Proofs.Ytiegcghapchimaa.P
open Go.RowKit Go.Proofs.YtiegcghapchimaaW.PrintWords Go.Proofs.YtiegcghapchimaaW.PrintLast Go.Proofs.YtiegcghapchimaaW.PrintMore
attribute [local go_sem] max2_int min2_int max_two min_two max_three min_three max_four min_four   -- for this text's walks alone
set_option linter.unusedVariables false
set_option linter.unusedSimpArgs false
def layout_wanted.l0 : Nat → List Int → List (S39) → Int → Int → Option (List Int × Int)
 | 0, _, _, _, _ => none
 | k + 1, x4, x16, x17, x18 => if x18 < x17 then (if 0 ≤ x18 then (if x18 < (x16.length : Int) then (if ((rd_T39 x16 x18).f0) = 0 then (if ((rd_T39 x16 x18).f1) < 0 then (some (([] : List Int), 5)) else (if x4.length < 17592186044416 then (layout_wanted.l0 k (x4 ++ [mn ((rd_T39 x16 x18).f1) 16385]) x16 x17 (wrap64 (x18 + 1))) else (none))) else (some (([] : List Int), 5))) else (none)) else (none)) else (if (x4.length : Int) > 8 then (some (([] : List Int), 6)) else (if x4.length < 17592186044416 then ((slices_Max_int_int.f k (x4 ++ [0])).bind fun t358 => (if t358 > 16384 then (some (([] : List Int), 12)) else (some (x4, 0)))) else (none)))
def layout_wanted.f (k : Nat) (l0_0 : List Int) (l0_1 : List (S39)) : Option (List Int × Int) := if (l0_0.length : Int) > 1 then (some (([] : List Int), 6)) else (if 0 ≤ (l0_1.length : Int) then (if ((l0_1.length : Int) : Int).toNat ≤ 35184372088832 then (layout_wanted.l0 k (List.replicate 0 0) l0_1 (l0_1.length : Int) 0) else (none)) else (none))
theorem layout_wanted.mono_l : ∀ k, (∀ y0 y1 y2 y3, LeO (layout_wanted.l0 k y0 y1 y2 y3) (layout_wanted.l0 (k + 1) y0 y1 y2 y3))
 | 0 => fun _ _ _ _ r h => by simp [layout_wanted.l0] at h
 | k + 1 => by
  have ih0 := layout_wanted.mono_l k
  ·intro y0 y1 y2 y3
   unfold layout_wanted.l0
   repeat' first
   | (with_reducible exact ih0 _ _ _ _)
   | (with_reducible exact slices_Max_int_int.mono _ _)
   | (with_reducible exact LeO.refl _)
   | (with_reducible exact LeO.none _)
   | (with_reducible refine LeO.ite ?_ ?_)
   | (with_reducible refine LeO.bind ?_ (fun _ => ?_))

   | exact slices_Max_int_int.mono _ _
theorem layout_wanted.mono : ∀ a0 a1 k, LeO (layout_wanted.f k a0 a1) (layout_wanted.f (k + 1) a0 a1) := by
 intro a0 a1 k
 have ih0 := layout_wanted.mono_l k
 unfold layout_wanted.f
 repeat' first
   | (with_reducible exact ih0 _ _ _ _)
   | (with_reducible exact slices_Max_int_int.mono _ _)
   | (with_reducible exact LeO.refl _)
   | (with_reducible exact LeO.none _)
   | (with_reducible refine LeO.ite ?_ ?_)
   | (with_reducible refine LeO.bind ?_ (fun _ => ?_))

   | exact slices_Max_int_int.mono _ _
set_option maxHeartbeats 8000000 in
set_option maxRecDepth 100000 in
theorem layout_wanted.calls (k : Nat) (A0_0 : Option Addr) (c0_0 : Nat) (l0_0 : List Int) (A0_1 : Option Addr) (c0_1 : Nat) (l0_1 : List (S39)) (r1 : List Int) (r2 : Int) (w : World) (hr0_0 : Kd.C (Kd.int .i64) w A0_0 l0_0.length l0_0) (hc0_0 : l0_0.length ≤ c0_0) (hr0_1 : Kd.C k39 w A0_1 l0_1.length l0_1) (hc0_1 : l0_1.length ≤ c0_1) (h : layout_wanted.f k l0_0 l0_1 = some (r1, r2)) :
  Calls Try.prog 38 #[.agg #[.slice A0_0 l0_0.length c0_0, .slice A0_1 l0_1.length c0_1]] w fun e w' => ∃ v0_ : Value, e = .returned (.tuple #[v0_, .int .i64 r2]) ∧ Kd.R (Kd.int .i64) 3 w' w.heap.size (fun _ => True) v0_ r1 ∧ Below w.heap.size w w' := by
 have hu25 := Try.underlying25
 have hu39 := Try.underlying39
 have HR0_0 := gA hr0_0
 have HC0_0 := gA hc0_0
 clear hr0_0 hc0_0
 have HR0_1 := gA hr0_1
 have HC0_1 := gA hc0_1
 clear hr0_1 hc0_1
 have HB := gA (Below.refl w.heap.size w)
 have H : (if (l0_0.length : Int) > 1 then (some (([] : List Int), 6)) else (if 0 ≤ (l0_1.length : Int) then (if ((l0_1.length : Int) : Int).toNat ≤ 35184372088832 then (layout_wanted.l0 k (List.replicate 0 0) l0_1 (l0_1.length : Int) 0) else (none)) else (none))) = some (r1, r2) := h
 clear h
 by_cases c2 : (l0_0.length : Int) > 1
 ·rw [if_pos c2] at H
  have c2b0 : decide (1 < (l0_0.length : Int)) = true := decide_eq_true c2
  have c2b1 : decide (1 < l0_0.length) = true := decide_eq_true (by omega)
  clear c2
  simp only [Option.some.injEq, Prod.mk.injEq] at H
  obtain ⟨rfl, rfl⟩ := H
  go_enter Try.func38, Try.ntmps38
  go_wp2_with (first | ((with_reducible refine gate_dst (N := 1) rfl ?_); refine box_event ?hg (N := 1) ?hd (cs := #[.slice A0_0 l0_0.length c0_0, .slice A0_1 l0_1.length c0_1]) (t := 25) ?hr ?_; (case hd => rfl); (case hg => rfl); (case hr => first | (go_simp; done) | (go_simp; rfl)); intro gb346 hg w3 hbox hb; have BK346 := gA (hbox); have GW346 := gA ((by rw [hg]; exact (below_size (gB HB)) : w.heap.size ≤ gb346)); have GE346 := gA ((by rw [hg]; exact (below_size (gB HB)) : w.heap.size ≤ gb346)); replace HB := gA (below_step (gB HB) hb); clear hb hbox hg; obtain ⟨hcz4_0, hcz4_1, hfz4_0, hfz4_1⟩ := gz2 BK346))
  go_ret2
  exact ⟨_, rfl, by first | exact Kd.R_nil _ _ _ _ _ | exact Kd.N_nil _ _ _ _ _ | exact Kd.V_nil _ _ _ _ _ | exact Kd.Q_nil _ _ _ _ _ | exact Kd.S_nil _ _ _ _ _, by repeat first | exact gB HB | refine below_set ?_ GE346.out⟩
 ·rw [if_neg c2] at H
  have c2b0 : decide (1 < (l0_0.length : Int)) = false := decide_eq_false c2
  have c2b1 : decide (1 < l0_0.length) = false := decide_eq_false (by omega)
  clear c2
  obtain ⟨c5, H⟩ := iS H
  have c5b0 := eq_true c5
  have c5b1 := decide_eq_true c5
  clear c5
  obtain ⟨c6, H⟩ := iS H
  have c6b0 := eq_true c6
  have c6b1 := decide_eq_true c6
  clear c6
  obtain ⟨y347, hy347⟩ : ∃ y_ : List Int, y_ = (List.replicate 0 0) := ⟨_, rfl⟩
  replace H : (layout_wanted.l0 k y347 l0_1 (l0_1.length : Int) 0) = some (r1, r2) := by first | (rw [hy347]; with_reducible exact H) | (have H2_ := (Option.bind_some _ _).symm.trans H; rw [hy347]; with_reducible exact H2_) | (have H2_ := (Option.bind_some _ _).symm.trans H; with_reducible exact H2_) | with_reducible exact H | (rw [hy347]; exact H) | exact H
  have Ny347 := gA hy347
  clear hy347
  have H' := gA H
  clear H
  go_enter Try.func38, Try.ntmps38
  go_wp2_with (first | ((with_reducible refine gate_dst (N := 1) rfl ?_); refine box_event ?hg (N := 1) ?hd (cs := #[.slice A0_0 l0_0.length c0_0, .slice A0_1 l0_1.length c0_1]) (t := 25) ?hr ?_; (case hd => rfl); (case hg => rfl); (case hr => first | (go_simp; done) | (go_simp; rfl)); intro gb346 hg w7 hbox hb; have BK346 := gA (hbox); have GW346 := gA ((by rw [hg]; exact (below_size (gB HB)) : w.heap.size ≤ gb346)); have GE346 := gA ((by rw [hg]; exact (below_size (gB HB)) : w.heap.size ≤ gb346)); replace HB := gA (below_step (gB HB) hb); clear hb hbox hg; obtain ⟨hcz8_0, hcz8_1, hfz8_0, hfz8_1⟩ := gz2 BK346) | ((with_reducible refine gate_dst (N := 14) rfl ?_); refine Kd.R_makecap (Kd.int .i64) _ 3 rfl (N := 14) rfl 22 _ _ rfl (l0_1.length : Int) rfl rfl Try.underlying22 (.int .i64 0) 8 info3 rfl (by decide) (by omega) 0 (ok := fun _ => True) (okp := fun _ => True) rfl (fun _ hk => hk) trivial (of_decide_eq_true (by assumption)) (Nat.le_trans (Nat.mul_le_mul_right _ (of_decide_eq_true (by assumption) : (l0_1.length : Int).toNat ≤ 35184372088832)) (by omega)) (Below.refl _ _) (Nat.le_refl _) ?_; intro v348 w9 ho10 hb hg_ hnew_; clear hg_ hnew_; (first | rw [← Ny347.out] at ho10 | (simp only [Int.reduceToNat] at ho10; rw [← Ny347.out] at ho10)); have HO349 := gA (Kd.R_lower ho10 (below_size (by repeat first | exact gB HB | refine below_set ?_ GE346.out))); replace BK346 := gA (blk_below (gK BK346) hb); replace HB := gA (below_step (by repeat first | exact gB HB | refine below_set ?_ GE346.out) hb); clear hb ho10; obtain ⟨hcz11_0, hcz11_1, hfz11_0, hfz11_1⟩ := gz2 BK346))
  go_loopg [4, 18] k (fun kq v4 v18 w' => ∃ (x4_1 : List Int) (x18_1 : Int), v18 = .int .i64 x18_1 ∧ Aside0 (layout_wanted.l0 kq x4_1 l0_1 (l0_1.length : Int) x18_1 = some (r1, r2)) ∧ Aside0 (kq ≤ k) ∧ Aside0 (Kd.R (Kd.int .i64) 3 w' w.heap.size (fun _ => True) v4 x4_1) ∧ Aside0 (w'.heap[gb346]? = some (.cells #[(.slice A0_0 l0_0.length c0_0), (.slice A0_1 l0_1.length c0_1)] 25 (0, 0))) ∧ Aside0 (Below w.heap.size w w'))
  case atStart => exact ⟨(y347), (0), (rfl), H', ⟨Nat.le_refl _⟩, ⟨gR HO349⟩, ⟨gK BK346⟩, ⟨by repeat first | exact gB HB | refine below_set ?_ GE346.out⟩⟩
  case round =>
   clear H'
   try clear c2
   try clear c2b0
   try clear c2b1
   try clear p2
   try clear c3
   try clear c5
   try clear c5b0
   try clear c5b1
   try clear c6
   try clear c6b0
   try clear c6b1
   try clear hcz11_0
   try clear hcz11_1
   try clear hcz4_0
   try clear hcz4_1
   try clear hcz8_0
   try clear hcz8_1
   try clear hfz11_0
   try clear hfz11_1
   try clear hfz4_0
   try clear hfz4_1
   try clear hfz8_0
   try clear hfz8_1
   obtain ⟨x4_1, x18_1, rfl, HA, HK1, HO_4, BK346, HB⟩ := hrel
   cases gk with
   | zero => exact absurd HA.out (by simp [layout_wanted.l0])
   | succ k1 =>
    have H := HA.out; clear HA
    simp only [layout_wanted.l0] at H
    by_cases c12 : x18_1 < (l0_1.length : Int)
    ·rw [if_pos c12] at H
     have c12b0 := decide_eq_true c12
     clear c12
     obtain ⟨c13, H⟩ := iS H
     have c13b0 := decide_eq_true c13
     clear c13
     obtain ⟨c14, H⟩ := iS H
     have c14b0 := decide_eq_true c14
     clear c14
     by_cases c15 : ((rd_T39 l0_1 x18_1).f0) = 0
     ·rw [if_pos c15] at H
      have c15b0 : (((rd_T39 l0_1 x18_1).f0) == 0) = true := beq_iff_eq.mpr c15
      have c15b1 : (((rd_T39 l0_1 x18_1).f0) != 0) = false := bne_eq_false_iff_eq.mpr c15
      clear c15
      by_cases c16 : ((rd_T39 l0_1 x18_1).f1) < 0
      ·rw [if_pos c16] at H
       have c16b0 := decide_eq_true c16
       clear c16
       simp only [Option.some.injEq, Prod.mk.injEq] at H
       obtain ⟨rfl, rfl⟩ := H
       have p350 : 0 ≤ (x18_1 : Int) := of_decide_eq_true (by assumption)
       have q350 : x18_1 < (l0_1.length : Int) := of_decide_eq_true (by assumption)
       obtain ⟨ad350, A350_2, c350_2, e350, hx350_0, hx350_1, hx350_2, hl350_2, hi350_2⟩ := at_T39 HR0_1.out x18_1 p350 q350
       cases e350
       replace hx350_0 := (HB.out.cell (World.block_lt_of_cell? w _ hx350_0)).trans hx350_0
       replace hx350_1 := (HB.out.cell (World.block_lt_of_cell? w _ hx350_1)).trans hx350_1
       replace hx350_2 := (HB.out.cell (World.block_lt_of_cell? w _ hx350_2)).trans hx350_2
       have HR350_2 := gA hi350_2
       have HC350_2 := gA hl350_2
       clear hi350_2 hl350_2
       replace p350 := eq_true p350
       replace q350 := eq_true q350
       go_wp2_with (first | ((with_reducible refine gate_dst (N := 6) rfl ?_); refine box_event ?hg (N := 6) ?hd (cs := #[.int .i64 0, .int .i64 0, .slice none 0 0]) (t := 39) ?hr ?_; (case hd => rfl); (case hg => rfl); (case hr => first | (go_simp; done) | (go_simp; rfl)); intro gb351 hg w17 hbox hb; replace HO_4 := gA (Kd.R_below (gR HO_4) hb); have BK351 := gA (hbox); have GW351 := gA ((by rw [hg]; exact (below_size (by repeat first | exact gB HB | refine below_set ?_ GE346.out)) : w.heap.size ≤ gb351)); have GE351 := gA ((by rw [hg]; exact (below_size (by repeat first | exact gB HB | refine below_set ?_ GE346.out)) : w.heap.size ≤ gb351)); replace HB := gA (below_step (by repeat first | exact gB HB | refine below_set ?_ GE346.out) hb); have NB346_351 := gA ((by rw [hg]; exact Nat.ne_of_lt (blk_lt (gK BK346)) : gb346 ≠ gb351)); have NB351_346 := gA ((by rw [hg]; exact Nat.ne_of_gt (blk_lt (gK BK346)) : gb351 ≠ gb346)); replace BK346 := gA (blk_below (gK BK346) hb); clear hb hbox hg; have hnb18 := NB351_346.out; have hnc18 := NB346_351.out; obtain ⟨hcz19_0, hcz19_1, hcz19_2, hfz19_0, hfz19_1, hfz19_2⟩ := gz3 BK351))
       go_ret2
       exact ⟨_, rfl, by first | exact Kd.R_nil _ _ _ _ _ | exact Kd.N_nil _ _ _ _ _ | exact Kd.V_nil _ _ _ _ _ | exact Kd.Q_nil _ _ _ _ _ | exact Kd.S_nil _ _ _ _ _, by repeat first | exact gB HB | refine below_set ?_ GE346.out | refine below_set ?_ GE351.out⟩
      ·rw [if_neg c16] at H
       have c16b0 := decide_eq_false c16
       clear c16
       obtain ⟨ji20, hji20⟩ : ∃ j_ : Int, (mn ((rd_T39 l0_1 x18_1).f1) 16385) = j_ := ⟨_, rfl⟩
       replace H : (if x4_1.length < 17592186044416 then (layout_wanted.l0 k1 (x4_1 ++ [ji20]) l0_1 (l0_1.length : Int) (wrap64 (x18_1 + 1))) else (none)) = some (r1, r2) := by first | (rw [hji20] at H; exact H) | (simp only [hji20] at H ⊢; exact H)
       have hji20_ : (if 16385 < ((rd_T39 l0_1 x18_1).f1) then 16385 else ((rd_T39 l0_1 x18_1).f1)) = ji20 := hji20
       obtain ⟨c21, H⟩ := iS H
       have LMc21 := gA c21
       clear c21
       obtain ⟨y352, hy352⟩ : ∃ y_ : List Int, y_ = (x4_1 ++ [ji20]) := ⟨_, rfl⟩
       replace H : (layout_wanted.l0 k1 y352 l0_1 (l0_1.length : Int) (wrap64 (x18_1 + 1))) = some (r1, r2) := by first | (rw [hy352]; with_reducible exact H) | (have H2_ := (Option.bind_some _ _).symm.trans H; rw [hy352]; with_reducible exact H2_) | (have H2_ := (Option.bind_some _ _).symm.trans H; with_reducible exact H2_) | with_reducible exact H | (rw [hy352]; exact H) | exact H
       have Ny352 := gA hy352
       clear hy352
       have H' := gA H
       clear H
       have p350 : 0 ≤ (x18_1 : Int) := of_decide_eq_true (by assumption)
       have q350 : x18_1 < (l0_1.length : Int) := of_decide_eq_true (by assumption)
       obtain ⟨ad350, A350_2, c350_2, e350, hx350_0, hx350_1, hx350_2, hl350_2, hi350_2⟩ := at_T39 HR0_1.out x18_1 p350 q350
       cases e350
       replace hx350_0 := (HB.out.cell (World.block_lt_of_cell? w _ hx350_0)).trans hx350_0
       replace hx350_1 := (HB.out.cell (World.block_lt_of_cell? w _ hx350_1)).trans hx350_1
       replace hx350_2 := (HB.out.cell (World.block_lt_of_cell? w _ hx350_2)).trans hx350_2
       have HR350_2 := gA hi350_2
       have HC350_2 := gA hl350_2
       clear hi350_2 hl350_2
       replace p350 := eq_true p350
       replace q350 := eq_true q350
       go_wp2_with (first | ((with_reducible refine gate_dst (N := 6) rfl ?_); refine box_event ?hg (N := 6) ?hd (cs := #[.int .i64 0, .int .i64 0, .slice none 0 0]) (t := 39) ?hr ?_; (case hd => rfl); (case hg => rfl); (case hr => first | (go_simp; done) | (go_simp; rfl)); intro gb351 hg w22 hbox hb; replace HO_4 := gA (Kd.R_below (gR HO_4) hb); have BK351 := gA (hbox); have GW351 := gA ((by rw [hg]; exact (below_size (by repeat first | exact gB HB | refine below_set ?_ GE346.out)) : w.heap.size ≤ gb351)); have GE351 := gA ((by rw [hg]; exact (below_size (by repeat first | exact gB HB | refine below_set ?_ GE346.out)) : w.heap.size ≤ gb351)); replace HB := gA (below_step (by repeat first | exact gB HB | refine below_set ?_ GE346.out) hb); have NB346_351 := gA ((by rw [hg]; exact Nat.ne_of_lt (blk_lt (gK BK346)) : gb346 ≠ gb351)); have NB351_346 := gA ((by rw [hg]; exact Nat.ne_of_gt (blk_lt (gK BK346)) : gb351 ≠ gb346)); replace BK346 := gA (blk_below (gK BK346) hb); clear hb hbox hg; have hnb23 := NB351_346.out; have hnc23 := NB346_351.out; obtain ⟨hcz24_0, hcz24_1, hcz24_2, hfz24_0, hfz24_1, hfz24_2⟩ := gz3 BK351) | ((with_reducible refine gate_builtin (b := .append) (xs := #[.tmp 30, .tmp 34]) rfl ?_); at_builtin; refine Kd.R_append (Kd.int .i64) (w0 := w) w.heap.size rfl (.tmp 30) (.tmp 34) 22 3 (.int .i64 0) 8 rfl Try.underlying22 info3 rfl (by decide) (by omega) u4 x4_1 ji20 [.int .i64 ji20] (fun _ => True) (fun _ => False) rfl (by first | (go_simp; done) | (go_simp; rfl)) ?aP (fun _ hk => hk.elim) ?aF ?aO ?aB ?aS ?aL ?_; (case aP => exact rfl); (case aB => exact (by repeat first | exact gB HB | refine below_set ?_ GE346.out | refine below_set ?_ GE351.out)); (case aF => exact (fun _ _ => trivial)); (case aO => exact (Kd.R_mono (Kd.R_far (p := ⟨gb351, 2, none⟩) (Kd.R_far (p := ⟨gb351, 1, none⟩) (Kd.R_far (p := ⟨gb351, 0, none⟩) (Kd.R_types HO_4.out BK351.out (by decide)) (fun _ hk => hk.2) (.int .i64 ((rd_T39 l0_1 x18_1).f0))) (fun _ hk => hk.2) (.int .i64 ((rd_T39 l0_1 x18_1).f1))) (fun _ hk => hk.2) (.slice A350_2 ((rd_T39 l0_1 x18_1).f2).length c350_2)) (fun _ hk => trivial))); (case aS => exact (below_size (by repeat first | exact gB HB | refine below_set ?_ GE346.out | refine below_set ?_ GE351.out))); (case aL => have := LMc21.out; omega); intro v353 w25 ho hb hg hat; rw [← Ny352.out] at ho; replace BK346 := gA (blk_grown (g := gb346) (o := .cells #[.slice A0_0 l0_0.length c0_0, .slice (some ad350) l0_1.length c0_1] 25 (0, 0)) (by refine blk_far ?_ NB346_351.out _; refine blk_far ?_ NB346_351.out _; refine blk_far ?_ NB346_351.out _; exact gK BK346) hg (Kd.R_ne HO_4.out BK346.out (by decide))); replace BK351 := gA (blk_grown (g := gb351) (o := .cells #[.int .i64 ((rd_T39 l0_1 x18_1).f0), .int .i64 ((rd_T39 l0_1 x18_1).f1), .slice A350_2 ((rd_T39 l0_1 x18_1).f2).length c350_2] 39 (0, 0)) (by refine blk_put (cs := #[.int .i64 ((rd_T39 l0_1 x18_1).f0), .int .i64 ((rd_T39 l0_1 x18_1).f1), .slice none 0 0]) ?_ 2 _ rfl; refine blk_put (cs := #[.int .i64 ((rd_T39 l0_1 x18_1).f0), .int .i64 0, .slice none 0 0]) ?_ 1 _ rfl; refine blk_put (cs := #[.int .i64 0, .int .i64 0, .slice none 0 0]) ?_ 0 _ rfl; exact gK BK351) hg (Kd.R_ne HO_4.out BK351.out (by decide))); replace HB := gA (hb); have HO354 := gA (ho); clear HO_4 ho hb hg hat))
       go_roundg k1
       case measure => have := HK1.out; omega
       case rel => exact ⟨(y352), (wrap64 (x18_1 + 1)), (rfl), H', ⟨by have := HK1.out; omega⟩, ⟨gR HO354⟩, ⟨gK BK346⟩, ⟨by repeat first | exact gB HB | refine below_set ?_ GE346.out | refine below_set ?_ GE351.out⟩⟩
     ·rw [if_neg c15] at H
      have c15b0 : (((rd_T39 l0_1 x18_1).f0) == 0) = false := beq_eq_false_iff_ne.mpr c15
      have c15b1 : (((rd_T39 l0_1 x18_1).f0) != 0) = true := bne_iff_ne.mpr c15
      simp only [Option.some.injEq, Prod.mk.injEq] at H
      obtain ⟨rfl, rfl⟩ := H
      have p350 : 0 ≤ (x18_1 : Int) := of_decide_eq_true (by assumption)
      have q350 : x18_1 < (l0_1.length : Int) := of_decide_eq_true (by assumption)
      obtain ⟨ad350, A350_2, c350_2, e350, hx350_0, hx350_1, hx350_2, hl350_2, hi350_2⟩ := at_T39 HR0_1.out x18_1 p350 q350
      cases e350
      replace hx350_0 := (HB.out.cell (World.block_lt_of_cell? w _ hx350_0)).trans hx350_0
      replace hx350_1 := (HB.out.cell (World.block_lt_of_cell? w _ hx350_1)).trans hx350_1
      replace hx350_2 := (HB.out.cell (World.block_lt_of_cell? w _ hx350_2)).trans hx350_2
      have HR350_2 := gA hi350_2
      have HC350_2 := gA hl350_2
      clear hi350_2 hl350_2
      replace p350 := eq_true p350
      replace q350 := eq_true q350
      go_wp2_with (first | ((with_reducible refine gate_dst (N := 6) rfl ?_); refine box_event ?hg (N := 6) ?hd (cs := #[.int .i64 0, .int .i64 0, .slice none 0 0]) (t := 39) ?hr ?_; (case hd => rfl); (case hg => rfl); (case hr => first | (go_simp; done) | (go_simp; rfl)); intro gb351 hg w26 hbox hb; replace HO_4 := gA (Kd.R_below (gR HO_4) hb); have BK351 := gA (hbox); have GW351 := gA ((by rw [hg]; exact (below_size (by repeat first | exact gB HB | refine below_set ?_ GE346.out)) : w.heap.size ≤ gb351)); have GE351 := gA ((by rw [hg]; exact (below_size (by repeat first | exact gB HB | refine below_set ?_ GE346.out)) : w.heap.size ≤ gb351)); replace HB := gA (below_step (by repeat first | exact gB HB | refine below_set ?_ GE346.out) hb); have NB346_351 := gA ((by rw [hg]; exact Nat.ne_of_lt (blk_lt (gK BK346)) : gb346 ≠ gb351)); have NB351_346 := gA ((by rw [hg]; exact Nat.ne_of_gt (blk_lt (gK BK346)) : gb351 ≠ gb346)); replace BK346 := gA (blk_below (gK BK346) hb); clear hb hbox hg; have hnb27 := NB351_346.out; have hnc27 := NB346_351.out; obtain ⟨hcz28_0, hcz28_1, hcz28_2, hfz28_0, hfz28_1, hfz28_2⟩ := gz3 BK351))
      go_ret2
      exact ⟨_, rfl, by first | exact Kd.R_nil _ _ _ _ _ | exact Kd.N_nil _ _ _ _ _ | exact Kd.V_nil _ _ _ _ _ | exact Kd.Q_nil _ _ _ _ _ | exact Kd.S_nil _ _ _ _ _, by repeat first | exact gB HB | refine below_set ?_ GE346.out | refine below_set ?_ GE351.out⟩
    ·rw [if_neg c12] at H
     have c12b0 := decide_eq_false c12
     clear c12
     by_cases c29 : (x4_1.length : Int) > 8
     ·rw [if_pos c29] at H
      have c29b0 : decide (8 < (x4_1.length : Int)) = true := decide_eq_true c29
      have c29b1 : decide (8 < x4_1.length) = true := decide_eq_true (by omega)
      clear c29
      simp only [Option.some.injEq, Prod.mk.injEq] at H
      obtain ⟨rfl, rfl⟩ := H
      obtain ⟨Ao30, co30, eo30⟩ := Kd.R_slice HO_4.out
      subst eo30
      go_wp2
      go_ret2
      exact ⟨_, rfl, by first | exact Kd.R_nil _ _ _ _ _ | exact Kd.N_nil _ _ _ _ _ | exact Kd.V_nil _ _ _ _ _ | exact Kd.Q_nil _ _ _ _ _ | exact Kd.S_nil _ _ _ _ _, by repeat first | exact gB HB | refine below_set ?_ GE346.out⟩
     ·rw [if_neg c29] at H
      have c29b0 : decide (8 < (x4_1.length : Int)) = false := decide_eq_false c29
      have c29b1 : decide (8 < x4_1.length) = false := decide_eq_false (by omega)
      clear c29
      obtain ⟨c31, H⟩ := iS H
      have LMc31 := gA c31
      clear c31
      obtain ⟨y355, hy355⟩ : ∃ y_ : List Int, y_ = (x4_1 ++ [0]) := ⟨_, rfl⟩
      replace H : ((slices_Max_int_int.f k1 y355).bind fun t358 => (if t358 > 16384 then (some (([] : List Int), 12)) else (some (x4_1, 0)))) = some (r1, r2) := by first | (rw [hy355]; with_reducible exact H) | (have H2_ := (Option.bind_some _ _).symm.trans H; rw [hy355]; with_reducible exact H2_) | (have H2_ := (Option.bind_some _ _).symm.trans H; with_reducible exact H2_) | with_reducible exact H | (rw [hy355]; exact H) | exact H
      have Ny355 := gA hy355
      clear hy355
      replace H := Option.bind_eq_some_iff.mp H
      obtain ⟨t358, A320, H⟩ := H
      replace H : (if t358 > 16384 then (some (([] : List Int), 12)) else (some (x4_1, 0))) = some (r1, r2) := H
      have A32 := gA A320
      clear A320
      by_cases c33 : t358 > 16384
      ·rw [if_pos c33] at H
       have c33b0 : decide (16384 < t358) = true := decide_eq_true c33
       clear c33
       simp only [Option.some.injEq, Prod.mk.injEq] at H
       obtain ⟨rfl, rfl⟩ := H
       obtain ⟨Ao34, co34, eo34⟩ := Kd.R_slice HO_4.out
       subst eo34
       go_wp2_with (first | ((with_reducible refine gate_builtin (b := .append) (xs := #[.tmp 40, .tmp 41]) rfl ?_); at_builtin; refine Kd.R_append_keep (Kd.int .i64) (w0 := w) w.heap.size rfl (.tmp 40) (.tmp 41) 22 3 (.int .i64 0) 8 rfl Try.underlying22 info3 rfl (by decide) (by omega) (.slice Ao34 x4_1.length co34) x4_1 0 [.int .i64 0] (fun _ => True) (fun _ => False) rfl rfl ?aP (fun _ hk => hk.elim) ?aF ?aO ?aB ?aS ?aL ?_; (case aP => exact rfl); (case aB => exact (gB HB)); (case aF => exact (fun _ _ => trivial)); (case aO => exact (gR HO_4)); (case aS => exact (below_size (gB HB))); (case aL => have := LMc31.out; omega); intro v356 w35 ho hk4 hb hg hat; rw [← Ny355.out] at ho; replace BK346 := gA (blk_grown (gK BK346) hg (Kd.R_ne HO_4.out BK346.out (by decide))); replace HB := gA (hb); have HO357 := gA (ho); replace HO_4 := gA hk4; clear hk4 ho hb hg hat; obtain ⟨Ao36, co36, eo36⟩ := Kd.R_slice HO357.out; subst eo36) | ((with_reducible refine gate_callee (f := 52) rfl ?_); refine goesL_ (some 43) rfl rfl Try.func52 (by kernel_rfl) rfl #[.slice Ao36 y355.length co36] rfl (by (try simp only [List.map_toArray, List.map_cons, List.map_nil]); first | done | rfl | (simp only [List.length_drop, List.length_take]; rfl)) ?_; (with_reducible refine (slices_Max_int_int.calls k1 _ _ y355 t358 _ ?side1 ?side2 A32.out).mono ?_); (case side1 => repeat (first | exact (Kd.R_reads' HO357.out).2.2 | (with_reducible refine Kd.C_alloc ?_ _) | (with_reducible refine Kd.C_drewN ?_ _) | (with_reducible refine Kd.C_drew ?_))); (case side2 => exact (Kd.R_reads' HO357.out).2.1); rintro e w37 ⟨rfl, hb⟩; refine ⟨_, rfl, ?_⟩; replace HO_4 := gA (Kd.R_below HO_4.out hb); replace HO357 := gA (Kd.R_below (gR HO357) hb); replace BK346 := gA (blk_below (gK BK346) hb); replace HB := gA (below_step (gB HB) hb); (try clear hb)))
       go_ret2
       exact ⟨_, rfl, by first | exact Kd.R_nil _ _ _ _ _ | exact Kd.N_nil _ _ _ _ _ | exact Kd.V_nil _ _ _ _ _ | exact Kd.Q_nil _ _ _ _ _ | exact Kd.S_nil _ _ _ _ _, by repeat first | exact gB HB | refine below_set ?_ GE346.out⟩
      ·rw [if_neg c33] at H
       have c33b0 : decide (16384 < t358) = false := decide_eq_false c33
       clear c33
       simp only [Option.some.injEq, Prod.mk.injEq] at H
       obtain ⟨rfl, rfl⟩ := H
       obtain ⟨Ao38, co38, eo38⟩ := Kd.R_slice HO_4.out
       subst eo38
       go_wp2_with (first | ((with_reducible refine gate_builtin (b := .append) (xs := #[.tmp 40, .tmp 41]) rfl ?_); at_builtin; refine Kd.R_append_keep (Kd.int .i64) (w0 := w) w.heap.size rfl (.tmp 40) (.tmp 41) 22 3 (.int .i64 0) 8 rfl Try.underlying22 info3 rfl (by decide) (by omega) (.slice Ao38 x4_1.length co38) x4_1 0 [.int .i64 0] (fun _ => True) (fun _ => False) rfl rfl ?aP (fun _ hk => hk.elim) ?aF ?aO ?aB ?aS ?aL ?_; (case aP => exact rfl); (case aB => exact (gB HB)); (case aF => exact (fun _ _ => trivial)); (case aO => exact (gR HO_4)); (case aS => exact (below_size (gB HB))); (case aL => have := LMc31.out; omega); intro v356 w39 ho hk4 hb hg hat; rw [← Ny355.out] at ho; replace BK346 := gA (blk_grown (gK BK346) hg (Kd.R_ne HO_4.out BK346.out (by decide))); replace HB := gA (hb); have HO357 := gA (ho); replace HO_4 := gA hk4; clear hk4 ho hb hg hat; obtain ⟨Ao40, co40, eo40⟩ := Kd.R_slice HO357.out; subst eo40) | ((with_reducible refine gate_callee (f := 52) rfl ?_); refine goesL_ (some 43) rfl rfl Try.func52 (by kernel_rfl) rfl #[.slice Ao40 y355.length co40] rfl (by (try simp only [List.map_toArray, List.map_cons, List.map_nil]); first | done | rfl | (simp only [List.length_drop, List.length_take]; rfl)) ?_; (with_reducible refine (slices_Max_int_int.calls k1 _ _ y355 t358 _ ?side1 ?side2 A32.out).mono ?_); (case side1 => repeat (first | exact (Kd.R_reads' HO357.out).2.2 | (with_reducible refine Kd.C_alloc ?_ _) | (with_reducible refine Kd.C_drewN ?_ _) | (with_reducible refine Kd.C_drew ?_))); (case side2 => exact (Kd.R_reads' HO357.out).2.1); rintro e w41 ⟨rfl, hb⟩; refine ⟨_, rfl, ?_⟩; replace HO_4 := gA (Kd.R_below HO_4.out hb); replace HO357 := gA (Kd.R_below (gR HO357) hb); replace BK346 := gA (blk_below (gK BK346) hb); replace HB := gA (below_step (gB HB) hb); (try clear hb)))
       go_ret2
       exact ⟨_, rfl, gR HO_4, by repeat first | exact gB HB | refine below_set ?_ GE346.out⟩
end Go.Proofs.Ytiegcghapchimaa.P
