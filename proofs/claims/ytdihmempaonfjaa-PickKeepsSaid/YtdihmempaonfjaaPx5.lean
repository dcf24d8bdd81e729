/- Written by a program of this session: the functions that the laws reach, what each comes to, and each law as it is stated, for every input. No condition. -/
import Derived.Test.YtdihmempaonfjaaPx0
namespace Go.Proofs.Ytdihmempaonfjaa.P
open Go.RowKit Go.Proofs.YtdihmempaonfjaaW.PrintWords Go.Proofs.YtdihmempaonfjaaW.PrintLast Go.Proofs.YtdihmempaonfjaaW.PrintMore
attribute [local go_sem] max2_int min2_int max_two min_two max_three min_three max_four min_four   -- for this text's walks alone
set_option linter.unusedVariables false
set_option linter.unusedSimpArgs false
mutual
def pick_times.l0 : Nat → Int → List (S45) → Int → Int → List Int → List (S45) → Option (List Int × Int)
 | 0, _, _, _, _, _, _ => none
 | k + 1, x1, x17, x18, x19, x215000, x215001 => if x19 < x18 then (if 0 ≤ x19 then (if x19 < (x17.length : Int) then (if ((rd_T45 x17 x19).f0) = 0 then (if ((rd_T45 x17 x19).f1) < 0 then (none) else (pick_times.l0 k x1 x17 x18 (wrap64 (x19 + 1)) x215000 x215001)) else (none)) else (none)) else (none)) else (if (x215000.length : Int) = 1 then (none) else (if 0 ≤ x1 then (if (x1 : Int).toNat ≤ 35184372088832 then ((some (List.replicate (x1 : Int).toNat 0 : List Int)).bind fun y217 => (pick_times.l1 k y217 0 (y217.length : Int) 0 x215000 x215001)) else (none)) else (none)))
def pick_times.l1 : Nat → List Int → Int → Int → Int → List Int → List (S45) → Option (List Int × Int)
 | 0, _, _, _, _, _, _ => none
 | k + 1, x8, x9, x46, x47, x215000, x215001 => if x47 < x46 then (if 0 < (x215001.length : Int) then (if (x215000.length : Int) = 1 then (none) else (if ((rd_T45 x215001 0).f1) > (wrap64 (16384 - x9)) then (none) else (if 0 ≤ x47 then (if x47 < (x8.length : Int) then ((some (x8.set (x47 : Int).toNat ((rd_T45 x215001 0).f1) : List Int)).bind fun y222 => (pick_times.l1 k y222 (wrap64 (x9 + (rd y222 x47))) x46 (wrap64 (x47 + 1)) x215000 x215001)) else (none)) else (none)))) else (none)) else (some (x8, 0))
end
def pick_times.f (k : Nat) (l0_0 : List Int) (l0_1 : List (S45)) (a1 : Int) : Option (List Int × Int) := if (l0_0.length : Int) > 1 then (none) else (pick_times.l0 k a1 l0_1 (l0_1.length : Int) 0 l0_0 l0_1)
theorem pick_times.mono_l : ∀ k, (∀ y0 y1 y2 y3 y4 y5, LeO (pick_times.l0 k y0 y1 y2 y3 y4 y5) (pick_times.l0 (k + 1) y0 y1 y2 y3 y4 y5)) ∧ (∀ y0 y1 y2 y3 y4 y5, LeO (pick_times.l1 k y0 y1 y2 y3 y4 y5) (pick_times.l1 (k + 1) y0 y1 y2 y3 y4 y5))
 | 0 => ⟨fun _ _ _ _ _ _ r h => by simp [pick_times.l0] at h, fun _ _ _ _ _ _ r h => by simp [pick_times.l1] at h⟩
 | k + 1 => by
  obtain ⟨ih0, ih1⟩ := pick_times.mono_l k
  refine ⟨?_, ?_⟩
  ·intro y0 y1 y2 y3 y4 y5
   unfold pick_times.l0
   repeat' first
   | (with_reducible exact ih0 _ _ _ _ _ _)
   | (with_reducible exact ih1 _ _ _ _ _ _)
   | (with_reducible exact LeO.refl _)
   | (with_reducible exact LeO.none _)
   | (with_reducible refine LeO.ite ?_ ?_)
   | (with_reducible refine LeO.bind ?_ (fun _ => ?_))





  ·intro y0 y1 y2 y3 y4 y5
   unfold pick_times.l1
   repeat' first
   | (with_reducible exact ih0 _ _ _ _ _ _)
   | (with_reducible exact ih1 _ _ _ _ _ _)
   | (with_reducible exact LeO.refl _)
   | (with_reducible exact LeO.none _)
   | (with_reducible refine LeO.ite ?_ ?_)
   | (with_reducible refine LeO.bind ?_ (fun _ => ?_))
theorem pick_times.mono : ∀ a0 a1 a2 k, LeO (pick_times.f k a0 a1 a2) (pick_times.f (k + 1) a0 a1 a2) := by
 intro a0 a1 a2 k
 obtain ⟨ih0, ih1⟩ := pick_times.mono_l k
 unfold pick_times.f
 repeat' first
   | (with_reducible exact ih0 _ _ _ _ _ _)
   | (with_reducible exact ih1 _ _ _ _ _ _)
   | (with_reducible exact LeO.refl _)
   | (with_reducible exact LeO.none _)
   | (with_reducible refine LeO.ite ?_ ?_)
   | (with_reducible refine LeO.bind ?_ (fun _ => ?_))
set_option maxHeartbeats 8000000 in
set_option maxRecDepth 100000 in
theorem pick_times.calls (k : Nat) (A0_0 : Option Addr) (c0_0 : Nat) (l0_0 : List Int) (A0_1 : Option Addr) (c0_1 : Nat) (l0_1 : List (S45)) (a1 : Int) (r1 : List Int) (r2 : Int) (w : World) (hr0_0 : Kd.C (Kd.int .i64) w A0_0 l0_0.length l0_0) (hc0_0 : l0_0.length ≤ c0_0) (hr0_1 : Kd.C k45 w A0_1 l0_1.length l0_1) (hc0_1 : l0_1.length ≤ c0_1) (h : pick_times.f k l0_0 l0_1 a1 = some (r1, r2)) :
  Calls Try.prog 44 #[.agg #[.slice A0_0 l0_0.length c0_0, .slice A0_1 l0_1.length c0_1], .int .i64 a1] w fun e w' => ∃ v0_ : Value, e = .returned (.tuple #[v0_, .int .i64 r2]) ∧ Kd.R (Kd.int .i64) 3 w' w.heap.size (fun _ => True) v0_ r1 ∧ Below w.heap.size w w' := by
 have hu25 := Try.underlying25
 have hu45 := Try.underlying45
 have HR0_0 := gA hr0_0
 have HC0_0 := gA hc0_0
 clear hr0_0 hc0_0
 have HR0_1 := gA hr0_1
 have HC0_1 := gA hc0_1
 clear hr0_1 hc0_1
 have HB := gA (Below.refl w.heap.size w)
 have H : (if (l0_0.length : Int) > 1 then (none) else (pick_times.l0 k a1 l0_1 (l0_1.length : Int) 0 l0_0 l0_1)) = some (r1, r2) := h
 clear h
 obtain ⟨c3, H⟩ := iN H
 have c3b0 : decide (1 < (l0_0.length : Int)) = false := decide_eq_false c3
 have c3b1 : decide (1 < l0_0.length) = false := decide_eq_false (by omega)
 clear c3
 have H' := gA H
 clear H
 go_enter Try.func44, Try.ntmps44
 go_wp2_with (first | ((with_reducible refine gate_dst (N := 2) rfl ?_); (try (refine gate_guard (by rfl) ?_; dsimp only)); refine box_event ?hg (N := 2) ?hd (cs := #[.slice A0_0 l0_0.length c0_0, .slice A0_1 l0_1.length c0_1]) (t := 25) ?hr ?_; (case hd => rfl); (case hg => rfl); (case hr => first | (go_simp; done) | (go_simp; rfl)); intro gb214 hg w4 hbox hb; have BK214 := gA (hbox); have GW214 := gA ((by rw [hg]; exact (below_size (gB HB)) : w.heap.size ≤ gb214)); have GE214 := gA ((by rw [hg]; exact (below_size (gB HB)) : w.heap.size ≤ gb214)); replace HB := gA (below_step (gB HB) hb); clear hb hbox hg; obtain ⟨hcz5_0, hcz5_1, hfz5_0, hfz5_1⟩ := gz2 BK214))
 go_loopg [19] k (fun kq v19 w' => ∃ (x19_1 : Int), v19 = .int .i64 x19_1 ∧ Aside0 (pick_times.l0 kq a1 l0_1 (l0_1.length : Int) x19_1 l0_0 l0_1 = some (r1, r2)) ∧ Aside0 (kq ≤ k) ∧ Aside0 (w'.heap[gb214]? = some (.cells #[(.slice A0_0 l0_0.length c0_0), (.slice A0_1 l0_1.length c0_1)] 25 (0, 0))) ∧ Aside0 (Below w.heap.size w w'))
 case atStart => exact ⟨(0), (rfl), H', ⟨Nat.le_refl _⟩, ⟨gK BK214⟩, ⟨by repeat first | exact gB HB | refine below_set ?_ GE214.out⟩⟩
 case round =>
  clear H'
  try clear p2
  try clear c3
  try clear c3b0
  try clear c3b1
  try clear c4
  try clear hcz5_0
  try clear hcz5_1
  try clear hfz5_0
  try clear hfz5_1
  obtain ⟨x19_1, rfl, HA, HK1, BK214, HB⟩ := hrel
  cases gk with
  | zero => exact absurd HA.out (by simp [pick_times.l0])
  | succ k1 =>
   have H := HA.out; clear HA
   simp only [pick_times.l0] at H
   by_cases c6 : x19_1 < (l0_1.length : Int)
   ·rw [if_pos c6] at H
    have c6b0 := decide_eq_true c6; have c6b0z := c6b0; (try rw [hl8_2] at c6b0z)
    clear c6
    obtain ⟨c7, H⟩ := iS H
    have c7b0 := decide_eq_true c7; have c7b0z := c7b0; (try rw [hl8_2] at c7b0z)
    clear c7
    obtain ⟨c8, H⟩ := iS H
    have c8b0 := decide_eq_true c8; have c8b0z := c8b0; (try rw [hl8_2] at c8b0z)
    clear c8
    obtain ⟨c9, H⟩ := iS H
    have c9b0 : (((rd_T45 l0_1 x19_1).f0) == 0) = true := beq_iff_eq.mpr c9
    have c9b1 : (((rd_T45 l0_1 x19_1).f0) != 0) = false := bne_eq_false_iff_eq.mpr c9
    clear c9
    obtain ⟨c10, H⟩ := iN H
    have c10b0 := decide_eq_false c10; have c10b0z := c10b0; (try rw [hl8_2] at c10b0z)
    clear c10
    have H' := gA H
    clear H
    have p215 : 0 ≤ (x19_1 : Int) := of_decide_eq_true (by assumption)
    have q215 : x19_1 < (l0_1.length : Int) := of_decide_eq_true (by assumption)
    obtain ⟨ad215, A215_2, c215_2, e215, hx215_0, hx215_1, hx215_2, hl215_2, hi215_2⟩ := at_T45 HR0_1.out x19_1 p215 q215
    cases e215
    replace hx215_0 := (HB.out.cell (World.block_lt_of_cell? w _ hx215_0)).trans hx215_0
    replace hx215_1 := (HB.out.cell (World.block_lt_of_cell? w _ hx215_1)).trans hx215_1
    replace hx215_2 := (HB.out.cell (World.block_lt_of_cell? w _ hx215_2)).trans hx215_2
    have HR215_2 := gA hi215_2
    have HC215_2 := gA hl215_2
    clear hi215_2 hl215_2
    replace p215 := eq_true p215
    replace q215 := eq_true q215
    go_wp2_with (first | ((with_reducible refine gate_dst (N := 7) rfl ?_); (try (refine gate_guard (by rfl) ?_; dsimp only)); refine box_event ?hg (N := 7) ?hd (cs := #[.int .i64 0, .int .i64 0, .slice none 0 0]) (t := 45) ?hr ?_; (case hd => rfl); (case hg => rfl); (case hr => first | (go_simp; done) | (go_simp; rfl)); intro gb216 hg w11 hbox hb; have BK216 := gA (hbox); have GW216 := gA ((by rw [hg]; exact (below_size (gB HB)) : w.heap.size ≤ gb216)); have GE216 := gA ((by rw [hg]; exact (below_size (gB HB)) : w.heap.size ≤ gb216)); replace HB := gA (below_step (gB HB) hb); have NB214_216 := gA ((by rw [hg]; exact Nat.ne_of_lt (blk_lt (gK BK214)) : gb214 ≠ gb216)); have NB216_214 := gA ((by rw [hg]; exact Nat.ne_of_gt (blk_lt (gK BK214)) : gb216 ≠ gb214)); replace BK214 := gA (blk_below (gK BK214) hb); clear hb hbox hg; have hnb12 := NB216_214.out; have hnc12 := NB214_216.out; obtain ⟨hcz13_0, hcz13_1, hcz13_2, hfz13_0, hfz13_1, hfz13_2⟩ := gz3 BK216))
    go_roundg k1
    case measure => have := HK1.out; omega
    case rel => exact ⟨(wrap64 (x19_1 + 1)), (rfl), H', ⟨by have := HK1.out; omega⟩, ⟨by refine blk_far ?_ NB214_216.out _; refine blk_far ?_ NB214_216.out _; refine blk_far ?_ NB214_216.out _; exact gK BK214⟩, ⟨by repeat first | exact gB HB | refine below_set ?_ GE214.out | refine below_set ?_ GE216.out⟩⟩
   ·rw [if_neg c6] at H
    have c6b0 := decide_eq_false c6; have c6b0z := c6b0; (try rw [hl8_2] at c6b0z)
    clear c6
    obtain ⟨c14, H⟩ := iN H
    have c14b0 : ((l0_0.length : Int) == 1) = false := beq_eq_false_iff_ne.mpr c14
    have c14b1 : ((l0_0.length : Int) != 1) = true := bne_iff_ne.mpr c14
    obtain ⟨c15, H⟩ := iS H
    have c15b0 := eq_true c15
    have c15b1 := decide_eq_true c15
    clear c15
    obtain ⟨c16, H⟩ := iS H
    have c16b0 := eq_true c16
    have c16b1 := decide_eq_true c16
    clear c16
    obtain ⟨y217, hy217⟩ : ∃ y_ : List Int, y_ = (List.replicate (a1 : Int).toNat 0) := ⟨_, rfl⟩
    replace H : (pick_times.l1 k1 y217 0 (y217.length : Int) 0 l0_0 l0_1) = some (r1, r2) := by first | (rw [hy217]; with_reducible exact H) | (have H2_ := (Option.bind_some _ _).symm.trans H; rw [hy217]; with_reducible exact H2_) | (have H2_ := (Option.bind_some _ _).symm.trans H; with_reducible exact H2_) | with_reducible exact H | (rw [hy217]; exact H) | exact H
    have Ny217 := gA hy217
    clear hy217
    have H' := gA H
    clear H
    obtain ⟨hcz17_0, hcz17_1, hfz17_0, hfz17_1⟩ := gz2 BK214
    go_wp2_with (first | ((with_reducible refine gate_dst (N := 44) rfl ?_); (try (refine gate_guard (by rfl) ?_; dsimp only)); refine Kd.R_make (Kd.int .i64) _ 3 rfl (N := 44) rfl 22 _ _ rfl a1 rfl rfl Try.underlying22 (.int .i64 0) 8 info3 rfl (by decide) (by omega) 0 (ok := fun _ => True) (okp := fun _ => True) rfl (fun _ hk => hk) trivial (of_decide_eq_true (by assumption)) (Nat.le_trans (Nat.mul_le_mul_right _ (of_decide_eq_true (by assumption) : a1.toNat ≤ 35184372088832)) (by omega)) (Below.refl _ _) (Nat.le_refl _) ?_; intro v218 w18 ho19 hb hg_ hnew_; clear hg_ hnew_; (first | rw [← Ny217.out] at ho19 | (simp only [Int.reduceToNat] at ho19; rw [← Ny217.out] at ho19)); have HO219 := gA (Kd.R_lower ho19 (below_size (gB HB))); replace BK214 := gA (blk_below (gK BK214) hb); replace HB := gA (below_step (gB HB) hb); clear hb ho19; obtain ⟨Ao20, co20, eo20⟩ := Kd.R_slice HO219.out; subst eo20))
    go_loopg [9, 47] k1 (fun kq v9 v47 w' => ∃ (x8_2 : List Int) (x9_2 : Int) (x47_2 : Int), v9 = .int .i64 x9_2 ∧ v47 = .int .i64 x47_2 ∧ Aside0 (pick_times.l1 kq x8_2 x9_2 (y217.length : Int) x47_2 l0_0 l0_1 = some (r1, r2)) ∧ Aside0 (kq ≤ k1) ∧ Aside0 (Kd.R (Kd.int .i64) 3 w' w.heap.size (fun _ => True) (.slice Ao20 y217.length co20) x8_2) ∧ Aside0 (w'.heap[gb214]? = some (.cells #[(.slice A0_0 l0_0.length c0_0), (.slice A0_1 l0_1.length c0_1)] 25 (0, 0))) ∧ Aside0 (Below w.heap.size w w'))
    case atStart => exact ⟨(y217), (0), (0), (rfl), (rfl), H', ⟨Nat.le_refl _⟩, ⟨gR HO219⟩, ⟨gK BK214⟩, ⟨by repeat first | exact gB HB | refine below_set ?_ GE214.out⟩⟩
    case round =>
     clear H'
     try clear c1
     try clear c2
     try clear p2
     try clear q2
     try clear hx2
     try clear c3
     try clear c3b0
     try clear c3b1
     try clear c4
     try clear c6
     try clear c6b0
     try clear p6
     try clear c7
     try clear c7b0
     try clear c8
     try clear c8b0
     try clear c9
     try clear c9b0
     try clear c9b1
     try clear c10
     try clear c10b0
     try clear c12
     try clear c14
     try clear c14b0
     try clear c14b1
     try clear c15
     try clear c15b0
     try clear c15b1
     try clear c16
     try clear c16b0
     try clear c16b1
     try clear hcz13_0
     try clear hcz13_1
     try clear hcz13_2
     try clear hcz17_0
     try clear hcz17_1
     try clear hcz5_0
     try clear hcz5_1
     try clear hfz13_0
     try clear hfz13_1
     try clear hfz13_2
     try clear hfz17_0
     try clear hfz17_1
     try clear hfz5_0
     try clear hfz5_1
     try clear hx215_0
     try clear hx215_1
     try clear hx215_2
     try clear p2
     try clear p215
     try clear q215
     obtain ⟨x8_2, x9_2, x47_2, rfl, rfl, HA, HK2, HO_8, BK214, HB⟩ := hrel
     have hl8_2 := (Kd.R_reads' HO_8.out).1
     rw [hl8_2] at HO_8
     (try simp only [hl8_2])
     (try simp only [hl8_2] at BK214)
     cases gk with
     | zero => exact absurd HA.out (by simp [pick_times.l1])
     | succ k2 =>
      have H := HA.out; clear HA
      simp only [pick_times.l1] at H
      by_cases c21 : x47_2 < (y217.length : Int)
      ·rw [if_pos c21] at H
       have c21b0 := decide_eq_true c21; have c21b0z := c21b0; (try rw [hl8_2] at c21b0z)
       clear c21
       obtain ⟨c22, H⟩ := iS H
       have c22b0 := decide_eq_true c22; have c22b0z := c22b0; (try rw [hl8_2] at c22b0z)
       have c22b1 : decide (0 < l0_1.length) = true := decide_eq_true (by omega)
       clear c22
       obtain ⟨c23, H⟩ := iN H
       have c23b0 : ((l0_0.length : Int) == 1) = false := beq_eq_false_iff_ne.mpr c23
       have c23b1 : ((l0_0.length : Int) != 1) = true := bne_iff_ne.mpr c23
       obtain ⟨c24, H⟩ := iN H
       have c24b0 : decide ((wrap64 (16384 - x9_2)) < ((rd_T45 l0_1 0).f1)) = false := decide_eq_false c24
       clear c24
       obtain ⟨c25, H⟩ := iS H
       have c25b0 := decide_eq_true c25; have c25b0z := c25b0; (try rw [hl8_2] at c25b0z)
       clear c25
       obtain ⟨c26, H⟩ := iS H
       have c26b0 := decide_eq_true c26; have c26b0z := c26b0; (try rw [hl8_2] at c26b0z)
       clear c26
       obtain ⟨y222, hy222⟩ : ∃ y_ : List Int, y_ = (x8_2.set (x47_2 : Int).toNat ((rd_T45 l0_1 0).f1)) := ⟨_, rfl⟩
       replace H : (pick_times.l1 k2 y222 (wrap64 (x9_2 + (rd y222 x47_2))) (y217.length : Int) (wrap64 (x47_2 + 1)) l0_0 l0_1) = some (r1, r2) := by first | (rw [hy222]; with_reducible exact H) | (have H2_ := (Option.bind_some _ _).symm.trans H; rw [hy222]; with_reducible exact H2_) | (have H2_ := (Option.bind_some _ _).symm.trans H; with_reducible exact H2_) | with_reducible exact H | (rw [hy222]; exact H) | exact H
       have Ny222 := gA hy222
       clear hy222
       have H' := gA H
       clear H
       obtain ⟨hcz28_0, hcz28_1, hfz28_0, hfz28_1⟩ := gz2 BK214
       have p220 : 0 ≤ (0 : Int) := (by omega)
       have q220 : 0 < (l0_1.length : Int) := of_decide_eq_true (by assumption)
       obtain ⟨ad220, A220_2, c220_2, e220, hx220_0, hx220_1, hx220_2, hl220_2, hi220_2⟩ := at_T45 HR0_1.out 0 p220 q220
       cases e220
       have qi220 : (0 < l0_1.length) = True := eq_true (by omega)
       (try rw [show ((0 : Int)).toNat = 0 from rfl] at hx220_0)
       (try rw [show 0 * 3 = 0 from rfl] at hx220_0)
       (try rw [Addr.add_zero'] at hx220_0)
       (try rw [show ((0 : Int)).toNat = 0 from rfl] at hx220_1)
       (try rw [show 0 * 3 = 0 from rfl] at hx220_1)
       (try rw [Addr.add_zero'] at hx220_1)
       (try rw [show ((0 : Int)).toNat = 0 from rfl] at hx220_2)
       (try rw [show 0 * 3 = 0 from rfl] at hx220_2)
       (try rw [Addr.add_zero'] at hx220_2)
       replace hx220_0 := (HB.out.cell (World.block_lt_of_cell? w _ hx220_0)).trans hx220_0
       replace hx220_1 := (HB.out.cell (World.block_lt_of_cell? w _ hx220_1)).trans hx220_1
       replace hx220_2 := (HB.out.cell (World.block_lt_of_cell? w _ hx220_2)).trans hx220_2
       have HR220_2 := gA hi220_2
       have HC220_2 := gA hl220_2
       clear hi220_2 hl220_2
       replace p220 := eq_true p220
       replace q220 := eq_true q220
       go_wp2_with (first | ((with_reducible refine gate_dst (N := 11) rfl ?_); (try (refine gate_guard (by rfl) ?_; dsimp only)); refine box_event ?hg (N := 11) ?hd (cs := #[.int .i64 0, .int .i64 0, .slice none 0 0]) (t := 45) ?hr ?_; (case hd => rfl); (case hg => rfl); (case hr => first | (go_simp; done) | (go_simp; rfl)); intro gb221 hg w29 hbox hb; replace HO_8 := gA (Kd.R_below (gR HO_8) hb); have BK221 := gA (hbox); have GW221 := gA ((by rw [hg]; exact (below_size (gB HB)) : w.heap.size ≤ gb221)); have GE221 := gA ((by rw [hg]; exact (below_size (gB HB)) : w.heap.size ≤ gb221)); replace HB := gA (below_step (gB HB) hb); have NB214_221 := gA ((by rw [hg]; exact Nat.ne_of_lt (blk_lt (gK BK214)) : gb214 ≠ gb221)); have NB221_214 := gA ((by rw [hg]; exact Nat.ne_of_gt (blk_lt (gK BK214)) : gb221 ≠ gb214)); replace BK214 := gA (blk_below (gK BK214) hb); clear hb hbox hg; have hnb30 := NB221_214.out; have hnc30 := NB214_221.out; obtain ⟨hcz31_0, hcz31_1, hcz31_2, hfz31_0, hfz31_1, hfz31_2⟩ := gz3 BK221) | ((with_reducible refine gate_store (t := 45) (p := 11) rfl ?_); refine store_event (t := 45) (p := 11) (v := ?vo_w32) (w1 := (((w29.setCell ⟨gb221, 0, none⟩ (.int .i64 ((rd_T45 l0_1 0).f0))).setCell ⟨gb221, 1, none⟩ (.int .i64 ((rd_T45 l0_1 0).f1))).setCell ⟨gb221, 2, none⟩ (.slice A220_2 ((rd_T45 l0_1 0).f2).length c220_2))) ?hg ?ho ?hn ?hr ?_; (case ho => rfl); (case hg => rfl); (case hn => rfl); (case hr => first | (go_simp; done) | (go_simp; rfl)); intro w32 hw; have n0_ : Aside0 (Kd.R (Kd.int .i64) 3 w32 w.heap.size (fun _ => True) (.slice Ao20 x8_2.length co20) x8_2) := ⟨(by rw [hw]; exact (Kd.R_mono (Kd.R_far (p := ⟨gb221, 2, none⟩) (Kd.R_far (p := ⟨gb221, 1, none⟩) (Kd.R_far (p := ⟨gb221, 0, none⟩) (Kd.R_types HO_8.out BK221.out (by decide)) (fun _ hk => hk.2) (.int .i64 ((rd_T45 l0_1 0).f0))) (fun _ hk => hk.2) (.int .i64 ((rd_T45 l0_1 0).f1))) (fun _ hk => hk.2) (.slice A220_2 ((rd_T45 l0_1 0).f2).length c220_2)) (fun _ hk => trivial)))⟩; have n1_ : Aside0 (w32.heap[gb214]? = some (.cells #[.slice A0_0 l0_0.length c0_0, .slice (some ad220) l0_1.length c0_1] 25 (0, 0))) := ⟨(by rw [hw]; exact (by refine blk_far ?_ NB214_221.out _; refine blk_far ?_ NB214_221.out _; refine blk_far ?_ NB214_221.out _; exact gK BK214))⟩; have n2_ : Aside0 (w32.heap[gb221]? = some (.cells #[.int .i64 ((rd_T45 l0_1 0).f0), .int .i64 ((rd_T45 l0_1 0).f1), .slice A220_2 ((rd_T45 l0_1 0).f2).length c220_2] 45 (0, 0))) := ⟨(by rw [hw]; exact (by refine blk_put (cs := #[.int .i64 ((rd_T45 l0_1 0).f0), .int .i64 ((rd_T45 l0_1 0).f1), .slice none 0 0]) ?_ 2 _ rfl; refine blk_put (cs := #[.int .i64 ((rd_T45 l0_1 0).f0), .int .i64 0, .slice none 0 0]) ?_ 1 _ rfl; refine blk_put (cs := #[.int .i64 0, .int .i64 0, .slice none 0 0]) ?_ 0 _ rfl; exact gK BK221))⟩; have n3_ : Aside0 (Below w.heap.size w w32) := ⟨(by rw [hw]; exact (by repeat (first | (with_reducible first | exact HB.out | apply below_alloc | apply pw_below_drewN | apply below_drew1 | refine below_set ?_ GE214.out | refine below_set ?_ GE221.out) | exact HB.out)))⟩; clear hw HO_8 BK214 BK221 HB; have HO_8 := n0_; have BK214 := n1_; have BK221 := n2_; have HB := n3_; clear n0_ n1_ n2_ n3_; obtain ⟨hcz33_0, hcz33_1, hfz33_0, hfz33_1⟩ := gz2 BK214; obtain ⟨hcz34_0, hcz34_1, hcz34_2, hfz34_0, hfz34_1, hfz34_2⟩ := gz3 BK221; have p27 : 0 ≤ (x47_2 : Int) := of_decide_eq_true (by assumption); have q27 : (x47_2 : Int) < ((x8_2.length : Int) : Int) := of_decide_eq_true (by assumption); obtain ⟨go27, co27, eo27, gb27, gl27, cl27, HG27⟩ := Kd.R_form HO_8.out (by omega); (first | cases eo27 | (injection eo27 with ea_ en_ ec_; (first | subst ea_ | (injection ea_ with ea_; subst ea_)); subst ec_; clear en_)); have GB27 := gA gb27; have GG27 := gA HG27; clear gb27 gl27 HG27; obtain ⟨hx27_0, hf27_0⟩ := Kd.R_celln 0 HO_8.out (x47_2 : Int) p27 q27; replace p27 := eq_true p27; replace q27 := eq_true q27; obtain ⟨hy35_, hz35_⟩ := Kd.R_celln 0 HO_8.out (x47_2 : Int) (of_decide_eq_true (by assumption)) (of_decide_eq_true (by assumption)); have HP35 := Kd.R_putg HO_8.out (x47_2 : Int) ((rd_T45 l0_1 0).f1)) | ((with_reducible refine gate_store (t := 3) (p := 72) rfl ?_); refine store_event (t := 3) (p := 72) (v := ?vo_w36) (w1 := (w32.setCell ⟨go27, (x47_2 : Int).toNat, none⟩ (.int .i64 ((rd_T45 l0_1 0).f1)))) ?hg ?ho ?hn ?hr ?_; (case ho => rfl); (case hg => rfl); (case hn => rfl); (case hr => first | (go_simp; done) | (go_simp; rfl)); intro w36 hw; have hg : w32.grownBy w36 (some go27) := (by rw [hw]; exact HP35.2); have hp_ : Kd.R (Kd.int .i64) 3 w36 w.heap.size (fun _ => True) (.slice (some ⟨go27, 0, none⟩) x8_2.length co20) y222 := (by rw [hw, Ny222.out]; exact HP35.1); clear HP35; replace BK214 := gA (blk_grown (gK BK214) hg (Kd.R_ne HO_8.out BK214.out (by decide))); replace BK221 := gA (blk_grown (gK BK221) hg (Kd.R_ne HO_8.out BK221.out (by decide))); replace HO_8 := gA (hp_); replace HB := gA ((by rw [hw]; exact below_set (HB.out) GB27.out : Below w.heap.size w w36)); clear hg hw hp_; have p223 : 0 ≤ (x47_2 : Int) := of_decide_eq_true (by assumption); have q223 : x47_2 < (y222.length : Int) := (by have h_ : (x47_2 : Int) < ((x8_2.length : Int) : Int) := of_decide_eq_true (by assumption); first | (have e_ := (Kd.R_reads' HO_8.out).1; omega) | simpa only [Ny222.out, List.length_set] using h_); have ql223 : ((x47_2 : Int) < ((x8_2.length : Int) : Int)) = True := eq_true (of_decide_eq_true (by assumption)); obtain ⟨ad223, e223, hx223_0⟩ := Kd.at_int (Kd.R_reads' HO_8.out).2.2 x47_2 p223 q223; obtain rfl : (⟨go27, 0, none⟩ : Addr) = ad223 := (by injection e223); (first | simp only [add_plain] at hx223_0 | simp only [add_at] at hx223_0 | simp only [Addr.add, Nat.zero_add] at hx223_0 | skip); replace p223 := eq_true p223; replace q223 := eq_true q223))
       (try simp only [← hl8_2])
       go_roundg k2
       case measure => have := HK1.out; have := HK2.out; omega
       case rel => exact ⟨(y222), (wrap64 (x9_2 + (rd y222 x47_2))), (wrap64 (x47_2 + 1)), (rfl), (rfl), H', ⟨by have := HK1.out; have := HK2.out; omega⟩, ⟨by (try simp only [hl8_2]); (with_reducible repeat (first | apply Kd.R_alloc | apply Kd.R_drewN | apply Kd.R_drew)); exact HO_8.out⟩, ⟨by (try simp only [hl8_2]); exact gK BK214⟩, ⟨gB HB⟩⟩
      ·rw [if_neg c21] at H
       have c21b0 := decide_eq_false c21; have c21b0z := c21b0; (try rw [hl8_2] at c21b0z)
       clear c21
       simp only [Option.some.injEq, Prod.mk.injEq] at H
       obtain ⟨rfl, rfl⟩ := H
       go_wp2
       go_ret2
       exact ⟨_, rfl, gR HO_8, by repeat first | exact gB HB | refine below_set ?_ GE214.out⟩
end Go.Proofs.Ytdihmempaonfjaa.P
