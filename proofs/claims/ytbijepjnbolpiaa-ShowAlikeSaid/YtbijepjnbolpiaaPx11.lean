/- Written by a program of this session: the functions that the laws reach, what each comes to, and each law as it is stated, for every input. No condition. -/
import Derived.Test.YtbijepjnbolpiaaPx0
import Derived.Test.YtbijepjnbolpiaaPx2
import Derived.Test.YtbijepjnbolpiaaPx5
import Derived.Test.YtbijepjnbolpiaaPx6
import Derived.Test.YtbijepjnbolpiaaPx7
namespace Go.Proofs.Ytbijepjnbolpiaa.P
open Go.RowKit Go.Proofs.YtbijepjnbolpiaaW.PrintWords Go.Proofs.YtbijepjnbolpiaaW.PrintLast Go.Proofs.YtbijepjnbolpiaaW.PrintMore
attribute [local go_sem] max2_int min2_int max_two min_two max_three min_three max_four min_four   -- for this text's walks alone
set_option linter.unusedVariables false
set_option linter.unusedSimpArgs false
mutual
def triglyphlaw27_below.l0 : Nat → Int → List Int → List (S40) → Option (Bool)
 | 0, _, _, _ => none
 | k + 1, x3, x417000, x417001 => if x3 < (x417001.length : Int) then (if 0 ≤ x3 then (if ((rd_T40 x417001 x3).f0) = 0 then (if ((rd_T40 x417001 x3).f1) < 0 then (some true) else (if (((rd_T40 x417001 x3).f2).length : Int) = 1 then (if 0 < (((rd_T40 x417001 x3).f2).length : Int) then ((triglyphlaw27_below.f k ((rd_T25 ((rd_T40 x417001 x3).f2) 0).f0) ((rd_T25 ((rd_T40 x417001 x3).f2) 0).f1)).bind fun t420 => (if t420 = true then (some true) else (triglyphlaw27_below.l0 k (wrap64 (x3 + 1)) x417000 x417001))) else (none)) else (triglyphlaw27_below.l0 k (wrap64 (x3 + 1)) x417000 x417001))) else (if (((rd_T40 x417001 x3).f2).length : Int) = 1 then (if 0 < (((rd_T40 x417001 x3).f2).length : Int) then ((triglyphlaw27_below.f k ((rd_T25 ((rd_T40 x417001 x3).f2) 0).f0) ((rd_T25 ((rd_T40 x417001 x3).f2) 0).f1)).bind fun t422 => (if t422 = true then (some true) else (triglyphlaw27_below.l0 k (wrap64 (x3 + 1)) x417000 x417001))) else (none)) else (triglyphlaw27_below.l0 k (wrap64 (x3 + 1)) x417000 x417001))) else (none)) else (some false)
def triglyphlaw27_below.f : Nat → List Int → List (S40) → Option (Bool)
 | 0, _, _ => none
 | k + 1, l0_0, l0_1 => triglyphlaw27_below.l0 k 0 l0_0 l0_1
end
theorem triglyphlaw27_below.mono_l : ∀ k, (∀ y0 y1, LeO (triglyphlaw27_below.f k y0 y1) (triglyphlaw27_below.f (k + 1) y0 y1)) ∧ (∀ y0 y1 y2, LeO (triglyphlaw27_below.l0 k y0 y1 y2) (triglyphlaw27_below.l0 (k + 1) y0 y1 y2))
 | 0 => ⟨fun _ _ r h => by simp [triglyphlaw27_below.f] at h, fun _ _ _ r h => by simp [triglyphlaw27_below.l0] at h⟩
 | k + 1 => by
  obtain ⟨ih0, ih1⟩ := triglyphlaw27_below.mono_l k
  refine ⟨?_, ?_⟩
  ·intro y0 y1
   unfold triglyphlaw27_below.f
   repeat' first
   | (with_reducible exact ih0 _ _)
   | (with_reducible exact ih1 _ _ _)
   | (with_reducible exact LeO.refl _)
   | (with_reducible exact LeO.none _)
   | (with_reducible refine LeO.ite ?_ ?_)
   | (with_reducible refine LeO.bind ?_ (fun _ => ?_))





  ·intro y0 y1 y2
   unfold triglyphlaw27_below.l0
   repeat' first
   | (with_reducible exact ih0 _ _)
   | (with_reducible exact ih1 _ _ _)
   | (with_reducible exact LeO.refl _)
   | (with_reducible exact LeO.none _)
   | (with_reducible refine LeO.ite ?_ ?_)
   | (with_reducible refine LeO.bind ?_ (fun _ => ?_))
theorem triglyphlaw27_below.mono : ∀ a0 a1 k, LeO (triglyphlaw27_below.f k a0 a1) (triglyphlaw27_below.f (k + 1) a0 a1) := by
 intro a0 a1 k
 obtain ⟨ih0, ih1⟩ := triglyphlaw27_below.mono_l k
 exact ih0 a0 a1
set_option maxHeartbeats 8000000 in
set_option maxRecDepth 100000 in
theorem triglyphlaw27_below.calls (k : Nat) : ∀ (A0_0 : Option Addr) (c0_0 : Nat) (l0_0 : List Int) (A0_1 : Option Addr) (c0_1 : Nat) (l0_1 : List (S40)) (r : Bool) (w : World) (hr0_0 : Kd.C (Kd.int .i64) w A0_0 l0_0.length l0_0) (hc0_0 : l0_0.length ≤ c0_0) (hr0_1 : Kd.C k40 w A0_1 l0_1.length l0_1) (hc0_1 : l0_1.length ≤ c0_1) (h : triglyphlaw27_below.f k l0_0 l0_1 = some r),
  Calls Try.prog 12 #[.agg #[.slice A0_0 l0_0.length c0_0, .slice A0_1 l0_1.length c0_1]] w fun e w' => e = .returned (.bool r) ∧ Below w.heap.size w w' := by
 induction k using Nat.strongRecOn with
 | _ k ih =>
 intro A0_0 c0_0 l0_0 A0_1 c0_1 l0_1 r w hr0_0 hc0_0 hr0_1 hc0_1 h
 cases k with
 | zero => exact absurd h (by simp [triglyphlaw27_below.f])
 | succ k =>
 simp only [triglyphlaw27_below.f] at h
 have hu25 := Try.underlying25
 have hu40 := Try.underlying40
 have HR0_0 := gA hr0_0
 have HC0_0 := gA hc0_0
 clear hr0_0 hc0_0
 have HR0_1 := gA hr0_1
 have HC0_1 := gA hc0_1
 clear hr0_1 hc0_1
 have HB := gA (Below.refl w.heap.size w)
 have H : (triglyphlaw27_below.l0 k 0 l0_0 l0_1) = some r := h
 clear h
 have H' := gA H
 clear H
 go_enter Try.func12, Try.ntmps12
 go_wp2_with (first | ((with_reducible refine gate_dst (N := 1) rfl ?_); (try (refine gate_guard (by rfl) ?_; dsimp only)); refine box_event ?hg (N := 1) ?hd (cs := #[.slice A0_0 l0_0.length c0_0, .slice A0_1 l0_1.length c0_1]) (t := 25) ?hr ?_; (case hd => rfl); (case hg => rfl); (case hr => first | (go_simp; done) | (go_simp; rfl)); intro gb416 hg w2 hbox hb; have BK416 := gA (hbox); have GW416 := gA ((by rw [hg]; exact (below_size (gB HB)) : w.heap.size ≤ gb416)); have GE416 := gA ((by rw [hg]; exact (below_size (gB HB)) : w.heap.size ≤ gb416)); replace HB := gA (below_step (gB HB) hb); clear hb hbox hg))
 go_loopg [3] k (fun kq v3 w' => ∃ (x3_1 : Int), v3 = .int .i64 x3_1 ∧ Aside0 (triglyphlaw27_below.l0 kq x3_1 l0_0 l0_1 = some r) ∧ Aside0 (kq ≤ k) ∧ Aside0 (w'.heap[gb416]? = some (.cells #[(.slice A0_0 l0_0.length c0_0), (.slice A0_1 l0_1.length c0_1)] 25 (0, 0))) ∧ Aside0 (Below w.heap.size w w'))
 case atStart => exact ⟨(0), (rfl), H', ⟨Nat.le_refl _⟩, ⟨gK BK416⟩, ⟨by repeat first | exact gB HB | refine below_set ?_ GE416.out⟩⟩
 case round =>
  clear H'
  try clear c1
  try clear p2
  obtain ⟨x3_1, rfl, HA, HK1, BK416, HB⟩ := hrel
  cases gk with
  | zero => exact absurd HA.out (by simp [triglyphlaw27_below.l0])
  | succ k1 =>
   have H := HA.out; clear HA
   simp only [triglyphlaw27_below.l0] at H
   by_cases c3 : x3_1 < (l0_1.length : Int)
   ·rw [if_pos c3] at H
    have c3b0 := decide_eq_true c3
    clear c3
    obtain ⟨c4, H⟩ := iS H
    have c4b0 := decide_eq_true c4
    clear c4
    by_cases c5 : ((rd_T40 l0_1 x3_1).f0) = 0
    ·rw [if_pos c5] at H
     have c5b0 : (((rd_T40 l0_1 x3_1).f0) == 0) = true := beq_iff_eq.mpr c5
     have c5b1 : (((rd_T40 l0_1 x3_1).f0) != 0) = false := bne_eq_false_iff_eq.mpr c5
     clear c5
     by_cases c6 : ((rd_T40 l0_1 x3_1).f1) < 0
     ·rw [if_pos c6] at H
      have c6b0 := decide_eq_true c6
      clear c6
      obtain rfl := Option.some.inj H
      obtain ⟨hcz7_0, hcz7_1, hfz7_0, hfz7_1⟩ := gz2 BK416
      have p417 : 0 ≤ (x3_1 : Int) := of_decide_eq_true (by assumption)
      have q417 : x3_1 < (l0_1.length : Int) := of_decide_eq_true (by assumption)
      obtain ⟨ad417, A417_2, c417_2, e417, hx417_0, hx417_1, hx417_2, hl417_2, hi417_2⟩ := at_T40 HR0_1.out x3_1 p417 q417
      cases e417
      replace hx417_0 := (HB.out.cell (World.block_lt_of_cell? w _ hx417_0)).trans hx417_0
      replace hx417_1 := (HB.out.cell (World.block_lt_of_cell? w _ hx417_1)).trans hx417_1
      replace hx417_2 := (HB.out.cell (World.block_lt_of_cell? w _ hx417_2)).trans hx417_2
      have HR417_2 := gA hi417_2
      have HC417_2 := gA hl417_2
      clear hi417_2 hl417_2
      replace p417 := eq_true p417
      replace q417 := eq_true q417
      go_wp2_with (first | ((with_reducible refine gate_dst (N := 4) rfl ?_); (try (refine gate_guard (by rfl) ?_; dsimp only)); refine box_event ?hg (N := 4) ?hd (cs := #[.int .i64 0, .int .i64 0, .slice none 0 0]) (t := 40) ?hr ?_; (case hd => rfl); (case hg => rfl); (case hr => first | (go_simp; done) | (go_simp; rfl)); intro gb418 hg w8 hbox hb; have BK418 := gA (hbox); have GW418 := gA ((by rw [hg]; exact (below_size (by repeat first | exact gB HB | refine below_set ?_ GE416.out)) : w.heap.size ≤ gb418)); have GE418 := gA ((by rw [hg]; exact (below_size (by repeat first | exact gB HB | refine below_set ?_ GE416.out)) : w.heap.size ≤ gb418)); replace HB := gA (below_step (by repeat first | exact gB HB | refine below_set ?_ GE416.out) hb); have NB416_418 := gA ((by rw [hg]; exact Nat.ne_of_lt (blk_lt (gK BK416)) : gb416 ≠ gb418)); have NB418_416 := gA ((by rw [hg]; exact Nat.ne_of_gt (blk_lt (gK BK416)) : gb418 ≠ gb416)); replace BK416 := gA (blk_below (gK BK416) hb); clear hb hbox hg; have hnb9 := NB418_416.out; have hnc9 := NB416_418.out; obtain ⟨hcz10_0, hcz10_1, hcz10_2, hfz10_0, hfz10_1, hfz10_2⟩ := gz3 BK418))
      go_ret
      exact ⟨rfl, by repeat first | exact gB HB | refine below_set ?_ GE416.out | refine below_set ?_ GE418.out⟩
     ·rw [if_neg c6] at H
      have c6b0 := decide_eq_false c6
      clear c6
      by_cases c11 : (((rd_T40 l0_1 x3_1).f2).length : Int) = 1
      ·rw [if_pos c11] at H
       have c11b0 : ((((rd_T40 l0_1 x3_1).f2).length : Int) == 1) = true := beq_iff_eq.mpr c11
       have c11b1 : ((((rd_T40 l0_1 x3_1).f2).length : Int) != 1) = false := bne_eq_false_iff_eq.mpr c11
       clear c11
       obtain ⟨c12, H⟩ := iS H
       have c12b0 := decide_eq_true c12
       have c12b1 : decide (0 < ((rd_T40 l0_1 x3_1).f2).length) = true := decide_eq_true (by omega)
       clear c12
       replace H := Option.bind_eq_some_iff.mp H
       obtain ⟨t420, A130, H⟩ := H
       replace H : (if t420 = true then (some true) else (triglyphlaw27_below.l0 k1 (wrap64 (x3_1 + 1)) l0_0 l0_1)) = some r := H
       have A13 := gA A130
       clear A130
       by_cases c14 : t420 = true
       ·subst c14
        have H1 : (some true) = some r := by rw [if_pos rfl] at H; exact H
        clear H; have H := H1; clear H1
        obtain rfl := Option.some.inj H
        obtain ⟨hcz15_0, hcz15_1, hfz15_0, hfz15_1⟩ := gz2 BK416
        have p417 : 0 ≤ (x3_1 : Int) := of_decide_eq_true (by assumption)
        have q417 : x3_1 < (l0_1.length : Int) := of_decide_eq_true (by assumption)
        obtain ⟨ad417, A417_2, c417_2, e417, hx417_0, hx417_1, hx417_2, hl417_2, hi417_2⟩ := at_T40 HR0_1.out x3_1 p417 q417
        cases e417
        replace hx417_0 := (HB.out.cell (World.block_lt_of_cell? w _ hx417_0)).trans hx417_0
        replace hx417_1 := (HB.out.cell (World.block_lt_of_cell? w _ hx417_1)).trans hx417_1
        replace hx417_2 := (HB.out.cell (World.block_lt_of_cell? w _ hx417_2)).trans hx417_2
        have HR417_2 := gA hi417_2
        have HC417_2 := gA hl417_2
        clear hi417_2 hl417_2
        replace p417 := eq_true p417
        replace q417 := eq_true q417
        go_wp2_with (first | ((with_reducible refine gate_dst (N := 4) rfl ?_); (try (refine gate_guard (by rfl) ?_; dsimp only)); refine box_event ?hg (N := 4) ?hd (cs := #[.int .i64 0, .int .i64 0, .slice none 0 0]) (t := 40) ?hr ?_; (case hd => rfl); (case hg => rfl); (case hr => first | (go_simp; done) | (go_simp; rfl)); intro gb418 hg w16 hbox hb; have BK418 := gA (hbox); have GW418 := gA ((by rw [hg]; exact (below_size (by repeat first | exact gB HB | refine below_set ?_ GE416.out)) : w.heap.size ≤ gb418)); have GE418 := gA ((by rw [hg]; exact (below_size (by repeat first | exact gB HB | refine below_set ?_ GE416.out)) : w.heap.size ≤ gb418)); replace HB := gA (below_step (by repeat first | exact gB HB | refine below_set ?_ GE416.out) hb); have NB416_418 := gA ((by rw [hg]; exact Nat.ne_of_lt (blk_lt (gK BK416)) : gb416 ≠ gb418)); have NB418_416 := gA ((by rw [hg]; exact Nat.ne_of_gt (blk_lt (gK BK416)) : gb418 ≠ gb416)); replace BK416 := gA (blk_below (gK BK416) hb); clear hb hbox hg; have hnb17 := NB418_416.out; have hnc17 := NB416_418.out; obtain ⟨hcz18_0, hcz18_1, hcz18_2, hfz18_0, hfz18_1, hfz18_2⟩ := gz3 BK418; have p419 : 0 ≤ (0 : Int) := (by omega); have q419 : 0 < (((rd_T40 l0_1 x3_1).f2).length : Int) := of_decide_eq_true (by assumption); obtain ⟨ad419, A419_0, c419_0, A419_1, c419_1, e419, hx419_0, hx419_1, hl419_0, hi419_0, hl419_1, hi419_1⟩ := at_T25 HR417_2.out 0 p419 q419; cases e419; have qi419 : (0 < ((rd_T40 l0_1 x3_1).f2).length) = True := eq_true (by omega); (try rw [show ((0 : Int)).toNat = 0 from rfl] at hx419_0); (try rw [show 0 * 2 = 0 from rfl] at hx419_0); (try rw [Addr.add_zero'] at hx419_0); (try rw [show ((0 : Int)).toNat = 0 from rfl] at hx419_1); (try rw [show 0 * 2 = 0 from rfl] at hx419_1); (try rw [Addr.add_zero'] at hx419_1); have hn419_0 : ad419.block ≠ gb418 := Nat.ne_of_lt (Nat.lt_of_lt_of_le (by have := World.block_lt_of_cell? _ _ hx419_0; first | rwa [add_block] at this | exact this) GW418.out); have hn419_1 : ad419.block ≠ gb418 := Nat.ne_of_lt (Nat.lt_of_lt_of_le (by have := World.block_lt_of_cell? _ _ hx419_0; first | rwa [add_block] at this | exact this) GW418.out); have hn419_2 : ad419.block ≠ gb418 := Nat.ne_of_lt (Nat.lt_of_lt_of_le (by have := World.block_lt_of_cell? _ _ hx419_0; first | rwa [add_block] at this | exact this) GW418.out); replace hx419_0 := (HB.out.cell (World.block_lt_of_cell? w _ hx419_0)).trans hx419_0; replace hx419_1 := (HB.out.cell (World.block_lt_of_cell? w _ hx419_1)).trans hx419_1; have HR419_0 := gA hi419_0; have HC419_0 := gA hl419_0; clear hi419_0 hl419_0; have HR419_1 := gA hi419_1; have HC419_1 := gA hl419_1; clear hi419_1 hl419_1; replace hx419_0 := (cell_far (p := ⟨gb418, 0, none⟩) (by first | (rw [add_block]; exact hn419_0) | (show (Addr.add _ _).block ≠ _; rw [add_block]; exact hn419_0) | exact hn419_0) (.int .i64 ((rd_T40 l0_1 x3_1).f0))).trans hx419_0; replace hx419_1 := (cell_far (p := ⟨gb418, 0, none⟩) (by first | (rw [add_block]; exact hn419_0) | (show (Addr.add _ _).block ≠ _; rw [add_block]; exact hn419_0) | exact hn419_0) (.int .i64 ((rd_T40 l0_1 x3_1).f0))).trans hx419_1; replace hx419_0 := (cell_far (p := ⟨gb418, 1, none⟩) (by first | (rw [add_block]; exact hn419_1) | (show (Addr.add _ _).block ≠ _; rw [add_block]; exact hn419_1) | exact hn419_1) (.int .i64 ((rd_T40 l0_1 x3_1).f1))).trans hx419_0; replace hx419_1 := (cell_far (p := ⟨gb418, 1, none⟩) (by first | (rw [add_block]; exact hn419_1) | (show (Addr.add _ _).block ≠ _; rw [add_block]; exact hn419_1) | exact hn419_1) (.int .i64 ((rd_T40 l0_1 x3_1).f1))).trans hx419_1; replace hx419_0 := (cell_far (p := ⟨gb418, 2, none⟩) (by first | (rw [add_block]; exact hn419_2) | (show (Addr.add _ _).block ≠ _; rw [add_block]; exact hn419_2) | exact hn419_2) (.slice (some ad419) ((rd_T40 l0_1 x3_1).f2).length c417_2)).trans hx419_0; replace hx419_1 := (cell_far (p := ⟨gb418, 2, none⟩) (by first | (rw [add_block]; exact hn419_2) | (show (Addr.add _ _).block ≠ _; rw [add_block]; exact hn419_2) | exact hn419_2) (.slice (some ad419) ((rd_T40 l0_1 x3_1).f2).length c417_2)).trans hx419_1; clear hn419_0 hn419_1 hn419_2; replace p419 := eq_true p419; replace q419 := eq_true q419) | (go_at_call 12; (with_reducible refine (ih k1 (by have := HK1.out; omega) _ _ ((rd_T25 ((rd_T40 l0_1 x3_1).f2) 0).f0) _ _ ((rd_T25 ((rd_T40 l0_1 x3_1).f2) 0).f1) true _ ?side1 ?side2 ?side3 ?side4 A13.out).mono ?_); (case side1 => exact Kd.C_below HR419_0.out (by repeat first | exact gB HB | refine below_set ?_ GE416.out | refine below_set ?_ GE418.out)); (case side2 => exact HC419_0.out); (case side3 => exact Kd.C_below HR419_1.out (by repeat first | exact gB HB | refine below_set ?_ GE416.out | refine below_set ?_ GE418.out)); (case side4 => exact HC419_1.out); rintro e w19 ⟨rfl, hb⟩; replace BK416 := gA (blk_below (g := gb416) (o := .cells #[.slice A0_0 l0_0.length c0_0, .slice (some ad417) l0_1.length c0_1] 25 (0, 0)) (by refine blk_far ?_ NB416_418.out _; refine blk_far ?_ NB416_418.out _; refine blk_far ?_ NB416_418.out _; exact gK BK416) hb); replace BK418 := gA (blk_below (g := gb418) (o := .cells #[.int .i64 ((rd_T40 l0_1 x3_1).f0), .int .i64 ((rd_T40 l0_1 x3_1).f1), .slice (some ad419) ((rd_T40 l0_1 x3_1).f2).length c417_2] 40 (0, 0)) (by refine blk_put (cs := #[.int .i64 ((rd_T40 l0_1 x3_1).f0), .int .i64 ((rd_T40 l0_1 x3_1).f1), .slice none 0 0]) ?_ 2 _ rfl; refine blk_put (cs := #[.int .i64 ((rd_T40 l0_1 x3_1).f0), .int .i64 0, .slice none 0 0]) ?_ 1 _ rfl; refine blk_put (cs := #[.int .i64 0, .int .i64 0, .slice none 0 0]) ?_ 0 _ rfl; exact gK BK418) hb); replace HB := gA (below_step (by repeat first | exact gB HB | refine below_set ?_ GE416.out | refine below_set ?_ GE418.out) hb); (try clear hb)))
        go_ret
        exact ⟨rfl, by repeat first | exact gB HB | refine below_set ?_ GE416.out | refine below_set ?_ GE418.out⟩
       ·replace c14 := Bool.eq_false_iff.mpr c14
        subst c14
        have H1 : (triglyphlaw27_below.l0 k1 (wrap64 (x3_1 + 1)) l0_0 l0_1) = some r := by rw [if_neg (show ¬ (false = true) by decide)] at H; exact H
        clear H; have H := H1; clear H1
        have H' := gA H
        clear H
        obtain ⟨hcz20_0, hcz20_1, hfz20_0, hfz20_1⟩ := gz2 BK416
        have p417 : 0 ≤ (x3_1 : Int) := of_decide_eq_true (by assumption)
        have q417 : x3_1 < (l0_1.length : Int) := of_decide_eq_true (by assumption)
        obtain ⟨ad417, A417_2, c417_2, e417, hx417_0, hx417_1, hx417_2, hl417_2, hi417_2⟩ := at_T40 HR0_1.out x3_1 p417 q417
        cases e417
        replace hx417_0 := (HB.out.cell (World.block_lt_of_cell? w _ hx417_0)).trans hx417_0
        replace hx417_1 := (HB.out.cell (World.block_lt_of_cell? w _ hx417_1)).trans hx417_1
        replace hx417_2 := (HB.out.cell (World.block_lt_of_cell? w _ hx417_2)).trans hx417_2
        have HR417_2 := gA hi417_2
        have HC417_2 := gA hl417_2
        clear hi417_2 hl417_2
        replace p417 := eq_true p417
        replace q417 := eq_true q417
        go_wp2_with (first | ((with_reducible refine gate_dst (N := 4) rfl ?_); (try (refine gate_guard (by rfl) ?_; dsimp only)); refine box_event ?hg (N := 4) ?hd (cs := #[.int .i64 0, .int .i64 0, .slice none 0 0]) (t := 40) ?hr ?_; (case hd => rfl); (case hg => rfl); (case hr => first | (go_simp; done) | (go_simp; rfl)); intro gb418 hg w21 hbox hb; have BK418 := gA (hbox); have GW418 := gA ((by rw [hg]; exact (below_size (by repeat first | exact gB HB | refine below_set ?_ GE416.out)) : w.heap.size ≤ gb418)); have GE418 := gA ((by rw [hg]; exact (below_size (by repeat first | exact gB HB | refine below_set ?_ GE416.out)) : w.heap.size ≤ gb418)); replace HB := gA (below_step (by repeat first | exact gB HB | refine below_set ?_ GE416.out) hb); have NB416_418 := gA ((by rw [hg]; exact Nat.ne_of_lt (blk_lt (gK BK416)) : gb416 ≠ gb418)); have NB418_416 := gA ((by rw [hg]; exact Nat.ne_of_gt (blk_lt (gK BK416)) : gb418 ≠ gb416)); replace BK416 := gA (blk_below (gK BK416) hb); clear hb hbox hg; have hnb22 := NB418_416.out; have hnc22 := NB416_418.out; obtain ⟨hcz23_0, hcz23_1, hcz23_2, hfz23_0, hfz23_1, hfz23_2⟩ := gz3 BK418; have p419 : 0 ≤ (0 : Int) := (by omega); have q419 : 0 < (((rd_T40 l0_1 x3_1).f2).length : Int) := of_decide_eq_true (by assumption); obtain ⟨ad419, A419_0, c419_0, A419_1, c419_1, e419, hx419_0, hx419_1, hl419_0, hi419_0, hl419_1, hi419_1⟩ := at_T25 HR417_2.out 0 p419 q419; cases e419; have qi419 : (0 < ((rd_T40 l0_1 x3_1).f2).length) = True := eq_true (by omega); (try rw [show ((0 : Int)).toNat = 0 from rfl] at hx419_0); (try rw [show 0 * 2 = 0 from rfl] at hx419_0); (try rw [Addr.add_zero'] at hx419_0); (try rw [show ((0 : Int)).toNat = 0 from rfl] at hx419_1); (try rw [show 0 * 2 = 0 from rfl] at hx419_1); (try rw [Addr.add_zero'] at hx419_1); have hn419_0 : ad419.block ≠ gb418 := Nat.ne_of_lt (Nat.lt_of_lt_of_le (by have := World.block_lt_of_cell? _ _ hx419_0; first | rwa [add_block] at this | exact this) GW418.out); have hn419_1 : ad419.block ≠ gb418 := Nat.ne_of_lt (Nat.lt_of_lt_of_le (by have := World.block_lt_of_cell? _ _ hx419_0; first | rwa [add_block] at this | exact this) GW418.out); have hn419_2 : ad419.block ≠ gb418 := Nat.ne_of_lt (Nat.lt_of_lt_of_le (by have := World.block_lt_of_cell? _ _ hx419_0; first | rwa [add_block] at this | exact this) GW418.out); replace hx419_0 := (HB.out.cell (World.block_lt_of_cell? w _ hx419_0)).trans hx419_0; replace hx419_1 := (HB.out.cell (World.block_lt_of_cell? w _ hx419_1)).trans hx419_1; have HR419_0 := gA hi419_0; have HC419_0 := gA hl419_0; clear hi419_0 hl419_0; have HR419_1 := gA hi419_1; have HC419_1 := gA hl419_1; clear hi419_1 hl419_1; replace hx419_0 := (cell_far (p := ⟨gb418, 0, none⟩) (by first | (rw [add_block]; exact hn419_0) | (show (Addr.add _ _).block ≠ _; rw [add_block]; exact hn419_0) | exact hn419_0) (.int .i64 ((rd_T40 l0_1 x3_1).f0))).trans hx419_0; replace hx419_1 := (cell_far (p := ⟨gb418, 0, none⟩) (by first | (rw [add_block]; exact hn419_0) | (show (Addr.add _ _).block ≠ _; rw [add_block]; exact hn419_0) | exact hn419_0) (.int .i64 ((rd_T40 l0_1 x3_1).f0))).trans hx419_1; replace hx419_0 := (cell_far (p := ⟨gb418, 1, none⟩) (by first | (rw [add_block]; exact hn419_1) | (show (Addr.add _ _).block ≠ _; rw [add_block]; exact hn419_1) | exact hn419_1) (.int .i64 ((rd_T40 l0_1 x3_1).f1))).trans hx419_0; replace hx419_1 := (cell_far (p := ⟨gb418, 1, none⟩) (by first | (rw [add_block]; exact hn419_1) | (show (Addr.add _ _).block ≠ _; rw [add_block]; exact hn419_1) | exact hn419_1) (.int .i64 ((rd_T40 l0_1 x3_1).f1))).trans hx419_1; replace hx419_0 := (cell_far (p := ⟨gb418, 2, none⟩) (by first | (rw [add_block]; exact hn419_2) | (show (Addr.add _ _).block ≠ _; rw [add_block]; exact hn419_2) | exact hn419_2) (.slice (some ad419) ((rd_T40 l0_1 x3_1).f2).length c417_2)).trans hx419_0; replace hx419_1 := (cell_far (p := ⟨gb418, 2, none⟩) (by first | (rw [add_block]; exact hn419_2) | (show (Addr.add _ _).block ≠ _; rw [add_block]; exact hn419_2) | exact hn419_2) (.slice (some ad419) ((rd_T40 l0_1 x3_1).f2).length c417_2)).trans hx419_1; clear hn419_0 hn419_1 hn419_2; replace p419 := eq_true p419; replace q419 := eq_true q419) | (go_at_call 12; (with_reducible refine (ih k1 (by have := HK1.out; omega) _ _ ((rd_T25 ((rd_T40 l0_1 x3_1).f2) 0).f0) _ _ ((rd_T25 ((rd_T40 l0_1 x3_1).f2) 0).f1) false _ ?side1 ?side2 ?side3 ?side4 A13.out).mono ?_); (case side1 => exact Kd.C_below HR419_0.out (by repeat first | exact gB HB | refine below_set ?_ GE416.out | refine below_set ?_ GE418.out)); (case side2 => exact HC419_0.out); (case side3 => exact Kd.C_below HR419_1.out (by repeat first | exact gB HB | refine below_set ?_ GE416.out | refine below_set ?_ GE418.out)); (case side4 => exact HC419_1.out); rintro e w24 ⟨rfl, hb⟩; replace BK416 := gA (blk_below (g := gb416) (o := .cells #[.slice A0_0 l0_0.length c0_0, .slice (some ad417) l0_1.length c0_1] 25 (0, 0)) (by refine blk_far ?_ NB416_418.out _; refine blk_far ?_ NB416_418.out _; refine blk_far ?_ NB416_418.out _; exact gK BK416) hb); replace BK418 := gA (blk_below (g := gb418) (o := .cells #[.int .i64 ((rd_T40 l0_1 x3_1).f0), .int .i64 ((rd_T40 l0_1 x3_1).f1), .slice (some ad419) ((rd_T40 l0_1 x3_1).f2).length c417_2] 40 (0, 0)) (by refine blk_put (cs := #[.int .i64 ((rd_T40 l0_1 x3_1).f0), .int .i64 ((rd_T40 l0_1 x3_1).f1), .slice none 0 0]) ?_ 2 _ rfl; refine blk_put (cs := #[.int .i64 ((rd_T40 l0_1 x3_1).f0), .int .i64 0, .slice none 0 0]) ?_ 1 _ rfl; refine blk_put (cs := #[.int .i64 0, .int .i64 0, .slice none 0 0]) ?_ 0 _ rfl; exact gK BK418) hb); replace HB := gA (below_step (by repeat first | exact gB HB | refine below_set ?_ GE416.out | refine below_set ?_ GE418.out) hb); (try clear hb)))
        go_roundg k1
        case measure => have := HK1.out; omega
        case rel => exact ⟨(wrap64 (x3_1 + 1)), (rfl), H', ⟨by have := HK1.out; omega⟩, ⟨gK BK416⟩, ⟨by repeat first | exact gB HB | refine below_set ?_ GE416.out | refine below_set ?_ GE418.out⟩⟩
      ·rw [if_neg c11] at H
       have c11b0 : ((((rd_T40 l0_1 x3_1).f2).length : Int) == 1) = false := beq_eq_false_iff_ne.mpr c11
       have c11b1 : ((((rd_T40 l0_1 x3_1).f2).length : Int) != 1) = true := bne_iff_ne.mpr c11
       have H' := gA H
       clear H
       obtain ⟨hcz25_0, hcz25_1, hfz25_0, hfz25_1⟩ := gz2 BK416
       have p417 : 0 ≤ (x3_1 : Int) := of_decide_eq_true (by assumption)
       have q417 : x3_1 < (l0_1.length : Int) := of_decide_eq_true (by assumption)
       obtain ⟨ad417, A417_2, c417_2, e417, hx417_0, hx417_1, hx417_2, hl417_2, hi417_2⟩ := at_T40 HR0_1.out x3_1 p417 q417
       cases e417
       replace hx417_0 := (HB.out.cell (World.block_lt_of_cell? w _ hx417_0)).trans hx417_0
       replace hx417_1 := (HB.out.cell (World.block_lt_of_cell? w _ hx417_1)).trans hx417_1
       replace hx417_2 := (HB.out.cell (World.block_lt_of_cell? w _ hx417_2)).trans hx417_2
       have HR417_2 := gA hi417_2
       have HC417_2 := gA hl417_2
       clear hi417_2 hl417_2
       replace p417 := eq_true p417
       replace q417 := eq_true q417
       go_wp2_with (first | ((with_reducible refine gate_dst (N := 4) rfl ?_); (try (refine gate_guard (by rfl) ?_; dsimp only)); refine box_event ?hg (N := 4) ?hd (cs := #[.int .i64 0, .int .i64 0, .slice none 0 0]) (t := 40) ?hr ?_; (case hd => rfl); (case hg => rfl); (case hr => first | (go_simp; done) | (go_simp; rfl)); intro gb418 hg w26 hbox hb; have BK418 := gA (hbox); have GW418 := gA ((by rw [hg]; exact (below_size (by repeat first | exact gB HB | refine below_set ?_ GE416.out)) : w.heap.size ≤ gb418)); have GE418 := gA ((by rw [hg]; exact (below_size (by repeat first | exact gB HB | refine below_set ?_ GE416.out)) : w.heap.size ≤ gb418)); replace HB := gA (below_step (by repeat first | exact gB HB | refine below_set ?_ GE416.out) hb); have NB416_418 := gA ((by rw [hg]; exact Nat.ne_of_lt (blk_lt (gK BK416)) : gb416 ≠ gb418)); have NB418_416 := gA ((by rw [hg]; exact Nat.ne_of_gt (blk_lt (gK BK416)) : gb418 ≠ gb416)); replace BK416 := gA (blk_below (gK BK416) hb); clear hb hbox hg; have hnb27 := NB418_416.out; have hnc27 := NB416_418.out; obtain ⟨hcz28_0, hcz28_1, hcz28_2, hfz28_0, hfz28_1, hfz28_2⟩ := gz3 BK418))
       go_roundg k1
       case measure => have := HK1.out; omega
       case rel => exact ⟨(wrap64 (x3_1 + 1)), (rfl), H', ⟨by have := HK1.out; omega⟩, ⟨by refine blk_far ?_ NB416_418.out _; refine blk_far ?_ NB416_418.out _; refine blk_far ?_ NB416_418.out _; exact gK BK416⟩, ⟨by repeat first | exact gB HB | refine below_set ?_ GE416.out | refine below_set ?_ GE418.out⟩⟩
    ·rw [if_neg c5] at H
     have c5b0 : (((rd_T40 l0_1 x3_1).f0) == 0) = false := beq_eq_false_iff_ne.mpr c5
     have c5b1 : (((rd_T40 l0_1 x3_1).f0) != 0) = true := bne_iff_ne.mpr c5
     by_cases c29 : (((rd_T40 l0_1 x3_1).f2).length : Int) = 1
     ·rw [if_pos c29] at H
      have c29b0 : ((((rd_T40 l0_1 x3_1).f2).length : Int) == 1) = true := beq_iff_eq.mpr c29
      have c29b1 : ((((rd_T40 l0_1 x3_1).f2).length : Int) != 1) = false := bne_eq_false_iff_eq.mpr c29
      clear c29
      obtain ⟨c30, H⟩ := iS H
      have c30b0 := decide_eq_true c30
      have c30b1 : decide (0 < ((rd_T40 l0_1 x3_1).f2).length) = true := decide_eq_true (by omega)
      clear c30
      replace H := Option.bind_eq_some_iff.mp H
      obtain ⟨t422, A310, H⟩ := H
      replace H : (if t422 = true then (some true) else (triglyphlaw27_below.l0 k1 (wrap64 (x3_1 + 1)) l0_0 l0_1)) = some r := H
      have A31 := gA A310
      clear A310
      by_cases c32 : t422 = true
      ·subst c32
       have H1 : (some true) = some r := by rw [if_pos rfl] at H; exact H
       clear H; have H := H1; clear H1
       obtain rfl := Option.some.inj H
       obtain ⟨hcz33_0, hcz33_1, hfz33_0, hfz33_1⟩ := gz2 BK416
       have p417 : 0 ≤ (x3_1 : Int) := of_decide_eq_true (by assumption)
       have q417 : x3_1 < (l0_1.length : Int) := of_decide_eq_true (by assumption)
       obtain ⟨ad417, A417_2, c417_2, e417, hx417_0, hx417_1, hx417_2, hl417_2, hi417_2⟩ := at_T40 HR0_1.out x3_1 p417 q417
       cases e417
       replace hx417_0 := (HB.out.cell (World.block_lt_of_cell? w _ hx417_0)).trans hx417_0
       replace hx417_1 := (HB.out.cell (World.block_lt_of_cell? w _ hx417_1)).trans hx417_1
       replace hx417_2 := (HB.out.cell (World.block_lt_of_cell? w _ hx417_2)).trans hx417_2
       have HR417_2 := gA hi417_2
       have HC417_2 := gA hl417_2
       clear hi417_2 hl417_2
       replace p417 := eq_true p417
       replace q417 := eq_true q417
       go_wp2_with (first | ((with_reducible refine gate_dst (N := 4) rfl ?_); (try (refine gate_guard (by rfl) ?_; dsimp only)); refine box_event ?hg (N := 4) ?hd (cs := #[.int .i64 0, .int .i64 0, .slice none 0 0]) (t := 40) ?hr ?_; (case hd => rfl); (case hg => rfl); (case hr => first | (go_simp; done) | (go_simp; rfl)); intro gb418 hg w34 hbox hb; have BK418 := gA (hbox); have GW418 := gA ((by rw [hg]; exact (below_size (by repeat first | exact gB HB | refine below_set ?_ GE416.out)) : w.heap.size ≤ gb418)); have GE418 := gA ((by rw [hg]; exact (below_size (by repeat first | exact gB HB | refine below_set ?_ GE416.out)) : w.heap.size ≤ gb418)); replace HB := gA (below_step (by repeat first | exact gB HB | refine below_set ?_ GE416.out) hb); have NB416_418 := gA ((by rw [hg]; exact Nat.ne_of_lt (blk_lt (gK BK416)) : gb416 ≠ gb418)); have NB418_416 := gA ((by rw [hg]; exact Nat.ne_of_gt (blk_lt (gK BK416)) : gb418 ≠ gb416)); replace BK416 := gA (blk_below (gK BK416) hb); clear hb hbox hg; have hnb35 := NB418_416.out; have hnc35 := NB416_418.out; obtain ⟨hcz36_0, hcz36_1, hcz36_2, hfz36_0, hfz36_1, hfz36_2⟩ := gz3 BK418; have p421 : 0 ≤ (0 : Int) := (by omega); have q421 : 0 < (((rd_T40 l0_1 x3_1).f2).length : Int) := of_decide_eq_true (by assumption); obtain ⟨ad421, A421_0, c421_0, A421_1, c421_1, e421, hx421_0, hx421_1, hl421_0, hi421_0, hl421_1, hi421_1⟩ := at_T25 HR417_2.out 0 p421 q421; cases e421; have qi421 : (0 < ((rd_T40 l0_1 x3_1).f2).length) = True := eq_true (by omega); (try rw [show ((0 : Int)).toNat = 0 from rfl] at hx421_0); (try rw [show 0 * 2 = 0 from rfl] at hx421_0); (try rw [Addr.add_zero'] at hx421_0); (try rw [show ((0 : Int)).toNat = 0 from rfl] at hx421_1); (try rw [show 0 * 2 = 0 from rfl] at hx421_1); (try rw [Addr.add_zero'] at hx421_1); have hn421_0 : ad421.block ≠ gb418 := Nat.ne_of_lt (Nat.lt_of_lt_of_le (by have := World.block_lt_of_cell? _ _ hx421_0; first | rwa [add_block] at this | exact this) GW418.out); have hn421_1 : ad421.block ≠ gb418 := Nat.ne_of_lt (Nat.lt_of_lt_of_le (by have := World.block_lt_of_cell? _ _ hx421_0; first | rwa [add_block] at this | exact this) GW418.out); have hn421_2 : ad421.block ≠ gb418 := Nat.ne_of_lt (Nat.lt_of_lt_of_le (by have := World.block_lt_of_cell? _ _ hx421_0; first | rwa [add_block] at this | exact this) GW418.out); replace hx421_0 := (HB.out.cell (World.block_lt_of_cell? w _ hx421_0)).trans hx421_0; replace hx421_1 := (HB.out.cell (World.block_lt_of_cell? w _ hx421_1)).trans hx421_1; have HR421_0 := gA hi421_0; have HC421_0 := gA hl421_0; clear hi421_0 hl421_0; have HR421_1 := gA hi421_1; have HC421_1 := gA hl421_1; clear hi421_1 hl421_1; replace hx421_0 := (cell_far (p := ⟨gb418, 0, none⟩) (by first | (rw [add_block]; exact hn421_0) | (show (Addr.add _ _).block ≠ _; rw [add_block]; exact hn421_0) | exact hn421_0) (.int .i64 ((rd_T40 l0_1 x3_1).f0))).trans hx421_0; replace hx421_1 := (cell_far (p := ⟨gb418, 0, none⟩) (by first | (rw [add_block]; exact hn421_0) | (show (Addr.add _ _).block ≠ _; rw [add_block]; exact hn421_0) | exact hn421_0) (.int .i64 ((rd_T40 l0_1 x3_1).f0))).trans hx421_1; replace hx421_0 := (cell_far (p := ⟨gb418, 1, none⟩) (by first | (rw [add_block]; exact hn421_1) | (show (Addr.add _ _).block ≠ _; rw [add_block]; exact hn421_1) | exact hn421_1) (.int .i64 ((rd_T40 l0_1 x3_1).f1))).trans hx421_0; replace hx421_1 := (cell_far (p := ⟨gb418, 1, none⟩) (by first | (rw [add_block]; exact hn421_1) | (show (Addr.add _ _).block ≠ _; rw [add_block]; exact hn421_1) | exact hn421_1) (.int .i64 ((rd_T40 l0_1 x3_1).f1))).trans hx421_1; replace hx421_0 := (cell_far (p := ⟨gb418, 2, none⟩) (by first | (rw [add_block]; exact hn421_2) | (show (Addr.add _ _).block ≠ _; rw [add_block]; exact hn421_2) | exact hn421_2) (.slice (some ad421) ((rd_T40 l0_1 x3_1).f2).length c417_2)).trans hx421_0; replace hx421_1 := (cell_far (p := ⟨gb418, 2, none⟩) (by first | (rw [add_block]; exact hn421_2) | (show (Addr.add _ _).block ≠ _; rw [add_block]; exact hn421_2) | exact hn421_2) (.slice (some ad421) ((rd_T40 l0_1 x3_1).f2).length c417_2)).trans hx421_1; clear hn421_0 hn421_1 hn421_2; replace p421 := eq_true p421; replace q421 := eq_true q421) | (go_at_call 12; (with_reducible refine (ih k1 (by have := HK1.out; omega) _ _ ((rd_T25 ((rd_T40 l0_1 x3_1).f2) 0).f0) _ _ ((rd_T25 ((rd_T40 l0_1 x3_1).f2) 0).f1) true _ ?side1 ?side2 ?side3 ?side4 A31.out).mono ?_); (case side1 => exact Kd.C_below HR421_0.out (by repeat first | exact gB HB | refine below_set ?_ GE416.out | refine below_set ?_ GE418.out)); (case side2 => exact HC421_0.out); (case side3 => exact Kd.C_below HR421_1.out (by repeat first | exact gB HB | refine below_set ?_ GE416.out | refine below_set ?_ GE418.out)); (case side4 => exact HC421_1.out); rintro e w37 ⟨rfl, hb⟩; replace BK416 := gA (blk_below (g := gb416) (o := .cells #[.slice A0_0 l0_0.length c0_0, .slice (some ad417) l0_1.length c0_1] 25 (0, 0)) (by refine blk_far ?_ NB416_418.out _; refine blk_far ?_ NB416_418.out _; refine blk_far ?_ NB416_418.out _; exact gK BK416) hb); replace BK418 := gA (blk_below (g := gb418) (o := .cells #[.int .i64 ((rd_T40 l0_1 x3_1).f0), .int .i64 ((rd_T40 l0_1 x3_1).f1), .slice (some ad421) ((rd_T40 l0_1 x3_1).f2).length c417_2] 40 (0, 0)) (by refine blk_put (cs := #[.int .i64 ((rd_T40 l0_1 x3_1).f0), .int .i64 ((rd_T40 l0_1 x3_1).f1), .slice none 0 0]) ?_ 2 _ rfl; refine blk_put (cs := #[.int .i64 ((rd_T40 l0_1 x3_1).f0), .int .i64 0, .slice none 0 0]) ?_ 1 _ rfl; refine blk_put (cs := #[.int .i64 0, .int .i64 0, .slice none 0 0]) ?_ 0 _ rfl; exact gK BK418) hb); replace HB := gA (below_step (by repeat first | exact gB HB | refine below_set ?_ GE416.out | refine below_set ?_ GE418.out) hb); (try clear hb)))
       go_ret
       exact ⟨rfl, by repeat first | exact gB HB | refine below_set ?_ GE416.out | refine below_set ?_ GE418.out⟩
      ·replace c32 := Bool.eq_false_iff.mpr c32
       subst c32
       have H1 : (triglyphlaw27_below.l0 k1 (wrap64 (x3_1 + 1)) l0_0 l0_1) = some r := by rw [if_neg (show ¬ (false = true) by decide)] at H; exact H
       clear H; have H := H1; clear H1
       have H' := gA H
       clear H
       obtain ⟨hcz38_0, hcz38_1, hfz38_0, hfz38_1⟩ := gz2 BK416
       have p417 : 0 ≤ (x3_1 : Int) := of_decide_eq_true (by assumption)
       have q417 : x3_1 < (l0_1.length : Int) := of_decide_eq_true (by assumption)
       obtain ⟨ad417, A417_2, c417_2, e417, hx417_0, hx417_1, hx417_2, hl417_2, hi417_2⟩ := at_T40 HR0_1.out x3_1 p417 q417
       cases e417
       replace hx417_0 := (HB.out.cell (World.block_lt_of_cell? w _ hx417_0)).trans hx417_0
       replace hx417_1 := (HB.out.cell (World.block_lt_of_cell? w _ hx417_1)).trans hx417_1
       replace hx417_2 := (HB.out.cell (World.block_lt_of_cell? w _ hx417_2)).trans hx417_2
       have HR417_2 := gA hi417_2
       have HC417_2 := gA hl417_2
       clear hi417_2 hl417_2
       replace p417 := eq_true p417
       replace q417 := eq_true q417
       go_wp2_with (first | ((with_reducible refine gate_dst (N := 4) rfl ?_); (try (refine gate_guard (by rfl) ?_; dsimp only)); refine box_event ?hg (N := 4) ?hd (cs := #[.int .i64 0, .int .i64 0, .slice none 0 0]) (t := 40) ?hr ?_; (case hd => rfl); (case hg => rfl); (case hr => first | (go_simp; done) | (go_simp; rfl)); intro gb418 hg w39 hbox hb; have BK418 := gA (hbox); have GW418 := gA ((by rw [hg]; exact (below_size (by repeat first | exact gB HB | refine below_set ?_ GE416.out)) : w.heap.size ≤ gb418)); have GE418 := gA ((by rw [hg]; exact (below_size (by repeat first | exact gB HB | refine below_set ?_ GE416.out)) : w.heap.size ≤ gb418)); replace HB := gA (below_step (by repeat first | exact gB HB | refine below_set ?_ GE416.out) hb); have NB416_418 := gA ((by rw [hg]; exact Nat.ne_of_lt (blk_lt (gK BK416)) : gb416 ≠ gb418)); have NB418_416 := gA ((by rw [hg]; exact Nat.ne_of_gt (blk_lt (gK BK416)) : gb418 ≠ gb416)); replace BK416 := gA (blk_below (gK BK416) hb); clear hb hbox hg; have hnb40 := NB418_416.out; have hnc40 := NB416_418.out; obtain ⟨hcz41_0, hcz41_1, hcz41_2, hfz41_0, hfz41_1, hfz41_2⟩ := gz3 BK418; have p421 : 0 ≤ (0 : Int) := (by omega); have q421 : 0 < (((rd_T40 l0_1 x3_1).f2).length : Int) := of_decide_eq_true (by assumption); obtain ⟨ad421, A421_0, c421_0, A421_1, c421_1, e421, hx421_0, hx421_1, hl421_0, hi421_0, hl421_1, hi421_1⟩ := at_T25 HR417_2.out 0 p421 q421; cases e421; have qi421 : (0 < ((rd_T40 l0_1 x3_1).f2).length) = True := eq_true (by omega); (try rw [show ((0 : Int)).toNat = 0 from rfl] at hx421_0); (try rw [show 0 * 2 = 0 from rfl] at hx421_0); (try rw [Addr.add_zero'] at hx421_0); (try rw [show ((0 : Int)).toNat = 0 from rfl] at hx421_1); (try rw [show 0 * 2 = 0 from rfl] at hx421_1); (try rw [Addr.add_zero'] at hx421_1); have hn421_0 : ad421.block ≠ gb418 := Nat.ne_of_lt (Nat.lt_of_lt_of_le (by have := World.block_lt_of_cell? _ _ hx421_0; first | rwa [add_block] at this | exact this) GW418.out); have hn421_1 : ad421.block ≠ gb418 := Nat.ne_of_lt (Nat.lt_of_lt_of_le (by have := World.block_lt_of_cell? _ _ hx421_0; first | rwa [add_block] at this | exact this) GW418.out); have hn421_2 : ad421.block ≠ gb418 := Nat.ne_of_lt (Nat.lt_of_lt_of_le (by have := World.block_lt_of_cell? _ _ hx421_0; first | rwa [add_block] at this | exact this) GW418.out); replace hx421_0 := (HB.out.cell (World.block_lt_of_cell? w _ hx421_0)).trans hx421_0; replace hx421_1 := (HB.out.cell (World.block_lt_of_cell? w _ hx421_1)).trans hx421_1; have HR421_0 := gA hi421_0; have HC421_0 := gA hl421_0; clear hi421_0 hl421_0; have HR421_1 := gA hi421_1; have HC421_1 := gA hl421_1; clear hi421_1 hl421_1; replace hx421_0 := (cell_far (p := ⟨gb418, 0, none⟩) (by first | (rw [add_block]; exact hn421_0) | (show (Addr.add _ _).block ≠ _; rw [add_block]; exact hn421_0) | exact hn421_0) (.int .i64 ((rd_T40 l0_1 x3_1).f0))).trans hx421_0; replace hx421_1 := (cell_far (p := ⟨gb418, 0, none⟩) (by first | (rw [add_block]; exact hn421_0) | (show (Addr.add _ _).block ≠ _; rw [add_block]; exact hn421_0) | exact hn421_0) (.int .i64 ((rd_T40 l0_1 x3_1).f0))).trans hx421_1; replace hx421_0 := (cell_far (p := ⟨gb418, 1, none⟩) (by first | (rw [add_block]; exact hn421_1) | (show (Addr.add _ _).block ≠ _; rw [add_block]; exact hn421_1) | exact hn421_1) (.int .i64 ((rd_T40 l0_1 x3_1).f1))).trans hx421_0; replace hx421_1 := (cell_far (p := ⟨gb418, 1, none⟩) (by first | (rw [add_block]; exact hn421_1) | (show (Addr.add _ _).block ≠ _; rw [add_block]; exact hn421_1) | exact hn421_1) (.int .i64 ((rd_T40 l0_1 x3_1).f1))).trans hx421_1; replace hx421_0 := (cell_far (p := ⟨gb418, 2, none⟩) (by first | (rw [add_block]; exact hn421_2) | (show (Addr.add _ _).block ≠ _; rw [add_block]; exact hn421_2) | exact hn421_2) (.slice (some ad421) ((rd_T40 l0_1 x3_1).f2).length c417_2)).trans hx421_0; replace hx421_1 := (cell_far (p := ⟨gb418, 2, none⟩) (by first | (rw [add_block]; exact hn421_2) | (show (Addr.add _ _).block ≠ _; rw [add_block]; exact hn421_2) | exact hn421_2) (.slice (some ad421) ((rd_T40 l0_1 x3_1).f2).length c417_2)).trans hx421_1; clear hn421_0 hn421_1 hn421_2; replace p421 := eq_true p421; replace q421 := eq_true q421) | (go_at_call 12; (with_reducible refine (ih k1 (by have := HK1.out; omega) _ _ ((rd_T25 ((rd_T40 l0_1 x3_1).f2) 0).f0) _ _ ((rd_T25 ((rd_T40 l0_1 x3_1).f2) 0).f1) false _ ?side1 ?side2 ?side3 ?side4 A31.out).mono ?_); (case side1 => exact Kd.C_below HR421_0.out (by repeat first | exact gB HB | refine below_set ?_ GE416.out | refine below_set ?_ GE418.out)); (case side2 => exact HC421_0.out); (case side3 => exact Kd.C_below HR421_1.out (by repeat first | exact gB HB | refine below_set ?_ GE416.out | refine below_set ?_ GE418.out)); (case side4 => exact HC421_1.out); rintro e w42 ⟨rfl, hb⟩; replace BK416 := gA (blk_below (g := gb416) (o := .cells #[.slice A0_0 l0_0.length c0_0, .slice (some ad417) l0_1.length c0_1] 25 (0, 0)) (by refine blk_far ?_ NB416_418.out _; refine blk_far ?_ NB416_418.out _; refine blk_far ?_ NB416_418.out _; exact gK BK416) hb); replace BK418 := gA (blk_below (g := gb418) (o := .cells #[.int .i64 ((rd_T40 l0_1 x3_1).f0), .int .i64 ((rd_T40 l0_1 x3_1).f1), .slice (some ad421) ((rd_T40 l0_1 x3_1).f2).length c417_2] 40 (0, 0)) (by refine blk_put (cs := #[.int .i64 ((rd_T40 l0_1 x3_1).f0), .int .i64 ((rd_T40 l0_1 x3_1).f1), .slice none 0 0]) ?_ 2 _ rfl; refine blk_put (cs := #[.int .i64 ((rd_T40 l0_1 x3_1).f0), .int .i64 0, .slice none 0 0]) ?_ 1 _ rfl; refine blk_put (cs := #[.int .i64 0, .int .i64 0, .slice none 0 0]) ?_ 0 _ rfl; exact gK BK418) hb); replace HB := gA (below_step (by repeat first | exact gB HB | refine below_set ?_ GE416.out | refine below_set ?_ GE418.out) hb); (try clear hb)))
       go_roundg k1
       case measure => have := HK1.out; omega
       case rel => exact ⟨(wrap64 (x3_1 + 1)), (rfl), H', ⟨by have := HK1.out; omega⟩, ⟨gK BK416⟩, ⟨by repeat first | exact gB HB | refine below_set ?_ GE416.out | refine below_set ?_ GE418.out⟩⟩
     ·rw [if_neg c29] at H
      have c29b0 : ((((rd_T40 l0_1 x3_1).f2).length : Int) == 1) = false := beq_eq_false_iff_ne.mpr c29
      have c29b1 : ((((rd_T40 l0_1 x3_1).f2).length : Int) != 1) = true := bne_iff_ne.mpr c29
      have H' := gA H
      clear H
      obtain ⟨hcz43_0, hcz43_1, hfz43_0, hfz43_1⟩ := gz2 BK416
      have p417 : 0 ≤ (x3_1 : Int) := of_decide_eq_true (by assumption)
      have q417 : x3_1 < (l0_1.length : Int) := of_decide_eq_true (by assumption)
      obtain ⟨ad417, A417_2, c417_2, e417, hx417_0, hx417_1, hx417_2, hl417_2, hi417_2⟩ := at_T40 HR0_1.out x3_1 p417 q417
      cases e417
      replace hx417_0 := (HB.out.cell (World.block_lt_of_cell? w _ hx417_0)).trans hx417_0
      replace hx417_1 := (HB.out.cell (World.block_lt_of_cell? w _ hx417_1)).trans hx417_1
      replace hx417_2 := (HB.out.cell (World.block_lt_of_cell? w _ hx417_2)).trans hx417_2
      have HR417_2 := gA hi417_2
      have HC417_2 := gA hl417_2
      clear hi417_2 hl417_2
      replace p417 := eq_true p417
      replace q417 := eq_true q417
      go_wp2_with (first | ((with_reducible refine gate_dst (N := 4) rfl ?_); (try (refine gate_guard (by rfl) ?_; dsimp only)); refine box_event ?hg (N := 4) ?hd (cs := #[.int .i64 0, .int .i64 0, .slice none 0 0]) (t := 40) ?hr ?_; (case hd => rfl); (case hg => rfl); (case hr => first | (go_simp; done) | (go_simp; rfl)); intro gb418 hg w44 hbox hb; have BK418 := gA (hbox); have GW418 := gA ((by rw [hg]; exact (below_size (by repeat first | exact gB HB | refine below_set ?_ GE416.out)) : w.heap.size ≤ gb418)); have GE418 := gA ((by rw [hg]; exact (below_size (by repeat first | exact gB HB | refine below_set ?_ GE416.out)) : w.heap.size ≤ gb418)); replace HB := gA (below_step (by repeat first | exact gB HB | refine below_set ?_ GE416.out) hb); have NB416_418 := gA ((by rw [hg]; exact Nat.ne_of_lt (blk_lt (gK BK416)) : gb416 ≠ gb418)); have NB418_416 := gA ((by rw [hg]; exact Nat.ne_of_gt (blk_lt (gK BK416)) : gb418 ≠ gb416)); replace BK416 := gA (blk_below (gK BK416) hb); clear hb hbox hg; have hnb45 := NB418_416.out; have hnc45 := NB416_418.out; obtain ⟨hcz46_0, hcz46_1, hcz46_2, hfz46_0, hfz46_1, hfz46_2⟩ := gz3 BK418))
      go_roundg k1
      case measure => have := HK1.out; omega
      case rel => exact ⟨(wrap64 (x3_1 + 1)), (rfl), H', ⟨by have := HK1.out; omega⟩, ⟨by refine blk_far ?_ NB416_418.out _; refine blk_far ?_ NB416_418.out _; refine blk_far ?_ NB416_418.out _; exact gK BK416⟩, ⟨by repeat first | exact gB HB | refine below_set ?_ GE416.out | refine below_set ?_ GE418.out⟩⟩
   ·rw [if_neg c3] at H
    have c3b0 := decide_eq_false c3
    clear c3
    obtain rfl := Option.some.inj H
    obtain ⟨hcz47_0, hcz47_1, hfz47_0, hfz47_1⟩ := gz2 BK416
    go_wp2
    go_ret
    exact ⟨rfl, by repeat first | exact gB HB | refine below_set ?_ GE416.out⟩
def triglyphlaw27_ShowAlike.j0 : Nat → Bool → List Int → List (S40) → Option (Bool)
 | 0, _, _, _ => none
 | k + 1, x20, x424000, x424001 => if x20 = true then ((triglyphlaw27_works.f k).bind fun t427 => (some t427)) else ((show_Show.f k 0 x424000 x424001).bind fun bt428 => ((show_Show.f k 1 x424000 x424001).bind fun bt430 => ((show_Show.f k 2 x424000 x424001).bind fun bt432 => (if bt428.2 = 0 then (if bt430.2 = 0 then (if bt432.2 = 0 then (if bt428.1.toList = bt430.1.toList then (if bt430.1.toList = bt432.1.toList then ((triglyphlaw27_works.f k).bind fun t434 => (some t434)) else (none)) else (none)) else (none)) else (none)) else (none)))))
def triglyphlaw27_ShowAlike.f (k : Nat) (l0_0 : List Int) (l0_1 : List (S40)) : Option (Bool) := (triglyphlaw27_light.f k l0_0 l0_1).bind fun t424 => (if t424 = true then ((triglyphref03_Check.f k l0_0 l0_1).bind fun t425 => (if t425 = 0 then ((triglyphlaw27_below.f k l0_0 l0_1).bind fun t426 => (triglyphlaw27_ShowAlike.j0 k t426 l0_0 l0_1)) else (triglyphlaw27_ShowAlike.j0 k true l0_0 l0_1))) else (triglyphlaw27_ShowAlike.j0 k true l0_0 l0_1))
theorem triglyphlaw27_ShowAlike.mono_l : ∀ k, (∀ y0 y1 y2, LeO (triglyphlaw27_ShowAlike.j0 k y0 y1 y2) (triglyphlaw27_ShowAlike.j0 (k + 1) y0 y1 y2))
 | 0 => fun _ _ _ r h => by simp [triglyphlaw27_ShowAlike.j0] at h
 | k + 1 => by
  have ih0 := triglyphlaw27_ShowAlike.mono_l k
  ·intro y0 y1 y2
   unfold triglyphlaw27_ShowAlike.j0
   repeat' first
   | (with_reducible exact ih0 _ _ _)
   | (with_reducible exact show_Show.mono _ _ _ _)
   | (with_reducible exact triglyphlaw27_below.mono _ _ _)
   | (with_reducible exact triglyphlaw27_light.mono _ _ _)
   | (with_reducible exact triglyphlaw27_works.mono _)
   | (with_reducible exact triglyphref03_Check.mono _ _ _)
   | (with_reducible exact LeO.refl _)
   | (with_reducible exact LeO.none _)
   | (with_reducible refine LeO.ite ?_ ?_)
   | (with_reducible refine LeO.bind ?_ (fun _ => ?_))

   | exact show_Show.mono _ _ _ _
   | exact triglyphlaw27_below.mono _ _ _
   | exact triglyphlaw27_light.mono _ _ _
   | exact triglyphlaw27_works.mono _
   | exact triglyphref03_Check.mono _ _ _
theorem triglyphlaw27_ShowAlike.mono : ∀ a0 a1 k, LeO (triglyphlaw27_ShowAlike.f k a0 a1) (triglyphlaw27_ShowAlike.f (k + 1) a0 a1) := by
 intro a0 a1 k
 have ih0 := triglyphlaw27_ShowAlike.mono_l k
 unfold triglyphlaw27_ShowAlike.f
 repeat' first
   | (with_reducible exact ih0 _ _ _)
   | (with_reducible exact show_Show.mono _ _ _ _)
   | (with_reducible exact triglyphlaw27_below.mono _ _ _)
   | (with_reducible exact triglyphlaw27_light.mono _ _ _)
   | (with_reducible exact triglyphlaw27_works.mono _)
   | (with_reducible exact triglyphref03_Check.mono _ _ _)
   | (with_reducible exact LeO.refl _)
   | (with_reducible exact LeO.none _)
   | (with_reducible refine LeO.ite ?_ ?_)
   | (with_reducible refine LeO.bind ?_ (fun _ => ?_))

   | exact show_Show.mono _ _ _ _
   | exact triglyphlaw27_below.mono _ _ _
   | exact triglyphlaw27_light.mono _ _ _
   | exact triglyphlaw27_works.mono _
   | exact triglyphref03_Check.mono _ _ _
set_option maxHeartbeats 8000000 in
set_option maxRecDepth 100000 in
theorem triglyphlaw27_ShowAlike.calls (k : Nat) (A0_0 : Option Addr) (c0_0 : Nat) (l0_0 : List Int) (A0_1 : Option Addr) (c0_1 : Nat) (l0_1 : List (S40)) (r : Bool) (w : World) (hr0_0 : Kd.C (Kd.int .i64) w A0_0 l0_0.length l0_0) (hc0_0 : l0_0.length ≤ c0_0) (hr0_1 : Kd.C k40 w A0_1 l0_1.length l0_1) (hc0_1 : l0_1.length ≤ c0_1) (h : triglyphlaw27_ShowAlike.f k l0_0 l0_1 = some r) :
  Calls Try.prog 5 #[.agg #[.slice A0_0 l0_0.length c0_0, .slice A0_1 l0_1.length c0_1]] w fun e w' => e = .returned (.bool r) ∧ Below w.heap.size w w' := by
 have hu25 := Try.underlying25
 have HR0_0 := gA hr0_0
 have HC0_0 := gA hc0_0
 clear hr0_0 hc0_0
 have HR0_1 := gA hr0_1
 have HC0_1 := gA hc0_1
 clear hr0_1 hc0_1
 have HB := gA (Below.refl w.heap.size w)
 have H : ((triglyphlaw27_light.f k l0_0 l0_1).bind fun t424 => (if t424 = true then ((triglyphref03_Check.f k l0_0 l0_1).bind fun t425 => (if t425 = 0 then ((triglyphlaw27_below.f k l0_0 l0_1).bind fun t426 => (triglyphlaw27_ShowAlike.j0 k t426 l0_0 l0_1)) else (triglyphlaw27_ShowAlike.j0 k true l0_0 l0_1))) else (triglyphlaw27_ShowAlike.j0 k true l0_0 l0_1))) = some r := h
 clear h
 have HC2 := gA H
 clear H
 go_enter Try.func5, Try.ntmps5
 go_upto_region 1 with (first | ((with_reducible refine gate_dst (N := 1) rfl ?_); refine box_event ?hg (N := 1) ?hd (cs := #[.slice A0_0 l0_0.length c0_0, .slice A0_1 l0_1.length c0_1]) (t := 25) ?hr ?_; (case hd => rfl); (case hg => rfl); (case hr => first | (go_simp; done) | (go_simp; rfl)); intro gb423 hg w3 hbox hb; have BK423 := gA (hbox); have GW423 := gA ((by rw [hg]; exact (below_size (gB HB)) : w.heap.size ≤ gb423)); have GE423 := gA ((by rw [hg]; exact (below_size (gB HB)) : w.heap.size ≤ gb423)); replace HB := gA (below_step (gB HB) hb); clear hb hbox hg))
 (try simp only [Act.put, List.setIfInBounds_toArray, List.set_cons_zero, List.set_cons_succ])
 go_cut [20] (fun v20 wc => ∃ (kq : Nat) (x20_1 : Bool), v20 = .bool x20_1 ∧ Aside0 (triglyphlaw27_ShowAlike.j0 kq x20_1 l0_0 l0_1 = some r) ∧ Aside0 (kq ≤ k) ∧ Aside0 (wc.heap[gb423]? = some (.cells #[(.slice A0_0 l0_0.length c0_0), (.slice A0_1 l0_1.length c0_1)] 25 (0, 0))) ∧ Aside0 (Below w.heap.size w wc))
 case first =>
  have H := HC2.out; clear HC2
  replace H := Option.bind_eq_some_iff.mp H
  obtain ⟨t424, A40, H⟩ := H
  replace H : (if t424 = true then ((triglyphref03_Check.f k l0_0 l0_1).bind fun t425 => (if t425 = 0 then ((triglyphlaw27_below.f k l0_0 l0_1).bind fun t426 => (triglyphlaw27_ShowAlike.j0 k t426 l0_0 l0_1)) else (triglyphlaw27_ShowAlike.j0 k true l0_0 l0_1))) else (triglyphlaw27_ShowAlike.j0 k true l0_0 l0_1)) = some r := H
  have A4 := gA A40
  clear A40
  by_cases c5 : t424 = true
  ·subst c5
   have H1 : ((triglyphref03_Check.f k l0_0 l0_1).bind fun t425 => (if t425 = 0 then ((triglyphlaw27_below.f k l0_0 l0_1).bind fun t426 => (triglyphlaw27_ShowAlike.j0 k t426 l0_0 l0_1)) else (triglyphlaw27_ShowAlike.j0 k true l0_0 l0_1))) = some r := by rw [if_pos rfl] at H; exact H
   clear H; have H := H1; clear H1
   replace H := Option.bind_eq_some_iff.mp H
   obtain ⟨t425, A60, H⟩ := H
   replace H : (if t425 = 0 then ((triglyphlaw27_below.f k l0_0 l0_1).bind fun t426 => (triglyphlaw27_ShowAlike.j0 k t426 l0_0 l0_1)) else (triglyphlaw27_ShowAlike.j0 k true l0_0 l0_1)) = some r := H
   have A6 := gA A60
   clear A60
   by_cases c7 : t425 = 0
   ·rw [if_pos c7] at H
    have c7b0 : (t425 == 0) = true := beq_iff_eq.mpr c7
    have c7b1 : (t425 != 0) = false := bne_eq_false_iff_eq.mpr c7
    clear c7
    (first | rw [c7b0] | rw [c7b1] | (simp only [i64_w, i32_w]; rw [c7b0]) | skip)
    replace H := Option.bind_eq_some_iff.mp H
    obtain ⟨t426, A80, H⟩ := H
    replace H : (triglyphlaw27_ShowAlike.j0 k t426 l0_0 l0_1) = some r := H
    have A8 := gA A80
    clear A80
    have H' := gA H
    clear H
    obtain ⟨hcz9_0, hcz9_1, hfz9_0, hfz9_1⟩ := gz2 BK423
    go_wp2_with (first | ((with_reducible refine gate_callee (f := 6) rfl ?_); refine goesL_ (some 10) rfl rfl Try.func6 (by kernel_rfl) rfl #[.agg #[.slice A0_0 l0_0.length c0_0, .slice A0_1 l0_1.length c0_1]] rfl (by (try simp only [List.map_toArray, List.map_cons, List.map_nil]); first | done | rfl | (simp only [List.length_drop, List.length_take]; rfl)) ?_; (with_reducible refine (triglyphlaw27_light.calls k _ _ l0_0 _ _ l0_1 true _ ?side1 ?side2 ?side3 ?side4 A4.out).mono ?_); (case side1 => exact gC HR0_0 HB); (case side2 => exact HC0_0.out); (case side3 => exact gC HR0_1 HB); (case side4 => exact HC0_1.out); rintro e w10 ⟨rfl, hb⟩; refine ⟨_, rfl, ?_⟩; replace BK423 := gA (blk_below (gK BK423) hb); replace HB := gA (below_step (gB HB) hb); (try clear hb); obtain ⟨hcz11_0, hcz11_1, hfz11_0, hfz11_1⟩ := gz2 BK423) | (go_at_call 11; (with_reducible refine (triglyphref03_Check.calls k _ _ l0_0 _ _ l0_1 t425 _ ?side1 ?side2 ?side3 ?side4 A6.out).mono ?_); (case side1 => exact gC HR0_0 HB); (case side2 => exact HC0_0.out); (case side3 => exact gC HR0_1 HB); (case side4 => exact HC0_1.out); rintro e w12 ⟨rfl, hb⟩; replace BK423 := gA (blk_below (gK BK423) hb); replace HB := gA (below_step (gB HB) hb); (try clear hb); obtain ⟨hcz13_0, hcz13_1, hfz13_0, hfz13_1⟩ := gz2 BK423) | (go_at_call 12; (with_reducible refine (triglyphlaw27_below.calls k _ _ l0_0 _ _ l0_1 t426 _ ?side1 ?side2 ?side3 ?side4 A8.out).mono ?_); (case side1 => exact gC HR0_0 HB); (case side2 => exact HC0_0.out); (case side3 => exact gC HR0_1 HB); (case side4 => exact HC0_1.out); rintro e w14 ⟨rfl, hb⟩; replace BK423 := gA (blk_below (gK BK423) hb); replace HB := gA (below_step (gB HB) hb); (try clear hb)))
    all_goals (go_meet; (case rel => exact ⟨_, (t426), (by first | rfl | (simp; done) | (simp [*]; done) | (exfalso; simp_all; done) | (exfalso; simp_all; omega)), H', ⟨by first | omega | exact Nat.le_refl _⟩, ⟨gK BK423⟩, ⟨gB HB⟩⟩))
   ·rw [if_neg c7] at H
    have c7b0 : (t425 == 0) = false := beq_eq_false_iff_ne.mpr c7
    have c7b1 : (t425 != 0) = true := bne_iff_ne.mpr c7
    (first | rw [c7b0] | rw [c7b1] | (simp only [i64_w, i32_w]; rw [c7b0]) | skip)
    have H' := gA H
    clear H
    obtain ⟨hcz15_0, hcz15_1, hfz15_0, hfz15_1⟩ := gz2 BK423
    go_wp2_with (first | ((with_reducible refine gate_callee (f := 6) rfl ?_); refine goesL_ (some 10) rfl rfl Try.func6 (by kernel_rfl) rfl #[.agg #[.slice A0_0 l0_0.length c0_0, .slice A0_1 l0_1.length c0_1]] rfl (by (try simp only [List.map_toArray, List.map_cons, List.map_nil]); first | done | rfl | (simp only [List.length_drop, List.length_take]; rfl)) ?_; (with_reducible refine (triglyphlaw27_light.calls k _ _ l0_0 _ _ l0_1 true _ ?side1 ?side2 ?side3 ?side4 A4.out).mono ?_); (case side1 => exact gC HR0_0 HB); (case side2 => exact HC0_0.out); (case side3 => exact gC HR0_1 HB); (case side4 => exact HC0_1.out); rintro e w16 ⟨rfl, hb⟩; refine ⟨_, rfl, ?_⟩; replace BK423 := gA (blk_below (gK BK423) hb); replace HB := gA (below_step (gB HB) hb); (try clear hb); obtain ⟨hcz17_0, hcz17_1, hfz17_0, hfz17_1⟩ := gz2 BK423) | (go_at_call 11; (with_reducible refine (triglyphref03_Check.calls k _ _ l0_0 _ _ l0_1 t425 _ ?side1 ?side2 ?side3 ?side4 A6.out).mono ?_); (case side1 => exact gC HR0_0 HB); (case side2 => exact HC0_0.out); (case side3 => exact gC HR0_1 HB); (case side4 => exact HC0_1.out); rintro e w18 ⟨rfl, hb⟩; replace BK423 := gA (blk_below (gK BK423) hb); replace HB := gA (below_step (gB HB) hb); (try clear hb)))
    all_goals (go_meet; (case rel => exact ⟨_, (true), (by first | rfl | (simp; done) | (simp [*]; done) | (exfalso; simp_all; done) | (exfalso; simp_all; omega)), H', ⟨by first | omega | exact Nat.le_refl _⟩, ⟨gK BK423⟩, ⟨gB HB⟩⟩))
  ·replace c5 := Bool.eq_false_iff.mpr c5
   subst c5
   have H1 : (triglyphlaw27_ShowAlike.j0 k true l0_0 l0_1) = some r := by rw [if_neg (show ¬ (false = true) by decide)] at H; exact H
   clear H; have H := H1; clear H1
   have H' := gA H
   clear H
   obtain ⟨hcz19_0, hcz19_1, hfz19_0, hfz19_1⟩ := gz2 BK423
   go_wp2_with (first | ((with_reducible refine gate_callee (f := 6) rfl ?_); refine goesL_ (some 10) rfl rfl Try.func6 (by kernel_rfl) rfl #[.agg #[.slice A0_0 l0_0.length c0_0, .slice A0_1 l0_1.length c0_1]] rfl (by (try simp only [List.map_toArray, List.map_cons, List.map_nil]); first | done | rfl | (simp only [List.length_drop, List.length_take]; rfl)) ?_; (with_reducible refine (triglyphlaw27_light.calls k _ _ l0_0 _ _ l0_1 false _ ?side1 ?side2 ?side3 ?side4 A4.out).mono ?_); (case side1 => exact gC HR0_0 HB); (case side2 => exact HC0_0.out); (case side3 => exact gC HR0_1 HB); (case side4 => exact HC0_1.out); rintro e w20 ⟨rfl, hb⟩; refine ⟨_, rfl, ?_⟩; replace BK423 := gA (blk_below (gK BK423) hb); replace HB := gA (below_step (gB HB) hb); (try clear hb)))
   all_goals (go_meet; (case rel => exact ⟨_, (true), (by first | rfl | (simp; done) | (simp [*]; done) | (exfalso; simp_all; done) | (exfalso; simp_all; omega)), H', ⟨by first | omega | exact Nat.le_refl _⟩, ⟨gK BK423⟩, ⟨gB HB⟩⟩))
 case rest =>
  clear HC2
  try clear p2
  try clear c5
  try clear c6
  try clear c7
  try clear c7b0
  try clear c7b1
  try clear hcz11_0
  try clear hcz11_1
  try clear hcz13_0
  try clear hcz13_1
  try clear hcz15_0
  try clear hcz15_1
  try clear hcz17_0
  try clear hcz17_1
  try clear hcz19_0
  try clear hcz19_1
  try clear hcz9_0
  try clear hcz9_1
  try clear hfz11_0
  try clear hfz11_1
  try clear hfz13_0
  try clear hfz13_1
  try clear hfz15_0
  try clear hfz15_1
  try clear hfz17_0
  try clear hfz17_1
  try clear hfz19_0
  try clear hfz19_1
  try clear hfz9_0
  try clear hfz9_1
  obtain ⟨kq, x20_1, rfl, HA, HJ1, BK423, HB⟩ := hcut
  cases kq with
  | zero => exact absurd HA.out (by simp [triglyphlaw27_ShowAlike.j0])
  | succ kj1 =>
   have H := HA.out; clear HA
   simp only [triglyphlaw27_ShowAlike.j0] at H
   by_cases c21 : x20_1 = true
   ·subst c21
    have H1 : ((triglyphlaw27_works.f kj1).bind fun t427 => (some t427)) = some r := by rw [if_pos rfl] at H; exact H
    clear H; have H := H1; clear H1
    replace H := Option.bind_eq_some_iff.mp H
    obtain ⟨t427, A220, H⟩ := H
    replace H : (some t427) = some r := H
    have A22 := gA A220
    clear A220
    obtain rfl := Option.some.inj H
    go_wp2_with (first | ((with_reducible refine gate_callee (f := 7) rfl ?_); refine goesL_ (some 21) rfl rfl Try.func7 (by kernel_rfl) rfl #[] rfl (by (try simp only [List.map_toArray, List.map_cons, List.map_nil]); first | done | rfl | (simp only [List.length_drop, List.length_take]; rfl)) ?_; (with_reducible refine (triglyphlaw27_works.calls kj1  t427 _ A22.out).mono ?_); rintro e w23 ⟨rfl, hb⟩; refine ⟨_, rfl, ?_⟩; replace BK423 := gA (blk_below (gK BK423) hb); replace HB := gA (below_step (gB HB) hb); (try clear hb)))
    go_ret
    exact ⟨rfl, by repeat first | exact gB HB | refine below_set ?_ GE423.out⟩
   ·replace c21 := Bool.eq_false_iff.mpr c21
    subst c21
    have H1 : ((show_Show.f kj1 0 l0_0 l0_1).bind fun bt428 => ((show_Show.f kj1 1 l0_0 l0_1).bind fun bt430 => ((show_Show.f kj1 2 l0_0 l0_1).bind fun bt432 => (if bt428.2 = 0 then (if bt430.2 = 0 then (if bt432.2 = 0 then (if bt428.1.toList = bt430.1.toList then (if bt430.1.toList = bt432.1.toList then ((triglyphlaw27_works.f kj1).bind fun t434 => (some t434)) else (none)) else (none)) else (none)) else (none)) else (none))))) = some r := by rw [if_neg (show ¬ (false = true) by decide)] at H; exact H
    clear H; have H := H1; clear H1
    replace H := Option.bind_eq_some_iff.mp H
    obtain ⟨⟨t428, t429⟩, A240, H⟩ := H
    replace H : ((show_Show.f kj1 1 l0_0 l0_1).bind fun bt430 => ((show_Show.f kj1 2 l0_0 l0_1).bind fun bt432 => (if t429 = 0 then (if bt430.2 = 0 then (if bt432.2 = 0 then (if t428.toList = bt430.1.toList then (if bt430.1.toList = bt432.1.toList then ((triglyphlaw27_works.f kj1).bind fun t434 => (some t434)) else (none)) else (none)) else (none)) else (none)) else (none)))) = some r := H
    have A24 := gA A240
    clear A240
    replace H := Option.bind_eq_some_iff.mp H
    obtain ⟨⟨t430, t431⟩, A250, H⟩ := H
    replace H : ((show_Show.f kj1 2 l0_0 l0_1).bind fun bt432 => (if t429 = 0 then (if t431 = 0 then (if bt432.2 = 0 then (if t428.toList = t430.toList then (if t430.toList = bt432.1.toList then ((triglyphlaw27_works.f kj1).bind fun t434 => (some t434)) else (none)) else (none)) else (none)) else (none)) else (none))) = some r := H
    have A25 := gA A250
    clear A250
    replace H := Option.bind_eq_some_iff.mp H
    obtain ⟨⟨t432, t433⟩, A260, H⟩ := H
    replace H : (if t429 = 0 then (if t431 = 0 then (if t433 = 0 then (if t428.toList = t430.toList then (if t430.toList = t432.toList then ((triglyphlaw27_works.f kj1).bind fun t434 => (some t434)) else (none)) else (none)) else (none)) else (none)) else (none)) = some r := H
    have A26 := gA A260
    clear A260
    obtain ⟨c27, H⟩ := iS H
    have c27b0 : (t429 == 0) = true := beq_iff_eq.mpr c27
    have c27b1 : (t429 != 0) = false := bne_eq_false_iff_eq.mpr c27
    clear c27
    obtain ⟨c28, H⟩ := iS H
    have c28b0 : (t431 == 0) = true := beq_iff_eq.mpr c28
    have c28b1 : (t431 != 0) = false := bne_eq_false_iff_eq.mpr c28
    clear c28
    obtain ⟨c29, H⟩ := iS H
    have c29b0 : (t433 == 0) = true := beq_iff_eq.mpr c29
    have c29b1 : (t433 != 0) = false := bne_eq_false_iff_eq.mpr c29
    clear c29
    obtain ⟨c30, H⟩ := iS H
    have c30b0 : (t428.toList == t430.toList) = true := beq_iff_eq.mpr c30
    have c30b1 : (t428.toList != t430.toList) = false := bne_eq_false_iff_eq.mpr c30
    clear c30
    obtain ⟨c31, H⟩ := iS H
    have c31b0 : (t430.toList == t432.toList) = true := beq_iff_eq.mpr c31
    have c31b1 : (t430.toList != t432.toList) = false := bne_eq_false_iff_eq.mpr c31
    clear c31
    replace H := Option.bind_eq_some_iff.mp H
    obtain ⟨t434, A320, H⟩ := H
    replace H : (some t434) = some r := H
    have A32 := gA A320
    clear A320
    obtain rfl := Option.some.inj H
    obtain ⟨hcz33_0, hcz33_1, hfz33_0, hfz33_1⟩ := gz2 BK423
    go_wp2_with (first | ((with_reducible refine gate_callee (f := 8) rfl ?_); refine goesL_ (some 24) rfl rfl Try.func8 (by kernel_rfl) rfl #[.int .i64 0, .agg #[.slice A0_0 l0_0.length c0_0, .slice A0_1 l0_1.length c0_1]] rfl (by (try simp only [List.map_toArray, List.map_cons, List.map_nil]); first | done | rfl | (simp only [List.length_drop, List.length_take]; rfl)) ?_; (with_reducible refine (show_Show.calls kj1 0 _ _ l0_0 _ _ l0_1 t428 t429 _ ?side1 ?side2 ?side3 ?side4 A24.out).mono ?_); (case side1 => exact gC HR0_0 HB); (case side2 => exact HC0_0.out); (case side3 => exact gC HR0_1 HB); (case side4 => exact HC0_1.out); rintro e w34 ⟨rfl, hb⟩; refine ⟨_, rfl, ?_⟩; replace BK423 := gA (blk_below (gK BK423) hb); replace HB := gA (below_step (gB HB) hb); (try clear hb); obtain ⟨hcz35_0, hcz35_1, hfz35_0, hfz35_1⟩ := gz2 BK423) | ((with_reducible refine gate_callee (f := 8) rfl ?_); refine goesL_ (some 29) rfl rfl Try.func8 (by kernel_rfl) rfl #[.int .i64 1, .agg #[.slice A0_0 l0_0.length c0_0, .slice A0_1 l0_1.length c0_1]] rfl (by (try simp only [List.map_toArray, List.map_cons, List.map_nil]); first | done | rfl | (simp only [List.length_drop, List.length_take]; rfl)) ?_; (with_reducible refine (show_Show.calls kj1 1 _ _ l0_0 _ _ l0_1 t430 t431 _ ?side1 ?side2 ?side3 ?side4 A25.out).mono ?_); (case side1 => exact gC HR0_0 HB); (case side2 => exact HC0_0.out); (case side3 => exact gC HR0_1 HB); (case side4 => exact HC0_1.out); rintro e w36 ⟨rfl, hb⟩; refine ⟨_, rfl, ?_⟩; replace BK423 := gA (blk_below (gK BK423) hb); replace HB := gA (below_step (gB HB) hb); (try clear hb); obtain ⟨hcz37_0, hcz37_1, hfz37_0, hfz37_1⟩ := gz2 BK423) | ((with_reducible refine gate_callee (f := 8) rfl ?_); refine goesL_ (some 34) rfl rfl Try.func8 (by kernel_rfl) rfl #[.int .i64 2, .agg #[.slice A0_0 l0_0.length c0_0, .slice A0_1 l0_1.length c0_1]] rfl (by (try simp only [List.map_toArray, List.map_cons, List.map_nil]); first | done | rfl | (simp only [List.length_drop, List.length_take]; rfl)) ?_; (with_reducible refine (show_Show.calls kj1 2 _ _ l0_0 _ _ l0_1 t432 t433 _ ?side1 ?side2 ?side3 ?side4 A26.out).mono ?_); (case side1 => exact gC HR0_0 HB); (case side2 => exact HC0_0.out); (case side3 => exact gC HR0_1 HB); (case side4 => exact HC0_1.out); rintro e w38 ⟨rfl, hb⟩; refine ⟨_, rfl, ?_⟩; replace BK423 := gA (blk_below (gK BK423) hb); replace HB := gA (below_step (gB HB) hb); (try clear hb)) | (go_at_call 7; (with_reducible refine (triglyphlaw27_works.calls kj1  t434 _ A32.out).mono ?_); rintro e w39 ⟨rfl, hb⟩; replace BK423 := gA (blk_below (gK BK423) hb); replace HB := gA (below_step (gB HB) hb); (try clear hb)))
    go_ret
    exact ⟨rfl, by repeat first | exact gB HB | refine below_set ?_ GE423.out⟩
end Go.Proofs.Ytbijepjnbolpiaa.P
