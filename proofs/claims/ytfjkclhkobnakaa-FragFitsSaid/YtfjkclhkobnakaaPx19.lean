/- Written by a program of this session: the functions that the laws reach, what each comes to, and each law as it is stated, for every input. No condition. -/
import Derived.Test.YtfjkclhkobnakaaPx0
import Derived.Test.YtfjkclhkobnakaaPx1
import Derived.Test.YtfjkclhkobnakaaPx2
import Derived.Test.YtfjkclhkobnakaaPx8
import Derived.Test.YtfjkclhkobnakaaPx9
import Derived.Test.YtfjkclhkobnakaaPx14
import Derived.Test.YtfjkclhkobnakaaPx18
namespace Go.Proofs.Ytfjkclhkobnakaa.P
open Go.RowKit Go.Proofs.YtfjkclhkobnakaaW.PrintWords Go.Proofs.YtfjkclhkobnakaaW.PrintLast Go.Proofs.YtfjkclhkobnakaaW.PrintMore
attribute [local go_sem] max2_int min2_int max_two min_two max_three min_three max_four min_four   -- for this text's walks alone
set_option linter.unusedVariables false
set_option linter.unusedSimpArgs false
attribute [local go_sem high] eqA33
def triglyphref24_Fits.f (k : Nat) (a0 : Int) (a1_0 : Int) (a1_1 : Int) (a1_2 : ByteArray) (l1_3 : List Int) (l1_4 : List (S57)) (l1_5 : List (S28)) (a1_6 : Int) : Option (Int × Int × Int) := if a0 < 0 then (some (1, 0, 0)) else (if a0 > 2 then (some (1, 0, 0)) else ((triglyphref10_Check.f k a1_0 a1_1 a1_2 l1_3 l1_4 l1_5 a1_6).bind fun t310 => (if t310 = 0 then ((triglyphref24_first.f k a0 a1_0 a1_1 a1_2 l1_3 l1_4 l1_5 a1_6).bind fun bt311 => (some (bt311.1, bt311.2.1, bt311.2.2))) else (some (1, 0, 0)))))
theorem triglyphref24_Fits.mono : ∀ a0 a1 a2 a3 a4 a5 a6 a7 k, LeO (triglyphref24_Fits.f k a0 a1 a2 a3 a4 a5 a6 a7) (triglyphref24_Fits.f (k + 1) a0 a1 a2 a3 a4 a5 a6 a7) := by
 intro a0 a1 a2 a3 a4 a5 a6 a7 k
 unfold triglyphref24_Fits.f
 repeat' first
   | (with_reducible exact triglyphref10_Check.mono _ _ _ _ _ _ _ _)
   | (with_reducible exact triglyphref24_first.mono _ _ _ _ _ _ _ _ _)
   | (with_reducible exact LeO.refl _)
   | (with_reducible exact LeO.none _)
   | (with_reducible refine LeO.ite ?_ ?_)
   | (with_reducible refine LeO.bind ?_ (fun _ => ?_))
   | exact triglyphref10_Check.mono _ _ _ _ _ _ _ _
   | exact triglyphref24_first.mono _ _ _ _ _ _ _ _ _
set_option maxHeartbeats 8000000 in
set_option maxRecDepth 100000 in
theorem triglyphref24_Fits.calls (k : Nat) (a0 : Int) (a1_0 : Int) (a1_1 : Int) (a1_2 : ByteArray) (A1_3 : Option Addr) (c1_3 : Nat) (l1_3 : List Int) (A1_4 : Option Addr) (c1_4 : Nat) (l1_4 : List (S57)) (A1_5 : Option Addr) (c1_5 : Nat) (l1_5 : List (S28)) (a1_6 : Int) (r1 : Int) (r2 : Int) (r3 : Int) (w : World) (hr1_3 : Kd.C (Kd.int .i64) w A1_3 l1_3.length l1_3) (hc1_3 : l1_3.length ≤ c1_3) (hr1_4 : Kd.C k57 w A1_4 l1_4.length l1_4) (hc1_4 : l1_4.length ≤ c1_4) (hr1_5 : Kd.C k28 w A1_5 l1_5.length l1_5) (hc1_5 : l1_5.length ≤ c1_5) (h : triglyphref24_Fits.f k a0 a1_0 a1_1 a1_2 l1_3 l1_4 l1_5 a1_6 = some (r1, r2, r3)) :
  Calls Try.prog 9 #[.int .i64 a0, .agg #[.int .i64 a1_0, .int .i64 a1_1, .string a1_2, .slice A1_3 l1_3.length c1_3, .slice A1_4 l1_4.length c1_4, .slice A1_5 l1_5.length c1_5, .int .i64 a1_6]] w fun e w' => e = .returned (.agg #[.int .i64 r1, .int .i64 r2, .int .i64 r3]) ∧ Below w.heap.size w w' := by
 have hu28 := Try.underlying28
 have hu33 := Try.underlying33
 have HR1_3 := gA hr1_3
 have HC1_3 := gA hc1_3
 clear hr1_3 hc1_3
 have HR1_4 := gA hr1_4
 have HC1_4 := gA hc1_4
 clear hr1_4 hc1_4
 have HR1_5 := gA hr1_5
 have HC1_5 := gA hc1_5
 clear hr1_5 hc1_5
 have HB := gA (Below.refl w.heap.size w)
 have H : (if a0 < 0 then (some (1, 0, 0)) else (if a0 > 2 then (some (1, 0, 0)) else ((triglyphref10_Check.f k a1_0 a1_1 a1_2 l1_3 l1_4 l1_5 a1_6).bind fun t310 => (if t310 = 0 then ((triglyphref24_first.f k a0 a1_0 a1_1 a1_2 l1_3 l1_4 l1_5 a1_6).bind fun bt311 => (some (bt311.1, bt311.2.1, bt311.2.2))) else (some (1, 0, 0)))))) = some (r1, r2, r3) := h
 clear h
 by_cases c3 : a0 < 0
 ·rw [if_pos c3] at H
  have c3b0 := decide_eq_true c3
  clear c3
  simp only [Option.some.injEq, Prod.mk.injEq] at H
  obtain ⟨rfl, rfl, rfl⟩ := H
  go_enter Try.func9, Try.ntmps9
  go_wp2_with (first | ((with_reducible refine gate_dst (N := 3) rfl ?_); refine box_event ?hg (N := 3) ?hd (cs := #[.int .i64 a1_0, .int .i64 a1_1, .string a1_2, .slice A1_3 l1_3.length c1_3, .slice A1_4 l1_4.length c1_4, .slice A1_5 l1_5.length c1_5, .int .i64 a1_6]) (t := 28) ?hr ?_; (case hd => rfl); (case hg => rfl); (case hr => first | (go_simp; done) | (go_simp; rfl)); intro gb308 hg w4 hbox hb; have BK308 := gA (hbox); have GW308 := gA ((by rw [hg]; exact (below_size (gB HB)) : w.heap.size ≤ gb308)); have GE308 := gA ((by rw [hg]; exact (below_size (gB HB)) : w.heap.size ≤ gb308)); replace HB := gA (below_step (gB HB) hb); clear hb hbox hg) | ((with_reducible refine gate_dst (N := 4) rfl ?_); refine box_event ?hg (N := 4) ?hd (cs := #[.int .i64 0, .int .i64 0, .int .i64 0]) (t := 33) ?hr ?_; (case hd => rfl); (case hg => rfl); (case hr => first | (go_simp; done) | (go_simp; rfl)); intro gb309 hg w5 hbox hb; have BK309 := gA (hbox); have GW309 := gA ((by rw [hg]; exact (below_size (gB HB)) : w.heap.size ≤ gb309)); have GE309 := gA ((by rw [hg]; exact (below_size (gB HB)) : w.heap.size ≤ gb309)); replace HB := gA (below_step (gB HB) hb); have NB308_309 := gA ((by rw [hg]; exact Nat.ne_of_lt (blk_lt (gK BK308)) : gb308 ≠ gb309)); have NB309_308 := gA ((by rw [hg]; exact Nat.ne_of_gt (blk_lt (gK BK308)) : gb309 ≠ gb308)); replace BK308 := gA (blk_below (gK BK308) hb); clear hb hbox hg; have hnb6 := NB309_308.out; have hnc6 := NB308_309.out; obtain ⟨hcz7_0, hcz7_1, hcz7_2, hfz7_0, hfz7_1, hfz7_2⟩ := gz3 BK309))
  refine bodyPost_ret (results_cell_row rfl _ _ gb309 33 #[.int .i64 1, .int .i64 0, .int .i64 0] (0, 0) _ rfl (by refine blk_put (cs := #[.int .i64 1, .int .i64 0, .int .i64 0]) ?_ 2 _ rfl; refine blk_put (cs := #[.int .i64 1, .int .i64 0, .int .i64 0]) ?_ 1 _ rfl; refine blk_put (cs := #[.int .i64 0, .int .i64 0, .int .i64 0]) ?_ 0 _ rfl; exact gK BK309) Try.underlying33 rfl (by kernel_rfl)) rfl ?_
  exact ⟨rfl, by repeat first | exact gB HB | refine below_set ?_ GE308.out | refine below_set ?_ GE309.out⟩
 ·rw [if_neg c3] at H
  have c3b0 := decide_eq_false c3
  clear c3
  by_cases c8 : a0 > 2
  ·rw [if_pos c8] at H
   have c8b0 : decide (2 < a0) = true := decide_eq_true c8
   clear c8
   simp only [Option.some.injEq, Prod.mk.injEq] at H
   obtain ⟨rfl, rfl, rfl⟩ := H
   go_enter Try.func9, Try.ntmps9
   go_wp2_with (first | ((with_reducible refine gate_dst (N := 3) rfl ?_); refine box_event ?hg (N := 3) ?hd (cs := #[.int .i64 a1_0, .int .i64 a1_1, .string a1_2, .slice A1_3 l1_3.length c1_3, .slice A1_4 l1_4.length c1_4, .slice A1_5 l1_5.length c1_5, .int .i64 a1_6]) (t := 28) ?hr ?_; (case hd => rfl); (case hg => rfl); (case hr => first | (go_simp; done) | (go_simp; rfl)); intro gb308 hg w9 hbox hb; have BK308 := gA (hbox); have GW308 := gA ((by rw [hg]; exact (below_size (gB HB)) : w.heap.size ≤ gb308)); have GE308 := gA ((by rw [hg]; exact (below_size (gB HB)) : w.heap.size ≤ gb308)); replace HB := gA (below_step (gB HB) hb); clear hb hbox hg) | ((with_reducible refine gate_dst (N := 4) rfl ?_); refine box_event ?hg (N := 4) ?hd (cs := #[.int .i64 0, .int .i64 0, .int .i64 0]) (t := 33) ?hr ?_; (case hd => rfl); (case hg => rfl); (case hr => first | (go_simp; done) | (go_simp; rfl)); intro gb309 hg w10 hbox hb; have BK309 := gA (hbox); have GW309 := gA ((by rw [hg]; exact (below_size (gB HB)) : w.heap.size ≤ gb309)); have GE309 := gA ((by rw [hg]; exact (below_size (gB HB)) : w.heap.size ≤ gb309)); replace HB := gA (below_step (gB HB) hb); have NB308_309 := gA ((by rw [hg]; exact Nat.ne_of_lt (blk_lt (gK BK308)) : gb308 ≠ gb309)); have NB309_308 := gA ((by rw [hg]; exact Nat.ne_of_gt (blk_lt (gK BK308)) : gb309 ≠ gb308)); replace BK308 := gA (blk_below (gK BK308) hb); clear hb hbox hg; have hnb11 := NB309_308.out; have hnc11 := NB308_309.out; obtain ⟨hcz12_0, hcz12_1, hcz12_2, hfz12_0, hfz12_1, hfz12_2⟩ := gz3 BK309))
   refine bodyPost_ret (results_cell_row rfl _ _ gb309 33 #[.int .i64 1, .int .i64 0, .int .i64 0] (0, 0) _ rfl (by refine blk_put (cs := #[.int .i64 1, .int .i64 0, .int .i64 0]) ?_ 2 _ rfl; refine blk_put (cs := #[.int .i64 1, .int .i64 0, .int .i64 0]) ?_ 1 _ rfl; refine blk_put (cs := #[.int .i64 0, .int .i64 0, .int .i64 0]) ?_ 0 _ rfl; exact gK BK309) Try.underlying33 rfl (by kernel_rfl)) rfl ?_
   exact ⟨rfl, by repeat first | exact gB HB | refine below_set ?_ GE308.out | refine below_set ?_ GE309.out⟩
  ·rw [if_neg c8] at H
   have c8b0 : decide (2 < a0) = false := decide_eq_false c8
   clear c8
   replace H := Option.bind_eq_some_iff.mp H
   obtain ⟨t310, A130, H⟩ := H
   replace H : (if t310 = 0 then ((triglyphref24_first.f k a0 a1_0 a1_1 a1_2 l1_3 l1_4 l1_5 a1_6).bind fun bt311 => (some (bt311.1, bt311.2.1, bt311.2.2))) else (some (1, 0, 0))) = some (r1, r2, r3) := H
   have A13 := gA A130
   clear A130
   by_cases c14 : t310 = 0
   ·rw [if_pos c14] at H
    have c14b0 : (t310 == 0) = true := beq_iff_eq.mpr c14
    have c14b1 : (t310 != 0) = false := bne_eq_false_iff_eq.mpr c14
    clear c14
    replace H := Option.bind_eq_some_iff.mp H
    obtain ⟨⟨t311, t312, t313⟩, A150, H⟩ := H
    replace H : (some (t311, t312, t313)) = some (r1, r2, r3) := H
    have A15 := gA A150
    clear A150
    simp only [Option.some.injEq, Prod.mk.injEq] at H
    obtain ⟨rfl, rfl, rfl⟩ := H
    go_enter Try.func9, Try.ntmps9
    go_wp2_with (first | ((with_reducible refine gate_dst (N := 3) rfl ?_); refine box_event ?hg (N := 3) ?hd (cs := #[.int .i64 a1_0, .int .i64 a1_1, .string a1_2, .slice A1_3 l1_3.length c1_3, .slice A1_4 l1_4.length c1_4, .slice A1_5 l1_5.length c1_5, .int .i64 a1_6]) (t := 28) ?hr ?_; (case hd => rfl); (case hg => rfl); (case hr => first | (go_simp; done) | (go_simp; rfl)); intro gb308 hg w16 hbox hb; have BK308 := gA (hbox); have GW308 := gA ((by rw [hg]; exact (below_size (gB HB)) : w.heap.size ≤ gb308)); have GE308 := gA ((by rw [hg]; exact (below_size (gB HB)) : w.heap.size ≤ gb308)); replace HB := gA (below_step (gB HB) hb); clear hb hbox hg) | ((with_reducible refine gate_dst (N := 4) rfl ?_); refine box_event ?hg (N := 4) ?hd (cs := #[.int .i64 0, .int .i64 0, .int .i64 0]) (t := 33) ?hr ?_; (case hd => rfl); (case hg => rfl); (case hr => first | (go_simp; done) | (go_simp; rfl)); intro gb309 hg w17 hbox hb; have BK309 := gA (hbox); have GW309 := gA ((by rw [hg]; exact (below_size (gB HB)) : w.heap.size ≤ gb309)); have GE309 := gA ((by rw [hg]; exact (below_size (gB HB)) : w.heap.size ≤ gb309)); replace HB := gA (below_step (gB HB) hb); have NB308_309 := gA ((by rw [hg]; exact Nat.ne_of_lt (blk_lt (gK BK308)) : gb308 ≠ gb309)); have NB309_308 := gA ((by rw [hg]; exact Nat.ne_of_gt (blk_lt (gK BK308)) : gb309 ≠ gb308)); replace BK308 := gA (blk_below (gK BK308) hb); clear hb hbox hg; have hnb18 := NB308_309.out; have hnc18 := NB309_308.out; have hcz19_0 := gz BK308 0 rfl; have hcz19_1 := gz BK308 1 rfl; have hcz19_2 := gz BK308 2 rfl; have hcz19_3 := gz BK308 3 rfl; have hcz19_4 := gz BK308 4 rfl; have hcz19_5 := gz BK308 5 rfl; have hcz19_6 := gz BK308 6 rfl; have hfz19_0 := blk_frozen BK308.out 0; have hfz19_1 := blk_frozen BK308.out 1; have hfz19_2 := blk_frozen BK308.out 2; have hfz19_3 := blk_frozen BK308.out 3; have hfz19_4 := blk_frozen BK308.out 4; have hfz19_5 := blk_frozen BK308.out 5; have hfz19_6 := blk_frozen BK308.out 6) | (go_at_call 12; (with_reducible refine (triglyphref10_Check.calls k a1_0 a1_1 a1_2 _ _ l1_3 _ _ l1_4 _ _ l1_5 a1_6 t310 _ ?side1 ?side2 ?side3 ?side4 ?side5 ?side6 A13.out).mono ?_); (case side1 => exact gC HR1_3 HB); (case side2 => exact HC1_3.out); (case side3 => exact gC HR1_4 HB); (case side4 => exact HC1_4.out); (case side5 => exact gC HR1_5 HB); (case side6 => exact HC1_5.out); rintro e w20 ⟨rfl, hb⟩; replace BK308 := gA (blk_below (gK BK308) hb); replace BK309 := gA (blk_below (gK BK309) hb); replace HB := gA (below_step (gB HB) hb); (try clear hb); have hcz21_0 := gz BK308 0 rfl; have hcz21_1 := gz BK308 1 rfl; have hcz21_2 := gz BK308 2 rfl; have hcz21_3 := gz BK308 3 rfl; have hcz21_4 := gz BK308 4 rfl; have hcz21_5 := gz BK308 5 rfl; have hcz21_6 := gz BK308 6 rfl; have hfz21_0 := blk_frozen BK308.out 0; have hfz21_1 := blk_frozen BK308.out 1; have hfz21_2 := blk_frozen BK308.out 2; have hfz21_3 := blk_frozen BK308.out 3; have hfz21_4 := blk_frozen BK308.out 4; have hfz21_5 := blk_frozen BK308.out 5; have hfz21_6 := blk_frozen BK308.out 6) | ((with_reducible refine gate_callee (f := 20) rfl ?_); refine goesL_ (some 19) rfl rfl Try.func20 (by kernel_rfl) rfl #[.int .i64 a0, .agg #[.int .i64 a1_0, .int .i64 a1_1, .string a1_2, .slice A1_3 l1_3.length c1_3, .slice A1_4 l1_4.length c1_4, .slice A1_5 l1_5.length c1_5, .int .i64 a1_6]] rfl (by (try simp only [List.map_toArray, List.map_cons, List.map_nil]); first | done | rfl | (simp only [List.length_drop, List.length_take]; rfl)) ?_; (with_reducible refine (triglyphref24_first.calls k a0 a1_0 a1_1 a1_2 _ _ l1_3 _ _ l1_4 _ _ l1_5 a1_6 t311 t312 t313 _ ?side1 ?side2 ?side3 ?side4 ?side5 ?side6 A15.out).mono ?_); (case side1 => exact gC HR1_3 HB); (case side2 => exact HC1_3.out); (case side3 => exact gC HR1_4 HB); (case side4 => exact HC1_4.out); (case side5 => exact gC HR1_5 HB); (case side6 => exact HC1_5.out); rintro e w22 ⟨rfl, hb⟩; refine ⟨_, rfl, ?_⟩; replace BK308 := gA (blk_below (gK BK308) hb); replace BK309 := gA (blk_below (gK BK309) hb); replace HB := gA (below_step (gB HB) hb); (try clear hb); obtain ⟨hcz23_0, hcz23_1, hcz23_2, hfz23_0, hfz23_1, hfz23_2⟩ := gz3 BK309))
    refine bodyPost_ret (results_cell_row rfl _ _ gb309 33 #[.int .i64 t311, .int .i64 t312, .int .i64 t313] (0, 0) _ rfl (by refine blk_put (cs := #[.int .i64 t311, .int .i64 t312, .int .i64 0]) ?_ 2 _ rfl; refine blk_put (cs := #[.int .i64 t311, .int .i64 0, .int .i64 0]) ?_ 1 _ rfl; refine blk_put (cs := #[.int .i64 0, .int .i64 0, .int .i64 0]) ?_ 0 _ rfl; exact gK BK309) Try.underlying33 rfl (by kernel_rfl)) rfl ?_
    exact ⟨rfl, by repeat first | exact gB HB | refine below_set ?_ GE308.out | refine below_set ?_ GE309.out⟩
   ·rw [if_neg c14] at H
    have c14b0 : (t310 == 0) = false := beq_eq_false_iff_ne.mpr c14
    have c14b1 : (t310 != 0) = true := bne_iff_ne.mpr c14
    simp only [Option.some.injEq, Prod.mk.injEq] at H
    obtain ⟨rfl, rfl, rfl⟩ := H
    go_enter Try.func9, Try.ntmps9
    go_wp2_with (first | ((with_reducible refine gate_dst (N := 3) rfl ?_); refine box_event ?hg (N := 3) ?hd (cs := #[.int .i64 a1_0, .int .i64 a1_1, .string a1_2, .slice A1_3 l1_3.length c1_3, .slice A1_4 l1_4.length c1_4, .slice A1_5 l1_5.length c1_5, .int .i64 a1_6]) (t := 28) ?hr ?_; (case hd => rfl); (case hg => rfl); (case hr => first | (go_simp; done) | (go_simp; rfl)); intro gb308 hg w24 hbox hb; have BK308 := gA (hbox); have GW308 := gA ((by rw [hg]; exact (below_size (gB HB)) : w.heap.size ≤ gb308)); have GE308 := gA ((by rw [hg]; exact (below_size (gB HB)) : w.heap.size ≤ gb308)); replace HB := gA (below_step (gB HB) hb); clear hb hbox hg) | ((with_reducible refine gate_dst (N := 4) rfl ?_); refine box_event ?hg (N := 4) ?hd (cs := #[.int .i64 0, .int .i64 0, .int .i64 0]) (t := 33) ?hr ?_; (case hd => rfl); (case hg => rfl); (case hr => first | (go_simp; done) | (go_simp; rfl)); intro gb309 hg w25 hbox hb; have BK309 := gA (hbox); have GW309 := gA ((by rw [hg]; exact (below_size (gB HB)) : w.heap.size ≤ gb309)); have GE309 := gA ((by rw [hg]; exact (below_size (gB HB)) : w.heap.size ≤ gb309)); replace HB := gA (below_step (gB HB) hb); have NB308_309 := gA ((by rw [hg]; exact Nat.ne_of_lt (blk_lt (gK BK308)) : gb308 ≠ gb309)); have NB309_308 := gA ((by rw [hg]; exact Nat.ne_of_gt (blk_lt (gK BK308)) : gb309 ≠ gb308)); replace BK308 := gA (blk_below (gK BK308) hb); clear hb hbox hg; have hnb26 := NB308_309.out; have hnc26 := NB309_308.out; have hcz27_0 := gz BK308 0 rfl; have hcz27_1 := gz BK308 1 rfl; have hcz27_2 := gz BK308 2 rfl; have hcz27_3 := gz BK308 3 rfl; have hcz27_4 := gz BK308 4 rfl; have hcz27_5 := gz BK308 5 rfl; have hcz27_6 := gz BK308 6 rfl; have hfz27_0 := blk_frozen BK308.out 0; have hfz27_1 := blk_frozen BK308.out 1; have hfz27_2 := blk_frozen BK308.out 2; have hfz27_3 := blk_frozen BK308.out 3; have hfz27_4 := blk_frozen BK308.out 4; have hfz27_5 := blk_frozen BK308.out 5; have hfz27_6 := blk_frozen BK308.out 6) | (go_at_call 12; (with_reducible refine (triglyphref10_Check.calls k a1_0 a1_1 a1_2 _ _ l1_3 _ _ l1_4 _ _ l1_5 a1_6 t310 _ ?side1 ?side2 ?side3 ?side4 ?side5 ?side6 A13.out).mono ?_); (case side1 => exact gC HR1_3 HB); (case side2 => exact HC1_3.out); (case side3 => exact gC HR1_4 HB); (case side4 => exact HC1_4.out); (case side5 => exact gC HR1_5 HB); (case side6 => exact HC1_5.out); rintro e w28 ⟨rfl, hb⟩; replace BK308 := gA (blk_below (gK BK308) hb); replace BK309 := gA (blk_below (gK BK309) hb); replace HB := gA (below_step (gB HB) hb); (try clear hb); obtain ⟨hcz29_0, hcz29_1, hcz29_2, hfz29_0, hfz29_1, hfz29_2⟩ := gz3 BK309))
    refine bodyPost_ret (results_cell_row rfl _ _ gb309 33 #[.int .i64 1, .int .i64 0, .int .i64 0] (0, 0) _ rfl (by refine blk_put (cs := #[.int .i64 1, .int .i64 0, .int .i64 0]) ?_ 2 _ rfl; refine blk_put (cs := #[.int .i64 1, .int .i64 0, .int .i64 0]) ?_ 1 _ rfl; refine blk_put (cs := #[.int .i64 0, .int .i64 0, .int .i64 0]) ?_ 0 _ rfl; exact gK BK309) Try.underlying33 rfl (by kernel_rfl)) rfl ?_
    exact ⟨rfl, by repeat first | exact gB HB | refine below_set ?_ GE308.out | refine below_set ?_ GE309.out⟩
def triglyphlaw24_FragFits.f (k : Nat) (a0 : Int) (a1_0 : Int) (a1_1 : Int) (a1_2 : ByteArray) (l1_3 : List Int) (l1_4 : List (S57)) (l1_5 : List (S28)) (a1_6 : Int) : Option (Bool) := (triglyphlaw24_light.f k a1_0 a1_1 a1_2 l1_3 l1_4 l1_5 a1_6).bind fun t315 => (if t315 = true then ((frag_Fits.f k a0 a1_0 a1_1 a1_2 l1_3 l1_4 l1_5 a1_6).bind fun bt316 => ((triglyphref24_Fits.f k a0 a1_0 a1_1 a1_2 l1_3 l1_4 l1_5 a1_6).bind fun bt319 => (if (bt316.1 == bt319.1 && (bt316.2.1 == bt319.2.1 && (bt316.2.2 == bt319.2.2))) = true then ((triglyphlaw24_works.f k).bind fun t322 => (some t322)) else (none)))) else ((triglyphlaw24_works.f k).bind fun t323 => (some t323)))
theorem triglyphlaw24_FragFits.mono : ∀ a0 a1 a2 a3 a4 a5 a6 a7 k, LeO (triglyphlaw24_FragFits.f k a0 a1 a2 a3 a4 a5 a6 a7) (triglyphlaw24_FragFits.f (k + 1) a0 a1 a2 a3 a4 a5 a6 a7) := by
 intro a0 a1 a2 a3 a4 a5 a6 a7 k
 unfold triglyphlaw24_FragFits.f
 repeat' first
   | (with_reducible exact frag_Fits.mono _ _ _ _ _ _ _ _ _)
   | (with_reducible exact triglyphlaw24_light.mono _ _ _ _ _ _ _ _)
   | (with_reducible exact triglyphlaw24_works.mono _)
   | (with_reducible exact triglyphref24_Fits.mono _ _ _ _ _ _ _ _ _)
   | (with_reducible exact LeO.refl _)
   | (with_reducible exact LeO.none _)
   | (with_reducible refine LeO.ite ?_ ?_)
   | (with_reducible refine LeO.bind ?_ (fun _ => ?_))
   | exact frag_Fits.mono _ _ _ _ _ _ _ _ _
   | exact triglyphlaw24_light.mono _ _ _ _ _ _ _ _
   | exact triglyphlaw24_works.mono _
   | exact triglyphref24_Fits.mono _ _ _ _ _ _ _ _ _
def triglyphlaw24_FragFits.T3 : Bool × List (List Nat × List Nat) := (true, [([], []), ([], []), ([0, 1], [0, 1]), ([], []), ([], []), ([3, 4, 2], [3, 4]), ([2, 5], [2, 5]), ([6, 5], [6]), ([7, 7], [7]), ([7, 8], [7, 8]), ([9, 8, 0, 1, 2, 3, 4, 5, 6, 7, 8, 9], [9])])
def triglyphlaw24_FragFits.B3 : List Nat := [0, 0, 3, 0, 0, 31, 63, 127, 255, 511, 1023]
theorem triglyphlaw24_FragFits.tab3 : rtab .any (opsOf Try.f3 3) = triglyphlaw24_FragFits.T3 := by kernel_rfl
theorem triglyphlaw24_FragFits.bits3 : waitsOk triglyphlaw24_FragFits.T3.2 triglyphlaw24_FragFits.B3 = true := by kernel_rfl
set_option maxHeartbeats 8000000 in
set_option maxRecDepth 100000 in
theorem triglyphlaw24_FragFits.calls (k : Nat) (a0 : Int) (a1_0 : Int) (a1_1 : Int) (a1_2 : ByteArray) (A1_3 : Option Addr) (c1_3 : Nat) (l1_3 : List Int) (A1_4 : Option Addr) (c1_4 : Nat) (l1_4 : List (S57)) (A1_5 : Option Addr) (c1_5 : Nat) (l1_5 : List (S28)) (a1_6 : Int) (r : Bool) (w : World) (hr1_3 : Kd.C (Kd.int .i64) w A1_3 l1_3.length l1_3) (hc1_3 : l1_3.length ≤ c1_3) (hr1_4 : Kd.C k57 w A1_4 l1_4.length l1_4) (hc1_4 : l1_4.length ≤ c1_4) (hr1_5 : Kd.C k28 w A1_5 l1_5.length l1_5) (hc1_5 : l1_5.length ≤ c1_5) (h : triglyphlaw24_FragFits.f k a0 a1_0 a1_1 a1_2 l1_3 l1_4 l1_5 a1_6 = some r) :
  Calls Try.prog 3 #[.int .i64 a0, .agg #[.int .i64 a1_0, .int .i64 a1_1, .string a1_2, .slice A1_3 l1_3.length c1_3, .slice A1_4 l1_4.length c1_4, .slice A1_5 l1_5.length c1_5, .int .i64 a1_6]] w fun e w' => e = .returned (.bool r) ∧ Below w.heap.size w w' := by
 have hu28 := Try.underlying28
 have HR1_3 := gA hr1_3
 have HC1_3 := gA hc1_3
 clear hr1_3 hc1_3
 have HR1_4 := gA hr1_4
 have HC1_4 := gA hc1_4
 clear hr1_4 hc1_4
 have HR1_5 := gA hr1_5
 have HC1_5 := gA hc1_5
 clear hr1_5 hc1_5
 have HB := gA (Below.refl w.heap.size w)
 have H : ((triglyphlaw24_light.f k a1_0 a1_1 a1_2 l1_3 l1_4 l1_5 a1_6).bind fun t315 => (if t315 = true then ((frag_Fits.f k a0 a1_0 a1_1 a1_2 l1_3 l1_4 l1_5 a1_6).bind fun bt316 => ((triglyphref24_Fits.f k a0 a1_0 a1_1 a1_2 l1_3 l1_4 l1_5 a1_6).bind fun bt319 => (if (bt316.1 == bt319.1 && (bt316.2.1 == bt319.2.1 && (bt316.2.2 == bt319.2.2))) = true then ((triglyphlaw24_works.f k).bind fun t322 => (some t322)) else (none)))) else ((triglyphlaw24_works.f k).bind fun t323 => (some t323)))) = some r := h
 clear h
 replace H := Option.bind_eq_some_iff.mp H
 obtain ⟨t315, A30, H⟩ := H
 replace H : (if t315 = true then ((frag_Fits.f k a0 a1_0 a1_1 a1_2 l1_3 l1_4 l1_5 a1_6).bind fun bt316 => ((triglyphref24_Fits.f k a0 a1_0 a1_1 a1_2 l1_3 l1_4 l1_5 a1_6).bind fun bt319 => (if (bt316.1 == bt319.1 && (bt316.2.1 == bt319.2.1 && (bt316.2.2 == bt319.2.2))) = true then ((triglyphlaw24_works.f k).bind fun t322 => (some t322)) else (none)))) else ((triglyphlaw24_works.f k).bind fun t323 => (some t323))) = some r := H
 have A3 := gA A30
 clear A30
 by_cases c4 : t315 = true
 ·subst c4
  have H1 : ((frag_Fits.f k a0 a1_0 a1_1 a1_2 l1_3 l1_4 l1_5 a1_6).bind fun bt316 => ((triglyphref24_Fits.f k a0 a1_0 a1_1 a1_2 l1_3 l1_4 l1_5 a1_6).bind fun bt319 => (if (bt316.1 == bt319.1 && (bt316.2.1 == bt319.2.1 && (bt316.2.2 == bt319.2.2))) = true then ((triglyphlaw24_works.f k).bind fun t322 => (some t322)) else (none)))) = some r := by rw [if_pos rfl] at H; exact H
  clear H; have H := H1; clear H1
  replace H := Option.bind_eq_some_iff.mp H
  obtain ⟨⟨t316, t317, t318⟩, A50, H⟩ := H
  replace H : ((triglyphref24_Fits.f k a0 a1_0 a1_1 a1_2 l1_3 l1_4 l1_5 a1_6).bind fun bt319 => (if (t316 == bt319.1 && (t317 == bt319.2.1 && (t318 == bt319.2.2))) = true then ((triglyphlaw24_works.f k).bind fun t322 => (some t322)) else (none))) = some r := H
  have A5 := gA A50
  clear A50
  replace H := Option.bind_eq_some_iff.mp H
  obtain ⟨⟨t319, t320, t321⟩, A60, H⟩ := H
  replace H : (if (t316 == t319 && (t317 == t320 && (t318 == t321))) = true then ((triglyphlaw24_works.f k).bind fun t322 => (some t322)) else (none)) = some r := H
  have A6 := gA A60
  clear A60
  by_cases c7 : (t316 == t319 && (t317 == t320 && (t318 == t321))) = true
  ·rw [if_pos c7] at H
   have c7b0 : (t316 == t319 && (t317 == t320 && (t318 == t321))) = true := c7
   (try (have c7b1 : decide (t316 = t319 && (t317 == t320 && (t318 == t321))) = true := by simpa using c7))
   (try (have c7b2 : (t316 == t319 && (t317 == t320 && (t318 == t321))) = true := by simpa using c7))
   clear c7
   replace H := Option.bind_eq_some_iff.mp H
   obtain ⟨t322, A80, H⟩ := H
   replace H : (some t322) = some r := H
   have A8 := gA A80
   clear A80
   obtain rfl := Option.some.inj H
   go_enter Try.func3, Try.ntmps3
   try go_wp2_with (first | ((with_reducible refine gate_dst (N := 3) rfl ?_); refine box_event ?hg (N := 3) ?hd (cs := #[.int .i64 a1_0, .int .i64 a1_1, .string a1_2, .slice A1_3 l1_3.length c1_3, .slice A1_4 l1_4.length c1_4, .slice A1_5 l1_5.length c1_5, .int .i64 a1_6]) (t := 28) ?hr ?_; (case hd => rfl); (case hg => rfl); (case hr => first | (go_simp; done) | (go_simp; rfl)); intro gb314 hg w9 hbox hb; have BK314 := gA (hbox); have GW314 := gA ((by rw [hg]; exact (below_size (gB HB)) : w.heap.size ≤ gb314)); have GE314 := gA ((by rw [hg]; exact (below_size (gB HB)) : w.heap.size ≤ gb314)); replace HB := gA (below_step (gB HB) hb); clear hb hbox hg; have hcz10_0 := gz BK314 0 rfl; have hcz10_1 := gz BK314 1 rfl; have hcz10_2 := gz BK314 2 rfl; have hcz10_3 := gz BK314 3 rfl; have hcz10_4 := gz BK314 4 rfl; have hcz10_5 := gz BK314 5 rfl; have hcz10_6 := gz BK314 6 rfl; have hfz10_0 := blk_frozen BK314.out 0; have hfz10_1 := blk_frozen BK314.out 1; have hfz10_2 := blk_frozen BK314.out 2; have hfz10_3 := blk_frozen BK314.out 3; have hfz10_4 := blk_frozen BK314.out 4; have hfz10_5 := blk_frozen BK314.out 5; have hfz10_6 := blk_frozen BK314.out 6) | ((with_reducible refine gate_callee (f := 6) rfl ?_); refine goesL_ (some 6) rfl rfl Try.func6 (by kernel_rfl) rfl #[.agg #[.int .i64 a1_0, .int .i64 a1_1, .string a1_2, .slice A1_3 l1_3.length c1_3, .slice A1_4 l1_4.length c1_4, .slice A1_5 l1_5.length c1_5, .int .i64 a1_6]] rfl (by (try simp only [List.map_toArray, List.map_cons, List.map_nil]); first | done | rfl | (simp only [List.length_drop, List.length_take]; rfl)) ?_; (with_reducible refine (triglyphlaw24_light.calls k a1_0 a1_1 a1_2 _ _ l1_3 _ _ l1_4 _ _ l1_5 a1_6 true _ ?side1 ?side2 ?side3 ?side4 ?side5 ?side6 A3.out).mono ?_); (case side1 => exact gC HR1_3 HB); (case side2 => exact HC1_3.out); (case side3 => exact gC HR1_4 HB); (case side4 => exact HC1_4.out); (case side5 => exact gC HR1_5 HB); (case side6 => exact HC1_5.out); rintro e w11 ⟨rfl, hb⟩; refine ⟨_, rfl, ?_⟩; replace BK314 := gA (blk_below (gK BK314) hb); replace HB := gA (below_step (gB HB) hb); (try clear hb)))
   replace BK314 := gA (blk_drew BK314.out); replace HB := gA (below_drew1 HB.out)
   refine start_ (n := 11) (S := fun w' => w'.cell? ⟨gb314, 0, none⟩ = some (.int .i64 a1_0) ∧ w'.cell? ⟨gb314, 1, none⟩ = some (.int .i64 a1_1) ∧ w'.cell? ⟨gb314, 2, none⟩ = some (.string a1_2) ∧ w'.cell? ⟨gb314, 3, none⟩ = some (.slice A1_3 l1_3.length c1_3) ∧ w'.cell? ⟨gb314, 4, none⟩ = some (.slice A1_4 l1_4.length c1_4) ∧ w'.cell? ⟨gb314, 5, none⟩ = some (.slice A1_5 l1_5.length c1_5) ∧ w'.cell? ⟨gb314, 6, none⟩ = some (.int .i64 a1_6)) (ds := []) #[false, false, false, false, false, false, false, false, false, false, false] (by kernel_rfl) rfl rfl ⟨(blk_cell BK314.out 0).trans rfl, (blk_cell BK314.out 1).trans rfl, (blk_cell BK314.out 2).trans rfl, (blk_cell BK314.out 3).trans rfl, (blk_cell BK314.out 4).trans rfl, (blk_cell BK314.out 5).trans rfl, (blk_cell BK314.out 6).trans rfl⟩ (fun hHeld => ?_); refine with_tabW triglyphlaw24_FragFits.tab3 triglyphlaw24_FragFits.bits3 (fun HT_ HW_ => ?_)
   generalize w11.drew = w12 at BK314 HB hHeld ⊢
   refine pure_ (i := 0) (N := some 9) (v := ?_) (a' := ?_) #[true, false, false, false, false, false, false, false, false, false, false] rfl rfl (any_of HT_.out (by kernel_rfl)) (fun _ _ _ h => h) (Or.inl ⟨by rfl, ?_⟩) ?_ ?_; rotate_left
   ·intro w'; go_simp; with_reducible rfl
   rotate_left
   ·simp only [Act.put, List.setIfInBounds_toArray, List.set_cons_zero, List.set_cons_succ, i64_w, i32_w]; rfl
   refine pure_ (i := 3) (N := some 12) (v := ?_) (a' := ?_) #[true, false, false, true, false, false, false, false, false, false, false] rfl rfl (any_of HT_.out (by kernel_rfl)) (fun _ _ _ h => h) (Or.inl ⟨by rfl, ?_⟩) ?_ ?_; rotate_left
   ·intro w'; go_simp; with_reducible rfl
   rotate_left
   ·simp only [Act.put, List.setIfInBounds_toArray, List.set_cons_zero, List.set_cons_succ, i64_w, i32_w]; rfl
   refine take_ (i := 1) (N := some 10) (v := ?_) (a' := ?_) #[true, true, false, true, false, false, false, false, false, false, false] rfl rfl (take_ofW HT_.out HW_.out (by kernel_rfl)) (fun _ _ _ h => h) (Or.inl ⟨by rfl, ?_⟩) hHeld ?_ ?_; rotate_left
   ·rintro w' ⟨s0, s1, s2, s3, s4, s5, s6⟩; go_simp; with_reducible rfl
   rotate_left
   ·simp only [Act.put, List.setIfInBounds_toArray, List.set_cons_zero, List.set_cons_succ, i64_w, i32_w]; rfl
   refine take_ (i := 4) (N := some 13) (v := ?_) (a' := ?_) #[true, true, false, true, true, false, false, false, false, false, false] rfl rfl (take_ofW HT_.out HW_.out (by kernel_rfl)) (fun _ _ _ h => h) (Or.inl ⟨by rfl, ?_⟩) hHeld ?_ ?_; rotate_left
   ·rintro w' ⟨s0, s1, s2, s3, s4, s5, s6⟩; go_simp; with_reducible rfl
   rotate_left
   ·simp only [Act.put, List.setIfInBounds_toArray, List.set_cons_zero, List.set_cons_succ, i64_w, i32_w]; rfl
   refine one_ (i := 2) (N := some 11) #[true, true, true, true, true, false, false, false, false, false, false] rfl rfl (one_of HT_.out (by kernel_rfl)) (by decide) (fun K hK => ?_)
   refine goes_ Try.func8 (by kernel_rfl) rfl #[.int .i64 a0, .agg #[.int .i64 a1_0, .int .i64 a1_1, .string a1_2, .slice A1_3 l1_3.length c1_3, .slice A1_4 l1_4.length c1_4, .slice A1_5 l1_5.length c1_5, .int .i64 a1_6]] (by rfl) rfl rfl (by (try simp only [List.map_toArray, List.map_cons, List.map_nil]); first | done | rfl | (simp only [List.length_drop, List.length_take]; rfl)) ?_
   with_reducible refine (frag_Fits.calls k a0 a1_0 a1_1 a1_2 _ _ l1_3 _ _ l1_4 _ _ l1_5 a1_6 t316 t317 t318 _ ?side1 ?side2 ?side3 ?side4 ?side5 ?side6 A5.out).mono ?_
   (case side1 => exact gC HR1_3 HB)
   (case side2 => exact HC1_3.out)
   (case side3 => exact gC HR1_4 HB)
   (case side4 => exact HC1_4.out)
   (case side5 => exact gC HR1_5 HB)
   (case side6 => exact HC1_5.out)
   rintro e w13 ⟨rfl, hb⟩
   refine ⟨_, rfl, ?_⟩
   replace BK314 := gA (blk_below (gK BK314) hb); replace HB := gA (below_step (gB HB) hb); (try clear hb)
   refine hK.out _ _ ⟨(blk_cell BK314.out 0).trans rfl, (blk_cell BK314.out 1).trans rfl, (blk_cell BK314.out 2).trans rfl, (blk_cell BK314.out 3).trans rfl, (blk_cell BK314.out 4).trans rfl, (blk_cell BK314.out 5).trans rfl, (blk_cell BK314.out 6).trans rfl⟩ (fun hHeld => ?_); clear hK K
   refine norm_ (a' := ?_) ?_ ?_; rotate_left
   ·show Act.put _ (some 11) _ = _
    simp only [Act.put, List.setIfInBounds_toArray, List.set_cons_zero, List.set_cons_succ, i64_w, i32_w]; rfl
   refine one_ (i := 5) (N := some 14) #[true, true, true, true, true, true, false, false, false, false, false] rfl rfl (one_of HT_.out (by kernel_rfl)) (by decide) (fun K hK => ?_)
   refine goes_ Try.func9 (by kernel_rfl) rfl #[.int .i64 a0, .agg #[.int .i64 a1_0, .int .i64 a1_1, .string a1_2, .slice A1_3 l1_3.length c1_3, .slice A1_4 l1_4.length c1_4, .slice A1_5 l1_5.length c1_5, .int .i64 a1_6]] (by rfl) rfl rfl (by (try simp only [List.map_toArray, List.map_cons, List.map_nil]); first | done | rfl | (simp only [List.length_drop, List.length_take]; rfl)) ?_
   with_reducible refine (triglyphref24_Fits.calls k a0 a1_0 a1_1 a1_2 _ _ l1_3 _ _ l1_4 _ _ l1_5 a1_6 t319 t320 t321 _ ?side1 ?side2 ?side3 ?side4 ?side5 ?side6 A6.out).mono ?_
   (case side1 => exact gC HR1_3 HB)
   (case side2 => exact HC1_3.out)
   (case side3 => exact gC HR1_4 HB)
   (case side4 => exact HC1_4.out)
   (case side5 => exact gC HR1_5 HB)
   (case side6 => exact HC1_5.out)
   rintro e w14 ⟨rfl, hb⟩
   refine ⟨_, rfl, ?_⟩
   replace BK314 := gA (blk_below (gK BK314) hb); replace HB := gA (below_step (gB HB) hb); (try clear hb)
   refine hK.out _ _ ⟨(blk_cell BK314.out 0).trans rfl, (blk_cell BK314.out 1).trans rfl, (blk_cell BK314.out 2).trans rfl, (blk_cell BK314.out 3).trans rfl, (blk_cell BK314.out 4).trans rfl, (blk_cell BK314.out 5).trans rfl, (blk_cell BK314.out 6).trans rfl⟩ (fun hHeld => ?_); clear hK K
   refine norm_ (a' := ?_) ?_ ?_; rotate_left
   ·show Act.put _ (some 14) _ = _
    simp only [Act.put, List.setIfInBounds_toArray, List.set_cons_zero, List.set_cons_succ, i64_w, i32_w]; rfl
   refine pure_ (i := 6) (N := some 15) (v := ?_) (a' := ?_) #[true, true, true, true, true, true, true, false, false, false, false] rfl rfl (any_of HT_.out (by kernel_rfl)) (fun _ _ _ h => h) (Or.inl ⟨by rfl, ?_⟩) ?_ ?_; rotate_left
   ·intro w'; go_simp; with_reducible rfl
   rotate_left
   ·simp only [Act.put, List.setIfInBounds_toArray, List.set_cons_zero, List.set_cons_succ, i64_w, i32_w]; rfl
   refine pure_ (i := 7) (N := some 16) (v := ?_) (a' := ?_) #[true, true, true, true, true, true, true, true, false, false, false] rfl rfl (any_of HT_.out (by kernel_rfl)) (fun _ _ _ h => h) (Or.inl ⟨by rfl, ?_⟩) ?_ ?_; rotate_left
   ·intro w'; go_simp; with_reducible rfl
   rotate_left
   ·simp only [Act.put, List.setIfInBounds_toArray, List.set_cons_zero, List.set_cons_succ, i64_w, i32_w]; rfl
   refine one_ (i := 8) (N := some 17) #[true, true, true, true, true, true, true, true, true, false, false] rfl rfl (one_of HT_.out (by kernel_rfl)) (by decide) (fun K hK => ?_)
   refine goes_ Try.func7 (by kernel_rfl) rfl #[] (by rfl) rfl rfl (by (try simp only [List.map_toArray, List.map_cons, List.map_nil]); first | done | rfl | (simp only [List.length_drop, List.length_take]; rfl)) ?_
   with_reducible refine (triglyphlaw24_works.calls k  t322 _ A8.out).mono ?_
   rintro e w15 ⟨rfl, hb⟩
   refine ⟨_, rfl, ?_⟩
   replace BK314 := gA (blk_below (gK BK314) hb); replace HB := gA (below_step (gB HB) hb); (try clear hb)
   refine hK.out _ _ ⟨(blk_cell BK314.out 0).trans rfl, (blk_cell BK314.out 1).trans rfl, (blk_cell BK314.out 2).trans rfl, (blk_cell BK314.out 3).trans rfl, (blk_cell BK314.out 4).trans rfl, (blk_cell BK314.out 5).trans rfl, (blk_cell BK314.out 6).trans rfl⟩ (fun hHeld => ?_); clear hK K
   refine norm_ (a' := ?_) ?_ ?_; rotate_left
   ·show Act.put _ (some 17) _ = _
    simp only [Act.put, List.setIfInBounds_toArray, List.set_cons_zero, List.set_cons_succ, i64_w, i32_w]; rfl
   refine pure_ (i := 9) (N := some 18) (v := ?_) (a' := ?_) #[true, true, true, true, true, true, true, true, true, true, false] rfl rfl (any_of HT_.out (by kernel_rfl)) (fun _ _ _ h => h) (Or.inl ⟨by rfl, ?_⟩) ?_ ?_; rotate_left
   ·intro w'; go_simp; with_reducible rfl
   rotate_left
   ·simp only [Act.put, List.setIfInBounds_toArray, List.set_cons_zero, List.set_cons_succ, i64_w, i32_w]; rfl
   refine pure_ (i := 10) (N := some 4) (v := ?_) (a' := ?_) #[true, true, true, true, true, true, true, true, true, true, true] rfl rfl (any_of HT_.out (by kernel_rfl)) (fun _ _ _ h => h) (Or.inl ⟨by rfl, ?_⟩) ?_ ?_; rotate_left
   ·intro w'; go_simp; with_reducible rfl
   rotate_left
   ·simp only [Act.put, List.setIfInBounds_toArray, List.set_cons_zero, List.set_cons_succ, i64_w, i32_w]; rfl
   refine done_ (done_of HT_.out (by kernel_rfl)) ?_
   try go_wp2
   go_ret
   exact ⟨rfl, by repeat first | exact gB HB | refine below_set ?_ GE314.out⟩
  ·rw [if_neg c7] at H
   have c7b0 : (t316 == t319 && (t317 == t320 && (t318 == t321))) = false := by simpa using c7
   (try (have c7b1 : decide (t316 = t319 && (t317 == t320 && (t318 == t321))) = false := by simpa using c7))
   (try (have c7b2 : (t316 == t319 && (t317 == t320 && (t318 == t321))) = false := by simpa using c7))
   (try (have c7b3 : ¬ (t316 = t319 && (t317 == t320 && (t318 == t321))) := by simpa using c7))
   clear c7
   exact absurd H (by simp)
 ·replace c4 := Bool.eq_false_iff.mpr c4
  subst c4
  have H1 : ((triglyphlaw24_works.f k).bind fun t323 => (some t323)) = some r := by rw [if_neg (show ¬ (false = true) by decide)] at H; exact H
  clear H; have H := H1; clear H1
  replace H := Option.bind_eq_some_iff.mp H
  obtain ⟨t323, A160, H⟩ := H
  replace H : (some t323) = some r := H
  have A16 := gA A160
  clear A160
  obtain rfl := Option.some.inj H
  go_enter Try.func3, Try.ntmps3
  go_wp2_with (first | ((with_reducible refine gate_dst (N := 3) rfl ?_); refine box_event ?hg (N := 3) ?hd (cs := #[.int .i64 a1_0, .int .i64 a1_1, .string a1_2, .slice A1_3 l1_3.length c1_3, .slice A1_4 l1_4.length c1_4, .slice A1_5 l1_5.length c1_5, .int .i64 a1_6]) (t := 28) ?hr ?_; (case hd => rfl); (case hg => rfl); (case hr => first | (go_simp; done) | (go_simp; rfl)); intro gb314 hg w17 hbox hb; have BK314 := gA (hbox); have GW314 := gA ((by rw [hg]; exact (below_size (gB HB)) : w.heap.size ≤ gb314)); have GE314 := gA ((by rw [hg]; exact (below_size (gB HB)) : w.heap.size ≤ gb314)); replace HB := gA (below_step (gB HB) hb); clear hb hbox hg; have hcz18_0 := gz BK314 0 rfl; have hcz18_1 := gz BK314 1 rfl; have hcz18_2 := gz BK314 2 rfl; have hcz18_3 := gz BK314 3 rfl; have hcz18_4 := gz BK314 4 rfl; have hcz18_5 := gz BK314 5 rfl; have hcz18_6 := gz BK314 6 rfl; have hfz18_0 := blk_frozen BK314.out 0; have hfz18_1 := blk_frozen BK314.out 1; have hfz18_2 := blk_frozen BK314.out 2; have hfz18_3 := blk_frozen BK314.out 3; have hfz18_4 := blk_frozen BK314.out 4; have hfz18_5 := blk_frozen BK314.out 5; have hfz18_6 := blk_frozen BK314.out 6) | ((with_reducible refine gate_callee (f := 6) rfl ?_); refine goesL_ (some 6) rfl rfl Try.func6 (by kernel_rfl) rfl #[.agg #[.int .i64 a1_0, .int .i64 a1_1, .string a1_2, .slice A1_3 l1_3.length c1_3, .slice A1_4 l1_4.length c1_4, .slice A1_5 l1_5.length c1_5, .int .i64 a1_6]] rfl (by (try simp only [List.map_toArray, List.map_cons, List.map_nil]); first | done | rfl | (simp only [List.length_drop, List.length_take]; rfl)) ?_; (with_reducible refine (triglyphlaw24_light.calls k a1_0 a1_1 a1_2 _ _ l1_3 _ _ l1_4 _ _ l1_5 a1_6 false _ ?side1 ?side2 ?side3 ?side4 ?side5 ?side6 A3.out).mono ?_); (case side1 => exact gC HR1_3 HB); (case side2 => exact HC1_3.out); (case side3 => exact gC HR1_4 HB); (case side4 => exact HC1_4.out); (case side5 => exact gC HR1_5 HB); (case side6 => exact HC1_5.out); rintro e w19 ⟨rfl, hb⟩; refine ⟨_, rfl, ?_⟩; replace BK314 := gA (blk_below (gK BK314) hb); replace HB := gA (below_step (gB HB) hb); (try clear hb)) | ((with_reducible refine gate_callee (f := 7) rfl ?_); refine goesL_ (some 8) rfl rfl Try.func7 (by kernel_rfl) rfl #[] rfl (by (try simp only [List.map_toArray, List.map_cons, List.map_nil]); first | done | rfl | (simp only [List.length_drop, List.length_take]; rfl)) ?_; (with_reducible refine (triglyphlaw24_works.calls k  t323 _ A16.out).mono ?_); rintro e w20 ⟨rfl, hb⟩; refine ⟨_, rfl, ?_⟩; replace BK314 := gA (blk_below (gK BK314) hb); replace HB := gA (below_step (gB HB) hb); (try clear hb)))
  go_ret
  exact ⟨rfl, by repeat first | exact gB HB | refine below_set ?_ GE314.out⟩
end Go.Proofs.Ytfjkclhkobnakaa.P
