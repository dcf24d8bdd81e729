/- Written by a program of this session: the functions that the laws reach, what each comes to, and each law as it is stated, for every input. No condition. -/
import Derived.Test.YtfjkclhkobnakaaPx0
import Derived.Test.YtfjkclhkobnakaaPx15
import Derived.Test.YtfjkclhkobnakaaPx17
namespace Go.Proofs.Ytfjkclhkobnakaa.P
open Go.RowKit Go.Proofs.YtfjkclhkobnakaaW.PrintWords Go.Proofs.YtfjkclhkobnakaaW.PrintLast Go.Proofs.YtfjkclhkobnakaaW.PrintMore
attribute [local go_sem] max2_int min2_int max_two min_two max_three min_three max_four min_four   -- for this text's walks alone
set_option linter.unusedVariables false
set_option linter.unusedSimpArgs false
mutual
def triglyphref24_first.j0 : Nat → Int → Bool → Int → Int → ByteArray → List Int → List (S57) → List (S28) → Int → Option (Int × Int × Int)
 | 0, _, _, _, _, _, _, _, _, _ => none
 | k + 1, x0, x49, x295000, x295001, x295002, x295003, x295004, x295005, x295006 => if x49 = true then (if 1 < (x295005.length : Int) then (if ((rd_T28 x295005 1).f0) = 1 then (if (((rd_T28 x295005 1).f3.f0).length : Int) = 0 then (some (13, (rd_T28 x295005 1).f5, 4)) else (triglyphref24_first.j1 k x0 x295000 x295001 x295002 x295003 x295004 x295005 x295006)) else (some (13, (rd_T28 x295005 1).f5, 4))) else (none)) else (triglyphref24_first.j1 k x0 x295000 x295001 x295002 x295003 x295004 x295005 x295006)
def triglyphref24_first.j1 : Nat → Int → Int → Int → ByteArray → List Int → List (S57) → List (S28) → Int → Option (Int × Int × Int)
 | 0, _, _, _, _, _, _, _, _ => none
 | k + 1, x0, x295000, x295001, x295002, x295003, x295004, x295005, x295006 => triglyphref24_first.l0 k x0 0 x295000 x295001 x295002 x295003 x295004 x295005 x295006
def triglyphref24_first.l0 : Nat → Int → Int → Int → Int → ByteArray → List Int → List (S57) → List (S28) → Int → Option (Int × Int × Int)
 | 0, _, _, _, _, _, _, _, _, _ => none
 | k + 1, x0, x7, x295000, x295001, x295002, x295003, x295004, x295005, x295006 => if x7 < (x295005.length : Int) then (if 0 ≤ x7 then ((triglyphref24_first.f k x0 ((rd_T28 x295005 x7).f0) ((rd_T28 x295005 x7).f1) ((rd_T28 x295005 x7).f2) ((rd_T28 x295005 x7).f3.f0) ((rd_T28 x295005 x7).f3.f1) ((rd_T28 x295005 x7).f4) ((rd_T28 x295005 x7).f5)).bind fun bt304 => (if bt304.1 = 0 then (triglyphref24_first.l0 k x0 (wrap64 (x7 + 1)) x295000 x295001 x295002 x295003 x295004 x295005 x295006) else (some (bt304.1, bt304.2.1, bt304.2.2)))) else (none)) else (some (0, 0, 0))
def triglyphref24_first.f : Nat → Int → Int → Int → ByteArray → List Int → List (S57) → List (S28) → Int → Option (Int × Int × Int)
 | 0, _, _, _, _, _, _, _, _ => none
 | k + 1, a0, a1_0, a1_1, a1_2, l1_3, l1_4, l1_5, a1_6 => (triglyphref24_alone.f a0 a1_0 a1_1 a1_2 l1_3 l1_4 l1_5 a1_6).bind fun t296 => (if t296 = true then (if 0 < (l1_5.length : Int) then (some (13, (rd_T28 l1_5 0).f5, 7)) else (none)) else ((triglyphref24_Reason.f k a0 a1_0 a1_1 a1_2 l1_3 l1_4 l1_5 a1_6).bind fun t298 => (if t298 > 0 then (some (13, a1_6, t298)) else (if a0 = 2 then (if a1_0 = 6 then (if 0 < (l1_5.length : Int) then (if ((rd_T28 l1_5 0).f0) = 21 then (triglyphref24_first.j0 k a0 (((rd_T28 l1_5 0).f1) == 41) a1_0 a1_1 a1_2 l1_3 l1_4 l1_5 a1_6) else (triglyphref24_first.j0 k a0 false a1_0 a1_1 a1_2 l1_3 l1_4 l1_5 a1_6)) else (none)) else (triglyphref24_first.j0 k a0 false a1_0 a1_1 a1_2 l1_3 l1_4 l1_5 a1_6)) else (triglyphref24_first.j0 k a0 false a1_0 a1_1 a1_2 l1_3 l1_4 l1_5 a1_6)))))
end
theorem triglyphref24_first.mono_l : ∀ k, (∀ y0 y1 y2 y3 y4 y5 y6 y7, LeO (triglyphref24_first.f k y0 y1 y2 y3 y4 y5 y6 y7) (triglyphref24_first.f (k + 1) y0 y1 y2 y3 y4 y5 y6 y7)) ∧ (∀ y0 y1 y2 y3 y4 y5 y6 y7 y8, LeO (triglyphref24_first.j0 k y0 y1 y2 y3 y4 y5 y6 y7 y8) (triglyphref24_first.j0 (k + 1) y0 y1 y2 y3 y4 y5 y6 y7 y8)) ∧ (∀ y0 y1 y2 y3 y4 y5 y6 y7, LeO (triglyphref24_first.j1 k y0 y1 y2 y3 y4 y5 y6 y7) (triglyphref24_first.j1 (k + 1) y0 y1 y2 y3 y4 y5 y6 y7)) ∧ (∀ y0 y1 y2 y3 y4 y5 y6 y7 y8, LeO (triglyphref24_first.l0 k y0 y1 y2 y3 y4 y5 y6 y7 y8) (triglyphref24_first.l0 (k + 1) y0 y1 y2 y3 y4 y5 y6 y7 y8))
 | 0 => ⟨fun _ _ _ _ _ _ _ _ r h => by simp [triglyphref24_first.f] at h, fun _ _ _ _ _ _ _ _ _ r h => by simp [triglyphref24_first.j0] at h, fun _ _ _ _ _ _ _ _ r h => by simp [triglyphref24_first.j1] at h, fun _ _ _ _ _ _ _ _ _ r h => by simp [triglyphref24_first.l0] at h⟩
 | k + 1 => by
  obtain ⟨ih0, ih1, ih2, ih3⟩ := triglyphref24_first.mono_l k
  refine ⟨?_, ?_, ?_, ?_⟩
  ·intro y0 y1 y2 y3 y4 y5 y6 y7
   unfold triglyphref24_first.f
   repeat' first
   | (with_reducible exact ih0 _ _ _ _ _ _ _ _)
   | (with_reducible exact ih1 _ _ _ _ _ _ _ _ _)
   | (with_reducible exact ih2 _ _ _ _ _ _ _ _)
   | (with_reducible exact ih3 _ _ _ _ _ _ _ _ _)
   | (with_reducible exact triglyphref24_Reason.mono _ _ _ _ _ _ _ _ _)
   | (with_reducible exact LeO.refl _)
   | (with_reducible exact LeO.none _)
   | (with_reducible refine LeO.ite ?_ ?_)
   | (with_reducible refine LeO.bind ?_ (fun _ => ?_))




   | exact triglyphref24_Reason.mono _ _ _ _ _ _ _ _ _



  ·intro y0 y1 y2 y3 y4 y5 y6 y7 y8
   unfold triglyphref24_first.j0
   repeat' first
   | (with_reducible exact ih0 _ _ _ _ _ _ _ _)
   | (with_reducible exact ih1 _ _ _ _ _ _ _ _ _)
   | (with_reducible exact ih2 _ _ _ _ _ _ _ _)
   | (with_reducible exact ih3 _ _ _ _ _ _ _ _ _)
   | (with_reducible exact triglyphref24_Reason.mono _ _ _ _ _ _ _ _ _)
   | (with_reducible exact LeO.refl _)
   | (with_reducible exact LeO.none _)
   | (with_reducible refine LeO.ite ?_ ?_)
   | (with_reducible refine LeO.bind ?_ (fun _ => ?_))




   | exact triglyphref24_Reason.mono _ _ _ _ _ _ _ _ _



  ·intro y0 y1 y2 y3 y4 y5 y6 y7
   unfold triglyphref24_first.j1
   repeat' first
   | (with_reducible exact ih0 _ _ _ _ _ _ _ _)
   | (with_reducible exact ih1 _ _ _ _ _ _ _ _ _)
   | (with_reducible exact ih2 _ _ _ _ _ _ _ _)
   | (with_reducible exact ih3 _ _ _ _ _ _ _ _ _)
   | (with_reducible exact triglyphref24_Reason.mono _ _ _ _ _ _ _ _ _)
   | (with_reducible exact LeO.refl _)
   | (with_reducible exact LeO.none _)
   | (with_reducible refine LeO.ite ?_ ?_)
   | (with_reducible refine LeO.bind ?_ (fun _ => ?_))




   | exact triglyphref24_Reason.mono _ _ _ _ _ _ _ _ _



  ·intro y0 y1 y2 y3 y4 y5 y6 y7 y8
   unfold triglyphref24_first.l0
   repeat' first
   | (with_reducible exact ih0 _ _ _ _ _ _ _ _)
   | (with_reducible exact ih1 _ _ _ _ _ _ _ _ _)
   | (with_reducible exact ih2 _ _ _ _ _ _ _ _)
   | (with_reducible exact ih3 _ _ _ _ _ _ _ _ _)
   | (with_reducible exact triglyphref24_Reason.mono _ _ _ _ _ _ _ _ _)
   | (with_reducible exact LeO.refl _)
   | (with_reducible exact LeO.none _)
   | (with_reducible refine LeO.ite ?_ ?_)
   | (with_reducible refine LeO.bind ?_ (fun _ => ?_))




   | exact triglyphref24_Reason.mono _ _ _ _ _ _ _ _ _
theorem triglyphref24_first.mono : ∀ a0 a1 a2 a3 a4 a5 a6 a7 k, LeO (triglyphref24_first.f k a0 a1 a2 a3 a4 a5 a6 a7) (triglyphref24_first.f (k + 1) a0 a1 a2 a3 a4 a5 a6 a7) := by
 intro a0 a1 a2 a3 a4 a5 a6 a7 k
 obtain ⟨ih0, ih1, ih2, ih3⟩ := triglyphref24_first.mono_l k
 exact ih0 a0 a1 a2 a3 a4 a5 a6 a7
set_option maxHeartbeats 8000000 in
set_option maxRecDepth 100000 in
theorem triglyphref24_first.calls (k : Nat) : ∀ (a0 : Int) (a1_0 : Int) (a1_1 : Int) (a1_2 : ByteArray) (A1_3 : Option Addr) (c1_3 : Nat) (l1_3 : List Int) (A1_4 : Option Addr) (c1_4 : Nat) (l1_4 : List (S57)) (A1_5 : Option Addr) (c1_5 : Nat) (l1_5 : List (S28)) (a1_6 : Int) (r1 : Int) (r2 : Int) (r3 : Int) (w : World) (hr1_3 : Kd.C (Kd.int .i64) w A1_3 l1_3.length l1_3) (hc1_3 : l1_3.length ≤ c1_3) (hr1_4 : Kd.C k57 w A1_4 l1_4.length l1_4) (hc1_4 : l1_4.length ≤ c1_4) (hr1_5 : Kd.C k28 w A1_5 l1_5.length l1_5) (hc1_5 : l1_5.length ≤ c1_5) (h : triglyphref24_first.f k a0 a1_0 a1_1 a1_2 l1_3 l1_4 l1_5 a1_6 = some (r1, r2, r3)),
  Calls Try.prog 20 #[.int .i64 a0, .agg #[.int .i64 a1_0, .int .i64 a1_1, .string a1_2, .slice A1_3 l1_3.length c1_3, .slice A1_4 l1_4.length c1_4, .slice A1_5 l1_5.length c1_5, .int .i64 a1_6]] w fun e w' => e = .returned (.agg #[.int .i64 r1, .int .i64 r2, .int .i64 r3]) ∧ Below w.heap.size w w' := by
 induction k using Nat.strongRecOn with
 | _ k ih =>
 intro a0 a1_0 a1_1 a1_2 A1_3 c1_3 l1_3 A1_4 c1_4 l1_4 A1_5 c1_5 l1_5 a1_6 r1 r2 r3 w hr1_3 hc1_3 hr1_4 hc1_4 hr1_5 hc1_5 h
 cases k with
 | zero => exact absurd h (by simp [triglyphref24_first.f])
 | succ k =>
 simp only [triglyphref24_first.f] at h
 have hu28 := Try.underlying28
 have hu33 := Try.underlying33
 have HR1_3 := gA hr1_3
 have HC1_3 := gA hc1_3
 clear hr1_3 hc1_3
 have HR1_4 := gA hr1_4
 have HC1_4 := gA hc1_4
 clear hr1_4 hc1_4
 have HR1_5 := gA hr1_5
 have HC1_5 := gA hc1_5
 clear hr1_5 hc1_5
 have HB := gA (Below.refl w.heap.size w)
 have H : ((triglyphref24_alone.f a0 a1_0 a1_1 a1_2 l1_3 l1_4 l1_5 a1_6).bind fun t296 => (if t296 = true then (if 0 < (l1_5.length : Int) then (some (13, (rd_T28 l1_5 0).f5, 7)) else (none)) else ((triglyphref24_Reason.f k a0 a1_0 a1_1 a1_2 l1_3 l1_4 l1_5 a1_6).bind fun t298 => (if t298 > 0 then (some (13, a1_6, t298)) else (if a0 = 2 then (if a1_0 = 6 then (if 0 < (l1_5.length : Int) then (if ((rd_T28 l1_5 0).f0) = 21 then (triglyphref24_first.j0 k a0 (((rd_T28 l1_5 0).f1) == 41) a1_0 a1_1 a1_2 l1_3 l1_4 l1_5 a1_6) else (triglyphref24_first.j0 k a0 false a1_0 a1_1 a1_2 l1_3 l1_4 l1_5 a1_6)) else (none)) else (triglyphref24_first.j0 k a0 false a1_0 a1_1 a1_2 l1_3 l1_4 l1_5 a1_6)) else (triglyphref24_first.j0 k a0 false a1_0 a1_1 a1_2 l1_3 l1_4 l1_5 a1_6)))))) = some (r1, r2, r3) := h
 clear h
 replace H := Option.bind_eq_some_iff.mp H
 obtain ⟨t296, A30, H⟩ := H
 replace H : (if t296 = true then (if 0 < (l1_5.length : Int) then (some (13, (rd_T28 l1_5 0).f5, 7)) else (none)) else ((triglyphref24_Reason.f k a0 a1_0 a1_1 a1_2 l1_3 l1_4 l1_5 a1_6).bind fun t298 => (if t298 > 0 then (some (13, a1_6, t298)) else (if a0 = 2 then (if a1_0 = 6 then (if 0 < (l1_5.length : Int) then (if ((rd_T28 l1_5 0).f0) = 21 then (triglyphref24_first.j0 k a0 (((rd_T28 l1_5 0).f1) == 41) a1_0 a1_1 a1_2 l1_3 l1_4 l1_5 a1_6) else (triglyphref24_first.j0 k a0 false a1_0 a1_1 a1_2 l1_3 l1_4 l1_5 a1_6)) else (none)) else (triglyphref24_first.j0 k a0 false a1_0 a1_1 a1_2 l1_3 l1_4 l1_5 a1_6)) else (triglyphref24_first.j0 k a0 false a1_0 a1_1 a1_2 l1_3 l1_4 l1_5 a1_6))))) = some (r1, r2, r3) := H
 have A3 := gA A30
 clear A30
 have HC4 := gA H
 clear H
 go_enter Try.func20, Try.ntmps20
 go_upto_if 11 with (first | ((with_reducible refine gate_dst (N := 3) rfl ?_); (try (refine gate_guard (by rfl) ?_; dsimp only)); refine box_event ?hg (N := 3) ?hd (cs := #[.int .i64 a1_0, .int .i64 a1_1, .string a1_2, .slice A1_3 l1_3.length c1_3, .slice A1_4 l1_4.length c1_4, .slice A1_5 l1_5.length c1_5, .int .i64 a1_6]) (t := 28) ?hr ?_; (case hd => rfl); (case hg => rfl); (case hr => first | (go_simp; done) | (go_simp; rfl)); intro gb294 hg w5 hbox hb; have BK294 := gA (hbox); have GW294 := gA ((by rw [hg]; exact (below_size (gB HB)) : w.heap.size ≤ gb294)); have GE294 := gA ((by rw [hg]; exact (below_size (gB HB)) : w.heap.size ≤ gb294)); replace HB := gA (below_step (gB HB) hb); clear hb hbox hg) | ((with_reducible refine gate_dst (N := 4) rfl ?_); (try (refine gate_guard (by rfl) ?_; dsimp only)); refine box_event ?hg (N := 4) ?hd (cs := #[.int .i64 0, .int .i64 0, .int .i64 0]) (t := 33) ?hr ?_; (case hd => rfl); (case hg => rfl); (case hr => first | (go_simp; done) | (go_simp; rfl)); intro gb295 hg w6 hbox hb; have BK295 := gA (hbox); have GW295 := gA ((by rw [hg]; exact (below_size (gB HB)) : w.heap.size ≤ gb295)); have GE295 := gA ((by rw [hg]; exact (below_size (gB HB)) : w.heap.size ≤ gb295)); replace HB := gA (below_step (gB HB) hb); have NB294_295 := gA ((by rw [hg]; exact Nat.ne_of_lt (blk_lt (gK BK294)) : gb294 ≠ gb295)); have NB295_294 := gA ((by rw [hg]; exact Nat.ne_of_gt (blk_lt (gK BK294)) : gb295 ≠ gb294)); replace BK294 := gA (blk_below (gK BK294) hb); clear hb hbox hg; have hnb7 := NB294_295.out; have hnc7 := NB295_294.out; have hcz8_0 := gz BK294 0 rfl; have hcz8_1 := gz BK294 1 rfl; have hcz8_2 := gz BK294 2 rfl; have hcz8_3 := gz BK294 3 rfl; have hcz8_4 := gz BK294 4 rfl; have hcz8_5 := gz BK294 5 rfl; have hcz8_6 := gz BK294 6 rfl; have hfz8_0 := blk_frozen BK294.out 0; have hfz8_1 := blk_frozen BK294.out 1; have hfz8_2 := blk_frozen BK294.out 2; have hfz8_3 := blk_frozen BK294.out 3; have hfz8_4 := blk_frozen BK294.out 4; have hfz8_5 := blk_frozen BK294.out 5; have hfz8_6 := blk_frozen BK294.out 6) | ((with_reducible refine gate_callee (f := 31) rfl ?_); refine goesL_ (some 11) rfl rfl Try.func31 (by kernel_rfl) rfl #[.int .i64 a0, .agg #[.int .i64 a1_0, .int .i64 a1_1, .string a1_2, .slice A1_3 l1_3.length c1_3, .slice A1_4 l1_4.length c1_4, .slice A1_5 l1_5.length c1_5, .int .i64 a1_6]] rfl (by (try simp only [List.map_toArray, List.map_cons, List.map_nil]); first | done | rfl | (simp only [List.length_drop, List.length_take]; rfl)) ?_; (with_reducible refine (triglyphref24_alone.calls a0 a1_0 a1_1 a1_2 _ _ l1_3 _ _ l1_4 _ _ l1_5 a1_6 t296 _ ?side1 ?side2 ?side3 ?side4 ?side5 ?side6 A3.out).mono ?_); (case side1 => exact gC HR1_3 HB); (case side2 => exact HC1_3.out); (case side3 => exact gC HR1_4 HB); (case side4 => exact HC1_4.out); (case side5 => exact gC HR1_5 HB); (case side6 => exact HC1_5.out); rintro e w9 ⟨rfl, hb⟩; refine ⟨_, rfl, ?_⟩; replace BK294 := gA (blk_below (gK BK294) hb); replace BK295 := gA (blk_below (gK BK295) hb); replace HB := gA (below_step (gB HB) hb); (try clear hb)))
 have H := HC4.out; clear HC4
 by_cases c10 : t296 = true
 ·subst c10
  have H1 : (if 0 < (l1_5.length : Int) then (some (13, (rd_T28 l1_5 0).f5, 7)) else (none)) = some (r1, r2, r3) := by rw [if_pos rfl] at H; exact H
  clear H; have H := H1; clear H1
  obtain ⟨c11, H⟩ := iS H
  have c11b0 := decide_eq_true c11
  have c11b1 : decide (0 < l1_5.length) = true := decide_eq_true (by omega)
  clear c11
  (first | rw [c11b0] | rw [c11b1] | (simp only [i64_w, i32_w]; rw [c11b0]) | skip)
  simp only [Option.some.injEq, Prod.mk.injEq] at H
  obtain ⟨rfl, rfl, rfl⟩ := H
  have hnb12 := NB294_295.out
  have hnc12 := NB295_294.out
  have hcz13_0 := gz BK294 0 rfl
  have hcz13_1 := gz BK294 1 rfl
  have hcz13_2 := gz BK294 2 rfl
  have hcz13_3 := gz BK294 3 rfl
  have hcz13_4 := gz BK294 4 rfl
  have hcz13_5 := gz BK294 5 rfl
  have hcz13_6 := gz BK294 6 rfl
  have hfz13_0 := blk_frozen BK294.out 0
  have hfz13_1 := blk_frozen BK294.out 1
  have hfz13_2 := blk_frozen BK294.out 2
  have hfz13_3 := blk_frozen BK294.out 3
  have hfz13_4 := blk_frozen BK294.out 4
  have hfz13_5 := blk_frozen BK294.out 5
  have hfz13_6 := blk_frozen BK294.out 6
  have p297 : 0 ≤ (0 : Int) := (by omega)
  have q297 : 0 < (l1_5.length : Int) := of_decide_eq_true (by assumption)
  obtain ⟨ad297, A297_3, c297_3, A297_4, c297_4, A297_5, c297_5, e297, hx297_0, hx297_1, hx297_2, hx297_3, hx297_4, hx297_5, hx297_6, hl297_3, hi297_3, hl297_4, hi297_4, hl297_5, hi297_5⟩ := at_T28 HR1_5.out 0 p297 q297
  cases e297
  have qi297 : (0 < l1_5.length) = True := eq_true (by omega)
  (try rw [show ((0 : Int)).toNat = 0 from rfl] at hx297_0)
  (try rw [show 0 * 7 = 0 from rfl] at hx297_0)
  (try rw [Addr.add_zero'] at hx297_0)
  (try rw [show ((0 : Int)).toNat = 0 from rfl] at hx297_1)
  (try rw [show 0 * 7 = 0 from rfl] at hx297_1)
  (try rw [Addr.add_zero'] at hx297_1)
  (try rw [show ((0 : Int)).toNat = 0 from rfl] at hx297_2)
  (try rw [show 0 * 7 = 0 from rfl] at hx297_2)
  (try rw [Addr.add_zero'] at hx297_2)
  (try rw [show ((0 : Int)).toNat = 0 from rfl] at hx297_3)
  (try rw [show 0 * 7 = 0 from rfl] at hx297_3)
  (try rw [Addr.add_zero'] at hx297_3)
  (try rw [show ((0 : Int)).toNat = 0 from rfl] at hx297_4)
  (try rw [show 0 * 7 = 0 from rfl] at hx297_4)
  (try rw [Addr.add_zero'] at hx297_4)
  (try rw [show ((0 : Int)).toNat = 0 from rfl] at hx297_5)
  (try rw [show 0 * 7 = 0 from rfl] at hx297_5)
  (try rw [Addr.add_zero'] at hx297_5)
  (try rw [show ((0 : Int)).toNat = 0 from rfl] at hx297_6)
  (try rw [show 0 * 7 = 0 from rfl] at hx297_6)
  (try rw [Addr.add_zero'] at hx297_6)
  replace hx297_0 := (HB.out.cell (World.block_lt_of_cell? w _ hx297_0)).trans hx297_0
  replace hx297_1 := (HB.out.cell (World.block_lt_of_cell? w _ hx297_1)).trans hx297_1
  replace hx297_2 := (HB.out.cell (World.block_lt_of_cell? w _ hx297_2)).trans hx297_2
  replace hx297_3 := (HB.out.cell (World.block_lt_of_cell? w _ hx297_3)).trans hx297_3
  replace hx297_4 := (HB.out.cell (World.block_lt_of_cell? w _ hx297_4)).trans hx297_4
  replace hx297_5 := (HB.out.cell (World.block_lt_of_cell? w _ hx297_5)).trans hx297_5
  replace hx297_6 := (HB.out.cell (World.block_lt_of_cell? w _ hx297_6)).trans hx297_6
  have HR297_3 := gA hi297_3
  have HC297_3 := gA hl297_3
  clear hi297_3 hl297_3
  have HR297_4 := gA hi297_4
  have HC297_4 := gA hl297_4
  clear hi297_4 hl297_4
  have HR297_5 := gA hi297_5
  have HC297_5 := gA hl297_5
  clear hi297_5 hl297_5
  replace p297 := eq_true p297
  replace q297 := eq_true q297
  obtain ⟨hcz14_0, hcz14_1, hcz14_2, hfz14_0, hfz14_1, hfz14_2⟩ := gz3 BK295
  go_wp2
  refine bodyPost_ret (results_cell_row rfl _ _ gb295 33 #[.int .i64 13, .int .i64 ((rd_T28 l1_5 0).f5), .int .i64 7] (0, 0) _ rfl (by refine blk_put (cs := #[.int .i64 13, .int .i64 ((rd_T28 l1_5 0).f5), .int .i64 0]) ?_ 2 _ rfl; refine blk_put (cs := #[.int .i64 13, .int .i64 0, .int .i64 0]) ?_ 1 _ rfl; refine blk_put (cs := #[.int .i64 0, .int .i64 0, .int .i64 0]) ?_ 0 _ rfl; exact gK BK295) Try.underlying33 rfl (by kernel_rfl)) rfl ?_
  exact ⟨rfl, by repeat first | exact gB HB | refine below_set ?_ GE294.out | refine below_set ?_ GE295.out⟩
 ·replace c10 := Bool.eq_false_iff.mpr c10
  subst c10
  have H1 : ((triglyphref24_Reason.f k a0 a1_0 a1_1 a1_2 l1_3 l1_4 l1_5 a1_6).bind fun t298 => (if t298 > 0 then (some (13, a1_6, t298)) else (if a0 = 2 then (if a1_0 = 6 then (if 0 < (l1_5.length : Int) then (if ((rd_T28 l1_5 0).f0) = 21 then (triglyphref24_first.j0 k a0 (((rd_T28 l1_5 0).f1) == 41) a1_0 a1_1 a1_2 l1_3 l1_4 l1_5 a1_6) else (triglyphref24_first.j0 k a0 false a1_0 a1_1 a1_2 l1_3 l1_4 l1_5 a1_6)) else (none)) else (triglyphref24_first.j0 k a0 false a1_0 a1_1 a1_2 l1_3 l1_4 l1_5 a1_6)) else (triglyphref24_first.j0 k a0 false a1_0 a1_1 a1_2 l1_3 l1_4 l1_5 a1_6)))) = some (r1, r2, r3) := by rw [if_neg (show ¬ (false = true) by decide)] at H; exact H
  clear H; have H := H1; clear H1
  replace H := Option.bind_eq_some_iff.mp H
  obtain ⟨t298, A150, H⟩ := H
  replace H : (if t298 > 0 then (some (13, a1_6, t298)) else (if a0 = 2 then (if a1_0 = 6 then (if 0 < (l1_5.length : Int) then (if ((rd_T28 l1_5 0).f0) = 21 then (triglyphref24_first.j0 k a0 (((rd_T28 l1_5 0).f1) == 41) a1_0 a1_1 a1_2 l1_3 l1_4 l1_5 a1_6) else (triglyphref24_first.j0 k a0 false a1_0 a1_1 a1_2 l1_3 l1_4 l1_5 a1_6)) else (none)) else (triglyphref24_first.j0 k a0 false a1_0 a1_1 a1_2 l1_3 l1_4 l1_5 a1_6)) else (triglyphref24_first.j0 k a0 false a1_0 a1_1 a1_2 l1_3 l1_4 l1_5 a1_6))) = some (r1, r2, r3) := H
  have A15 := gA A150
  clear A150
  have HC16 := gA H
  clear H
  have hnb17 := NB294_295.out
  have hnc17 := NB295_294.out
  have hcz18_0 := gz BK294 0 rfl
  have hcz18_1 := gz BK294 1 rfl
  have hcz18_2 := gz BK294 2 rfl
  have hcz18_3 := gz BK294 3 rfl
  have hcz18_4 := gz BK294 4 rfl
  have hcz18_5 := gz BK294 5 rfl
  have hcz18_6 := gz BK294 6 rfl
  have hfz18_0 := blk_frozen BK294.out 0
  have hfz18_1 := blk_frozen BK294.out 1
  have hfz18_2 := blk_frozen BK294.out 2
  have hfz18_3 := blk_frozen BK294.out 3
  have hfz18_4 := blk_frozen BK294.out 4
  have hfz18_5 := blk_frozen BK294.out 5
  have hfz18_6 := blk_frozen BK294.out 6
  go_upto_if 22 with (first | ((with_reducible refine gate_callee (f := 32) rfl ?_); refine goesL_ (some 20) rfl rfl Try.func32 (by kernel_rfl) rfl #[.int .i64 a0, .agg #[.int .i64 a1_0, .int .i64 a1_1, .string a1_2, .slice A1_3 l1_3.length c1_3, .slice A1_4 l1_4.length c1_4, .slice A1_5 l1_5.length c1_5, .int .i64 a1_6]] rfl (by (try simp only [List.map_toArray, List.map_cons, List.map_nil]); first | done | rfl | (simp only [List.length_drop, List.length_take]; rfl)) ?_; (with_reducible refine (triglyphref24_Reason.calls k a0 a1_0 a1_1 a1_2 _ _ l1_3 _ _ l1_4 _ _ l1_5 a1_6 t298 _ ?side1 ?side2 ?side3 ?side4 ?side5 ?side6 A15.out).mono ?_); (case side1 => exact gC HR1_3 HB); (case side2 => exact HC1_3.out); (case side3 => exact gC HR1_4 HB); (case side4 => exact HC1_4.out); (case side5 => exact gC HR1_5 HB); (case side6 => exact HC1_5.out); rintro e w19 ⟨rfl, hb⟩; refine ⟨_, rfl, ?_⟩; replace BK294 := gA (blk_below (gK BK294) hb); replace BK295 := gA (blk_below (gK BK295) hb); replace HB := gA (below_step (gB HB) hb); (try clear hb)))
  have H := HC16.out; clear HC16
  by_cases c20 : t298 > 0
  ·rw [if_pos c20] at H
   have c20b0 : decide (0 < t298) = true := decide_eq_true c20
   clear c20
   (first | rw [c20b0] | (simp only [i64_w, i32_w]; rw [c20b0]) | skip)
   simp only [Option.some.injEq, Prod.mk.injEq] at H
   obtain ⟨rfl, rfl, rfl⟩ := H
   have hnb21 := NB294_295.out
   have hnc21 := NB295_294.out
   have hcz22_0 := gz BK294 0 rfl
   have hcz22_1 := gz BK294 1 rfl
   have hcz22_2 := gz BK294 2 rfl
   have hcz22_3 := gz BK294 3 rfl
   have hcz22_4 := gz BK294 4 rfl
   have hcz22_5 := gz BK294 5 rfl
   have hcz22_6 := gz BK294 6 rfl
   have hfz22_0 := blk_frozen BK294.out 0
   have hfz22_1 := blk_frozen BK294.out 1
   have hfz22_2 := blk_frozen BK294.out 2
   have hfz22_3 := blk_frozen BK294.out 3
   have hfz22_4 := blk_frozen BK294.out 4
   have hfz22_5 := blk_frozen BK294.out 5
   have hfz22_6 := blk_frozen BK294.out 6
   obtain ⟨hcz23_0, hcz23_1, hcz23_2, hfz23_0, hfz23_1, hfz23_2⟩ := gz3 BK295
   go_wp2
   refine bodyPost_ret (results_cell_row rfl _ _ gb295 33 #[.int .i64 13, .int .i64 a1_6, .int .i64 t298] (0, 0) _ rfl (by refine blk_put (cs := #[.int .i64 13, .int .i64 a1_6, .int .i64 0]) ?_ 2 _ rfl; refine blk_put (cs := #[.int .i64 13, .int .i64 0, .int .i64 0]) ?_ 1 _ rfl; refine blk_put (cs := #[.int .i64 0, .int .i64 0, .int .i64 0]) ?_ 0 _ rfl; exact gK BK295) Try.underlying33 rfl (by kernel_rfl)) rfl ?_
   exact ⟨rfl, by repeat first | exact gB HB | refine below_set ?_ GE294.out | refine below_set ?_ GE295.out⟩
  ·rw [if_neg c20] at H
   have c20b0 : decide (0 < t298) = false := decide_eq_false c20
   clear c20
   (first | rw [c20b0] | (simp only [i64_w, i32_w]; rw [c20b0]) | skip)
   have HC24 := gA H
   clear H
   go_upto_region 6 with (fail)
   go_cut [49] (fun v49 wc => ∃ (kq : Nat) (x49_23 : Bool), v49 = .bool x49_23 ∧ Aside0 (triglyphref24_first.j0 kq a0 x49_23 a1_0 a1_1 a1_2 l1_3 l1_4 l1_5 a1_6 = some (r1, r2, r3)) ∧ Aside0 (kq ≤ k) ∧ Aside0 (wc.heap[gb294]? = some (.cells #[.int .i64 a1_0, .int .i64 a1_1, .string a1_2, (.slice A1_3 l1_3.length c1_3), (.slice A1_4 l1_4.length c1_4), (.slice A1_5 l1_5.length c1_5), .int .i64 a1_6] 28 (0, 0))) ∧ Aside0 (wc.heap[gb295]? = some (.cells #[.int .i64 0, .int .i64 0, .int .i64 0] 33 (0, 0))) ∧ Aside0 (Below w.heap.size w wc))
   case first =>
    have H := HC24.out; clear HC24
    by_cases c25 : a0 = 2
    ·rw [if_pos c25] at H
     have c25b0 : (a0 == 2) = true := beq_iff_eq.mpr c25
     have c25b1 : (a0 != 2) = false := bne_eq_false_iff_eq.mpr c25
     clear c25
     (first | rw [c25b0] | rw [c25b1] | (simp only [i64_w, i32_w]; rw [c25b0]) | skip)
     by_cases c26 : a1_0 = 6
     ·rw [if_pos c26] at H
      have c26b0 : (a1_0 == 6) = true := beq_iff_eq.mpr c26
      have c26b1 : (a1_0 != 6) = false := bne_eq_false_iff_eq.mpr c26
      clear c26
      obtain ⟨c27, H⟩ := iS H
      have c27b0 := decide_eq_true c27
      have c27b1 : decide (0 < l1_5.length) = true := decide_eq_true (by omega)
      clear c27
      by_cases c28 : ((rd_T28 l1_5 0).f0) = 21
      ·rw [if_pos c28] at H
       have c28b0 : (((rd_T28 l1_5 0).f0) == 21) = true := beq_iff_eq.mpr c28
       have c28b1 : (((rd_T28 l1_5 0).f0) != 21) = false := bne_eq_false_iff_eq.mpr c28
       clear c28
       have H' := gA H
       clear H
       have hnb29 := NB294_295.out
       have hnc29 := NB295_294.out
       have hcz30_0 := gz BK294 0 rfl
       have hcz30_1 := gz BK294 1 rfl
       have hcz30_2 := gz BK294 2 rfl
       have hcz30_3 := gz BK294 3 rfl
       have hcz30_4 := gz BK294 4 rfl
       have hcz30_5 := gz BK294 5 rfl
       have hcz30_6 := gz BK294 6 rfl
       have hfz30_0 := blk_frozen BK294.out 0
       have hfz30_1 := blk_frozen BK294.out 1
       have hfz30_2 := blk_frozen BK294.out 2
       have hfz30_3 := blk_frozen BK294.out 3
       have hfz30_4 := blk_frozen BK294.out 4
       have hfz30_5 := blk_frozen BK294.out 5
       have hfz30_6 := blk_frozen BK294.out 6
       have p299 : 0 ≤ (0 : Int) := (by omega)
       have q299 : 0 < (l1_5.length : Int) := of_decide_eq_true (by assumption)
       obtain ⟨ad299, A299_3, c299_3, A299_4, c299_4, A299_5, c299_5, e299, hx299_0, hx299_1, hx299_2, hx299_3, hx299_4, hx299_5, hx299_6, hl299_3, hi299_3, hl299_4, hi299_4, hl299_5, hi299_5⟩ := at_T28 HR1_5.out 0 p299 q299
       cases e299
       have qi299 : (0 < l1_5.length) = True := eq_true (by omega)
       (try rw [show ((0 : Int)).toNat = 0 from rfl] at hx299_0)
       (try rw [show 0 * 7 = 0 from rfl] at hx299_0)
       (try rw [Addr.add_zero'] at hx299_0)
       (try rw [show ((0 : Int)).toNat = 0 from rfl] at hx299_1)
       (try rw [show 0 * 7 = 0 from rfl] at hx299_1)
       (try rw [Addr.add_zero'] at hx299_1)
       (try rw [show ((0 : Int)).toNat = 0 from rfl] at hx299_2)
       (try rw [show 0 * 7 = 0 from rfl] at hx299_2)
       (try rw [Addr.add_zero'] at hx299_2)
       (try rw [show ((0 : Int)).toNat = 0 from rfl] at hx299_3)
       (try rw [show 0 * 7 = 0 from rfl] at hx299_3)
       (try rw [Addr.add_zero'] at hx299_3)
       (try rw [show ((0 : Int)).toNat = 0 from rfl] at hx299_4)
       (try rw [show 0 * 7 = 0 from rfl] at hx299_4)
       (try rw [Addr.add_zero'] at hx299_4)
       (try rw [show ((0 : Int)).toNat = 0 from rfl] at hx299_5)
       (try rw [show 0 * 7 = 0 from rfl] at hx299_5)
       (try rw [Addr.add_zero'] at hx299_5)
       (try rw [show ((0 : Int)).toNat = 0 from rfl] at hx299_6)
       (try rw [show 0 * 7 = 0 from rfl] at hx299_6)
       (try rw [Addr.add_zero'] at hx299_6)
       replace hx299_0 := (HB.out.cell (World.block_lt_of_cell? w _ hx299_0)).trans hx299_0
       replace hx299_1 := (HB.out.cell (World.block_lt_of_cell? w _ hx299_1)).trans hx299_1
       replace hx299_2 := (HB.out.cell (World.block_lt_of_cell? w _ hx299_2)).trans hx299_2
       replace hx299_3 := (HB.out.cell (World.block_lt_of_cell? w _ hx299_3)).trans hx299_3
       replace hx299_4 := (HB.out.cell (World.block_lt_of_cell? w _ hx299_4)).trans hx299_4
       replace hx299_5 := (HB.out.cell (World.block_lt_of_cell? w _ hx299_5)).trans hx299_5
       replace hx299_6 := (HB.out.cell (World.block_lt_of_cell? w _ hx299_6)).trans hx299_6
       have HR299_3 := gA hi299_3
       have HC299_3 := gA hl299_3
       clear hi299_3 hl299_3
       have HR299_4 := gA hi299_4
       have HC299_4 := gA hl299_4
       clear hi299_4 hl299_4
       have HR299_5 := gA hi299_5
       have HC299_5 := gA hl299_5
       clear hi299_5 hl299_5
       replace p299 := eq_true p299
       replace q299 := eq_true q299
       have p300 : 0 ≤ (0 : Int) := (by omega)
       have q300 : 0 < (l1_5.length : Int) := of_decide_eq_true (by assumption)
       obtain ⟨ad300, A300_3, c300_3, A300_4, c300_4, A300_5, c300_5, e300, hx300_0, hx300_1, hx300_2, hx300_3, hx300_4, hx300_5, hx300_6, hl300_3, hi300_3, hl300_4, hi300_4, hl300_5, hi300_5⟩ := at_T28 HR1_5.out 0 p300 q300
       obtain rfl : ad299 = ad300 := (by injection e300)
       have qi300 : (0 < l1_5.length) = True := eq_true (by omega)
       (try rw [show ((0 : Int)).toNat = 0 from rfl] at hx300_0)
       (try rw [show 0 * 7 = 0 from rfl] at hx300_0)
       (try rw [Addr.add_zero'] at hx300_0)
       (try rw [show ((0 : Int)).toNat = 0 from rfl] at hx300_1)
       (try rw [show 0 * 7 = 0 from rfl] at hx300_1)
       (try rw [Addr.add_zero'] at hx300_1)
       (try rw [show ((0 : Int)).toNat = 0 from rfl] at hx300_2)
       (try rw [show 0 * 7 = 0 from rfl] at hx300_2)
       (try rw [Addr.add_zero'] at hx300_2)
       (try rw [show ((0 : Int)).toNat = 0 from rfl] at hx300_3)
       (try rw [show 0 * 7 = 0 from rfl] at hx300_3)
       (try rw [Addr.add_zero'] at hx300_3)
       (try rw [show ((0 : Int)).toNat = 0 from rfl] at hx300_4)
       (try rw [show 0 * 7 = 0 from rfl] at hx300_4)
       (try rw [Addr.add_zero'] at hx300_4)
       (try rw [show ((0 : Int)).toNat = 0 from rfl] at hx300_5)
       (try rw [show 0 * 7 = 0 from rfl] at hx300_5)
       (try rw [Addr.add_zero'] at hx300_5)
       (try rw [show ((0 : Int)).toNat = 0 from rfl] at hx300_6)
       (try rw [show 0 * 7 = 0 from rfl] at hx300_6)
       (try rw [Addr.add_zero'] at hx300_6)
       replace hx300_0 := (HB.out.cell (World.block_lt_of_cell? w _ hx300_0)).trans hx300_0
       replace hx300_1 := (HB.out.cell (World.block_lt_of_cell? w _ hx300_1)).trans hx300_1
       replace hx300_2 := (HB.out.cell (World.block_lt_of_cell? w _ hx300_2)).trans hx300_2
       replace hx300_3 := (HB.out.cell (World.block_lt_of_cell? w _ hx300_3)).trans hx300_3
       replace hx300_4 := (HB.out.cell (World.block_lt_of_cell? w _ hx300_4)).trans hx300_4
       replace hx300_5 := (HB.out.cell (World.block_lt_of_cell? w _ hx300_5)).trans hx300_5
       replace hx300_6 := (HB.out.cell (World.block_lt_of_cell? w _ hx300_6)).trans hx300_6
       have HR300_3 := gA hi300_3
       have HC300_3 := gA hl300_3
       clear hi300_3 hl300_3
       have HR300_4 := gA hi300_4
       have HC300_4 := gA hl300_4
       clear hi300_4 hl300_4
       have HR300_5 := gA hi300_5
       have HC300_5 := gA hl300_5
       clear hi300_5 hl300_5
       replace p300 := eq_true p300
       replace q300 := eq_true q300
       have ea_ := Option.some.inj (hx299_3.symm.trans hx300_3)
       injection ea_ with ea_ en_ ec_
       subst ea_
       subst ec_
       clear en_
       have ea_ := Option.some.inj (hx299_4.symm.trans hx300_4)
       injection ea_ with ea_ en_ ec_
       subst ea_
       subst ec_
       clear en_
       have ea_ := Option.some.inj (hx299_5.symm.trans hx300_5)
       injection ea_ with ea_ en_ ec_
       subst ea_
       subst ec_
       clear en_
       go_wp2
       all_goals (go_meet; (case rel => exact ⟨_, ((((rd_T28 l1_5 0).f1) == 41)), (by first | rfl | (simp; done) | (simp [*]; done) | (exfalso; simp_all; done) | (exfalso; simp_all; omega)), H', ⟨by first | omega | exact Nat.le_refl _⟩, ⟨gK BK294⟩, ⟨gK BK295⟩, ⟨gB HB⟩⟩))
      ·rw [if_neg c28] at H
       have c28b0 : (((rd_T28 l1_5 0).f0) == 21) = false := beq_eq_false_iff_ne.mpr c28
       have c28b1 : (((rd_T28 l1_5 0).f0) != 21) = true := bne_iff_ne.mpr c28
       have H' := gA H
       clear H
       have hnb31 := NB294_295.out
       have hnc31 := NB295_294.out
       have hcz32_0 := gz BK294 0 rfl
       have hcz32_1 := gz BK294 1 rfl
       have hcz32_2 := gz BK294 2 rfl
       have hcz32_3 := gz BK294 3 rfl
       have hcz32_4 := gz BK294 4 rfl
       have hcz32_5 := gz BK294 5 rfl
       have hcz32_6 := gz BK294 6 rfl
       have hfz32_0 := blk_frozen BK294.out 0
       have hfz32_1 := blk_frozen BK294.out 1
       have hfz32_2 := blk_frozen BK294.out 2
       have hfz32_3 := blk_frozen BK294.out 3
       have hfz32_4 := blk_frozen BK294.out 4
       have hfz32_5 := blk_frozen BK294.out 5
       have hfz32_6 := blk_frozen BK294.out 6
       have p299 : 0 ≤ (0 : Int) := (by omega)
       have q299 : 0 < (l1_5.length : Int) := of_decide_eq_true (by assumption)
       obtain ⟨ad299, A299_3, c299_3, A299_4, c299_4, A299_5, c299_5, e299, hx299_0, hx299_1, hx299_2, hx299_3, hx299_4, hx299_5, hx299_6, hl299_3, hi299_3, hl299_4, hi299_4, hl299_5, hi299_5⟩ := at_T28 HR1_5.out 0 p299 q299
       cases e299
       have qi299 : (0 < l1_5.length) = True := eq_true (by omega)
       (try rw [show ((0 : Int)).toNat = 0 from rfl] at hx299_0)
       (try rw [show 0 * 7 = 0 from rfl] at hx299_0)
       (try rw [Addr.add_zero'] at hx299_0)
       (try rw [show ((0 : Int)).toNat = 0 from rfl] at hx299_1)
       (try rw [show 0 * 7 = 0 from rfl] at hx299_1)
       (try rw [Addr.add_zero'] at hx299_1)
       (try rw [show ((0 : Int)).toNat = 0 from rfl] at hx299_2)
       (try rw [show 0 * 7 = 0 from rfl] at hx299_2)
       (try rw [Addr.add_zero'] at hx299_2)
       (try rw [show ((0 : Int)).toNat = 0 from rfl] at hx299_3)
       (try rw [show 0 * 7 = 0 from rfl] at hx299_3)
       (try rw [Addr.add_zero'] at hx299_3)
       (try rw [show ((0 : Int)).toNat = 0 from rfl] at hx299_4)
       (try rw [show 0 * 7 = 0 from rfl] at hx299_4)
       (try rw [Addr.add_zero'] at hx299_4)
       (try rw [show ((0 : Int)).toNat = 0 from rfl] at hx299_5)
       (try rw [show 0 * 7 = 0 from rfl] at hx299_5)
       (try rw [Addr.add_zero'] at hx299_5)
       (try rw [show ((0 : Int)).toNat = 0 from rfl] at hx299_6)
       (try rw [show 0 * 7 = 0 from rfl] at hx299_6)
       (try rw [Addr.add_zero'] at hx299_6)
       replace hx299_0 := (HB.out.cell (World.block_lt_of_cell? w _ hx299_0)).trans hx299_0
       replace hx299_1 := (HB.out.cell (World.block_lt_of_cell? w _ hx299_1)).trans hx299_1
       replace hx299_2 := (HB.out.cell (World.block_lt_of_cell? w _ hx299_2)).trans hx299_2
       replace hx299_3 := (HB.out.cell (World.block_lt_of_cell? w _ hx299_3)).trans hx299_3
       replace hx299_4 := (HB.out.cell (World.block_lt_of_cell? w _ hx299_4)).trans hx299_4
       replace hx299_5 := (HB.out.cell (World.block_lt_of_cell? w _ hx299_5)).trans hx299_5
       replace hx299_6 := (HB.out.cell (World.block_lt_of_cell? w _ hx299_6)).trans hx299_6
       have HR299_3 := gA hi299_3
       have HC299_3 := gA hl299_3
       clear hi299_3 hl299_3
       have HR299_4 := gA hi299_4
       have HC299_4 := gA hl299_4
       clear hi299_4 hl299_4
       have HR299_5 := gA hi299_5
       have HC299_5 := gA hl299_5
       clear hi299_5 hl299_5
       replace p299 := eq_true p299
       replace q299 := eq_true q299
       go_wp2
       all_goals (go_meet; (case rel => exact ⟨_, (false), (by first | rfl | (simp; done) | (simp [*]; done) | (exfalso; simp_all; done) | (exfalso; simp_all; omega)), H', ⟨by first | omega | exact Nat.le_refl _⟩, ⟨gK BK294⟩, ⟨gK BK295⟩, ⟨gB HB⟩⟩))
     ·rw [if_neg c26] at H
      have c26b0 : (a1_0 == 6) = false := beq_eq_false_iff_ne.mpr c26
      have c26b1 : (a1_0 != 6) = true := bne_iff_ne.mpr c26
      have H' := gA H
      clear H
      have hnb33 := NB294_295.out
      have hnc33 := NB295_294.out
      have hcz34_0 := gz BK294 0 rfl
      have hcz34_1 := gz BK294 1 rfl
      have hcz34_2 := gz BK294 2 rfl
      have hcz34_3 := gz BK294 3 rfl
      have hcz34_4 := gz BK294 4 rfl
      have hcz34_5 := gz BK294 5 rfl
      have hcz34_6 := gz BK294 6 rfl
      have hfz34_0 := blk_frozen BK294.out 0
      have hfz34_1 := blk_frozen BK294.out 1
      have hfz34_2 := blk_frozen BK294.out 2
      have hfz34_3 := blk_frozen BK294.out 3
      have hfz34_4 := blk_frozen BK294.out 4
      have hfz34_5 := blk_frozen BK294.out 5
      have hfz34_6 := blk_frozen BK294.out 6
      go_wp2
      all_goals (go_meet; (case rel => exact ⟨_, (false), (by first | rfl | (simp; done) | (simp [*]; done) | (exfalso; simp_all; done) | (exfalso; simp_all; omega)), H', ⟨by first | omega | exact Nat.le_refl _⟩, ⟨gK BK294⟩, ⟨gK BK295⟩, ⟨gB HB⟩⟩))
    ·rw [if_neg c25] at H
     have c25b0 : (a0 == 2) = false := beq_eq_false_iff_ne.mpr c25
     have c25b1 : (a0 != 2) = true := bne_iff_ne.mpr c25
     (first | rw [c25b0] | rw [c25b1] | (simp only [i64_w, i32_w]; rw [c25b0]) | skip)
     have H' := gA H
     clear H
     go_wp2
     all_goals (go_meet; (case rel => exact ⟨_, (false), (by first | rfl | (simp; done) | (simp [*]; done) | (exfalso; simp_all; done) | (exfalso; simp_all; omega)), H', ⟨by first | omega | exact Nat.le_refl _⟩, ⟨gK BK294⟩, ⟨gK BK295⟩, ⟨gB HB⟩⟩))
   case rest =>
    clear HC24
    try clear c1
    try clear c2
    try clear p2
    try clear q2
    try clear hx2
    try clear qi2
    try clear c3
    try clear p3
    try clear q3
    try clear hx3
    try clear qi3
    try clear c7
    try clear c10
    try clear c11
    try clear c11b0
    try clear c11b1
    try clear c12
    try clear c17
    try clear c20
    try clear c20b0
    try clear c21
    try clear c25
    try clear c25b0
    try clear c25b1
    try clear c26
    try clear c26b0
    try clear c26b1
    try clear c27
    try clear c27b0
    try clear c27b1
    try clear c28
    try clear c28b0
    try clear c28b1
    try clear c29
    try clear p29
    try clear q29
    try clear hx29
    try clear qi29
    try clear c30
    try clear p30
    try clear q30
    try clear hx30
    try clear qi30
    try clear c31
    try clear c32
    try clear c33
    try clear hcz13_0
    try clear hcz13_1
    try clear hcz13_2
    try clear hcz13_3
    try clear hcz13_4
    try clear hcz13_5
    try clear hcz13_6
    try clear hcz14_0
    try clear hcz14_1
    try clear hcz14_2
    try clear hcz18_0
    try clear hcz18_1
    try clear hcz18_2
    try clear hcz18_3
    try clear hcz18_4
    try clear hcz18_5
    try clear hcz18_6
    try clear hcz22_0
    try clear hcz22_1
    try clear hcz22_2
    try clear hcz22_3
    try clear hcz22_4
    try clear hcz22_5
    try clear hcz22_6
    try clear hcz23_0
    try clear hcz23_1
    try clear hcz23_2
    try clear hcz30_0
    try clear hcz30_1
    try clear hcz30_2
    try clear hcz30_3
    try clear hcz30_4
    try clear hcz30_5
    try clear hcz30_6
    try clear hcz32_0
    try clear hcz32_1
    try clear hcz32_2
    try clear hcz32_3
    try clear hcz32_4
    try clear hcz32_5
    try clear hcz32_6
    try clear hcz34_0
    try clear hcz34_1
    try clear hcz34_2
    try clear hcz34_3
    try clear hcz34_4
    try clear hcz34_5
    try clear hcz34_6
    try clear hcz8_0
    try clear hcz8_1
    try clear hcz8_2
    try clear hcz8_3
    try clear hcz8_4
    try clear hcz8_5
    try clear hcz8_6
    try clear hfz13_0
    try clear hfz13_1
    try clear hfz13_2
    try clear hfz13_3
    try clear hfz13_4
    try clear hfz13_5
    try clear hfz13_6
    try clear hfz14_0
    try clear hfz14_1
    try clear hfz14_2
    try clear hfz18_0
    try clear hfz18_1
    try clear hfz18_2
    try clear hfz18_3
    try clear hfz18_4
    try clear hfz18_5
    try clear hfz18_6
    try clear hfz22_0
    try clear hfz22_1
    try clear hfz22_2
    try clear hfz22_3
    try clear hfz22_4
    try clear hfz22_5
    try clear hfz22_6
    try clear hfz23_0
    try clear hfz23_1
    try clear hfz23_2
    try clear hfz30_0
    try clear hfz30_1
    try clear hfz30_2
    try clear hfz30_3
    try clear hfz30_4
    try clear hfz30_5
    try clear hfz30_6
    try clear hfz32_0
    try clear hfz32_1
    try clear hfz32_2
    try clear hfz32_3
    try clear hfz32_4
    try clear hfz32_5
    try clear hfz32_6
    try clear hfz34_0
    try clear hfz34_1
    try clear hfz34_2
    try clear hfz34_3
    try clear hfz34_4
    try clear hfz34_5
    try clear hfz34_6
    try clear hfz8_0
    try clear hfz8_1
    try clear hfz8_2
    try clear hfz8_3
    try clear hfz8_4
    try clear hfz8_5
    try clear hfz8_6
    try clear hx297_0
    try clear hx297_1
    try clear hx297_2
    try clear hx297_3
    try clear hx297_4
    try clear hx297_5
    try clear hx297_6
    try clear hx299_0
    try clear hx299_1
    try clear hx299_2
    try clear hx299_3
    try clear hx299_4
    try clear hx299_5
    try clear hx299_6
    try clear hx300_0
    try clear hx300_1
    try clear hx300_2
    try clear hx300_3
    try clear hx300_4
    try clear hx300_5
    try clear hx300_6
    try clear p297
    try clear p299
    try clear p300
    try clear q297
    try clear q299
    try clear q300
    obtain ⟨kq, x49_23, rfl, HA, HJ23, BK294, BK295, HB⟩ := hcut
    cases kq with
    | zero => exact absurd HA.out (by simp [triglyphref24_first.j0])
    | succ kj23 =>
     have H := HA.out; clear HA
     simp only [triglyphref24_first.j0] at H
     have HC35 := gA H
     clear H
     go_upto_if 49 with (fail)
     go_cut [] (fun wc => ∃ (kq : Nat) (x296000_34 : Int) (x296001_34 : Int) (x296002_34 : Int), Aside0 (triglyphref24_first.j1 kq a0 a1_0 a1_1 a1_2 l1_3 l1_4 l1_5 a1_6 = some (r1, r2, r3)) ∧ Aside0 (kq ≤ kj23) ∧ Aside0 (wc.heap[gb294]? = some (.cells #[.int .i64 a1_0, .int .i64 a1_1, .string a1_2, (.slice A1_3 l1_3.length c1_3), (.slice A1_4 l1_4.length c1_4), (.slice A1_5 l1_5.length c1_5), .int .i64 a1_6] 28 (0, 0))) ∧ Aside0 (wc.heap[gb295]? = some (.cells #[.int .i64 x296000_34, .int .i64 x296001_34, .int .i64 x296002_34] 33 (0, 0))) ∧ Aside0 (Below w.heap.size w wc))
     case first =>
      have H := HC35.out; clear HC35
      by_cases c36 : x49_23 = true
      ·subst c36
       have H1 : (if 1 < (l1_5.length : Int) then (if ((rd_T28 l1_5 1).f0) = 1 then (if (((rd_T28 l1_5 1).f3.f0).length : Int) = 0 then (some (13, (rd_T28 l1_5 1).f5, 4)) else (triglyphref24_first.j1 kj23 a0 a1_0 a1_1 a1_2 l1_3 l1_4 l1_5 a1_6)) else (some (13, (rd_T28 l1_5 1).f5, 4))) else (none)) = some (r1, r2, r3) := by rw [if_pos rfl] at H; exact H
       clear H; have H := H1; clear H1
       obtain ⟨c37, H⟩ := iS H
       have c37b0 := decide_eq_true c37
       have c37b1 : decide (1 < l1_5.length) = true := decide_eq_true (by omega)
       clear c37
       (first | rw [c37b0] | rw [c37b1] | (simp only [i64_w, i32_w]; rw [c37b0]) | skip)
       by_cases c38 : ((rd_T28 l1_5 1).f0) = 1
       ·rw [if_pos c38] at H
        have c38b0 : (((rd_T28 l1_5 1).f0) == 1) = true := beq_iff_eq.mpr c38
        have c38b1 : (((rd_T28 l1_5 1).f0) != 1) = false := bne_eq_false_iff_eq.mpr c38
        clear c38
        by_cases c39 : (((rd_T28 l1_5 1).f3.f0).length : Int) = 0
        ·rw [if_pos c39] at H
         have c39b0 : ((((rd_T28 l1_5 1).f3.f0).length : Int) == 0) = true := beq_iff_eq.mpr c39
         have c39b1 : ((((rd_T28 l1_5 1).f3.f0).length : Int) != 0) = false := bne_eq_false_iff_eq.mpr c39
         clear c39
         simp only [Option.some.injEq, Prod.mk.injEq] at H
         obtain ⟨rfl, rfl, rfl⟩ := H
         have hnb40 := NB294_295.out
         have hnc40 := NB295_294.out
         have hcz41_0 := gz BK294 0 rfl
         have hcz41_1 := gz BK294 1 rfl
         have hcz41_2 := gz BK294 2 rfl
         have hcz41_3 := gz BK294 3 rfl
         have hcz41_4 := gz BK294 4 rfl
         have hcz41_5 := gz BK294 5 rfl
         have hcz41_6 := gz BK294 6 rfl
         have hfz41_0 := blk_frozen BK294.out 0
         have hfz41_1 := blk_frozen BK294.out 1
         have hfz41_2 := blk_frozen BK294.out 2
         have hfz41_3 := blk_frozen BK294.out 3
         have hfz41_4 := blk_frozen BK294.out 4
         have hfz41_5 := blk_frozen BK294.out 5
         have hfz41_6 := blk_frozen BK294.out 6
         have p301 : 0 ≤ (1 : Int) := (by omega)
         have q301 : 1 < (l1_5.length : Int) := of_decide_eq_true (by assumption)
         obtain ⟨ad301, A301_3, c301_3, A301_4, c301_4, A301_5, c301_5, e301, hx301_0, hx301_1, hx301_2, hx301_3, hx301_4, hx301_5, hx301_6, hl301_3, hi301_3, hl301_4, hi301_4, hl301_5, hi301_5⟩ := at_T28 HR1_5.out 1 p301 q301
         cases e301
         (try simp only [show (1 : Int).toNat = 1 from rfl, Nat.reduceMul, Nat.reduceEqDiff, Go.Addr.add, ↓reduceIte] at hx301_0)
         (try simp only [show (1 : Int).toNat = 1 from rfl, Nat.reduceMul, Nat.reduceEqDiff, Go.Addr.add, ↓reduceIte] at hx301_1)
         (try simp only [show (1 : Int).toNat = 1 from rfl, Nat.reduceMul, Nat.reduceEqDiff, Go.Addr.add, ↓reduceIte] at hx301_2)
         (try simp only [show (1 : Int).toNat = 1 from rfl, Nat.reduceMul, Nat.reduceEqDiff, Go.Addr.add, ↓reduceIte] at hx301_3)
         (try simp only [show (1 : Int).toNat = 1 from rfl, Nat.reduceMul, Nat.reduceEqDiff, Go.Addr.add, ↓reduceIte] at hx301_4)
         (try simp only [show (1 : Int).toNat = 1 from rfl, Nat.reduceMul, Nat.reduceEqDiff, Go.Addr.add, ↓reduceIte] at hx301_5)
         (try simp only [show (1 : Int).toNat = 1 from rfl, Nat.reduceMul, Nat.reduceEqDiff, Go.Addr.add, ↓reduceIte] at hx301_6)
         have qi301 : (1 < l1_5.length) = True := eq_true (by omega)
         (try rw [show ((1 : Int)).toNat = 1 from rfl] at hx301_0)
         (try rw [show 1 * 7 = 7 from rfl] at hx301_0)
         (try rw [show ((1 : Int)).toNat = 1 from rfl] at hx301_1)
         (try rw [show 1 * 7 = 7 from rfl] at hx301_1)
         (try rw [show ((1 : Int)).toNat = 1 from rfl] at hx301_2)
         (try rw [show 1 * 7 = 7 from rfl] at hx301_2)
         (try rw [show ((1 : Int)).toNat = 1 from rfl] at hx301_3)
         (try rw [show 1 * 7 = 7 from rfl] at hx301_3)
         (try rw [show ((1 : Int)).toNat = 1 from rfl] at hx301_4)
         (try rw [show 1 * 7 = 7 from rfl] at hx301_4)
         (try rw [show ((1 : Int)).toNat = 1 from rfl] at hx301_5)
         (try rw [show 1 * 7 = 7 from rfl] at hx301_5)
         (try rw [show ((1 : Int)).toNat = 1 from rfl] at hx301_6)
         (try rw [show 1 * 7 = 7 from rfl] at hx301_6)
         replace hx301_0 := (HB.out.cell (World.block_lt_of_cell? w _ hx301_0)).trans hx301_0
         replace hx301_1 := (HB.out.cell (World.block_lt_of_cell? w _ hx301_1)).trans hx301_1
         replace hx301_2 := (HB.out.cell (World.block_lt_of_cell? w _ hx301_2)).trans hx301_2
         replace hx301_3 := (HB.out.cell (World.block_lt_of_cell? w _ hx301_3)).trans hx301_3
         replace hx301_4 := (HB.out.cell (World.block_lt_of_cell? w _ hx301_4)).trans hx301_4
         replace hx301_5 := (HB.out.cell (World.block_lt_of_cell? w _ hx301_5)).trans hx301_5
         replace hx301_6 := (HB.out.cell (World.block_lt_of_cell? w _ hx301_6)).trans hx301_6
         have HR301_3 := gA hi301_3
         have HC301_3 := gA hl301_3
         clear hi301_3 hl301_3
         have HR301_4 := gA hi301_4
         have HC301_4 := gA hl301_4
         clear hi301_4 hl301_4
         have HR301_5 := gA hi301_5
         have HC301_5 := gA hl301_5
         clear hi301_5 hl301_5
         replace p301 := eq_true p301
         replace q301 := eq_true q301
         go_wp2_with (first | ((with_reducible refine gate_dst (N := 6) rfl ?_); (try (refine gate_guard (by rfl) ?_; dsimp only)); refine box_event ?hg (N := 6) ?hd (cs := #[.int .i64 0, .int .i64 0, .string (⟨#[]⟩ : ByteArray), .slice none 0 0, .slice none 0 0, .slice none 0 0, .int .i64 0]) (t := 28) ?hr ?_; (case hd => rfl); (case hg => rfl); (case hr => first | (go_simp; done) | (go_simp; rfl)); intro gb302 hg w42 hbox hb; have BK302 := gA (hbox); have GW302 := gA ((by rw [hg]; exact (below_size (gB HB)) : w.heap.size ≤ gb302)); have GE302 := gA ((by rw [hg]; exact (below_size (gB HB)) : w.heap.size ≤ gb302)); replace HB := gA (below_step (gB HB) hb); have NB294_302 := gA ((by rw [hg]; exact Nat.ne_of_lt (blk_lt (gK BK294)) : gb294 ≠ gb302)); have NB302_294 := gA ((by rw [hg]; exact Nat.ne_of_gt (blk_lt (gK BK294)) : gb302 ≠ gb294)); replace BK294 := gA (blk_below (gK BK294) hb); have NB295_302 := gA ((by rw [hg]; exact Nat.ne_of_lt (blk_lt (gK BK295)) : gb295 ≠ gb302)); have NB302_295 := gA ((by rw [hg]; exact Nat.ne_of_gt (blk_lt (gK BK295)) : gb302 ≠ gb295)); replace BK295 := gA (blk_below (gK BK295) hb); clear hb hbox hg; have hnb43 := NB302_294.out; have hnc43 := NB294_302.out; have hnb44 := NB302_295.out; have hnc44 := NB295_302.out; have hcz45_0 := gz BK302 0 rfl; have hcz45_1 := gz BK302 1 rfl; have hcz45_2 := gz BK302 2 rfl; have hcz45_3 := gz BK302 3 rfl; have hcz45_4 := gz BK302 4 rfl; have hcz45_5 := gz BK302 5 rfl; have hcz45_6 := gz BK302 6 rfl; have hfz45_0 := blk_frozen BK302.out 0; have hfz45_1 := blk_frozen BK302.out 1; have hfz45_2 := blk_frozen BK302.out 2; have hfz45_3 := blk_frozen BK302.out 3; have hfz45_4 := blk_frozen BK302.out 4; have hfz45_5 := blk_frozen BK302.out 5; have hfz45_6 := blk_frozen BK302.out 6; obtain ⟨hcz46_0, hcz46_1, hcz46_2, hfz46_0, hfz46_1, hfz46_2⟩ := gz3 BK295))
         refine bodyPost_ret (results_cell_row rfl _ _ gb295 33 #[.int .i64 13, .int .i64 ((rd_T28 l1_5 1).f5), .int .i64 4] (0, 0) _ rfl (by refine blk_put (cs := #[.int .i64 13, .int .i64 ((rd_T28 l1_5 1).f5), .int .i64 0]) ?_ 2 _ rfl; refine blk_put (cs := #[.int .i64 13, .int .i64 0, .int .i64 0]) ?_ 1 _ rfl; refine blk_put (cs := #[.int .i64 0, .int .i64 0, .int .i64 0]) ?_ 0 _ rfl; refine blk_far ?_ NB295_302.out _; refine blk_far ?_ NB295_302.out _; refine blk_far ?_ NB295_302.out _; refine blk_far ?_ NB295_302.out _; refine blk_far ?_ NB295_302.out _; refine blk_far ?_ NB295_302.out _; refine blk_far ?_ NB295_302.out _; exact gK BK295) Try.underlying33 rfl (by kernel_rfl)) rfl ?_
         exact ⟨rfl, by repeat first | exact gB HB | refine below_set ?_ GE294.out | refine below_set ?_ GE295.out | refine below_set ?_ GE302.out⟩
        ·rw [if_neg c39] at H
         have c39b0 : ((((rd_T28 l1_5 1).f3.f0).length : Int) == 0) = false := beq_eq_false_iff_ne.mpr c39
         have c39b1 : ((((rd_T28 l1_5 1).f3.f0).length : Int) != 0) = true := bne_iff_ne.mpr c39
         have c39b2 : ¬ (((rd_T28 l1_5 1).f3.f0) = []) := fun h_ => c39 (by rw [h_]; rfl)
         have H' := gA H
         clear H
         have hnb47 := NB294_295.out
         have hnc47 := NB295_294.out
         have hcz48_0 := gz BK294 0 rfl
         have hcz48_1 := gz BK294 1 rfl
         have hcz48_2 := gz BK294 2 rfl
         have hcz48_3 := gz BK294 3 rfl
         have hcz48_4 := gz BK294 4 rfl
         have hcz48_5 := gz BK294 5 rfl
         have hcz48_6 := gz BK294 6 rfl
         have hfz48_0 := blk_frozen BK294.out 0
         have hfz48_1 := blk_frozen BK294.out 1
         have hfz48_2 := blk_frozen BK294.out 2
         have hfz48_3 := blk_frozen BK294.out 3
         have hfz48_4 := blk_frozen BK294.out 4
         have hfz48_5 := blk_frozen BK294.out 5
         have hfz48_6 := blk_frozen BK294.out 6
         have p301 : 0 ≤ (1 : Int) := (by omega)
         have q301 : 1 < (l1_5.length : Int) := of_decide_eq_true (by assumption)
         obtain ⟨ad301, A301_3, c301_3, A301_4, c301_4, A301_5, c301_5, e301, hx301_0, hx301_1, hx301_2, hx301_3, hx301_4, hx301_5, hx301_6, hl301_3, hi301_3, hl301_4, hi301_4, hl301_5, hi301_5⟩ := at_T28 HR1_5.out 1 p301 q301
         cases e301
         (try simp only [show (1 : Int).toNat = 1 from rfl, Nat.reduceMul, Nat.reduceEqDiff, Go.Addr.add, ↓reduceIte] at hx301_0)
         (try simp only [show (1 : Int).toNat = 1 from rfl, Nat.reduceMul, Nat.reduceEqDiff, Go.Addr.add, ↓reduceIte] at hx301_1)
         (try simp only [show (1 : Int).toNat = 1 from rfl, Nat.reduceMul, Nat.reduceEqDiff, Go.Addr.add, ↓reduceIte] at hx301_2)
         (try simp only [show (1 : Int).toNat = 1 from rfl, Nat.reduceMul, Nat.reduceEqDiff, Go.Addr.add, ↓reduceIte] at hx301_3)
         (try simp only [show (1 : Int).toNat = 1 from rfl, Nat.reduceMul, Nat.reduceEqDiff, Go.Addr.add, ↓reduceIte] at hx301_4)
         (try simp only [show (1 : Int).toNat = 1 from rfl, Nat.reduceMul, Nat.reduceEqDiff, Go.Addr.add, ↓reduceIte] at hx301_5)
         (try simp only [show (1 : Int).toNat = 1 from rfl, Nat.reduceMul, Nat.reduceEqDiff, Go.Addr.add, ↓reduceIte] at hx301_6)
         have qi301 : (1 < l1_5.length) = True := eq_true (by omega)
         (try rw [show ((1 : Int)).toNat = 1 from rfl] at hx301_0)
         (try rw [show 1 * 7 = 7 from rfl] at hx301_0)
         (try rw [show ((1 : Int)).toNat = 1 from rfl] at hx301_1)
         (try rw [show 1 * 7 = 7 from rfl] at hx301_1)
         (try rw [show ((1 : Int)).toNat = 1 from rfl] at hx301_2)
         (try rw [show 1 * 7 = 7 from rfl] at hx301_2)
         (try rw [show ((1 : Int)).toNat = 1 from rfl] at hx301_3)
         (try rw [show 1 * 7 = 7 from rfl] at hx301_3)
         (try rw [show ((1 : Int)).toNat = 1 from rfl] at hx301_4)
         (try rw [show 1 * 7 = 7 from rfl] at hx301_4)
         (try rw [show ((1 : Int)).toNat = 1 from rfl] at hx301_5)
         (try rw [show 1 * 7 = 7 from rfl] at hx301_5)
         (try rw [show ((1 : Int)).toNat = 1 from rfl] at hx301_6)
         (try rw [show 1 * 7 = 7 from rfl] at hx301_6)
         replace hx301_0 := (HB.out.cell (World.block_lt_of_cell? w _ hx301_0)).trans hx301_0
         replace hx301_1 := (HB.out.cell (World.block_lt_of_cell? w _ hx301_1)).trans hx301_1
         replace hx301_2 := (HB.out.cell (World.block_lt_of_cell? w _ hx301_2)).trans hx301_2
         replace hx301_3 := (HB.out.cell (World.block_lt_of_cell? w _ hx301_3)).trans hx301_3
         replace hx301_4 := (HB.out.cell (World.block_lt_of_cell? w _ hx301_4)).trans hx301_4
         replace hx301_5 := (HB.out.cell (World.block_lt_of_cell? w _ hx301_5)).trans hx301_5
         replace hx301_6 := (HB.out.cell (World.block_lt_of_cell? w _ hx301_6)).trans hx301_6
         have HR301_3 := gA hi301_3
         have HC301_3 := gA hl301_3
         clear hi301_3 hl301_3
         have HR301_4 := gA hi301_4
         have HC301_4 := gA hl301_4
         clear hi301_4 hl301_4
         have HR301_5 := gA hi301_5
         have HC301_5 := gA hl301_5
         clear hi301_5 hl301_5
         replace p301 := eq_true p301
         replace q301 := eq_true q301
         go_wp2_with (first | ((with_reducible refine gate_dst (N := 6) rfl ?_); (try (refine gate_guard (by rfl) ?_; dsimp only)); refine box_event ?hg (N := 6) ?hd (cs := #[.int .i64 0, .int .i64 0, .string (⟨#[]⟩ : ByteArray), .slice none 0 0, .slice none 0 0, .slice none 0 0, .int .i64 0]) (t := 28) ?hr ?_; (case hd => rfl); (case hg => rfl); (case hr => first | (go_simp; done) | (go_simp; rfl)); intro gb302 hg w49 hbox hb; have BK302 := gA (hbox); have GW302 := gA ((by rw [hg]; exact (below_size (gB HB)) : w.heap.size ≤ gb302)); have GE302 := gA ((by rw [hg]; exact (below_size (gB HB)) : w.heap.size ≤ gb302)); replace HB := gA (below_step (gB HB) hb); have NB294_302 := gA ((by rw [hg]; exact Nat.ne_of_lt (blk_lt (gK BK294)) : gb294 ≠ gb302)); have NB302_294 := gA ((by rw [hg]; exact Nat.ne_of_gt (blk_lt (gK BK294)) : gb302 ≠ gb294)); replace BK294 := gA (blk_below (gK BK294) hb); have NB295_302 := gA ((by rw [hg]; exact Nat.ne_of_lt (blk_lt (gK BK295)) : gb295 ≠ gb302)); have NB302_295 := gA ((by rw [hg]; exact Nat.ne_of_gt (blk_lt (gK BK295)) : gb302 ≠ gb295)); replace BK295 := gA (blk_below (gK BK295) hb); clear hb hbox hg; have hnb50 := NB302_294.out; have hnc50 := NB294_302.out; have hnb51 := NB302_295.out; have hnc51 := NB295_302.out; have hcz52_0 := gz BK302 0 rfl; have hcz52_1 := gz BK302 1 rfl; have hcz52_2 := gz BK302 2 rfl; have hcz52_3 := gz BK302 3 rfl; have hcz52_4 := gz BK302 4 rfl; have hcz52_5 := gz BK302 5 rfl; have hcz52_6 := gz BK302 6 rfl; have hfz52_0 := blk_frozen BK302.out 0; have hfz52_1 := blk_frozen BK302.out 1; have hfz52_2 := blk_frozen BK302.out 2; have hfz52_3 := blk_frozen BK302.out 3; have hfz52_4 := blk_frozen BK302.out 4; have hfz52_5 := blk_frozen BK302.out 5; have hfz52_6 := blk_frozen BK302.out 6))
         all_goals (go_meet; (case rel => exact ⟨_, (0), (0), (0), H', ⟨by have := HJ23.out; first | omega | exact Nat.le_refl _⟩, ⟨by (with_reducible repeat (first | refine blk_drewN ?_ _ | refine blk_drew ?_ | refine blk_alloc ?_ _)); refine blk_far ?_ NB294_302.out _; (with_reducible repeat (first | refine blk_drewN ?_ _ | refine blk_drew ?_ | refine blk_alloc ?_ _)); refine blk_far ?_ NB294_302.out _; (with_reducible repeat (first | refine blk_drewN ?_ _ | refine blk_drew ?_ | refine blk_alloc ?_ _)); refine blk_far ?_ NB294_302.out _; (with_reducible repeat (first | refine blk_drewN ?_ _ | refine blk_drew ?_ | refine blk_alloc ?_ _)); refine blk_far ?_ NB294_302.out _; (with_reducible repeat (first | refine blk_drewN ?_ _ | refine blk_drew ?_ | refine blk_alloc ?_ _)); refine blk_far ?_ NB294_302.out _; (with_reducible repeat (first | refine blk_drewN ?_ _ | refine blk_drew ?_ | refine blk_alloc ?_ _)); refine blk_far ?_ NB294_302.out _; (with_reducible repeat (first | refine blk_drewN ?_ _ | refine blk_drew ?_ | refine blk_alloc ?_ _)); refine blk_far ?_ NB294_302.out _; exact gK BK294⟩, ⟨by (with_reducible repeat (first | refine blk_drewN ?_ _ | refine blk_drew ?_ | refine blk_alloc ?_ _)); refine blk_far ?_ NB295_302.out _; (with_reducible repeat (first | refine blk_drewN ?_ _ | refine blk_drew ?_ | refine blk_alloc ?_ _)); refine blk_far ?_ NB295_302.out _; (with_reducible repeat (first | refine blk_drewN ?_ _ | refine blk_drew ?_ | refine blk_alloc ?_ _)); refine blk_far ?_ NB295_302.out _; (with_reducible repeat (first | refine blk_drewN ?_ _ | refine blk_drew ?_ | refine blk_alloc ?_ _)); refine blk_far ?_ NB295_302.out _; (with_reducible repeat (first | refine blk_drewN ?_ _ | refine blk_drew ?_ | refine blk_alloc ?_ _)); refine blk_far ?_ NB295_302.out _; (with_reducible repeat (first | refine blk_drewN ?_ _ | refine blk_drew ?_ | refine blk_alloc ?_ _)); refine blk_far ?_ NB295_302.out _; (with_reducible repeat (first | refine blk_drewN ?_ _ | refine blk_drew ?_ | refine blk_alloc ?_ _)); refine blk_far ?_ NB295_302.out _; exact gK BK295⟩, ⟨by repeat first | exact gB HB | refine below_set ?_ GE294.out | refine below_set ?_ GE295.out | refine below_set ?_ GE302.out⟩⟩))
       ·rw [if_neg c38] at H
        have c38b0 : (((rd_T28 l1_5 1).f0) == 1) = false := beq_eq_false_iff_ne.mpr c38
        have c38b1 : (((rd_T28 l1_5 1).f0) != 1) = true := bne_iff_ne.mpr c38
        simp only [Option.some.injEq, Prod.mk.injEq] at H
        obtain ⟨rfl, rfl, rfl⟩ := H
        have hnb53 := NB294_295.out
        have hnc53 := NB295_294.out
        have hcz54_0 := gz BK294 0 rfl
        have hcz54_1 := gz BK294 1 rfl
        have hcz54_2 := gz BK294 2 rfl
        have hcz54_3 := gz BK294 3 rfl
        have hcz54_4 := gz BK294 4 rfl
        have hcz54_5 := gz BK294 5 rfl
        have hcz54_6 := gz BK294 6 rfl
        have hfz54_0 := blk_frozen BK294.out 0
        have hfz54_1 := blk_frozen BK294.out 1
        have hfz54_2 := blk_frozen BK294.out 2
        have hfz54_3 := blk_frozen BK294.out 3
        have hfz54_4 := blk_frozen BK294.out 4
        have hfz54_5 := blk_frozen BK294.out 5
        have hfz54_6 := blk_frozen BK294.out 6
        have p301 : 0 ≤ (1 : Int) := (by omega)
        have q301 : 1 < (l1_5.length : Int) := of_decide_eq_true (by assumption)
        obtain ⟨ad301, A301_3, c301_3, A301_4, c301_4, A301_5, c301_5, e301, hx301_0, hx301_1, hx301_2, hx301_3, hx301_4, hx301_5, hx301_6, hl301_3, hi301_3, hl301_4, hi301_4, hl301_5, hi301_5⟩ := at_T28 HR1_5.out 1 p301 q301
        cases e301
        (try simp only [show (1 : Int).toNat = 1 from rfl, Nat.reduceMul, Nat.reduceEqDiff, Go.Addr.add, ↓reduceIte] at hx301_0)
        (try simp only [show (1 : Int).toNat = 1 from rfl, Nat.reduceMul, Nat.reduceEqDiff, Go.Addr.add, ↓reduceIte] at hx301_1)
        (try simp only [show (1 : Int).toNat = 1 from rfl, Nat.reduceMul, Nat.reduceEqDiff, Go.Addr.add, ↓reduceIte] at hx301_2)
        (try simp only [show (1 : Int).toNat = 1 from rfl, Nat.reduceMul, Nat.reduceEqDiff, Go.Addr.add, ↓reduceIte] at hx301_3)
        (try simp only [show (1 : Int).toNat = 1 from rfl, Nat.reduceMul, Nat.reduceEqDiff, Go.Addr.add, ↓reduceIte] at hx301_4)
        (try simp only [show (1 : Int).toNat = 1 from rfl, Nat.reduceMul, Nat.reduceEqDiff, Go.Addr.add, ↓reduceIte] at hx301_5)
        (try simp only [show (1 : Int).toNat = 1 from rfl, Nat.reduceMul, Nat.reduceEqDiff, Go.Addr.add, ↓reduceIte] at hx301_6)
        have qi301 : (1 < l1_5.length) = True := eq_true (by omega)
        (try rw [show ((1 : Int)).toNat = 1 from rfl] at hx301_0)
        (try rw [show 1 * 7 = 7 from rfl] at hx301_0)
        (try rw [show ((1 : Int)).toNat = 1 from rfl] at hx301_1)
        (try rw [show 1 * 7 = 7 from rfl] at hx301_1)
        (try rw [show ((1 : Int)).toNat = 1 from rfl] at hx301_2)
        (try rw [show 1 * 7 = 7 from rfl] at hx301_2)
        (try rw [show ((1 : Int)).toNat = 1 from rfl] at hx301_3)
        (try rw [show 1 * 7 = 7 from rfl] at hx301_3)
        (try rw [show ((1 : Int)).toNat = 1 from rfl] at hx301_4)
        (try rw [show 1 * 7 = 7 from rfl] at hx301_4)
        (try rw [show ((1 : Int)).toNat = 1 from rfl] at hx301_5)
        (try rw [show 1 * 7 = 7 from rfl] at hx301_5)
        (try rw [show ((1 : Int)).toNat = 1 from rfl] at hx301_6)
        (try rw [show 1 * 7 = 7 from rfl] at hx301_6)
        replace hx301_0 := (HB.out.cell (World.block_lt_of_cell? w _ hx301_0)).trans hx301_0
        replace hx301_1 := (HB.out.cell (World.block_lt_of_cell? w _ hx301_1)).trans hx301_1
        replace hx301_2 := (HB.out.cell (World.block_lt_of_cell? w _ hx301_2)).trans hx301_2
        replace hx301_3 := (HB.out.cell (World.block_lt_of_cell? w _ hx301_3)).trans hx301_3
        replace hx301_4 := (HB.out.cell (World.block_lt_of_cell? w _ hx301_4)).trans hx301_4
        replace hx301_5 := (HB.out.cell (World.block_lt_of_cell? w _ hx301_5)).trans hx301_5
        replace hx301_6 := (HB.out.cell (World.block_lt_of_cell? w _ hx301_6)).trans hx301_6
        have HR301_3 := gA hi301_3
        have HC301_3 := gA hl301_3
        clear hi301_3 hl301_3
        have HR301_4 := gA hi301_4
        have HC301_4 := gA hl301_4
        clear hi301_4 hl301_4
        have HR301_5 := gA hi301_5
        have HC301_5 := gA hl301_5
        clear hi301_5 hl301_5
        replace p301 := eq_true p301
        replace q301 := eq_true q301
        go_wp2_with (first | ((with_reducible refine gate_dst (N := 6) rfl ?_); (try (refine gate_guard (by rfl) ?_; dsimp only)); refine box_event ?hg (N := 6) ?hd (cs := #[.int .i64 0, .int .i64 0, .string (⟨#[]⟩ : ByteArray), .slice none 0 0, .slice none 0 0, .slice none 0 0, .int .i64 0]) (t := 28) ?hr ?_; (case hd => rfl); (case hg => rfl); (case hr => first | (go_simp; done) | (go_simp; rfl)); intro gb302 hg w55 hbox hb; have BK302 := gA (hbox); have GW302 := gA ((by rw [hg]; exact (below_size (gB HB)) : w.heap.size ≤ gb302)); have GE302 := gA ((by rw [hg]; exact (below_size (gB HB)) : w.heap.size ≤ gb302)); replace HB := gA (below_step (gB HB) hb); have NB294_302 := gA ((by rw [hg]; exact Nat.ne_of_lt (blk_lt (gK BK294)) : gb294 ≠ gb302)); have NB302_294 := gA ((by rw [hg]; exact Nat.ne_of_gt (blk_lt (gK BK294)) : gb302 ≠ gb294)); replace BK294 := gA (blk_below (gK BK294) hb); have NB295_302 := gA ((by rw [hg]; exact Nat.ne_of_lt (blk_lt (gK BK295)) : gb295 ≠ gb302)); have NB302_295 := gA ((by rw [hg]; exact Nat.ne_of_gt (blk_lt (gK BK295)) : gb302 ≠ gb295)); replace BK295 := gA (blk_below (gK BK295) hb); clear hb hbox hg; have hnb56 := NB302_294.out; have hnc56 := NB294_302.out; have hnb57 := NB302_295.out; have hnc57 := NB295_302.out; have hcz58_0 := gz BK302 0 rfl; have hcz58_1 := gz BK302 1 rfl; have hcz58_2 := gz BK302 2 rfl; have hcz58_3 := gz BK302 3 rfl; have hcz58_4 := gz BK302 4 rfl; have hcz58_5 := gz BK302 5 rfl; have hcz58_6 := gz BK302 6 rfl; have hfz58_0 := blk_frozen BK302.out 0; have hfz58_1 := blk_frozen BK302.out 1; have hfz58_2 := blk_frozen BK302.out 2; have hfz58_3 := blk_frozen BK302.out 3; have hfz58_4 := blk_frozen BK302.out 4; have hfz58_5 := blk_frozen BK302.out 5; have hfz58_6 := blk_frozen BK302.out 6; obtain ⟨hcz59_0, hcz59_1, hcz59_2, hfz59_0, hfz59_1, hfz59_2⟩ := gz3 BK295))
        refine bodyPost_ret (results_cell_row rfl _ _ gb295 33 #[.int .i64 13, .int .i64 ((rd_T28 l1_5 1).f5), .int .i64 4] (0, 0) _ rfl (by refine blk_put (cs := #[.int .i64 13, .int .i64 ((rd_T28 l1_5 1).f5), .int .i64 0]) ?_ 2 _ rfl; refine blk_put (cs := #[.int .i64 13, .int .i64 0, .int .i64 0]) ?_ 1 _ rfl; refine blk_put (cs := #[.int .i64 0, .int .i64 0, .int .i64 0]) ?_ 0 _ rfl; refine blk_far ?_ NB295_302.out _; refine blk_far ?_ NB295_302.out _; refine blk_far ?_ NB295_302.out _; refine blk_far ?_ NB295_302.out _; refine blk_far ?_ NB295_302.out _; refine blk_far ?_ NB295_302.out _; refine blk_far ?_ NB295_302.out _; exact gK BK295) Try.underlying33 rfl (by kernel_rfl)) rfl ?_
        exact ⟨rfl, by repeat first | exact gB HB | refine below_set ?_ GE294.out | refine below_set ?_ GE295.out | refine below_set ?_ GE302.out⟩
      ·replace c36 := Bool.eq_false_iff.mpr c36
       subst c36
       have H1 : (triglyphref24_first.j1 kj23 a0 a1_0 a1_1 a1_2 l1_3 l1_4 l1_5 a1_6) = some (r1, r2, r3) := by rw [if_neg (show ¬ (false = true) by decide)] at H; exact H
       clear H; have H := H1; clear H1
       have H' := gA H
       clear H
       go_wp2
       all_goals (go_meet; (case rel => exact ⟨_, (0), (0), (0), H', ⟨by have := HJ23.out; first | omega | exact Nat.le_refl _⟩, ⟨gK BK294⟩, ⟨gK BK295⟩, ⟨gB HB⟩⟩))
     case rest =>
      clear HC35
      try clear c1
      try clear c2
      try clear p2
      try clear q2
      try clear hx2
      try clear qi2
      try clear c3
      try clear p3
      try clear q3
      try clear hx3
      try clear qi3
      try clear c4
      try clear c5
      try clear c7
      try clear c10
      try clear c11
      try clear c11b0
      try clear c11b1
      try clear c12
      try clear c17
      try clear c20
      try clear c20b0
      try clear c21
      try clear c25
      try clear c25b0
      try clear c25b1
      try clear c26
      try clear c26b0
      try clear c26b1
      try clear c27
      try clear c27b0
      try clear c27b1
      try clear c28
      try clear c28b0
      try clear c28b1
      try clear c29
      try clear p29
      try clear q29
      try clear hx29
      try clear qi29
      try clear c30
      try clear p30
      try clear q30
      try clear hx30
      try clear qi30
      try clear c31
      try clear c32
      try clear c33
      try clear c36
      try clear c37
      try clear c37b0
      try clear c37b1
      try clear c38
      try clear c38b0
      try clear c38b1
      try clear c39
      try clear c39b0
      try clear c39b1
      try clear c39b2
      try clear c40
      try clear c43
      try clear c44
      try clear c47
      try clear c50
      try clear c51
      try clear c53
      try clear c56
      try clear c57
      try clear hcz13_0
      try clear hcz13_1
      try clear hcz13_2
      try clear hcz13_3
      try clear hcz13_4
      try clear hcz13_5
      try clear hcz13_6
      try clear hcz14_0
      try clear hcz14_1
      try clear hcz14_2
      try clear hcz18_0
      try clear hcz18_1
      try clear hcz18_2
      try clear hcz18_3
      try clear hcz18_4
      try clear hcz18_5
      try clear hcz18_6
      try clear hcz22_0
      try clear hcz22_1
      try clear hcz22_2
      try clear hcz22_3
      try clear hcz22_4
      try clear hcz22_5
      try clear hcz22_6
      try clear hcz23_0
      try clear hcz23_1
      try clear hcz23_2
      try clear hcz30_0
      try clear hcz30_1
      try clear hcz30_2
      try clear hcz30_3
      try clear hcz30_4
      try clear hcz30_5
      try clear hcz30_6
      try clear hcz32_0
      try clear hcz32_1
      try clear hcz32_2
      try clear hcz32_3
      try clear hcz32_4
      try clear hcz32_5
      try clear hcz32_6
      try clear hcz34_0
      try clear hcz34_1
      try clear hcz34_2
      try clear hcz34_3
      try clear hcz34_4
      try clear hcz34_5
      try clear hcz34_6
      try clear hcz41_0
      try clear hcz41_1
      try clear hcz41_2
      try clear hcz41_3
      try clear hcz41_4
      try clear hcz41_5
      try clear hcz41_6
      try clear hcz45_0
      try clear hcz45_1
      try clear hcz45_2
      try clear hcz45_3
      try clear hcz45_4
      try clear hcz45_5
      try clear hcz45_6
      try clear hcz46_0
      try clear hcz46_1
      try clear hcz46_2
      try clear hcz48_0
      try clear hcz48_1
      try clear hcz48_2
      try clear hcz48_3
      try clear hcz48_4
      try clear hcz48_5
      try clear hcz48_6
      try clear hcz52_0
      try clear hcz52_1
      try clear hcz52_2
      try clear hcz52_3
      try clear hcz52_4
      try clear hcz52_5
      try clear hcz52_6
      try clear hcz54_0
      try clear hcz54_1
      try clear hcz54_2
      try clear hcz54_3
      try clear hcz54_4
      try clear hcz54_5
      try clear hcz54_6
      try clear hcz58_0
      try clear hcz58_1
      try clear hcz58_2
      try clear hcz58_3
      try clear hcz58_4
      try clear hcz58_5
      try clear hcz58_6
      try clear hcz59_0
      try clear hcz59_1
      try clear hcz59_2
      try clear hcz8_0
      try clear hcz8_1
      try clear hcz8_2
      try clear hcz8_3
      try clear hcz8_4
      try clear hcz8_5
      try clear hcz8_6
      try clear hfz13_0
      try clear hfz13_1
      try clear hfz13_2
      try clear hfz13_3
      try clear hfz13_4
      try clear hfz13_5
      try clear hfz13_6
      try clear hfz14_0
      try clear hfz14_1
      try clear hfz14_2
      try clear hfz18_0
      try clear hfz18_1
      try clear hfz18_2
      try clear hfz18_3
      try clear hfz18_4
      try clear hfz18_5
      try clear hfz18_6
      try clear hfz22_0
      try clear hfz22_1
      try clear hfz22_2
      try clear hfz22_3
      try clear hfz22_4
      try clear hfz22_5
      try clear hfz22_6
      try clear hfz23_0
      try clear hfz23_1
      try clear hfz23_2
      try clear hfz30_0
      try clear hfz30_1
      try clear hfz30_2
      try clear hfz30_3
      try clear hfz30_4
      try clear hfz30_5
      try clear hfz30_6
      try clear hfz32_0
      try clear hfz32_1
      try clear hfz32_2
      try clear hfz32_3
      try clear hfz32_4
      try clear hfz32_5
      try clear hfz32_6
      try clear hfz34_0
      try clear hfz34_1
      try clear hfz34_2
      try clear hfz34_3
      try clear hfz34_4
      try clear hfz34_5
      try clear hfz34_6
      try clear hfz41_0
      try clear hfz41_1
      try clear hfz41_2
      try clear hfz41_3
      try clear hfz41_4
      try clear hfz41_5
      try clear hfz41_6
      try clear hfz45_0
      try clear hfz45_1
      try clear hfz45_2
      try clear hfz45_3
      try clear hfz45_4
      try clear hfz45_5
      try clear hfz45_6
      try clear hfz46_0
      try clear hfz46_1
      try clear hfz46_2
      try clear hfz48_0
      try clear hfz48_1
      try clear hfz48_2
      try clear hfz48_3
      try clear hfz48_4
      try clear hfz48_5
      try clear hfz48_6
      try clear hfz52_0
      try clear hfz52_1
      try clear hfz52_2
      try clear hfz52_3
      try clear hfz52_4
      try clear hfz52_5
      try clear hfz52_6
      try clear hfz54_0
      try clear hfz54_1
      try clear hfz54_2
      try clear hfz54_3
      try clear hfz54_4
      try clear hfz54_5
      try clear hfz54_6
      try clear hfz58_0
      try clear hfz58_1
      try clear hfz58_2
      try clear hfz58_3
      try clear hfz58_4
      try clear hfz58_5
      try clear hfz58_6
      try clear hfz59_0
      try clear hfz59_1
      try clear hfz59_2
      try clear hfz8_0
      try clear hfz8_1
      try clear hfz8_2
      try clear hfz8_3
      try clear hfz8_4
      try clear hfz8_5
      try clear hfz8_6
      try clear hx297_0
      try clear hx297_1
      try clear hx297_2
      try clear hx297_3
      try clear hx297_4
      try clear hx297_5
      try clear hx297_6
      try clear hx299_0
      try clear hx299_1
      try clear hx299_2
      try clear hx299_3
      try clear hx299_4
      try clear hx299_5
      try clear hx299_6
      try clear hx300_0
      try clear hx300_1
      try clear hx300_2
      try clear hx300_3
      try clear hx300_4
      try clear hx300_5
      try clear hx300_6
      try clear hx301_0
      try clear hx301_1
      try clear hx301_2
      try clear hx301_3
      try clear hx301_4
      try clear hx301_5
      try clear hx301_6
      try clear p2
      try clear p29
      try clear p297
      try clear p299
      try clear p3
      try clear p30
      try clear p300
      try clear p301
      try clear q2
      try clear q29
      try clear q297
      try clear q299
      try clear q3
      try clear q30
      try clear q300
      try clear q301
      obtain ⟨kq, x296000_34, x296001_34, x296002_34, HA, HJ34, BK294, BK295, HB⟩ := hcut
      cases kq with
      | zero => exact absurd HA.out (by simp [triglyphref24_first.j1])
      | succ kj34 =>
       have H := HA.out; clear HA
       simp only [triglyphref24_first.j1] at H
       have H' := gA H
       clear H
       go_wp2
       go_loopg [7] kj34 (fun kq v7 w' => ∃ (x7_3 : Int) (x296000_3 : Int) (x296001_3 : Int) (x296002_3 : Int), v7 = .int .i64 x7_3 ∧ Aside0 (triglyphref24_first.l0 kq a0 x7_3 a1_0 a1_1 a1_2 l1_3 l1_4 l1_5 a1_6 = some (r1, r2, r3)) ∧ Aside0 (kq ≤ kj34) ∧ Aside0 (w'.heap[gb294]? = some (.cells #[.int .i64 a1_0, .int .i64 a1_1, .string a1_2, (.slice A1_3 l1_3.length c1_3), (.slice A1_4 l1_4.length c1_4), (.slice A1_5 l1_5.length c1_5), .int .i64 a1_6] 28 (0, 0))) ∧ Aside0 (w'.heap[gb295]? = some (.cells #[.int .i64 x296000_3, .int .i64 x296001_3, .int .i64 x296002_3] 33 (0, 0))) ∧ Aside0 (Below w.heap.size w w'))
       case atStart => exact ⟨(0), (x296000_34), (x296001_34), (x296002_34), (rfl), H', ⟨Nat.le_refl _⟩, ⟨gK BK294⟩, ⟨gK BK295⟩, ⟨by repeat first | exact gB HB | refine below_set ?_ GE294.out | refine below_set ?_ GE295.out⟩⟩
       case round =>
        clear H'
        try clear c1
        try clear c2
        try clear p2
        try clear q2
        try clear hx2
        try clear qi2
        try clear c3
        try clear p3
        try clear q3
        try clear hx3
        try clear qi3
        try clear c4
        try clear c5
        try clear c7
        try clear c10
        try clear c11
        try clear c11b0
        try clear c11b1
        try clear c12
        try clear c17
        try clear c20
        try clear c20b0
        try clear c21
        try clear c25
        try clear c25b0
        try clear c25b1
        try clear c26
        try clear c26b0
        try clear c26b1
        try clear c27
        try clear c27b0
        try clear c27b1
        try clear c28
        try clear c28b0
        try clear c28b1
        try clear c29
        try clear p29
        try clear q29
        try clear hx29
        try clear qi29
        try clear c30
        try clear p30
        try clear q30
        try clear hx30
        try clear qi30
        try clear c31
        try clear c32
        try clear c33
        try clear c36
        try clear c37
        try clear c37b0
        try clear c37b1
        try clear c38
        try clear c38b0
        try clear c38b1
        try clear c39
        try clear c39b0
        try clear c39b1
        try clear c39b2
        try clear c40
        try clear c43
        try clear c44
        try clear c47
        try clear c50
        try clear c51
        try clear c53
        try clear c56
        try clear c57
        try clear hcz13_0
        try clear hcz13_1
        try clear hcz13_2
        try clear hcz13_3
        try clear hcz13_4
        try clear hcz13_5
        try clear hcz13_6
        try clear hcz14_0
        try clear hcz14_1
        try clear hcz14_2
        try clear hcz18_0
        try clear hcz18_1
        try clear hcz18_2
        try clear hcz18_3
        try clear hcz18_4
        try clear hcz18_5
        try clear hcz18_6
        try clear hcz22_0
        try clear hcz22_1
        try clear hcz22_2
        try clear hcz22_3
        try clear hcz22_4
        try clear hcz22_5
        try clear hcz22_6
        try clear hcz23_0
        try clear hcz23_1
        try clear hcz23_2
        try clear hcz30_0
        try clear hcz30_1
        try clear hcz30_2
        try clear hcz30_3
        try clear hcz30_4
        try clear hcz30_5
        try clear hcz30_6
        try clear hcz32_0
        try clear hcz32_1
        try clear hcz32_2
        try clear hcz32_3
        try clear hcz32_4
        try clear hcz32_5
        try clear hcz32_6
        try clear hcz34_0
        try clear hcz34_1
        try clear hcz34_2
        try clear hcz34_3
        try clear hcz34_4
        try clear hcz34_5
        try clear hcz34_6
        try clear hcz41_0
        try clear hcz41_1
        try clear hcz41_2
        try clear hcz41_3
        try clear hcz41_4
        try clear hcz41_5
        try clear hcz41_6
        try clear hcz45_0
        try clear hcz45_1
        try clear hcz45_2
        try clear hcz45_3
        try clear hcz45_4
        try clear hcz45_5
        try clear hcz45_6
        try clear hcz46_0
        try clear hcz46_1
        try clear hcz46_2
        try clear hcz48_0
        try clear hcz48_1
        try clear hcz48_2
        try clear hcz48_3
        try clear hcz48_4
        try clear hcz48_5
        try clear hcz48_6
        try clear hcz52_0
        try clear hcz52_1
        try clear hcz52_2
        try clear hcz52_3
        try clear hcz52_4
        try clear hcz52_5
        try clear hcz52_6
        try clear hcz54_0
        try clear hcz54_1
        try clear hcz54_2
        try clear hcz54_3
        try clear hcz54_4
        try clear hcz54_5
        try clear hcz54_6
        try clear hcz58_0
        try clear hcz58_1
        try clear hcz58_2
        try clear hcz58_3
        try clear hcz58_4
        try clear hcz58_5
        try clear hcz58_6
        try clear hcz59_0
        try clear hcz59_1
        try clear hcz59_2
        try clear hcz8_0
        try clear hcz8_1
        try clear hcz8_2
        try clear hcz8_3
        try clear hcz8_4
        try clear hcz8_5
        try clear hcz8_6
        try clear hfz13_0
        try clear hfz13_1
        try clear hfz13_2
        try clear hfz13_3
        try clear hfz13_4
        try clear hfz13_5
        try clear hfz13_6
        try clear hfz14_0
        try clear hfz14_1
        try clear hfz14_2
        try clear hfz18_0
        try clear hfz18_1
        try clear hfz18_2
        try clear hfz18_3
        try clear hfz18_4
        try clear hfz18_5
        try clear hfz18_6
        try clear hfz22_0
        try clear hfz22_1
        try clear hfz22_2
        try clear hfz22_3
        try clear hfz22_4
        try clear hfz22_5
        try clear hfz22_6
        try clear hfz23_0
        try clear hfz23_1
        try clear hfz23_2
        try clear hfz30_0
        try clear hfz30_1
        try clear hfz30_2
        try clear hfz30_3
        try clear hfz30_4
        try clear hfz30_5
        try clear hfz30_6
        try clear hfz32_0
        try clear hfz32_1
        try clear hfz32_2
        try clear hfz32_3
        try clear hfz32_4
        try clear hfz32_5
        try clear hfz32_6
        try clear hfz34_0
        try clear hfz34_1
        try clear hfz34_2
        try clear hfz34_3
        try clear hfz34_4
        try clear hfz34_5
        try clear hfz34_6
        try clear hfz41_0
        try clear hfz41_1
        try clear hfz41_2
        try clear hfz41_3
        try clear hfz41_4
        try clear hfz41_5
        try clear hfz41_6
        try clear hfz45_0
        try clear hfz45_1
        try clear hfz45_2
        try clear hfz45_3
        try clear hfz45_4
        try clear hfz45_5
        try clear hfz45_6
        try clear hfz46_0
        try clear hfz46_1
        try clear hfz46_2
        try clear hfz48_0
        try clear hfz48_1
        try clear hfz48_2
        try clear hfz48_3
        try clear hfz48_4
        try clear hfz48_5
        try clear hfz48_6
        try clear hfz52_0
        try clear hfz52_1
        try clear hfz52_2
        try clear hfz52_3
        try clear hfz52_4
        try clear hfz52_5
        try clear hfz52_6
        try clear hfz54_0
        try clear hfz54_1
        try clear hfz54_2
        try clear hfz54_3
        try clear hfz54_4
        try clear hfz54_5
        try clear hfz54_6
        try clear hfz58_0
        try clear hfz58_1
        try clear hfz58_2
        try clear hfz58_3
        try clear hfz58_4
        try clear hfz58_5
        try clear hfz58_6
        try clear hfz59_0
        try clear hfz59_1
        try clear hfz59_2
        try clear hfz8_0
        try clear hfz8_1
        try clear hfz8_2
        try clear hfz8_3
        try clear hfz8_4
        try clear hfz8_5
        try clear hfz8_6
        try clear hx297_0
        try clear hx297_1
        try clear hx297_2
        try clear hx297_3
        try clear hx297_4
        try clear hx297_5
        try clear hx297_6
        try clear hx299_0
        try clear hx299_1
        try clear hx299_2
        try clear hx299_3
        try clear hx299_4
        try clear hx299_5
        try clear hx299_6
        try clear hx300_0
        try clear hx300_1
        try clear hx300_2
        try clear hx300_3
        try clear hx300_4
        try clear hx300_5
        try clear hx300_6
        try clear hx301_0
        try clear hx301_1
        try clear hx301_2
        try clear hx301_3
        try clear hx301_4
        try clear hx301_5
        try clear hx301_6
        try clear p2
        try clear p29
        try clear p297
        try clear p299
        try clear p3
        try clear p30
        try clear p300
        try clear p301
        try clear q2
        try clear q29
        try clear q297
        try clear q299
        try clear q3
        try clear q30
        try clear q300
        try clear q301
        obtain ⟨x7_3, x296000_3, x296001_3, x296002_3, rfl, HA, HK3, BK294, BK295, HB⟩ := hrel
        cases gk with
        | zero => exact absurd HA.out (by simp [triglyphref24_first.l0])
        | succ k3 =>
         have H := HA.out; clear HA
         simp only [triglyphref24_first.l0] at H
         by_cases c60 : x7_3 < (l1_5.length : Int)
         ·rw [if_pos c60] at H
          have c60b0 := decide_eq_true c60
          clear c60
          obtain ⟨c61, H⟩ := iS H
          have c61b0 := decide_eq_true c61
          clear c61
          replace H := Option.bind_eq_some_iff.mp H
          obtain ⟨⟨t304, t305, t306⟩, A620, H⟩ := H
          replace H : (if t304 = 0 then (triglyphref24_first.l0 k3 a0 (wrap64 (x7_3 + 1)) a1_0 a1_1 a1_2 l1_3 l1_4 l1_5 a1_6) else (some (t304, t305, t306))) = some (r1, r2, r3) := H
          have A62 := gA A620
          clear A620
          by_cases c63 : t304 = 0
          ·rw [if_pos c63] at H
           have c63b0 : (t304 == 0) = true := beq_iff_eq.mpr c63
           have c63b1 : (t304 != 0) = false := bne_eq_false_iff_eq.mpr c63
           clear c63
           have H' := gA H
           clear H
           have hnb64 := NB294_295.out
           have hnc64 := NB295_294.out
           have hcz65_0 := gz BK294 0 rfl
           have hcz65_1 := gz BK294 1 rfl
           have hcz65_2 := gz BK294 2 rfl
           have hcz65_3 := gz BK294 3 rfl
           have hcz65_4 := gz BK294 4 rfl
           have hcz65_5 := gz BK294 5 rfl
           have hcz65_6 := gz BK294 6 rfl
           have hfz65_0 := blk_frozen BK294.out 0
           have hfz65_1 := blk_frozen BK294.out 1
           have hfz65_2 := blk_frozen BK294.out 2
           have hfz65_3 := blk_frozen BK294.out 3
           have hfz65_4 := blk_frozen BK294.out 4
           have hfz65_5 := blk_frozen BK294.out 5
           have hfz65_6 := blk_frozen BK294.out 6
           have p303 : 0 ≤ (x7_3 : Int) := of_decide_eq_true (by assumption)
           have q303 : x7_3 < (l1_5.length : Int) := of_decide_eq_true (by assumption)
           obtain ⟨ad303, A303_3, c303_3, A303_4, c303_4, A303_5, c303_5, e303, hx303_0, hx303_1, hx303_2, hx303_3, hx303_4, hx303_5, hx303_6, hl303_3, hi303_3, hl303_4, hi303_4, hl303_5, hi303_5⟩ := at_T28 HR1_5.out x7_3 p303 q303
           cases e303
           replace hx303_0 := (HB.out.cell (World.block_lt_of_cell? w _ hx303_0)).trans hx303_0
           replace hx303_1 := (HB.out.cell (World.block_lt_of_cell? w _ hx303_1)).trans hx303_1
           replace hx303_2 := (HB.out.cell (World.block_lt_of_cell? w _ hx303_2)).trans hx303_2
           replace hx303_3 := (HB.out.cell (World.block_lt_of_cell? w _ hx303_3)).trans hx303_3
           replace hx303_4 := (HB.out.cell (World.block_lt_of_cell? w _ hx303_4)).trans hx303_4
           replace hx303_5 := (HB.out.cell (World.block_lt_of_cell? w _ hx303_5)).trans hx303_5
           replace hx303_6 := (HB.out.cell (World.block_lt_of_cell? w _ hx303_6)).trans hx303_6
           have HR303_3 := gA hi303_3
           have HC303_3 := gA hl303_3
           clear hi303_3 hl303_3
           have HR303_4 := gA hi303_4
           have HC303_4 := gA hl303_4
           clear hi303_4 hl303_4
           have HR303_5 := gA hi303_5
           have HC303_5 := gA hl303_5
           clear hi303_5 hl303_5
           replace p303 := eq_true p303
           replace q303 := eq_true q303
           go_wp2_with (first | ((with_reducible refine gate_callee (f := 20) rfl ?_); refine goesL_ (some 80) rfl rfl Try.func20 (by kernel_rfl) rfl #[.int .i64 a0, .agg #[.int .i64 ((rd_T28 l1_5 x7_3).f0), .int .i64 ((rd_T28 l1_5 x7_3).f1), .string ((rd_T28 l1_5 x7_3).f2), .slice A303_3 ((rd_T28 l1_5 x7_3).f3.f0).length c303_3, .slice A303_4 ((rd_T28 l1_5 x7_3).f3.f1).length c303_4, .slice A303_5 ((rd_T28 l1_5 x7_3).f4).length c303_5, .int .i64 ((rd_T28 l1_5 x7_3).f5)]] rfl (by (try simp only [List.map_toArray, List.map_cons, List.map_nil]); first | done | rfl | (simp only [List.length_drop, List.length_take]; rfl)) ?_; (with_reducible refine (ih k3 (by have := HJ23.out; have := HJ34.out; have := HK3.out; omega) a0 ((rd_T28 l1_5 x7_3).f0) ((rd_T28 l1_5 x7_3).f1) ((rd_T28 l1_5 x7_3).f2) _ _ ((rd_T28 l1_5 x7_3).f3.f0) _ _ ((rd_T28 l1_5 x7_3).f3.f1) _ _ ((rd_T28 l1_5 x7_3).f4) ((rd_T28 l1_5 x7_3).f5) t304 t305 t306 _ ?side1 ?side2 ?side3 ?side4 ?side5 ?side6 A62.out).mono ?_); (case side1 => exact gC HR303_3 HB); (case side2 => exact HC303_3.out); (case side3 => exact gC HR303_4 HB); (case side4 => exact HC303_4.out); (case side5 => exact gC HR303_5 HB); (case side6 => exact HC303_5.out); rintro e w66 ⟨rfl, hb⟩; refine ⟨_, rfl, ?_⟩; replace BK294 := gA (blk_below (gK BK294) hb); replace BK295 := gA (blk_below (gK BK295) hb); replace HB := gA (below_step (gB HB) hb); (try clear hb)) | ((with_reducible refine gate_dst (N := 8) rfl ?_); (try (refine gate_guard (by rfl) ?_; dsimp only)); refine box_event ?hg (N := 8) ?hd (cs := #[.int .i64 0, .int .i64 0, .int .i64 0]) (t := 33) ?hr ?_; (case hd => rfl); (case hg => rfl); (case hr => first | (go_simp; done) | (go_simp; rfl)); intro gb307 hg w67 hbox hb; have BK307 := gA (hbox); have GW307 := gA ((by rw [hg]; exact (below_size (gB HB)) : w.heap.size ≤ gb307)); have GE307 := gA ((by rw [hg]; exact (below_size (gB HB)) : w.heap.size ≤ gb307)); replace HB := gA (below_step (gB HB) hb); have NB294_307 := gA ((by rw [hg]; exact Nat.ne_of_lt (blk_lt (gK BK294)) : gb294 ≠ gb307)); have NB307_294 := gA ((by rw [hg]; exact Nat.ne_of_gt (blk_lt (gK BK294)) : gb307 ≠ gb294)); replace BK294 := gA (blk_below (gK BK294) hb); have NB295_307 := gA ((by rw [hg]; exact Nat.ne_of_lt (blk_lt (gK BK295)) : gb295 ≠ gb307)); have NB307_295 := gA ((by rw [hg]; exact Nat.ne_of_gt (blk_lt (gK BK295)) : gb307 ≠ gb295)); replace BK295 := gA (blk_below (gK BK295) hb); clear hb hbox hg; have hnb68 := NB307_294.out; have hnc68 := NB294_307.out; have hnb69 := NB307_295.out; have hnc69 := NB295_307.out; obtain ⟨hcz70_0, hcz70_1, hcz70_2, hfz70_0, hfz70_1, hfz70_2⟩ := gz3 BK307))
           go_roundg k3
           case measure => have := HJ23.out; have := HJ34.out; have := HK3.out; omega
           case rel => exact ⟨(wrap64 (x7_3 + 1)), (x296000_3), (x296001_3), (x296002_3), (rfl), H', ⟨by have := HJ23.out; have := HJ34.out; have := HK3.out; omega⟩, ⟨by (with_reducible repeat (first | refine blk_drewN ?_ _ | refine blk_drew ?_ | refine blk_alloc ?_ _)); refine blk_far ?_ NB294_307.out _; (with_reducible repeat (first | refine blk_drewN ?_ _ | refine blk_drew ?_ | refine blk_alloc ?_ _)); refine blk_far ?_ NB294_307.out _; (with_reducible repeat (first | refine blk_drewN ?_ _ | refine blk_drew ?_ | refine blk_alloc ?_ _)); refine blk_far ?_ NB294_307.out _; exact gK BK294⟩, ⟨by (with_reducible repeat (first | refine blk_drewN ?_ _ | refine blk_drew ?_ | refine blk_alloc ?_ _)); refine blk_far ?_ NB295_307.out _; (with_reducible repeat (first | refine blk_drewN ?_ _ | refine blk_drew ?_ | refine blk_alloc ?_ _)); refine blk_far ?_ NB295_307.out _; (with_reducible repeat (first | refine blk_drewN ?_ _ | refine blk_drew ?_ | refine blk_alloc ?_ _)); refine blk_far ?_ NB295_307.out _; exact gK BK295⟩, ⟨by repeat first | exact gB HB | refine below_set ?_ GE294.out | refine below_set ?_ GE295.out | refine below_set ?_ GE307.out⟩⟩
          ·rw [if_neg c63] at H
           have c63b0 : (t304 == 0) = false := beq_eq_false_iff_ne.mpr c63
           have c63b1 : (t304 != 0) = true := bne_iff_ne.mpr c63
           simp only [Option.some.injEq, Prod.mk.injEq] at H
           obtain ⟨rfl, rfl, rfl⟩ := H
           have hnb71 := NB294_295.out
           have hnc71 := NB295_294.out
           have hcz72_0 := gz BK294 0 rfl
           have hcz72_1 := gz BK294 1 rfl
           have hcz72_2 := gz BK294 2 rfl
           have hcz72_3 := gz BK294 3 rfl
           have hcz72_4 := gz BK294 4 rfl
           have hcz72_5 := gz BK294 5 rfl
           have hcz72_6 := gz BK294 6 rfl
           have hfz72_0 := blk_frozen BK294.out 0
           have hfz72_1 := blk_frozen BK294.out 1
           have hfz72_2 := blk_frozen BK294.out 2
           have hfz72_3 := blk_frozen BK294.out 3
           have hfz72_4 := blk_frozen BK294.out 4
           have hfz72_5 := blk_frozen BK294.out 5
           have hfz72_6 := blk_frozen BK294.out 6
           have p303 : 0 ≤ (x7_3 : Int) := of_decide_eq_true (by assumption)
           have q303 : x7_3 < (l1_5.length : Int) := of_decide_eq_true (by assumption)
           obtain ⟨ad303, A303_3, c303_3, A303_4, c303_4, A303_5, c303_5, e303, hx303_0, hx303_1, hx303_2, hx303_3, hx303_4, hx303_5, hx303_6, hl303_3, hi303_3, hl303_4, hi303_4, hl303_5, hi303_5⟩ := at_T28 HR1_5.out x7_3 p303 q303
           cases e303
           replace hx303_0 := (HB.out.cell (World.block_lt_of_cell? w _ hx303_0)).trans hx303_0
           replace hx303_1 := (HB.out.cell (World.block_lt_of_cell? w _ hx303_1)).trans hx303_1
           replace hx303_2 := (HB.out.cell (World.block_lt_of_cell? w _ hx303_2)).trans hx303_2
           replace hx303_3 := (HB.out.cell (World.block_lt_of_cell? w _ hx303_3)).trans hx303_3
           replace hx303_4 := (HB.out.cell (World.block_lt_of_cell? w _ hx303_4)).trans hx303_4
           replace hx303_5 := (HB.out.cell (World.block_lt_of_cell? w _ hx303_5)).trans hx303_5
           replace hx303_6 := (HB.out.cell (World.block_lt_of_cell? w _ hx303_6)).trans hx303_6
           have HR303_3 := gA hi303_3
           have HC303_3 := gA hl303_3
           clear hi303_3 hl303_3
           have HR303_4 := gA hi303_4
           have HC303_4 := gA hl303_4
           clear hi303_4 hl303_4
           have HR303_5 := gA hi303_5
           have HC303_5 := gA hl303_5
           clear hi303_5 hl303_5
           replace p303 := eq_true p303
           replace q303 := eq_true q303
           go_wp2_with (first | ((with_reducible refine gate_callee (f := 20) rfl ?_); refine goesL_ (some 80) rfl rfl Try.func20 (by kernel_rfl) rfl #[.int .i64 a0, .agg #[.int .i64 ((rd_T28 l1_5 x7_3).f0), .int .i64 ((rd_T28 l1_5 x7_3).f1), .string ((rd_T28 l1_5 x7_3).f2), .slice A303_3 ((rd_T28 l1_5 x7_3).f3.f0).length c303_3, .slice A303_4 ((rd_T28 l1_5 x7_3).f3.f1).length c303_4, .slice A303_5 ((rd_T28 l1_5 x7_3).f4).length c303_5, .int .i64 ((rd_T28 l1_5 x7_3).f5)]] rfl (by (try simp only [List.map_toArray, List.map_cons, List.map_nil]); first | done | rfl | (simp only [List.length_drop, List.length_take]; rfl)) ?_; (with_reducible refine (ih k3 (by have := HJ23.out; have := HJ34.out; have := HK3.out; omega) a0 ((rd_T28 l1_5 x7_3).f0) ((rd_T28 l1_5 x7_3).f1) ((rd_T28 l1_5 x7_3).f2) _ _ ((rd_T28 l1_5 x7_3).f3.f0) _ _ ((rd_T28 l1_5 x7_3).f3.f1) _ _ ((rd_T28 l1_5 x7_3).f4) ((rd_T28 l1_5 x7_3).f5) t304 t305 t306 _ ?side1 ?side2 ?side3 ?side4 ?side5 ?side6 A62.out).mono ?_); (case side1 => exact gC HR303_3 HB); (case side2 => exact HC303_3.out); (case side3 => exact gC HR303_4 HB); (case side4 => exact HC303_4.out); (case side5 => exact gC HR303_5 HB); (case side6 => exact HC303_5.out); rintro e w73 ⟨rfl, hb⟩; refine ⟨_, rfl, ?_⟩; replace BK294 := gA (blk_below (gK BK294) hb); replace BK295 := gA (blk_below (gK BK295) hb); replace HB := gA (below_step (gB HB) hb); (try clear hb)) | ((with_reducible refine gate_dst (N := 8) rfl ?_); (try (refine gate_guard (by rfl) ?_; dsimp only)); refine box_event ?hg (N := 8) ?hd (cs := #[.int .i64 0, .int .i64 0, .int .i64 0]) (t := 33) ?hr ?_; (case hd => rfl); (case hg => rfl); (case hr => first | (go_simp; done) | (go_simp; rfl)); intro gb307 hg w74 hbox hb; have BK307 := gA (hbox); have GW307 := gA ((by rw [hg]; exact (below_size (gB HB)) : w.heap.size ≤ gb307)); have GE307 := gA ((by rw [hg]; exact (below_size (gB HB)) : w.heap.size ≤ gb307)); replace HB := gA (below_step (gB HB) hb); have NB294_307 := gA ((by rw [hg]; exact Nat.ne_of_lt (blk_lt (gK BK294)) : gb294 ≠ gb307)); have NB307_294 := gA ((by rw [hg]; exact Nat.ne_of_gt (blk_lt (gK BK294)) : gb307 ≠ gb294)); replace BK294 := gA (blk_below (gK BK294) hb); have NB295_307 := gA ((by rw [hg]; exact Nat.ne_of_lt (blk_lt (gK BK295)) : gb295 ≠ gb307)); have NB307_295 := gA ((by rw [hg]; exact Nat.ne_of_gt (blk_lt (gK BK295)) : gb307 ≠ gb295)); replace BK295 := gA (blk_below (gK BK295) hb); clear hb hbox hg; have hnb75 := NB307_294.out; have hnc75 := NB294_307.out; have hnb76 := NB307_295.out; have hnc76 := NB295_307.out; obtain ⟨hcz77_0, hcz77_1, hcz77_2, hfz77_0, hfz77_1, hfz77_2⟩ := gz3 BK307; obtain ⟨hcz78_0, hcz78_1, hcz78_2, hfz78_0, hfz78_1, hfz78_2⟩ := gz3 BK295))
           refine bodyPost_ret (results_cell_row rfl _ _ gb295 33 #[.int .i64 t304, .int .i64 t305, .int .i64 t306] (0, 0) _ rfl (by refine blk_put (cs := #[.int .i64 t304, .int .i64 t305, .int .i64 x296002_3]) ?_ 2 _ rfl; refine blk_put (cs := #[.int .i64 t304, .int .i64 x296001_3, .int .i64 x296002_3]) ?_ 1 _ rfl; refine blk_put (cs := #[.int .i64 x296000_3, .int .i64 x296001_3, .int .i64 x296002_3]) ?_ 0 _ rfl; refine blk_far ?_ NB295_307.out _; refine blk_far ?_ NB295_307.out _; refine blk_far ?_ NB295_307.out _; exact gK BK295) Try.underlying33 rfl (by kernel_rfl)) rfl ?_
           exact ⟨rfl, by repeat first | exact gB HB | refine below_set ?_ GE294.out | refine below_set ?_ GE295.out | refine below_set ?_ GE307.out⟩
         ·rw [if_neg c60] at H
          have c60b0 := decide_eq_false c60
          clear c60
          simp only [Option.some.injEq, Prod.mk.injEq] at H
          obtain ⟨rfl, rfl, rfl⟩ := H
          have hnb79 := NB294_295.out
          have hnc79 := NB295_294.out
          have hcz80_0 := gz BK294 0 rfl
          have hcz80_1 := gz BK294 1 rfl
          have hcz80_2 := gz BK294 2 rfl
          have hcz80_3 := gz BK294 3 rfl
          have hcz80_4 := gz BK294 4 rfl
          have hcz80_5 := gz BK294 5 rfl
          have hcz80_6 := gz BK294 6 rfl
          have hfz80_0 := blk_frozen BK294.out 0
          have hfz80_1 := blk_frozen BK294.out 1
          have hfz80_2 := blk_frozen BK294.out 2
          have hfz80_3 := blk_frozen BK294.out 3
          have hfz80_4 := blk_frozen BK294.out 4
          have hfz80_5 := blk_frozen BK294.out 5
          have hfz80_6 := blk_frozen BK294.out 6
          obtain ⟨hcz81_0, hcz81_1, hcz81_2, hfz81_0, hfz81_1, hfz81_2⟩ := gz3 BK295
          go_wp2
          refine bodyPost_ret (results_cell_row rfl _ _ gb295 33 #[.int .i64 0, .int .i64 0, .int .i64 0] (0, 0) _ rfl (by refine blk_put (cs := #[.int .i64 0, .int .i64 0, .int .i64 x296002_3]) ?_ 2 _ rfl; refine blk_put (cs := #[.int .i64 0, .int .i64 x296001_3, .int .i64 x296002_3]) ?_ 1 _ rfl; refine blk_put (cs := #[.int .i64 x296000_3, .int .i64 x296001_3, .int .i64 x296002_3]) ?_ 0 _ rfl; exact gK BK295) Try.underlying33 rfl (by kernel_rfl)) rfl ?_
          exact ⟨rfl, by repeat first | exact gB HB | refine below_set ?_ GE294.out | refine below_set ?_ GE295.out⟩
end Go.Proofs.Ytfjkclhkobnakaa.P
