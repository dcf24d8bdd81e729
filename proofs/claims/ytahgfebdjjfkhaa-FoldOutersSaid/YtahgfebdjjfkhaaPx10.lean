/- Written by a program of this session: the functions that the laws reach, what each comes to, and each law as it is stated, for every input. No condition. -/
import Derived.Test.YtahgfebdjjfkhaaPx0
import Derived.Test.YtahgfebdjjfkhaaPx9
namespace Go.Proofs.Ytahgfebdjjfkhaa.P
open Go.RowKit Go.Proofs.YtahgfebdjjfkhaaW.PrintWords Go.Proofs.YtahgfebdjjfkhaaW.PrintLast Go.Proofs.YtahgfebdjjfkhaaW.PrintMore
attribute [local go_sem] max2_int min2_int max_two min_two max_three min_three max_four min_four   -- for this text's walks alone
set_option linter.unusedVariables false
set_option linter.unusedSimpArgs false
mutual
def triglyphref03_Cell.j0 : Nat → Int → Int → Int → List (S25) → Int → Int → List (S25) → Option (Int)
 | 0, _, _, _, _, _, _, _ => none
 | k + 1, x5, x273000, x273001, x273002, x274000, x274001, x274002 => if x5 = 0 then (if (x273002.length : Int) > 0 then (triglyphref03_Cell.j1 k x5 (decide ((x274002.length : Int) > 0)) x273000 x273001 x273002 x274000 x274001 x274002) else (triglyphref03_Cell.j1 k x5 false x273000 x273001 x273002 x274000 x274001 x274002)) else (triglyphref03_Cell.j1 k x5 false x273000 x273001 x273002 x274000 x274001 x274002)
def triglyphref03_Cell.j1 : Nat → Int → Bool → Int → Int → List (S25) → Int → Int → List (S25) → Option (Int)
 | 0, _, _, _, _, _, _, _, _ => none
 | k + 1, x5, x31, x273000, x273001, x273002, x274000, x274001, x274002 => if x31 = true then (if 0 < (x273002.length : Int) then (if 0 < (x274002.length : Int) then ((triglyphref03_Cmp.f k ((rd_T25 x273002 0).f0) ((rd_T25 x273002 0).f1) ((rd_T25 x274002 0).f0) ((rd_T25 x274002 0).f1)).bind fun t278 => (some t278)) else (none)) else (none)) else (if x5 = 0 then ((triglyphref03_ints.f (x273002.length : Int) (x274002.length : Int)).bind fun t279 => (some t279)) else (some x5))
def triglyphref03_Cell.f : Nat → Int → Int → List (S25) → Int → Int → List (S25) → Option (Int)
 | 0, _, _, _, _, _, _ => none
 | k + 1, a0_0, a0_1, l0_2, a1_0, a1_1, l1_2 => (triglyphref03_ints.f a0_0 a1_0).bind fun t274 => (if t274 = 0 then ((triglyphref03_ints.f a0_1 a1_1).bind fun t275 => (triglyphref03_Cell.j0 k t275 a0_0 a0_1 l0_2 a1_0 a1_1 l1_2)) else (triglyphref03_Cell.j0 k t274 a0_0 a0_1 l0_2 a1_0 a1_1 l1_2))
def triglyphref03_Cmp.j1 : Nat → Int → List Int → List (S43) → List Int → List (S43) → Option (Int)
 | 0, _, _, _, _, _ => none
 | k + 1, x5, x281000, x281001, x282000, x282001 => triglyphref03_Cmp.l1 k x5 0 x281000 x281001 x282000 x282001
def triglyphref03_Cmp.l1 : Nat → Int → Int → List Int → List (S43) → List Int → List (S43) → Option (Int)
 | 0, _, _, _, _, _, _ => none
 | k + 1, x5, x7, x281000, x281001, x282000, x282001 => if x7 < (x281001.length : Int) then (if x7 < (x282001.length : Int) then (if x5 = 0 then (if 0 ≤ x7 then ((triglyphref03_Cell.f k ((rd_T43 x281001 x7).f0) ((rd_T43 x281001 x7).f1) ((rd_T43 x281001 x7).f2) ((rd_T43 x282001 x7).f0) ((rd_T43 x282001 x7).f1) ((rd_T43 x282001 x7).f2)).bind fun t288 => (triglyphref03_Cmp.l1 k t288 (wrap64 (x7 + 1)) x281000 x281001 x282000 x282001)) else (none)) else (some x5)) else (if x5 = 0 then ((triglyphref03_ints.f (x281001.length : Int) (x282001.length : Int)).bind fun t289 => (some t289)) else (some x5))) else (if x5 = 0 then ((triglyphref03_ints.f (x281001.length : Int) (x282001.length : Int)).bind fun t290 => (some t290)) else (some x5))
def triglyphref03_Cmp.l0 : Nat → Int → Int → List Int → List (S43) → List Int → List (S43) → Option (Int)
 | 0, _, _, _, _, _, _ => none
 | k + 1, x5, x6, x281000, x281001, x282000, x282001 => if x6 < (x281000.length : Int) then (if x5 = 0 then (if 0 ≤ x6 then (if x6 < (x282000.length : Int) then ((triglyphref03_ints.f (rd x281000 x6) (rd x282000 x6)).bind fun t285 => (triglyphref03_Cmp.l0 k t285 (wrap64 (x6 + 1)) x281000 x281001 x282000 x282001)) else (none)) else (none)) else (triglyphref03_Cmp.j1 k x5 x281000 x281001 x282000 x282001)) else (triglyphref03_Cmp.j1 k x5 x281000 x281001 x282000 x282001)
def triglyphref03_Cmp.f : Nat → List Int → List (S43) → List Int → List (S43) → Option (Int)
 | 0, _, _, _, _ => none
 | k + 1, l0_0, l0_1, l1_0, l1_1 => (triglyphref03_ints.f (l0_0.length : Int) (l1_0.length : Int)).bind fun t282 => (triglyphref03_Cmp.l0 k t282 0 l0_0 l0_1 l1_0 l1_1)
end
theorem scc20.mono_l : ∀ k, (∀ y0 y1 y2 y3 y4 y5, LeO (triglyphref03_Cell.f k y0 y1 y2 y3 y4 y5) (triglyphref03_Cell.f (k + 1) y0 y1 y2 y3 y4 y5)) ∧ (∀ y0 y1 y2 y3 y4 y5 y6, LeO (triglyphref03_Cell.j0 k y0 y1 y2 y3 y4 y5 y6) (triglyphref03_Cell.j0 (k + 1) y0 y1 y2 y3 y4 y5 y6)) ∧ (∀ y0 y1 y2 y3 y4 y5 y6 y7, LeO (triglyphref03_Cell.j1 k y0 y1 y2 y3 y4 y5 y6 y7) (triglyphref03_Cell.j1 (k + 1) y0 y1 y2 y3 y4 y5 y6 y7)) ∧ (∀ y0 y1 y2 y3, LeO (triglyphref03_Cmp.f k y0 y1 y2 y3) (triglyphref03_Cmp.f (k + 1) y0 y1 y2 y3)) ∧ (∀ y0 y1 y2 y3 y4, LeO (triglyphref03_Cmp.j1 k y0 y1 y2 y3 y4) (triglyphref03_Cmp.j1 (k + 1) y0 y1 y2 y3 y4)) ∧ (∀ y0 y1 y2 y3 y4 y5, LeO (triglyphref03_Cmp.l1 k y0 y1 y2 y3 y4 y5) (triglyphref03_Cmp.l1 (k + 1) y0 y1 y2 y3 y4 y5)) ∧ (∀ y0 y1 y2 y3 y4 y5, LeO (triglyphref03_Cmp.l0 k y0 y1 y2 y3 y4 y5) (triglyphref03_Cmp.l0 (k + 1) y0 y1 y2 y3 y4 y5))
 | 0 => ⟨fun _ _ _ _ _ _ r h => by simp [triglyphref03_Cell.f] at h, fun _ _ _ _ _ _ _ r h => by simp [triglyphref03_Cell.j0] at h, fun _ _ _ _ _ _ _ _ r h => by simp [triglyphref03_Cell.j1] at h, fun _ _ _ _ r h => by simp [triglyphref03_Cmp.f] at h, fun _ _ _ _ _ r h => by simp [triglyphref03_Cmp.j1] at h, fun _ _ _ _ _ _ r h => by simp [triglyphref03_Cmp.l1] at h, fun _ _ _ _ _ _ r h => by simp [triglyphref03_Cmp.l0] at h⟩
 | k + 1 => by
  obtain ⟨ih0, ih1, ih2, ih3, ih4, ih5, ih6⟩ := scc20.mono_l k
  refine ⟨?_, ?_, ?_, ?_, ?_, ?_, ?_⟩
  ·intro y0 y1 y2 y3 y4 y5
   unfold triglyphref03_Cell.f
   repeat' first
   | (with_reducible exact ih0 _ _ _ _ _ _)
   | (with_reducible exact ih1 _ _ _ _ _ _ _)
   | (with_reducible exact ih2 _ _ _ _ _ _ _ _)
   | (with_reducible exact ih3 _ _ _ _)
   | (with_reducible exact ih4 _ _ _ _ _)
   | (with_reducible exact ih5 _ _ _ _ _ _)
   | (with_reducible exact ih6 _ _ _ _ _ _)
   | (with_reducible exact LeO.refl _)
   | (with_reducible exact LeO.none _)
   | (with_reducible refine LeO.ite ?_ ?_)
   | (with_reducible refine LeO.bind ?_ (fun _ => ?_))










  ·intro y0 y1 y2 y3 y4 y5 y6
   unfold triglyphref03_Cell.j0
   repeat' first
   | (with_reducible exact ih0 _ _ _ _ _ _)
   | (with_reducible exact ih1 _ _ _ _ _ _ _)
   | (with_reducible exact ih2 _ _ _ _ _ _ _ _)
   | (with_reducible exact ih3 _ _ _ _)
   | (with_reducible exact ih4 _ _ _ _ _)
   | (with_reducible exact ih5 _ _ _ _ _ _)
   | (with_reducible exact ih6 _ _ _ _ _ _)
   | (with_reducible exact LeO.refl _)
   | (with_reducible exact LeO.none _)
   | (with_reducible refine LeO.ite ?_ ?_)
   | (with_reducible refine LeO.bind ?_ (fun _ => ?_))










  ·intro y0 y1 y2 y3 y4 y5 y6 y7
   unfold triglyphref03_Cell.j1
   repeat' first
   | (with_reducible exact ih0 _ _ _ _ _ _)
   | (with_reducible exact ih1 _ _ _ _ _ _ _)
   | (with_reducible exact ih2 _ _ _ _ _ _ _ _)
   | (with_reducible exact ih3 _ _ _ _)
   | (with_reducible exact ih4 _ _ _ _ _)
   | (with_reducible exact ih5 _ _ _ _ _ _)
   | (with_reducible exact ih6 _ _ _ _ _ _)
   | (with_reducible exact LeO.refl _)
   | (with_reducible exact LeO.none _)
   | (with_reducible refine LeO.ite ?_ ?_)
   | (with_reducible refine LeO.bind ?_ (fun _ => ?_))










  ·intro y0 y1 y2 y3
   unfold triglyphref03_Cmp.f
   repeat' first
   | (with_reducible exact ih0 _ _ _ _ _ _)
   | (with_reducible exact ih1 _ _ _ _ _ _ _)
   | (with_reducible exact ih2 _ _ _ _ _ _ _ _)
   | (with_reducible exact ih3 _ _ _ _)
   | (with_reducible exact ih4 _ _ _ _ _)
   | (with_reducible exact ih5 _ _ _ _ _ _)
   | (with_reducible exact ih6 _ _ _ _ _ _)
   | (with_reducible exact LeO.refl _)
   | (with_reducible exact LeO.none _)
   | (with_reducible refine LeO.ite ?_ ?_)
   | (with_reducible refine LeO.bind ?_ (fun _ => ?_))










  ·intro y0 y1 y2 y3 y4
   unfold triglyphref03_Cmp.j1
   repeat' first
   | (with_reducible exact ih0 _ _ _ _ _ _)
   | (with_reducible exact ih1 _ _ _ _ _ _ _)
   | (with_reducible exact ih2 _ _ _ _ _ _ _ _)
   | (with_reducible exact ih3 _ _ _ _)
   | (with_reducible exact ih4 _ _ _ _ _)
   | (with_reducible exact ih5 _ _ _ _ _ _)
   | (with_reducible exact ih6 _ _ _ _ _ _)
   | (with_reducible exact LeO.refl _)
   | (with_reducible exact LeO.none _)
   | (with_reducible refine LeO.ite ?_ ?_)
   | (with_reducible refine LeO.bind ?_ (fun _ => ?_))










  ·intro y0 y1 y2 y3 y4 y5
   unfold triglyphref03_Cmp.l1
   repeat' first
   | (with_reducible exact ih0 _ _ _ _ _ _)
   | (with_reducible exact ih1 _ _ _ _ _ _ _)
   | (with_reducible exact ih2 _ _ _ _ _ _ _ _)
   | (with_reducible exact ih3 _ _ _ _)
   | (with_reducible exact ih4 _ _ _ _ _)
   | (with_reducible exact ih5 _ _ _ _ _ _)
   | (with_reducible exact ih6 _ _ _ _ _ _)
   | (with_reducible exact LeO.refl _)
   | (with_reducible exact LeO.none _)
   | (with_reducible refine LeO.ite ?_ ?_)
   | (with_reducible refine LeO.bind ?_ (fun _ => ?_))










  ·intro y0 y1 y2 y3 y4 y5
   unfold triglyphref03_Cmp.l0
   repeat' first
   | (with_reducible exact ih0 _ _ _ _ _ _)
   | (with_reducible exact ih1 _ _ _ _ _ _ _)
   | (with_reducible exact ih2 _ _ _ _ _ _ _ _)
   | (with_reducible exact ih3 _ _ _ _)
   | (with_reducible exact ih4 _ _ _ _ _)
   | (with_reducible exact ih5 _ _ _ _ _ _)
   | (with_reducible exact ih6 _ _ _ _ _ _)
   | (with_reducible exact LeO.refl _)
   | (with_reducible exact LeO.none _)
   | (with_reducible refine LeO.ite ?_ ?_)
   | (with_reducible refine LeO.bind ?_ (fun _ => ?_))
theorem triglyphref03_Cell.mono : ∀ a0 a1 a2 a3 a4 a5 k, LeO (triglyphref03_Cell.f k a0 a1 a2 a3 a4 a5) (triglyphref03_Cell.f (k + 1) a0 a1 a2 a3 a4 a5) := by
 intro a0 a1 a2 a3 a4 a5 k
 obtain ⟨ih0, ih1, ih2, ih3, ih4, ih5, ih6⟩ := scc20.mono_l k
 exact ih0 a0 a1 a2 a3 a4 a5
theorem triglyphref03_Cmp.mono : ∀ a0 a1 a2 a3 k, LeO (triglyphref03_Cmp.f k a0 a1 a2 a3) (triglyphref03_Cmp.f (k + 1) a0 a1 a2 a3) := by
 intro a0 a1 a2 a3 k
 obtain ⟨ih0, ih1, ih2, ih3, ih4, ih5, ih6⟩ := scc20.mono_l k
 exact ih3 a0 a1 a2 a3
def triglyphref03_Cell.T5 : Bool × List (List Nat × List Nat) := (true, [([], []), ([0], [0]), ([1], [1]), ([2], [2]), ([], []), ([4], [4]), ([5], [5]), ([6], [6]), ([3, 7], [3, 7]), ([8, 8, 0, 1, 2, 3, 4, 5, 6, 7, 8], [8])])
def triglyphref03_Cell.B5 : List Nat := [0, 1, 3, 7, 0, 16, 48, 112, 255, 511]
theorem triglyphref03_Cell.tab5 : rtab .any (opsOf Try.f20 5) = triglyphref03_Cell.T5 := by kernel_rfl
theorem triglyphref03_Cell.bits5 : waitsOk triglyphref03_Cell.T5.2 triglyphref03_Cell.B5 = true := by kernel_rfl
set_option maxHeartbeats 8000000 in
set_option maxRecDepth 100000 in
theorem triglyphref03_Cell.step (k : Nat) (ih : ∀ k_, k_ < k → ∀ (a0_0 : Int) (a0_1 : Int) (A0_2 : Option Addr) (c0_2 : Nat) (l0_2 : List (S25)) (a1_0 : Int) (a1_1 : Int) (A1_2 : Option Addr) (c1_2 : Nat) (l1_2 : List (S25)) (r : Int) (w : World) (hr0_2 : Kd.C k25 w A0_2 l0_2.length l0_2) (hc0_2 : l0_2.length ≤ c0_2) (hr1_2 : Kd.C k25 w A1_2 l1_2.length l1_2) (hc1_2 : l1_2.length ≤ c1_2) (h : triglyphref03_Cell.f k_ a0_0 a0_1 l0_2 a1_0 a1_1 l1_2 = some r),
  Calls Try.prog 20 #[.agg #[.int .i64 a0_0, .int .i64 a0_1, .slice A0_2 l0_2.length c0_2], .agg #[.int .i64 a1_0, .int .i64 a1_1, .slice A1_2 l1_2.length c1_2]] w fun e w' => e = .returned (.int .i64 r) ∧ Below w.heap.size w w') (ih_triglyphref03_Cmp : ∀ k_, k_ < k → ∀ (A0_0 : Option Addr) (c0_0 : Nat) (l0_0 : List Int) (A0_1 : Option Addr) (c0_1 : Nat) (l0_1 : List (S43)) (A1_0 : Option Addr) (c1_0 : Nat) (l1_0 : List Int) (A1_1 : Option Addr) (c1_1 : Nat) (l1_1 : List (S43)) (r : Int) (w : World) (hr0_0 : Kd.C (Kd.int .i64) w A0_0 l0_0.length l0_0) (hc0_0 : l0_0.length ≤ c0_0) (hr0_1 : Kd.C k43 w A0_1 l0_1.length l0_1) (hc0_1 : l0_1.length ≤ c0_1) (hr1_0 : Kd.C (Kd.int .i64) w A1_0 l1_0.length l1_0) (hc1_0 : l1_0.length ≤ c1_0) (hr1_1 : Kd.C k43 w A1_1 l1_1.length l1_1) (hc1_1 : l1_1.length ≤ c1_1) (h : triglyphref03_Cmp.f k_ l0_0 l0_1 l1_0 l1_1 = some r),
  Calls Try.prog 40 #[.agg #[.slice A0_0 l0_0.length c0_0, .slice A0_1 l0_1.length c0_1], .agg #[.slice A1_0 l1_0.length c1_0, .slice A1_1 l1_1.length c1_1]] w fun e w' => e = .returned (.int .i64 r) ∧ Below w.heap.size w w') : ∀ (a0_0 : Int) (a0_1 : Int) (A0_2 : Option Addr) (c0_2 : Nat) (l0_2 : List (S25)) (a1_0 : Int) (a1_1 : Int) (A1_2 : Option Addr) (c1_2 : Nat) (l1_2 : List (S25)) (r : Int) (w : World) (hr0_2 : Kd.C k25 w A0_2 l0_2.length l0_2) (hc0_2 : l0_2.length ≤ c0_2) (hr1_2 : Kd.C k25 w A1_2 l1_2.length l1_2) (hc1_2 : l1_2.length ≤ c1_2) (h : triglyphref03_Cell.f k a0_0 a0_1 l0_2 a1_0 a1_1 l1_2 = some r),
  Calls Try.prog 20 #[.agg #[.int .i64 a0_0, .int .i64 a0_1, .slice A0_2 l0_2.length c0_2], .agg #[.int .i64 a1_0, .int .i64 a1_1, .slice A1_2 l1_2.length c1_2]] w fun e w' => e = .returned (.int .i64 r) ∧ Below w.heap.size w w' := by
 intro a0_0 a0_1 A0_2 c0_2 l0_2 a1_0 a1_1 A1_2 c1_2 l1_2 r w hr0_2 hc0_2 hr1_2 hc1_2 h
 cases k with
 | zero => exact absurd h (by simp [triglyphref03_Cell.f])
 | succ k =>
 simp only [triglyphref03_Cell.f] at h
 have hu43 := Try.underlying43
 have hu25 := Try.underlying25
 have HR0_2 := gA hr0_2
 have HC0_2 := gA hc0_2
 clear hr0_2 hc0_2
 have HR1_2 := gA hr1_2
 have HC1_2 := gA hc1_2
 clear hr1_2 hc1_2
 have HB := gA (Below.refl w.heap.size w)
 have H : ((triglyphref03_ints.f a0_0 a1_0).bind fun t274 => (if t274 = 0 then ((triglyphref03_ints.f a0_1 a1_1).bind fun t275 => (triglyphref03_Cell.j0 k t275 a0_0 a0_1 l0_2 a1_0 a1_1 l1_2)) else (triglyphref03_Cell.j0 k t274 a0_0 a0_1 l0_2 a1_0 a1_1 l1_2))) = some r := h
 clear h
 replace H := Option.bind_eq_some_iff.mp H
 obtain ⟨t274, A30, H⟩ := H
 replace H : (if t274 = 0 then ((triglyphref03_ints.f a0_1 a1_1).bind fun t275 => (triglyphref03_Cell.j0 k t275 a0_0 a0_1 l0_2 a1_0 a1_1 l1_2)) else (triglyphref03_Cell.j0 k t274 a0_0 a0_1 l0_2 a1_0 a1_1 l1_2)) = some r := H
 have A3 := gA A30
 clear A30
 have HC4 := gA H
 clear H
 go_enter Try.func20, Try.ntmps20
 go_upto_if 12 with (first | ((with_reducible refine gate_dst (N := 2) rfl ?_); (try (refine gate_guard (by rfl) ?_; dsimp only)); refine box_event ?hg (N := 2) ?hd (cs := #[.int .i64 a0_0, .int .i64 a0_1, .slice A0_2 l0_2.length c0_2]) (t := 43) ?hr ?_; (case hd => rfl); (case hg => rfl); (case hr => first | (go_simp; done) | (go_simp; rfl)); intro gb272 hg w5 hbox hb; have BK272 := gA (hbox); have GW272 := gA ((by rw [hg]; exact (below_size (gB HB)) : w.heap.size ≤ gb272)); have GE272 := gA ((by rw [hg]; exact (below_size (gB HB)) : w.heap.size ≤ gb272)); replace HB := gA (below_step (gB HB) hb); clear hb hbox hg) | ((with_reducible refine gate_dst (N := 3) rfl ?_); (try (refine gate_guard (by rfl) ?_; dsimp only)); refine box_event ?hg (N := 3) ?hd (cs := #[.int .i64 a1_0, .int .i64 a1_1, .slice A1_2 l1_2.length c1_2]) (t := 43) ?hr ?_; (case hd => rfl); (case hg => rfl); (case hr => first | (go_simp; done) | (go_simp; rfl)); intro gb273 hg w6 hbox hb; have BK273 := gA (hbox); have GW273 := gA ((by rw [hg]; exact (below_size (gB HB)) : w.heap.size ≤ gb273)); have GE273 := gA ((by rw [hg]; exact (below_size (gB HB)) : w.heap.size ≤ gb273)); replace HB := gA (below_step (gB HB) hb); have NB272_273 := gA ((by rw [hg]; exact Nat.ne_of_lt (blk_lt (gK BK272)) : gb272 ≠ gb273)); have NB273_272 := gA ((by rw [hg]; exact Nat.ne_of_gt (blk_lt (gK BK272)) : gb273 ≠ gb272)); replace BK272 := gA (blk_below (gK BK272) hb); clear hb hbox hg; have hnb7 := NB272_273.out; have hnc7 := NB273_272.out; obtain ⟨hcz8_0, hcz8_1, hcz8_2, hfz8_0, hfz8_1, hfz8_2⟩ := gz3 BK272; obtain ⟨hcz9_0, hcz9_1, hcz9_2, hfz9_0, hfz9_1, hfz9_2⟩ := gz3 BK273) | ((with_reducible refine gate_callee (f := 44) rfl ?_); refine goesL_ (some 10) rfl rfl Try.func44 (by kernel_rfl) rfl #[.int .i64 a0_0, .int .i64 a1_0] rfl (by (try simp only [List.map_toArray, List.map_cons, List.map_nil]); first | done | rfl | (simp only [List.length_drop, List.length_take]; rfl)) ?_; (with_reducible refine (triglyphref03_ints.calls a0_0 a1_0 t274 _ A3.out).mono ?_); rintro e w' ⟨rfl, ⟨nd, rfl⟩⟩; refine ⟨_, rfl, ?_⟩))
 (try simp only [Act.put, List.setIfInBounds_toArray, List.set_cons_zero, List.set_cons_succ])
 go_cut [5] (fun v5 wc => ∃ (kq : Nat) (x5_3 : Int), v5 = .int .i64 x5_3 ∧ Aside0 (triglyphref03_Cell.j0 kq x5_3 a0_0 a0_1 l0_2 a1_0 a1_1 l1_2 = some r) ∧ Aside0 (kq ≤ k) ∧ Aside0 (wc.heap[gb272]? = some (.cells #[.int .i64 a0_0, .int .i64 a0_1, (.slice A0_2 l0_2.length c0_2)] 43 (0, 0))) ∧ Aside0 (wc.heap[gb273]? = some (.cells #[.int .i64 a1_0, .int .i64 a1_1, (.slice A1_2 l1_2.length c1_2)] 43 (0, 0))) ∧ Aside0 (Below w.heap.size w wc))
 case first =>
  have H := HC4.out; clear HC4
  by_cases c10 : t274 = 0
  ·rw [if_pos c10] at H
   have c10b0 : (t274 == 0) = true := beq_iff_eq.mpr c10
   have c10b1 : (t274 != 0) = false := bne_eq_false_iff_eq.mpr c10
   clear c10
   (first | rw [c10b0] | rw [c10b1] | (simp only [i64_w, i32_w]; rw [c10b0]) | skip)
   replace H := Option.bind_eq_some_iff.mp H
   obtain ⟨t275, A110, H⟩ := H
   replace H : (triglyphref03_Cell.j0 k t275 a0_0 a0_1 l0_2 a1_0 a1_1 l1_2) = some r := H
   have A11 := gA A110
   clear A110
   have H' := gA H
   clear H
   have hnb12 := NB272_273.out
   have hnc12 := NB273_272.out
   obtain ⟨hcz13_0, hcz13_1, hcz13_2, hfz13_0, hfz13_1, hfz13_2⟩ := gz3 BK272
   obtain ⟨hcz14_0, hcz14_1, hcz14_2, hfz14_0, hfz14_1, hfz14_2⟩ := gz3 BK273
   go_wp2_with (first | ((with_reducible refine gate_callee (f := 44) rfl ?_); refine goesL_ (some 17) rfl rfl Try.func44 (by kernel_rfl) rfl #[.int .i64 a0_1, .int .i64 a1_1] rfl (by (try simp only [List.map_toArray, List.map_cons, List.map_nil]); first | done | rfl | (simp only [List.length_drop, List.length_take]; rfl)) ?_; (with_reducible refine (triglyphref03_ints.calls a0_1 a1_1 t275 _ A11.out).mono ?_); rintro e w' ⟨rfl, ⟨nd, rfl⟩⟩; refine ⟨_, rfl, ?_⟩))
   all_goals (go_meet; (case rel => exact ⟨_, (t275), (by first | rfl | (simp; done) | (simp [*]; done) | (exfalso; simp_all; done) | (exfalso; simp_all; omega)), H', ⟨by first | omega | exact Nat.le_refl _⟩, ⟨gK BK272⟩, ⟨gK BK273⟩, ⟨gB HB⟩⟩))
  ·rw [if_neg c10] at H
   have c10b0 : (t274 == 0) = false := beq_eq_false_iff_ne.mpr c10
   have c10b1 : (t274 != 0) = true := bne_iff_ne.mpr c10
   (first | rw [c10b0] | rw [c10b1] | (simp only [i64_w, i32_w]; rw [c10b0]) | skip)
   have H' := gA H
   clear H
   go_wp2
   all_goals (go_meet; (case rel => exact ⟨_, (t274), (by first | rfl | (simp; done) | (simp [*]; done) | (exfalso; simp_all; done) | (exfalso; simp_all; omega)), H', ⟨by first | omega | exact Nat.le_refl _⟩, ⟨gK BK272⟩, ⟨gK BK273⟩, ⟨gB HB⟩⟩))
 case rest =>
  clear HC4
  try clear c1
  try clear c2
  try clear p2
  try clear c4
  try clear c7
  try clear c10
  try clear c10b0
  try clear c10b1
  try clear c12
  try clear hcz13_0
  try clear hcz13_1
  try clear hcz13_2
  try clear hcz14_0
  try clear hcz14_1
  try clear hcz14_2
  try clear hcz8_0
  try clear hcz8_1
  try clear hcz8_2
  try clear hcz9_0
  try clear hcz9_1
  try clear hcz9_2
  try clear hfz13_0
  try clear hfz13_1
  try clear hfz13_2
  try clear hfz14_0
  try clear hfz14_1
  try clear hfz14_2
  try clear hfz8_0
  try clear hfz8_1
  try clear hfz8_2
  try clear hfz9_0
  try clear hfz9_1
  try clear hfz9_2
  obtain ⟨kq, x5_3, rfl, HA, HJ3, BK272, BK273, HB⟩ := hcut
  cases kq with
  | zero => exact absurd HA.out (by simp [triglyphref03_Cell.j0])
  | succ kj3 =>
   have H := HA.out; clear HA
   simp only [triglyphref03_Cell.j0] at H
   have HC15 := gA H
   clear H
   go_upto_region 4 with (fail)
   go_cut [31] (fun v31 wc => ∃ (kq : Nat) (x31_14 : Bool), v31 = .bool x31_14 ∧ Aside0 (triglyphref03_Cell.j1 kq x5_3 x31_14 a0_0 a0_1 l0_2 a1_0 a1_1 l1_2 = some r) ∧ Aside0 (kq ≤ kj3) ∧ Aside0 (wc.heap[gb272]? = some (.cells #[.int .i64 a0_0, .int .i64 a0_1, (.slice A0_2 l0_2.length c0_2)] 43 (0, 0))) ∧ Aside0 (wc.heap[gb273]? = some (.cells #[.int .i64 a1_0, .int .i64 a1_1, (.slice A1_2 l1_2.length c1_2)] 43 (0, 0))) ∧ Aside0 (Below w.heap.size w wc))
   case first =>
    have H := HC15.out; clear HC15
    by_cases c16 : x5_3 = 0
    ·rw [if_pos c16] at H
     have c16b0 : (x5_3 == 0) = true := beq_iff_eq.mpr c16
     have c16b1 : (x5_3 != 0) = false := bne_eq_false_iff_eq.mpr c16
     clear c16
     (first | rw [c16b0] | rw [c16b1] | (simp only [i64_w, i32_w]; rw [c16b0]) | skip)
     by_cases c17 : (l0_2.length : Int) > 0
     ·rw [if_pos c17] at H
      have c17b0 : decide (0 < (l0_2.length : Int)) = true := decide_eq_true c17
      have c17b1 : decide (0 < l0_2.length) = true := decide_eq_true (by omega)
      clear c17
      have H' := gA H
      clear H
      have hnb18 := NB272_273.out
      have hnc18 := NB273_272.out
      obtain ⟨hcz19_0, hcz19_1, hcz19_2, hfz19_0, hfz19_1, hfz19_2⟩ := gz3 BK272
      obtain ⟨hcz20_0, hcz20_1, hcz20_2, hfz20_0, hfz20_1, hfz20_2⟩ := gz3 BK273
      go_wp2
      all_goals (go_meet; (case rel => exact ⟨_, (decide ((l1_2.length : Int) > 0)), (by first | rfl | (simp; done) | (simp [*]; done) | (exfalso; simp_all; done) | (exfalso; simp_all; omega)), H', ⟨by have := HJ3.out; first | omega | exact Nat.le_refl _⟩, ⟨gK BK272⟩, ⟨gK BK273⟩, ⟨gB HB⟩⟩))
     ·rw [if_neg c17] at H
      have c17b0 : decide (0 < (l0_2.length : Int)) = false := decide_eq_false c17
      have c17b1 : decide (0 < l0_2.length) = false := decide_eq_false (by omega)
      clear c17
      have H' := gA H
      clear H
      have hnb21 := NB272_273.out
      have hnc21 := NB273_272.out
      obtain ⟨hcz22_0, hcz22_1, hcz22_2, hfz22_0, hfz22_1, hfz22_2⟩ := gz3 BK272
      go_wp2
      all_goals (go_meet; (case rel => exact ⟨_, (false), (by first | rfl | (simp; done) | (simp [*]; done) | (exfalso; simp_all; done) | (exfalso; simp_all; omega)), H', ⟨by have := HJ3.out; first | omega | exact Nat.le_refl _⟩, ⟨gK BK272⟩, ⟨gK BK273⟩, ⟨gB HB⟩⟩))
    ·rw [if_neg c16] at H
     have c16b0 : (x5_3 == 0) = false := beq_eq_false_iff_ne.mpr c16
     have c16b1 : (x5_3 != 0) = true := bne_iff_ne.mpr c16
     (first | rw [c16b0] | rw [c16b1] | (simp only [i64_w, i32_w]; rw [c16b0]) | skip)
     have H' := gA H
     clear H
     go_wp2
     all_goals (go_meet; (case rel => exact ⟨_, (false), (by first | rfl | (simp; done) | (simp [*]; done) | (exfalso; simp_all; done) | (exfalso; simp_all; omega)), H', ⟨by have := HJ3.out; first | omega | exact Nat.le_refl _⟩, ⟨gK BK272⟩, ⟨gK BK273⟩, ⟨gB HB⟩⟩))
   case rest =>
    clear HC15
    try clear c1
    try clear c2
    try clear p2
    try clear c4
    try clear c7
    try clear c10
    try clear c10b0
    try clear c10b1
    try clear c12
    try clear c16
    try clear c16b0
    try clear c16b1
    try clear c17
    try clear c17b0
    try clear c17b1
    try clear c18
    try clear c20
    try clear c21
    try clear hcz13_0
    try clear hcz13_1
    try clear hcz13_2
    try clear hcz14_0
    try clear hcz14_1
    try clear hcz14_2
    try clear hcz19_0
    try clear hcz19_1
    try clear hcz19_2
    try clear hcz20_0
    try clear hcz20_1
    try clear hcz20_2
    try clear hcz22_0
    try clear hcz22_1
    try clear hcz22_2
    try clear hcz8_0
    try clear hcz8_1
    try clear hcz8_2
    try clear hcz9_0
    try clear hcz9_1
    try clear hcz9_2
    try clear hfz13_0
    try clear hfz13_1
    try clear hfz13_2
    try clear hfz14_0
    try clear hfz14_1
    try clear hfz14_2
    try clear hfz19_0
    try clear hfz19_1
    try clear hfz19_2
    try clear hfz20_0
    try clear hfz20_1
    try clear hfz20_2
    try clear hfz22_0
    try clear hfz22_1
    try clear hfz22_2
    try clear hfz8_0
    try clear hfz8_1
    try clear hfz8_2
    try clear hfz9_0
    try clear hfz9_1
    try clear hfz9_2
    try clear p2
    obtain ⟨kq, x31_14, rfl, HA, HJ14, BK272, BK273, HB⟩ := hcut
    cases kq with
    | zero => exact absurd HA.out (by simp [triglyphref03_Cell.j1])
    | succ kj14 =>
     have H := HA.out; clear HA
     simp only [triglyphref03_Cell.j1] at H
     by_cases c23 : x31_14 = true
     ·subst c23
      have H1 : (if 0 < (l0_2.length : Int) then (if 0 < (l1_2.length : Int) then ((triglyphref03_Cmp.f kj14 ((rd_T25 l0_2 0).f0) ((rd_T25 l0_2 0).f1) ((rd_T25 l1_2 0).f0) ((rd_T25 l1_2 0).f1)).bind fun t278 => (some t278)) else (none)) else (none)) = some r := by rw [if_pos rfl] at H; exact H
      clear H; have H := H1; clear H1
      obtain ⟨c24, H⟩ := iS H
      have c24b0 := decide_eq_true c24
      have c24b1 : decide (0 < l0_2.length) = true := decide_eq_true (by omega)
      clear c24
      obtain ⟨c25, H⟩ := iS H
      have c25b0 := decide_eq_true c25
      have c25b1 : decide (0 < l1_2.length) = true := decide_eq_true (by omega)
      clear c25
      replace H := Option.bind_eq_some_iff.mp H
      obtain ⟨t278, A260, H⟩ := H
      replace H : (some t278) = some r := H
      have A26 := gA A260
      clear A260
      obtain rfl := Option.some.inj H
      try go_wp2
      replace BK272 := gA (blk_drew BK272.out); replace BK273 := gA (blk_drew BK273.out); replace HB := gA (below_drew1 HB.out)
      have p276 : 0 ≤ (0 : Int) := (by omega)
      have q276 : 0 < (l0_2.length : Int) := of_decide_eq_true (by assumption)
      obtain ⟨ad276, A276_0, c276_0, A276_1, c276_1, e276, hx276_0, hx276_1, hl276_0, hi276_0, hl276_1, hi276_1⟩ := at_T25 HR0_2.out 0 p276 q276
      have hw276_1 := hx276_1
      (try rw [show ((0 : Int)).toNat = 0 from rfl] at hw276_1)
      (try rw [show 0 * 2 = 0 from rfl] at hw276_1)
      (try rw [Addr.add_zero'] at hw276_1)
      have hw276_0 := hx276_0
      (try rw [show ((0 : Int)).toNat = 0 from rfl] at hw276_0)
      (try rw [show 0 * 2 = 0 from rfl] at hw276_0)
      (try rw [Addr.add_zero'] at hw276_0)
      cases e276
      have qi276 : (0 < l0_2.length) = True := eq_true (by omega)
      (try rw [show ((0 : Int)).toNat = 0 from rfl] at hx276_0)
      (try rw [show 0 * 2 = 0 from rfl] at hx276_0)
      (try rw [Addr.add_zero'] at hx276_0)
      (try rw [show ((0 : Int)).toNat = 0 from rfl] at hx276_1)
      (try rw [show 0 * 2 = 0 from rfl] at hx276_1)
      (try rw [Addr.add_zero'] at hx276_1)
      replace hx276_0 := (HB.out.cell (World.block_lt_of_cell? w _ hx276_0)).trans hx276_0
      replace hx276_1 := (HB.out.cell (World.block_lt_of_cell? w _ hx276_1)).trans hx276_1
      have HR276_0 := gA hi276_0
      have HC276_0 := gA hl276_0
      clear hi276_0 hl276_0
      have HR276_1 := gA hi276_1
      have HC276_1 := gA hl276_1
      clear hi276_1 hl276_1
      replace p276 := eq_true p276
      replace q276 := eq_true q276
      have p277 : 0 ≤ (0 : Int) := (by omega)
      have q277 : 0 < (l1_2.length : Int) := of_decide_eq_true (by assumption)
      obtain ⟨ad277, A277_0, c277_0, A277_1, c277_1, e277, hx277_0, hx277_1, hl277_0, hi277_0, hl277_1, hi277_1⟩ := at_T25 HR1_2.out 0 p277 q277
      have hw277_1 := hx277_1
      (try rw [show ((0 : Int)).toNat = 0 from rfl] at hw277_1)
      (try rw [show 0 * 2 = 0 from rfl] at hw277_1)
      (try rw [Addr.add_zero'] at hw277_1)
      have hw277_0 := hx277_0
      (try rw [show ((0 : Int)).toNat = 0 from rfl] at hw277_0)
      (try rw [show 0 * 2 = 0 from rfl] at hw277_0)
      (try rw [Addr.add_zero'] at hw277_0)
      cases e277
      have qi277 : (0 < l1_2.length) = True := eq_true (by omega)
      (try rw [show ((0 : Int)).toNat = 0 from rfl] at hx277_0)
      (try rw [show 0 * 2 = 0 from rfl] at hx277_0)
      (try rw [Addr.add_zero'] at hx277_0)
      (try rw [show ((0 : Int)).toNat = 0 from rfl] at hx277_1)
      (try rw [show 0 * 2 = 0 from rfl] at hx277_1)
      (try rw [Addr.add_zero'] at hx277_1)
      replace hx277_0 := (HB.out.cell (World.block_lt_of_cell? w _ hx277_0)).trans hx277_0
      replace hx277_1 := (HB.out.cell (World.block_lt_of_cell? w _ hx277_1)).trans hx277_1
      have HR277_0 := gA hi277_0
      have HC277_0 := gA hl277_0
      clear hi277_0 hl277_0
      have HR277_1 := gA hi277_1
      have HC277_1 := gA hl277_1
      clear hi277_1 hl277_1
      replace p277 := eq_true p277
      replace q277 := eq_true q277
      refine start_ (n := 10) (S := fun w' => w'.cell? ⟨gb272, 0, none⟩ = some (.int .i64 a0_0) ∧ w'.cell? ⟨gb272, 1, none⟩ = some (.int .i64 a0_1) ∧ w'.cell? ⟨gb272, 2, none⟩ = some (.slice (some ad276) l0_2.length c0_2) ∧ w'.cell? ⟨gb273, 0, none⟩ = some (.int .i64 a1_0) ∧ w'.cell? ⟨gb273, 1, none⟩ = some (.int .i64 a1_1) ∧ w'.cell? ⟨gb273, 2, none⟩ = some (.slice (some ad277) l1_2.length c1_2) ∧ w'.cell? ad276 = some (.slice A276_0 ((rd_T25 l0_2 0).f0).length c276_0) ∧ w'.cell? ⟨ad276.block, ad276.off + 1, none⟩ = some (.slice A276_1 ((rd_T25 l0_2 0).f1).length c276_1) ∧ w'.cell? ad277 = some (.slice A277_0 ((rd_T25 l1_2 0).f0).length c277_0) ∧ w'.cell? ⟨ad277.block, ad277.off + 1, none⟩ = some (.slice A277_1 ((rd_T25 l1_2 0).f1).length c277_1)) (ds := []) #[false, false, false, false, false, false, false, false, false, false] (by kernel_rfl) rfl rfl ⟨(blk_cell BK272.out 0).trans rfl, (blk_cell BK272.out 1).trans rfl, (blk_cell BK272.out 2).trans rfl, (blk_cell BK273.out 0).trans rfl, (blk_cell BK273.out 1).trans rfl, (blk_cell BK273.out 2).trans rfl, ((HB.out.cell (World.block_lt_of_cell? w _ hw276_0)).trans hw276_0), ((HB.out.cell (World.block_lt_of_cell? w _ hw276_1)).trans hw276_1), ((HB.out.cell (World.block_lt_of_cell? w _ hw277_0)).trans hw277_0), ((HB.out.cell (World.block_lt_of_cell? w _ hw277_1)).trans hw277_1)⟩ (fun hHeld => ?_); refine with_tabW triglyphref03_Cell.tab5 triglyphref03_Cell.bits5 (fun HT_ HW_ => ?_)
      generalize wc.drew = w27 at BK272 BK273 HB HR276_0 HR276_1 HR277_0 HR277_1 hx276_0 hx276_1 hx277_0 hx277_1 hHeld ⊢
      refine pure_ (i := 0) (N := some 32) (v := ?_) (a' := ?_) #[true, false, false, false, false, false, false, false, false, false] rfl rfl (any_of HT_.out (by kernel_rfl)) (fun _ _ _ h => h) (Or.inl ⟨by rfl, ?_⟩) ?_ ?_; rotate_left
      ·intro w'; go_simp; with_reducible rfl
      rotate_left
      ·simp only [Act.put, List.setIfInBounds_toArray, List.set_cons_zero, List.set_cons_succ, i64_w, i32_w]; rfl
      refine pure_ (i := 4) (N := some 36) (v := ?_) (a' := ?_) #[true, false, false, false, true, false, false, false, false, false] rfl rfl (any_of HT_.out (by kernel_rfl)) (fun _ _ _ h => h) (Or.inl ⟨by rfl, ?_⟩) ?_ ?_; rotate_left
      ·intro w'; go_simp; with_reducible rfl
      rotate_left
      ·simp only [Act.put, List.setIfInBounds_toArray, List.set_cons_zero, List.set_cons_succ, i64_w, i32_w]; rfl
      refine take_ (i := 1) (N := some 33) (v := ?_) (a' := ?_) #[true, true, false, false, true, false, false, false, false, false] rfl rfl (take_ofW HT_.out HW_.out (by kernel_rfl)) (fun _ _ _ h => h) (Or.inl ⟨by rfl, ?_⟩) hHeld ?_ ?_; rotate_left
      ·rintro w' ⟨s0, s1, s2, s3, s4, s5, s6, s7, s8, s9⟩; go_simp; with_reducible rfl
      rotate_left
      ·simp only [Act.put, List.setIfInBounds_toArray, List.set_cons_zero, List.set_cons_succ, i64_w, i32_w]; rfl
      refine pure_ (i := 2) (N := some 34) (v := ?_) (a' := ?_) #[true, true, true, false, true, false, false, false, false, false] rfl rfl (any_of HT_.out (by kernel_rfl)) (fun _ _ _ h => h) (Or.inl ⟨by rfl, ?_⟩) ?_ ?_; rotate_left
      ·intro w'; go_simp; with_reducible rfl
      rotate_left
      ·simp only [Act.put, List.setIfInBounds_toArray, List.set_cons_zero, List.set_cons_succ, i64_w, i32_w]; rfl
      refine take_ (i := 3) (N := some 35) (v := ?_) (a' := ?_) #[true, true, true, true, true, false, false, false, false, false] rfl rfl (take_ofW HT_.out HW_.out (by kernel_rfl)) (fun _ _ _ h => h) (Or.inl ⟨by rfl, ?_⟩) hHeld ?_ ?_; rotate_left
      ·rintro w' ⟨s0, s1, s2, s3, s4, s5, s6, s7, s8, s9⟩; go_simp; with_reducible rfl
      rotate_left
      ·simp only [Act.put, List.setIfInBounds_toArray, List.set_cons_zero, List.set_cons_succ, i64_w, i32_w]; rfl
      refine take_ (i := 5) (N := some 37) (v := ?_) (a' := ?_) #[true, true, true, true, true, true, false, false, false, false] rfl rfl (take_ofW HT_.out HW_.out (by kernel_rfl)) (fun _ _ _ h => h) (Or.inl ⟨by rfl, ?_⟩) hHeld ?_ ?_; rotate_left
      ·rintro w' ⟨s0, s1, s2, s3, s4, s5, s6, s7, s8, s9⟩; go_simp; with_reducible rfl
      rotate_left
      ·simp only [Act.put, List.setIfInBounds_toArray, List.set_cons_zero, List.set_cons_succ, i64_w, i32_w]; rfl
      refine pure_ (i := 6) (N := some 38) (v := ?_) (a' := ?_) #[true, true, true, true, true, true, true, false, false, false] rfl rfl (any_of HT_.out (by kernel_rfl)) (fun _ _ _ h => h) (Or.inl ⟨by rfl, ?_⟩) ?_ ?_; rotate_left
      ·intro w'; go_simp; with_reducible rfl
      rotate_left
      ·simp only [Act.put, List.setIfInBounds_toArray, List.set_cons_zero, List.set_cons_succ, i64_w, i32_w]; rfl
      refine take_ (i := 7) (N := some 39) (v := ?_) (a' := ?_) #[true, true, true, true, true, true, true, true, false, false] rfl rfl (take_ofW HT_.out HW_.out (by kernel_rfl)) (fun _ _ _ h => h) (Or.inl ⟨by rfl, ?_⟩) hHeld ?_ ?_; rotate_left
      ·rintro w' ⟨s0, s1, s2, s3, s4, s5, s6, s7, s8, s9⟩; go_simp; with_reducible rfl
      rotate_left
      ·simp only [Act.put, List.setIfInBounds_toArray, List.set_cons_zero, List.set_cons_succ, i64_w, i32_w]; rfl
      refine one_ (i := 8) (N := some 40) #[true, true, true, true, true, true, true, true, true, false] rfl rfl (one_of HT_.out (by kernel_rfl)) (by decide) (fun K hK => ?_)
      refine goes_ Try.func40 (by kernel_rfl) rfl #[.agg #[.slice A276_0 ((rd_T25 l0_2 0).f0).length c276_0, .slice A276_1 ((rd_T25 l0_2 0).f1).length c276_1], .agg #[.slice A277_0 ((rd_T25 l1_2 0).f0).length c277_0, .slice A277_1 ((rd_T25 l1_2 0).f1).length c277_1]] (by rfl) rfl rfl (by (try simp only [List.map_toArray, List.map_cons, List.map_nil]); first | done | rfl | (simp only [List.length_drop, List.length_take]; rfl)) ?_
      with_reducible refine (ih_triglyphref03_Cmp kj14 (by have := HJ3.out; have := HJ14.out; omega) _ _ ((rd_T25 l0_2 0).f0) _ _ ((rd_T25 l0_2 0).f1) _ _ ((rd_T25 l1_2 0).f0) _ _ ((rd_T25 l1_2 0).f1) t278 _ ?side1 ?side2 ?side3 ?side4 ?side5 ?side6 ?side7 ?side8 A26.out).mono ?_
      (case side1 => exact gC HR276_0 HB)
      (case side2 => exact HC276_0.out)
      (case side3 => exact gC HR276_1 HB)
      (case side4 => exact HC276_1.out)
      (case side5 => exact gC HR277_0 HB)
      (case side6 => exact HC277_0.out)
      (case side7 => exact gC HR277_1 HB)
      (case side8 => exact HC277_1.out)
      rintro e w28 ⟨rfl, hb⟩
      refine ⟨_, rfl, ?_⟩
      replace BK272 := gA (blk_below (gK BK272) hb); replace BK273 := gA (blk_below (gK BK273) hb); replace HB := gA (below_step (gB HB) hb); (try clear hb)
      refine hK.out _ _ ⟨(blk_cell BK272.out 0).trans rfl, (blk_cell BK272.out 1).trans rfl, (blk_cell BK272.out 2).trans rfl, (blk_cell BK273.out 0).trans rfl, (blk_cell BK273.out 1).trans rfl, (blk_cell BK273.out 2).trans rfl, ((HB.out.cell (World.block_lt_of_cell? w _ hw276_0)).trans hw276_0), ((HB.out.cell (World.block_lt_of_cell? w _ hw276_1)).trans hw276_1), ((HB.out.cell (World.block_lt_of_cell? w _ hw277_0)).trans hw277_0), ((HB.out.cell (World.block_lt_of_cell? w _ hw277_1)).trans hw277_1)⟩ (fun hHeld => ?_); clear hK K
      refine norm_ (a' := ?_) ?_ ?_; rotate_left
      ·show Act.put _ (some 40) _ = _
       simp only [Act.put, List.setIfInBounds_toArray, List.set_cons_zero, List.set_cons_succ, i64_w, i32_w]; rfl
      refine pure_ (i := 9) (N := some 4) (v := ?_) (a' := ?_) #[true, true, true, true, true, true, true, true, true, true] rfl rfl (any_of HT_.out (by kernel_rfl)) (fun _ _ _ h => h) (Or.inl ⟨by rfl, ?_⟩) ?_ ?_; rotate_left
      ·intro w'; go_simp; with_reducible rfl
      rotate_left
      ·simp only [Act.put, List.setIfInBounds_toArray, List.set_cons_zero, List.set_cons_succ, i64_w, i32_w]; rfl
      refine done_ (done_of HT_.out (by kernel_rfl)) ?_
      try go_wp2
      go_ret
      exact ⟨rfl, by repeat first | exact gB HB | refine below_set ?_ GE272.out | refine below_set ?_ GE273.out⟩
     ·replace c23 := Bool.eq_false_iff.mpr c23
      subst c23
      have H1 : (if x5_3 = 0 then ((triglyphref03_ints.f (l0_2.length : Int) (l1_2.length : Int)).bind fun t279 => (some t279)) else (some x5_3)) = some r := by rw [if_neg (show ¬ (false = true) by decide)] at H; exact H
      clear H; have H := H1; clear H1
      by_cases c29 : x5_3 = 0
      ·rw [if_pos c29] at H
       have c29b0 : (x5_3 == 0) = true := beq_iff_eq.mpr c29
       have c29b1 : (x5_3 != 0) = false := bne_eq_false_iff_eq.mpr c29
       clear c29
       replace H := Option.bind_eq_some_iff.mp H
       obtain ⟨t279, A300, H⟩ := H
       replace H : (some t279) = some r := H
       have A30 := gA A300
       clear A300
       obtain rfl := Option.some.inj H
       have hnb31 := NB272_273.out
       have hnc31 := NB273_272.out
       obtain ⟨hcz32_0, hcz32_1, hcz32_2, hfz32_0, hfz32_1, hfz32_2⟩ := gz3 BK272
       obtain ⟨hcz33_0, hcz33_1, hcz33_2, hfz33_0, hfz33_1, hfz33_2⟩ := gz3 BK273
       go_wp2_with (first | ((with_reducible refine gate_callee (f := 44) rfl ?_); refine goesL_ (some 49) rfl rfl Try.func44 (by kernel_rfl) rfl #[.int .i64 (l0_2.length : Int), .int .i64 (l1_2.length : Int)] rfl (by (try simp only [List.map_toArray, List.map_cons, List.map_nil]); first | done | rfl | (simp only [List.length_drop, List.length_take]; rfl)) ?_; (with_reducible refine (triglyphref03_ints.calls (l0_2.length : Int) (l1_2.length : Int) t279 _ A30.out).mono ?_); rintro e w' ⟨rfl, ⟨nd, rfl⟩⟩; refine ⟨_, rfl, ?_⟩))
       go_ret
       exact ⟨rfl, by repeat first | exact gB HB | refine below_set ?_ GE272.out | refine below_set ?_ GE273.out⟩
      ·rw [if_neg c29] at H
       have c29b0 : (x5_3 == 0) = false := beq_eq_false_iff_ne.mpr c29
       have c29b1 : (x5_3 != 0) = true := bne_iff_ne.mpr c29
       obtain rfl := Option.some.inj H
       go_wp2
       go_ret
       exact ⟨rfl, by repeat first | exact gB HB | refine below_set ?_ GE272.out | refine below_set ?_ GE273.out⟩
def triglyphref03_Cmp.T5 : Bool × List (List Nat × List Nat) := (true, [([], []), ([0], [0]), ([], []), ([1, 2], [1, 2]), ([3], [3]), ([], []), ([5], [5]), ([], []), ([6, 7], [6, 7]), ([8], [8]), ([4, 9], [4, 9]), ([10, 10, 0, 1, 2, 3, 4, 5, 6, 7, 8, 9, 10], [10])])
def triglyphref03_Cmp.B5 : List Nat := [0, 1, 0, 7, 15, 0, 32, 0, 224, 480, 1023, 2047]
theorem triglyphref03_Cmp.tab5 : rtab .any (opsOf Try.f40 5) = triglyphref03_Cmp.T5 := by kernel_rfl
theorem triglyphref03_Cmp.bits5 : waitsOk triglyphref03_Cmp.T5.2 triglyphref03_Cmp.B5 = true := by kernel_rfl
def triglyphref03_Cmp.T9 : Bool × List (List Nat × List Nat) := (true, [([], []), ([0], [0]), ([], []), ([1, 2], [1, 2]), ([3], [3]), ([], []), ([5], [5]), ([], []), ([6, 7], [6, 7]), ([8], [8]), ([4, 9], [4, 9]), ([10, 10, 0, 1, 2, 3, 4, 5, 6, 7, 8, 9, 10], [10])])
def triglyphref03_Cmp.B9 : List Nat := [0, 1, 0, 7, 15, 0, 32, 0, 224, 480, 1023, 2047]
theorem triglyphref03_Cmp.tab9 : rtab .any (opsOf Try.f40 9) = triglyphref03_Cmp.T9 := by kernel_rfl
theorem triglyphref03_Cmp.bits9 : waitsOk triglyphref03_Cmp.T9.2 triglyphref03_Cmp.B9 = true := by kernel_rfl
set_option maxHeartbeats 8000000 in
set_option maxRecDepth 100000 in
theorem triglyphref03_Cmp.step (k : Nat) (ih_triglyphref03_Cell : ∀ k_, k_ < k → ∀ (a0_0 : Int) (a0_1 : Int) (A0_2 : Option Addr) (c0_2 : Nat) (l0_2 : List (S25)) (a1_0 : Int) (a1_1 : Int) (A1_2 : Option Addr) (c1_2 : Nat) (l1_2 : List (S25)) (r : Int) (w : World) (hr0_2 : Kd.C k25 w A0_2 l0_2.length l0_2) (hc0_2 : l0_2.length ≤ c0_2) (hr1_2 : Kd.C k25 w A1_2 l1_2.length l1_2) (hc1_2 : l1_2.length ≤ c1_2) (h : triglyphref03_Cell.f k_ a0_0 a0_1 l0_2 a1_0 a1_1 l1_2 = some r),
  Calls Try.prog 20 #[.agg #[.int .i64 a0_0, .int .i64 a0_1, .slice A0_2 l0_2.length c0_2], .agg #[.int .i64 a1_0, .int .i64 a1_1, .slice A1_2 l1_2.length c1_2]] w fun e w' => e = .returned (.int .i64 r) ∧ Below w.heap.size w w') (ih : ∀ k_, k_ < k → ∀ (A0_0 : Option Addr) (c0_0 : Nat) (l0_0 : List Int) (A0_1 : Option Addr) (c0_1 : Nat) (l0_1 : List (S43)) (A1_0 : Option Addr) (c1_0 : Nat) (l1_0 : List Int) (A1_1 : Option Addr) (c1_1 : Nat) (l1_1 : List (S43)) (r : Int) (w : World) (hr0_0 : Kd.C (Kd.int .i64) w A0_0 l0_0.length l0_0) (hc0_0 : l0_0.length ≤ c0_0) (hr0_1 : Kd.C k43 w A0_1 l0_1.length l0_1) (hc0_1 : l0_1.length ≤ c0_1) (hr1_0 : Kd.C (Kd.int .i64) w A1_0 l1_0.length l1_0) (hc1_0 : l1_0.length ≤ c1_0) (hr1_1 : Kd.C k43 w A1_1 l1_1.length l1_1) (hc1_1 : l1_1.length ≤ c1_1) (h : triglyphref03_Cmp.f k_ l0_0 l0_1 l1_0 l1_1 = some r),
  Calls Try.prog 40 #[.agg #[.slice A0_0 l0_0.length c0_0, .slice A0_1 l0_1.length c0_1], .agg #[.slice A1_0 l1_0.length c1_0, .slice A1_1 l1_1.length c1_1]] w fun e w' => e = .returned (.int .i64 r) ∧ Below w.heap.size w w') : ∀ (A0_0 : Option Addr) (c0_0 : Nat) (l0_0 : List Int) (A0_1 : Option Addr) (c0_1 : Nat) (l0_1 : List (S43)) (A1_0 : Option Addr) (c1_0 : Nat) (l1_0 : List Int) (A1_1 : Option Addr) (c1_1 : Nat) (l1_1 : List (S43)) (r : Int) (w : World) (hr0_0 : Kd.C (Kd.int .i64) w A0_0 l0_0.length l0_0) (hc0_0 : l0_0.length ≤ c0_0) (hr0_1 : Kd.C k43 w A0_1 l0_1.length l0_1) (hc0_1 : l0_1.length ≤ c0_1) (hr1_0 : Kd.C (Kd.int .i64) w A1_0 l1_0.length l1_0) (hc1_0 : l1_0.length ≤ c1_0) (hr1_1 : Kd.C k43 w A1_1 l1_1.length l1_1) (hc1_1 : l1_1.length ≤ c1_1) (h : triglyphref03_Cmp.f k l0_0 l0_1 l1_0 l1_1 = some r),
  Calls Try.prog 40 #[.agg #[.slice A0_0 l0_0.length c0_0, .slice A0_1 l0_1.length c0_1], .agg #[.slice A1_0 l1_0.length c1_0, .slice A1_1 l1_1.length c1_1]] w fun e w' => e = .returned (.int .i64 r) ∧ Below w.heap.size w w' := by
 intro A0_0 c0_0 l0_0 A0_1 c0_1 l0_1 A1_0 c1_0 l1_0 A1_1 c1_1 l1_1 r w hr0_0 hc0_0 hr0_1 hc0_1 hr1_0 hc1_0 hr1_1 hc1_1 h
 cases k with
 | zero => exact absurd h (by simp [triglyphref03_Cmp.f])
 | succ k =>
 simp only [triglyphref03_Cmp.f] at h
 have hu25 := Try.underlying25
 have hu43 := Try.underlying43
 have HR0_0 := gA hr0_0
 have HC0_0 := gA hc0_0
 clear hr0_0 hc0_0
 have HR0_1 := gA hr0_1
 have HC0_1 := gA hc0_1
 clear hr0_1 hc0_1
 have HR1_0 := gA hr1_0
 have HC1_0 := gA hc1_0
 clear hr1_0 hc1_0
 have HR1_1 := gA hr1_1
 have HC1_1 := gA hc1_1
 clear hr1_1 hc1_1
 have HB := gA (Below.refl w.heap.size w)
 have H : ((triglyphref03_ints.f (l0_0.length : Int) (l1_0.length : Int)).bind fun t282 => (triglyphref03_Cmp.l0 k t282 0 l0_0 l0_1 l1_0 l1_1)) = some r := h
 clear h
 replace H := Option.bind_eq_some_iff.mp H
 obtain ⟨t282, A30, H⟩ := H
 replace H : (triglyphref03_Cmp.l0 k t282 0 l0_0 l0_1 l1_0 l1_1) = some r := H
 have A3 := gA A30
 clear A30
 have HC4 := gA H
 clear H
 go_enter Try.func40, Try.ntmps40
 go_upto_block 0 with (first | ((with_reducible refine gate_dst (N := 2) rfl ?_); (try (refine gate_guard (by rfl) ?_; dsimp only)); refine box_event ?hg (N := 2) ?hd (cs := #[.slice A0_0 l0_0.length c0_0, .slice A0_1 l0_1.length c0_1]) (t := 25) ?hr ?_; (case hd => rfl); (case hg => rfl); (case hr => first | (go_simp; done) | (go_simp; rfl)); intro gb280 hg w5 hbox hb; have BK280 := gA (hbox); have GW280 := gA ((by rw [hg]; exact (below_size (gB HB)) : w.heap.size ≤ gb280)); have GE280 := gA ((by rw [hg]; exact (below_size (gB HB)) : w.heap.size ≤ gb280)); replace HB := gA (below_step (gB HB) hb); clear hb hbox hg) | ((with_reducible refine gate_dst (N := 3) rfl ?_); (try (refine gate_guard (by rfl) ?_; dsimp only)); refine box_event ?hg (N := 3) ?hd (cs := #[.slice A1_0 l1_0.length c1_0, .slice A1_1 l1_1.length c1_1]) (t := 25) ?hr ?_; (case hd => rfl); (case hg => rfl); (case hr => first | (go_simp; done) | (go_simp; rfl)); intro gb281 hg w6 hbox hb; have BK281 := gA (hbox); have GW281 := gA ((by rw [hg]; exact (below_size (gB HB)) : w.heap.size ≤ gb281)); have GE281 := gA ((by rw [hg]; exact (below_size (gB HB)) : w.heap.size ≤ gb281)); replace HB := gA (below_step (gB HB) hb); have NB280_281 := gA ((by rw [hg]; exact Nat.ne_of_lt (blk_lt (gK BK280)) : gb280 ≠ gb281)); have NB281_280 := gA ((by rw [hg]; exact Nat.ne_of_gt (blk_lt (gK BK280)) : gb281 ≠ gb280)); replace BK280 := gA (blk_below (gK BK280) hb); clear hb hbox hg; have hnb7 := NB280_281.out; have hnc7 := NB281_280.out; obtain ⟨hcz8_0, hcz8_1, hfz8_0, hfz8_1⟩ := gz2 BK280; obtain ⟨hcz9_0, hcz9_1, hfz9_0, hfz9_1⟩ := gz2 BK281) | ((with_reducible refine gate_callee (f := 44) rfl ?_); refine goesL_ (some 14) rfl rfl Try.func44 (by kernel_rfl) rfl #[.int .i64 (l0_0.length : Int), .int .i64 (l1_0.length : Int)] rfl (by (try simp only [List.map_toArray, List.map_cons, List.map_nil]); first | done | rfl | (simp only [List.length_drop, List.length_take]; rfl)) ?_; (with_reducible refine (triglyphref03_ints.calls (l0_0.length : Int) (l1_0.length : Int) t282 _ A3.out).mono ?_); rintro e w' ⟨rfl, ⟨nd, rfl⟩⟩; refine ⟨_, rfl, ?_⟩))
 (try simp only [Act.put, List.setIfInBounds_toArray, List.set_cons_zero, List.set_cons_succ])
 go_cut [5] (fun v5 wc => ∃ (kq : Nat) (x5_3 : Int), v5 = .int .i64 x5_3 ∧ Aside0 (triglyphref03_Cmp.j1 kq x5_3 l0_0 l0_1 l1_0 l1_1 = some r) ∧ Aside0 (kq ≤ k) ∧ Aside0 (wc.heap[gb280]? = some (.cells #[(.slice A0_0 l0_0.length c0_0), (.slice A0_1 l0_1.length c0_1)] 25 (0, 0))) ∧ Aside0 (wc.heap[gb281]? = some (.cells #[(.slice A1_0 l1_0.length c1_0), (.slice A1_1 l1_1.length c1_1)] 25 (0, 0))) ∧ Aside0 (Below w.heap.size w wc))
 case first =>
  have H := HC4.out; clear HC4
  have H' := gA H
  clear H
  go_wp2
  go_loopg [5, 6] k (fun kq v5 v6 w' => ∃ (x5_1 : Int) (x6_1 : Int), v5 = .int .i64 x5_1 ∧ v6 = .int .i64 x6_1 ∧ Aside0 (triglyphref03_Cmp.l0 kq x5_1 x6_1 l0_0 l0_1 l1_0 l1_1 = some r) ∧ Aside0 (kq ≤ k) ∧ Aside0 (w'.heap[gb280]? = some (.cells #[(.slice A0_0 l0_0.length c0_0), (.slice A0_1 l0_1.length c0_1)] 25 (0, 0))) ∧ Aside0 (w'.heap[gb281]? = some (.cells #[(.slice A1_0 l1_0.length c1_0), (.slice A1_1 l1_1.length c1_1)] 25 (0, 0))) ∧ Aside0 (Below w.heap.size w w'))
  case atStart => exact ⟨(t282), (0), (rfl), (rfl), H', ⟨Nat.le_refl _⟩, ⟨gK BK280⟩, ⟨gK BK281⟩, ⟨by repeat first | exact gB HB | refine below_set ?_ GE280.out | refine below_set ?_ GE281.out⟩⟩
  case round =>
   clear H'
   try clear c1
   try clear p2
   try clear c4
   try clear c7
   try clear hcz8_0
   try clear hcz8_1
   try clear hcz9_0
   try clear hcz9_1
   try clear hfz8_0
   try clear hfz8_1
   try clear hfz9_0
   try clear hfz9_1
   obtain ⟨x5_1, x6_1, rfl, rfl, HA, HK1, BK280, BK281, HB⟩ := hrel
   cases gk with
   | zero => exact absurd HA.out (by simp [triglyphref03_Cmp.l0])
   | succ k1 =>
    have H := HA.out; clear HA
    simp only [triglyphref03_Cmp.l0] at H
    by_cases c10 : x6_1 < (l0_0.length : Int)
    ·rw [if_pos c10] at H
     have c10b0 := decide_eq_true c10
     clear c10
     (first | rw [c10b0] | (simp only [i64_w, i32_w]; rw [c10b0]) | skip)
     by_cases c11 : x5_1 = 0
     ·rw [if_pos c11] at H
      have c11b0 : (x5_1 == 0) = true := beq_iff_eq.mpr c11
      have c11b1 : (x5_1 != 0) = false := bne_eq_false_iff_eq.mpr c11
      clear c11
      obtain ⟨c12, H⟩ := iS H
      have c12b0 := decide_eq_true c12
      clear c12
      obtain ⟨c13, H⟩ := iS H
      have c13b0 := decide_eq_true c13
      clear c13
      replace H := Option.bind_eq_some_iff.mp H
      obtain ⟨t285, A140, H⟩ := H
      replace H : (triglyphref03_Cmp.l0 k1 t285 (wrap64 (x6_1 + 1)) l0_0 l0_1 l1_0 l1_1) = some r := H
      have A14 := gA A140
      clear A140
      have H' := gA H
      clear H
      have hnb15 := NB280_281.out
      have hnc15 := NB281_280.out
      obtain ⟨hcz16_0, hcz16_1, hfz16_0, hfz16_1⟩ := gz2 BK280
      try go_wp2
      replace BK280 := gA (blk_drew BK280.out); replace BK281 := gA (blk_drew BK281.out); replace HB := gA (below_drew1 HB.out)
      have p283 : 0 ≤ (x6_1 : Int) := of_decide_eq_true (by assumption)
      have q283 : x6_1 < (l0_0.length : Int) := of_decide_eq_true (by assumption)
      obtain ⟨ad283, e283, hx283_0⟩ := Kd.at_int HR0_0.out x6_1 p283 q283
      have hw283_0 := hx283_0
      cases e283
      replace hx283_0 := (HB.out.cell (World.block_lt_of_cell? w _ hx283_0)).trans hx283_0
      replace p283 := eq_true p283
      replace q283 := eq_true q283
      have p284 : 0 ≤ (x6_1 : Int) := of_decide_eq_true (by assumption)
      have q284 : x6_1 < (l1_0.length : Int) := of_decide_eq_true (by assumption)
      obtain ⟨ad284, e284, hx284_0⟩ := Kd.at_int HR1_0.out x6_1 p284 q284
      have hw284_0 := hx284_0
      cases e284
      replace hx284_0 := (HB.out.cell (World.block_lt_of_cell? w _ hx284_0)).trans hx284_0
      replace p284 := eq_true p284
      replace q284 := eq_true q284
      refine start_ (n := 12) (S := fun w' => w'.cell? ⟨gb280, 0, none⟩ = some (.slice (some ad283) l0_0.length c0_0) ∧ w'.cell? ⟨gb280, 1, none⟩ = some (.slice A0_1 l0_1.length c0_1) ∧ w'.cell? ⟨gb281, 0, none⟩ = some (.slice (some ad284) l1_0.length c1_0) ∧ w'.cell? ⟨gb281, 1, none⟩ = some (.slice A1_1 l1_1.length c1_1) ∧ w'.cell? (ad283.add (x6_1).toNat) = some (.int .i64 (rd l0_0 x6_1)) ∧ w'.cell? (ad284.add (x6_1).toNat) = some (.int .i64 (rd l1_0 x6_1))) (ds := []) #[false, false, false, false, false, false, false, false, false, false, false, false] (by kernel_rfl) rfl rfl ⟨(blk_cell BK280.out 0).trans rfl, (blk_cell BK280.out 1).trans rfl, (blk_cell BK281.out 0).trans rfl, (blk_cell BK281.out 1).trans rfl, ((HB.out.cell (World.block_lt_of_cell? w _ hw283_0)).trans hw283_0), ((HB.out.cell (World.block_lt_of_cell? w _ hw284_0)).trans hw284_0)⟩ (fun hHeld => ?_); refine with_tabW triglyphref03_Cmp.tab5 triglyphref03_Cmp.bits5 (fun HT_ HW_ => ?_)
      generalize wr.drew = w17 at BK280 BK281 HB hx283_0 hx284_0 hHeld ⊢
      refine pure_ (i := 0) (N := some 26) (v := ?_) (a' := ?_) #[true, false, false, false, false, false, false, false, false, false, false, false] rfl rfl (any_of HT_.out (by kernel_rfl)) (fun _ _ _ h => h) (Or.inl ⟨by rfl, ?_⟩) ?_ ?_; rotate_left
      ·intro w'; go_simp; with_reducible rfl
      rotate_left
      ·simp only [Act.put, List.setIfInBounds_toArray, List.set_cons_zero, List.set_cons_succ, i64_w, i32_w]; rfl
      refine pure_ (i := 2) (N := some 28) (v := ?_) (a' := ?_) #[true, false, true, false, false, false, false, false, false, false, false, false] rfl rfl (any_of HT_.out (by kernel_rfl)) (fun _ _ _ h => h) (Or.inl ⟨by rfl, ?_⟩) ?_ ?_; rotate_left
      ·intro w'; go_simp; with_reducible rfl
      rotate_left
      ·simp only [Act.put, List.setIfInBounds_toArray, List.set_cons_zero, List.set_cons_succ, i64_w, i32_w]; rfl
      refine pure_ (i := 5) (N := some 31) (v := ?_) (a' := ?_) #[true, false, true, false, false, true, false, false, false, false, false, false] rfl rfl (any_of HT_.out (by kernel_rfl)) (fun _ _ _ h => h) (Or.inl ⟨by rfl, ?_⟩) ?_ ?_; rotate_left
      ·intro w'; go_simp; with_reducible rfl
      rotate_left
      ·simp only [Act.put, List.setIfInBounds_toArray, List.set_cons_zero, List.set_cons_succ, i64_w, i32_w]; rfl
      refine pure_ (i := 7) (N := some 33) (v := ?_) (a' := ?_) #[true, false, true, false, false, true, false, true, false, false, false, false] rfl rfl (any_of HT_.out (by kernel_rfl)) (fun _ _ _ h => h) (Or.inl ⟨by rfl, ?_⟩) ?_ ?_; rotate_left
      ·intro w'; go_simp; with_reducible rfl
      rotate_left
      ·simp only [Act.put, List.setIfInBounds_toArray, List.set_cons_zero, List.set_cons_succ, i64_w, i32_w]; rfl
      refine take_ (i := 1) (N := some 27) (v := ?_) (a' := ?_) #[true, true, true, false, false, true, false, true, false, false, false, false] rfl rfl (take_ofW HT_.out HW_.out (by kernel_rfl)) (fun _ _ _ h => h) (Or.inl ⟨by rfl, ?_⟩) hHeld ?_ ?_; rotate_left
      ·rintro w' ⟨s0, s1, s2, s3, s4, s5⟩; go_simp; with_reducible rfl
      rotate_left
      ·simp only [Act.put, List.setIfInBounds_toArray, List.set_cons_zero, List.set_cons_succ, i64_w, i32_w]; rfl
      refine pure_ (i := 3) (N := some 29) (v := ?_) (a' := ?_) #[true, true, true, true, false, true, false, true, false, false, false, false] rfl rfl (any_of HT_.out (by kernel_rfl)) (fun _ _ _ h => h) (Or.inl ⟨by rfl, ?_⟩) ?_ ?_; rotate_left
      ·intro w'; go_simp; with_reducible rfl
      rotate_left
      ·simp only [Act.put, List.setIfInBounds_toArray, List.set_cons_zero, List.set_cons_succ, i64_w, i32_w]; rfl
      refine take_ (i := 4) (N := some 30) (v := ?_) (a' := ?_) #[true, true, true, true, true, true, false, true, false, false, false, false] rfl rfl (take_ofW HT_.out HW_.out (by kernel_rfl)) (fun _ _ _ h => h) (Or.inl ⟨by rfl, ?_⟩) hHeld ?_ ?_; rotate_left
      ·rintro w' ⟨s0, s1, s2, s3, s4, s5⟩; go_simp; with_reducible rfl
      rotate_left
      ·simp only [Act.put, List.setIfInBounds_toArray, List.set_cons_zero, List.set_cons_succ, i64_w, i32_w]; rfl
      refine take_ (i := 6) (N := some 32) (v := ?_) (a' := ?_) #[true, true, true, true, true, true, true, true, false, false, false, false] rfl rfl (take_ofW HT_.out HW_.out (by kernel_rfl)) (fun _ _ _ h => h) (Or.inl ⟨by rfl, ?_⟩) hHeld ?_ ?_; rotate_left
      ·rintro w' ⟨s0, s1, s2, s3, s4, s5⟩; go_simp; with_reducible rfl
      rotate_left
      ·simp only [Act.put, List.setIfInBounds_toArray, List.set_cons_zero, List.set_cons_succ, i64_w, i32_w]; rfl
      refine pure_ (i := 8) (N := some 34) (v := ?_) (a' := ?_) #[true, true, true, true, true, true, true, true, true, false, false, false] rfl rfl (any_of HT_.out (by kernel_rfl)) (fun _ _ _ h => h) (Or.inl ⟨by rfl, ?_⟩) ?_ ?_; rotate_left
      ·intro w'; go_simp; with_reducible rfl
      rotate_left
      ·simp only [Act.put, List.setIfInBounds_toArray, List.set_cons_zero, List.set_cons_succ, i64_w, i32_w]; rfl
      refine take_ (i := 9) (N := some 35) (v := ?_) (a' := ?_) #[true, true, true, true, true, true, true, true, true, true, false, false] rfl rfl (take_ofW HT_.out HW_.out (by kernel_rfl)) (fun _ _ _ h => h) (Or.inl ⟨by rfl, ?_⟩) hHeld ?_ ?_; rotate_left
      ·rintro w' ⟨s0, s1, s2, s3, s4, s5⟩; go_simp; with_reducible rfl
      rotate_left
      ·simp only [Act.put, List.setIfInBounds_toArray, List.set_cons_zero, List.set_cons_succ, i64_w, i32_w]; rfl
      refine one_ (i := 10) (N := some 36) #[true, true, true, true, true, true, true, true, true, true, true, false] rfl rfl (one_of HT_.out (by kernel_rfl)) (by decide) (fun K hK => ?_)
      refine goes_ Try.func44 (by kernel_rfl) rfl #[.int .i64 (rd l0_0 x6_1), .int .i64 (rd l1_0 x6_1)] (by rfl) rfl rfl (by (try simp only [List.map_toArray, List.map_cons, List.map_nil]); first | done | rfl | (simp only [List.length_drop, List.length_take]; rfl)) ?_
      with_reducible refine (triglyphref03_ints.calls (rd l0_0 x6_1) (rd l1_0 x6_1) t285 _ A14.out).mono ?_
      rintro e w' ⟨rfl, ⟨nd, rfl⟩⟩
      refine ⟨_, rfl, ?_⟩
      refine hK.out _ _ ⟨(blk_cell BK280.out 0).trans rfl, (blk_cell BK280.out 1).trans rfl, (blk_cell BK281.out 0).trans rfl, (blk_cell BK281.out 1).trans rfl, ((HB.out.cell (World.block_lt_of_cell? w _ hw283_0)).trans hw283_0), ((HB.out.cell (World.block_lt_of_cell? w _ hw284_0)).trans hw284_0)⟩ (fun hHeld => ?_); clear hK K
      refine norm_ (a' := ?_) ?_ ?_; rotate_left
      ·show Act.put _ (some 36) _ = _
       simp only [Act.put, List.setIfInBounds_toArray, List.set_cons_zero, List.set_cons_succ, i64_w, i32_w]; rfl
      refine pure_ (i := 11) (N := some 5) (v := ?_) (a' := ?_) #[true, true, true, true, true, true, true, true, true, true, true, true] rfl rfl (any_of HT_.out (by kernel_rfl)) (fun _ _ _ h => h) (Or.inl ⟨by rfl, ?_⟩) ?_ ?_; rotate_left
      ·intro w'; go_simp; with_reducible rfl
      rotate_left
      ·simp only [Act.put, List.setIfInBounds_toArray, List.set_cons_zero, List.set_cons_succ, i64_w, i32_w]; rfl
      refine done_ (done_of HT_.out (by kernel_rfl)) ?_
      try go_wp2
      go_roundg k1
      case measure => have := HK1.out; omega
      case rel => exact ⟨(t285), (wrap64 (x6_1 + 1)), (rfl), (rfl), H', ⟨by have := HK1.out; omega⟩, ⟨gK BK280⟩, ⟨gK BK281⟩, ⟨by repeat first | exact gB HB | refine below_set ?_ GE280.out | refine below_set ?_ GE281.out⟩⟩
     ·rw [if_neg c11] at H
      have c11b0 : (x5_1 == 0) = false := beq_eq_false_iff_ne.mpr c11
      have c11b1 : (x5_1 != 0) = true := bne_iff_ne.mpr c11
      have H' := gA H
      clear H
      have hnb18 := NB280_281.out
      have hnc18 := NB281_280.out
      obtain ⟨hcz19_0, hcz19_1, hfz19_0, hfz19_1⟩ := gz2 BK280
      go_wp2
      all_goals (go_meet; (case rel => exact ⟨_, (x5_1), (by first | rfl | (simp; done) | (simp [*]; done) | (exfalso; simp_all; done) | (exfalso; simp_all; omega)), H', ⟨by have := HK1.out; first | omega | exact Nat.le_refl _⟩, ⟨gK BK280⟩, ⟨gK BK281⟩, ⟨gB HB⟩⟩))
    ·rw [if_neg c10] at H
     have c10b0 := decide_eq_false c10
     clear c10
     (first | rw [c10b0] | (simp only [i64_w, i32_w]; rw [c10b0]) | skip)
     have H' := gA H
     clear H
     have hnb20 := NB280_281.out
     have hnc20 := NB281_280.out
     obtain ⟨hcz21_0, hcz21_1, hfz21_0, hfz21_1⟩ := gz2 BK280
     go_wp2
     all_goals (go_meet; (case rel => exact ⟨_, (x5_1), (by first | rfl | (simp; done) | (simp [*]; done) | (exfalso; simp_all; done) | (exfalso; simp_all; omega)), H', ⟨by have := HK1.out; first | omega | exact Nat.le_refl _⟩, ⟨gK BK280⟩, ⟨gK BK281⟩, ⟨gB HB⟩⟩))
 case rest =>
  clear HC4
  try clear c1
  try clear c2
  try clear p2
  try clear q2
  try clear hx2
  try clear c4
  try clear p6
  try clear c7
  try clear c10
  try clear c10b0
  try clear c11
  try clear c11b0
  try clear c11b1
  try clear c12
  try clear c12b0
  try clear c13
  try clear c13b0
  try clear c15
  try clear c18
  try clear c20
  try clear hcz16_0
  try clear hcz16_1
  try clear hcz19_0
  try clear hcz19_1
  try clear hcz21_0
  try clear hcz21_1
  try clear hcz8_0
  try clear hcz8_1
  try clear hcz9_0
  try clear hcz9_1
  try clear hfz16_0
  try clear hfz16_1
  try clear hfz19_0
  try clear hfz19_1
  try clear hfz21_0
  try clear hfz21_1
  try clear hfz8_0
  try clear hfz8_1
  try clear hfz9_0
  try clear hfz9_1
  try clear hx283_0
  try clear hx284_0
  try clear p2
  try clear p283
  try clear p284
  try clear q283
  try clear q284
  obtain ⟨kq, x5_3, rfl, HA, HJ3, BK280, BK281, HB⟩ := hcut
  cases kq with
  | zero => exact absurd HA.out (by simp [triglyphref03_Cmp.j1])
  | succ kj3 =>
   have H := HA.out; clear HA
   simp only [triglyphref03_Cmp.j1] at H
   have H' := gA H
   clear H
   go_wp2
   go_loopg [5, 7] kj3 (fun kq v5 v7 w' => ∃ (x5_2 : Int) (x7_2 : Int), v5 = .int .i64 x5_2 ∧ v7 = .int .i64 x7_2 ∧ Aside0 (triglyphref03_Cmp.l1 kq x5_2 x7_2 l0_0 l0_1 l1_0 l1_1 = some r) ∧ Aside0 (kq ≤ kj3) ∧ Aside0 (w'.heap[gb280]? = some (.cells #[(.slice A0_0 l0_0.length c0_0), (.slice A0_1 l0_1.length c0_1)] 25 (0, 0))) ∧ Aside0 (w'.heap[gb281]? = some (.cells #[(.slice A1_0 l1_0.length c1_0), (.slice A1_1 l1_1.length c1_1)] 25 (0, 0))) ∧ Aside0 (Below w.heap.size w w'))
   case atStart => exact ⟨(x5_3), (0), (rfl), (rfl), H', ⟨Nat.le_refl _⟩, ⟨gK BK280⟩, ⟨gK BK281⟩, ⟨by repeat first | exact gB HB | refine below_set ?_ GE280.out | refine below_set ?_ GE281.out⟩⟩
   case round =>
    clear H'
    try clear c1
    try clear c2
    try clear p2
    try clear q2
    try clear hx2
    try clear c4
    try clear p6
    try clear c7
    try clear c10
    try clear c10b0
    try clear c11
    try clear c11b0
    try clear c11b1
    try clear c12
    try clear c12b0
    try clear c13
    try clear c13b0
    try clear c15
    try clear c18
    try clear c20
    try clear hcz16_0
    try clear hcz16_1
    try clear hcz19_0
    try clear hcz19_1
    try clear hcz21_0
    try clear hcz21_1
    try clear hcz8_0
    try clear hcz8_1
    try clear hcz9_0
    try clear hcz9_1
    try clear hfz16_0
    try clear hfz16_1
    try clear hfz19_0
    try clear hfz19_1
    try clear hfz21_0
    try clear hfz21_1
    try clear hfz8_0
    try clear hfz8_1
    try clear hfz9_0
    try clear hfz9_1
    try clear hx283_0
    try clear hx284_0
    try clear p2
    try clear p283
    try clear p284
    try clear p6
    try clear q2
    try clear q283
    try clear q284
    obtain ⟨x5_2, x7_2, rfl, rfl, HA, HK2, BK280, BK281, HB⟩ := hrel
    cases gk with
    | zero => exact absurd HA.out (by simp [triglyphref03_Cmp.l1])
    | succ k2 =>
     have H := HA.out; clear HA
     simp only [triglyphref03_Cmp.l1] at H
     by_cases c22 : x7_2 < (l0_1.length : Int)
     ·rw [if_pos c22] at H
      have c22b0 := decide_eq_true c22
      clear c22
      by_cases c23 : x7_2 < (l1_1.length : Int)
      ·rw [if_pos c23] at H
       have c23b0 := decide_eq_true c23
       clear c23
       by_cases c24 : x5_2 = 0
       ·rw [if_pos c24] at H
        have c24b0 : (x5_2 == 0) = true := beq_iff_eq.mpr c24
        have c24b1 : (x5_2 != 0) = false := bne_eq_false_iff_eq.mpr c24
        clear c24
        obtain ⟨c25, H⟩ := iS H
        have c25b0 := decide_eq_true c25
        clear c25
        replace H := Option.bind_eq_some_iff.mp H
        obtain ⟨t288, A260, H⟩ := H
        replace H : (triglyphref03_Cmp.l1 k2 t288 (wrap64 (x7_2 + 1)) l0_0 l0_1 l1_0 l1_1) = some r := H
        have A26 := gA A260
        clear A260
        have H' := gA H
        clear H
        have hnb27 := NB280_281.out
        have hnc27 := NB281_280.out
        obtain ⟨hcz28_0, hcz28_1, hfz28_0, hfz28_1⟩ := gz2 BK280
        obtain ⟨hcz29_0, hcz29_1, hfz29_0, hfz29_1⟩ := gz2 BK281
        try go_wp2
        replace BK280 := gA (blk_drew BK280.out); replace BK281 := gA (blk_drew BK281.out); replace HB := gA (below_drew1 HB.out)
        have p286 : 0 ≤ (x7_2 : Int) := of_decide_eq_true (by assumption)
        have q286 : x7_2 < (l0_1.length : Int) := of_decide_eq_true (by assumption)
        obtain ⟨ad286, A286_2, c286_2, e286, hx286_0, hx286_1, hx286_2, hl286_2, hi286_2⟩ := at_T43 HR0_1.out x7_2 p286 q286
        have hw286_2 := hx286_2
        have hw286_1 := hx286_1
        have hw286_0 := hx286_0
        cases e286
        replace hx286_0 := (HB.out.cell (World.block_lt_of_cell? w _ hx286_0)).trans hx286_0
        replace hx286_1 := (HB.out.cell (World.block_lt_of_cell? w _ hx286_1)).trans hx286_1
        replace hx286_2 := (HB.out.cell (World.block_lt_of_cell? w _ hx286_2)).trans hx286_2
        have HR286_2 := gA hi286_2
        have HC286_2 := gA hl286_2
        clear hi286_2 hl286_2
        replace p286 := eq_true p286
        replace q286 := eq_true q286
        have p287 : 0 ≤ (x7_2 : Int) := of_decide_eq_true (by assumption)
        have q287 : x7_2 < (l1_1.length : Int) := of_decide_eq_true (by assumption)
        obtain ⟨ad287, A287_2, c287_2, e287, hx287_0, hx287_1, hx287_2, hl287_2, hi287_2⟩ := at_T43 HR1_1.out x7_2 p287 q287
        have hw287_2 := hx287_2
        have hw287_1 := hx287_1
        have hw287_0 := hx287_0
        cases e287
        replace hx287_0 := (HB.out.cell (World.block_lt_of_cell? w _ hx287_0)).trans hx287_0
        replace hx287_1 := (HB.out.cell (World.block_lt_of_cell? w _ hx287_1)).trans hx287_1
        replace hx287_2 := (HB.out.cell (World.block_lt_of_cell? w _ hx287_2)).trans hx287_2
        have HR287_2 := gA hi287_2
        have HC287_2 := gA hl287_2
        clear hi287_2 hl287_2
        replace p287 := eq_true p287
        replace q287 := eq_true q287
        refine start_ (n := 12) (S := fun w' => w'.cell? ⟨gb280, 0, none⟩ = some (.slice A0_0 l0_0.length c0_0) ∧ w'.cell? ⟨gb280, 1, none⟩ = some (.slice (some ad286) l0_1.length c0_1) ∧ w'.cell? ⟨gb281, 0, none⟩ = some (.slice A1_0 l1_0.length c1_0) ∧ w'.cell? ⟨gb281, 1, none⟩ = some (.slice (some ad287) l1_1.length c1_1) ∧ w'.cell? (ad286.add ((x7_2).toNat * 3)) = some (.int .i64 ((rd_T43 l0_1 x7_2).f0)) ∧ w'.cell? ⟨(ad286.add ((x7_2).toNat * 3)).block, (ad286.add ((x7_2).toNat * 3)).off + 1, none⟩ = some (.int .i64 ((rd_T43 l0_1 x7_2).f1)) ∧ w'.cell? ⟨(ad286.add ((x7_2).toNat * 3)).block, (ad286.add ((x7_2).toNat * 3)).off + 2, none⟩ = some (.slice A286_2 ((rd_T43 l0_1 x7_2).f2).length c286_2) ∧ w'.cell? (ad287.add ((x7_2).toNat * 3)) = some (.int .i64 ((rd_T43 l1_1 x7_2).f0)) ∧ w'.cell? ⟨(ad287.add ((x7_2).toNat * 3)).block, (ad287.add ((x7_2).toNat * 3)).off + 1, none⟩ = some (.int .i64 ((rd_T43 l1_1 x7_2).f1)) ∧ w'.cell? ⟨(ad287.add ((x7_2).toNat * 3)).block, (ad287.add ((x7_2).toNat * 3)).off + 2, none⟩ = some (.slice A287_2 ((rd_T43 l1_1 x7_2).f2).length c287_2)) (ds := []) #[false, false, false, false, false, false, false, false, false, false, false, false] (by kernel_rfl) rfl rfl ⟨(blk_cell BK280.out 0).trans rfl, (blk_cell BK280.out 1).trans rfl, (blk_cell BK281.out 0).trans rfl, (blk_cell BK281.out 1).trans rfl, ((HB.out.cell (World.block_lt_of_cell? w _ hw286_0)).trans hw286_0), ((HB.out.cell (World.block_lt_of_cell? w _ hw286_1)).trans hw286_1), ((HB.out.cell (World.block_lt_of_cell? w _ hw286_2)).trans hw286_2), ((HB.out.cell (World.block_lt_of_cell? w _ hw287_0)).trans hw287_0), ((HB.out.cell (World.block_lt_of_cell? w _ hw287_1)).trans hw287_1), ((HB.out.cell (World.block_lt_of_cell? w _ hw287_2)).trans hw287_2)⟩ (fun hHeld => ?_); refine with_tabW triglyphref03_Cmp.tab9 triglyphref03_Cmp.bits9 (fun HT_ HW_ => ?_)
        generalize wr.drew = w30 at BK280 BK281 HB HR286_2 HR287_2 hx286_0 hx286_1 hx286_2 hx287_0 hx287_1 hx287_2 hHeld ⊢
        refine pure_ (i := 0) (N := some 55) (v := ?_) (a' := ?_) #[true, false, false, false, false, false, false, false, false, false, false, false] rfl rfl (any_of HT_.out (by kernel_rfl)) (fun _ _ _ h => h) (Or.inl ⟨by rfl, ?_⟩) ?_ ?_; rotate_left
        ·intro w'; go_simp; with_reducible rfl
        rotate_left
        ·simp only [Act.put, List.setIfInBounds_toArray, List.set_cons_zero, List.set_cons_succ, i64_w, i32_w]; rfl
        refine pure_ (i := 2) (N := some 57) (v := ?_) (a' := ?_) #[true, false, true, false, false, false, false, false, false, false, false, false] rfl rfl (any_of HT_.out (by kernel_rfl)) (fun _ _ _ h => h) (Or.inl ⟨by rfl, ?_⟩) ?_ ?_; rotate_left
        ·intro w'; go_simp; with_reducible rfl
        rotate_left
        ·simp only [Act.put, List.setIfInBounds_toArray, List.set_cons_zero, List.set_cons_succ, i64_w, i32_w]; rfl
        refine pure_ (i := 5) (N := some 60) (v := ?_) (a' := ?_) #[true, false, true, false, false, true, false, false, false, false, false, false] rfl rfl (any_of HT_.out (by kernel_rfl)) (fun _ _ _ h => h) (Or.inl ⟨by rfl, ?_⟩) ?_ ?_; rotate_left
        ·intro w'; go_simp; with_reducible rfl
        rotate_left
        ·simp only [Act.put, List.setIfInBounds_toArray, List.set_cons_zero, List.set_cons_succ, i64_w, i32_w]; rfl
        refine pure_ (i := 7) (N := some 62) (v := ?_) (a' := ?_) #[true, false, true, false, false, true, false, true, false, false, false, false] rfl rfl (any_of HT_.out (by kernel_rfl)) (fun _ _ _ h => h) (Or.inl ⟨by rfl, ?_⟩) ?_ ?_; rotate_left
        ·intro w'; go_simp; with_reducible rfl
        rotate_left
        ·simp only [Act.put, List.setIfInBounds_toArray, List.set_cons_zero, List.set_cons_succ, i64_w, i32_w]; rfl
        refine take_ (i := 1) (N := some 56) (v := ?_) (a' := ?_) #[true, true, true, false, false, true, false, true, false, false, false, false] rfl rfl (take_ofW HT_.out HW_.out (by kernel_rfl)) (fun _ _ _ h => h) (Or.inl ⟨by rfl, ?_⟩) hHeld ?_ ?_; rotate_left
        ·rintro w' ⟨s0, s1, s2, s3, s4, s5, s6, s7, s8, s9⟩; go_simp; with_reducible rfl
        rotate_left
        ·simp only [Act.put, List.setIfInBounds_toArray, List.set_cons_zero, List.set_cons_succ, i64_w, i32_w]; rfl
        refine pure_ (i := 3) (N := some 58) (v := ?_) (a' := ?_) #[true, true, true, true, false, true, false, true, false, false, false, false] rfl rfl (any_of HT_.out (by kernel_rfl)) (fun _ _ _ h => h) (Or.inl ⟨by rfl, ?_⟩) ?_ ?_; rotate_left
        ·intro w'; go_simp; with_reducible rfl
        rotate_left
        ·simp only [Act.put, List.setIfInBounds_toArray, List.set_cons_zero, List.set_cons_succ, i64_w, i32_w]; rfl
        refine take_ (i := 4) (N := some 59) (v := ?_) (a' := ?_) #[true, true, true, true, true, true, false, true, false, false, false, false] rfl rfl (take_ofW HT_.out HW_.out (by kernel_rfl)) (fun _ _ _ h => h) (Or.inl ⟨by rfl, ?_⟩) hHeld ?_ ?_; rotate_left
        ·rintro w' ⟨s0, s1, s2, s3, s4, s5, s6, s7, s8, s9⟩; go_simp; with_reducible rfl
        rotate_left
        ·simp only [Act.put, List.setIfInBounds_toArray, List.set_cons_zero, List.set_cons_succ, i64_w, i32_w]; rfl
        refine take_ (i := 6) (N := some 61) (v := ?_) (a' := ?_) #[true, true, true, true, true, true, true, true, false, false, false, false] rfl rfl (take_ofW HT_.out HW_.out (by kernel_rfl)) (fun _ _ _ h => h) (Or.inl ⟨by rfl, ?_⟩) hHeld ?_ ?_; rotate_left
        ·rintro w' ⟨s0, s1, s2, s3, s4, s5, s6, s7, s8, s9⟩; go_simp; with_reducible rfl
        rotate_left
        ·simp only [Act.put, List.setIfInBounds_toArray, List.set_cons_zero, List.set_cons_succ, i64_w, i32_w]; rfl
        refine pure_ (i := 8) (N := some 63) (v := ?_) (a' := ?_) #[true, true, true, true, true, true, true, true, true, false, false, false] rfl rfl (any_of HT_.out (by kernel_rfl)) (fun _ _ _ h => h) (Or.inl ⟨by rfl, ?_⟩) ?_ ?_; rotate_left
        ·intro w'; go_simp; with_reducible rfl
        rotate_left
        ·simp only [Act.put, List.setIfInBounds_toArray, List.set_cons_zero, List.set_cons_succ, i64_w, i32_w]; rfl
        refine take_ (i := 9) (N := some 64) (v := ?_) (a' := ?_) #[true, true, true, true, true, true, true, true, true, true, false, false] rfl rfl (take_ofW HT_.out HW_.out (by kernel_rfl)) (fun _ _ _ h => h) (Or.inl ⟨by rfl, ?_⟩) hHeld ?_ ?_; rotate_left
        ·rintro w' ⟨s0, s1, s2, s3, s4, s5, s6, s7, s8, s9⟩; go_simp; with_reducible rfl
        rotate_left
        ·simp only [Act.put, List.setIfInBounds_toArray, List.set_cons_zero, List.set_cons_succ, i64_w, i32_w]; rfl
        refine one_ (i := 10) (N := some 65) #[true, true, true, true, true, true, true, true, true, true, true, false] rfl rfl (one_of HT_.out (by kernel_rfl)) (by decide) (fun K hK => ?_)
        refine goes_ Try.func20 (by kernel_rfl) rfl #[.agg #[.int .i64 ((rd_T43 l0_1 x7_2).f0), .int .i64 ((rd_T43 l0_1 x7_2).f1), .slice A286_2 ((rd_T43 l0_1 x7_2).f2).length c286_2], .agg #[.int .i64 ((rd_T43 l1_1 x7_2).f0), .int .i64 ((rd_T43 l1_1 x7_2).f1), .slice A287_2 ((rd_T43 l1_1 x7_2).f2).length c287_2]] (by rfl) rfl rfl (by (try simp only [List.map_toArray, List.map_cons, List.map_nil]); first | done | rfl | (simp only [List.length_drop, List.length_take]; rfl)) ?_
        with_reducible refine (ih_triglyphref03_Cell k2 (by have := HJ3.out; have := HK2.out; omega) ((rd_T43 l0_1 x7_2).f0) ((rd_T43 l0_1 x7_2).f1) _ _ ((rd_T43 l0_1 x7_2).f2) ((rd_T43 l1_1 x7_2).f0) ((rd_T43 l1_1 x7_2).f1) _ _ ((rd_T43 l1_1 x7_2).f2) t288 _ ?side1 ?side2 ?side3 ?side4 A26.out).mono ?_
        (case side1 => exact gC HR286_2 HB)
        (case side2 => exact HC286_2.out)
        (case side3 => exact gC HR287_2 HB)
        (case side4 => exact HC287_2.out)
        rintro e w31 ⟨rfl, hb⟩
        refine ⟨_, rfl, ?_⟩
        replace BK280 := gA (blk_below (gK BK280) hb); replace BK281 := gA (blk_below (gK BK281) hb); replace HB := gA (below_step (gB HB) hb); (try clear hb)
        refine hK.out _ _ ⟨(blk_cell BK280.out 0).trans rfl, (blk_cell BK280.out 1).trans rfl, (blk_cell BK281.out 0).trans rfl, (blk_cell BK281.out 1).trans rfl, ((HB.out.cell (World.block_lt_of_cell? w _ hw286_0)).trans hw286_0), ((HB.out.cell (World.block_lt_of_cell? w _ hw286_1)).trans hw286_1), ((HB.out.cell (World.block_lt_of_cell? w _ hw286_2)).trans hw286_2), ((HB.out.cell (World.block_lt_of_cell? w _ hw287_0)).trans hw287_0), ((HB.out.cell (World.block_lt_of_cell? w _ hw287_1)).trans hw287_1), ((HB.out.cell (World.block_lt_of_cell? w _ hw287_2)).trans hw287_2)⟩ (fun hHeld => ?_); clear hK K
        refine norm_ (a' := ?_) ?_ ?_; rotate_left
        ·show Act.put _ (some 65) _ = _
         simp only [Act.put, List.setIfInBounds_toArray, List.set_cons_zero, List.set_cons_succ, i64_w, i32_w]; rfl
        refine pure_ (i := 11) (N := some 5) (v := ?_) (a' := ?_) #[true, true, true, true, true, true, true, true, true, true, true, true] rfl rfl (any_of HT_.out (by kernel_rfl)) (fun _ _ _ h => h) (Or.inl ⟨by rfl, ?_⟩) ?_ ?_; rotate_left
        ·intro w'; go_simp; with_reducible rfl
        rotate_left
        ·simp only [Act.put, List.setIfInBounds_toArray, List.set_cons_zero, List.set_cons_succ, i64_w, i32_w]; rfl
        refine done_ (done_of HT_.out (by kernel_rfl)) ?_
        try go_wp2
        go_roundg k2
        case measure => have := HJ3.out; have := HK2.out; omega
        case rel => exact ⟨(t288), (wrap64 (x7_2 + 1)), (rfl), (rfl), H', ⟨by have := HJ3.out; have := HK2.out; omega⟩, ⟨gK BK280⟩, ⟨gK BK281⟩, ⟨gB HB⟩⟩
       ·rw [if_neg c24] at H
        have c24b0 : (x5_2 == 0) = false := beq_eq_false_iff_ne.mpr c24
        have c24b1 : (x5_2 != 0) = true := bne_iff_ne.mpr c24
        obtain rfl := Option.some.inj H
        have hnb32 := NB280_281.out
        have hnc32 := NB281_280.out
        obtain ⟨hcz33_0, hcz33_1, hfz33_0, hfz33_1⟩ := gz2 BK280
        obtain ⟨hcz34_0, hcz34_1, hfz34_0, hfz34_1⟩ := gz2 BK281
        go_wp2
        go_ret
        exact ⟨rfl, by repeat first | exact gB HB | refine below_set ?_ GE280.out | refine below_set ?_ GE281.out⟩
      ·rw [if_neg c23] at H
       have c23b0 := decide_eq_false c23
       clear c23
       by_cases c35 : x5_2 = 0
       ·rw [if_pos c35] at H
        have c35b0 : (x5_2 == 0) = true := beq_iff_eq.mpr c35
        have c35b1 : (x5_2 != 0) = false := bne_eq_false_iff_eq.mpr c35
        clear c35
        replace H := Option.bind_eq_some_iff.mp H
        obtain ⟨t289, A360, H⟩ := H
        replace H : (some t289) = some r := H
        have A36 := gA A360
        clear A360
        obtain rfl := Option.some.inj H
        have hnb37 := NB280_281.out
        have hnc37 := NB281_280.out
        obtain ⟨hcz38_0, hcz38_1, hfz38_0, hfz38_1⟩ := gz2 BK280
        obtain ⟨hcz39_0, hcz39_1, hfz39_0, hfz39_1⟩ := gz2 BK281
        go_wp2_with (first | ((with_reducible refine gate_callee (f := 44) rfl ?_); refine goesL_ (some 74) rfl rfl Try.func44 (by kernel_rfl) rfl #[.int .i64 (l0_1.length : Int), .int .i64 (l1_1.length : Int)] rfl (by (try simp only [List.map_toArray, List.map_cons, List.map_nil]); first | done | rfl | (simp only [List.length_drop, List.length_take]; rfl)) ?_; (with_reducible refine (triglyphref03_ints.calls (l0_1.length : Int) (l1_1.length : Int) t289 _ A36.out).mono ?_); rintro e w' ⟨rfl, ⟨nd, rfl⟩⟩; refine ⟨_, rfl, ?_⟩))
        go_ret
        exact ⟨rfl, by repeat first | exact gB HB | refine below_set ?_ GE280.out | refine below_set ?_ GE281.out⟩
       ·rw [if_neg c35] at H
        have c35b0 : (x5_2 == 0) = false := beq_eq_false_iff_ne.mpr c35
        have c35b1 : (x5_2 != 0) = true := bne_iff_ne.mpr c35
        obtain rfl := Option.some.inj H
        have hnb40 := NB280_281.out
        have hnc40 := NB281_280.out
        obtain ⟨hcz41_0, hcz41_1, hfz41_0, hfz41_1⟩ := gz2 BK280
        obtain ⟨hcz42_0, hcz42_1, hfz42_0, hfz42_1⟩ := gz2 BK281
        go_wp2
        go_ret
        exact ⟨rfl, by repeat first | exact gB HB | refine below_set ?_ GE280.out | refine below_set ?_ GE281.out⟩
     ·rw [if_neg c22] at H
      have c22b0 := decide_eq_false c22
      clear c22
      by_cases c43 : x5_2 = 0
      ·rw [if_pos c43] at H
       have c43b0 : (x5_2 == 0) = true := beq_iff_eq.mpr c43
       have c43b1 : (x5_2 != 0) = false := bne_eq_false_iff_eq.mpr c43
       clear c43
       replace H := Option.bind_eq_some_iff.mp H
       obtain ⟨t290, A440, H⟩ := H
       replace H : (some t290) = some r := H
       have A44 := gA A440
       clear A440
       obtain rfl := Option.some.inj H
       have hnb45 := NB280_281.out
       have hnc45 := NB281_280.out
       obtain ⟨hcz46_0, hcz46_1, hfz46_0, hfz46_1⟩ := gz2 BK280
       obtain ⟨hcz47_0, hcz47_1, hfz47_0, hfz47_1⟩ := gz2 BK281
       go_wp2_with (first | ((with_reducible refine gate_callee (f := 44) rfl ?_); refine goesL_ (some 74) rfl rfl Try.func44 (by kernel_rfl) rfl #[.int .i64 (l0_1.length : Int), .int .i64 (l1_1.length : Int)] rfl (by (try simp only [List.map_toArray, List.map_cons, List.map_nil]); first | done | rfl | (simp only [List.length_drop, List.length_take]; rfl)) ?_; (with_reducible refine (triglyphref03_ints.calls (l0_1.length : Int) (l1_1.length : Int) t290 _ A44.out).mono ?_); rintro e w' ⟨rfl, ⟨nd, rfl⟩⟩; refine ⟨_, rfl, ?_⟩))
       go_ret
       exact ⟨rfl, by repeat first | exact gB HB | refine below_set ?_ GE280.out | refine below_set ?_ GE281.out⟩
      ·rw [if_neg c43] at H
       have c43b0 : (x5_2 == 0) = false := beq_eq_false_iff_ne.mpr c43
       have c43b1 : (x5_2 != 0) = true := bne_iff_ne.mpr c43
       obtain rfl := Option.some.inj H
       have hnb48 := NB280_281.out
       have hnc48 := NB281_280.out
       obtain ⟨hcz49_0, hcz49_1, hfz49_0, hfz49_1⟩ := gz2 BK280
       go_wp2
       go_ret
       exact ⟨rfl, by repeat first | exact gB HB | refine below_set ?_ GE280.out | refine below_set ?_ GE281.out⟩
theorem scc20.calls (k : Nat) : (∀ (a0_0 : Int) (a0_1 : Int) (A0_2 : Option Addr) (c0_2 : Nat) (l0_2 : List (S25)) (a1_0 : Int) (a1_1 : Int) (A1_2 : Option Addr) (c1_2 : Nat) (l1_2 : List (S25)) (r : Int) (w : World) (hr0_2 : Kd.C k25 w A0_2 l0_2.length l0_2) (hc0_2 : l0_2.length ≤ c0_2) (hr1_2 : Kd.C k25 w A1_2 l1_2.length l1_2) (hc1_2 : l1_2.length ≤ c1_2) (h : triglyphref03_Cell.f k a0_0 a0_1 l0_2 a1_0 a1_1 l1_2 = some r),
  Calls Try.prog 20 #[.agg #[.int .i64 a0_0, .int .i64 a0_1, .slice A0_2 l0_2.length c0_2], .agg #[.int .i64 a1_0, .int .i64 a1_1, .slice A1_2 l1_2.length c1_2]] w fun e w' => e = .returned (.int .i64 r) ∧ Below w.heap.size w w') ∧ (∀ (A0_0 : Option Addr) (c0_0 : Nat) (l0_0 : List Int) (A0_1 : Option Addr) (c0_1 : Nat) (l0_1 : List (S43)) (A1_0 : Option Addr) (c1_0 : Nat) (l1_0 : List Int) (A1_1 : Option Addr) (c1_1 : Nat) (l1_1 : List (S43)) (r : Int) (w : World) (hr0_0 : Kd.C (Kd.int .i64) w A0_0 l0_0.length l0_0) (hc0_0 : l0_0.length ≤ c0_0) (hr0_1 : Kd.C k43 w A0_1 l0_1.length l0_1) (hc0_1 : l0_1.length ≤ c0_1) (hr1_0 : Kd.C (Kd.int .i64) w A1_0 l1_0.length l1_0) (hc1_0 : l1_0.length ≤ c1_0) (hr1_1 : Kd.C k43 w A1_1 l1_1.length l1_1) (hc1_1 : l1_1.length ≤ c1_1) (h : triglyphref03_Cmp.f k l0_0 l0_1 l1_0 l1_1 = some r),
  Calls Try.prog 40 #[.agg #[.slice A0_0 l0_0.length c0_0, .slice A0_1 l0_1.length c0_1], .agg #[.slice A1_0 l1_0.length c1_0, .slice A1_1 l1_1.length c1_1]] w fun e w' => e = .returned (.int .i64 r) ∧ Below w.heap.size w w') := by
 induction k using Nat.strongRecOn with
 | _ k ih =>
 exact ⟨triglyphref03_Cell.step k (fun k_ h_ => (ih k_ h_).1) (fun k_ h_ => (ih k_ h_).2), triglyphref03_Cmp.step k (fun k_ h_ => (ih k_ h_).1) (fun k_ h_ => (ih k_ h_).2)⟩
theorem triglyphref03_Cell.calls (k : Nat) : ∀ (a0_0 : Int) (a0_1 : Int) (A0_2 : Option Addr) (c0_2 : Nat) (l0_2 : List (S25)) (a1_0 : Int) (a1_1 : Int) (A1_2 : Option Addr) (c1_2 : Nat) (l1_2 : List (S25)) (r : Int) (w : World) (hr0_2 : Kd.C k25 w A0_2 l0_2.length l0_2) (hc0_2 : l0_2.length ≤ c0_2) (hr1_2 : Kd.C k25 w A1_2 l1_2.length l1_2) (hc1_2 : l1_2.length ≤ c1_2) (h : triglyphref03_Cell.f k a0_0 a0_1 l0_2 a1_0 a1_1 l1_2 = some r),
  Calls Try.prog 20 #[.agg #[.int .i64 a0_0, .int .i64 a0_1, .slice A0_2 l0_2.length c0_2], .agg #[.int .i64 a1_0, .int .i64 a1_1, .slice A1_2 l1_2.length c1_2]] w fun e w' => e = .returned (.int .i64 r) ∧ Below w.heap.size w w' := (scc20.calls k).1
theorem triglyphref03_Cmp.calls (k : Nat) : ∀ (A0_0 : Option Addr) (c0_0 : Nat) (l0_0 : List Int) (A0_1 : Option Addr) (c0_1 : Nat) (l0_1 : List (S43)) (A1_0 : Option Addr) (c1_0 : Nat) (l1_0 : List Int) (A1_1 : Option Addr) (c1_1 : Nat) (l1_1 : List (S43)) (r : Int) (w : World) (hr0_0 : Kd.C (Kd.int .i64) w A0_0 l0_0.length l0_0) (hc0_0 : l0_0.length ≤ c0_0) (hr0_1 : Kd.C k43 w A0_1 l0_1.length l0_1) (hc0_1 : l0_1.length ≤ c0_1) (hr1_0 : Kd.C (Kd.int .i64) w A1_0 l1_0.length l1_0) (hc1_0 : l1_0.length ≤ c1_0) (hr1_1 : Kd.C k43 w A1_1 l1_1.length l1_1) (hc1_1 : l1_1.length ≤ c1_1) (h : triglyphref03_Cmp.f k l0_0 l0_1 l1_0 l1_1 = some r),
  Calls Try.prog 40 #[.agg #[.slice A0_0 l0_0.length c0_0, .slice A0_1 l0_1.length c0_1], .agg #[.slice A1_0 l1_0.length c1_0, .slice A1_1 l1_1.length c1_1]] w fun e w' => e = .returned (.int .i64 r) ∧ Below w.heap.size w w' := (scc20.calls k).2
end Go.Proofs.Ytahgfebdjjfkhaa.P
