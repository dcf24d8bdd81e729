/- Written by a program of this session: the functions that the laws reach, what each comes to, and each law as it is stated, for every input. No condition. -/
import Derived.Test.YtahgfebdjjfkhaaPx0
import Derived.Test.YtahgfebdjjfkhaaPx10
namespace Go.Proofs.Ytahgfebdjjfkhaa.P
open Go.RowKit Go.Proofs.YtahgfebdjjfkhaaW.PrintWords Go.Proofs.YtahgfebdjjfkhaaW.PrintLast Go.Proofs.YtahgfebdjjfkhaaW.PrintMore
attribute [local go_sem] max2_int min2_int max_two min_two max_three min_three max_four min_four   -- for this text's walks alone
set_option linter.unusedVariables false
set_option linter.unusedSimpArgs false
mutual
def triglyphref03_Cell.j0 : Nat → Int → Int → Int → List (S25) → Int → Int → List (S25) → Option (Int)
 | 0, _, _, _, _, _, _, _ => none
 | k + 1, x5, x277000, x277001, x277002, x278000, x278001, x278002 => if x5 = 0 then (if (x277002.length : Int) > 0 then (triglyphref03_Cell.j1 k x5 (decide ((x278002.length : Int) > 0)) x277000 x277001 x277002 x278000 x278001 x278002) else (triglyphref03_Cell.j1 k x5 false x277000 x277001 x277002 x278000 x278001 x278002)) else (triglyphref03_Cell.j1 k x5 false x277000 x277001 x277002 x278000 x278001 x278002)
def triglyphref03_Cell.j1 : Nat → Int → Bool → Int → Int → List (S25) → Int → Int → List (S25) → Option (Int)
 | 0, _, _, _, _, _, _, _, _ => none
 | k + 1, x5, x31, x277000, x277001, x277002, x278000, x278001, x278002 => if x31 = true then (if 0 < (x277002.length : Int) then (if 0 < (x278002.length : Int) then ((triglyphref03_Cmp.f k ((rd_T25 x277002 0).f0) ((rd_T25 x277002 0).f1) ((rd_T25 x278002 0).f0) ((rd_T25 x278002 0).f1)).bind fun t282 => (some t282)) else (none)) else (none)) else (if x5 = 0 then ((triglyphref03_ints.f (x277002.length : Int) (x278002.length : Int)).bind fun t283 => (some t283)) else (some x5))
def triglyphref03_Cell.f : Nat → Int → Int → List (S25) → Int → Int → List (S25) → Option (Int)
 | 0, _, _, _, _, _, _ => none
 | k + 1, a0_0, a0_1, l0_2, a1_0, a1_1, l1_2 => (triglyphref03_ints.f a0_0 a1_0).bind fun t278 => (if t278 = 0 then ((triglyphref03_ints.f a0_1 a1_1).bind fun t279 => (triglyphref03_Cell.j0 k t279 a0_0 a0_1 l0_2 a1_0 a1_1 l1_2)) else (triglyphref03_Cell.j0 k t278 a0_0 a0_1 l0_2 a1_0 a1_1 l1_2))
def triglyphref03_Cmp.j1 : Nat → Int → List Int → List (S43) → List Int → List (S43) → Option (Int)
 | 0, _, _, _, _, _ => none
 | k + 1, x5, x285000, x285001, x286000, x286001 => triglyphref03_Cmp.l1 k x5 0 x285000 x285001 x286000 x286001
def triglyphref03_Cmp.l1 : Nat → Int → Int → List Int → List (S43) → List Int → List (S43) → Option (Int)
 | 0, _, _, _, _, _, _ => none
 | k + 1, x5, x7, x285000, x285001, x286000, x286001 => if x7 < (x285001.length : Int) then (if x7 < (x286001.length : Int) then (if x5 = 0 then (if 0 ≤ x7 then ((triglyphref03_Cell.f k ((rd_T43 x285001 x7).f0) ((rd_T43 x285001 x7).f1) ((rd_T43 x285001 x7).f2) ((rd_T43 x286001 x7).f0) ((rd_T43 x286001 x7).f1) ((rd_T43 x286001 x7).f2)).bind fun t292 => (triglyphref03_Cmp.l1 k t292 (wrap64 (x7 + 1)) x285000 x285001 x286000 x286001)) else (none)) else (some x5)) else (if x5 = 0 then ((triglyphref03_ints.f (x285001.length : Int) (x286001.length : Int)).bind fun t293 => (some t293)) else (some x5))) else (if x5 = 0 then ((triglyphref03_ints.f (x285001.length : Int) (x286001.length : Int)).bind fun t294 => (some t294)) else (some x5))
def triglyphref03_Cmp.l0 : Nat → Int → Int → List Int → List (S43) → List Int → List (S43) → Option (Int)
 | 0, _, _, _, _, _, _ => none
 | k + 1, x5, x6, x285000, x285001, x286000, x286001 => if x6 < (x285000.length : Int) then (if x5 = 0 then (if 0 ≤ x6 then (if x6 < (x286000.length : Int) then ((triglyphref03_ints.f (rd x285000 x6) (rd x286000 x6)).bind fun t289 => (triglyphref03_Cmp.l0 k t289 (wrap64 (x6 + 1)) x285000 x285001 x286000 x286001)) else (none)) else (none)) else (triglyphref03_Cmp.j1 k x5 x285000 x285001 x286000 x286001)) else (triglyphref03_Cmp.j1 k x5 x285000 x285001 x286000 x286001)
def triglyphref03_Cmp.f : Nat → List Int → List (S43) → List Int → List (S43) → Option (Int)
 | 0, _, _, _, _ => none
 | k + 1, l0_0, l0_1, l1_0, l1_1 => (triglyphref03_ints.f (l0_0.length : Int) (l1_0.length : Int)).bind fun t286 => (triglyphref03_Cmp.l0 k t286 0 l0_0 l0_1 l1_0 l1_1)
end
theorem scc20.mono_l : ∀ k, (∀ y0 y1 y2 y3 y4 y5, LeO (triglyphref03_Cell.f k y0 y1 y2 y3 y4 y5) (triglyphref03_Cell.f (k + 1) y0 y1 y2 y3 y4 y5)) ∧ (∀ y0 y1 y2 y3 y4 y5 y6, LeO (triglyphref03_Cell.j0 k y0 y1 y2 y3 y4 y5 y6) (triglyphref03_Cell.j0 (k + 1) y0 y1 y2 y3 y4 y5 y6)) ∧ (∀ y0 y1 y2 y3 y4 y5 y6 y7, LeO (triglyphref03_Cell.j1 k y0 y1 y2 y3 y4 y5 y6 y7) (triglyphref03_Cell.j1 (k + 1) y0 y1 y2 y3 y4 y5 y6 y7)) ∧ (∀ y0 y1 y2 y3, LeO (triglyphref03_Cmp.f k y0 y1 y2 y3) (triglyphref03_Cmp.f (k + 1) y0 y1 y2 y3)) ∧ (∀ y0 y1 y2 y3 y4, LeO (triglyphref03_Cmp.j1 k y0 y1 y2 y3 y4) (triglyphref03_Cmp.j1 (k + 1) y0 y1 y2 y3 y4)) ∧ (∀ y0 y1 y2 y3 y4 y5, LeO (triglyphref03_Cmp.l1 k y0 y1 y2 y3 y4 y5) (triglyphref03_Cmp.l1 (k + 1) y0 y1 y2 y3 y4 y5)) ∧ (∀ y0 y1 y2 y3 y4 y5, LeO (triglyphref03_Cmp.l0 k y0 y1 y2 y3 y4 y5) (triglyphref03_Cmp.l0 (k + 1) y0 y1 y2 y3 y4 y5))
 | 0 => ⟨fun _ _ _ _ _ _ r h => by simp [triglyphref03_Cell.f] at h, fun _ _ _ _ _ _ _ r h => by simp [triglyphref03_Cell.j0] at h, fun _ _ _ _ _ _ _ _ r h => by simp [triglyphref03_Cell.j1] at h, fun _ _ _ _ r h => by simp [triglyphref03_Cmp.f] at h, fun _ _ _ _ _ r h => by simp [triglyphref03_Cmp.j1] at h, fun _ _ _ _ _ _ r h => by simp [triglyphref03_Cmp.l1] at h, fun _ _ _ _ _ _ r h => by simp [triglyphref03_Cmp.l0] at h⟩
 | k + 1 => by
  obtain ⟨ih0, ih1, ih2, ih3, ih4, ih5, ih6⟩ := scc20.mono_l k
  refine ⟨?_, ?_, ?_, ?_, ?_, ?_, ?_⟩
  ·intro y0 y1 y2 y3 y4 y5
   unfold triglyphref03_Cell.f
   repeat' first
   | (with_reducible exact ih0 _ _ _ _ _ _)
   | (with_reducible exact ih1 _ _ _ _ _ _ _)
   | (with_reducible exact ih2 _ _ _ _ _ _ _ _)
   | (with_reducible exact ih3 _ _ _ _)
   | (with_reducible exact ih4 _ _ _ _ _)
   | (with_reducible exact ih5 _ _ _ _ _ _)
   | (with_reducible exact ih6 _ _ _ _ _ _)
   | (with_reducible exact LeO.refl _)
   | (with_reducible exact LeO.none _)
   | (with_reducible refine LeO.ite ?_ ?_)
   | (with_reducible refine LeO.bind ?_ (fun _ => ?_))










  ·intro y0 y1 y2 y3 y4 y5 y6
   unfold triglyphref03_Cell.j0
   repeat' first
   | (with_reducible exact ih0 _ _ _ _ _ _)
   | (with_reducible exact ih1 _ _ _ _ _ _ _)
   | (with_reducible exact ih2 _ _ _ _ _ _ _ _)
   | (with_reducible exact ih3 _ _ _ _)
   | (with_reducible exact ih4 _ _ _ _ _)
   | (with_reducible exact ih5 _ _ _ _ _ _)
   | (with_reducible exact ih6 _ _ _ _ _ _)
   | (with_reducible exact LeO.refl _)
   | (with_reducible exact LeO.none _)
   | (with_reducible refine LeO.ite ?_ ?_)
   | (with_reducible refine LeO.bind ?_ (fun _ => ?_))










  ·intro y0 y1 y2 y3 y4 y5 y6 y7
   unfold triglyphref03_Cell.j1
   repeat' first
   | (with_reducible exact ih0 _ _ _ _ _ _)
   | (with_reducible exact ih1 _ _ _ _ _ _ _)
   | (with_reducible exact ih2 _ _ _ _ _ _ _ _)
   | (with_reducible exact ih3 _ _ _ _)
   | (with_reducible exact ih4 _ _ _ _ _)
   | (with_reducible exact ih5 _ _ _ _ _ _)
   | (with_reducible exact ih6 _ _ _ _ _ _)
   | (with_reducible exact LeO.refl _)
   | (with_reducible exact LeO.none _)
   | (with_reducible refine LeO.ite ?_ ?_)
   | (with_reducible refine LeO.bind ?_ (fun _ => ?_))










  ·intro y0 y1 y2 y3
   unfold triglyphref03_Cmp.f
   repeat' first
   | (with_reducible exact ih0 _ _ _ _ _ _)
   | (with_reducible exact ih1 _ _ _ _ _ _ _)
   | (with_reducible exact ih2 _ _ _ _ _ _ _ _)
   | (with_reducible exact ih3 _ _ _ _)
   | (with_reducible exact ih4 _ _ _ _ _)
   | (with_reducible exact ih5 _ _ _ _ _ _)
   | (with_reducible exact ih6 _ _ _ _ _ _)
   | (with_reducible exact LeO.refl _)
   | (with_reducible exact LeO.none _)
   | (with_reducible refine LeO.ite ?_ ?_)
   | (with_reducible refine LeO.bind ?_ (fun _ => ?_))










  ·intro y0 y1 y2 y3 y4
   unfold triglyphref03_Cmp.j1
   repeat' first
   | (with_reducible exact ih0 _ _ _ _ _ _)
   | (with_reducible exact ih1 _ _ _ _ _ _ _)
   | (with_reducible exact ih2 _ _ _ _ _ _ _ _)
   | (with_reducible exact ih3 _ _ _ _)
   | (with_reducible exact ih4 _ _ _ _ _)
   | (with_reducible exact ih5 _ _ _ _ _ _)
   | (with_reducible exact ih6 _ _ _ _ _ _)
   | (with_reducible exact LeO.refl _)
   | (with_reducible exact LeO.none _)
   | (with_reducible refine LeO.ite ?_ ?_)
   | (with_reducible refine LeO.bind ?_ (fun _ => ?_))










  ·intro y0 y1 y2 y3 y4 y5
   unfold triglyphref03_Cmp.l1
   repeat' first
   | (with_reducible exact ih0 _ _ _ _ _ _)
   | (with_reducible exact ih1 _ _ _ _ _ _ _)
   | (with_reducible exact ih2 _ _ _ _ _ _ _ _)
   | (with_reducible exact ih3 _ _ _ _)
   | (with_reducible exact ih4 _ _ _ _ _)
   | (with_reducible exact ih5 _ _ _ _ _ _)
   | (with_reducible exact ih6 _ _ _ _ _ _)
   | (with_reducible exact LeO.refl _)
   | (with_reducible exact LeO.none _)
   | (with_reducible refine LeO.ite ?_ ?_)
   | (with_reducible refine LeO.bind ?_ (fun _ => ?_))










  ·intro y0 y1 y2 y3 y4 y5
   unfold triglyphref03_Cmp.l0
   repeat' first
   | (with_reducible exact ih0 _ _ _ _ _ _)
   | (with_reducible exact ih1 _ _ _ _ _ _ _)
   | (with_reducible exact ih2 _ _ _ _ _ _ _ _)
   | (with_reducible exact ih3 _ _ _ _)
   | (with_reducible exact ih4 _ _ _ _ _)
   | (with_reducible exact ih5 _ _ _ _ _ _)
   | (with_reducible exact ih6 _ _ _ _ _ _)
   | (with_reducible exact LeO.refl _)
   | (with_reducible exact LeO.none _)
   | (with_reducible refine LeO.ite ?_ ?_)
   | (with_reducible refine LeO.bind ?_ (fun _ => ?_))
theorem triglyphref03_Cell.mono : ∀ a0 a1 a2 a3 a4 a5 k, LeO (triglyphref03_Cell.f k a0 a1 a2 a3 a4 a5) (triglyphref03_Cell.f (k + 1) a0 a1 a2 a3 a4 a5) := by
 intro a0 a1 a2 a3 a4 a5 k
 obtain ⟨ih0, ih1, ih2, ih3, ih4, ih5, ih6⟩ := scc20.mono_l k
 exact ih0 a0 a1 a2 a3 a4 a5
theorem triglyphref03_Cmp.mono : ∀ a0 a1 a2 a3 k, LeO (triglyphref03_Cmp.f k a0 a1 a2 a3) (triglyphref03_Cmp.f (k + 1) a0 a1 a2 a3) := by
 intro a0 a1 a2 a3 k
 obtain ⟨ih0, ih1, ih2, ih3, ih4, ih5, ih6⟩ := scc20.mono_l k
 exact ih3 a0 a1 a2 a3
def triglyphref03_Cell.T5 : Bool × List (List Nat × List Nat) := (true, [([], []), ([0], [0]), ([1], [1]), ([2], [2]), ([], []), ([4], [4]), ([5], [5]), ([6], [6]), ([3, 7], [3, 7]), ([8, 8, 0, 1, 2, 3, 4, 5, 6, 7, 8], [8])])
def triglyphref03_Cell.B5 : List Nat := [0, 1, 3, 7, 0, 16, 48, 112, 255, 511]
theorem triglyphref03_Cell.tab5 : rtab .any (opsOf Try.f20 5) = triglyphref03_Cell.T5 := by kernel_rfl
theorem triglyphref03_Cell.bits5 : waitsOk triglyphref03_Cell.T5.2 triglyphref03_Cell.B5 = true := by kernel_rfl
set_option maxHeartbeats 8000000 in
set_option maxRecDepth 100000 in
theorem triglyphref03_Cell.step (k : Nat) (ih : ∀ k_, k_ < k → ∀ (a0_0 : Int) (a0_1 : Int) (A0_2 : Option Addr) (c0_2 : Nat) (l0_2 : List (S25)) (a1_0 : Int) (a1_1 : Int) (A1_2 : Option Addr) (c1_2 : Nat) (l1_2 : List (S25)) (r : Int) (w : World) (hr0_2 : Kd.C k25 w A0_2 l0_2.length l0_2) (hc0_2 : l0_2.length ≤ c0_2) (hr1_2 : Kd.C k25 w A1_2 l1_2.length l1_2) (hc1_2 : l1_2.length ≤ c1_2) (h : triglyphref03_Cell.f k_ a0_0 a0_1 l0_2 a1_0 a1_1 l1_2 = some r),
  Calls Try.prog 20 #[.agg #[.int .i64 a0_0, .int .i64 a0_1, .slice A0_2 l0_2.length c0_2], .agg #[.int .i64 a1_0, .int .i64 a1_1, .slice A1_2 l1_2.length c1_2]] w fun e w' => e = .returned (.int .i64 r) ∧ Below w.heap.size w w') (ih_triglyphref03_Cmp : ∀ k_, k_ < k → ∀ (A0_0 : Option Addr) (c0_0 : Nat) (l0_0 : List Int) (A0_1 : Option Addr) (c0_1 : Nat) (l0_1 : List (S43)) (A1_0 : Option Addr) (c1_0 : Nat) (l1_0 : List Int) (A1_1 : Option Addr) (c1_1 : Nat) (l1_1 : List (S43)) (r : Int) (w : World) (hr0_0 : Kd.C (Kd.int .i64) w A0_0 l0_0.length l0_0) (hc0_0 : l0_0.length ≤ c0_0) (hr0_1 : Kd.C k43 w A0_1 l0_1.length l0_1) (hc0_1 : l0_1.length ≤ c0_1) (hr1_0 : Kd.C (Kd.int .i64) w A1_0 l1_0.length l1_0) (hc1_0 : l1_0.length ≤ c1_0) (hr1_1 : Kd.C k43 w A1_1 l1_1.length l1_1) (hc1_1 : l1_1.length ≤ c1_1) (h : triglyphref03_Cmp.f k_ l0_0 l0_1 l1_0 l1_1 = some r),
  Calls Try.prog 40 #[.agg #[.slice A0_0 l0_0.length c0_0, .slice A0_1 l0_1.length c0_1], .agg #[.slice A1_0 l1_0.length c1_0, .slice A1_1 l1_1.length c1_1]] w fun e w' => e = .returned (.int .i64 r) ∧ Below w.heap.size w w') : ∀ (a0_0 : Int) (a0_1 : Int) (A0_2 : Option Addr) (c0_2 : Nat) (l0_2 : List (S25)) (a1_0 : Int) (a1_1 : Int) (A1_2 : Option Addr) (c1_2 : Nat) (l1_2 : List (S25)) (r : Int) (w : World) (hr0_2 : Kd.C k25 w A0_2 l0_2.length l0_2) (hc0_2 : l0_2.length ≤ c0_2) (hr1_2 : Kd.C k25 w A1_2 l1_2.length l1_2) (hc1_2 : l1_2.length ≤ c1_2) (h : triglyphref03_Cell.f k a0_0 a0_1 l0_2 a1_0 a1_1 l1_2 = some r),
  Calls Try.prog 20 #[.agg #[.int .i64 a0_0, .int .i64 a0_1, .slice A0_2 l0_2.length c0_2], .agg #[.int .i64 a1_0, .int .i64 a1_1, .slice A1_2 l1_2.length c1_2]] w fun e w' => e = .returned (.int .i64 r) ∧ Below w.heap.size w w' := by
 intro a0_0 a0_1 A0_2 c0_2 l0_2 a1_0 a1_1 A1_2 c1_2 l1_2 r w hr0_2 hc0_2 hr1_2 hc1_2 h
 cases k with
 | zero => exact absurd h (by simp [triglyphref03_Cell.f])
 | succ k =>
 simp only [triglyphref03_Cell.f] at h
 have hu43 := Try.underlying43
 have hu25 := Try.underlying25
 have HR0_2 := gA hr0_2
 have HC0_2 := gA hc0_2
 clear hr0_2 hc0_2
 have HR1_2 := gA hr1_2
 have HC1_2 := gA hc1_2
 clear hr1_2 hc1_2
 have HB := gA (Below.refl w.heap.size w)
 have H : ((triglyphref03_ints.f a0_0 a1_0).bind fun t278 => (if t278 = 0 then ((triglyphref03_ints.f a0_1 a1_1).bind fun t279 => (triglyphref03_Cell.j0 k t279 a0_0 a0_1 l0_2 a1_0 a1_1 l1_2)) else (triglyphref03_Cell.j0 k t278 a0_0 a0_1 l0_2 a1_0 a1_1 l1_2))) = some r := h
 clear h
 replace H := Option.bind_eq_some_iff.mp H
 obtain ⟨t278, A30, H⟩ := H
 replace H : (if t278 = 0 then ((triglyphref03_ints.f a0_1 a1_1).bind fun t279 => (triglyphref03_Cell.j0 k t279 a0_0 a0_1 l0_2 a1_0 a1_1 l1_2)) else (triglyphref03_Cell.j0 k t278 a0_0 a0_1 l0_2 a1_0 a1_1 l1_2)) = some r := H
 have A3 := gA A30
 clear A30
 have HC4 := gA H
 clear H
 go_enter Try.func20, Try.ntmps20
 go_upto_if 12 with (first | ((with_reducible refine gate_dst (N := 2) rfl ?_); (try (refine gate_guard (by rfl) ?_; dsimp only)); refine box_event ?hg (N := 2) ?hd (cs := #[.int .i64 a0_0, .int .i64 a0_1, .slice A0_2 l0_2.length c0_2]) (t := 43) ?hr ?_; (case hd => rfl); (case hg => rfl); (case hr => first | (go_simp; done) | (go_simp; rfl)); intro gb276 hg w5 hbox hb; have BK276 := gA (hbox); have GW276 := gA ((by rw [hg]; exact (below_size (gB HB)) : w.heap.size ≤ gb276)); have GE276 := gA ((by rw [hg]; exact (below_size (gB HB)) : w.heap.size ≤ gb276)); replace HB := gA (below_step (gB HB) hb); clear hb hbox hg) | ((with_reducible refine gate_dst (N := 3) rfl ?_); (try (refine gate_guard (by rfl) ?_; dsimp only)); refine box_event ?hg (N := 3) ?hd (cs := #[.int .i64 a1_0, .int .i64 a1_1, .slice A1_2 l1_2.length c1_2]) (t := 43) ?hr ?_; (case hd => rfl); (case hg => rfl); (case hr => first | (go_simp; done) | (go_simp; rfl)); intro gb277 hg w6 hbox hb; have BK277 := gA (hbox); have GW277 := gA ((by rw [hg]; exact (below_size (gB HB)) : w.heap.size ≤ gb277)); have GE277 := gA ((by rw [hg]; exact (below_size (gB HB)) : w.heap.size ≤ gb277)); replace HB := gA (below_step (gB HB) hb); have NB276_277 := gA ((by rw [hg]; exact Nat.ne_of_lt (blk_lt (gK BK276)) : gb276 ≠ gb277)); have NB277_276 := gA ((by rw [hg]; exact Nat.ne_of_gt (blk_lt (gK BK276)) : gb277 ≠ gb276)); replace BK276 := gA (blk_below (gK BK276) hb); clear hb hbox hg; have hnb7 := NB276_277.out; have hnc7 := NB277_276.out; obtain ⟨hcz8_0, hcz8_1, hcz8_2, hfz8_0, hfz8_1, hfz8_2⟩ := gz3 BK276; obtain ⟨hcz9_0, hcz9_1, hcz9_2, hfz9_0, hfz9_1, hfz9_2⟩ := gz3 BK277) | ((with_reducible refine gate_callee (f := 44) rfl ?_); refine goesL_ (some 10) rfl rfl Try.func44 (by kernel_rfl) rfl #[.int .i64 a0_0, .int .i64 a1_0] rfl (by (try simp only [List.map_toArray, List.map_cons, List.map_nil]); first | done | rfl | (simp only [List.length_drop, List.length_take]; rfl)) ?_; (with_reducible refine (triglyphref03_ints.calls a0_0 a1_0 t278 _ A3.out).mono ?_); rintro e w' ⟨rfl, ⟨nd, rfl⟩⟩; refine ⟨_, rfl, ?_⟩))
 (try simp only [Act.put, List.setIfInBounds_toArray, List.set_cons_zero, List.set_cons_succ])
 go_cut [5] (fun v5 wc => ∃ (kq : Nat) (x5_3 : Int), v5 = .int .i64 x5_3 ∧ Aside0 (triglyphref03_Cell.j0 kq x5_3 a0_0 a0_1 l0_2 a1_0 a1_1 l1_2 = some r) ∧ Aside0 (kq ≤ k) ∧ Aside0 (wc.heap[gb276]? = some (.cells #[.int .i64 a0_0, .int .i64 a0_1, (.slice A0_2 l0_2.length c0_2)] 43 (0, 0))) ∧ Aside0 (wc.heap[gb277]? = some (.cells #[.int .i64 a1_0, .int .i64 a1_1, (.slice A1_2 l1_2.length c1_2)] 43 (0, 0))) ∧ Aside0 (Below w.heap.size w wc))
 case first =>
  have H := HC4.out; clear HC4
  by_cases c10 : t278 = 0
  ·rw [if_pos c10] at H
   have c10b0 : (t278 == 0) = true := beq_iff_eq.mpr c10
   have c10b1 : (t278 != 0) = false := bne_eq_false_iff_eq.mpr c10
   clear c10
   (first | rw [c10b0] | rw [c10b1] | (simp only [i64_w, i32_w]; rw [c10b0]) | skip)
   replace H := Option.bind_eq_some_iff.mp H
   obtain ⟨t279, A110, H⟩ := H
   replace H : (triglyphref03_Cell.j0 k t279 a0_0 a0_1 l0_2 a1_0 a1_1 l1_2) = some r := H
   have A11 := gA A110
   clear A110
   have H' := gA H
   clear H
   have hnb12 := NB276_277.out
   have hnc12 := NB277_276.out
   obtain ⟨hcz13_0, hcz13_1, hcz13_2, hfz13_0, hfz13_1, hfz13_2⟩ := gz3 BK276
   obtain ⟨hcz14_0, hcz14_1, hcz14_2, hfz14_0, hfz14_1, hfz14_2⟩ := gz3 BK277
   go_wp2_with (first | ((with_reducible refine gate_callee (f := 44) rfl ?_); refine goesL_ (some 17) rfl rfl Try.func44 (by kernel_rfl) rfl #[.int .i64 a0_1, .int .i64 a1_1] rfl (by (try simp only [List.map_toArray, List.map_cons, List.map_nil]); first | done | rfl | (simp only [List.length_drop, List.length_take]; rfl)) ?_; (with_reducible refine (triglyphref03_ints.calls a0_1 a1_1 t279 _ A11.out).mono ?_); rintro e w' ⟨rfl, ⟨nd, rfl⟩⟩; refine ⟨_, rfl, ?_⟩))
   all_goals (go_meet; (case rel => exact ⟨_, (t279), (by first | rfl | (simp; done) | (simp [*]; done) | (exfalso; simp_all; done) | (exfalso; simp_all; omega)), H', ⟨by first | omega | exact Nat.le_refl _⟩, ⟨gK BK276⟩, ⟨gK BK277⟩, ⟨gB HB⟩⟩))
  ·rw [if_neg c10] at H
   have c10b0 : (t278 == 0) = false := beq_eq_false_iff_ne.mpr c10
   have c10b1 : (t278 != 0) = true := bne_iff_ne.mpr c10
   (first | rw [c10b0] | rw [c10b1] | (simp only [i64_w, i32_w]; rw [c10b0]) | skip)
   have H' := gA H
   clear H
   go_wp2
   all_goals (go_meet; (case rel => exact ⟨_, (t278), (by first | rfl | (simp; done) | (simp [*]; done) | (exfalso; simp_all; done) | (exfalso; simp_all; omega)), H', ⟨by first | omega | exact Nat.le_refl _⟩, ⟨gK BK276⟩, ⟨gK BK277⟩, ⟨gB HB⟩⟩))
 case rest =>
  clear HC4
  try clear c1
  try clear c2
  try clear p2
  try clear c4
  try clear c7
  try clear c10
  try clear c10b0
  try clear c10b1
  try clear c12
  try clear hcz13_0
  try clear hcz13_1
  try clear hcz13_2
  try clear hcz14_0
  try clear hcz14_1
  try clear hcz14_2
  try clear hcz8_0
  try clear hcz8_1
  try clear hcz8_2
  try clear hcz9_0
  try clear hcz9_1
  try clear hcz9_2
  try clear hfz13_0
  try clear hfz13_1
  try clear hfz13_2
  try clear hfz14_0
  try clear hfz14_1
  try clear hfz14_2
  try clear hfz8_0
  try clear hfz8_1
  try clear hfz8_2
  try clear hfz9_0
  try clear hfz9_1
  try clear hfz9_2
  obtain ⟨kq, x5_3, rfl, HA, HJ3, BK276, BK277, HB⟩ := hcut
  cases kq with
  | zero => exact absurd HA.out (by simp [triglyphref03_Cell.j0])
  | succ kj3 =>
   have H := HA.out; clear HA
   simp only [triglyphref03_Cell.j0] at H
   have HC15 := gA H
   clear H
   go_upto_region 4 with (fail)
   go_cut [31] (fun v31 wc => ∃ (kq : Nat) (x31_14 : Bool), v31 = .bool x31_14 ∧ Aside0 (triglyphref03_Cell.j1 kq x5_3 x31_14 a0_0 a0_1 l0_2 a1_0 a1_1 l1_2 = some r) ∧ Aside0 (kq ≤ kj3) ∧ Aside0 (wc.heap[gb276]? = some (.cells #[.int .i64 a0_0, .int .i64 a0_1, (.slice A0_2 l0_2.length c0_2)] 43 (0, 0))) ∧ Aside0 (wc.heap[gb277]? = some (.cells #[.int .i64 a1_0, .int .i64 a1_1, (.slice A1_2 l1_2.length c1_2)] 43 (0, 0))) ∧ Aside0 (Below w.heap.size w wc))
   case first =>
    have H := HC15.out; clear HC15
    by_cases c16 : x5_3 = 0
    ·rw [if_pos c16] at H
     have c16b0 : (x5_3 == 0) = true := beq_iff_eq.mpr c16
     have c16b1 : (x5_3 != 0) = false := bne_eq_false_iff_eq.mpr c16
     clear c16
     (first | rw [c16b0] | rw [c16b1] | (simp only [i64_w, i32_w]; rw [c16b0]) | skip)
     by_cases c17 : (l0_2.length : Int) > 0
     ·rw [if_pos c17] at H
      have c17b0 : decide (0 < (l0_2.length : Int)) = true := decide_eq_true c17
      have c17b1 : decide (0 < l0_2.length) = true := decide_eq_true (by omega)
      clear c17
      have H' := gA H
      clear H
      have hnb18 := NB276_277.out
      have hnc18 := NB277_276.out
      obtain ⟨hcz19_0, hcz19_1, hcz19_2, hfz19_0, hfz19_1, hfz19_2⟩ := gz3 BK276
      obtain ⟨hcz20_0, hcz20_1, hcz20_2, hfz20_0, hfz20_1, hfz20_2⟩ := gz3 BK277
      go_wp2
      all_goals (go_meet; (case rel => exact ⟨_, (decide ((l1_2.length : Int) > 0)), (by first | rfl | (simp; done) | (simp [*]; done) | (exfalso; simp_all; done) | (exfalso; simp_all; omega)), H', ⟨by have := HJ3.out; first | omega | exact Nat.le_refl _⟩, ⟨gK BK276⟩, ⟨gK BK277⟩, ⟨gB HB⟩⟩))
     ·rw [if_neg c17] at H
      have c17b0 : decide (0 < (l0_2.length : Int)) = false := decide_eq_false c17
      have c17b1 : decide (0 < l0_2.length) = false := decide_eq_false (by omega)
      clear c17
      have H' := gA H
      clear H
      have hnb21 := NB276_277.out
      have hnc21 := NB277_276.out
      obtain ⟨hcz22_0, hcz22_1, hcz22_2, hfz22_0, hfz22_1, hfz22_2⟩ := gz3 BK276
      go_wp2
      all_goals (go_meet; (case rel => exact ⟨_, (false), (by first | rfl | (simp; done) | (simp [*]; done) | (exfalso; simp_all; done) | (exfalso; simp_all; omega)), H', ⟨by have := HJ3.out; first | omega | exact Nat.le_refl _⟩, ⟨gK BK276⟩, ⟨gK BK277⟩, ⟨gB HB⟩⟩))
    ·rw [if_neg c16] at H
     have c16b0 : (x5_3 == 0) = false := beq_eq_false_iff_ne.mpr c16
     have c16b1 : (x5_3 != 0) = true := bne_iff_ne.mpr c16
     (first | rw [c16b0] | rw [c16b1] | (simp only [i64_w, i32_w]; rw [c16b0]) | skip)
     have H' := gA H
     clear H
     go_wp2
     all_goals (go_meet; (case rel => exact ⟨_, (false), (by first | rfl | (simp; done) | (simp [*]; done) | (exfalso; simp_all; done) | (exfalso; simp_all; omega)), H', ⟨by have := HJ3.out; first | omega | exact Nat.le_refl _⟩, ⟨gK BK276⟩, ⟨gK BK277⟩, ⟨gB HB⟩⟩))
   case rest =>
    clear HC15
    try clear c1
    try clear c2
    try clear p2
    try clear c4
    try clear c7
    try clear c10
    try clear c10b0
    try clear c10b1
    try clear c12
    try clear c16
    try clear c16b0
    try clear c16b1
    try clear c17
    try clear c17b0
    try clear c17b1
    try clear c18
    try clear c20
    try clear c21
    try clear hcz13_0
    try clear hcz13_1
    try clear hcz13_2
    try clear hcz14_0
    try clear hcz14_1
    try clear hcz14_2
    try clear hcz19_0
    try clear hcz19_1
    try clear hcz19_2
    try clear hcz20_0
    try clear hcz20_1
    try clear hcz20_2
    try clear hcz22_0
    try clear hcz22_1
    try clear hcz22_2
    try clear hcz8_0
    try clear hcz8_1
    try clear hcz8_2
    try clear hcz9_0
    try clear hcz9_1
    try clear hcz9_2
    try clear hfz13_0
    try clear hfz13_1
    try clear hfz13_2
    try clear hfz14_0
    try clear hfz14_1
    try clear hfz14_2
    try clear hfz19_0
    try clear hfz19_1
    try clear hfz19_2
    try clear hfz20_0
    try clear hfz20_1
    try clear hfz20_2
    try clear hfz22_0
    try clear hfz22_1
    try clear hfz22_2
    try clear hfz8_0
    try clear hfz8_1
    try clear hfz8_2
    try clear hfz9_0
    try clear hfz9_1
    try clear hfz9_2
    try clear p2
    obtain ⟨kq, x31_14, rfl, HA, HJ14, BK276, BK277, HB⟩ := hcut
    cases kq with
    | zero => exact absurd HA.out (by simp [triglyphref03_Cell.j1])
    | succ kj14 =>
     have H := HA.out; clear HA
     simp only [triglyphref03_Cell.j1] at H
     by_cases c23 : x31_14 = true
     ·subst c23
      have H1 : (if 0 < (l0_2.length : Int) then (if 0 < (l1_2.length : Int) then ((triglyphref03_Cmp.f kj14 ((rd_T25 l0_2 0).f0) ((rd_T25 l0_2 0).f1) ((rd_T25 l1_2 0).f0) ((rd_T25 l1_2 0).f1)).bind fun t282 => (some t282)) else (none)) else (none)) = some r := by rw [if_pos rfl] at H; exact H
      clear H; have H := H1; clear H1
      obtain ⟨c24, H⟩ := iS H
      have c24b0 := decide_eq_true c24
      have c24b1 : decide (0 < l0_2.length) = true := decide_eq_true (by omega)
      clear c24
      obtain ⟨c25, H⟩ := iS H
      have c25b0 := decide_eq_true c25
      have c25b1 : decide (0 < l1_2.length) = true := decide_eq_true (by omega)
      clear c25
      replace H := Option.bind_eq_some_iff.mp H
      obtain ⟨t282, A260, H⟩ := H
      replace H : (some t282) = some r := H
      have A26 := gA A260
      clear A260
      obtain rfl := Option.some.inj H
      try go_wp2
      replace BK276 := gA (blk_drew BK276.out); replace BK277 := gA (blk_drew BK277.out); replace HB := gA (below_drew1 HB.out)
      have p280 : 0 ≤ (0 : Int) := (by omega)
      have q280 : 0 < (l0_2.length : Int) := of_decide_eq_true (by assumption)
      obtain ⟨ad280, A280_0, c280_0, A280_1, c280_1, e280, hx280_0, hx280_1, hl280_0, hi280_0, hl280_1, hi280_1⟩ := at_T25 HR0_2.out 0 p280 q280
      have hw280_1 := hx280_1
      (try rw [show ((0 : Int)).toNat = 0 from rfl] at hw280_1)
      (try rw [show 0 * 2 = 0 from rfl] at hw280_1)
      (try rw [Addr.add_zero'] at hw280_1)
      have hw280_0 := hx280_0
      (try rw [show ((0 : Int)).toNat = 0 from rfl] at hw280_0)
      (try rw [show 0 * 2 = 0 from rfl] at hw280_0)
      (try rw [Addr.add_zero'] at hw280_0)
      cases e280
      have qi280 : (0 < l0_2.length) = True := eq_true (by omega)
      (try rw [show ((0 : Int)).toNat = 0 from rfl] at hx280_0)
      (try rw [show 0 * 2 = 0 from rfl] at hx280_0)
      (try rw [Addr.add_zero'] at hx280_0)
      (try rw [show ((0 : Int)).toNat = 0 from rfl] at hx280_1)
      (try rw [show 0 * 2 = 0 from rfl] at hx280_1)
      (try rw [Addr.add_zero'] at hx280_1)
      replace hx280_0 := (HB.out.cell (World.block_lt_of_cell? w _ hx280_0)).trans hx280_0
      replace hx280_1 := (HB.out.cell (World.block_lt_of_cell? w _ hx280_1)).trans hx280_1
      have HR280_0 := gA hi280_0
      have HC280_0 := gA hl280_0
      clear hi280_0 hl280_0
      have HR280_1 := gA hi280_1
      have HC280_1 := gA hl280_1
      clear hi280_1 hl280_1
      replace p280 := eq_true p280
      replace q280 := eq_true q280
      have p281 : 0 ≤ (0 : Int) := (by omega)
      have q281 : 0 < (l1_2.length : Int) := of_decide_eq_true (by assumption)
      obtain ⟨ad281, A281_0, c281_0, A281_1, c281_1, e281, hx281_0, hx281_1, hl281_0, hi281_0, hl281_1, hi281_1⟩ := at_T25 HR1_2.out 0 p281 q281
      have hw281_1 := hx281_1
      (try rw [show ((0 : Int)).toNat = 0 from rfl] at hw281_1)
      (try rw [show 0 * 2 = 0 from rfl] at hw281_1)
      (try rw [Addr.add_zero'] at hw281_1)
      have hw281_0 := hx281_0
      (try rw [show ((0 : Int)).toNat = 0 from rfl] at hw281_0)
      (try rw [show 0 * 2 = 0 from rfl] at hw281_0)
      (try rw [Addr.add_zero'] at hw281_0)
      cases e281
      have qi281 : (0 < l1_2.length) = True := eq_true (by omega)
      (try rw [show ((0 : Int)).toNat = 0 from rfl] at hx281_0)
      (try rw [show 0 * 2 = 0 from rfl] at hx281_0)
      (try rw [Addr.add_zero'] at hx281_0)
      (try rw [show ((0 : Int)).toNat = 0 from rfl] at hx281_1)
      (try rw [show 0 * 2 = 0 from rfl] at hx281_1)
      (try rw [Addr.add_zero'] at hx281_1)
      replace hx281_0 := (HB.out.cell (World.block_lt_of_cell? w _ hx281_0)).trans hx281_0
      replace hx281_1 := (HB.out.cell (World.block_lt_of_cell? w _ hx281_1)).trans hx281_1
      have HR281_0 := gA hi281_0
      have HC281_0 := gA hl281_0
      clear hi281_0 hl281_0
      have HR281_1 := gA hi281_1
      have HC281_1 := gA hl281_1
      clear hi281_1 hl281_1
      replace p281 := eq_true p281
      replace q281 := eq_true q281
      refine start_ (n := 10) (S := fun w' => w'.cell? ⟨gb276, 0, none⟩ = some (.int .i64 a0_0) ∧ w'.cell? ⟨gb276, 1, none⟩ = some (.int .i64 a0_1) ∧ w'.cell? ⟨gb276, 2, none⟩ = some (.slice (some ad280) l0_2.length c0_2) ∧ w'.cell? ⟨gb277, 0, none⟩ = some (.int .i64 a1_0) ∧ w'.cell? ⟨gb277, 1, none⟩ = some (.int .i64 a1_1) ∧ w'.cell? ⟨gb277, 2, none⟩ = some (.slice (some ad281) l1_2.length c1_2) ∧ w'.cell? ad280 = some (.slice A280_0 ((rd_T25 l0_2 0).f0).length c280_0) ∧ w'.cell? ⟨ad280.block, ad280.off + 1, none⟩ = some (.slice A280_1 ((rd_T25 l0_2 0).f1).length c280_1) ∧ w'.cell? ad281 = some (.slice A281_0 ((rd_T25 l1_2 0).f0).length c281_0) ∧ w'.cell? ⟨ad281.block, ad281.off + 1, none⟩ = some (.slice A281_1 ((rd_T25 l1_2 0).f1).length c281_1)) (ds := []) #[false, false, false, false, false, false, false, false, false, false] (by kernel_rfl) rfl rfl ⟨(blk_cell BK276.out 0).trans rfl, (blk_cell BK276.out 1).trans rfl, (blk_cell BK276.out 2).trans rfl, (blk_cell BK277.out 0).trans rfl, (blk_cell BK277.out 1).trans rfl, (blk_cell BK277.out 2).trans rfl, ((HB.out.cell (World.block_lt_of_cell? w _ hw280_0)).trans hw280_0), ((HB.out.cell (World.block_lt_of_cell? w _ hw280_1)).trans hw280_1), ((HB.out.cell (World.block_lt_of_cell? w _ hw281_0)).trans hw281_0), ((HB.out.cell (World.block_lt_of_cell? w _ hw281_1)).trans hw281_1)⟩ (fun hHeld => ?_); refine with_tabW triglyphref03_Cell.tab5 triglyphref03_Cell.bits5 (fun HT_ HW_ => ?_)
      generalize wc.drew = w27 at BK276 BK277 HB HR280_0 HR280_1 HR281_0 HR281_1 hx280_0 hx280_1 hx281_0 hx281_1 hHeld ⊢
      refine pure_ (i := 0) (N := some 32) (v := ?_) (a' := ?_) #[true, false, false, false, false, false, false, false, false, false] rfl rfl (any_of HT_.out (by kernel_rfl)) (fun _ _ _ h => h) (Or.inl ⟨by rfl, ?_⟩) ?_ ?_; rotate_left
      ·intro w'; go_simp; with_reducible rfl
      rotate_left
      ·simp only [Act.put, List.setIfInBounds_toArray, List.set_cons_zero, List.set_cons_succ, i64_w, i32_w]; rfl
      refine pure_ (i := 4) (N := some 36) (v := ?_) (a' := ?_) #[true, false, false, false, true, false, false, false, false, false] rfl rfl (any_of HT_.out (by kernel_rfl)) (fun _ _ _ h => h) (Or.inl ⟨by rfl, ?_⟩) ?_ ?_; rotate_left
      ·intro w'; go_simp; with_reducible rfl
      rotate_left
      ·simp only [Act.put, List.setIfInBounds_toArray, List.set_cons_zero, List.set_cons_succ, i64_w, i32_w]; rfl
      refine take_ (i := 1) (N := some 33) (v := ?_) (a' := ?_) #[true, true, false, false, true, false, false, false, false, false] rfl rfl (take_ofW HT_.out HW_.out (by kernel_rfl)) (fun _ _ _ h => h) (Or.inl ⟨by rfl, ?_⟩) hHeld ?_ ?_; rotate_left
      ·rintro w' ⟨s0, s1, s2, s3, s4, s5, s6, s7, s8, s9⟩; go_simp; with_reducible rfl
      rotate_left
      ·simp only [Act.put, List.setIfInBounds_toArray, List.set_cons_zero, List.set_cons_succ, i64_w, i32_w]; rfl
      refine pure_ (i := 2) (N := some 34) (v := ?_) (a' := ?_) #[true, true, true, false, true, false, false, false, false, false] rfl rfl (any_of HT_.out (by kernel_rfl)) (fun _ _ _ h => h) (Or.inl ⟨by rfl, ?_⟩) ?_ ?_; rotate_left
      ·intro w'; go_simp; with_reducible rfl
      rotate_left
      ·simp only [Act.put, List.setIfInBounds_toArray, List.set_cons_zero, List.set_cons_succ, i64_w, i32_w]; rfl
      refine take_ (i := 3) (N := some 35) (v := ?_) (a' := ?_) #[true, true, true, true, true, false, false, false, false, false] rfl rfl (take_ofW HT_.out HW_.out (by kernel_rfl)) (fun _ _ _ h => h) (Or.inl ⟨by rfl, ?_⟩) hHeld ?_ ?_; rotate_left
      ·rintro w' ⟨s0, s1, s2, s3, s4, s5, s6, s7, s8, s9⟩; go_simp; with_reducible rfl
      rotate_left
      ·simp only [Act.put, List.setIfInBounds_toArray, List.set_cons_zero, List.set_cons_succ, i64_w, i32_w]; rfl
      refine take_ (i := 5) (N := some 37) (v := ?_) (a' := ?_) #[true, true, true, true, true, true, false, false, false, false] rfl rfl (take_ofW HT_.out HW_.out (by kernel_rfl)) (fun _ _ _ h => h) (Or.inl ⟨by rfl, ?_⟩) hHeld ?_ ?_; rotate_left
      ·rintro w' ⟨s0, s1, s2, s3, s4, s5, s6, s7, s8, s9⟩; go_simp; with_reducible rfl
      rotate_left
      ·simp only [Act.put, List.setIfInBounds_toArray, List.set_cons_zero, List.set_cons_succ, i64_w, i32_w]; rfl
      refine pure_ (i := 6) (N := some 38) (v := ?_) (a' := ?_) #[true, true, true, true, true, true, true, false, false, false] rfl rfl (any_of HT_.out (by kernel_rfl)) (fun _ _ _ h => h) (Or.inl ⟨by rfl, ?_⟩) ?_ ?_; rotate_left
      ·intro w'; go_simp; with_reducible rfl
      rotate_left
      ·simp only [Act.put, List.setIfInBounds_toArray, List.set_cons_zero, List.set_cons_succ, i64_w, i32_w]; rfl
      refine take_ (i := 7) (N := some 39) (v := ?_) (a' := ?_) #[true, true, true, true, true, true, true, true, false, false] rfl rfl (take_ofW HT_.out HW_.out (by kernel_rfl)) (fun _ _ _ h => h) (Or.inl ⟨by rfl, ?_⟩) hHeld ?_ ?_; rotate_left
      ·rintro w' ⟨s0, s1, s2, s3, s4, s5, s6, s7, s8, s9⟩; go_simp; with_reducible rfl
      rotate_left
      ·simp only [Act.put, List.setIfInBounds_toArray, List.set_cons_zero, List.set_cons_succ, i64_w, i32_w]; rfl
      refine one_ (i := 8) (N := some 40) #[true, true, true, true, true, true, true, true, true, false] rfl rfl (one_of HT_.out (by kernel_rfl)) (by decide) (fun K hK => ?_)
      refine goes_ Try.func40 (by kernel_rfl) rfl #[.agg #[.slice A280_0 ((rd_T25 l0_2 0).f0).length c280_0, .slice A280_1 ((rd_T25 l0_2 0).f1).length c280_1], .agg #[.slice A281_0 ((rd_T25 l1_2 0).f0).length c281_0, .slice A281_1 ((rd_T25 l1_2 0).f1).length c281_1]] (by rfl) rfl rfl (by (try simp only [List.map_toArray, List.map_cons, List.map_nil]); first | done | rfl | (simp only [List.length_drop, List.length_take]; rfl)) ?_
      with_reducible refine (ih_triglyphref03_Cmp kj14 (by have := HJ3.out; have := HJ14.out; omega) _ _ ((rd_T25 l0_2 0).f0) _ _ ((rd_T25 l0_2 0).f1) _ _ ((rd_T25 l1_2 0).f0) _ _ ((rd_T25 l1_2 0).f1) t282 _ ?side1 ?side2 ?side3 ?side4 ?side5 ?side6 ?side7 ?side8 A26.out).mono ?_
      (case side1 => exact gC HR280_0 HB)
      (case side2 => exact HC280_0.out)
      (case side3 => exact gC HR280_1 HB)
      (case side4 => exact HC280_1.out)
      (case side5 => exact gC HR281_0 HB)
      (case side6 => exact HC281_0.out)
      (case side7 => exact gC HR281_1 HB)
      (case side8 => exact HC281_1.out)
      rintro e w28 ⟨rfl, hb⟩
      refine ⟨_, rfl, ?_⟩
      replace BK276 := gA (blk_below (gK BK276) hb); replace BK277 := gA (blk_below (gK BK277) hb); replace HB := gA (below_step (gB HB) hb); (try clear hb)
      refine hK.out _ _ ⟨(blk_cell BK276.out 0).trans rfl, (blk_cell BK276.out 1).trans rfl, (blk_cell BK276.out 2).trans rfl, (blk_cell BK277.out 0).trans rfl, (blk_cell BK277.out 1).trans rfl, (blk_cell BK277.out 2).trans rfl, ((HB.out.cell (World.block_lt_of_cell? w _ hw280_0)).trans hw280_0), ((HB.out.cell (World.block_lt_of_cell? w _ hw280_1)).trans hw280_1), ((HB.out.cell (World.block_lt_of_cell? w _ hw281_0)).trans hw281_0), ((HB.out.cell (World.block_lt_of_cell? w _ hw281_1)).trans hw281_1)⟩ (fun hHeld => ?_); clear hK K
      refine norm_ (a' := ?_) ?_ ?_; rotate_left
      ·show Act.put _ (some 40) _ = _
       simp only [Act.put, List.setIfInBounds_toArray, List.set_cons_zero, List.set_cons_succ, i64_w, i32_w]; rfl
      refine pure_ (i := 9) (N := some 4) (v := ?_) (a' := ?_) #[true, true, true, true, true, true, true, true, true, true] rfl rfl (any_of HT_.out (by kernel_rfl)) (fun _ _ _ h => h) (Or.inl ⟨by rfl, ?_⟩) ?_ ?_; rotate_left
      ·intro w'; go_simp; with_reducible rfl
      rotate_left
      ·simp only [Act.put, List.setIfInBounds_toArray, List.set_cons_zero, List.set_cons_succ, i64_w, i32_w]; rfl
      refine done_ (done_of HT_.out (by kernel_rfl)) ?_
      try go_wp2
      go_ret
      exact ⟨rfl, by repeat first | exact gB HB | refine below_set ?_ GE276.out | refine below_set ?_ GE277.out⟩
     ·replace c23 := Bool.eq_false_iff.mpr c23
      subst c23
      have H1 : (if x5_3 = 0 then ((triglyphref03_ints.f (l0_2.length : Int) (l1_2.length : Int)).bind fun t283 => (some t283)) else (some x5_3)) = some r := by rw [if_neg (show ¬ (false = true) by decide)] at H; exact H
      clear H; have H := H1; clear H1
      by_cases c29 : x5_3 = 0
      ·rw [if_pos c29] at H
       have c29b0 : (x5_3 == 0) = true := beq_iff_eq.mpr c29
       have c29b1 : (x5_3 != 0) = false := bne_eq_false_iff_eq.mpr c29
       clear c29
       replace H := Option.bind_eq_some_iff.mp H
       obtain ⟨t283, A300, H⟩ := H
       replace H : (some t283) = some r := H
       have A30 := gA A300
       clear A300
       obtain rfl := Option.some.inj H
       have hnb31 := NB276_277.out
       have hnc31 := NB277_276.out
       obtain ⟨hcz32_0, hcz32_1, hcz32_2, hfz32_0, hfz32_1, hfz32_2⟩ := gz3 BK276
       obtain ⟨hcz33_0, hcz33_1, hcz33_2, hfz33_0, hfz33_1, hfz33_2⟩ := gz3 BK277
       go_wp2_with (first | ((with_reducible refine gate_callee (f := 44) rfl ?_); refine goesL_ (some 49) rfl rfl Try.func44 (by kernel_rfl) rfl #[.int .i64 (l0_2.length : Int), .int .i64 (l1_2.length : Int)] rfl (by (try simp only [List.map_toArray, List.map_cons, List.map_nil]); first | done | rfl | (simp only [List.length_drop, List.length_take]; rfl)) ?_; (with_reducible refine (triglyphref03_ints.calls (l0_2.length : Int) (l1_2.length : Int) t283 _ A30.out).mono ?_); rintro e w' ⟨rfl, ⟨nd, rfl⟩⟩; refine ⟨_, rfl, ?_⟩))
       go_ret
       exact ⟨rfl, by repeat first | exact gB HB | refine below_set ?_ GE276.out | refine below_set ?_ GE277.out⟩
      ·rw [if_neg c29] at H
       have c29b0 : (x5_3 == 0) = false := beq_eq_false_iff_ne.mpr c29
       have c29b1 : (x5_3 != 0) = true := bne_iff_ne.mpr c29
       obtain rfl := Option.some.inj H
       go_wp2
       go_ret
       exact ⟨rfl, by repeat first | exact gB HB | refine below_set ?_ GE276.out | refine below_set ?_ GE277.out⟩
def triglyphref03_Cmp.T5 : Bool × List (List Nat × List Nat) := (true, [([], []), ([0], [0]), ([], []), ([1, 2], [1, 2]), ([3], [3]), ([], []), ([5], [5]), ([], []), ([6, 7], [6, 7]), ([8], [8]), ([4, 9], [4, 9]), ([10, 10, 0, 1, 2, 3, 4, 5, 6, 7, 8, 9, 10], [10])])
def triglyphref03_Cmp.B5 : List Nat := [0, 1, 0, 7, 15, 0, 32, 0, 224, 480, 1023, 2047]
theorem triglyphref03_Cmp.tab5 : rtab .any (opsOf Try.f40 5) = triglyphref03_Cmp.T5 := by kernel_rfl
theorem triglyphref03_Cmp.bits5 : waitsOk triglyphref03_Cmp.T5.2 triglyphref03_Cmp.B5 = true := by kernel_rfl
def triglyphref03_Cmp.T9 : Bool × List (List Nat × List Nat) := (true, [([], []), ([0], [0]), ([], []), ([1, 2], [1, 2]), ([3], [3]), ([], []), ([5], [5]), ([], []), ([6, 7], [6, 7]), ([8], [8]), ([4, 9], [4, 9]), ([10, 10, 0, 1, 2, 3, 4, 5, 6, 7, 8, 9, 10], [10])])
def triglyphref03_Cmp.B9 : List Nat := [0, 1, 0, 7, 15, 0, 32, 0, 224, 480, 1023, 2047]
theorem triglyphref03_Cmp.tab9 : rtab .any (opsOf Try.f40 9) = triglyphref03_Cmp.T9 := by kernel_rfl
theorem triglyphref03_Cmp.bits9 : waitsOk triglyphref03_Cmp.T9.2 triglyphref03_Cmp.B9 = true := by kernel_rfl
set_option maxHeartbeats 8000000 in
set_option maxRecDepth 100000 in
theorem triglyphref03_Cmp.step (k : Nat) (ih_triglyphref03_Cell : ∀ k_, k_ < k → ∀ (a0_0 : Int) (a0_1 : Int) (A0_2 : Option Addr) (c0_2 : Nat) (l0_2 : List (S25)) (a1_0 : Int) (a1_1 : Int) (A1_2 : Option Addr) (c1_2 : Nat) (l1_2 : List (S25)) (r : Int) (w : World) (hr0_2 : Kd.C k25 w A0_2 l0_2.length l0_2) (hc0_2 : l0_2.length ≤ c0_2) (hr1_2 : Kd.C k25 w A1_2 l1_2.length l1_2) (hc1_2 : l1_2.length ≤ c1_2) (h : triglyphref03_Cell.f k_ a0_0 a0_1 l0_2 a1_0 a1_1 l1_2 = some r),
  Calls Try.prog 20 #[.agg #[.int .i64 a0_0, .int .i64 a0_1, .slice A0_2 l0_2.length c0_2], .agg #[.int .i64 a1_0, .int .i64 a1_1, .slice A1_2 l1_2.length c1_2]] w fun e w' => e = .returned (.int .i64 r) ∧ Below w.heap.size w w') (ih : ∀ k_, k_ < k → ∀ (A0_0 : Option Addr) (c0_0 : Nat) (l0_0 : List Int) (A0_1 : Option Addr) (c0_1 : Nat) (l0_1 : List (S43)) (A1_0 : Option Addr) (c1_0 : Nat) (l1_0 : List Int) (A1_1 : Option Addr) (c1_1 : Nat) (l1_1 : List (S43)) (r : Int) (w : World) (hr0_0 : Kd.C (Kd.int .i64) w A0_0 l0_0.length l0_0) (hc0_0 : l0_0.length ≤ c0_0) (hr0_1 : Kd.C k43 w A0_1 l0_1.length l0_1) (hc0_1 : l0_1.length ≤ c0_1) (hr1_0 : Kd.C (Kd.int .i64) w A1_0 l1_0.length l1_0) (hc1_0 : l1_0.length ≤ c1_0) (hr1_1 : Kd.C k43 w A1_1 l1_1.length l1_1) (hc1_1 : l1_1.length ≤ c1_1) (h : triglyphref03_Cmp.f k_ l0_0 l0_1 l1_0 l1_1 = some r),
  Calls Try.prog 40 #[.agg #[.slice A0_0 l0_0.length c0_0, .slice A0_1 l0_1.length c0_1], .agg #[.slice A1_0 l1_0.length c1_0, .slice A1_1 l1_1.length c1_1]] w fun e w' => e = .returned (.int .i64 r) ∧ Below w.heap.size w w') : ∀ (A0_0 : Option Addr) (c0_0 : Nat) (l0_0 : List Int) (A0_1 : Option Addr) (c0_1 : Nat) (l0_1 : List (S43)) (A1_0 : Option Addr) (c1_0 : Nat) (l1_0 : List Int) (A1_1 : Option Addr) (c1_1 : Nat) (l1_1 : List (S43)) (r : Int) (w : World) (hr0_0 : Kd.C (Kd.int .i64) w A0_0 l0_0.length l0_0) (hc0_0 : l0_0.length ≤ c0_0) (hr0_1 : Kd.C k43 w A0_1 l0_1.length l0_1) (hc0_1 : l0_1.length ≤ c0_1) (hr1_0 : Kd.C (Kd.int .i64) w A1_0 l1_0.length l1_0) (hc1_0 : l1_0.length ≤ c1_0) (hr1_1 : Kd.C k43 w A1_1 l1_1.length l1_1) (hc1_1 : l1_1.length ≤ c1_1) (h : triglyphref03_Cmp.f k l0_0 l0_1 l1_0 l1_1 = some r),
  Calls Try.prog 40 #[.agg #[.slice A0_0 l0_0.length c0_0, .slice A0_1 l0_1.length c0_1], .agg #[.slice A1_0 l1_0.length c1_0, .slice A1_1 l1_1.length c1_1]] w fun e w' => e = .returned (.int .i64 r) ∧ Below w.heap.size w w' := by
 intro A0_0 c0_0 l0_0 A0_1 c0_1 l0_1 A1_0 c1_0 l1_0 A1_1 c1_1 l1_1 r w hr0_0 hc0_0 hr0_1 hc0_1 hr1_0 hc1_0 hr1_1 hc1_1 h
 cases k with
 | zero => exact absurd h (by simp [triglyphref03_Cmp.f])
 | succ k =>
 simp only [triglyphref03_Cmp.f] at h
 have hu25 := Try.underlying25
 have hu43 := Try.underlying43
 have HR0_0 := gA hr0_0
 have HC0_0 := gA hc0_0
 clear hr0_0 hc0_0
 have HR0_1 := gA hr0_1
 have HC0_1 := gA hc0_1
 clear hr0_1 hc0_1
 have HR1_0 := gA hr1_0
 have HC1_0 := gA hc1_0
 clear hr1_0 hc1_0
 have HR1_1 := gA hr1_1
 have HC1_1 := gA hc1_1
 clear hr1_1 hc1_1
 have HB := gA (Below.refl w.heap.size w)
 have H : ((triglyphref03_ints.f (l0_0.length : Int) (l1_0.length : Int)).bind fun t286 => (triglyphref03_Cmp.l0 k t286 0 l0_0 l0_1 l1_0 l1_1)) = some r := h
 clear h
 replace H := Option.bind_eq_some_iff.mp H
 obtain ⟨t286, A30, H⟩ := H
 replace H : (triglyphref03_Cmp.l0 k t286 0 l0_0 l0_1 l1_0 l1_1) = some r := H
 have A3 := gA A30
 clear A30
 have HC4 := gA H
 clear H
 go_enter Try.func40, Try.ntmps40
 go_upto_block 0 with (first | ((with_reducible refine gate_dst (N := 2) rfl ?_); (try (refine gate_guard (by rfl) ?_; dsimp only)); refine box_event ?hg (N := 2) ?hd (cs := #[.slice A0_0 l0_0.length c0_0, .slice A0_1 l0_1.length c0_1]) (t := 25) ?hr ?_; (case hd => rfl); (case hg => rfl); (case hr => first | (go_simp; done) | (go_simp; rfl)); intro gb284 hg w5 hbox hb; have BK284 := gA (hbox); have GW284 := gA ((by rw [hg]; exact (below_size (gB HB)) : w.heap.size ≤ gb284)); have GE284 := gA ((by rw [hg]; exact (below_size (gB HB)) : w.heap.size ≤ gb284)); replace HB := gA (below_step (gB HB) hb); clear hb hbox hg) | ((with_reducible refine gate_dst (N := 3) rfl ?_); (try (refine gate_guard (by rfl) ?_; dsimp only)); refine box_event ?hg (N := 3) ?hd (cs := #[.slice A1_0 l1_0.length c1_0, .slice A1_1 l1_1.length c1_1]) (t := 25) ?hr ?_; (case hd => rfl); (case hg => rfl); (case hr => first | (go_simp; done) | (go_simp; rfl)); intro gb285 hg w6 hbox hb; have BK285 := gA (hbox); have GW285 := gA ((by rw [hg]; exact (below_size (gB HB)) : w.heap.size ≤ gb285)); have GE285 := gA ((by rw [hg]; exact (below_size (gB HB)) : w.heap.size ≤ gb285)); replace HB := gA (below_step (gB HB) hb); have NB284_285 := gA ((by rw [hg]; exact Nat.ne_of_lt (blk_lt (gK BK284)) : gb284 ≠ gb285)); have NB285_284 := gA ((by rw [hg]; exact Nat.ne_of_gt (blk_lt (gK BK284)) : gb285 ≠ gb284)); replace BK284 := gA (blk_below (gK BK284) hb); clear hb hbox hg; have hnb7 := NB284_285.out; have hnc7 := NB285_284.out; obtain ⟨hcz8_0, hcz8_1, hfz8_0, hfz8_1⟩ := gz2 BK284; obtain ⟨hcz9_0, hcz9_1, hfz9_0, hfz9_1⟩ := gz2 BK285) | ((with_reducible refine gate_callee (f := 44) rfl ?_); refine goesL_ (some 14) rfl rfl Try.func44 (by kernel_rfl) rfl #[.int .i64 (l0_0.length : Int), .int .i64 (l1_0.length : Int)] rfl (by (try simp only [List.map_toArray, List.map_cons, List.map_nil]); first | done | rfl | (simp only [List.length_drop, List.length_take]; rfl)) ?_; (with_reducible refine (triglyphref03_ints.calls (l0_0.length : Int) (l1_0.length : Int) t286 _ A3.out).mono ?_); rintro e w' ⟨rfl, ⟨nd, rfl⟩⟩; refine ⟨_, rfl, ?_⟩))
 (try simp only [Act.put, List.setIfInBounds_toArray, List.set_cons_zero, List.set_cons_succ])
 go_cut [5] (fun v5 wc => ∃ (kq : Nat) (x5_3 : Int), v5 = .int .i64 x5_3 ∧ Aside0 (triglyphref03_Cmp.j1 kq x5_3 l0_0 l0_1 l1_0 l1_1 = some r) ∧ Aside0 (kq ≤ k) ∧ Aside0 (wc.heap[gb284]? = some (.cells #[(.slice A0_0 l0_0.length c0_0), (.slice A0_1 l0_1.length c0_1)] 25 (0, 0))) ∧ Aside0 (wc.heap[gb285]? = some (.cells #[(.slice A1_0 l1_0.length c1_0), (.slice A1_1 l1_1.length c1_1)] 25 (0, 0))) ∧ Aside0 (Below w.heap.size w wc))
 case first =>
  have H := HC4.out; clear HC4
  have H' := gA H
  clear H
  go_wp2
  go_loopg [5, 6] k (fun kq v5 v6 w' => ∃ (x5_1 : Int) (x6_1 : Int), v5 = .int .i64 x5_1 ∧ v6 = .int .i64 x6_1 ∧ Aside0 (triglyphref03_Cmp.l0 kq x5_1 x6_1 l0_0 l0_1 l1_0 l1_1 = some r) ∧ Aside0 (kq ≤ k) ∧ Aside0 (w'.heap[gb284]? = some (.cells #[(.slice A0_0 l0_0.length c0_0), (.slice A0_1 l0_1.length c0_1)] 25 (0, 0))) ∧ Aside0 (w'.heap[gb285]? = some (.cells #[(.slice A1_0 l1_0.length c1_0), (.slice A1_1 l1_1.length c1_1)] 25 (0, 0))) ∧ Aside0 (Below w.heap.size w w'))
  case atStart => exact ⟨(t286), (0), (rfl), (rfl), H', ⟨Nat.le_refl _⟩, ⟨gK BK284⟩, ⟨gK BK285⟩, ⟨by repeat first | exact gB HB | refine below_set ?_ GE284.out | refine below_set ?_ GE285.out⟩⟩
  case round =>
   clear H'
   try clear c1
   try clear p2
   try clear c4
   try clear c7
   try clear hcz8_0
   try clear hcz8_1
   try clear hcz9_0
   try clear hcz9_1
   try clear hfz8_0
   try clear hfz8_1
   try clear hfz9_0
   try clear hfz9_1
   obtain ⟨x5_1, x6_1, rfl, rfl, HA, HK1, BK284, BK285, HB⟩ := hrel
   cases gk with
   | zero => exact absurd HA.out (by simp [triglyphref03_Cmp.l0])
   | succ k1 =>
    have H := HA.out; clear HA
    simp only [triglyphref03_Cmp.l0] at H
    by_cases c10 : x6_1 < (l0_0.length : Int)
    ·rw [if_pos c10] at H
     have c10b0 := decide_eq_true c10
     clear c10
     (first | rw [c10b0] | (simp only [i64_w, i32_w]; rw [c10b0]) | skip)
     by_cases c11 : x5_1 = 0
     ·rw [if_pos c11] at H
      have c11b0 : (x5_1 == 0) = true := beq_iff_eq.mpr c11
      have c11b1 : (x5_1 != 0) = false := bne_eq_false_iff_eq.mpr c11
      clear c11
      obtain ⟨c12, H⟩ := iS H
      have c12b0 := decide_eq_true c12
      clear c12
      obtain ⟨c13, H⟩ := iS H
      have c13b0 := decide_eq_true c13
      clear c13
      replace H := Option.bind_eq_some_iff.mp H
      obtain ⟨t289, A140, H⟩ := H
      replace H : (triglyphref03_Cmp.l0 k1 t289 (wrap64 (x6_1 + 1)) l0_0 l0_1 l1_0 l1_1) = some r := H
      have A14 := gA A140
      clear A140
      have H' := gA H
      clear H
      have hnb15 := NB284_285.out
      have hnc15 := NB285_284.out
      obtain ⟨hcz16_0, hcz16_1, hfz16_0, hfz16_1⟩ := gz2 BK284
      try go_wp2
      replace BK284 := gA (blk_drew BK284.out); replace BK285 := gA (blk_drew BK285.out); replace HB := gA (below_drew1 HB.out)
      have p287 : 0 ≤ (x6_1 : Int) := of_decide_eq_true (by assumption)
      have q287 : x6_1 < (l0_0.length : Int) := of_decide_eq_true (by assumption)
      obtain ⟨ad287, e287, hx287_0⟩ := Kd.at_int HR0_0.out x6_1 p287 q287
      have hw287_0 := hx287_0
      cases e287
      replace hx287_0 := (HB.out.cell (World.block_lt_of_cell? w _ hx287_0)).trans hx287_0
      replace p287 := eq_true p287
      replace q287 := eq_true q287
      have p288 : 0 ≤ (x6_1 : Int) := of_decide_eq_true (by assumption)
      have q288 : x6_1 < (l1_0.length : Int) := of_decide_eq_true (by assumption)
      obtain ⟨ad288, e288, hx288_0⟩ := Kd.at_int HR1_0.out x6_1 p288 q288
      have hw288_0 := hx288_0
      cases e288
      replace hx288_0 := (HB.out.cell (World.block_lt_of_cell? w _ hx288_0)).trans hx288_0
      replace p288 := eq_true p288
      replace q288 := eq_true q288
      refine start_ (n := 12) (S := fun w' => w'.cell? ⟨gb284, 0, none⟩ = some (.slice (some ad287) l0_0.length c0_0) ∧ w'.cell? ⟨gb284, 1, none⟩ = some (.slice A0_1 l0_1.length c0_1) ∧ w'.cell? ⟨gb285, 0, none⟩ = some (.slice (some ad288) l1_0.length c1_0) ∧ w'.cell? ⟨gb285, 1, none⟩ = some (.slice A1_1 l1_1.length c1_1) ∧ w'.cell? (ad287.add (x6_1).toNat) = some (.int .i64 (rd l0_0 x6_1)) ∧ w'.cell? (ad288.add (x6_1).toNat) = some (.int .i64 (rd l1_0 x6_1))) (ds := []) #[false, false, false, false, false, false, false, false, false, false, false, false] (by kernel_rfl) rfl rfl ⟨(blk_cell BK284.out 0).trans rfl, (blk_cell BK284.out 1).trans rfl, (blk_cell BK285.out 0).trans rfl, (blk_cell BK285.out 1).trans rfl, ((HB.out.cell (World.block_lt_of_cell? w _ hw287_0)).trans hw287_0), ((HB.out.cell (World.block_lt_of_cell? w _ hw288_0)).trans hw288_0)⟩ (fun hHeld => ?_); refine with_tabW triglyphref03_Cmp.tab5 triglyphref03_Cmp.bits5 (fun HT_ HW_ => ?_)
      generalize wr.drew = w17 at BK284 BK285 HB hx287_0 hx288_0 hHeld ⊢
      refine pure_ (i := 0) (N := some 26) (v := ?_) (a' := ?_) #[true, false, false, false, false, false, false, false, false, false, false, false] rfl rfl (any_of HT_.out (by kernel_rfl)) (fun _ _ _ h => h) (Or.inl ⟨by rfl, ?_⟩) ?_ ?_; rotate_left
      ·intro w'; go_simp; with_reducible rfl
      rotate_left
      ·simp only [Act.put, List.setIfInBounds_toArray, List.set_cons_zero, List.set_cons_succ, i64_w, i32_w]; rfl
      refine pure_ (i := 2) (N := some 28) (v := ?_) (a' := ?_) #[true, false, true, false, false, false, false, false, false, false, false, false] rfl rfl (any_of HT_.out (by kernel_rfl)) (fun _ _ _ h => h) (Or.inl ⟨by rfl, ?_⟩) ?_ ?_; rotate_left
      ·intro w'; go_simp; with_reducible rfl
      rotate_left
      ·simp only [Act.put, List.setIfInBounds_toArray, List.set_cons_zero, List.set_cons_succ, i64_w, i32_w]; rfl
      refine pure_ (i := 5) (N := some 31) (v := ?_) (a' := ?_) #[true, false, true, false, false, true, false, false, false, false, false, false] rfl rfl (any_of HT_.out (by kernel_rfl)) (fun _ _ _ h => h) (Or.inl ⟨by rfl, ?_⟩) ?_ ?_; rotate_left
      ·intro w'; go_simp; with_reducible rfl
      rotate_left
      ·simp only [Act.put, List.setIfInBounds_toArray, List.set_cons_zero, List.set_cons_succ, i64_w, i32_w]; rfl
      refine pure_ (i := 7) (N := some 33) (v := ?_) (a' := ?_) #[true, false, true, false, false, true, false, true, false, false, false, false] rfl rfl (any_of HT_.out (by kernel_rfl)) (fun _ _ _ h => h) (Or.inl ⟨by rfl, ?_⟩) ?_ ?_; rotate_left
      ·intro w'; go_simp; with_reducible rfl
      rotate_left
      ·simp only [Act.put, List.setIfInBounds_toArray, List.set_cons_zero, List.set_cons_succ, i64_w, i32_w]; rfl
      refine take_ (i := 1) (N := some 27) (v := ?_) (a' := ?_) #[true, true, true, false, false, true, false, true, false, false, false, false] rfl rfl (take_ofW HT_.out HW_.out (by kernel_rfl)) (fun _ _ _ h => h) (Or.inl ⟨by rfl, ?_⟩) hHeld ?_ ?_; rotate_left
      ·rintro w' ⟨s0, s1, s2, s3, s4, s5⟩; go_simp; with_reducible rfl
      rotate_left
      ·simp only [Act.put, List.setIfInBounds_toArray, List.set_cons_zero, List.set_cons_succ, i64_w, i32_w]; rfl
      refine pure_ (i := 3) (N := some 29) (v := ?_) (a' := ?_) #[true, true, true, true, false, true, false, true, false, false, false, false] rfl rfl (any_of HT_.out (by kernel_rfl)) (fun _ _ _ h => h) (Or.inl ⟨by rfl, ?_⟩) ?_ ?_; rotate_left
      ·intro w'; go_simp; with_reducible rfl
      rotate_left
      ·simp only [Act.put, List.setIfInBounds_toArray, List.set_cons_zero, List.set_cons_succ, i64_w, i32_w]; rfl
      refine take_ (i := 4) (N := some 30) (v := ?_) (a' := ?_) #[true, true, true, true, true, true, false, true, false, false, false, false] rfl rfl (take_ofW HT_.out HW_.out (by kernel_rfl)) (fun _ _ _ h => h) (Or.inl ⟨by rfl, ?_⟩) hHeld ?_ ?_; rotate_left
      ·rintro w' ⟨s0, s1, s2, s3, s4, s5⟩; go_simp; with_reducible rfl
      rotate_left
      ·simp only [Act.put, List.setIfInBounds_toArray, List.set_cons_zero, List.set_cons_succ, i64_w, i32_w]; rfl
      refine take_ (i := 6) (N := some 32) (v := ?_) (a' := ?_) #[true, true, true, true, true, true, true, true, false, false, false, false] rfl rfl (take_ofW HT_.out HW_.out (by kernel_rfl)) (fun _ _ _ h => h) (Or.inl ⟨by rfl, ?_⟩) hHeld ?_ ?_; rotate_left
      ·rintro w' ⟨s0, s1, s2, s3, s4, s5⟩; go_simp; with_reducible rfl
      rotate_left
      ·simp only [Act.put, List.setIfInBounds_toArray, List.set_cons_zero, List.set_cons_succ, i64_w, i32_w]; rfl
      refine pure_ (i := 8) (N := some 34) (v := ?_) (a' := ?_) #[true, true, true, true, true, true, true, true, true, false, false, false] rfl rfl (any_of HT_.out (by kernel_rfl)) (fun _ _ _ h => h) (Or.inl ⟨by rfl, ?_⟩) ?_ ?_; rotate_left
      ·intro w'; go_simp; with_reducible rfl
      rotate_left
      ·simp only [Act.put, List.setIfInBounds_toArray, List.set_cons_zero, List.set_cons_succ, i64_w, i32_w]; rfl
      refine take_ (i := 9) (N := some 35) (v := ?_) (a' := ?_) #[true, true, true, true, true, true, true, true, true, true, false, false] rfl rfl (take_ofW HT_.out HW_.out (by kernel_rfl)) (fun _ _ _ h => h) (Or.inl ⟨by rfl, ?_⟩) hHeld ?_ ?_; rotate_left
      ·rintro w' ⟨s0, s1, s2, s3, s4, s5⟩; go_simp; with_reducible rfl
      rotate_left
      ·simp only [Act.put, List.setIfInBounds_toArray, List.set_cons_zero, List.set_cons_succ, i64_w, i32_w]; rfl
      refine one_ (i := 10) (N := some 36) #[true, true, true, true, true, true, true, true, true, true, true, false] rfl rfl (one_of HT_.out (by kernel_rfl)) (by decide) (fun K hK => ?_)
      refine goes_ Try.func44 (by kernel_rfl) rfl #[.int .i64 (rd l0_0 x6_1), .int .i64 (rd l1_0 x6_1)] (by rfl) rfl rfl (by (try simp only [List.map_toArray, List.map_cons, List.map_nil]); first | done | rfl | (simp only [List.length_drop, List.length_take]; rfl)) ?_
      with_reducible refine (triglyphref03_ints.calls (rd l0_0 x6_1) (rd l1_0 x6_1) t289 _ A14.out).mono ?_
      rintro e w' ⟨rfl, ⟨nd, rfl⟩⟩
      refine ⟨_, rfl, ?_⟩
      refine hK.out _ _ ⟨(blk_cell BK284.out 0).trans rfl, (blk_cell BK284.out 1).trans rfl, (blk_cell BK285.out 0).trans rfl, (blk_cell BK285.out 1).trans rfl, ((HB.out.cell (World.block_lt_of_cell? w _ hw287_0)).trans hw287_0), ((HB.out.cell (World.block_lt_of_cell? w _ hw288_0)).trans hw288_0)⟩ (fun hHeld => ?_); clear hK K
      refine norm_ (a' := ?_) ?_ ?_; rotate_left
      ·show Act.put _ (some 36) _ = _
       simp only [Act.put, List.setIfInBounds_toArray, List.set_cons_zero, List.set_cons_succ, i64_w, i32_w]; rfl
      refine pure_ (i := 11) (N := some 5) (v := ?_) (a' := ?_) #[true, true, true, true, true, true, true, true, true, true, true, true] rfl rfl (any_of HT_.out (by kernel_rfl)) (fun _ _ _ h => h) (Or.inl ⟨by rfl, ?_⟩) ?_ ?_; rotate_left
      ·intro w'; go_simp; with_reducible rfl
      rotate_left
      ·simp only [Act.put, List.setIfInBounds_toArray, List.set_cons_zero, List.set_cons_succ, i64_w, i32_w]; rfl
      refine done_ (done_of HT_.out (by kernel_rfl)) ?_
      try go_wp2
      go_roundg k1
      case measure => have := HK1.out; omega
      case rel => exact ⟨(t289), (wrap64 (x6_1 + 1)), (rfl), (rfl), H', ⟨by have := HK1.out; omega⟩, ⟨gK BK284⟩, ⟨gK BK285⟩, ⟨by repeat first | exact gB HB | refine below_set ?_ GE284.out | refine below_set ?_ GE285.out⟩⟩
     ·rw [if_neg c11] at H
      have c11b0 : (x5_1 == 0) = false := beq_eq_false_iff_ne.mpr c11
      have c11b1 : (x5_1 != 0) = true := bne_iff_ne.mpr c11
      have H' := gA H
      clear H
      have hnb18 := NB284_285.out
      have hnc18 := NB285_284.out
      obtain ⟨hcz19_0, hcz19_1, hfz19_0, hfz19_1⟩ := gz2 BK284
      go_wp2
      all_goals (go_meet; (case rel => exact ⟨_, (x5_1), (by first | rfl | (simp; done) | (simp [*]; done) | (exfalso; simp_all; done) | (exfalso; simp_all; omega)), H', ⟨by have := HK1.out; first | omega | exact Nat.le_refl _⟩, ⟨gK BK284⟩, ⟨gK BK285⟩, ⟨gB HB⟩⟩))
    ·rw [if_neg c10] at H
     have c10b0 := decide_eq_false c10
     clear c10
     (first | rw [c10b0] | (simp only [i64_w, i32_w]; rw [c10b0]) | skip)
     have H' := gA H
     clear H
     have hnb20 := NB284_285.out
     have hnc20 := NB285_284.out
     obtain ⟨hcz21_0, hcz21_1, hfz21_0, hfz21_1⟩ := gz2 BK284
     go_wp2
     all_goals (go_meet; (case rel => exact ⟨_, (x5_1), (by first | rfl | (simp; done) | (simp [*]; done) | (exfalso; simp_all; done) | (exfalso; simp_all; omega)), H', ⟨by have := HK1.out; first | omega | exact Nat.le_refl _⟩, ⟨gK BK284⟩, ⟨gK BK285⟩, ⟨gB HB⟩⟩))
 case rest =>
  clear HC4
  try clear c1
  try clear c2
  try clear p2
  try clear q2
  try clear hx2
  try clear c4
  try clear p6
  try clear c7
  try clear c10
  try clear c10b0
  try clear c11
  try clear c11b0
  try clear c11b1
  try clear c12
  try clear c12b0
  try clear c13
  try clear c13b0
  try clear c15
  try clear c18
  try clear c20
  try clear hcz16_0
  try clear hcz16_1
  try clear hcz19_0
  try clear hcz19_1
  try clear hcz21_0
  try clear hcz21_1
  try clear hcz8_0
  try clear hcz8_1
  try clear hcz9_0
  try clear hcz9_1
  try clear hfz16_0
  try clear hfz16_1
  try clear hfz19_0
  try clear hfz19_1
  try clear hfz21_0
  try clear hfz21_1
  try clear hfz8_0
  try clear hfz8_1
  try clear hfz9_0
  try clear hfz9_1
  try clear hx287_0
  try clear hx288_0
  try clear p2
  try clear p287
  try clear p288
  try clear q287
  try clear q288
  obtain ⟨kq, x5_3, rfl, HA, HJ3, BK284, BK285, HB⟩ := hcut
  cases kq with
  | zero => exact absurd HA.out (by simp [triglyphref03_Cmp.j1])
  | succ kj3 =>
   have H := HA.out; clear HA
   simp only [triglyphref03_Cmp.j1] at H
   have H' := gA H
   clear H
   go_wp2
   go_loopg [5, 7] kj3 (fun kq v5 v7 w' => ∃ (x5_2 : Int) (x7_2 : Int), v5 = .int .i64 x5_2 ∧ v7 = .int .i64 x7_2 ∧ Aside0 (triglyphref03_Cmp.l1 kq x5_2 x7_2 l0_0 l0_1 l1_0 l1_1 = some r) ∧ Aside0 (kq ≤ kj3) ∧ Aside0 (w'.heap[gb284]? = some (.cells #[(.slice A0_0 l0_0.length c0_0), (.slice A0_1 l0_1.length c0_1)] 25 (0, 0))) ∧ Aside0 (w'.heap[gb285]? = some (.cells #[(.slice A1_0 l1_0.length c1_0), (.slice A1_1 l1_1.length c1_1)] 25 (0, 0))) ∧ Aside0 (Below w.heap.size w w'))
   case atStart => exact ⟨(x5_3), (0), (rfl), (rfl), H', ⟨Nat.le_refl _⟩, ⟨gK BK284⟩, ⟨gK BK285⟩, ⟨by repeat first | exact gB HB | refine below_set ?_ GE284.out | refine below_set ?_ GE285.out⟩⟩
   case round =>
    clear H'
    try clear c1
    try clear c2
    try clear p2
    try clear q2
    try clear hx2
    try clear c4
    try clear p6
    try clear c7
    try clear c10
    try clear c10b0
    try clear c11
    try clear c11b0
    try clear c11b1
    try clear c12
    try clear c12b0
    try clear c13
    try clear c13b0
    try clear c15
    try clear c18
    try clear c20
    try clear hcz16_0
    try clear hcz16_1
    try clear hcz19_0
    try clear hcz19_1
    try clear hcz21_0
    try clear hcz21_1
    try clear hcz8_0
    try clear hcz8_1
    try clear hcz9_0
    try clear hcz9_1
    try clear hfz16_0
    try clear hfz16_1
    try clear hfz19_0
    try clear hfz19_1
    try clear hfz21_0
    try clear hfz21_1
    try clear hfz8_0
    try clear hfz8_1
    try clear hfz9_0
    try clear hfz9_1
    try clear hx287_0
    try clear hx288_0
    try clear p2
    try clear p287
    try clear p288
    try clear p6
    try clear q2
    try clear q287
    try clear q288
    obtain ⟨x5_2, x7_2, rfl, rfl, HA, HK2, BK284, BK285, HB⟩ := hrel
    cases gk with
    | zero => exact absurd HA.out (by simp [triglyphref03_Cmp.l1])
    | succ k2 =>
     have H := HA.out; clear HA
     simp only [triglyphref03_Cmp.l1] at H
     by_cases c22 : x7_2 < (l0_1.length : Int)
     ·rw [if_pos c22] at H
      have c22b0 := decide_eq_true c22
      clear c22
      by_cases c23 : x7_2 < (l1_1.length : Int)
      ·rw [if_pos c23] at H
       have c23b0 := decide_eq_true c23
       clear c23
       by_cases c24 : x5_2 = 0
       ·rw [if_pos c24] at H
        have c24b0 : (x5_2 == 0) = true := beq_iff_eq.mpr c24
        have c24b1 : (x5_2 != 0) = false := bne_eq_false_iff_eq.mpr c24
        clear c24
        obtain ⟨c25, H⟩ := iS H
        have c25b0 := decide_eq_true c25
        clear c25
        replace H := Option.bind_eq_some_iff.mp H
        obtain ⟨t292, A260, H⟩ := H
        replace H : (triglyphref03_Cmp.l1 k2 t292 (wrap64 (x7_2 + 1)) l0_0 l0_1 l1_0 l1_1) = some r := H
        have A26 := gA A260
        clear A260
        have H' := gA H
        clear H
        have hnb27 := NB284_285.out
        have hnc27 := NB285_284.out
        obtain ⟨hcz28_0, hcz28_1, hfz28_0, hfz28_1⟩ := gz2 BK284
        obtain ⟨hcz29_0, hcz29_1, hfz29_0, hfz29_1⟩ := gz2 BK285
        try go_wp2
        replace BK284 := gA (blk_drew BK284.out); replace BK285 := gA (blk_drew BK285.out); replace HB := gA (below_drew1 HB.out)
        have p290 : 0 ≤ (x7_2 : Int) := of_decide_eq_true (by assumption)
        have q290 : x7_2 < (l0_1.length : Int) := of_decide_eq_true (by assumption)
        obtain ⟨ad290, A290_2, c290_2, e290, hx290_0, hx290_1, hx290_2, hl290_2, hi290_2⟩ := at_T43 HR0_1.out x7_2 p290 q290
        have hw290_2 := hx290_2
        have hw290_1 := hx290_1
        have hw290_0 := hx290_0
        cases e290
        replace hx290_0 := (HB.out.cell (World.block_lt_of_cell? w _ hx290_0)).trans hx290_0
        replace hx290_1 := (HB.out.cell (World.block_lt_of_cell? w _ hx290_1)).trans hx290_1
        replace hx290_2 := (HB.out.cell (World.block_lt_of_cell? w _ hx290_2)).trans hx290_2
        have HR290_2 := gA hi290_2
        have HC290_2 := gA hl290_2
        clear hi290_2 hl290_2
        replace p290 := eq_true p290
        replace q290 := eq_true q290
        have p291 : 0 ≤ (x7_2 : Int) := of_decide_eq_true (by assumption)
        have q291 : x7_2 < (l1_1.length : Int) := of_decide_eq_true (by assumption)
        obtain ⟨ad291, A291_2, c291_2, e291, hx291_0, hx291_1, hx291_2, hl291_2, hi291_2⟩ := at_T43 HR1_1.out x7_2 p291 q291
        have hw291_2 := hx291_2
        have hw291_1 := hx291_1
        have hw291_0 := hx291_0
        cases e291
        replace hx291_0 := (HB.out.cell (World.block_lt_of_cell? w _ hx291_0)).trans hx291_0
        replace hx291_1 := (HB.out.cell (World.block_lt_of_cell? w _ hx291_1)).trans hx291_1
        replace hx291_2 := (HB.out.cell (World.block_lt_of_cell? w _ hx291_2)).trans hx291_2
        have HR291_2 := gA hi291_2
        have HC291_2 := gA hl291_2
        clear hi291_2 hl291_2
        replace p291 := eq_true p291
        replace q291 := eq_true q291
        refine start_ (n := 12) (S := fun w' => w'.cell? ⟨gb284, 0, none⟩ = some (.slice A0_0 l0_0.length c0_0) ∧ w'.cell? ⟨gb284, 1, none⟩ = some (.slice (some ad290) l0_1.length c0_1) ∧ w'.cell? ⟨gb285, 0, none⟩ = some (.slice A1_0 l1_0.length c1_0) ∧ w'.cell? ⟨gb285, 1, none⟩ = some (.slice (some ad291) l1_1.length c1_1) ∧ w'.cell? (ad290.add ((x7_2).toNat * 3)) = some (.int .i64 ((rd_T43 l0_1 x7_2).f0)) ∧ w'.cell? ⟨(ad290.add ((x7_2).toNat * 3)).block, (ad290.add ((x7_2).toNat * 3)).off + 1, none⟩ = some (.int .i64 ((rd_T43 l0_1 x7_2).f1)) ∧ w'.cell? ⟨(ad290.add ((x7_2).toNat * 3)).block, (ad290.add ((x7_2).toNat * 3)).off + 2, none⟩ = some (.slice A290_2 ((rd_T43 l0_1 x7_2).f2).length c290_2) ∧ w'.cell? (ad291.add ((x7_2).toNat * 3)) = some (.int .i64 ((rd_T43 l1_1 x7_2).f0)) ∧ w'.cell? ⟨(ad291.add ((x7_2).toNat * 3)).block, (ad291.add ((x7_2).toNat * 3)).off + 1, none⟩ = some (.int .i64 ((rd_T43 l1_1 x7_2).f1)) ∧ w'.cell? ⟨(ad291.add ((x7_2).toNat * 3)).block, (ad291.add ((x7_2).toNat * 3)).off + 2, none⟩ = some (.slice A291_2 ((rd_T43 l1_1 x7_2).f2).length c291_2)) (ds := []) #[false, false, false, false, false, false, false, false, false, false, false, false] (by kernel_rfl) rfl rfl ⟨(blk_cell BK284.out 0).trans rfl, (blk_cell BK284.out 1).trans rfl, (blk_cell BK285.out 0).trans rfl, (blk_cell BK285.out 1).trans rfl, ((HB.out.cell (World.block_lt_of_cell? w _ hw290_0)).trans hw290_0), ((HB.out.cell (World.block_lt_of_cell? w _ hw290_1)).trans hw290_1), ((HB.out.cell (World.block_lt_of_cell? w _ hw290_2)).trans hw290_2), ((HB.out.cell (World.block_lt_of_cell? w _ hw291_0)).trans hw291_0), ((HB.out.cell (World.block_lt_of_cell? w _ hw291_1)).trans hw291_1), ((HB.out.cell (World.block_lt_of_cell? w _ hw291_2)).trans hw291_2)⟩ (fun hHeld => ?_); refine with_tabW triglyphref03_Cmp.tab9 triglyphref03_Cmp.bits9 (fun HT_ HW_ => ?_)
        generalize wr.drew = w30 at BK284 BK285 HB HR290_2 HR291_2 hx290_0 hx290_1 hx290_2 hx291_0 hx291_1 hx291_2 hHeld ⊢
        refine pure_ (i := 0) (N := some 55) (v := ?_) (a' := ?_) #[true, false, false, false, false, false, false, false, false, false, false, false] rfl rfl (any_of HT_.out (by kernel_rfl)) (fun _ _ _ h => h) (Or.inl ⟨by rfl, ?_⟩) ?_ ?_; rotate_left
        ·intro w'; go_simp; with_reducible rfl
        rotate_left
        ·simp only [Act.put, List.setIfInBounds_toArray, List.set_cons_zero, List.set_cons_succ, i64_w, i32_w]; rfl
        refine pure_ (i := 2) (N := some 57) (v := ?_) (a' := ?_) #[true, false, true, false, false, false, false, false, false, false, false, false] rfl rfl (any_of HT_.out (by kernel_rfl)) (fun _ _ _ h => h) (Or.inl ⟨by rfl, ?_⟩) ?_ ?_; rotate_left
        ·intro w'; go_simp; with_reducible rfl
        rotate_left
        ·simp only [Act.put, List.setIfInBounds_toArray, List.set_cons_zero, List.set_cons_succ, i64_w, i32_w]; rfl
        refine pure_ (i := 5) (N := some 60) (v := ?_) (a' := ?_) #[true, false, true, false, false, true, false, false, false, false, false, false] rfl rfl (any_of HT_.out (by kernel_rfl)) (fun _ _ _ h => h) (Or.inl ⟨by rfl, ?_⟩) ?_ ?_; rotate_left
        ·intro w'; go_simp; with_reducible rfl
        rotate_left
        ·simp only [Act.put, List.setIfInBounds_toArray, List.set_cons_zero, List.set_cons_succ, i64_w, i32_w]; rfl
        refine pure_ (i := 7) (N := some 62) (v := ?_) (a' := ?_) #[true, false, true, false, false, true, false, true, false, false, false, false] rfl rfl (any_of HT_.out (by kernel_rfl)) (fun _ _ _ h => h) (Or.inl ⟨by rfl, ?_⟩) ?_ ?_; rotate_left
        ·intro w'; go_simp; with_reducible rfl
        rotate_left
        ·simp only [Act.put, List.setIfInBounds_toArray, List.set_cons_zero, List.set_cons_succ, i64_w, i32_w]; rfl
        refine take_ (i := 1) (N := some 56) (v := ?_) (a' := ?_) #[true, true, true, false, false, true, false, true, false, false, false, false] rfl rfl (take_ofW HT_.out HW_.out (by kernel_rfl)) (fun _ _ _ h => h) (Or.inl ⟨by rfl, ?_⟩) hHeld ?_ ?_; rotate_left
        ·rintro w' ⟨s0, s1, s2, s3, s4, s5, s6, s7, s8, s9⟩; go_simp; with_reducible rfl
        rotate_left
        ·simp only [Act.put, List.setIfInBounds_toArray, List.set_cons_zero, List.set_cons_succ, i64_w, i32_w]; rfl
        refine pure_ (i := 3) (N := some 58) (v := ?_) (a' := ?_) #[true, true, true, true, false, true, false, true, false, false, false, false] rfl rfl (any_of HT_.out (by kernel_rfl)) (fun _ _ _ h => h) (Or.inl ⟨by rfl, ?_⟩) ?_ ?_; rotate_left
        ·intro w'; go_simp; with_reducible rfl
        rotate_left
        ·simp only [Act.put, List.setIfInBounds_toArray, List.set_cons_zero, List.set_cons_succ, i64_w, i32_w]; rfl
        refine take_ (i := 4) (N := some 59) (v := ?_) (a' := ?_) #[true, true, true, true, true, true, false, true, false, false, false, false] rfl rfl (take_ofW HT_.out HW_.out (by kernel_rfl)) (fun _ _ _ h => h) (Or.inl ⟨by rfl, ?_⟩) hHeld ?_ ?_; rotate_left
        ·rintro w' ⟨s0, s1, s2, s3, s4, s5, s6, s7, s8, s9⟩; go_simp; with_reducible rfl
        rotate_left
        ·simp only [Act.put, List.setIfInBounds_toArray, List.set_cons_zero, List.set_cons_succ, i64_w, i32_w]; rfl
        refine take_ (i := 6) (N := some 61) (v := ?_) (a' := ?_) #[true, true, true, true, true, true, true, true, false, false, false, false] rfl rfl (take_ofW HT_.out HW_.out (by kernel_rfl)) (fun _ _ _ h => h) (Or.inl ⟨by rfl, ?_⟩) hHeld ?_ ?_; rotate_left
        ·rintro w' ⟨s0, s1, s2, s3, s4, s5, s6, s7, s8, s9⟩; go_simp; with_reducible rfl
        rotate_left
        ·simp only [Act.put, List.setIfInBounds_toArray, List.set_cons_zero, List.set_cons_succ, i64_w, i32_w]; rfl
        refine pure_ (i := 8) (N := some 63) (v := ?_) (a' := ?_) #[true, true, true, true, true, true, true, true, true, false, false, false] rfl rfl (any_of HT_.out (by kernel_rfl)) (fun _ _ _ h => h) (Or.inl ⟨by rfl, ?_⟩) ?_ ?_; rotate_left
        ·intro w'; go_simp; with_reducible rfl
        rotate_left
        ·simp only [Act.put, List.setIfInBounds_toArray, List.set_cons_zero, List.set_cons_succ, i64_w, i32_w]; rfl
        refine take_ (i := 9) (N := some 64) (v := ?_) (a' := ?_) #[true, true, true, true, true, true, true, true, true, true, false, false] rfl rfl (take_ofW HT_.out HW_.out (by kernel_rfl)) (fun _ _ _ h => h) (Or.inl ⟨by rfl, ?_⟩) hHeld ?_ ?_; rotate_left
        ·rintro w' ⟨s0, s1, s2, s3, s4, s5, s6, s7, s8, s9⟩; go_simp; with_reducible rfl
        rotate_left
        ·simp only [Act.put, List.setIfInBounds_toArray, List.set_cons_zero, List.set_cons_succ, i64_w, i32_w]; rfl
        refine one_ (i := 10) (N := some 65) #[true, true, true, true, true, true, true, true, true, true, true, false] rfl rfl (one_of HT_.out (by kernel_rfl)) (by decide) (fun K hK => ?_)
        refine goes_ Try.func20 (by kernel_rfl) rfl #[.agg #[.int .i64 ((rd_T43 l0_1 x7_2).f0), .int .i64 ((rd_T43 l0_1 x7_2).f1), .slice A290_2 ((rd_T43 l0_1 x7_2).f2).length c290_2], .agg #[.int .i64 ((rd_T43 l1_1 x7_2).f0), .int .i64 ((rd_T43 l1_1 x7_2).f1), .slice A291_2 ((rd_T43 l1_1 x7_2).f2).length c291_2]] (by rfl) rfl rfl (by (try simp only [List.map_toArray, List.map_cons, List.map_nil]); first | done | rfl | (simp only [List.length_drop, List.length_take]; rfl)) ?_
        with_reducible refine (ih_triglyphref03_Cell k2 (by have := HJ3.out; have := HK2.out; omega) ((rd_T43 l0_1 x7_2).f0) ((rd_T43 l0_1 x7_2).f1) _ _ ((rd_T43 l0_1 x7_2).f2) ((rd_T43 l1_1 x7_2).f0) ((rd_T43 l1_1 x7_2).f1) _ _ ((rd_T43 l1_1 x7_2).f2) t292 _ ?side1 ?side2 ?side3 ?side4 A26.out).mono ?_
        (case side1 => exact gC HR290_2 HB)
        (case side2 => exact HC290_2.out)
        (case side3 => exact gC HR291_2 HB)
        (case side4 => exact HC291_2.out)
        rintro e w31 ⟨rfl, hb⟩
        refine ⟨_, rfl, ?_⟩
        replace BK284 := gA (blk_below (gK BK284) hb); replace BK285 := gA (blk_below (gK BK285) hb); replace HB := gA (below_step (gB HB) hb); (try clear hb)
        refine hK.out _ _ ⟨(blk_cell BK284.out 0).trans rfl, (blk_cell BK284.out 1).trans rfl, (blk_cell BK285.out 0).trans rfl, (blk_cell BK285.out 1).trans rfl, ((HB.out.cell (World.block_lt_of_cell? w _ hw290_0)).trans hw290_0), ((HB.out.cell (World.block_lt_of_cell? w _ hw290_1)).trans hw290_1), ((HB.out.cell (World.block_lt_of_cell? w _ hw290_2)).trans hw290_2), ((HB.out.cell (World.block_lt_of_cell? w _ hw291_0)).trans hw291_0), ((HB.out.cell (World.block_lt_of_cell? w _ hw291_1)).trans hw291_1), ((HB.out.cell (World.block_lt_of_cell? w _ hw291_2)).trans hw291_2)⟩ (fun hHeld => ?_); clear hK K
        refine norm_ (a' := ?_) ?_ ?_; rotate_left
        ·show Act.put _ (some 65) _ = _
         simp only [Act.put, List.setIfInBounds_toArray, List.set_cons_zero, List.set_cons_succ, i64_w, i32_w]; rfl
        refine pure_ (i := 11) (N := some 5) (v := ?_) (a' := ?_) #[true, true, true, true, true, true, true, true, true, true, true, true] rfl rfl (any_of HT_.out (by kernel_rfl)) (fun _ _ _ h => h) (Or.inl ⟨by rfl, ?_⟩) ?_ ?_; rotate_left
        ·intro w'; go_simp; with_reducible rfl
        rotate_left
        ·simp only [Act.put, List.setIfInBounds_toArray, List.set_cons_zero, List.set_cons_succ, i64_w, i32_w]; rfl
        refine done_ (done_of HT_.out (by kernel_rfl)) ?_
        try go_wp2
        go_roundg k2
        case measure => have := HJ3.out; have := HK2.out; omega
        case rel => exact ⟨(t292), (wrap64 (x7_2 + 1)), (rfl), (rfl), H', ⟨by have := HJ3.out; have := HK2.out; omega⟩, ⟨gK BK284⟩, ⟨gK BK285⟩, ⟨gB HB⟩⟩
       ·rw [if_neg c24] at H
        have c24b0 : (x5_2 == 0) = false := beq_eq_false_iff_ne.mpr c24
        have c24b1 : (x5_2 != 0) = true := bne_iff_ne.mpr c24
        obtain rfl := Option.some.inj H
        have hnb32 := NB284_285.out
        have hnc32 := NB285_284.out
        obtain ⟨hcz33_0, hcz33_1, hfz33_0, hfz33_1⟩ := gz2 BK284
        obtain ⟨hcz34_0, hcz34_1, hfz34_0, hfz34_1⟩ := gz2 BK285
        go_wp2
        go_ret
        exact ⟨rfl, by repeat first | exact gB HB | refine below_set ?_ GE284.out | refine below_set ?_ GE285.out⟩
      ·rw [if_neg c23] at H
       have c23b0 := decide_eq_false c23
       clear c23
       by_cases c35 : x5_2 = 0
       ·rw [if_pos c35] at H
        have c35b0 : (x5_2 == 0) = true := beq_iff_eq.mpr c35
        have c35b1 : (x5_2 != 0) = false := bne_eq_false_iff_eq.mpr c35
        clear c35
        replace H := Option.bind_eq_some_iff.mp H
        obtain ⟨t293, A360, H⟩ := H
        replace H : (some t293) = some r := H
        have A36 := gA A360
        clear A360
        obtain rfl := Option.some.inj H
        have hnb37 := NB284_285.out
        have hnc37 := NB285_284.out
        obtain ⟨hcz38_0, hcz38_1, hfz38_0, hfz38_1⟩ := gz2 BK284
        obtain ⟨hcz39_0, hcz39_1, hfz39_0, hfz39_1⟩ := gz2 BK285
        go_wp2_with (first | ((with_reducible refine gate_callee (f := 44) rfl ?_); refine goesL_ (some 74) rfl rfl Try.func44 (by kernel_rfl) rfl #[.int .i64 (l0_1.length : Int), .int .i64 (l1_1.length : Int)] rfl (by (try simp only [List.map_toArray, List.map_cons, List.map_nil]); first | done | rfl | (simp only [List.length_drop, List.length_take]; rfl)) ?_; (with_reducible refine (triglyphref03_ints.calls (l0_1.length : Int) (l1_1.length : Int) t293 _ A36.out).mono ?_); rintro e w' ⟨rfl, ⟨nd, rfl⟩⟩; refine ⟨_, rfl, ?_⟩))
        go_ret
        exact ⟨rfl, by repeat first | exact gB HB | refine below_set ?_ GE284.out | refine below_set ?_ GE285.out⟩
       ·rw [if_neg c35] at H
        have c35b0 : (x5_2 == 0) = false := beq_eq_false_iff_ne.mpr c35
        have c35b1 : (x5_2 != 0) = true := bne_iff_ne.mpr c35
        obtain rfl := Option.some.inj H
        have hnb40 := NB284_285.out
        have hnc40 := NB285_284.out
        obtain ⟨hcz41_0, hcz41_1, hfz41_0, hfz41_1⟩ := gz2 BK284
        obtain ⟨hcz42_0, hcz42_1, hfz42_0, hfz42_1⟩ := gz2 BK285
        go_wp2
        go_ret
        exact ⟨rfl, by repeat first | exact gB HB | refine below_set ?_ GE284.out | refine below_set ?_ GE285.out⟩
     ·rw [if_neg c22] at H
      have c22b0 := decide_eq_false c22
      clear c22
      by_cases c43 : x5_2 = 0
      ·rw [if_pos c43] at H
       have c43b0 : (x5_2 == 0) = true := beq_iff_eq.mpr c43
       have c43b1 : (x5_2 != 0) = false := bne_eq_false_iff_eq.mpr c43
       clear c43
       replace H := Option.bind_eq_some_iff.mp H
       obtain ⟨t294, A440, H⟩ := H
       replace H : (some t294) = some r := H
       have A44 := gA A440
       clear A440
       obtain rfl := Option.some.inj H
       have hnb45 := NB284_285.out
       have hnc45 := NB285_284.out
       obtain ⟨hcz46_0, hcz46_1, hfz46_0, hfz46_1⟩ := gz2 BK284
       obtain ⟨hcz47_0, hcz47_1, hfz47_0, hfz47_1⟩ := gz2 BK285
       go_wp2_with (first | ((with_reducible refine gate_callee (f := 44) rfl ?_); refine goesL_ (some 74) rfl rfl Try.func44 (by kernel_rfl) rfl #[.int .i64 (l0_1.length : Int), .int .i64 (l1_1.length : Int)] rfl (by (try simp only [List.map_toArray, List.map_cons, List.map_nil]); first | done | rfl | (simp only [List.length_drop, List.length_take]; rfl)) ?_; (with_reducible refine (triglyphref03_ints.calls (l0_1.length : Int) (l1_1.length : Int) t294 _ A44.out).mono ?_); rintro e w' ⟨rfl, ⟨nd, rfl⟩⟩; refine ⟨_, rfl, ?_⟩))
       go_ret
       exact ⟨rfl, by repeat first | exact gB HB | refine below_set ?_ GE284.out | refine below_set ?_ GE285.out⟩
      ·rw [if_neg c43] at H
       have c43b0 : (x5_2 == 0) = false := beq_eq_false_iff_ne.mpr c43
       have c43b1 : (x5_2 != 0) = true := bne_iff_ne.mpr c43
       obtain rfl := Option.some.inj H
       have hnb48 := NB284_285.out
       have hnc48 := NB285_284.out
       obtain ⟨hcz49_0, hcz49_1, hfz49_0, hfz49_1⟩ := gz2 BK284
       go_wp2
       go_ret
       exact ⟨rfl, by repeat first | exact gB HB | refine below_set ?_ GE284.out | refine below_set ?_ GE285.out⟩
theorem scc20.calls (k : Nat) : (∀ (a0_0 : Int) (a0_1 : Int) (A0_2 : Option Addr) (c0_2 : Nat) (l0_2 : List (S25)) (a1_0 : Int) (a1_1 : Int) (A1_2 : Option Addr) (c1_2 : Nat) (l1_2 : List (S25)) (r : Int) (w : World) (hr0_2 : Kd.C k25 w A0_2 l0_2.length l0_2) (hc0_2 : l0_2.length ≤ c0_2) (hr1_2 : Kd.C k25 w A1_2 l1_2.length l1_2) (hc1_2 : l1_2.length ≤ c1_2) (h : triglyphref03_Cell.f k a0_0 a0_1 l0_2 a1_0 a1_1 l1_2 = some r),
  Calls Try.prog 20 #[.agg #[.int .i64 a0_0, .int .i64 a0_1, .slice A0_2 l0_2.length c0_2], .agg #[.int .i64 a1_0, .int .i64 a1_1, .slice A1_2 l1_2.length c1_2]] w fun e w' => e = .returned (.int .i64 r) ∧ Below w.heap.size w w') ∧ (∀ (A0_0 : Option Addr) (c0_0 : Nat) (l0_0 : List Int) (A0_1 : Option Addr) (c0_1 : Nat) (l0_1 : List (S43)) (A1_0 : Option Addr) (c1_0 : Nat) (l1_0 : List Int) (A1_1 : Option Addr) (c1_1 : Nat) (l1_1 : List (S43)) (r : Int) (w : World) (hr0_0 : Kd.C (Kd.int .i64) w A0_0 l0_0.length l0_0) (hc0_0 : l0_0.length ≤ c0_0) (hr0_1 : Kd.C k43 w A0_1 l0_1.length l0_1) (hc0_1 : l0_1.length ≤ c0_1) (hr1_0 : Kd.C (Kd.int .i64) w A1_0 l1_0.length l1_0) (hc1_0 : l1_0.length ≤ c1_0) (hr1_1 : Kd.C k43 w A1_1 l1_1.length l1_1) (hc1_1 : l1_1.length ≤ c1_1) (h : triglyphref03_Cmp.f k l0_0 l0_1 l1_0 l1_1 = some r),
  Calls Try.prog 40 #[.agg #[.slice A0_0 l0_0.length c0_0, .slice A0_1 l0_1.length c0_1], .agg #[.slice A1_0 l1_0.length c1_0, .slice A1_1 l1_1.length c1_1]] w fun e w' => e = .returned (.int .i64 r) ∧ Below w.heap.size w w') := by
 induction k using Nat.strongRecOn with
 | _ k ih =>
 exact ⟨triglyphref03_Cell.step k (fun k_ h_ => (ih k_ h_).1) (fun k_ h_ => (ih k_ h_).2), triglyphref03_Cmp.step k (fun k_ h_ => (ih k_ h_).1) (fun k_ h_ => (ih k_ h_).2)⟩
theorem triglyphref03_Cell.calls (k : Nat) : ∀ (a0_0 : Int) (a0_1 : Int) (A0_2 : Option Addr) (c0_2 : Nat) (l0_2 : List (S25)) (a1_0 : Int) (a1_1 : Int) (A1_2 : Option Addr) (c1_2 : Nat) (l1_2 : List (S25)) (r : Int) (w : World) (hr0_2 : Kd.C k25 w A0_2 l0_2.length l0_2) (hc0_2 : l0_2.length ≤ c0_2) (hr1_2 : Kd.C k25 w A1_2 l1_2.length l1_2) (hc1_2 : l1_2.length ≤ c1_2) (h : triglyphref03_Cell.f k a0_0 a0_1 l0_2 a1_0 a1_1 l1_2 = some r),
  Calls Try.prog 20 #[.agg #[.int .i64 a0_0, .int .i64 a0_1, .slice A0_2 l0_2.length c0_2], .agg #[.int .i64 a1_0, .int .i64 a1_1, .slice A1_2 l1_2.length c1_2]] w fun e w' => e = .returned (.int .i64 r) ∧ Below w.heap.size w w' := (scc20.calls k).1
theorem triglyphref03_Cmp.calls (k : Nat) : ∀ (A0_0 : Option Addr) (c0_0 : Nat) (l0_0 : List Int) (A0_1 : Option Addr) (c0_1 : Nat) (l0_1 : List (S43)) (A1_0 : Option Addr) (c1_0 : Nat) (l1_0 : List Int) (A1_1 : Option Addr) (c1_1 : Nat) (l1_1 : List (S43)) (r : Int) (w : World) (hr0_0 : Kd.C (Kd.int .i64) w A0_0 l0_0.length l0_0) (hc0_0 : l0_0.length ≤ c0_0) (hr0_1 : Kd.C k43 w A0_1 l0_1.length l0_1) (hc0_1 : l0_1.length ≤ c0_1) (hr1_0 : Kd.C (Kd.int .i64) w A1_0 l1_0.length l1_0) (hc1_0 : l1_0.length ≤ c1_0) (hr1_1 : Kd.C k43 w A1_1 l1_1.length l1_1) (hc1_1 : l1_1.length ≤ c1_1) (h : triglyphref03_Cmp.f k l0_0 l0_1 l1_0 l1_1 = some r),
  Calls Try.prog 40 #[.agg #[.slice A0_0 l0_0.length c0_0, .slice A0_1 l0_1.length c0_1], .agg #[.slice A1_0 l1_0.length c1_0, .slice A1_1 l1_1.length c1_1]] w fun e w' => e = .returned (.int .i64 r) ∧ Below w.heap.size w w' := (scc20.calls k).2
end Go.Proofs.Ytahgfebdjjfkhaa.P
