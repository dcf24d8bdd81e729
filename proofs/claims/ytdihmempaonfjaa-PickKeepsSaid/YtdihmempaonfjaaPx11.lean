/- Written by a program of this session: the functions that the laws reach, what each comes to, and each law as it is stated, for every input. No condition. -/
import Derived.Test.YtdihmempaonfjaaPx0
import Derived.Test.YtdihmempaonfjaaPx10
namespace Go.Proofs.Ytdihmempaonfjaa.P
open Go.RowKit Go.Proofs.YtdihmempaonfjaaW.PrintWords Go.Proofs.YtdihmempaonfjaaW.PrintLast Go.Proofs.YtdihmempaonfjaaW.PrintMore
attribute [local go_sem] max2_int min2_int max_two min_two max_three min_three max_four min_four   -- for this text's walks alone
set_option linter.unusedVariables false
set_option linter.unusedSimpArgs false
mutual
def triglyphref03_Cell.j0 : Nat → Int → Int → Int → List (S25) → Int → Int → List (S25) → Option (Int)
 | 0, _, _, _, _, _, _, _ => none
 | k + 1, x5, x394000, x394001, x394002, x395000, x395001, x395002 => if x5 = 0 then (if (x394002.length : Int) > 0 then (triglyphref03_Cell.j1 k x5 (decide ((x395002.length : Int) > 0)) x394000 x394001 x394002 x395000 x395001 x395002) else (triglyphref03_Cell.j1 k x5 false x394000 x394001 x394002 x395000 x395001 x395002)) else (triglyphref03_Cell.j1 k x5 false x394000 x394001 x394002 x395000 x395001 x395002)
def triglyphref03_Cell.j1 : Nat → Int → Bool → Int → Int → List (S25) → Int → Int → List (S25) → Option (Int)
 | 0, _, _, _, _, _, _, _, _ => none
 | k + 1, x5, x31, x394000, x394001, x394002, x395000, x395001, x395002 => if x31 = true then (if 0 < (x394002.length : Int) then (if 0 < (x395002.length : Int) then ((triglyphref03_Cmp.f k ((rd_T25 x394002 0).f0) ((rd_T25 x394002 0).f1) ((rd_T25 x395002 0).f0) ((rd_T25 x395002 0).f1)).bind fun t399 => (some t399)) else (none)) else (none)) else (if x5 = 0 then ((triglyphref03_ints.f (x394002.length : Int) (x395002.length : Int)).bind fun t400 => (some t400)) else (some x5))
def triglyphref03_Cell.f : Nat → Int → Int → List (S25) → Int → Int → List (S25) → Option (Int)
 | 0, _, _, _, _, _, _ => none
 | k + 1, a0_0, a0_1, l0_2, a1_0, a1_1, l1_2 => (triglyphref03_ints.f a0_0 a1_0).bind fun t395 => (if t395 = 0 then ((triglyphref03_ints.f a0_1 a1_1).bind fun t396 => (triglyphref03_Cell.j0 k t396 a0_0 a0_1 l0_2 a1_0 a1_1 l1_2)) else (triglyphref03_Cell.j0 k t395 a0_0 a0_1 l0_2 a1_0 a1_1 l1_2))
def triglyphref03_Cmp.j1 : Nat → Int → List Int → List (S45) → List Int → List (S45) → Option (Int)
 | 0, _, _, _, _, _ => none
 | k + 1, x5, x402000, x402001, x403000, x403001 => triglyphref03_Cmp.l1 k x5 0 x402000 x402001 x403000 x403001
def triglyphref03_Cmp.l1 : Nat → Int → Int → List Int → List (S45) → List Int → List (S45) → Option (Int)
 | 0, _, _, _, _, _, _ => none
 | k + 1, x5, x7, x402000, x402001, x403000, x403001 => if x7 < (x402001.length : Int) then (if x7 < (x403001.length : Int) then (if x5 = 0 then (if 0 ≤ x7 then ((triglyphref03_Cell.f k ((rd_T45 x402001 x7).f0) ((rd_T45 x402001 x7).f1) ((rd_T45 x402001 x7).f2) ((rd_T45 x403001 x7).f0) ((rd_T45 x403001 x7).f1) ((rd_T45 x403001 x7).f2)).bind fun t409 => (triglyphref03_Cmp.l1 k t409 (wrap64 (x7 + 1)) x402000 x402001 x403000 x403001)) else (none)) else (some x5)) else (if x5 = 0 then ((triglyphref03_ints.f (x402001.length : Int) (x403001.length : Int)).bind fun t410 => (some t410)) else (some x5))) else (if x5 = 0 then ((triglyphref03_ints.f (x402001.length : Int) (x403001.length : Int)).bind fun t411 => (some t411)) else (some x5))
def triglyphref03_Cmp.l0 : Nat → Int → Int → List Int → List (S45) → List Int → List (S45) → Option (Int)
 | 0, _, _, _, _, _, _ => none
 | k + 1, x5, x6, x402000, x402001, x403000, x403001 => if x6 < (x402000.length : Int) then (if x5 = 0 then (if 0 ≤ x6 then (if x6 < (x403000.length : Int) then ((triglyphref03_ints.f (rd x402000 x6) (rd x403000 x6)).bind fun t406 => (triglyphref03_Cmp.l0 k t406 (wrap64 (x6 + 1)) x402000 x402001 x403000 x403001)) else (none)) else (none)) else (triglyphref03_Cmp.j1 k x5 x402000 x402001 x403000 x403001)) else (triglyphref03_Cmp.j1 k x5 x402000 x402001 x403000 x403001)
def triglyphref03_Cmp.f : Nat → List Int → List (S45) → List Int → List (S45) → Option (Int)
 | 0, _, _, _, _ => none
 | k + 1, l0_0, l0_1, l1_0, l1_1 => (triglyphref03_ints.f (l0_0.length : Int) (l1_0.length : Int)).bind fun t403 => (triglyphref03_Cmp.l0 k t403 0 l0_0 l0_1 l1_0 l1_1)
end
theorem scc57.mono_l : ∀ k, (∀ y0 y1 y2 y3 y4 y5, LeO (triglyphref03_Cell.f k y0 y1 y2 y3 y4 y5) (triglyphref03_Cell.f (k + 1) y0 y1 y2 y3 y4 y5)) ∧ (∀ y0 y1 y2 y3 y4 y5 y6, LeO (triglyphref03_Cell.j0 k y0 y1 y2 y3 y4 y5 y6) (triglyphref03_Cell.j0 (k + 1) y0 y1 y2 y3 y4 y5 y6)) ∧ (∀ y0 y1 y2 y3 y4 y5 y6 y7, LeO (triglyphref03_Cell.j1 k y0 y1 y2 y3 y4 y5 y6 y7) (triglyphref03_Cell.j1 (k + 1) y0 y1 y2 y3 y4 y5 y6 y7)) ∧ (∀ y0 y1 y2 y3, LeO (triglyphref03_Cmp.f k y0 y1 y2 y3) (triglyphref03_Cmp.f (k + 1) y0 y1 y2 y3)) ∧ (∀ y0 y1 y2 y3 y4, LeO (triglyphref03_Cmp.j1 k y0 y1 y2 y3 y4) (triglyphref03_Cmp.j1 (k + 1) y0 y1 y2 y3 y4)) ∧ (∀ y0 y1 y2 y3 y4 y5, LeO (triglyphref03_Cmp.l1 k y0 y1 y2 y3 y4 y5) (triglyphref03_Cmp.l1 (k + 1) y0 y1 y2 y3 y4 y5)) ∧ (∀ y0 y1 y2 y3 y4 y5, LeO (triglyphref03_Cmp.l0 k y0 y1 y2 y3 y4 y5) (triglyphref03_Cmp.l0 (k + 1) y0 y1 y2 y3 y4 y5))
 | 0 => ⟨fun _ _ _ _ _ _ r h => by simp [triglyphref03_Cell.f] at h, fun _ _ _ _ _ _ _ r h => by simp [triglyphref03_Cell.j0] at h, fun _ _ _ _ _ _ _ _ r h => by simp [triglyphref03_Cell.j1] at h, fun _ _ _ _ r h => by simp [triglyphref03_Cmp.f] at h, fun _ _ _ _ _ r h => by simp [triglyphref03_Cmp.j1] at h, fun _ _ _ _ _ _ r h => by simp [triglyphref03_Cmp.l1] at h, fun _ _ _ _ _ _ r h => by simp [triglyphref03_Cmp.l0] at h⟩
 | k + 1 => by
  obtain ⟨ih0, ih1, ih2, ih3, ih4, ih5, ih6⟩ := scc57.mono_l k
  refine ⟨?_, ?_, ?_, ?_, ?_, ?_, ?_⟩
  ·intro y0 y1 y2 y3 y4 y5
   unfold triglyphref03_Cell.f
   repeat' first
   | (with_reducible exact ih0 _ _ _ _ _ _)
   | (with_reducible exact ih1 _ _ _ _ _ _ _)
   | (with_reducible exact ih2 _ _ _ _ _ _ _ _)
   | (with_reducible exact ih3 _ _ _ _)
   | (with_reducible exact ih4 _ _ _ _ _)
   | (with_reducible exact ih5 _ _ _ _ _ _)
   | (with_reducible exact ih6 _ _ _ _ _ _)
   | (with_reducible exact LeO.refl _)
   | (with_reducible exact LeO.none _)
   | (with_reducible refine LeO.ite ?_ ?_)
   | (with_reducible refine LeO.bind ?_ (fun _ => ?_))










  ·intro y0 y1 y2 y3 y4 y5 y6
   unfold triglyphref03_Cell.j0
   repeat' first
   | (with_reducible exact ih0 _ _ _ _ _ _)
   | (with_reducible exact ih1 _ _ _ _ _ _ _)
   | (with_reducible exact ih2 _ _ _ _ _ _ _ _)
   | (with_reducible exact ih3 _ _ _ _)
   | (with_reducible exact ih4 _ _ _ _ _)
   | (with_reducible exact ih5 _ _ _ _ _ _)
   | (with_reducible exact ih6 _ _ _ _ _ _)
   | (with_reducible exact LeO.refl _)
   | (with_reducible exact LeO.none _)
   | (with_reducible refine LeO.ite ?_ ?_)
   | (with_reducible refine LeO.bind ?_ (fun _ => ?_))










  ·intro y0 y1 y2 y3 y4 y5 y6 y7
   unfold triglyphref03_Cell.j1
   repeat' first
   | (with_reducible exact ih0 _ _ _ _ _ _)
   | (with_reducible exact ih1 _ _ _ _ _ _ _)
   | (with_reducible exact ih2 _ _ _ _ _ _ _ _)
   | (with_reducible exact ih3 _ _ _ _)
   | (with_reducible exact ih4 _ _ _ _ _)
   | (with_reducible exact ih5 _ _ _ _ _ _)
   | (with_reducible exact ih6 _ _ _ _ _ _)
   | (with_reducible exact LeO.refl _)
   | (with_reducible exact LeO.none _)
   | (with_reducible refine LeO.ite ?_ ?_)
   | (with_reducible refine LeO.bind ?_ (fun _ => ?_))










  ·intro y0 y1 y2 y3
   unfold triglyphref03_Cmp.f
   repeat' first
   | (with_reducible exact ih0 _ _ _ _ _ _)
   | (with_reducible exact ih1 _ _ _ _ _ _ _)
   | (with_reducible exact ih2 _ _ _ _ _ _ _ _)
   | (with_reducible exact ih3 _ _ _ _)
   | (with_reducible exact ih4 _ _ _ _ _)
   | (with_reducible exact ih5 _ _ _ _ _ _)
   | (with_reducible exact ih6 _ _ _ _ _ _)
   | (with_reducible exact LeO.refl _)
   | (with_reducible exact LeO.none _)
   | (with_reducible refine LeO.ite ?_ ?_)
   | (with_reducible refine LeO.bind ?_ (fun _ => ?_))










  ·intro y0 y1 y2 y3 y4
   unfold triglyphref03_Cmp.j1
   repeat' first
   | (with_reducible exact ih0 _ _ _ _ _ _)
   | (with_reducible exact ih1 _ _ _ _ _ _ _)
   | (with_reducible exact ih2 _ _ _ _ _ _ _ _)
   | (with_reducible exact ih3 _ _ _ _)
   | (with_reducible exact ih4 _ _ _ _ _)
   | (with_reducible exact ih5 _ _ _ _ _ _)
   | (with_reducible exact ih6 _ _ _ _ _ _)
   | (with_reducible exact LeO.refl _)
   | (with_reducible exact LeO.none _)
   | (with_reducible refine LeO.ite ?_ ?_)
   | (with_reducible refine LeO.bind ?_ (fun _ => ?_))










  ·intro y0 y1 y2 y3 y4 y5
   unfold triglyphref03_Cmp.l1
   repeat' first
   | (with_reducible exact ih0 _ _ _ _ _ _)
   | (with_reducible exact ih1 _ _ _ _ _ _ _)
   | (with_reducible exact ih2 _ _ _ _ _ _ _ _)
   | (with_reducible exact ih3 _ _ _ _)
   | (with_reducible exact ih4 _ _ _ _ _)
   | (with_reducible exact ih5 _ _ _ _ _ _)
   | (with_reducible exact ih6 _ _ _ _ _ _)
   | (with_reducible exact LeO.refl _)
   | (with_reducible exact LeO.none _)
   | (with_reducible refine LeO.ite ?_ ?_)
   | (with_reducible refine LeO.bind ?_ (fun _ => ?_))










  ·intro y0 y1 y2 y3 y4 y5
   unfold triglyphref03_Cmp.l0
   repeat' first
   | (with_reducible exact ih0 _ _ _ _ _ _)
   | (with_reducible exact ih1 _ _ _ _ _ _ _)
   | (with_reducible exact ih2 _ _ _ _ _ _ _ _)
   | (with_reducible exact ih3 _ _ _ _)
   | (with_reducible exact ih4 _ _ _ _ _)
   | (with_reducible exact ih5 _ _ _ _ _ _)
   | (with_reducible exact ih6 _ _ _ _ _ _)
   | (with_reducible exact LeO.refl _)
   | (with_reducible exact LeO.none _)
   | (with_reducible refine LeO.ite ?_ ?_)
   | (with_reducible refine LeO.bind ?_ (fun _ => ?_))
theorem triglyphref03_Cell.mono : ∀ a0 a1 a2 a3 a4 a5 k, LeO (triglyphref03_Cell.f k a0 a1 a2 a3 a4 a5) (triglyphref03_Cell.f (k + 1) a0 a1 a2 a3 a4 a5) := by
 intro a0 a1 a2 a3 a4 a5 k
 obtain ⟨ih0, ih1, ih2, ih3, ih4, ih5, ih6⟩ := scc57.mono_l k
 exact ih0 a0 a1 a2 a3 a4 a5
theorem triglyphref03_Cmp.mono : ∀ a0 a1 a2 a3 k, LeO (triglyphref03_Cmp.f k a0 a1 a2 a3) (triglyphref03_Cmp.f (k + 1) a0 a1 a2 a3) := by
 intro a0 a1 a2 a3 k
 obtain ⟨ih0, ih1, ih2, ih3, ih4, ih5, ih6⟩ := scc57.mono_l k
 exact ih3 a0 a1 a2 a3
def triglyphref03_Cell.T5 : Bool × List (List Nat × List Nat) := (true, [([], []), ([0], [0]), ([1], [1]), ([2], [2]), ([], []), ([4], [4]), ([5], [5]), ([6], [6]), ([3, 7], [3, 7]), ([8, 8, 0, 1, 2, 3, 4, 5, 6, 7, 8], [8])])
def triglyphref03_Cell.B5 : List Nat := [0, 1, 3, 7, 0, 16, 48, 112, 255, 511]
theorem triglyphref03_Cell.tab5 : rtab .any (opsOf Try.f57 5) = triglyphref03_Cell.T5 := by kernel_rfl
theorem triglyphref03_Cell.bits5 : waitsOk triglyphref03_Cell.T5.2 triglyphref03_Cell.B5 = true := by kernel_rfl
set_option maxHeartbeats 8000000 in
set_option maxRecDepth 100000 in
theorem triglyphref03_Cell.step (k : Nat) (ih : ∀ k_, k_ < k → ∀ (a0_0 : Int) (a0_1 : Int) (A0_2 : Option Addr) (c0_2 : Nat) (l0_2 : List (S25)) (a1_0 : Int) (a1_1 : Int) (A1_2 : Option Addr) (c1_2 : Nat) (l1_2 : List (S25)) (r : Int) (w : World) (hr0_2 : Kd.C k25 w A0_2 l0_2.length l0_2) (hc0_2 : l0_2.length ≤ c0_2) (hr1_2 : Kd.C k25 w A1_2 l1_2.length l1_2) (hc1_2 : l1_2.length ≤ c1_2) (h : triglyphref03_Cell.f k_ a0_0 a0_1 l0_2 a1_0 a1_1 l1_2 = some r),
  Calls Try.prog 57 #[.agg #[.int .i64 a0_0, .int .i64 a0_1, .slice A0_2 l0_2.length c0_2], .agg #[.int .i64 a1_0, .int .i64 a1_1, .slice A1_2 l1_2.length c1_2]] w fun e w' => e = .returned (.int .i64 r) ∧ Below w.heap.size w w') (ih_triglyphref03_Cmp : ∀ k_, k_ < k → ∀ (A0_0 : Option Addr) (c0_0 : Nat) (l0_0 : List Int) (A0_1 : Option Addr) (c0_1 : Nat) (l0_1 : List (S45)) (A1_0 : Option Addr) (c1_0 : Nat) (l1_0 : List Int) (A1_1 : Option Addr) (c1_1 : Nat) (l1_1 : List (S45)) (r : Int) (w : World) (hr0_0 : Kd.C (Kd.int .i64) w A0_0 l0_0.length l0_0) (hc0_0 : l0_0.length ≤ c0_0) (hr0_1 : Kd.C k45 w A0_1 l0_1.length l0_1) (hc0_1 : l0_1.length ≤ c0_1) (hr1_0 : Kd.C (Kd.int .i64) w A1_0 l1_0.length l1_0) (hc1_0 : l1_0.length ≤ c1_0) (hr1_1 : Kd.C k45 w A1_1 l1_1.length l1_1) (hc1_1 : l1_1.length ≤ c1_1) (h : triglyphref03_Cmp.f k_ l0_0 l0_1 l1_0 l1_1 = some r),
  Calls Try.prog 35 #[.agg #[.slice A0_0 l0_0.length c0_0, .slice A0_1 l0_1.length c0_1], .agg #[.slice A1_0 l1_0.length c1_0, .slice A1_1 l1_1.length c1_1]] w fun e w' => e = .returned (.int .i64 r) ∧ Below w.heap.size w w') : ∀ (a0_0 : Int) (a0_1 : Int) (A0_2 : Option Addr) (c0_2 : Nat) (l0_2 : List (S25)) (a1_0 : Int) (a1_1 : Int) (A1_2 : Option Addr) (c1_2 : Nat) (l1_2 : List (S25)) (r : Int) (w : World) (hr0_2 : Kd.C k25 w A0_2 l0_2.length l0_2) (hc0_2 : l0_2.length ≤ c0_2) (hr1_2 : Kd.C k25 w A1_2 l1_2.length l1_2) (hc1_2 : l1_2.length ≤ c1_2) (h : triglyphref03_Cell.f k a0_0 a0_1 l0_2 a1_0 a1_1 l1_2 = some r),
  Calls Try.prog 57 #[.agg #[.int .i64 a0_0, .int .i64 a0_1, .slice A0_2 l0_2.length c0_2], .agg #[.int .i64 a1_0, .int .i64 a1_1, .slice A1_2 l1_2.length c1_2]] w fun e w' => e = .returned (.int .i64 r) ∧ Below w.heap.size w w' := by
 intro a0_0 a0_1 A0_2 c0_2 l0_2 a1_0 a1_1 A1_2 c1_2 l1_2 r w hr0_2 hc0_2 hr1_2 hc1_2 h
 cases k with
 | zero => exact absurd h (by simp [triglyphref03_Cell.f])
 | succ k =>
 simp only [triglyphref03_Cell.f] at h
 have hu45 := Try.underlying45
 have hu25 := Try.underlying25
 have HR0_2 := gA hr0_2
 have HC0_2 := gA hc0_2
 clear hr0_2 hc0_2
 have HR1_2 := gA hr1_2
 have HC1_2 := gA hc1_2
 clear hr1_2 hc1_2
 have HB := gA (Below.refl w.heap.size w)
 have H : ((triglyphref03_ints.f a0_0 a1_0).bind fun t395 => (if t395 = 0 then ((triglyphref03_ints.f a0_1 a1_1).bind fun t396 => (triglyphref03_Cell.j0 k t396 a0_0 a0_1 l0_2 a1_0 a1_1 l1_2)) else (triglyphref03_Cell.j0 k t395 a0_0 a0_1 l0_2 a1_0 a1_1 l1_2))) = some r := h
 clear h
 replace H := Option.bind_eq_some_iff.mp H
 obtain ⟨t395, A30, H⟩ := H
 replace H : (if t395 = 0 then ((triglyphref03_ints.f a0_1 a1_1).bind fun t396 => (triglyphref03_Cell.j0 k t396 a0_0 a0_1 l0_2 a1_0 a1_1 l1_2)) else (triglyphref03_Cell.j0 k t395 a0_0 a0_1 l0_2 a1_0 a1_1 l1_2)) = some r := H
 have A3 := gA A30
 clear A30
 have HC4 := gA H
 clear H
 go_enter Try.func57, Try.ntmps57
 go_upto_if 12 with (first | ((with_reducible refine gate_dst (N := 2) rfl ?_); (try (refine gate_guard (by rfl) ?_; dsimp only)); refine box_event ?hg (N := 2) ?hd (cs := #[.int .i64 a0_0, .int .i64 a0_1, .slice A0_2 l0_2.length c0_2]) (t := 45) ?hr ?_; (case hd => rfl); (case hg => rfl); (case hr => first | (go_simp; done) | (go_simp; rfl)); intro gb393 hg w5 hbox hb; have BK393 := gA (hbox); have GW393 := gA ((by rw [hg]; exact (below_size (gB HB)) : w.heap.size ≤ gb393)); have GE393 := gA ((by rw [hg]; exact (below_size (gB HB)) : w.heap.size ≤ gb393)); replace HB := gA (below_step (gB HB) hb); clear hb hbox hg) | ((with_reducible refine gate_dst (N := 3) rfl ?_); (try (refine gate_guard (by rfl) ?_; dsimp only)); refine box_event ?hg (N := 3) ?hd (cs := #[.int .i64 a1_0, .int .i64 a1_1, .slice A1_2 l1_2.length c1_2]) (t := 45) ?hr ?_; (case hd => rfl); (case hg => rfl); (case hr => first | (go_simp; done) | (go_simp; rfl)); intro gb394 hg w6 hbox hb; have BK394 := gA (hbox); have GW394 := gA ((by rw [hg]; exact (below_size (gB HB)) : w.heap.size ≤ gb394)); have GE394 := gA ((by rw [hg]; exact (below_size (gB HB)) : w.heap.size ≤ gb394)); replace HB := gA (below_step (gB HB) hb); have NB393_394 := gA ((by rw [hg]; exact Nat.ne_of_lt (blk_lt (gK BK393)) : gb393 ≠ gb394)); have NB394_393 := gA ((by rw [hg]; exact Nat.ne_of_gt (blk_lt (gK BK393)) : gb394 ≠ gb393)); replace BK393 := gA (blk_below (gK BK393) hb); clear hb hbox hg; have hnb7 := NB393_394.out; have hnc7 := NB394_393.out; obtain ⟨hcz8_0, hcz8_1, hcz8_2, hfz8_0, hfz8_1, hfz8_2⟩ := gz3 BK393; obtain ⟨hcz9_0, hcz9_1, hcz9_2, hfz9_0, hfz9_1, hfz9_2⟩ := gz3 BK394) | ((with_reducible refine gate_callee (f := 56) rfl ?_); refine goesL_ (some 10) rfl rfl Try.func56 (by kernel_rfl) rfl #[.int .i64 a0_0, .int .i64 a1_0] rfl (by (try simp only [List.map_toArray, List.map_cons, List.map_nil]); first | done | rfl | (simp only [List.length_drop, List.length_take]; rfl)) ?_; (with_reducible refine (triglyphref03_ints.calls a0_0 a1_0 t395 _ A3.out).mono ?_); rintro e w' ⟨rfl, ⟨nd, rfl⟩⟩; refine ⟨_, rfl, ?_⟩))
 (try simp only [Act.put, List.setIfInBounds_toArray, List.set_cons_zero, List.set_cons_succ])
 go_cut [5] (fun v5 wc => ∃ (kq : Nat) (x5_3 : Int), v5 = .int .i64 x5_3 ∧ Aside0 (triglyphref03_Cell.j0 kq x5_3 a0_0 a0_1 l0_2 a1_0 a1_1 l1_2 = some r) ∧ Aside0 (kq ≤ k) ∧ Aside0 (wc.heap[gb393]? = some (.cells #[.int .i64 a0_0, .int .i64 a0_1, (.slice A0_2 l0_2.length c0_2)] 45 (0, 0))) ∧ Aside0 (wc.heap[gb394]? = some (.cells #[.int .i64 a1_0, .int .i64 a1_1, (.slice A1_2 l1_2.length c1_2)] 45 (0, 0))) ∧ Aside0 (Below w.heap.size w wc))
 case first =>
  have H := HC4.out; clear HC4
  by_cases c10 : t395 = 0
  ·rw [if_pos c10] at H
   have c10b0 : (t395 == 0) = true := beq_iff_eq.mpr c10
   have c10b1 : (t395 != 0) = false := bne_eq_false_iff_eq.mpr c10
   clear c10
   (first | rw [c10b0] | rw [c10b1] | (simp only [i64_w, i32_w]; rw [c10b0]) | skip)
   replace H := Option.bind_eq_some_iff.mp H
   obtain ⟨t396, A110, H⟩ := H
   replace H : (triglyphref03_Cell.j0 k t396 a0_0 a0_1 l0_2 a1_0 a1_1 l1_2) = some r := H
   have A11 := gA A110
   clear A110
   have H' := gA H
   clear H
   have hnb12 := NB393_394.out
   have hnc12 := NB394_393.out
   obtain ⟨hcz13_0, hcz13_1, hcz13_2, hfz13_0, hfz13_1, hfz13_2⟩ := gz3 BK393
   obtain ⟨hcz14_0, hcz14_1, hcz14_2, hfz14_0, hfz14_1, hfz14_2⟩ := gz3 BK394
   go_wp2_with (first | ((with_reducible refine gate_callee (f := 56) rfl ?_); refine goesL_ (some 17) rfl rfl Try.func56 (by kernel_rfl) rfl #[.int .i64 a0_1, .int .i64 a1_1] rfl (by (try simp only [List.map_toArray, List.map_cons, List.map_nil]); first | done | rfl | (simp only [List.length_drop, List.length_take]; rfl)) ?_; (with_reducible refine (triglyphref03_ints.calls a0_1 a1_1 t396 _ A11.out).mono ?_); rintro e w' ⟨rfl, ⟨nd, rfl⟩⟩; refine ⟨_, rfl, ?_⟩))
   all_goals (go_meet; (case rel => exact ⟨_, (t396), (by first | rfl | (simp; done) | (simp [*]; done) | (exfalso; simp_all; done) | (exfalso; simp_all; omega)), H', ⟨by first | omega | exact Nat.le_refl _⟩, ⟨gK BK393⟩, ⟨gK BK394⟩, ⟨gB HB⟩⟩))
  ·rw [if_neg c10] at H
   have c10b0 : (t395 == 0) = false := beq_eq_false_iff_ne.mpr c10
   have c10b1 : (t395 != 0) = true := bne_iff_ne.mpr c10
   (first | rw [c10b0] | rw [c10b1] | (simp only [i64_w, i32_w]; rw [c10b0]) | skip)
   have H' := gA H
   clear H
   go_wp2
   all_goals (go_meet; (case rel => exact ⟨_, (t395), (by first | rfl | (simp; done) | (simp [*]; done) | (exfalso; simp_all; done) | (exfalso; simp_all; omega)), H', ⟨by first | omega | exact Nat.le_refl _⟩, ⟨gK BK393⟩, ⟨gK BK394⟩, ⟨gB HB⟩⟩))
 case rest =>
  clear HC4
  try clear c1
  try clear p2
  try clear c5
  try clear c7
  try clear c10
  try clear c10b0
  try clear c10b1
  try clear c12
  try clear hcz13_0
  try clear hcz13_1
  try clear hcz13_2
  try clear hcz14_0
  try clear hcz14_1
  try clear hcz14_2
  try clear hcz8_0
  try clear hcz8_1
  try clear hcz8_2
  try clear hcz9_0
  try clear hcz9_1
  try clear hcz9_2
  try clear hfz13_0
  try clear hfz13_1
  try clear hfz13_2
  try clear hfz14_0
  try clear hfz14_1
  try clear hfz14_2
  try clear hfz8_0
  try clear hfz8_1
  try clear hfz8_2
  try clear hfz9_0
  try clear hfz9_1
  try clear hfz9_2
  obtain ⟨kq, x5_3, rfl, HA, HJ3, BK393, BK394, HB⟩ := hcut
  cases kq with
  | zero => exact absurd HA.out (by simp [triglyphref03_Cell.j0])
  | succ kj3 =>
   have H := HA.out; clear HA
   simp only [triglyphref03_Cell.j0] at H
   have HC15 := gA H
   clear H
   go_upto_region 4 with (fail)
   go_cut [31] (fun v31 wc => ∃ (kq : Nat) (x31_14 : Bool), v31 = .bool x31_14 ∧ Aside0 (triglyphref03_Cell.j1 kq x5_3 x31_14 a0_0 a0_1 l0_2 a1_0 a1_1 l1_2 = some r) ∧ Aside0 (kq ≤ kj3) ∧ Aside0 (wc.heap[gb393]? = some (.cells #[.int .i64 a0_0, .int .i64 a0_1, (.slice A0_2 l0_2.length c0_2)] 45 (0, 0))) ∧ Aside0 (wc.heap[gb394]? = some (.cells #[.int .i64 a1_0, .int .i64 a1_1, (.slice A1_2 l1_2.length c1_2)] 45 (0, 0))) ∧ Aside0 (Below w.heap.size w wc))
   case first =>
    have H := HC15.out; clear HC15
    by_cases c16 : x5_3 = 0
    ·rw [if_pos c16] at H
     have c16b0 : (x5_3 == 0) = true := beq_iff_eq.mpr c16
     have c16b1 : (x5_3 != 0) = false := bne_eq_false_iff_eq.mpr c16
     clear c16
     (first | rw [c16b0] | rw [c16b1] | (simp only [i64_w, i32_w]; rw [c16b0]) | skip)
     by_cases c17 : (l0_2.length : Int) > 0
     ·rw [if_pos c17] at H
      have c17b0 : decide (0 < (l0_2.length : Int)) = true := decide_eq_true c17
      have c17b1 : decide (0 < l0_2.length) = true := decide_eq_true (by omega)
      clear c17
      have H' := gA H
      clear H
      have hnb18 := NB393_394.out
      have hnc18 := NB394_393.out
      obtain ⟨hcz19_0, hcz19_1, hcz19_2, hfz19_0, hfz19_1, hfz19_2⟩ := gz3 BK393
      obtain ⟨hcz20_0, hcz20_1, hcz20_2, hfz20_0, hfz20_1, hfz20_2⟩ := gz3 BK394
      go_wp2
      all_goals (go_meet; (case rel => exact ⟨_, (decide ((l1_2.length : Int) > 0)), (by first | rfl | (simp; done) | (simp [*]; done) | (exfalso; simp_all; done) | (exfalso; simp_all; omega)), H', ⟨by have := HJ3.out; first | omega | exact Nat.le_refl _⟩, ⟨gK BK393⟩, ⟨gK BK394⟩, ⟨gB HB⟩⟩))
     ·rw [if_neg c17] at H
      have c17b0 : decide (0 < (l0_2.length : Int)) = false := decide_eq_false c17
      have c17b1 : decide (0 < l0_2.length) = false := decide_eq_false (by omega)
      clear c17
      have H' := gA H
      clear H
      have hnb21 := NB393_394.out
      have hnc21 := NB394_393.out
      obtain ⟨hcz22_0, hcz22_1, hcz22_2, hfz22_0, hfz22_1, hfz22_2⟩ := gz3 BK393
      go_wp2
      all_goals (go_meet; (case rel => exact ⟨_, (false), (by first | rfl | (simp; done) | (simp [*]; done) | (exfalso; simp_all; done) | (exfalso; simp_all; omega)), H', ⟨by have := HJ3.out; first | omega | exact Nat.le_refl _⟩, ⟨gK BK393⟩, ⟨gK BK394⟩, ⟨gB HB⟩⟩))
    ·rw [if_neg c16] at H
     have c16b0 : (x5_3 == 0) = false := beq_eq_false_iff_ne.mpr c16
     have c16b1 : (x5_3 != 0) = true := bne_iff_ne.mpr c16
     (first | rw [c16b0] | rw [c16b1] | (simp only [i64_w, i32_w]; rw [c16b0]) | skip)
     have H' := gA H
     clear H
     go_wp2
     all_goals (go_meet; (case rel => exact ⟨_, (false), (by first | rfl | (simp; done) | (simp [*]; done) | (exfalso; simp_all; done) | (exfalso; simp_all; omega)), H', ⟨by have := HJ3.out; first | omega | exact Nat.le_refl _⟩, ⟨gK BK393⟩, ⟨gK BK394⟩, ⟨gB HB⟩⟩))
   case rest =>
    clear HC15
    try clear c1
    try clear c2
    try clear p2
    try clear c5
    try clear c7
    try clear c10
    try clear c10b0
    try clear c10b1
    try clear c12
    try clear c16
    try clear c16b0
    try clear c16b1
    try clear c17
    try clear c17b0
    try clear c17b1
    try clear c18
    try clear c21
    try clear hcz13_0
    try clear hcz13_1
    try clear hcz13_2
    try clear hcz14_0
    try clear hcz14_1
    try clear hcz14_2
    try clear hcz19_0
    try clear hcz19_1
    try clear hcz19_2
    try clear hcz20_0
    try clear hcz20_1
    try clear hcz20_2
    try clear hcz22_0
    try clear hcz22_1
    try clear hcz22_2
    try clear hcz8_0
    try clear hcz8_1
    try clear hcz8_2
    try clear hcz9_0
    try clear hcz9_1
    try clear hcz9_2
    try clear hfz13_0
    try clear hfz13_1
    try clear hfz13_2
    try clear hfz14_0
    try clear hfz14_1
    try clear hfz14_2
    try clear hfz19_0
    try clear hfz19_1
    try clear hfz19_2
    try clear hfz20_0
    try clear hfz20_1
    try clear hfz20_2
    try clear hfz22_0
    try clear hfz22_1
    try clear hfz22_2
    try clear hfz8_0
    try clear hfz8_1
    try clear hfz8_2
    try clear hfz9_0
    try clear hfz9_1
    try clear hfz9_2
    try clear p2
    obtain ⟨kq, x31_14, rfl, HA, HJ14, BK393, BK394, HB⟩ := hcut
    cases kq with
    | zero => exact absurd HA.out (by simp [triglyphref03_Cell.j1])
    | succ kj14 =>
     have H := HA.out; clear HA
     simp only [triglyphref03_Cell.j1] at H
     by_cases c23 : x31_14 = true
     ·subst c23
      have H1 : (if 0 < (l0_2.length : Int) then (if 0 < (l1_2.length : Int) then ((triglyphref03_Cmp.f kj14 ((rd_T25 l0_2 0).f0) ((rd_T25 l0_2 0).f1) ((rd_T25 l1_2 0).f0) ((rd_T25 l1_2 0).f1)).bind fun t399 => (some t399)) else (none)) else (none)) = some r := by rw [if_pos rfl] at H; exact H
      clear H; have H := H1; clear H1
      obtain ⟨c24, H⟩ := iS H
      have c24b0 := decide_eq_true c24
      have c24b1 : decide (0 < l0_2.length) = true := decide_eq_true (by omega)
      clear c24
      obtain ⟨c25, H⟩ := iS H
      have c25b0 := decide_eq_true c25
      have c25b1 : decide (0 < l1_2.length) = true := decide_eq_true (by omega)
      clear c25
      replace H := Option.bind_eq_some_iff.mp H
      obtain ⟨t399, A260, H⟩ := H
      replace H : (some t399) = some r := H
      have A26 := gA A260
      clear A260
      obtain rfl := Option.some.inj H
      try go_wp2
      replace BK393 := gA (blk_drew BK393.out); replace BK394 := gA (blk_drew BK394.out); replace HB := gA (below_drew1 HB.out)
      have p397 : 0 ≤ (0 : Int) := (by omega)
      have q397 : 0 < (l0_2.length : Int) := of_decide_eq_true (by assumption)
      obtain ⟨ad397, A397_0, c397_0, A397_1, c397_1, e397, hx397_0, hx397_1, hl397_0, hi397_0, hl397_1, hi397_1⟩ := at_T25 HR0_2.out 0 p397 q397
      have hw397_1 := hx397_1
      (try rw [show ((0 : Int)).toNat = 0 from rfl] at hw397_1)
      (try rw [show 0 * 2 = 0 from rfl] at hw397_1)
      (try rw [Addr.add_zero'] at hw397_1)
      have hw397_0 := hx397_0
      (try rw [show ((0 : Int)).toNat = 0 from rfl] at hw397_0)
      (try rw [show 0 * 2 = 0 from rfl] at hw397_0)
      (try rw [Addr.add_zero'] at hw397_0)
      cases e397
      have qi397 : (0 < l0_2.length) = True := eq_true (by omega)
      (try rw [show ((0 : Int)).toNat = 0 from rfl] at hx397_0)
      (try rw [show 0 * 2 = 0 from rfl] at hx397_0)
      (try rw [Addr.add_zero'] at hx397_0)
      (try rw [show ((0 : Int)).toNat = 0 from rfl] at hx397_1)
      (try rw [show 0 * 2 = 0 from rfl] at hx397_1)
      (try rw [Addr.add_zero'] at hx397_1)
      replace hx397_0 := (HB.out.cell (World.block_lt_of_cell? w _ hx397_0)).trans hx397_0
      replace hx397_1 := (HB.out.cell (World.block_lt_of_cell? w _ hx397_1)).trans hx397_1
      have HR397_0 := gA hi397_0
      have HC397_0 := gA hl397_0
      clear hi397_0 hl397_0
      have HR397_1 := gA hi397_1
      have HC397_1 := gA hl397_1
      clear hi397_1 hl397_1
      replace p397 := eq_true p397
      replace q397 := eq_true q397
      have p398 : 0 ≤ (0 : Int) := (by omega)
      have q398 : 0 < (l1_2.length : Int) := of_decide_eq_true (by assumption)
      obtain ⟨ad398, A398_0, c398_0, A398_1, c398_1, e398, hx398_0, hx398_1, hl398_0, hi398_0, hl398_1, hi398_1⟩ := at_T25 HR1_2.out 0 p398 q398
      have hw398_1 := hx398_1
      (try rw [show ((0 : Int)).toNat = 0 from rfl] at hw398_1)
      (try rw [show 0 * 2 = 0 from rfl] at hw398_1)
      (try rw [Addr.add_zero'] at hw398_1)
      have hw398_0 := hx398_0
      (try rw [show ((0 : Int)).toNat = 0 from rfl] at hw398_0)
      (try rw [show 0 * 2 = 0 from rfl] at hw398_0)
      (try rw [Addr.add_zero'] at hw398_0)
      cases e398
      have qi398 : (0 < l1_2.length) = True := eq_true (by omega)
      (try rw [show ((0 : Int)).toNat = 0 from rfl] at hx398_0)
      (try rw [show 0 * 2 = 0 from rfl] at hx398_0)
      (try rw [Addr.add_zero'] at hx398_0)
      (try rw [show ((0 : Int)).toNat = 0 from rfl] at hx398_1)
      (try rw [show 0 * 2 = 0 from rfl] at hx398_1)
      (try rw [Addr.add_zero'] at hx398_1)
      replace hx398_0 := (HB.out.cell (World.block_lt_of_cell? w _ hx398_0)).trans hx398_0
      replace hx398_1 := (HB.out.cell (World.block_lt_of_cell? w _ hx398_1)).trans hx398_1
      have HR398_0 := gA hi398_0
      have HC398_0 := gA hl398_0
      clear hi398_0 hl398_0
      have HR398_1 := gA hi398_1
      have HC398_1 := gA hl398_1
      clear hi398_1 hl398_1
      replace p398 := eq_true p398
      replace q398 := eq_true q398
      refine start_ (n := 10) (S := fun w' => w'.cell? ⟨gb393, 0, none⟩ = some (.int .i64 a0_0) ∧ w'.cell? ⟨gb393, 1, none⟩ = some (.int .i64 a0_1) ∧ w'.cell? ⟨gb393, 2, none⟩ = some (.slice (some ad397) l0_2.length c0_2) ∧ w'.cell? ⟨gb394, 0, none⟩ = some (.int .i64 a1_0) ∧ w'.cell? ⟨gb394, 1, none⟩ = some (.int .i64 a1_1) ∧ w'.cell? ⟨gb394, 2, none⟩ = some (.slice (some ad398) l1_2.length c1_2) ∧ w'.cell? ad397 = some (.slice A397_0 ((rd_T25 l0_2 0).f0).length c397_0) ∧ w'.cell? ⟨ad397.block, ad397.off + 1, none⟩ = some (.slice A397_1 ((rd_T25 l0_2 0).f1).length c397_1) ∧ w'.cell? ad398 = some (.slice A398_0 ((rd_T25 l1_2 0).f0).length c398_0) ∧ w'.cell? ⟨ad398.block, ad398.off + 1, none⟩ = some (.slice A398_1 ((rd_T25 l1_2 0).f1).length c398_1)) (ds := []) #[false, false, false, false, false, false, false, false, false, false] (by kernel_rfl) rfl rfl ⟨(blk_cell BK393.out 0).trans rfl, (blk_cell BK393.out 1).trans rfl, (blk_cell BK393.out 2).trans rfl, (blk_cell BK394.out 0).trans rfl, (blk_cell BK394.out 1).trans rfl, (blk_cell BK394.out 2).trans rfl, ((HB.out.cell (World.block_lt_of_cell? w _ hw397_0)).trans hw397_0), ((HB.out.cell (World.block_lt_of_cell? w _ hw397_1)).trans hw397_1), ((HB.out.cell (World.block_lt_of_cell? w _ hw398_0)).trans hw398_0), ((HB.out.cell (World.block_lt_of_cell? w _ hw398_1)).trans hw398_1)⟩ (fun hHeld => ?_); refine with_tabW triglyphref03_Cell.tab5 triglyphref03_Cell.bits5 (fun HT_ HW_ => ?_)
      generalize wc.drew = w27 at BK393 BK394 HB HR397_0 HR397_1 HR398_0 HR398_1 hx397_0 hx397_1 hx398_0 hx398_1 hHeld ⊢
      refine pure_ (i := 0) (N := some 32) (v := ?_) (a' := ?_) #[true, false, false, false, false, false, false, false, false, false] rfl rfl (any_of HT_.out (by kernel_rfl)) (fun _ _ _ h => h) (Or.inl ⟨by rfl, ?_⟩) ?_ ?_; rotate_left
      ·intro w'; go_simp; with_reducible rfl
      rotate_left
      ·simp only [Act.put, List.setIfInBounds_toArray, List.set_cons_zero, List.set_cons_succ, i64_w, i32_w]; rfl
      refine pure_ (i := 4) (N := some 36) (v := ?_) (a' := ?_) #[true, false, false, false, true, false, false, false, false, false] rfl rfl (any_of HT_.out (by kernel_rfl)) (fun _ _ _ h => h) (Or.inl ⟨by rfl, ?_⟩) ?_ ?_; rotate_left
      ·intro w'; go_simp; with_reducible rfl
      rotate_left
      ·simp only [Act.put, List.setIfInBounds_toArray, List.set_cons_zero, List.set_cons_succ, i64_w, i32_w]; rfl
      refine take_ (i := 1) (N := some 33) (v := ?_) (a' := ?_) #[true, true, false, false, true, false, false, false, false, false] rfl rfl (take_ofW HT_.out HW_.out (by kernel_rfl)) (fun _ _ _ h => h) (Or.inl ⟨by rfl, ?_⟩) hHeld ?_ ?_; rotate_left
      ·rintro w' ⟨s0, s1, s2, s3, s4, s5, s6, s7, s8, s9⟩; go_simp; with_reducible rfl
      rotate_left
      ·simp only [Act.put, List.setIfInBounds_toArray, List.set_cons_zero, List.set_cons_succ, i64_w, i32_w]; rfl
      refine pure_ (i := 2) (N := some 34) (v := ?_) (a' := ?_) #[true, true, true, false, true, false, false, false, false, false] rfl rfl (any_of HT_.out (by kernel_rfl)) (fun _ _ _ h => h) (Or.inl ⟨by rfl, ?_⟩) ?_ ?_; rotate_left
      ·intro w'; go_simp; with_reducible rfl
      rotate_left
      ·simp only [Act.put, List.setIfInBounds_toArray, List.set_cons_zero, List.set_cons_succ, i64_w, i32_w]; rfl
      refine take_ (i := 3) (N := some 35) (v := ?_) (a' := ?_) #[true, true, true, true, true, false, false, false, false, false] rfl rfl (take_ofW HT_.out HW_.out (by kernel_rfl)) (fun _ _ _ h => h) (Or.inl ⟨by rfl, ?_⟩) hHeld ?_ ?_; rotate_left
      ·rintro w' ⟨s0, s1, s2, s3, s4, s5, s6, s7, s8, s9⟩; go_simp; with_reducible rfl
      rotate_left
      ·simp only [Act.put, List.setIfInBounds_toArray, List.set_cons_zero, List.set_cons_succ, i64_w, i32_w]; rfl
      refine take_ (i := 5) (N := some 37) (v := ?_) (a' := ?_) #[true, true, true, true, true, true, false, false, false, false] rfl rfl (take_ofW HT_.out HW_.out (by kernel_rfl)) (fun _ _ _ h => h) (Or.inl ⟨by rfl, ?_⟩) hHeld ?_ ?_; rotate_left
      ·rintro w' ⟨s0, s1, s2, s3, s4, s5, s6, s7, s8, s9⟩; go_simp; with_reducible rfl
      rotate_left
      ·simp only [Act.put, List.setIfInBounds_toArray, List.set_cons_zero, List.set_cons_succ, i64_w, i32_w]; rfl
      refine pure_ (i := 6) (N := some 38) (v := ?_) (a' := ?_) #[true, true, true, true, true, true, true, false, false, false] rfl rfl (any_of HT_.out (by kernel_rfl)) (fun _ _ _ h => h) (Or.inl ⟨by rfl, ?_⟩) ?_ ?_; rotate_left
      ·intro w'; go_simp; with_reducible rfl
      rotate_left
      ·simp only [Act.put, List.setIfInBounds_toArray, List.set_cons_zero, List.set_cons_succ, i64_w, i32_w]; rfl
      refine take_ (i := 7) (N := some 39) (v := ?_) (a' := ?_) #[true, true, true, true, true, true, true, true, false, false] rfl rfl (take_ofW HT_.out HW_.out (by kernel_rfl)) (fun _ _ _ h => h) (Or.inl ⟨by rfl, ?_⟩) hHeld ?_ ?_; rotate_left
      ·rintro w' ⟨s0, s1, s2, s3, s4, s5, s6, s7, s8, s9⟩; go_simp; with_reducible rfl
      rotate_left
      ·simp only [Act.put, List.setIfInBounds_toArray, List.set_cons_zero, List.set_cons_succ, i64_w, i32_w]; rfl
      refine one_ (i := 8) (N := some 40) #[true, true, true, true, true, true, true, true, true, false] rfl rfl (one_of HT_.out (by kernel_rfl)) (by decide) (fun K hK => ?_)
      refine goes_ Try.func35 (by kernel_rfl) rfl #[.agg #[.slice A397_0 ((rd_T25 l0_2 0).f0).length c397_0, .slice A397_1 ((rd_T25 l0_2 0).f1).length c397_1], .agg #[.slice A398_0 ((rd_T25 l1_2 0).f0).length c398_0, .slice A398_1 ((rd_T25 l1_2 0).f1).length c398_1]] (by rfl) rfl rfl (by (try simp only [List.map_toArray, List.map_cons, List.map_nil]); first | done | rfl | (simp only [List.length_drop, List.length_take]; rfl)) ?_
      with_reducible refine (ih_triglyphref03_Cmp kj14 (by have := HJ3.out; have := HJ14.out; omega) _ _ ((rd_T25 l0_2 0).f0) _ _ ((rd_T25 l0_2 0).f1) _ _ ((rd_T25 l1_2 0).f0) _ _ ((rd_T25 l1_2 0).f1) t399 _ ?side1 ?side2 ?side3 ?side4 ?side5 ?side6 ?side7 ?side8 A26.out).mono ?_
      (case side1 => exact gC HR397_0 HB)
      (case side2 => exact HC397_0.out)
      (case side3 => exact gC HR397_1 HB)
      (case side4 => exact HC397_1.out)
      (case side5 => exact gC HR398_0 HB)
      (case side6 => exact HC398_0.out)
      (case side7 => exact gC HR398_1 HB)
      (case side8 => exact HC398_1.out)
      rintro e w28 ⟨rfl, hb⟩
      refine ⟨_, rfl, ?_⟩
      replace BK393 := gA (blk_below (gK BK393) hb); replace BK394 := gA (blk_below (gK BK394) hb); replace HB := gA (below_step (gB HB) hb); (try clear hb)
      refine hK.out _ _ ⟨(blk_cell BK393.out 0).trans rfl, (blk_cell BK393.out 1).trans rfl, (blk_cell BK393.out 2).trans rfl, (blk_cell BK394.out 0).trans rfl, (blk_cell BK394.out 1).trans rfl, (blk_cell BK394.out 2).trans rfl, ((HB.out.cell (World.block_lt_of_cell? w _ hw397_0)).trans hw397_0), ((HB.out.cell (World.block_lt_of_cell? w _ hw397_1)).trans hw397_1), ((HB.out.cell (World.block_lt_of_cell? w _ hw398_0)).trans hw398_0), ((HB.out.cell (World.block_lt_of_cell? w _ hw398_1)).trans hw398_1)⟩ (fun hHeld => ?_); clear hK K
      refine norm_ (a' := ?_) ?_ ?_; rotate_left
      ·show Act.put _ (some 40) _ = _
       simp only [Act.put, List.setIfInBounds_toArray, List.set_cons_zero, List.set_cons_succ, i64_w, i32_w]; rfl
      refine pure_ (i := 9) (N := some 4) (v := ?_) (a' := ?_) #[true, true, true, true, true, true, true, true, true, true] rfl rfl (any_of HT_.out (by kernel_rfl)) (fun _ _ _ h => h) (Or.inl ⟨by rfl, ?_⟩) ?_ ?_; rotate_left
      ·intro w'; go_simp; with_reducible rfl
      rotate_left
      ·simp only [Act.put, List.setIfInBounds_toArray, List.set_cons_zero, List.set_cons_succ, i64_w, i32_w]; rfl
      refine done_ (done_of HT_.out (by kernel_rfl)) ?_
      try go_wp2
      go_ret
      exact ⟨rfl, by repeat first | exact gB HB | refine below_set ?_ GE393.out | refine below_set ?_ GE394.out⟩
     ·replace c23 := Bool.eq_false_iff.mpr c23
      subst c23
      have H1 : (if x5_3 = 0 then ((triglyphref03_ints.f (l0_2.length : Int) (l1_2.length : Int)).bind fun t400 => (some t400)) else (some x5_3)) = some r := by rw [if_neg (show ¬ (false = true) by decide)] at H; exact H
      clear H; have H := H1; clear H1
      by_cases c29 : x5_3 = 0
      ·rw [if_pos c29] at H
       have c29b0 : (x5_3 == 0) = true := beq_iff_eq.mpr c29
       have c29b1 : (x5_3 != 0) = false := bne_eq_false_iff_eq.mpr c29
       clear c29
       replace H := Option.bind_eq_some_iff.mp H
       obtain ⟨t400, A300, H⟩ := H
       replace H : (some t400) = some r := H
       have A30 := gA A300
       clear A300
       obtain rfl := Option.some.inj H
       have hnb31 := NB393_394.out
       have hnc31 := NB394_393.out
       obtain ⟨hcz32_0, hcz32_1, hcz32_2, hfz32_0, hfz32_1, hfz32_2⟩ := gz3 BK393
       obtain ⟨hcz33_0, hcz33_1, hcz33_2, hfz33_0, hfz33_1, hfz33_2⟩ := gz3 BK394
       go_wp2_with (first | ((with_reducible refine gate_callee (f := 56) rfl ?_); refine goesL_ (some 49) rfl rfl Try.func56 (by kernel_rfl) rfl #[.int .i64 (l0_2.length : Int), .int .i64 (l1_2.length : Int)] rfl (by (try simp only [List.map_toArray, List.map_cons, List.map_nil]); first | done | rfl | (simp only [List.length_drop, List.length_take]; rfl)) ?_; (with_reducible refine (triglyphref03_ints.calls (l0_2.length : Int) (l1_2.length : Int) t400 _ A30.out).mono ?_); rintro e w' ⟨rfl, ⟨nd, rfl⟩⟩; refine ⟨_, rfl, ?_⟩))
       go_ret
       exact ⟨rfl, by repeat first | exact gB HB | refine below_set ?_ GE393.out | refine below_set ?_ GE394.out⟩
      ·rw [if_neg c29] at H
       have c29b0 : (x5_3 == 0) = false := beq_eq_false_iff_ne.mpr c29
       have c29b1 : (x5_3 != 0) = true := bne_iff_ne.mpr c29
       obtain rfl := Option.some.inj H
       go_wp2
       go_ret
       exact ⟨rfl, by repeat first | exact gB HB | refine below_set ?_ GE393.out | refine below_set ?_ GE394.out⟩
def triglyphref03_Cmp.T5 : Bool × List (List Nat × List Nat) := (true, [([], []), ([0], [0]), ([], []), ([1, 2], [1, 2]), ([3], [3]), ([], []), ([5], [5]), ([], []), ([6, 7], [6, 7]), ([8], [8]), ([4, 9], [4, 9]), ([10, 10, 0, 1, 2, 3, 4, 5, 6, 7, 8, 9, 10], [10])])
def triglyphref03_Cmp.B5 : List Nat := [0, 1, 0, 7, 15, 0, 32, 0, 224, 480, 1023, 2047]
theorem triglyphref03_Cmp.tab5 : rtab .any (opsOf Try.f35 5) = triglyphref03_Cmp.T5 := by kernel_rfl
theorem triglyphref03_Cmp.bits5 : waitsOk triglyphref03_Cmp.T5.2 triglyphref03_Cmp.B5 = true := by kernel_rfl
def triglyphref03_Cmp.T9 : Bool × List (List Nat × List Nat) := (true, [([], []), ([0], [0]), ([], []), ([1, 2], [1, 2]), ([3], [3]), ([], []), ([5], [5]), ([], []), ([6, 7], [6, 7]), ([8], [8]), ([4, 9], [4, 9]), ([10, 10, 0, 1, 2, 3, 4, 5, 6, 7, 8, 9, 10], [10])])
def triglyphref03_Cmp.B9 : List Nat := [0, 1, 0, 7, 15, 0, 32, 0, 224, 480, 1023, 2047]
theorem triglyphref03_Cmp.tab9 : rtab .any (opsOf Try.f35 9) = triglyphref03_Cmp.T9 := by kernel_rfl
theorem triglyphref03_Cmp.bits9 : waitsOk triglyphref03_Cmp.T9.2 triglyphref03_Cmp.B9 = true := by kernel_rfl
set_option maxHeartbeats 8000000 in
set_option maxRecDepth 100000 in
theorem triglyphref03_Cmp.step (k : Nat) (ih_triglyphref03_Cell : ∀ k_, k_ < k → ∀ (a0_0 : Int) (a0_1 : Int) (A0_2 : Option Addr) (c0_2 : Nat) (l0_2 : List (S25)) (a1_0 : Int) (a1_1 : Int) (A1_2 : Option Addr) (c1_2 : Nat) (l1_2 : List (S25)) (r : Int) (w : World) (hr0_2 : Kd.C k25 w A0_2 l0_2.length l0_2) (hc0_2 : l0_2.length ≤ c0_2) (hr1_2 : Kd.C k25 w A1_2 l1_2.length l1_2) (hc1_2 : l1_2.length ≤ c1_2) (h : triglyphref03_Cell.f k_ a0_0 a0_1 l0_2 a1_0 a1_1 l1_2 = some r),
  Calls Try.prog 57 #[.agg #[.int .i64 a0_0, .int .i64 a0_1, .slice A0_2 l0_2.length c0_2], .agg #[.int .i64 a1_0, .int .i64 a1_1, .slice A1_2 l1_2.length c1_2]] w fun e w' => e = .returned (.int .i64 r) ∧ Below w.heap.size w w') (ih : ∀ k_, k_ < k → ∀ (A0_0 : Option Addr) (c0_0 : Nat) (l0_0 : List Int) (A0_1 : Option Addr) (c0_1 : Nat) (l0_1 : List (S45)) (A1_0 : Option Addr) (c1_0 : Nat) (l1_0 : List Int) (A1_1 : Option Addr) (c1_1 : Nat) (l1_1 : List (S45)) (r : Int) (w : World) (hr0_0 : Kd.C (Kd.int .i64) w A0_0 l0_0.length l0_0) (hc0_0 : l0_0.length ≤ c0_0) (hr0_1 : Kd.C k45 w A0_1 l0_1.length l0_1) (hc0_1 : l0_1.length ≤ c0_1) (hr1_0 : Kd.C (Kd.int .i64) w A1_0 l1_0.length l1_0) (hc1_0 : l1_0.length ≤ c1_0) (hr1_1 : Kd.C k45 w A1_1 l1_1.length l1_1) (hc1_1 : l1_1.length ≤ c1_1) (h : triglyphref03_Cmp.f k_ l0_0 l0_1 l1_0 l1_1 = some r),
  Calls Try.prog 35 #[.agg #[.slice A0_0 l0_0.length c0_0, .slice A0_1 l0_1.length c0_1], .agg #[.slice A1_0 l1_0.length c1_0, .slice A1_1 l1_1.length c1_1]] w fun e w' => e = .returned (.int .i64 r) ∧ Below w.heap.size w w') : ∀ (A0_0 : Option Addr) (c0_0 : Nat) (l0_0 : List Int) (A0_1 : Option Addr) (c0_1 : Nat) (l0_1 : List (S45)) (A1_0 : Option Addr) (c1_0 : Nat) (l1_0 : List Int) (A1_1 : Option Addr) (c1_1 : Nat) (l1_1 : List (S45)) (r : Int) (w : World) (hr0_0 : Kd.C (Kd.int .i64) w A0_0 l0_0.length l0_0) (hc0_0 : l0_0.length ≤ c0_0) (hr0_1 : Kd.C k45 w A0_1 l0_1.length l0_1) (hc0_1 : l0_1.length ≤ c0_1) (hr1_0 : Kd.C (Kd.int .i64) w A1_0 l1_0.length l1_0) (hc1_0 : l1_0.length ≤ c1_0) (hr1_1 : Kd.C k45 w A1_1 l1_1.length l1_1) (hc1_1 : l1_1.length ≤ c1_1) (h : triglyphref03_Cmp.f k l0_0 l0_1 l1_0 l1_1 = some r),
  Calls Try.prog 35 #[.agg #[.slice A0_0 l0_0.length c0_0, .slice A0_1 l0_1.length c0_1], .agg #[.slice A1_0 l1_0.length c1_0, .slice A1_1 l1_1.length c1_1]] w fun e w' => e = .returned (.int .i64 r) ∧ Below w.heap.size w w' := by
 intro A0_0 c0_0 l0_0 A0_1 c0_1 l0_1 A1_0 c1_0 l1_0 A1_1 c1_1 l1_1 r w hr0_0 hc0_0 hr0_1 hc0_1 hr1_0 hc1_0 hr1_1 hc1_1 h
 cases k with
 | zero => exact absurd h (by simp [triglyphref03_Cmp.f])
 | succ k =>
 simp only [triglyphref03_Cmp.f] at h
 have hu25 := Try.underlying25
 have hu45 := Try.underlying45
 have HR0_0 := gA hr0_0
 have HC0_0 := gA hc0_0
 clear hr0_0 hc0_0
 have HR0_1 := gA hr0_1
 have HC0_1 := gA hc0_1
 clear hr0_1 hc0_1
 have HR1_0 := gA hr1_0
 have HC1_0 := gA hc1_0
 clear hr1_0 hc1_0
 have HR1_1 := gA hr1_1
 have HC1_1 := gA hc1_1
 clear hr1_1 hc1_1
 have HB := gA (Below.refl w.heap.size w)
 have H : ((triglyphref03_ints.f (l0_0.length : Int) (l1_0.length : Int)).bind fun t403 => (triglyphref03_Cmp.l0 k t403 0 l0_0 l0_1 l1_0 l1_1)) = some r := h
 clear h
 replace H := Option.bind_eq_some_iff.mp H
 obtain ⟨t403, A30, H⟩ := H
 replace H : (triglyphref03_Cmp.l0 k t403 0 l0_0 l0_1 l1_0 l1_1) = some r := H
 have A3 := gA A30
 clear A30
 have HC4 := gA H
 clear H
 go_enter Try.func35, Try.ntmps35
 go_upto_block 0 with (first | ((with_reducible refine gate_dst (N := 2) rfl ?_); (try (refine gate_guard (by rfl) ?_; dsimp only)); refine box_event ?hg (N := 2) ?hd (cs := #[.slice A0_0 l0_0.length c0_0, .slice A0_1 l0_1.length c0_1]) (t := 25) ?hr ?_; (case hd => rfl); (case hg => rfl); (case hr => first | (go_simp; done) | (go_simp; rfl)); intro gb401 hg w5 hbox hb; have BK401 := gA (hbox); have GW401 := gA ((by rw [hg]; exact (below_size (gB HB)) : w.heap.size ≤ gb401)); have GE401 := gA ((by rw [hg]; exact (below_size (gB HB)) : w.heap.size ≤ gb401)); replace HB := gA (below_step (gB HB) hb); clear hb hbox hg) | ((with_reducible refine gate_dst (N := 3) rfl ?_); (try (refine gate_guard (by rfl) ?_; dsimp only)); refine box_event ?hg (N := 3) ?hd (cs := #[.slice A1_0 l1_0.length c1_0, .slice A1_1 l1_1.length c1_1]) (t := 25) ?hr ?_; (case hd => rfl); (case hg => rfl); (case hr => first | (go_simp; done) | (go_simp; rfl)); intro gb402 hg w6 hbox hb; have BK402 := gA (hbox); have GW402 := gA ((by rw [hg]; exact (below_size (gB HB)) : w.heap.size ≤ gb402)); have GE402 := gA ((by rw [hg]; exact (below_size (gB HB)) : w.heap.size ≤ gb402)); replace HB := gA (below_step (gB HB) hb); have NB401_402 := gA ((by rw [hg]; exact Nat.ne_of_lt (blk_lt (gK BK401)) : gb401 ≠ gb402)); have NB402_401 := gA ((by rw [hg]; exact Nat.ne_of_gt (blk_lt (gK BK401)) : gb402 ≠ gb401)); replace BK401 := gA (blk_below (gK BK401) hb); clear hb hbox hg; have hnb7 := NB401_402.out; have hnc7 := NB402_401.out; obtain ⟨hcz8_0, hcz8_1, hfz8_0, hfz8_1⟩ := gz2 BK401; obtain ⟨hcz9_0, hcz9_1, hfz9_0, hfz9_1⟩ := gz2 BK402) | ((with_reducible refine gate_callee (f := 56) rfl ?_); refine goesL_ (some 14) rfl rfl Try.func56 (by kernel_rfl) rfl #[.int .i64 (l0_0.length : Int), .int .i64 (l1_0.length : Int)] rfl (by (try simp only [List.map_toArray, List.map_cons, List.map_nil]); first | done | rfl | (simp only [List.length_drop, List.length_take]; rfl)) ?_; (with_reducible refine (triglyphref03_ints.calls (l0_0.length : Int) (l1_0.length : Int) t403 _ A3.out).mono ?_); rintro e w' ⟨rfl, ⟨nd, rfl⟩⟩; refine ⟨_, rfl, ?_⟩))
 (try simp only [Act.put, List.setIfInBounds_toArray, List.set_cons_zero, List.set_cons_succ])
 go_cut [5] (fun v5 wc => ∃ (kq : Nat) (x5_3 : Int), v5 = .int .i64 x5_3 ∧ Aside0 (triglyphref03_Cmp.j1 kq x5_3 l0_0 l0_1 l1_0 l1_1 = some r) ∧ Aside0 (kq ≤ k) ∧ Aside0 (wc.heap[gb401]? = some (.cells #[(.slice A0_0 l0_0.length c0_0), (.slice A0_1 l0_1.length c0_1)] 25 (0, 0))) ∧ Aside0 (wc.heap[gb402]? = some (.cells #[(.slice A1_0 l1_0.length c1_0), (.slice A1_1 l1_1.length c1_1)] 25 (0, 0))) ∧ Aside0 (Below w.heap.size w wc))
 case first =>
  have H := HC4.out; clear HC4
  have H' := gA H
  clear H
  go_wp2
  go_loopg [5, 6] k (fun kq v5 v6 w' => ∃ (x5_1 : Int) (x6_1 : Int), v5 = .int .i64 x5_1 ∧ v6 = .int .i64 x6_1 ∧ Aside0 (triglyphref03_Cmp.l0 kq x5_1 x6_1 l0_0 l0_1 l1_0 l1_1 = some r) ∧ Aside0 (kq ≤ k) ∧ Aside0 (w'.heap[gb401]? = some (.cells #[(.slice A0_0 l0_0.length c0_0), (.slice A0_1 l0_1.length c0_1)] 25 (0, 0))) ∧ Aside0 (w'.heap[gb402]? = some (.cells #[(.slice A1_0 l1_0.length c1_0), (.slice A1_1 l1_1.length c1_1)] 25 (0, 0))) ∧ Aside0 (Below w.heap.size w w'))
  case atStart => exact ⟨(t403), (0), (rfl), (rfl), H', ⟨Nat.le_refl _⟩, ⟨gK BK401⟩, ⟨gK BK402⟩, ⟨by repeat first | exact gB HB | refine below_set ?_ GE401.out | refine below_set ?_ GE402.out⟩⟩
  case round =>
   clear H'
   try clear c1
   try clear p2
   try clear c3
   try clear c5
   try clear c7
   try clear hcz8_0
   try clear hcz8_1
   try clear hcz9_0
   try clear hcz9_1
   try clear hfz8_0
   try clear hfz8_1
   try clear hfz9_0
   try clear hfz9_1
   obtain ⟨x5_1, x6_1, rfl, rfl, HA, HK1, BK401, BK402, HB⟩ := hrel
   cases gk with
   | zero => exact absurd HA.out (by simp [triglyphref03_Cmp.l0])
   | succ k1 =>
    have H := HA.out; clear HA
    simp only [triglyphref03_Cmp.l0] at H
    by_cases c10 : x6_1 < (l0_0.length : Int)
    ·rw [if_pos c10] at H
     have c10b0 := decide_eq_true c10
     clear c10
     (first | rw [c10b0] | (simp only [i64_w, i32_w]; rw [c10b0]) | skip)
     by_cases c11 : x5_1 = 0
     ·rw [if_pos c11] at H
      have c11b0 : (x5_1 == 0) = true := beq_iff_eq.mpr c11
      have c11b1 : (x5_1 != 0) = false := bne_eq_false_iff_eq.mpr c11
      clear c11
      obtain ⟨c12, H⟩ := iS H
      have c12b0 := decide_eq_true c12
      clear c12
      obtain ⟨c13, H⟩ := iS H
      have c13b0 := decide_eq_true c13
      clear c13
      replace H := Option.bind_eq_some_iff.mp H
      obtain ⟨t406, A140, H⟩ := H
      replace H : (triglyphref03_Cmp.l0 k1 t406 (wrap64 (x6_1 + 1)) l0_0 l0_1 l1_0 l1_1) = some r := H
      have A14 := gA A140
      clear A140
      have H' := gA H
      clear H
      have hnb15 := NB401_402.out
      have hnc15 := NB402_401.out
      obtain ⟨hcz16_0, hcz16_1, hfz16_0, hfz16_1⟩ := gz2 BK401
      try go_wp2
      replace BK401 := gA (blk_drew BK401.out); replace BK402 := gA (blk_drew BK402.out); replace HB := gA (below_drew1 HB.out)
      have p404 : 0 ≤ (x6_1 : Int) := of_decide_eq_true (by assumption)
      have q404 : x6_1 < (l0_0.length : Int) := of_decide_eq_true (by assumption)
      obtain ⟨ad404, e404, hx404_0⟩ := Kd.at_int HR0_0.out x6_1 p404 q404
      have hw404_0 := hx404_0
      cases e404
      replace hx404_0 := (HB.out.cell (World.block_lt_of_cell? w _ hx404_0)).trans hx404_0
      replace p404 := eq_true p404
      replace q404 := eq_true q404
      have p405 : 0 ≤ (x6_1 : Int) := of_decide_eq_true (by assumption)
      have q405 : x6_1 < (l1_0.length : Int) := of_decide_eq_true (by assumption)
      obtain ⟨ad405, e405, hx405_0⟩ := Kd.at_int HR1_0.out x6_1 p405 q405
      have hw405_0 := hx405_0
      cases e405
      replace hx405_0 := (HB.out.cell (World.block_lt_of_cell? w _ hx405_0)).trans hx405_0
      replace p405 := eq_true p405
      replace q405 := eq_true q405
      refine start_ (n := 12) (S := fun w' => w'.cell? ⟨gb401, 0, none⟩ = some (.slice (some ad404) l0_0.length c0_0) ∧ w'.cell? ⟨gb401, 1, none⟩ = some (.slice A0_1 l0_1.length c0_1) ∧ w'.cell? ⟨gb402, 0, none⟩ = some (.slice (some ad405) l1_0.length c1_0) ∧ w'.cell? ⟨gb402, 1, none⟩ = some (.slice A1_1 l1_1.length c1_1) ∧ w'.cell? (ad404.add (x6_1).toNat) = some (.int .i64 (rd l0_0 x6_1)) ∧ w'.cell? (ad405.add (x6_1).toNat) = some (.int .i64 (rd l1_0 x6_1))) (ds := []) #[false, false, false, false, false, false, false, false, false, false, false, false] (by kernel_rfl) rfl rfl ⟨(blk_cell BK401.out 0).trans rfl, (blk_cell BK401.out 1).trans rfl, (blk_cell BK402.out 0).trans rfl, (blk_cell BK402.out 1).trans rfl, ((HB.out.cell (World.block_lt_of_cell? w _ hw404_0)).trans hw404_0), ((HB.out.cell (World.block_lt_of_cell? w _ hw405_0)).trans hw405_0)⟩ (fun hHeld => ?_); refine with_tabW triglyphref03_Cmp.tab5 triglyphref03_Cmp.bits5 (fun HT_ HW_ => ?_)
      generalize wr.drew = w17 at BK401 BK402 HB hx404_0 hx405_0 hHeld ⊢
      refine pure_ (i := 0) (N := some 26) (v := ?_) (a' := ?_) #[true, false, false, false, false, false, false, false, false, false, false, false] rfl rfl (any_of HT_.out (by kernel_rfl)) (fun _ _ _ h => h) (Or.inl ⟨by rfl, ?_⟩) ?_ ?_; rotate_left
      ·intro w'; go_simp; with_reducible rfl
      rotate_left
      ·simp only [Act.put, List.setIfInBounds_toArray, List.set_cons_zero, List.set_cons_succ, i64_w, i32_w]; rfl
      refine pure_ (i := 2) (N := some 28) (v := ?_) (a' := ?_) #[true, false, true, false, false, false, false, false, false, false, false, false] rfl rfl (any_of HT_.out (by kernel_rfl)) (fun _ _ _ h => h) (Or.inl ⟨by rfl, ?_⟩) ?_ ?_; rotate_left
      ·intro w'; go_simp; with_reducible rfl
      rotate_left
      ·simp only [Act.put, List.setIfInBounds_toArray, List.set_cons_zero, List.set_cons_succ, i64_w, i32_w]; rfl
      refine pure_ (i := 5) (N := some 31) (v := ?_) (a' := ?_) #[true, false, true, false, false, true, false, false, false, false, false, false] rfl rfl (any_of HT_.out (by kernel_rfl)) (fun _ _ _ h => h) (Or.inl ⟨by rfl, ?_⟩) ?_ ?_; rotate_left
      ·intro w'; go_simp; with_reducible rfl
      rotate_left
      ·simp only [Act.put, List.setIfInBounds_toArray, List.set_cons_zero, List.set_cons_succ, i64_w, i32_w]; rfl
      refine pure_ (i := 7) (N := some 33) (v := ?_) (a' := ?_) #[true, false, true, false, false, true, false, true, false, false, false, false] rfl rfl (any_of HT_.out (by kernel_rfl)) (fun _ _ _ h => h) (Or.inl ⟨by rfl, ?_⟩) ?_ ?_; rotate_left
      ·intro w'; go_simp; with_reducible rfl
      rotate_left
      ·simp only [Act.put, List.setIfInBounds_toArray, List.set_cons_zero, List.set_cons_succ, i64_w, i32_w]; rfl
      refine take_ (i := 1) (N := some 27) (v := ?_) (a' := ?_) #[true, true, true, false, false, true, false, true, false, false, false, false] rfl rfl (take_ofW HT_.out HW_.out (by kernel_rfl)) (fun _ _ _ h => h) (Or.inl ⟨by rfl, ?_⟩) hHeld ?_ ?_; rotate_left
      ·rintro w' ⟨s0, s1, s2, s3, s4, s5⟩; go_simp; with_reducible rfl
      rotate_left
      ·simp only [Act.put, List.setIfInBounds_toArray, List.set_cons_zero, List.set_cons_succ, i64_w, i32_w]; rfl
      refine pure_ (i := 3) (N := some 29) (v := ?_) (a' := ?_) #[true, true, true, true, false, true, false, true, false, false, false, false] rfl rfl (any_of HT_.out (by kernel_rfl)) (fun _ _ _ h => h) (Or.inl ⟨by rfl, ?_⟩) ?_ ?_; rotate_left
      ·intro w'; go_simp; with_reducible rfl
      rotate_left
      ·simp only [Act.put, List.setIfInBounds_toArray, List.set_cons_zero, List.set_cons_succ, i64_w, i32_w]; rfl
      refine take_ (i := 4) (N := some 30) (v := ?_) (a' := ?_) #[true, true, true, true, true, true, false, true, false, false, false, false] rfl rfl (take_ofW HT_.out HW_.out (by kernel_rfl)) (fun _ _ _ h => h) (Or.inl ⟨by rfl, ?_⟩) hHeld ?_ ?_; rotate_left
      ·rintro w' ⟨s0, s1, s2, s3, s4, s5⟩; go_simp; with_reducible rfl
      rotate_left
      ·simp only [Act.put, List.setIfInBounds_toArray, List.set_cons_zero, List.set_cons_succ, i64_w, i32_w]; rfl
      refine take_ (i := 6) (N := some 32) (v := ?_) (a' := ?_) #[true, true, true, true, true, true, true, true, false, false, false, false] rfl rfl (take_ofW HT_.out HW_.out (by kernel_rfl)) (fun _ _ _ h => h) (Or.inl ⟨by rfl, ?_⟩) hHeld ?_ ?_; rotate_left
      ·rintro w' ⟨s0, s1, s2, s3, s4, s5⟩; go_simp; with_reducible rfl
      rotate_left
      ·simp only [Act.put, List.setIfInBounds_toArray, List.set_cons_zero, List.set_cons_succ, i64_w, i32_w]; rfl
      refine pure_ (i := 8) (N := some 34) (v := ?_) (a' := ?_) #[true, true, true, true, true, true, true, true, true, false, false, false] rfl rfl (any_of HT_.out (by kernel_rfl)) (fun _ _ _ h => h) (Or.inl ⟨by rfl, ?_⟩) ?_ ?_; rotate_left
      ·intro w'; go_simp; with_reducible rfl
      rotate_left
      ·simp only [Act.put, List.setIfInBounds_toArray, List.set_cons_zero, List.set_cons_succ, i64_w, i32_w]; rfl
      refine take_ (i := 9) (N := some 35) (v := ?_) (a' := ?_) #[true, true, true, true, true, true, true, true, true, true, false, false] rfl rfl (take_ofW HT_.out HW_.out (by kernel_rfl)) (fun _ _ _ h => h) (Or.inl ⟨by rfl, ?_⟩) hHeld ?_ ?_; rotate_left
      ·rintro w' ⟨s0, s1, s2, s3, s4, s5⟩; go_simp; with_reducible rfl
      rotate_left
      ·simp only [Act.put, List.setIfInBounds_toArray, List.set_cons_zero, List.set_cons_succ, i64_w, i32_w]; rfl
      refine one_ (i := 10) (N := some 36) #[true, true, true, true, true, true, true, true, true, true, true, false] rfl rfl (one_of HT_.out (by kernel_rfl)) (by decide) (fun K hK => ?_)
      refine goes_ Try.func56 (by kernel_rfl) rfl #[.int .i64 (rd l0_0 x6_1), .int .i64 (rd l1_0 x6_1)] (by rfl) rfl rfl (by (try simp only [List.map_toArray, List.map_cons, List.map_nil]); first | done | rfl | (simp only [List.length_drop, List.length_take]; rfl)) ?_
      with_reducible refine (triglyphref03_ints.calls (rd l0_0 x6_1) (rd l1_0 x6_1) t406 _ A14.out).mono ?_
      rintro e w' ⟨rfl, ⟨nd, rfl⟩⟩
      refine ⟨_, rfl, ?_⟩
      refine hK.out _ _ ⟨(blk_cell BK401.out 0).trans rfl, (blk_cell BK401.out 1).trans rfl, (blk_cell BK402.out 0).trans rfl, (blk_cell BK402.out 1).trans rfl, ((HB.out.cell (World.block_lt_of_cell? w _ hw404_0)).trans hw404_0), ((HB.out.cell (World.block_lt_of_cell? w _ hw405_0)).trans hw405_0)⟩ (fun hHeld => ?_); clear hK K
      refine norm_ (a' := ?_) ?_ ?_; rotate_left
      ·show Act.put _ (some 36) _ = _
       simp only [Act.put, List.setIfInBounds_toArray, List.set_cons_zero, List.set_cons_succ, i64_w, i32_w]; rfl
      refine pure_ (i := 11) (N := some 5) (v := ?_) (a' := ?_) #[true, true, true, true, true, true, true, true, true, true, true, true] rfl rfl (any_of HT_.out (by kernel_rfl)) (fun _ _ _ h => h) (Or.inl ⟨by rfl, ?_⟩) ?_ ?_; rotate_left
      ·intro w'; go_simp; with_reducible rfl
      rotate_left
      ·simp only [Act.put, List.setIfInBounds_toArray, List.set_cons_zero, List.set_cons_succ, i64_w, i32_w]; rfl
      refine done_ (done_of HT_.out (by kernel_rfl)) ?_
      try go_wp2
      go_roundg k1
      case measure => have := HK1.out; omega
      case rel => exact ⟨(t406), (wrap64 (x6_1 + 1)), (rfl), (rfl), H', ⟨by have := HK1.out; omega⟩, ⟨gK BK401⟩, ⟨gK BK402⟩, ⟨by repeat first | exact gB HB | refine below_set ?_ GE401.out | refine below_set ?_ GE402.out⟩⟩
     ·rw [if_neg c11] at H
      have c11b0 : (x5_1 == 0) = false := beq_eq_false_iff_ne.mpr c11
      have c11b1 : (x5_1 != 0) = true := bne_iff_ne.mpr c11
      have H' := gA H
      clear H
      have hnb18 := NB401_402.out
      have hnc18 := NB402_401.out
      obtain ⟨hcz19_0, hcz19_1, hfz19_0, hfz19_1⟩ := gz2 BK401
      go_wp2
      all_goals (go_meet; (case rel => exact ⟨_, (x5_1), (by first | rfl | (simp; done) | (simp [*]; done) | (exfalso; simp_all; done) | (exfalso; simp_all; omega)), H', ⟨by have := HK1.out; first | omega | exact Nat.le_refl _⟩, ⟨gK BK401⟩, ⟨gK BK402⟩, ⟨gB HB⟩⟩))
    ·rw [if_neg c10] at H
     have c10b0 := decide_eq_false c10
     clear c10
     (first | rw [c10b0] | (simp only [i64_w, i32_w]; rw [c10b0]) | skip)
     have H' := gA H
     clear H
     have hnb20 := NB401_402.out
     have hnc20 := NB402_401.out
     obtain ⟨hcz21_0, hcz21_1, hfz21_0, hfz21_1⟩ := gz2 BK401
     go_wp2
     all_goals (go_meet; (case rel => exact ⟨_, (x5_1), (by first | rfl | (simp; done) | (simp [*]; done) | (exfalso; simp_all; done) | (exfalso; simp_all; omega)), H', ⟨by have := HK1.out; first | omega | exact Nat.le_refl _⟩, ⟨gK BK401⟩, ⟨gK BK402⟩, ⟨gB HB⟩⟩))
 case rest =>
  clear HC4
  try clear c1
  try clear c2
  try clear p2
  try clear c3
  try clear p4
  try clear q4
  try clear hx4
  try clear c5
  try clear p6
  try clear c7
  try clear c10
  try clear c10b0
  try clear c11
  try clear c11b0
  try clear c11b1
  try clear c12
  try clear c12b0
  try clear c13
  try clear c13b0
  try clear c15
  try clear c18
  try clear c20
  try clear hcz16_0
  try clear hcz16_1
  try clear hcz19_0
  try clear hcz19_1
  try clear hcz21_0
  try clear hcz21_1
  try clear hcz8_0
  try clear hcz8_1
  try clear hcz9_0
  try clear hcz9_1
  try clear hfz16_0
  try clear hfz16_1
  try clear hfz19_0
  try clear hfz19_1
  try clear hfz21_0
  try clear hfz21_1
  try clear hfz8_0
  try clear hfz8_1
  try clear hfz9_0
  try clear hfz9_1
  try clear hx404_0
  try clear hx405_0
  try clear p2
  try clear p404
  try clear p405
  try clear q404
  try clear q405
  obtain ⟨kq, x5_3, rfl, HA, HJ3, BK401, BK402, HB⟩ := hcut
  cases kq with
  | zero => exact absurd HA.out (by simp [triglyphref03_Cmp.j1])
  | succ kj3 =>
   have H := HA.out; clear HA
   simp only [triglyphref03_Cmp.j1] at H
   have H' := gA H
   clear H
   go_wp2
   go_loopg [5, 7] kj3 (fun kq v5 v7 w' => ∃ (x5_2 : Int) (x7_2 : Int), v5 = .int .i64 x5_2 ∧ v7 = .int .i64 x7_2 ∧ Aside0 (triglyphref03_Cmp.l1 kq x5_2 x7_2 l0_0 l0_1 l1_0 l1_1 = some r) ∧ Aside0 (kq ≤ kj3) ∧ Aside0 (w'.heap[gb401]? = some (.cells #[(.slice A0_0 l0_0.length c0_0), (.slice A0_1 l0_1.length c0_1)] 25 (0, 0))) ∧ Aside0 (w'.heap[gb402]? = some (.cells #[(.slice A1_0 l1_0.length c1_0), (.slice A1_1 l1_1.length c1_1)] 25 (0, 0))) ∧ Aside0 (Below w.heap.size w w'))
   case atStart => exact ⟨(x5_3), (0), (rfl), (rfl), H', ⟨Nat.le_refl _⟩, ⟨gK BK401⟩, ⟨gK BK402⟩, ⟨by repeat first | exact gB HB | refine below_set ?_ GE401.out | refine below_set ?_ GE402.out⟩⟩
   case round =>
    clear H'
    try clear c1
    try clear c2
    try clear p2
    try clear c3
    try clear p4
    try clear q4
    try clear hx4
    try clear c5
    try clear p6
    try clear c7
    try clear c10
    try clear c10b0
    try clear c11
    try clear c11b0
    try clear c11b1
    try clear c12
    try clear c12b0
    try clear c13
    try clear c13b0
    try clear c15
    try clear c18
    try clear c20
    try clear hcz16_0
    try clear hcz16_1
    try clear hcz19_0
    try clear hcz19_1
    try clear hcz21_0
    try clear hcz21_1
    try clear hcz8_0
    try clear hcz8_1
    try clear hcz9_0
    try clear hcz9_1
    try clear hfz16_0
    try clear hfz16_1
    try clear hfz19_0
    try clear hfz19_1
    try clear hfz21_0
    try clear hfz21_1
    try clear hfz8_0
    try clear hfz8_1
    try clear hfz9_0
    try clear hfz9_1
    try clear hx404_0
    try clear hx405_0
    try clear p2
    try clear p4
    try clear p404
    try clear p405
    try clear p6
    try clear q4
    try clear q404
    try clear q405
    obtain ⟨x5_2, x7_2, rfl, rfl, HA, HK2, BK401, BK402, HB⟩ := hrel
    cases gk with
    | zero => exact absurd HA.out (by simp [triglyphref03_Cmp.l1])
    | succ k2 =>
     have H := HA.out; clear HA
     simp only [triglyphref03_Cmp.l1] at H
     by_cases c22 : x7_2 < (l0_1.length : Int)
     ·rw [if_pos c22] at H
      have c22b0 := decide_eq_true c22
      clear c22
      by_cases c23 : x7_2 < (l1_1.length : Int)
      ·rw [if_pos c23] at H
       have c23b0 := decide_eq_true c23
       clear c23
       by_cases c24 : x5_2 = 0
       ·rw [if_pos c24] at H
        have c24b0 : (x5_2 == 0) = true := beq_iff_eq.mpr c24
        have c24b1 : (x5_2 != 0) = false := bne_eq_false_iff_eq.mpr c24
        clear c24
        obtain ⟨c25, H⟩ := iS H
        have c25b0 := decide_eq_true c25
        clear c25
        replace H := Option.bind_eq_some_iff.mp H
        obtain ⟨t409, A260, H⟩ := H
        replace H : (triglyphref03_Cmp.l1 k2 t409 (wrap64 (x7_2 + 1)) l0_0 l0_1 l1_0 l1_1) = some r := H
        have A26 := gA A260
        clear A260
        have H' := gA H
        clear H
        have hnb27 := NB401_402.out
        have hnc27 := NB402_401.out
        obtain ⟨hcz28_0, hcz28_1, hfz28_0, hfz28_1⟩ := gz2 BK401
        obtain ⟨hcz29_0, hcz29_1, hfz29_0, hfz29_1⟩ := gz2 BK402
        try go_wp2
        replace BK401 := gA (blk_drew BK401.out); replace BK402 := gA (blk_drew BK402.out); replace HB := gA (below_drew1 HB.out)
        have p407 : 0 ≤ (x7_2 : Int) := of_decide_eq_true (by assumption)
        have q407 : x7_2 < (l0_1.length : Int) := of_decide_eq_true (by assumption)
        obtain ⟨ad407, A407_2, c407_2, e407, hx407_0, hx407_1, hx407_2, hl407_2, hi407_2⟩ := at_T45 HR0_1.out x7_2 p407 q407
        have hw407_2 := hx407_2
        have hw407_1 := hx407_1
        have hw407_0 := hx407_0
        cases e407
        replace hx407_0 := (HB.out.cell (World.block_lt_of_cell? w _ hx407_0)).trans hx407_0
        replace hx407_1 := (HB.out.cell (World.block_lt_of_cell? w _ hx407_1)).trans hx407_1
        replace hx407_2 := (HB.out.cell (World.block_lt_of_cell? w _ hx407_2)).trans hx407_2
        have HR407_2 := gA hi407_2
        have HC407_2 := gA hl407_2
        clear hi407_2 hl407_2
        replace p407 := eq_true p407
        replace q407 := eq_true q407
        have p408 : 0 ≤ (x7_2 : Int) := of_decide_eq_true (by assumption)
        have q408 : x7_2 < (l1_1.length : Int) := of_decide_eq_true (by assumption)
        obtain ⟨ad408, A408_2, c408_2, e408, hx408_0, hx408_1, hx408_2, hl408_2, hi408_2⟩ := at_T45 HR1_1.out x7_2 p408 q408
        have hw408_2 := hx408_2
        have hw408_1 := hx408_1
        have hw408_0 := hx408_0
        cases e408
        replace hx408_0 := (HB.out.cell (World.block_lt_of_cell? w _ hx408_0)).trans hx408_0
        replace hx408_1 := (HB.out.cell (World.block_lt_of_cell? w _ hx408_1)).trans hx408_1
        replace hx408_2 := (HB.out.cell (World.block_lt_of_cell? w _ hx408_2)).trans hx408_2
        have HR408_2 := gA hi408_2
        have HC408_2 := gA hl408_2
        clear hi408_2 hl408_2
        replace p408 := eq_true p408
        replace q408 := eq_true q408
        refine start_ (n := 12) (S := fun w' => w'.cell? ⟨gb401, 0, none⟩ = some (.slice A0_0 l0_0.length c0_0) ∧ w'.cell? ⟨gb401, 1, none⟩ = some (.slice (some ad407) l0_1.length c0_1) ∧ w'.cell? ⟨gb402, 0, none⟩ = some (.slice A1_0 l1_0.length c1_0) ∧ w'.cell? ⟨gb402, 1, none⟩ = some (.slice (some ad408) l1_1.length c1_1) ∧ w'.cell? (ad407.add ((x7_2).toNat * 3)) = some (.int .i64 ((rd_T45 l0_1 x7_2).f0)) ∧ w'.cell? ⟨(ad407.add ((x7_2).toNat * 3)).block, (ad407.add ((x7_2).toNat * 3)).off + 1, none⟩ = some (.int .i64 ((rd_T45 l0_1 x7_2).f1)) ∧ w'.cell? ⟨(ad407.add ((x7_2).toNat * 3)).block, (ad407.add ((x7_2).toNat * 3)).off + 2, none⟩ = some (.slice A407_2 ((rd_T45 l0_1 x7_2).f2).length c407_2) ∧ w'.cell? (ad408.add ((x7_2).toNat * 3)) = some (.int .i64 ((rd_T45 l1_1 x7_2).f0)) ∧ w'.cell? ⟨(ad408.add ((x7_2).toNat * 3)).block, (ad408.add ((x7_2).toNat * 3)).off + 1, none⟩ = some (.int .i64 ((rd_T45 l1_1 x7_2).f1)) ∧ w'.cell? ⟨(ad408.add ((x7_2).toNat * 3)).block, (ad408.add ((x7_2).toNat * 3)).off + 2, none⟩ = some (.slice A408_2 ((rd_T45 l1_1 x7_2).f2).length c408_2)) (ds := []) #[false, false, false, false, false, false, false, false, false, false, false, false] (by kernel_rfl) rfl rfl ⟨(blk_cell BK401.out 0).trans rfl, (blk_cell BK401.out 1).trans rfl, (blk_cell BK402.out 0).trans rfl, (blk_cell BK402.out 1).trans rfl, ((HB.out.cell (World.block_lt_of_cell? w _ hw407_0)).trans hw407_0), ((HB.out.cell (World.block_lt_of_cell? w _ hw407_1)).trans hw407_1), ((HB.out.cell (World.block_lt_of_cell? w _ hw407_2)).trans hw407_2), ((HB.out.cell (World.block_lt_of_cell? w _ hw408_0)).trans hw408_0), ((HB.out.cell (World.block_lt_of_cell? w _ hw408_1)).trans hw408_1), ((HB.out.cell (World.block_lt_of_cell? w _ hw408_2)).trans hw408_2)⟩ (fun hHeld => ?_); refine with_tabW triglyphref03_Cmp.tab9 triglyphref03_Cmp.bits9 (fun HT_ HW_ => ?_)
        generalize wr.drew = w30 at BK401 BK402 HB HR407_2 HR408_2 hx407_0 hx407_1 hx407_2 hx408_0 hx408_1 hx408_2 hHeld ⊢
        refine pure_ (i := 0) (N := some 55) (v := ?_) (a' := ?_) #[true, false, false, false, false, false, false, false, false, false, false, false] rfl rfl (any_of HT_.out (by kernel_rfl)) (fun _ _ _ h => h) (Or.inl ⟨by rfl, ?_⟩) ?_ ?_; rotate_left
        ·intro w'; go_simp; with_reducible rfl
        rotate_left
        ·simp only [Act.put, List.setIfInBounds_toArray, List.set_cons_zero, List.set_cons_succ, i64_w, i32_w]; rfl
        refine pure_ (i := 2) (N := some 57) (v := ?_) (a' := ?_) #[true, false, true, false, false, false, false, false, false, false, false, false] rfl rfl (any_of HT_.out (by kernel_rfl)) (fun _ _ _ h => h) (Or.inl ⟨by rfl, ?_⟩) ?_ ?_; rotate_left
        ·intro w'; go_simp; with_reducible rfl
        rotate_left
        ·simp only [Act.put, List.setIfInBounds_toArray, List.set_cons_zero, List.set_cons_succ, i64_w, i32_w]; rfl
        refine pure_ (i := 5) (N := some 60) (v := ?_) (a' := ?_) #[true, false, true, false, false, true, false, false, false, false, false, false] rfl rfl (any_of HT_.out (by kernel_rfl)) (fun _ _ _ h => h) (Or.inl ⟨by rfl, ?_⟩) ?_ ?_; rotate_left
        ·intro w'; go_simp; with_reducible rfl
        rotate_left
        ·simp only [Act.put, List.setIfInBounds_toArray, List.set_cons_zero, List.set_cons_succ, i64_w, i32_w]; rfl
        refine pure_ (i := 7) (N := some 62) (v := ?_) (a' := ?_) #[true, false, true, false, false, true, false, true, false, false, false, false] rfl rfl (any_of HT_.out (by kernel_rfl)) (fun _ _ _ h => h) (Or.inl ⟨by rfl, ?_⟩) ?_ ?_; rotate_left
        ·intro w'; go_simp; with_reducible rfl
        rotate_left
        ·simp only [Act.put, List.setIfInBounds_toArray, List.set_cons_zero, List.set_cons_succ, i64_w, i32_w]; rfl
        refine take_ (i := 1) (N := some 56) (v := ?_) (a' := ?_) #[true, true, true, false, false, true, false, true, false, false, false, false] rfl rfl (take_ofW HT_.out HW_.out (by kernel_rfl)) (fun _ _ _ h => h) (Or.inl ⟨by rfl, ?_⟩) hHeld ?_ ?_; rotate_left
        ·rintro w' ⟨s0, s1, s2, s3, s4, s5, s6, s7, s8, s9⟩; go_simp; with_reducible rfl
        rotate_left
        ·simp only [Act.put, List.setIfInBounds_toArray, List.set_cons_zero, List.set_cons_succ, i64_w, i32_w]; rfl
        refine pure_ (i := 3) (N := some 58) (v := ?_) (a' := ?_) #[true, true, true, true, false, true, false, true, false, false, false, false] rfl rfl (any_of HT_.out (by kernel_rfl)) (fun _ _ _ h => h) (Or.inl ⟨by rfl, ?_⟩) ?_ ?_; rotate_left
        ·intro w'; go_simp; with_reducible rfl
        rotate_left
        ·simp only [Act.put, List.setIfInBounds_toArray, List.set_cons_zero, List.set_cons_succ, i64_w, i32_w]; rfl
        refine take_ (i := 4) (N := some 59) (v := ?_) (a' := ?_) #[true, true, true, true, true, true, false, true, false, false, false, false] rfl rfl (take_ofW HT_.out HW_.out (by kernel_rfl)) (fun _ _ _ h => h) (Or.inl ⟨by rfl, ?_⟩) hHeld ?_ ?_; rotate_left
        ·rintro w' ⟨s0, s1, s2, s3, s4, s5, s6, s7, s8, s9⟩; go_simp; with_reducible rfl
        rotate_left
        ·simp only [Act.put, List.setIfInBounds_toArray, List.set_cons_zero, List.set_cons_succ, i64_w, i32_w]; rfl
        refine take_ (i := 6) (N := some 61) (v := ?_) (a' := ?_) #[true, true, true, true, true, true, true, true, false, false, false, false] rfl rfl (take_ofW HT_.out HW_.out (by kernel_rfl)) (fun _ _ _ h => h) (Or.inl ⟨by rfl, ?_⟩) hHeld ?_ ?_; rotate_left
        ·rintro w' ⟨s0, s1, s2, s3, s4, s5, s6, s7, s8, s9⟩; go_simp; with_reducible rfl
        rotate_left
        ·simp only [Act.put, List.setIfInBounds_toArray, List.set_cons_zero, List.set_cons_succ, i64_w, i32_w]; rfl
        refine pure_ (i := 8) (N := some 63) (v := ?_) (a' := ?_) #[true, true, true, true, true, true, true, true, true, false, false, false] rfl rfl (any_of HT_.out (by kernel_rfl)) (fun _ _ _ h => h) (Or.inl ⟨by rfl, ?_⟩) ?_ ?_; rotate_left
        ·intro w'; go_simp; with_reducible rfl
        rotate_left
        ·simp only [Act.put, List.setIfInBounds_toArray, List.set_cons_zero, List.set_cons_succ, i64_w, i32_w]; rfl
        refine take_ (i := 9) (N := some 64) (v := ?_) (a' := ?_) #[true, true, true, true, true, true, true, true, true, true, false, false] rfl rfl (take_ofW HT_.out HW_.out (by kernel_rfl)) (fun _ _ _ h => h) (Or.inl ⟨by rfl, ?_⟩) hHeld ?_ ?_; rotate_left
        ·rintro w' ⟨s0, s1, s2, s3, s4, s5, s6, s7, s8, s9⟩; go_simp; with_reducible rfl
        rotate_left
        ·simp only [Act.put, List.setIfInBounds_toArray, List.set_cons_zero, List.set_cons_succ, i64_w, i32_w]; rfl
        refine one_ (i := 10) (N := some 65) #[true, true, true, true, true, true, true, true, true, true, true, false] rfl rfl (one_of HT_.out (by kernel_rfl)) (by decide) (fun K hK => ?_)
        refine goes_ Try.func57 (by kernel_rfl) rfl #[.agg #[.int .i64 ((rd_T45 l0_1 x7_2).f0), .int .i64 ((rd_T45 l0_1 x7_2).f1), .slice A407_2 ((rd_T45 l0_1 x7_2).f2).length c407_2], .agg #[.int .i64 ((rd_T45 l1_1 x7_2).f0), .int .i64 ((rd_T45 l1_1 x7_2).f1), .slice A408_2 ((rd_T45 l1_1 x7_2).f2).length c408_2]] (by rfl) rfl rfl (by (try simp only [List.map_toArray, List.map_cons, List.map_nil]); first | done | rfl | (simp only [List.length_drop, List.length_take]; rfl)) ?_
        with_reducible refine (ih_triglyphref03_Cell k2 (by have := HJ3.out; have := HK2.out; omega) ((rd_T45 l0_1 x7_2).f0) ((rd_T45 l0_1 x7_2).f1) _ _ ((rd_T45 l0_1 x7_2).f2) ((rd_T45 l1_1 x7_2).f0) ((rd_T45 l1_1 x7_2).f1) _ _ ((rd_T45 l1_1 x7_2).f2) t409 _ ?side1 ?side2 ?side3 ?side4 A26.out).mono ?_
        (case side1 => exact gC HR407_2 HB)
        (case side2 => exact HC407_2.out)
        (case side3 => exact gC HR408_2 HB)
        (case side4 => exact HC408_2.out)
        rintro e w31 ⟨rfl, hb⟩
        refine ⟨_, rfl, ?_⟩
        replace BK401 := gA (blk_below (gK BK401) hb); replace BK402 := gA (blk_below (gK BK402) hb); replace HB := gA (below_step (gB HB) hb); (try clear hb)
        refine hK.out _ _ ⟨(blk_cell BK401.out 0).trans rfl, (blk_cell BK401.out 1).trans rfl, (blk_cell BK402.out 0).trans rfl, (blk_cell BK402.out 1).trans rfl, ((HB.out.cell (World.block_lt_of_cell? w _ hw407_0)).trans hw407_0), ((HB.out.cell (World.block_lt_of_cell? w _ hw407_1)).trans hw407_1), ((HB.out.cell (World.block_lt_of_cell? w _ hw407_2)).trans hw407_2), ((HB.out.cell (World.block_lt_of_cell? w _ hw408_0)).trans hw408_0), ((HB.out.cell (World.block_lt_of_cell? w _ hw408_1)).trans hw408_1), ((HB.out.cell (World.block_lt_of_cell? w _ hw408_2)).trans hw408_2)⟩ (fun hHeld => ?_); clear hK K
        refine norm_ (a' := ?_) ?_ ?_; rotate_left
        ·show Act.put _ (some 65) _ = _
         simp only [Act.put, List.setIfInBounds_toArray, List.set_cons_zero, List.set_cons_succ, i64_w, i32_w]; rfl
        refine pure_ (i := 11) (N := some 5) (v := ?_) (a' := ?_) #[true, true, true, true, true, true, true, true, true, true, true, true] rfl rfl (any_of HT_.out (by kernel_rfl)) (fun _ _ _ h => h) (Or.inl ⟨by rfl, ?_⟩) ?_ ?_; rotate_left
        ·intro w'; go_simp; with_reducible rfl
        rotate_left
        ·simp only [Act.put, List.setIfInBounds_toArray, List.set_cons_zero, List.set_cons_succ, i64_w, i32_w]; rfl
        refine done_ (done_of HT_.out (by kernel_rfl)) ?_
        try go_wp2
        go_roundg k2
        case measure => have := HJ3.out; have := HK2.out; omega
        case rel => exact ⟨(t409), (wrap64 (x7_2 + 1)), (rfl), (rfl), H', ⟨by have := HJ3.out; have := HK2.out; omega⟩, ⟨gK BK401⟩, ⟨gK BK402⟩, ⟨gB HB⟩⟩
       ·rw [if_neg c24] at H
        have c24b0 : (x5_2 == 0) = false := beq_eq_false_iff_ne.mpr c24
        have c24b1 : (x5_2 != 0) = true := bne_iff_ne.mpr c24
        obtain rfl := Option.some.inj H
        have hnb32 := NB401_402.out
        have hnc32 := NB402_401.out
        obtain ⟨hcz33_0, hcz33_1, hfz33_0, hfz33_1⟩ := gz2 BK401
        obtain ⟨hcz34_0, hcz34_1, hfz34_0, hfz34_1⟩ := gz2 BK402
        go_wp2
        go_ret
        exact ⟨rfl, by repeat first | exact gB HB | refine below_set ?_ GE401.out | refine below_set ?_ GE402.out⟩
      ·rw [if_neg c23] at H
       have c23b0 := decide_eq_false c23
       clear c23
       by_cases c35 : x5_2 = 0
       ·rw [if_pos c35] at H
        have c35b0 : (x5_2 == 0) = true := beq_iff_eq.mpr c35
        have c35b1 : (x5_2 != 0) = false := bne_eq_false_iff_eq.mpr c35
        clear c35
        replace H := Option.bind_eq_some_iff.mp H
        obtain ⟨t410, A360, H⟩ := H
        replace H : (some t410) = some r := H
        have A36 := gA A360
        clear A360
        obtain rfl := Option.some.inj H
        have hnb37 := NB401_402.out
        have hnc37 := NB402_401.out
        obtain ⟨hcz38_0, hcz38_1, hfz38_0, hfz38_1⟩ := gz2 BK401
        obtain ⟨hcz39_0, hcz39_1, hfz39_0, hfz39_1⟩ := gz2 BK402
        go_wp2_with (first | ((with_reducible refine gate_callee (f := 56) rfl ?_); refine goesL_ (some 74) rfl rfl Try.func56 (by kernel_rfl) rfl #[.int .i64 (l0_1.length : Int), .int .i64 (l1_1.length : Int)] rfl (by (try simp only [List.map_toArray, List.map_cons, List.map_nil]); first | done | rfl | (simp only [List.length_drop, List.length_take]; rfl)) ?_; (with_reducible refine (triglyphref03_ints.calls (l0_1.length : Int) (l1_1.length : Int) t410 _ A36.out).mono ?_); rintro e w' ⟨rfl, ⟨nd, rfl⟩⟩; refine ⟨_, rfl, ?_⟩))
        go_ret
        exact ⟨rfl, by repeat first | exact gB HB | refine below_set ?_ GE401.out | refine below_set ?_ GE402.out⟩
       ·rw [if_neg c35] at H
        have c35b0 : (x5_2 == 0) = false := beq_eq_false_iff_ne.mpr c35
        have c35b1 : (x5_2 != 0) = true := bne_iff_ne.mpr c35
        obtain rfl := Option.some.inj H
        have hnb40 := NB401_402.out
        have hnc40 := NB402_401.out
        obtain ⟨hcz41_0, hcz41_1, hfz41_0, hfz41_1⟩ := gz2 BK401
        obtain ⟨hcz42_0, hcz42_1, hfz42_0, hfz42_1⟩ := gz2 BK402
        go_wp2
        go_ret
        exact ⟨rfl, by repeat first | exact gB HB | refine below_set ?_ GE401.out | refine below_set ?_ GE402.out⟩
     ·rw [if_neg c22] at H
      have c22b0 := decide_eq_false c22
      clear c22
      by_cases c43 : x5_2 = 0
      ·rw [if_pos c43] at H
       have c43b0 : (x5_2 == 0) = true := beq_iff_eq.mpr c43
       have c43b1 : (x5_2 != 0) = false := bne_eq_false_iff_eq.mpr c43
       clear c43
       replace H := Option.bind_eq_some_iff.mp H
       obtain ⟨t411, A440, H⟩ := H
       replace H : (some t411) = some r := H
       have A44 := gA A440
       clear A440
       obtain rfl := Option.some.inj H
       have hnb45 := NB401_402.out
       have hnc45 := NB402_401.out
       obtain ⟨hcz46_0, hcz46_1, hfz46_0, hfz46_1⟩ := gz2 BK401
       obtain ⟨hcz47_0, hcz47_1, hfz47_0, hfz47_1⟩ := gz2 BK402
       go_wp2_with (first | ((with_reducible refine gate_callee (f := 56) rfl ?_); refine goesL_ (some 74) rfl rfl Try.func56 (by kernel_rfl) rfl #[.int .i64 (l0_1.length : Int), .int .i64 (l1_1.length : Int)] rfl (by (try simp only [List.map_toArray, List.map_cons, List.map_nil]); first | done | rfl | (simp only [List.length_drop, List.length_take]; rfl)) ?_; (with_reducible refine (triglyphref03_ints.calls (l0_1.length : Int) (l1_1.length : Int) t411 _ A44.out).mono ?_); rintro e w' ⟨rfl, ⟨nd, rfl⟩⟩; refine ⟨_, rfl, ?_⟩))
       go_ret
       exact ⟨rfl, by repeat first | exact gB HB | refine below_set ?_ GE401.out | refine below_set ?_ GE402.out⟩
      ·rw [if_neg c43] at H
       have c43b0 : (x5_2 == 0) = false := beq_eq_false_iff_ne.mpr c43
       have c43b1 : (x5_2 != 0) = true := bne_iff_ne.mpr c43
       obtain rfl := Option.some.inj H
       have hnb48 := NB401_402.out
       have hnc48 := NB402_401.out
       obtain ⟨hcz49_0, hcz49_1, hfz49_0, hfz49_1⟩ := gz2 BK401
       go_wp2
       go_ret
       exact ⟨rfl, by repeat first | exact gB HB | refine below_set ?_ GE401.out | refine below_set ?_ GE402.out⟩
theorem scc57.calls (k : Nat) : (∀ (a0_0 : Int) (a0_1 : Int) (A0_2 : Option Addr) (c0_2 : Nat) (l0_2 : List (S25)) (a1_0 : Int) (a1_1 : Int) (A1_2 : Option Addr) (c1_2 : Nat) (l1_2 : List (S25)) (r : Int) (w : World) (hr0_2 : Kd.C k25 w A0_2 l0_2.length l0_2) (hc0_2 : l0_2.length ≤ c0_2) (hr1_2 : Kd.C k25 w A1_2 l1_2.length l1_2) (hc1_2 : l1_2.length ≤ c1_2) (h : triglyphref03_Cell.f k a0_0 a0_1 l0_2 a1_0 a1_1 l1_2 = some r),
  Calls Try.prog 57 #[.agg #[.int .i64 a0_0, .int .i64 a0_1, .slice A0_2 l0_2.length c0_2], .agg #[.int .i64 a1_0, .int .i64 a1_1, .slice A1_2 l1_2.length c1_2]] w fun e w' => e = .returned (.int .i64 r) ∧ Below w.heap.size w w') ∧ (∀ (A0_0 : Option Addr) (c0_0 : Nat) (l0_0 : List Int) (A0_1 : Option Addr) (c0_1 : Nat) (l0_1 : List (S45)) (A1_0 : Option Addr) (c1_0 : Nat) (l1_0 : List Int) (A1_1 : Option Addr) (c1_1 : Nat) (l1_1 : List (S45)) (r : Int) (w : World) (hr0_0 : Kd.C (Kd.int .i64) w A0_0 l0_0.length l0_0) (hc0_0 : l0_0.length ≤ c0_0) (hr0_1 : Kd.C k45 w A0_1 l0_1.length l0_1) (hc0_1 : l0_1.length ≤ c0_1) (hr1_0 : Kd.C (Kd.int .i64) w A1_0 l1_0.length l1_0) (hc1_0 : l1_0.length ≤ c1_0) (hr1_1 : Kd.C k45 w A1_1 l1_1.length l1_1) (hc1_1 : l1_1.length ≤ c1_1) (h : triglyphref03_Cmp.f k l0_0 l0_1 l1_0 l1_1 = some r),
  Calls Try.prog 35 #[.agg #[.slice A0_0 l0_0.length c0_0, .slice A0_1 l0_1.length c0_1], .agg #[.slice A1_0 l1_0.length c1_0, .slice A1_1 l1_1.length c1_1]] w fun e w' => e = .returned (.int .i64 r) ∧ Below w.heap.size w w') := by
 induction k using Nat.strongRecOn with
 | _ k ih =>
 exact ⟨triglyphref03_Cell.step k (fun k_ h_ => (ih k_ h_).1) (fun k_ h_ => (ih k_ h_).2), triglyphref03_Cmp.step k (fun k_ h_ => (ih k_ h_).1) (fun k_ h_ => (ih k_ h_).2)⟩
theorem triglyphref03_Cell.calls (k : Nat) : ∀ (a0_0 : Int) (a0_1 : Int) (A0_2 : Option Addr) (c0_2 : Nat) (l0_2 : List (S25)) (a1_0 : Int) (a1_1 : Int) (A1_2 : Option Addr) (c1_2 : Nat) (l1_2 : List (S25)) (r : Int) (w : World) (hr0_2 : Kd.C k25 w A0_2 l0_2.length l0_2) (hc0_2 : l0_2.length ≤ c0_2) (hr1_2 : Kd.C k25 w A1_2 l1_2.length l1_2) (hc1_2 : l1_2.length ≤ c1_2) (h : triglyphref03_Cell.f k a0_0 a0_1 l0_2 a1_0 a1_1 l1_2 = some r),
  Calls Try.prog 57 #[.agg #[.int .i64 a0_0, .int .i64 a0_1, .slice A0_2 l0_2.length c0_2], .agg #[.int .i64 a1_0, .int .i64 a1_1, .slice A1_2 l1_2.length c1_2]] w fun e w' => e = .returned (.int .i64 r) ∧ Below w.heap.size w w' := (scc57.calls k).1
theorem triglyphref03_Cmp.calls (k : Nat) : ∀ (A0_0 : Option Addr) (c0_0 : Nat) (l0_0 : List Int) (A0_1 : Option Addr) (c0_1 : Nat) (l0_1 : List (S45)) (A1_0 : Option Addr) (c1_0 : Nat) (l1_0 : List Int) (A1_1 : Option Addr) (c1_1 : Nat) (l1_1 : List (S45)) (r : Int) (w : World) (hr0_0 : Kd.C (Kd.int .i64) w A0_0 l0_0.length l0_0) (hc0_0 : l0_0.length ≤ c0_0) (hr0_1 : Kd.C k45 w A0_1 l0_1.length l0_1) (hc0_1 : l0_1.length ≤ c0_1) (hr1_0 : Kd.C (Kd.int .i64) w A1_0 l1_0.length l1_0) (hc1_0 : l1_0.length ≤ c1_0) (hr1_1 : Kd.C k45 w A1_1 l1_1.length l1_1) (hc1_1 : l1_1.length ≤ c1_1) (h : triglyphref03_Cmp.f k l0_0 l0_1 l1_0 l1_1 = some r),
  Calls Try.prog 35 #[.agg #[.slice A0_0 l0_0.length c0_0, .slice A0_1 l0_1.length c0_1], .agg #[.slice A1_0 l1_0.length c1_0, .slice A1_1 l1_1.length c1_1]] w fun e w' => e = .returned (.int .i64 r) ∧ Below w.heap.size w w' := (scc57.calls k).2
end Go.Proofs.Ytdihmempaonfjaa.P
