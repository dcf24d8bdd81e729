/- Written by a program of this session: the functions that the laws reach, what each comes to, and each law as it is stated, for every input. No condition. -/
import Derived.Test.YtiegcghapchimaaPx0
import Derived.Test.YtiegcghapchimaaPx12
import Derived.Test.YtiegcghapchimaaPx13
namespace Go.Proofs.Ytiegcghapchimaa.P
open Go.RowKit Go.Proofs.YtiegcghapchimaaW.PrintWords Go.Proofs.YtiegcghapchimaaW.PrintLast Go.Proofs.YtiegcghapchimaaW.PrintMore
attribute [local go_sem] max2_int min2_int max_two min_two max_three min_three max_four min_four   -- for this text's walks alone
set_option linter.unusedVariables false
set_option linter.unusedSimpArgs false
mutual
def triglyphref05_Reshape.l0 : Nat → Int → List Int → List (S39) → List Int → List (S39) → Option (List Int × (List (S39)) × Int)
 | 0, _, _, _, _, _ => none
 | k + 1, x8, x466000, x466001, x467000, x467001 => if x8 < (x466001.length : Int) then (if 0 ≤ x8 then (if ((rd_T39 x466001 x8).f0) = 0 then (if ((rd_T39 x466001 x8).f1) < 0 then (some (([] : List Int), ([] : List (S39)), 5)) else (triglyphref05_Reshape.l0 k (wrap64 (x8 + 1)) x466000 x466001 x467000 x467001)) else (some (([] : List Int), ([] : List (S39)), 5))) else (none)) else (if (x466001.length : Int) > 8 then (some (([] : List Int), ([] : List (S39)), 6)) else (triglyphref05_Reshape.l1 k 0 x466000 x466001 x467000 x467001 ([] : List Int)))
def triglyphref05_Reshape.l1 : Nat → Int → List Int → List (S39) → List Int → List (S39) → List Int → Option (List Int × (List (S39)) × Int)
 | 0, _, _, _, _, _, _ => none
 | k + 1, x10, x466000, x466001, x467000, x467001, x473000 => if x10 < (x466001.length : Int) then (if 0 ≤ x10 then (if ((rd_T39 x466001 x10).f1) > 16384 then (some (([] : List Int), ([] : List (S39)), 12)) else (if x473000.length < 17592186044416 then (triglyphref05_Reshape.l1 k (wrap64 (x10 + 1)) x466000 x466001 x467000 x467001 (x473000 ++ [(rd_T39 x466001 x10).f1])) else (none))) else (none)) else ((triglyphref03_Size.f k x473000).bind fun bt478 => (if bt478.2 = 0 then (if bt478.1 > 0 then (triglyphref05_Reshape.j2 k bt478.1 ((x467001.length : Int) == 0) x467000 x467001 x473000) else (triglyphref05_Reshape.j2 k bt478.1 false x467000 x467001 x473000)) else (some (([] : List Int), ([] : List (S39)), bt478.2))))
def triglyphref05_Reshape.j2 : Nat → Int → Bool → List Int → List (S39) → List Int → Option (List Int × (List (S39)) × Int)
 | 0, _, _, _, _, _ => none
 | k + 1, x11, x104, x467000, x467001, x473000 => if x104 = true then (some (([] : List Int), ([] : List (S39)), 7)) else (triglyphref05_Reshape.l2 k x11 0 x467000 x467001 x473000 ([] : List (S39)))
def triglyphref05_Reshape.l2 : Nat → Int → Int → List Int → List (S39) → List Int → List (S39) → Option (List Int × (List (S39)) × Int)
 | 0, _, _, _, _, _, _ => none
 | k + 1, x11, x13, x467000, x467001, x473000, x473001 => if x13 < x11 then (if (x467001.length : Int) = 0 then (none) else (if 0 ≤ (Int.tmod x13 (x467001.length : Int)) then (if (Int.tmod x13 (x467001.length : Int)) < (x467001.length : Int) then (if x473001.length < 3518437208883 then (triglyphref05_Reshape.l2 k x11 (wrap64 (x13 + 1)) x467000 x467001 x473000 (x473001 ++ [(⟨(rd_T39 x467001 (Int.tmod x13 (x467001.length : Int))).f0, (rd_T39 x467001 (Int.tmod x13 (x467001.length : Int))).f1, (rd_T39 x467001 (Int.tmod x13 (x467001.length : Int))).f2⟩ : S39)])) else (none)) else (none)) else (none))) else (some (x473000, x473001, 0))
end
def triglyphref05_Reshape.f (k : Nat) (l0_0 : List Int) (l0_1 : List (S39)) (l1_0 : List Int) (l1_1 : List (S39)) : Option (List Int × (List (S39)) × Int) := (triglyphref03_Check.f k l0_0 l0_1).bind fun t468 => (if t468 = 0 then ((triglyphref03_Check.f k l1_0 l1_1).bind fun t469 => (if t469 = 0 then (if (l0_0.length : Int) > 1 then (some (([] : List Int), ([] : List (S39)), 6)) else (triglyphref05_Reshape.l0 k 0 l0_0 l0_1 l1_0 l1_1)) else (some (([] : List Int), ([] : List (S39)), t469)))) else (some (([] : List Int), ([] : List (S39)), t468)))
theorem triglyphref05_Reshape.mono_l : ∀ k, (∀ y0 y1 y2 y3 y4, LeO (triglyphref05_Reshape.l0 k y0 y1 y2 y3 y4) (triglyphref05_Reshape.l0 (k + 1) y0 y1 y2 y3 y4)) ∧ (∀ y0 y1 y2 y3 y4 y5, LeO (triglyphref05_Reshape.l1 k y0 y1 y2 y3 y4 y5) (triglyphref05_Reshape.l1 (k + 1) y0 y1 y2 y3 y4 y5)) ∧ (∀ y0 y1 y2 y3 y4, LeO (triglyphref05_Reshape.j2 k y0 y1 y2 y3 y4) (triglyphref05_Reshape.j2 (k + 1) y0 y1 y2 y3 y4)) ∧ (∀ y0 y1 y2 y3 y4 y5, LeO (triglyphref05_Reshape.l2 k y0 y1 y2 y3 y4 y5) (triglyphref05_Reshape.l2 (k + 1) y0 y1 y2 y3 y4 y5))
 | 0 => ⟨fun _ _ _ _ _ r h => by simp [triglyphref05_Reshape.l0] at h, fun _ _ _ _ _ _ r h => by simp [triglyphref05_Reshape.l1] at h, fun _ _ _ _ _ r h => by simp [triglyphref05_Reshape.j2] at h, fun _ _ _ _ _ _ r h => by simp [triglyphref05_Reshape.l2] at h⟩
 | k + 1 => by
  obtain ⟨ih0, ih1, ih2, ih3⟩ := triglyphref05_Reshape.mono_l k
  refine ⟨?_, ?_, ?_, ?_⟩
  ·intro y0 y1 y2 y3 y4
   unfold triglyphref05_Reshape.l0
   repeat' first
   | (with_reducible exact ih0 _ _ _ _ _)
   | (with_reducible exact ih1 _ _ _ _ _ _)
   | (with_reducible exact ih2 _ _ _ _ _)
   | (with_reducible exact ih3 _ _ _ _ _ _)
   | (with_reducible exact triglyphref03_Check.mono _ _ _)
   | (with_reducible exact triglyphref03_Size.mono _ _)
   | (with_reducible exact LeO.refl _)
   | (with_reducible exact LeO.none _)
   | (with_reducible refine LeO.ite ?_ ?_)
   | (with_reducible refine LeO.bind ?_ (fun _ => ?_))




   | exact triglyphref03_Check.mono _ _ _
   | exact triglyphref03_Size.mono _ _



  ·intro y0 y1 y2 y3 y4 y5
   unfold triglyphref05_Reshape.l1
   repeat' first
   | (with_reducible exact ih0 _ _ _ _ _)
   | (with_reducible exact ih1 _ _ _ _ _ _)
   | (with_reducible exact ih2 _ _ _ _ _)
   | (with_reducible exact ih3 _ _ _ _ _ _)
   | (with_reducible exact triglyphref03_Check.mono _ _ _)
   | (with_reducible exact triglyphref03_Size.mono _ _)
   | (with_reducible exact LeO.refl _)
   | (with_reducible exact LeO.none _)
   | (with_reducible refine LeO.ite ?_ ?_)
   | (with_reducible refine LeO.bind ?_ (fun _ => ?_))




   | exact triglyphref03_Check.mono _ _ _
   | exact triglyphref03_Size.mono _ _



  ·intro y0 y1 y2 y3 y4
   unfold triglyphref05_Reshape.j2
   repeat' first
   | (with_reducible exact ih0 _ _ _ _ _)
   | (with_reducible exact ih1 _ _ _ _ _ _)
   | (with_reducible exact ih2 _ _ _ _ _)
   | (with_reducible exact ih3 _ _ _ _ _ _)
   | (with_reducible exact triglyphref03_Check.mono _ _ _)
   | (with_reducible exact triglyphref03_Size.mono _ _)
   | (with_reducible exact LeO.refl _)
   | (with_reducible exact LeO.none _)
   | (with_reducible refine LeO.ite ?_ ?_)
   | (with_reducible refine LeO.bind ?_ (fun _ => ?_))




   | exact triglyphref03_Check.mono _ _ _
   | exact triglyphref03_Size.mono _ _



  ·intro y0 y1 y2 y3 y4 y5
   unfold triglyphref05_Reshape.l2
   repeat' first
   | (with_reducible exact ih0 _ _ _ _ _)
   | (with_reducible exact ih1 _ _ _ _ _ _)
   | (with_reducible exact ih2 _ _ _ _ _)
   | (with_reducible exact ih3 _ _ _ _ _ _)
   | (with_reducible exact triglyphref03_Check.mono _ _ _)
   | (with_reducible exact triglyphref03_Size.mono _ _)
   | (with_reducible exact LeO.refl _)
   | (with_reducible exact LeO.none _)
   | (with_reducible refine LeO.ite ?_ ?_)
   | (with_reducible refine LeO.bind ?_ (fun _ => ?_))




   | exact triglyphref03_Check.mono _ _ _
   | exact triglyphref03_Size.mono _ _
theorem triglyphref05_Reshape.mono : ∀ a0 a1 a2 a3 k, LeO (triglyphref05_Reshape.f k a0 a1 a2 a3) (triglyphref05_Reshape.f (k + 1) a0 a1 a2 a3) := by
 intro a0 a1 a2 a3 k
 obtain ⟨ih0, ih1, ih2, ih3⟩ := triglyphref05_Reshape.mono_l k
 unfold triglyphref05_Reshape.f
 repeat' first
   | (with_reducible exact ih0 _ _ _ _ _)
   | (with_reducible exact ih1 _ _ _ _ _ _)
   | (with_reducible exact ih2 _ _ _ _ _)
   | (with_reducible exact ih3 _ _ _ _ _ _)
   | (with_reducible exact triglyphref03_Check.mono _ _ _)
   | (with_reducible exact triglyphref03_Size.mono _ _)
   | (with_reducible exact LeO.refl _)
   | (with_reducible exact LeO.none _)
   | (with_reducible refine LeO.ite ?_ ?_)
   | (with_reducible refine LeO.bind ?_ (fun _ => ?_))




   | exact triglyphref03_Check.mono _ _ _
   | exact triglyphref03_Size.mono _ _
def triglyphref05_Reshape.T22 : Bool × List (List Nat × List Nat) := (true, [([], []), ([0], [0]), ([], []), ([2], [2]), ([], []), ([3, 4], [3, 4]), ([5], [5]), ([6], [6]), ([7], [7]), ([1, 8], [1, 8]), ([0, 1, 2, 3, 4, 5, 6, 7, 8, 9], []), ([10, 9, 9, 0, 1, 2, 3, 4, 5, 6, 7, 8, 9], [9, 10])])
def triglyphref05_Reshape.B22 : List Nat := [0, 1, 0, 4, 0, 28, 60, 124, 252, 511, 1023, 2047]
theorem triglyphref05_Reshape.tab22 : rtab .any (opsOf Try.f15 22) = triglyphref05_Reshape.T22 := by kernel_rfl
theorem triglyphref05_Reshape.bits22 : waitsOk triglyphref05_Reshape.T22.2 triglyphref05_Reshape.B22 = true := by kernel_rfl
def triglyphref05_Reshape.T31 : Bool × List (List Nat × List Nat) := (true, [([], []), ([0], [0]), ([], []), ([2], [2]), ([], []), ([], []), ([5], [5]), ([6], [6]), ([4, 7], [4, 7]), ([3, 8], [3, 8]), ([9], [9]), ([10], [10]), ([1, 11], [1, 11]), ([0, 1, 2, 3, 4, 5, 6, 7, 8, 9, 10, 11, 12], []), ([13, 12, 12, 0, 1, 2, 3, 4, 5, 6, 7, 8, 9, 10, 11, 12], [12, 13])])
def triglyphref05_Reshape.B31 : List Nat := [0, 1, 0, 4, 0, 0, 32, 96, 240, 508, 1020, 2044, 4095, 8191, 16383]
theorem triglyphref05_Reshape.tab31 : rtab .any (opsOf Try.f15 31) = triglyphref05_Reshape.T31 := by kernel_rfl
theorem triglyphref05_Reshape.bits31 : waitsOk triglyphref05_Reshape.T31.2 triglyphref05_Reshape.B31 = true := by kernel_rfl
set_option maxHeartbeats 8000000 in
set_option maxRecDepth 100000 in
theorem triglyphref05_Reshape.calls (k : Nat) (A0_0 : Option Addr) (c0_0 : Nat) (l0_0 : List Int) (A0_1 : Option Addr) (c0_1 : Nat) (l0_1 : List (S39)) (A1_0 : Option Addr) (c1_0 : Nat) (l1_0 : List Int) (P1_1_ : Nat → Prop) (A1_1 : Option Addr) (c1_1 : Nat) (l1_1 : List (S39)) (r1 : List Int) (r2 : List (S39)) (r3 : Int) (w : World) (hr0_0 : Kd.C (Kd.int .i64) w A0_0 l0_0.length l0_0) (hc0_0 : l0_0.length ≤ c0_0) (hr0_1 : Kd.C k39 w A0_1 l0_1.length l0_1) (hc0_1 : l0_1.length ≤ c0_1) (hr1_0 : Kd.C (Kd.int .i64) w A1_0 l1_0.length l1_0) (hc1_0 : l1_0.length ≤ c1_0) (hs1_1 : Kd.V k39 39 w w.heap.size (fun k_ => P1_1_ k_) (.slice A1_1 l1_1.length c1_1) l1_1) (h : triglyphref05_Reshape.f k l0_0 l0_1 l1_0 l1_1 = some (r1, r2, r3)) :
  Calls Try.prog 15 #[.agg #[.slice A0_0 l0_0.length c0_0, .slice A0_1 l0_1.length c0_1], .agg #[.slice A1_0 l1_0.length c1_0, .slice A1_1 l1_1.length c1_1]] w fun e w' => ∃ v0_ v1_ : Value, e = .returned (.tuple #[.agg #[v0_, v1_], .int .i64 r3]) ∧ Kd.R (Kd.int .i64) 3 w' w.heap.size (fun k_ => (w.heap.size ≤ k_)) v0_ r1 ∧ Kd.N k39 39 w' w.heap.size (fun k_ => (P1_1_ k_ ∨ w.heap.size ≤ k_) ∧ some k_ ≠ (v0_ : Value).ownBlock) v1_ r2 ∧ Below w.heap.size w w' := by
 have hu25 := Try.underlying25
 have hu39 := Try.underlying39
 have HR0_0 := gA hr0_0
 have HC0_0 := gA hc0_0
 clear hr0_0 hc0_0
 have HR0_1 := gA hr0_1
 have HC0_1 := gA hc0_1
 clear hr0_1 hc0_1
 have HR1_0 := gA hr1_0
 have HC1_0 := gA hc1_0
 clear hr1_0 hc1_0
 have HO1_1 := gA (show Kd.V k39 39 w w.heap.size (fun k_ => (P1_1_ k_ ∨ w.heap.size ≤ k_)) (.slice A1_1 l1_1.length c1_1) l1_1 from Kd.V_mono hs1_1 (fun k_ hk => .inl hk))
 have HB := gA (Below.refl w.heap.size w)
 have H : ((triglyphref03_Check.f k l0_0 l0_1).bind fun t468 => (if t468 = 0 then ((triglyphref03_Check.f k l1_0 l1_1).bind fun t469 => (if t469 = 0 then (if (l0_0.length : Int) > 1 then (some (([] : List Int), ([] : List (S39)), 6)) else (triglyphref05_Reshape.l0 k 0 l0_0 l0_1 l1_0 l1_1)) else (some (([] : List Int), ([] : List (S39)), t469)))) else (some (([] : List Int), ([] : List (S39)), t468)))) = some (r1, r2, r3) := h
 clear h
 replace H := Option.bind_eq_some_iff.mp H
 obtain ⟨t468, A30, H⟩ := H
 replace H : (if t468 = 0 then ((triglyphref03_Check.f k l1_0 l1_1).bind fun t469 => (if t469 = 0 then (if (l0_0.length : Int) > 1 then (some (([] : List Int), ([] : List (S39)), 6)) else (triglyphref05_Reshape.l0 k 0 l0_0 l0_1 l1_0 l1_1)) else (some (([] : List Int), ([] : List (S39)), t469)))) else (some (([] : List Int), ([] : List (S39)), t468))) = some (r1, r2, r3) := H
 have A3 := gA A30
 clear A30
 have HC4 := gA H
 clear H
 go_enter Try.func15, Try.ntmps15
 go_upto_if 17 with (first | ((with_reducible refine gate_dst (N := 2) rfl ?_); (try (refine gate_guard (by rfl) ?_; dsimp only)); refine box_event ?hg (N := 2) ?hd (cs := #[.slice A0_0 l0_0.length c0_0, .slice A0_1 l0_1.length c0_1]) (t := 25) ?hr ?_; (case hd => rfl); (case hg => rfl); (case hr => first | (go_simp; done) | (go_simp; rfl)); intro gb465 hg w5 hbox hb; replace HO1_1 := gA (Kd.V_below (Kd.V_elderB (gV HO1_1) gb465 (Nat.le_of_eq hg.symm)) hb); have BK465 := gA (hbox); have GW465 := gA ((by rw [hg]; exact (below_size (gB HB)) : w.heap.size ≤ gb465)); have GE465 := gA ((by rw [hg]; exact (below_size (gB HB)) : w.heap.size ≤ gb465)); replace HB := gA (below_step (gB HB) hb); clear hb hbox hg) | ((with_reducible refine gate_dst (N := 3) rfl ?_); (try (refine gate_guard (by rfl) ?_; dsimp only)); refine box_event ?hg (N := 3) ?hd (cs := #[.slice A1_0 l1_0.length c1_0, .slice A1_1 l1_1.length c1_1]) (t := 25) ?hr ?_; (case hd => rfl); (case hg => rfl); (case hr => first | (go_simp; done) | (go_simp; rfl)); intro gb466 hg w6 hbox hb; replace HO1_1 := gA (Kd.V_below (Kd.V_elderB (gV HO1_1) gb466 (Nat.le_of_eq hg.symm)) hb); have BK466 := gA (hbox); have GW466 := gA ((by rw [hg]; exact (below_size (gB HB)) : w.heap.size ≤ gb466)); have GE466 := gA ((by rw [hg]; exact (below_size (gB HB)) : w.heap.size ≤ gb466)); replace HB := gA (below_step (gB HB) hb); have NB465_466 := gA ((by rw [hg]; exact Nat.ne_of_lt (blk_lt (gK BK465)) : gb465 ≠ gb466)); have NB466_465 := gA ((by rw [hg]; exact Nat.ne_of_gt (blk_lt (gK BK465)) : gb466 ≠ gb465)); replace BK465 := gA (blk_below (gK BK465) hb); clear hb hbox hg) | ((with_reducible refine gate_dst (N := 4) rfl ?_); (try (refine gate_guard (by rfl) ?_; dsimp only)); refine box_event ?hg (N := 4) ?hd (cs := #[.slice none 0 0, .slice none 0 0]) (t := 25) ?hr ?_; (case hd => rfl); (case hg => rfl); (case hr => first | (go_simp; done) | (go_simp; rfl)); intro gb467 hg w7 hbox hb; replace HO1_1 := gA (Kd.V_below (Kd.V_elderB (gV HO1_1) gb467 (Nat.le_of_eq hg.symm)) hb); have BK467 := gA (hbox); have GW467 := gA ((by rw [hg]; exact (below_size (gB HB)) : w.heap.size ≤ gb467)); have GE467 := gA ((by rw [hg]; exact (below_size (gB HB)) : w.heap.size ≤ gb467)); replace HB := gA (below_step (gB HB) hb); have NB465_467 := gA ((by rw [hg]; exact Nat.ne_of_lt (blk_lt (gK BK465)) : gb465 ≠ gb467)); have NB467_465 := gA ((by rw [hg]; exact Nat.ne_of_gt (blk_lt (gK BK465)) : gb467 ≠ gb465)); replace BK465 := gA (blk_below (gK BK465) hb); have NB466_467 := gA ((by rw [hg]; exact Nat.ne_of_lt (blk_lt (gK BK466)) : gb466 ≠ gb467)); have NB467_466 := gA ((by rw [hg]; exact Nat.ne_of_gt (blk_lt (gK BK466)) : gb467 ≠ gb466)); replace BK466 := gA (blk_below (gK BK466) hb); clear hb hbox hg; have hnb8 := NB465_466.out; have hnc8 := NB466_465.out; have hnb9 := NB465_467.out; have hnc9 := NB467_465.out; obtain ⟨hcz10_0, hcz10_1, hfz10_0, hfz10_1⟩ := gz2 BK465) | ((with_reducible refine gate_callee (f := 16) rfl ?_); refine goesL_ (some 15) rfl rfl Try.func16 (by kernel_rfl) rfl #[.agg #[.slice A0_0 l0_0.length c0_0, .slice A0_1 l0_1.length c0_1]] rfl (by (try simp only [List.map_toArray, List.map_cons, List.map_nil]); first | done | rfl | (simp only [List.length_drop, List.length_take]; rfl)) ?_; (with_reducible refine (triglyphref03_Check.calls k _ _ l0_0 _ _ l0_1 t468 _ ?side1 ?side2 ?side3 ?side4 A3.out).mono ?_); (case side1 => exact gC HR0_0 HB); (case side2 => exact HC0_0.out); (case side3 => exact gC HR0_1 HB); (case side4 => exact HC0_1.out); rintro e w11 ⟨rfl, hb⟩; refine ⟨_, rfl, ?_⟩; replace HO1_1 := gA (Kd.V_below (gV HO1_1) hb); replace BK465 := gA (blk_below (gK BK465) hb); replace BK466 := gA (blk_below (gK BK466) hb); replace BK467 := gA (blk_below (gK BK467) hb); replace HB := gA (below_step (gB HB) hb); (try clear hb)))
 have H := HC4.out; clear HC4
 by_cases c12 : t468 = 0
 ·rw [if_pos c12] at H
  have c12b0 : (t468 == 0) = true := beq_iff_eq.mpr c12
  have c12b1 : (t468 != 0) = false := bne_eq_false_iff_eq.mpr c12
  clear c12
  (first | rw [c12b0] | rw [c12b1] | (simp only [i64_w, i32_w]; rw [c12b0]) | skip)
  replace H := Option.bind_eq_some_iff.mp H
  obtain ⟨t469, A130, H⟩ := H
  replace H : (if t469 = 0 then (if (l0_0.length : Int) > 1 then (some (([] : List Int), ([] : List (S39)), 6)) else (triglyphref05_Reshape.l0 k 0 l0_0 l0_1 l1_0 l1_1)) else (some (([] : List Int), ([] : List (S39)), t469))) = some (r1, r2, r3) := H
  have A13 := gA A130
  clear A130
  have HC14 := gA H
  clear H
  have hnb15 := NB466_465.out
  have hnc15 := NB465_466.out
  have hnb16 := NB466_467.out
  have hnc16 := NB467_466.out
  obtain ⟨hcz17_0, hcz17_1, hfz17_0, hfz17_1⟩ := gz2 BK466
  go_upto_if 23 with (first | ((with_reducible refine gate_callee (f := 16) rfl ?_); refine goesL_ (some 21) rfl rfl Try.func16 (by kernel_rfl) rfl #[.agg #[.slice A1_0 l1_0.length c1_0, .slice A1_1 l1_1.length c1_1]] rfl (by (try simp only [List.map_toArray, List.map_cons, List.map_nil]); first | done | rfl | (simp only [List.length_drop, List.length_take]; rfl)) ?_; (with_reducible refine (triglyphref03_Check.calls k _ _ l1_0 _ _ l1_1 t469 _ ?side1 ?side2 ?side3 ?side4 A13.out).mono ?_); (case side1 => exact gC HR1_0 HB); (case side2 => exact HC1_0.out); (case side3 => repeat (first | exact (Kd.V_reads' HO1_1.out).2.2 | (with_reducible refine Kd.C_alloc ?_ _) | (with_reducible refine Kd.C_drewN ?_ _) | (with_reducible refine Kd.C_drew ?_))); (case side4 => exact (Kd.V_reads' HO1_1.out).2.1); rintro e w18 ⟨rfl, hb⟩; refine ⟨_, rfl, ?_⟩; replace HO1_1 := gA (Kd.V_below (gV HO1_1) hb); replace BK465 := gA (blk_below (gK BK465) hb); replace BK466 := gA (blk_below (gK BK466) hb); replace BK467 := gA (blk_below (gK BK467) hb); replace HB := gA (below_step (gB HB) hb); (try clear hb)))
  have H := HC14.out; clear HC14
  by_cases c19 : t469 = 0
  ·rw [if_pos c19] at H
   have c19b0 : (t469 == 0) = true := beq_iff_eq.mpr c19
   have c19b1 : (t469 != 0) = false := bne_eq_false_iff_eq.mpr c19
   clear c19
   (first | rw [c19b0] | rw [c19b1] | (simp only [i64_w, i32_w]; rw [c19b0]) | skip)
   by_cases c20 : (l0_0.length : Int) > 1
   ·rw [if_pos c20] at H
    have c20b0 : decide (1 < (l0_0.length : Int)) = true := decide_eq_true c20
    have c20b1 : decide (1 < l0_0.length) = true := decide_eq_true (by omega)
    clear c20
    simp only [Option.some.injEq, Prod.mk.injEq] at H
    obtain ⟨rfl, rfl, rfl⟩ := H
    have hnb21 := NB465_466.out
    have hnc21 := NB466_465.out
    have hnb22 := NB465_467.out
    have hnc22 := NB467_465.out
    obtain ⟨hcz23_0, hcz23_1, hfz23_0, hfz23_1⟩ := gz2 BK465
    have hnb24 := NB467_466.out
    have hnc24 := NB466_467.out
    obtain ⟨hcz25_0, hcz25_1, hfz25_0, hfz25_1⟩ := gz2 BK467
    go_wp2
    refine bodyPost_ret (results_ct rfl _ _ gb467 25 #[.slice none 0 0, .slice none 0 0] (0, 0) _ rfl (by refine blk_put (cs := #[.slice none 0 0, .slice none 0 0]) ?_ 1 _ rfl; refine blk_put (cs := #[.slice none 0 0, .slice none 0 0]) ?_ 0 _ rfl; exact gK BK467) Try.underlying25 rfl (by kernel_rfl)) rfl ?_
    exact ⟨_, _, rfl, by first | exact Kd.R_nil _ _ _ _ _ | exact Kd.N_nil _ _ _ _ _ | exact Kd.V_nil _ _ _ _ _ | exact Kd.Q_nil _ _ _ _ _ | exact Kd.S_nil _ _ _ _ _, by first | exact Kd.R_nil _ _ _ _ _ | exact Kd.N_nil _ _ _ _ _ | exact Kd.V_nil _ _ _ _ _ | exact Kd.Q_nil _ _ _ _ _ | exact Kd.S_nil _ _ _ _ _, by repeat first | exact gB HB | refine below_set ?_ GE465.out | refine below_set ?_ GE466.out | refine below_set ?_ GE467.out⟩
   ·rw [if_neg c20] at H
    have c20b0 : decide (1 < (l0_0.length : Int)) = false := decide_eq_false c20
    have c20b1 : decide (1 < l0_0.length) = false := decide_eq_false (by omega)
    clear c20
    have H' := gA H
    clear H
    have hnb26 := NB465_466.out
    have hnc26 := NB466_465.out
    have hnb27 := NB465_467.out
    have hnc27 := NB467_465.out
    obtain ⟨hcz28_0, hcz28_1, hfz28_0, hfz28_1⟩ := gz2 BK465
    go_wp2
    go_loopg [8] k (fun kq v8 w' => ∃ (x8_1 : Int), v8 = .int .i64 x8_1 ∧ Aside0 (triglyphref05_Reshape.l0 kq x8_1 l0_0 l0_1 l1_0 l1_1 = some (r1, r2, r3)) ∧ Aside0 (kq ≤ k) ∧ Aside0 (Kd.V k39 39 w' w.heap.size (fun k_ => (P1_1_ k_ ∨ w.heap.size ≤ k_) ∧ k_ ≠ gb465 ∧ k_ ≠ gb466 ∧ k_ ≠ gb467) (.slice A1_1 l1_1.length c1_1) l1_1) ∧ Aside0 (w'.heap[gb465]? = some (.cells #[(.slice A0_0 l0_0.length c0_0), (.slice A0_1 l0_1.length c0_1)] 25 (0, 0))) ∧ Aside0 (w'.heap[gb466]? = some (.cells #[(.slice A1_0 l1_0.length c1_0), (.slice A1_1 l1_1.length c1_1)] 25 (0, 0))) ∧ Aside0 (w'.heap[gb467]? = some (.cells #[(.slice none 0 0), (.slice none 0 0)] 25 (0, 0))) ∧ Aside0 (Below w.heap.size w w'))
    case atStart => exact ⟨(0), (rfl), H', ⟨Nat.le_refl _⟩, ⟨Kd.V_mono HO1_1.out (fun _ hk => by first | exact ⟨hk.1.1.1, ⟨hk.1.1.2, ⟨hk.1.2, hk.2⟩⟩⟩ | (simp_all; done))⟩, ⟨gK BK465⟩, ⟨gK BK466⟩, ⟨gK BK467⟩, ⟨by repeat first | exact gB HB | refine below_set ?_ GE465.out | refine below_set ?_ GE466.out | refine below_set ?_ GE467.out⟩⟩
    case round =>
     clear H'
     try clear c1
     try clear c2
     try clear p2
     try clear c8
     try clear c9
     try clear c12
     try clear c12b0
     try clear c12b1
     try clear c15
     try clear c16
     try clear c19
     try clear c19b0
     try clear c19b1
     try clear c20
     try clear c20b0
     try clear c20b1
     try clear c21
     try clear c22
     try clear c24
     try clear c26
     try clear c27
     try clear hcz10_0
     try clear hcz10_1
     try clear hcz17_0
     try clear hcz17_1
     try clear hcz23_0
     try clear hcz23_1
     try clear hcz25_0
     try clear hcz25_1
     try clear hcz28_0
     try clear hcz28_1
     try clear hfz10_0
     try clear hfz10_1
     try clear hfz17_0
     try clear hfz17_1
     try clear hfz23_0
     try clear hfz23_1
     try clear hfz25_0
     try clear hfz25_1
     try clear hfz28_0
     try clear hfz28_1
     obtain ⟨x8_1, rfl, HA, HK1, HO_467001, BK465, BK466, BK467, HB⟩ := hrel
     cases gk with
     | zero => exact absurd HA.out (by simp [triglyphref05_Reshape.l0])
     | succ k1 =>
      have H := HA.out; clear HA
      simp only [triglyphref05_Reshape.l0] at H
      by_cases c29 : x8_1 < (l0_1.length : Int)
      ·rw [if_pos c29] at H
       have c29b0 := decide_eq_true c29
       clear c29
       obtain ⟨c30, H⟩ := iS H
       have c30b0 := decide_eq_true c30
       clear c30
       by_cases c31 : ((rd_T39 l0_1 x8_1).f0) = 0
       ·rw [if_pos c31] at H
        have c31b0 : (((rd_T39 l0_1 x8_1).f0) == 0) = true := beq_iff_eq.mpr c31
        have c31b1 : (((rd_T39 l0_1 x8_1).f0) != 0) = false := bne_eq_false_iff_eq.mpr c31
        clear c31
        by_cases c32 : ((rd_T39 l0_1 x8_1).f1) < 0
        ·rw [if_pos c32] at H
         have c32b0 := decide_eq_true c32
         clear c32
         simp only [Option.some.injEq, Prod.mk.injEq] at H
         obtain ⟨rfl, rfl, rfl⟩ := H
         have hnb33 := NB465_466.out
         have hnc33 := NB466_465.out
         have hnb34 := NB465_467.out
         have hnc34 := NB467_465.out
         obtain ⟨hcz35_0, hcz35_1, hfz35_0, hfz35_1⟩ := gz2 BK465
         have p470 : 0 ≤ (x8_1 : Int) := of_decide_eq_true (by assumption)
         have q470 : x8_1 < (l0_1.length : Int) := of_decide_eq_true (by assumption)
         obtain ⟨ad470, A470_2, c470_2, e470, hx470_0, hx470_1, hx470_2, hl470_2, hi470_2⟩ := at_T39 HR0_1.out x8_1 p470 q470
         cases e470
         replace hx470_0 := (HB.out.cell (World.block_lt_of_cell? w _ hx470_0)).trans hx470_0
         replace hx470_1 := (HB.out.cell (World.block_lt_of_cell? w _ hx470_1)).trans hx470_1
         replace hx470_2 := (HB.out.cell (World.block_lt_of_cell? w _ hx470_2)).trans hx470_2
         have HR470_2 := gA hi470_2
         have HC470_2 := gA hl470_2
         clear hi470_2 hl470_2
         replace p470 := eq_true p470
         replace q470 := eq_true q470
         have p471 : 0 ≤ (x8_1 : Int) := of_decide_eq_true (by assumption)
         have q471 : x8_1 < (l0_1.length : Int) := of_decide_eq_true (by assumption)
         obtain ⟨ad471, A471_2, c471_2, e471, hx471_0, hx471_1, hx471_2, hl471_2, hi471_2⟩ := at_T39 HR0_1.out x8_1 p471 q471
         obtain rfl : ad470 = ad471 := (by injection e471)
         replace hx471_0 := (HB.out.cell (World.block_lt_of_cell? w _ hx471_0)).trans hx471_0
         replace hx471_1 := (HB.out.cell (World.block_lt_of_cell? w _ hx471_1)).trans hx471_1
         replace hx471_2 := (HB.out.cell (World.block_lt_of_cell? w _ hx471_2)).trans hx471_2
         have HR471_2 := gA hi471_2
         have HC471_2 := gA hl471_2
         clear hi471_2 hl471_2
         replace p471 := eq_true p471
         replace q471 := eq_true q471
         have ea_ := Option.some.inj (hx470_2.symm.trans hx471_2)
         injection ea_ with ea_ en_ ec_
         subst ea_
         subst ec_
         clear en_
         have hnb36 := NB467_466.out
         have hnc36 := NB466_467.out
         obtain ⟨hcz37_0, hcz37_1, hfz37_0, hfz37_1⟩ := gz2 BK467
         go_wp2
         refine bodyPost_ret (results_ct rfl _ _ gb467 25 #[.slice none 0 0, .slice none 0 0] (0, 0) _ rfl (by refine blk_put (cs := #[.slice none 0 0, .slice none 0 0]) ?_ 1 _ rfl; refine blk_put (cs := #[.slice none 0 0, .slice none 0 0]) ?_ 0 _ rfl; exact gK BK467) Try.underlying25 rfl (by kernel_rfl)) rfl ?_
         exact ⟨_, _, rfl, by first | exact Kd.R_nil _ _ _ _ _ | exact Kd.N_nil _ _ _ _ _ | exact Kd.V_nil _ _ _ _ _ | exact Kd.Q_nil _ _ _ _ _ | exact Kd.S_nil _ _ _ _ _, by first | exact Kd.R_nil _ _ _ _ _ | exact Kd.N_nil _ _ _ _ _ | exact Kd.V_nil _ _ _ _ _ | exact Kd.Q_nil _ _ _ _ _ | exact Kd.S_nil _ _ _ _ _, by repeat first | exact gB HB | refine below_set ?_ GE465.out | refine below_set ?_ GE466.out | refine below_set ?_ GE467.out⟩
        ·rw [if_neg c32] at H
         have c32b0 := decide_eq_false c32
         clear c32
         have H' := gA H
         clear H
         have hnb38 := NB465_466.out
         have hnc38 := NB466_465.out
         have hnb39 := NB465_467.out
         have hnc39 := NB467_465.out
         obtain ⟨hcz40_0, hcz40_1, hfz40_0, hfz40_1⟩ := gz2 BK465
         have p470 : 0 ≤ (x8_1 : Int) := of_decide_eq_true (by assumption)
         have q470 : x8_1 < (l0_1.length : Int) := of_decide_eq_true (by assumption)
         obtain ⟨ad470, A470_2, c470_2, e470, hx470_0, hx470_1, hx470_2, hl470_2, hi470_2⟩ := at_T39 HR0_1.out x8_1 p470 q470
         cases e470
         replace hx470_0 := (HB.out.cell (World.block_lt_of_cell? w _ hx470_0)).trans hx470_0
         replace hx470_1 := (HB.out.cell (World.block_lt_of_cell? w _ hx470_1)).trans hx470_1
         replace hx470_2 := (HB.out.cell (World.block_lt_of_cell? w _ hx470_2)).trans hx470_2
         have HR470_2 := gA hi470_2
         have HC470_2 := gA hl470_2
         clear hi470_2 hl470_2
         replace p470 := eq_true p470
         replace q470 := eq_true q470
         have p471 : 0 ≤ (x8_1 : Int) := of_decide_eq_true (by assumption)
         have q471 : x8_1 < (l0_1.length : Int) := of_decide_eq_true (by assumption)
         obtain ⟨ad471, A471_2, c471_2, e471, hx471_0, hx471_1, hx471_2, hl471_2, hi471_2⟩ := at_T39 HR0_1.out x8_1 p471 q471
         obtain rfl : ad470 = ad471 := (by injection e471)
         replace hx471_0 := (HB.out.cell (World.block_lt_of_cell? w _ hx471_0)).trans hx471_0
         replace hx471_1 := (HB.out.cell (World.block_lt_of_cell? w _ hx471_1)).trans hx471_1
         replace hx471_2 := (HB.out.cell (World.block_lt_of_cell? w _ hx471_2)).trans hx471_2
         have HR471_2 := gA hi471_2
         have HC471_2 := gA hl471_2
         clear hi471_2 hl471_2
         replace p471 := eq_true p471
         replace q471 := eq_true q471
         have ea_ := Option.some.inj (hx470_2.symm.trans hx471_2)
         injection ea_ with ea_ en_ ec_
         subst ea_
         subst ec_
         clear en_
         go_wp2
         go_roundg k1
         case measure => have := HK1.out; omega
         case rel => exact ⟨(wrap64 (x8_1 + 1)), (rfl), H', ⟨by have := HK1.out; omega⟩, ⟨gV HO_467001⟩, ⟨gK BK465⟩, ⟨gK BK466⟩, ⟨gK BK467⟩, ⟨by repeat first | exact gB HB | refine below_set ?_ GE465.out | refine below_set ?_ GE466.out | refine below_set ?_ GE467.out⟩⟩
       ·rw [if_neg c31] at H
        have c31b0 : (((rd_T39 l0_1 x8_1).f0) == 0) = false := beq_eq_false_iff_ne.mpr c31
        have c31b1 : (((rd_T39 l0_1 x8_1).f0) != 0) = true := bne_iff_ne.mpr c31
        simp only [Option.some.injEq, Prod.mk.injEq] at H
        obtain ⟨rfl, rfl, rfl⟩ := H
        have hnb41 := NB465_466.out
        have hnc41 := NB466_465.out
        have hnb42 := NB465_467.out
        have hnc42 := NB467_465.out
        obtain ⟨hcz43_0, hcz43_1, hfz43_0, hfz43_1⟩ := gz2 BK465
        have p470 : 0 ≤ (x8_1 : Int) := of_decide_eq_true (by assumption)
        have q470 : x8_1 < (l0_1.length : Int) := of_decide_eq_true (by assumption)
        obtain ⟨ad470, A470_2, c470_2, e470, hx470_0, hx470_1, hx470_2, hl470_2, hi470_2⟩ := at_T39 HR0_1.out x8_1 p470 q470
        cases e470
        replace hx470_0 := (HB.out.cell (World.block_lt_of_cell? w _ hx470_0)).trans hx470_0
        replace hx470_1 := (HB.out.cell (World.block_lt_of_cell? w _ hx470_1)).trans hx470_1
        replace hx470_2 := (HB.out.cell (World.block_lt_of_cell? w _ hx470_2)).trans hx470_2
        have HR470_2 := gA hi470_2
        have HC470_2 := gA hl470_2
        clear hi470_2 hl470_2
        replace p470 := eq_true p470
        replace q470 := eq_true q470
        have hnb44 := NB467_466.out
        have hnc44 := NB466_467.out
        obtain ⟨hcz45_0, hcz45_1, hfz45_0, hfz45_1⟩ := gz2 BK467
        go_wp2
        refine bodyPost_ret (results_ct rfl _ _ gb467 25 #[.slice none 0 0, .slice none 0 0] (0, 0) _ rfl (by refine blk_put (cs := #[.slice none 0 0, .slice none 0 0]) ?_ 1 _ rfl; refine blk_put (cs := #[.slice none 0 0, .slice none 0 0]) ?_ 0 _ rfl; exact gK BK467) Try.underlying25 rfl (by kernel_rfl)) rfl ?_
        exact ⟨_, _, rfl, by first | exact Kd.R_nil _ _ _ _ _ | exact Kd.N_nil _ _ _ _ _ | exact Kd.V_nil _ _ _ _ _ | exact Kd.Q_nil _ _ _ _ _ | exact Kd.S_nil _ _ _ _ _, by first | exact Kd.R_nil _ _ _ _ _ | exact Kd.N_nil _ _ _ _ _ | exact Kd.V_nil _ _ _ _ _ | exact Kd.Q_nil _ _ _ _ _ | exact Kd.S_nil _ _ _ _ _, by repeat first | exact gB HB | refine below_set ?_ GE465.out | refine below_set ?_ GE466.out | refine below_set ?_ GE467.out⟩
      ·rw [if_neg c29] at H
       have c29b0 := decide_eq_false c29
       clear c29
       by_cases c46 : (l0_1.length : Int) > 8
       ·rw [if_pos c46] at H
        have c46b0 : decide (8 < (l0_1.length : Int)) = true := decide_eq_true c46
        have c46b1 : decide (8 < l0_1.length) = true := decide_eq_true (by omega)
        clear c46
        simp only [Option.some.injEq, Prod.mk.injEq] at H
        obtain ⟨rfl, rfl, rfl⟩ := H
        have hnb47 := NB465_466.out
        have hnc47 := NB466_465.out
        have hnb48 := NB465_467.out
        have hnc48 := NB467_465.out
        obtain ⟨hcz49_0, hcz49_1, hfz49_0, hfz49_1⟩ := gz2 BK465
        have hnb50 := NB467_466.out
        have hnc50 := NB466_467.out
        obtain ⟨hcz51_0, hcz51_1, hfz51_0, hfz51_1⟩ := gz2 BK467
        go_wp2
        refine bodyPost_ret (results_ct rfl _ _ gb467 25 #[.slice none 0 0, .slice none 0 0] (0, 0) _ rfl (by refine blk_put (cs := #[.slice none 0 0, .slice none 0 0]) ?_ 1 _ rfl; refine blk_put (cs := #[.slice none 0 0, .slice none 0 0]) ?_ 0 _ rfl; exact gK BK467) Try.underlying25 rfl (by kernel_rfl)) rfl ?_
        exact ⟨_, _, rfl, by first | exact Kd.R_nil _ _ _ _ _ | exact Kd.N_nil _ _ _ _ _ | exact Kd.V_nil _ _ _ _ _ | exact Kd.Q_nil _ _ _ _ _ | exact Kd.S_nil _ _ _ _ _, by first | exact Kd.R_nil _ _ _ _ _ | exact Kd.N_nil _ _ _ _ _ | exact Kd.V_nil _ _ _ _ _ | exact Kd.Q_nil _ _ _ _ _ | exact Kd.S_nil _ _ _ _ _, by repeat first | exact gB HB | refine below_set ?_ GE465.out | refine below_set ?_ GE466.out | refine below_set ?_ GE467.out⟩
       ·rw [if_neg c46] at H
        have c46b0 : decide (8 < (l0_1.length : Int)) = false := decide_eq_false c46
        have c46b1 : decide (8 < l0_1.length) = false := decide_eq_false (by omega)
        clear c46
        have H' := gA H
        clear H
        have hnb52 := NB465_466.out
        have hnc52 := NB466_465.out
        have hnb53 := NB465_467.out
        have hnc53 := NB467_465.out
        obtain ⟨hcz54_0, hcz54_1, hfz54_0, hfz54_1⟩ := gz2 BK465
        go_wp2_with (first | ((with_reducible refine gate_dst (N := 9) rfl ?_); (try (refine gate_guard (by rfl) ?_; dsimp only)); refine box_event ?hg (N := 9) ?hd (cs := #[.slice none 0 0, .slice none 0 0]) (t := 25) ?hr ?_; (case hd => rfl); (case hg => rfl); (case hr => first | (go_simp; done) | (go_simp; rfl)); intro gb472 hg w55 hbox hb; replace HO_467001 := gA (Kd.V_below (Kd.V_elderB (gV HO_467001) gb472 (Nat.le_of_eq hg.symm)) hb); have BK472 := gA (hbox); have GW472 := gA ((by rw [hg]; exact (below_size (gB HB)) : w.heap.size ≤ gb472)); have GE472 := gA ((by rw [hg]; exact (below_size (gB HB)) : w.heap.size ≤ gb472)); replace HB := gA (below_step (gB HB) hb); have NB465_472 := gA ((by rw [hg]; exact Nat.ne_of_lt (blk_lt (gK BK465)) : gb465 ≠ gb472)); have NB472_465 := gA ((by rw [hg]; exact Nat.ne_of_gt (blk_lt (gK BK465)) : gb472 ≠ gb465)); replace BK465 := gA (blk_below (gK BK465) hb); have NB466_472 := gA ((by rw [hg]; exact Nat.ne_of_lt (blk_lt (gK BK466)) : gb466 ≠ gb472)); have NB472_466 := gA ((by rw [hg]; exact Nat.ne_of_gt (blk_lt (gK BK466)) : gb472 ≠ gb466)); replace BK466 := gA (blk_below (gK BK466) hb); have NB467_472 := gA ((by rw [hg]; exact Nat.ne_of_lt (blk_lt (gK BK467)) : gb467 ≠ gb472)); have NB472_467 := gA ((by rw [hg]; exact Nat.ne_of_gt (blk_lt (gK BK467)) : gb472 ≠ gb467)); replace BK467 := gA (blk_below (gK BK467) hb); clear hb hbox hg; have hnb56 := NB472_465.out; have hnc56 := NB465_472.out; have hnb57 := NB472_466.out; have hnc57 := NB466_472.out; have hnb58 := NB472_467.out; have hnc58 := NB467_472.out; obtain ⟨hcz59_0, hcz59_1, hfz59_0, hfz59_1⟩ := gz2 BK472))
        go_loopg [10] k1 (fun kq v10 w' => ∃ (x10_2 : Int) (x473000_2 : List Int) (u473000 : Value), v10 = .int .i64 x10_2 ∧ Aside0 (triglyphref05_Reshape.l1 kq x10_2 l0_0 l0_1 l1_0 l1_1 x473000_2 = some (r1, r2, r3)) ∧ Aside0 (kq ≤ k1) ∧ Aside0 (Kd.V k39 39 w' w.heap.size (fun k_ => (P1_1_ k_ ∨ w.heap.size ≤ k_) ∧ some k_ ≠ (u473000 : Value).ownBlock ∧ k_ ≠ gb465 ∧ k_ ≠ gb466 ∧ k_ ≠ gb467 ∧ k_ ≠ gb472) (.slice A1_1 l1_1.length c1_1) l1_1) ∧ Aside0 (Kd.R (Kd.int .i64) 3 w' w.heap.size (fun k_ => (w.heap.size ≤ k_)) u473000 x473000_2) ∧ Aside0 (w'.heap[gb465]? = some (.cells #[(.slice A0_0 l0_0.length c0_0), (.slice A0_1 l0_1.length c0_1)] 25 (0, 0))) ∧ Aside0 (w'.heap[gb466]? = some (.cells #[(.slice A1_0 l1_0.length c1_0), (.slice A1_1 l1_1.length c1_1)] 25 (0, 0))) ∧ Aside0 (w'.heap[gb467]? = some (.cells #[(.slice none 0 0), (.slice none 0 0)] 25 (0, 0))) ∧ Aside0 (w'.heap[gb472]? = some (.cells #[u473000, (.slice none 0 0)] 25 (0, 0))) ∧ Aside0 (Below w.heap.size w w'))
        case atStart => exact ⟨(0), (([] : List Int)), (.slice none 0 0), (rfl), H', ⟨Nat.le_refl _⟩, ⟨Kd.V_mono (Kd.V_far (p := ⟨gb472, 1, none⟩) (Kd.V_far (p := ⟨gb472, 0, none⟩) (Kd.V_mono HO_467001.out (fun k_ hk => (⟨hk, hk.2⟩ : _ ∧ k_ ≠ gb472))) (fun _ hk => hk.2) (.slice none 0 0)) (fun _ hk => hk.2) (.slice none 0 0)) (fun _ hk => ⟨hk.1.1.1, ⟨(by simp [Value.ownBlock]), ⟨hk.1.1.2.1, ⟨hk.1.1.2.2.1, ⟨hk.1.1.2.2.2, hk.1.2⟩⟩⟩⟩⟩)⟩, ⟨by first | exact Kd.R_nil _ _ _ _ _ | exact Kd.N_nil _ _ _ _ _ | exact Kd.V_nil _ _ _ _ _ | exact Kd.Q_nil _ _ _ _ _ | exact Kd.S_nil _ _ _ _ _⟩, ⟨by refine blk_far ?_ NB465_472.out _; refine blk_far ?_ NB465_472.out _; exact gK BK465⟩, ⟨by refine blk_far ?_ NB466_472.out _; refine blk_far ?_ NB466_472.out _; exact gK BK466⟩, ⟨by refine blk_far ?_ NB467_472.out _; refine blk_far ?_ NB467_472.out _; exact gK BK467⟩, ⟨by refine blk_put (cs := #[.slice none 0 0, .slice none 0 0]) ?_ 1 _ rfl; refine blk_put (cs := #[.slice none 0 0, .slice none 0 0]) ?_ 0 _ rfl; exact gK BK472⟩, ⟨by repeat first | exact gB HB | refine below_set ?_ GE465.out | refine below_set ?_ GE466.out | refine below_set ?_ GE467.out | refine below_set ?_ GE472.out⟩⟩
        case round =>
         clear H'
         try clear c1
         try clear c2
         try clear p2
         try clear c3
         try clear c4
         try clear p4
         try clear q4
         try clear hx4
         try clear c5
         try clear p6
         try clear c8
         try clear c9
         try clear c12
         try clear c12b0
         try clear c12b1
         try clear c15
         try clear c16
         try clear c19
         try clear c19b0
         try clear c19b1
         try clear c20
         try clear c20b0
         try clear c20b1
         try clear c21
         try clear c22
         try clear c24
         try clear c26
         try clear c27
         try clear c29
         try clear c29b0
         try clear c30
         try clear c30b0
         try clear c31
         try clear c31b0
         try clear c31b1
         try clear c32
         try clear c32b0
         try clear c33
         try clear c34
         try clear c36
         try clear c38
         try clear c39
         try clear c41
         try clear c42
         try clear c44
         try clear c46
         try clear c46b0
         try clear c46b1
         try clear c47
         try clear p47
         try clear q47
         try clear hx47
         try clear c48
         try clear c50
         try clear c52
         try clear c53
         try clear c56
         try clear c57
         try clear c58
         try clear hcz10_0
         try clear hcz10_1
         try clear hcz17_0
         try clear hcz17_1
         try clear hcz23_0
         try clear hcz23_1
         try clear hcz25_0
         try clear hcz25_1
         try clear hcz28_0
         try clear hcz28_1
         try clear hcz35_0
         try clear hcz35_1
         try clear hcz37_0
         try clear hcz37_1
         try clear hcz40_0
         try clear hcz40_1
         try clear hcz43_0
         try clear hcz43_1
         try clear hcz45_0
         try clear hcz45_1
         try clear hcz49_0
         try clear hcz49_1
         try clear hcz51_0
         try clear hcz51_1
         try clear hcz54_0
         try clear hcz54_1
         try clear hcz59_0
         try clear hcz59_1
         try clear hfz10_0
         try clear hfz10_1
         try clear hfz17_0
         try clear hfz17_1
         try clear hfz23_0
         try clear hfz23_1
         try clear hfz25_0
         try clear hfz25_1
         try clear hfz28_0
         try clear hfz28_1
         try clear hfz35_0
         try clear hfz35_1
         try clear hfz37_0
         try clear hfz37_1
         try clear hfz40_0
         try clear hfz40_1
         try clear hfz43_0
         try clear hfz43_1
         try clear hfz45_0
         try clear hfz45_1
         try clear hfz49_0
         try clear hfz49_1
         try clear hfz51_0
         try clear hfz51_1
         try clear hfz54_0
         try clear hfz54_1
         try clear hfz59_0
         try clear hfz59_1
         try clear hx470_0
         try clear hx470_1
         try clear hx470_2
         try clear hx471_0
         try clear hx471_1
         try clear hx471_2
         try clear p2
         try clear p470
         try clear p471
         try clear q470
         try clear q471
         obtain ⟨x10_2, x473000_2, u473000, rfl, HA, HK2, HO_467001, HO_473000, BK465, BK466, BK467, BK472, HB⟩ := hrel
         cases gk with
         | zero => exact absurd HA.out (by simp [triglyphref05_Reshape.l1])
         | succ k2 =>
          have H := HA.out; clear HA
          simp only [triglyphref05_Reshape.l1] at H
          by_cases c60 : x10_2 < (l0_1.length : Int)
          ·rw [if_pos c60] at H
           have c60b0 := decide_eq_true c60
           clear c60
           obtain ⟨c61, H⟩ := iS H
           have c61b0 := decide_eq_true c61
           clear c61
           by_cases c62 : ((rd_T39 l0_1 x10_2).f1) > 16384
           ·rw [if_pos c62] at H
            have c62b0 : decide (16384 < ((rd_T39 l0_1 x10_2).f1)) = true := decide_eq_true c62
            clear c62
            simp only [Option.some.injEq, Prod.mk.injEq] at H
            obtain ⟨rfl, rfl, rfl⟩ := H
            have hnb63 := NB465_466.out
            have hnc63 := NB466_465.out
            have hnb64 := NB465_467.out
            have hnc64 := NB467_465.out
            have hnb65 := NB465_472.out
            have hnc65 := NB472_465.out
            obtain ⟨hcz66_0, hcz66_1, hfz66_0, hfz66_1⟩ := gz2 BK465
            have p473 : 0 ≤ (x10_2 : Int) := of_decide_eq_true (by assumption)
            have q473 : x10_2 < (l0_1.length : Int) := of_decide_eq_true (by assumption)
            obtain ⟨ad473, A473_2, c473_2, e473, hx473_0, hx473_1, hx473_2, hl473_2, hi473_2⟩ := at_T39 HR0_1.out x10_2 p473 q473
            cases e473
            replace hx473_0 := (HB.out.cell (World.block_lt_of_cell? w _ hx473_0)).trans hx473_0
            replace hx473_1 := (HB.out.cell (World.block_lt_of_cell? w _ hx473_1)).trans hx473_1
            replace hx473_2 := (HB.out.cell (World.block_lt_of_cell? w _ hx473_2)).trans hx473_2
            have HR473_2 := gA hi473_2
            have HC473_2 := gA hl473_2
            clear hi473_2 hl473_2
            replace p473 := eq_true p473
            replace q473 := eq_true q473
            have hnb67 := NB467_466.out
            have hnc67 := NB466_467.out
            have hnb68 := NB467_472.out
            have hnc68 := NB472_467.out
            obtain ⟨hcz69_0, hcz69_1, hfz69_0, hfz69_1⟩ := gz2 BK467
            go_wp2
            refine bodyPost_ret (results_ct rfl _ _ gb467 25 #[.slice none 0 0, .slice none 0 0] (0, 0) _ rfl (by refine blk_put (cs := #[.slice none 0 0, .slice none 0 0]) ?_ 1 _ rfl; refine blk_put (cs := #[.slice none 0 0, .slice none 0 0]) ?_ 0 _ rfl; exact gK BK467) Try.underlying25 rfl (by kernel_rfl)) rfl ?_
            exact ⟨_, _, rfl, by first | exact Kd.R_nil _ _ _ _ _ | exact Kd.N_nil _ _ _ _ _ | exact Kd.V_nil _ _ _ _ _ | exact Kd.Q_nil _ _ _ _ _ | exact Kd.S_nil _ _ _ _ _, by first | exact Kd.R_nil _ _ _ _ _ | exact Kd.N_nil _ _ _ _ _ | exact Kd.V_nil _ _ _ _ _ | exact Kd.Q_nil _ _ _ _ _ | exact Kd.S_nil _ _ _ _ _, by repeat first | exact gB HB | refine below_set ?_ GE465.out | refine below_set ?_ GE466.out | refine below_set ?_ GE467.out | refine below_set ?_ GE472.out⟩
           ·rw [if_neg c62] at H
            have c62b0 : decide (16384 < ((rd_T39 l0_1 x10_2).f1)) = false := decide_eq_false c62
            clear c62
            obtain ⟨c70, H⟩ := iS H
            have LMc70 := gA c70
            clear c70
            obtain ⟨y475, hy475⟩ : ∃ y_ : List Int, y_ = (x473000_2 ++ [(rd_T39 l0_1 x10_2).f1]) := ⟨_, rfl⟩
            replace H : (triglyphref05_Reshape.l1 k2 (wrap64 (x10_2 + 1)) l0_0 l0_1 l1_0 l1_1 y475) = some (r1, r2, r3) := by first | (rw [hy475]; with_reducible exact H) | (have H2_ := (Option.bind_some _ _).symm.trans H; rw [hy475]; with_reducible exact H2_) | (have H2_ := (Option.bind_some _ _).symm.trans H; with_reducible exact H2_) | with_reducible exact H | (rw [hy475]; exact H) | exact H
            have Ny475 := gA hy475
            clear hy475
            have H' := gA H
            clear H
            have hnb71 := NB465_466.out
            have hnc71 := NB466_465.out
            have hnb72 := NB465_467.out
            have hnc72 := NB467_465.out
            have hnb73 := NB465_472.out
            have hnc73 := NB472_465.out
            obtain ⟨hcz74_0, hcz74_1, hfz74_0, hfz74_1⟩ := gz2 BK465
            have p473 : 0 ≤ (x10_2 : Int) := of_decide_eq_true (by assumption)
            have q473 : x10_2 < (l0_1.length : Int) := of_decide_eq_true (by assumption)
            obtain ⟨ad473, A473_2, c473_2, e473, hx473_0, hx473_1, hx473_2, hl473_2, hi473_2⟩ := at_T39 HR0_1.out x10_2 p473 q473
            cases e473
            replace hx473_0 := (HB.out.cell (World.block_lt_of_cell? w _ hx473_0)).trans hx473_0
            replace hx473_1 := (HB.out.cell (World.block_lt_of_cell? w _ hx473_1)).trans hx473_1
            replace hx473_2 := (HB.out.cell (World.block_lt_of_cell? w _ hx473_2)).trans hx473_2
            have HR473_2 := gA hi473_2
            have HC473_2 := gA hl473_2
            clear hi473_2 hl473_2
            replace p473 := eq_true p473
            replace q473 := eq_true q473
            try go_wp2
            replace HO_467001 := gA (Kd.V_drew HO_467001.out); replace HO_473000 := gA (Kd.R_drew HO_473000.out); replace BK465 := gA (blk_drew BK465.out); replace BK466 := gA (blk_drew BK466.out); replace BK467 := gA (blk_drew BK467.out); replace BK472 := gA (blk_drew BK472.out); replace HB := gA (below_drew1 HB.out)
            have p474 : 0 ≤ (x10_2 : Int) := of_decide_eq_true (by assumption)
            have q474 : x10_2 < (l0_1.length : Int) := of_decide_eq_true (by assumption)
            obtain ⟨ad474, A474_2, c474_2, e474, hx474_0, hx474_1, hx474_2, hl474_2, hi474_2⟩ := at_T39 HR0_1.out x10_2 p474 q474
            have hw474_2 := hx474_2
            have hw474_1 := hx474_1
            have hw474_0 := hx474_0
            obtain rfl : ad473 = ad474 := (by injection e474)
            replace hx474_0 := (HB.out.cell (World.block_lt_of_cell? w _ hx474_0)).trans hx474_0
            replace hx474_1 := (HB.out.cell (World.block_lt_of_cell? w _ hx474_1)).trans hx474_1
            replace hx474_2 := (HB.out.cell (World.block_lt_of_cell? w _ hx474_2)).trans hx474_2
            have HR474_2 := gA hi474_2
            have HC474_2 := gA hl474_2
            clear hi474_2 hl474_2
            replace p474 := eq_true p474
            replace q474 := eq_true q474
            refine start_ (n := 12) (S := fun w' => w'.cell? ⟨gb472, 0, none⟩ = some (u473000) ∧ w'.cell? ⟨gb472, 1, none⟩ = some (.slice none 0 0) ∧ w'.cell? ⟨gb465, 0, none⟩ = some (.slice A0_0 l0_0.length c0_0) ∧ w'.cell? ⟨gb465, 1, none⟩ = some (.slice (some ad473) l0_1.length c0_1) ∧ w'.cell? (ad473.add ((x10_2).toNat * 3)) = some (.int .i64 ((rd_T39 l0_1 x10_2).f0)) ∧ w'.cell? ⟨(ad473.add ((x10_2).toNat * 3)).block, (ad473.add ((x10_2).toNat * 3)).off + 1, none⟩ = some (.int .i64 ((rd_T39 l0_1 x10_2).f1)) ∧ w'.cell? ⟨(ad473.add ((x10_2).toNat * 3)).block, (ad473.add ((x10_2).toNat * 3)).off + 2, none⟩ = some (.slice A474_2 ((rd_T39 l0_1 x10_2).f2).length c474_2)) (ds := [11]) #[false, false, false, false, false, false, false, false, false, false, false, false] (by kernel_rfl) rfl rfl ⟨(blk_cell BK472.out 0).trans rfl, (blk_cell BK472.out 1).trans rfl, (blk_cell BK465.out 0).trans rfl, (blk_cell BK465.out 1).trans rfl, ((HB.out.cell (World.block_lt_of_cell? w _ hw474_0)).trans hw474_0), ((HB.out.cell (World.block_lt_of_cell? w _ hw474_1)).trans hw474_1), ((HB.out.cell (World.block_lt_of_cell? w _ hw474_2)).trans hw474_2)⟩ (fun hHeld => ?_); refine with_tabW triglyphref05_Reshape.tab22 triglyphref05_Reshape.bits22 (fun HT_ HW_ => ?_)
            generalize wr.drew = w75 at HO_467001 HO_473000 BK465 BK466 BK467 BK472 HB HR474_2 hx474_0 hx474_1 hx474_2 hHeld ⊢
            refine pure_ (i := 0) (N := some 76) (v := ?_) (a' := ?_) #[true, false, false, false, false, false, false, false, false, false, false, false] rfl rfl (any_of HT_.out (by kernel_rfl)) (fun _ _ _ h => h) (Or.inl ⟨by rfl, ?_⟩) ?_ ?_; rotate_left
            ·intro w'; go_simp; with_reducible rfl
            rotate_left
            ·simp only [Act.put, List.setIfInBounds_toArray, List.set_cons_zero, List.set_cons_succ, i64_w, i32_w]; rfl
            refine pure_ (i := 2) (N := some 78) (v := ?_) (a' := ?_) #[true, false, true, false, false, false, false, false, false, false, false, false] rfl rfl (any_of HT_.out (by kernel_rfl)) (fun _ _ _ h => h) (Or.inl ⟨by rfl, ?_⟩) ?_ ?_; rotate_left
            ·intro w'; go_simp; with_reducible rfl
            rotate_left
            ·simp only [Act.put, List.setIfInBounds_toArray, List.set_cons_zero, List.set_cons_succ, i64_w, i32_w]; rfl
            refine pure_ (i := 4) (N := some 80) (v := ?_) (a' := ?_) #[true, false, true, false, true, false, false, false, false, false, false, false] rfl rfl (any_of HT_.out (by kernel_rfl)) (fun _ _ _ h => h) (Or.inl ⟨by rfl, ?_⟩) ?_ ?_; rotate_left
            ·intro w'; go_simp; with_reducible rfl
            rotate_left
            ·simp only [Act.put, List.setIfInBounds_toArray, List.set_cons_zero, List.set_cons_succ, i64_w, i32_w]; rfl
            refine take_ (i := 1) (N := some 77) (v := ?_) (a' := ?_) #[true, true, true, false, true, false, false, false, false, false, false, false] rfl rfl (take_ofW HT_.out HW_.out (by kernel_rfl)) (fun _ _ _ h => h) (Or.inl ⟨by rfl, ?_⟩) hHeld ?_ ?_; rotate_left
            ·rintro w' ⟨s0, s1, s2, s3, s4, s5, s6⟩; go_simp; with_reducible rfl
            rotate_left
            ·simp only [Act.put, List.setIfInBounds_toArray, List.set_cons_zero, List.set_cons_succ, i64_w, i32_w]; rfl
            refine take_ (i := 3) (N := some 79) (v := ?_) (a' := ?_) #[true, true, true, true, true, false, false, false, false, false, false, false] rfl rfl (take_ofW HT_.out HW_.out (by kernel_rfl)) (fun _ _ _ h => h) (Or.inl ⟨by rfl, ?_⟩) hHeld ?_ ?_; rotate_left
            ·rintro w' ⟨s0, s1, s2, s3, s4, s5, s6⟩; go_simp; with_reducible rfl
            rotate_left
            ·simp only [Act.put, List.setIfInBounds_toArray, List.set_cons_zero, List.set_cons_succ, i64_w, i32_w]; rfl
            refine pure_ (i := 5) (N := some 81) (v := ?_) (a' := ?_) #[true, true, true, true, true, true, false, false, false, false, false, false] rfl rfl (any_of HT_.out (by kernel_rfl)) (fun _ _ _ h => h) (Or.inl ⟨by rfl, ?_⟩) ?_ ?_; rotate_left
            ·intro w'; go_simp; with_reducible rfl
            rotate_left
            ·simp only [Act.put, List.setIfInBounds_toArray, List.set_cons_zero, List.set_cons_succ, i64_w, i32_w]; rfl
            refine pure_ (i := 6) (N := some 82) (v := ?_) (a' := ?_) #[true, true, true, true, true, true, true, false, false, false, false, false] rfl rfl (any_of HT_.out (by kernel_rfl)) (fun _ _ _ h => h) (Or.inl ⟨by rfl, ?_⟩) ?_ ?_; rotate_left
            ·intro w'; go_simp; with_reducible rfl
            rotate_left
            ·simp only [Act.put, List.setIfInBounds_toArray, List.set_cons_zero, List.set_cons_succ, i64_w, i32_w]; rfl
            refine take_ (i := 7) (N := some 83) (v := ?_) (a' := ?_) #[true, true, true, true, true, true, true, true, false, false, false, false] rfl rfl (take_ofW HT_.out HW_.out (by kernel_rfl)) (fun _ _ _ h => h) (Or.inl ⟨by rfl, ?_⟩) hHeld ?_ ?_; rotate_left
            ·rintro w' ⟨s0, s1, s2, s3, s4, s5, s6⟩; go_simp; with_reducible rfl
            rotate_left
            ·simp only [Act.put, List.setIfInBounds_toArray, List.set_cons_zero, List.set_cons_succ, i64_w, i32_w]; rfl
            refine one_ (i := 8) (N := some 84) #[true, true, true, true, true, true, true, true, true, false, false, false] rfl rfl (one_of HT_.out (by kernel_rfl)) (by decide) (fun K hK => ?_)
            refine value_ (w1 := ?_) (v := ?_) (by rfl) rfl ?_ ?_
            rotate_left 2
            ·go_simp
             constructor
             ·rfl
             ·rfl
            refine hK.out _ _ ⟨(blk_cell (blk_alloc BK472.out _) 0).trans rfl, (blk_cell (blk_alloc BK472.out _) 1).trans rfl, (blk_cell (blk_alloc BK465.out _) 0).trans rfl, (blk_cell (blk_alloc BK465.out _) 1).trans rfl, (World.cell?_alloc_lt _ _ _ (World.block_lt_of_cell? _ _ (((HB.out.cell (World.block_lt_of_cell? w _ hw474_0)).trans hw474_0)))).trans (((HB.out.cell (World.block_lt_of_cell? w _ hw474_0)).trans hw474_0)), (World.cell?_alloc_lt _ _ _ (World.block_lt_of_cell? _ _ (((HB.out.cell (World.block_lt_of_cell? w _ hw474_1)).trans hw474_1)))).trans (((HB.out.cell (World.block_lt_of_cell? w _ hw474_1)).trans hw474_1)), (World.cell?_alloc_lt _ _ _ (World.block_lt_of_cell? _ _ (((HB.out.cell (World.block_lt_of_cell? w _ hw474_2)).trans hw474_2)))).trans (((HB.out.cell (World.block_lt_of_cell? w _ hw474_2)).trans hw474_2))⟩ (fun hHeld => ?_); clear hK K
            refine norm_ (a' := ?_) ?_ ?_; rotate_left
            ·show Act.put _ (some 84) _ = _
             simp only [Act.put, List.setIfInBounds_toArray, List.set_cons_zero, List.set_cons_succ, i64_w, i32_w]; rfl
            refine one_ (i := 9) (N := some 85) #[true, true, true, true, true, true, true, true, true, true, false, false] rfl rfl (one_of HT_.out (by kernel_rfl)) (by decide) (fun K hK => ?_)
            refine Kd.R_append_step (Kd.int .i64) (w0 := w) w.heap.size (by rfl) (.tmp 77) (.tmp 84) 22 3 (.int .i64 0) 8 rfl Try.underlying22 info3 rfl (by decide) (by omega) u473000 x473000_2 ((rd_T39 l0_1 x10_2).f1) [.int .i64 ((rd_T39 l0_1 x10_2).f1)] (fun k_ => (w.heap.size ≤ k_)) (fun _ => False) rfl rfl ?aP (fun _ hk => hk.elim) ?aF ?aO ?aB ?aS ?aL ?_
            (case aP => exact rfl)
            (case aB => exact (gB HB))
            (case aF => exact (fun k_ hk => (Nat.le_trans (below_size (gB HB)) hk)))
            (case aO => exact (gR HO_473000))
            (case aS => exact (below_size (gB HB)))
            (case aL => have := LMc70.out; omega)
            intro v476 w76 ho hb hg hat
            rw [← Ny475.out] at ho
            replace HO_467001 := gA (Kd.V_afterv (ok := (fun k_ => (P1_1_ k_ ∨ w.heap.size ≤ k_) ∧ k_ ≠ gb465 ∧ k_ ≠ gb466 ∧ k_ ≠ gb467 ∧ k_ ≠ gb472)) (Kd.V_mono HO_467001.out (fun _ hk => ⟨⟨hk.1, ⟨hk.2.2.1, ⟨hk.2.2.2.1, ⟨hk.2.2.2.2.1, hk.2.2.2.2.2⟩⟩⟩⟩, hk.2.1⟩)) hg hat); replace BK465 := gA (blk_grown (gK BK465) hg (Kd.R_ne HO_473000.out BK465.out (by decide))); replace BK466 := gA (blk_grown (gK BK466) hg (Kd.R_ne HO_473000.out BK466.out (by decide))); replace BK467 := gA (blk_grown (gK BK467) hg (Kd.R_ne HO_473000.out BK467.out (by decide))); replace BK472 := gA (blk_grown (gK BK472) hg (Kd.R_ne HO_473000.out BK472.out (by decide))); replace HB := gA (hb); have HO477 := gA (ho); clear HO_473000 ho hb hg hat
            obtain ⟨Ao77, co77, eo77⟩ := Kd.R_slice HO477.out
            (first | subst eo77 | (injection eo77 with f1_ f2_ f3_; have f4_ := f1_.symm; have f5_ := f3_.symm; clear f1_ f2_ f3_; subst f4_; subst f5_))
            refine hK.out _ _ ⟨(blk_cell BK472.out 0).trans rfl, (blk_cell BK472.out 1).trans rfl, (blk_cell BK465.out 0).trans rfl, (blk_cell BK465.out 1).trans rfl, ((HB.out.cell (World.block_lt_of_cell? w _ hw474_0)).trans hw474_0), ((HB.out.cell (World.block_lt_of_cell? w _ hw474_1)).trans hw474_1), ((HB.out.cell (World.block_lt_of_cell? w _ hw474_2)).trans hw474_2)⟩ (fun hHeld => ?_); clear hK K
            refine norm_ (a' := ?_) ?_ ?_; rotate_left
            ·show Act.put _ (some 85) _ = _
             simp only [Act.put, List.setIfInBounds_toArray, List.set_cons_zero, List.set_cons_succ, i64_w, i32_w]; rfl
            refine pure_ (i := 10) (N := some 86) (v := ?_) (a' := ?_) #[true, true, true, true, true, true, true, true, true, true, true, false] rfl rfl (any_of HT_.out (by kernel_rfl)) (fun _ _ _ h => h) (Or.inl ⟨by rfl, ?_⟩) ?_ ?_; rotate_left
            ·intro w'; go_simp; with_reducible rfl
            rotate_left
            ·simp only [Act.put, List.setIfInBounds_toArray, List.set_cons_zero, List.set_cons_succ, i64_w, i32_w]; rfl
            refine last_ (i := 11) (N := none) #[true, true, true, true, true, true, true, true, true, true, true, true] rfl rfl (one_of HT_.out (by kernel_rfl)) (by decide) (fun K hK => ?_)
            have hs78 := gz BK472 0 rfl
            have hfs78 := blk_frozen BK472.out 0
            have hns78_0 := NB465_472.out
            have hns78_1 := NB466_472.out
            have hns78_2 := NB467_472.out
            have hms78_0 := NB472_465.out
            have hms78_1 := NB472_466.out
            have hms78_2 := NB472_467.out
            refine skip_ (w1 := ?_) (by rfl) rfl ?_ ?_; rotate_left
            ·go_simp; rfl
            refine hK.out _ _ ?_; clear hK K
            refine done_ (done_of HT_.out (by kernel_rfl)) ?_
            try go_wp2
            go_roundg k2
            case measure => have := HK1.out; have := HK2.out; omega
            case rel => exact ⟨(wrap64 (x10_2 + 1)), (y475), (.slice Ao77 y475.length co77), (rfl), H', ⟨by have := HK1.out; have := HK2.out; omega⟩, ⟨Kd.V_mono (Kd.V_far (p := ⟨gb472, 0, none⟩) (Kd.V_mono HO_467001.out (fun k_ hk => (⟨hk, hk.1.2.2.2.2⟩ : _ ∧ k_ ≠ gb472))) (fun _ hk => hk.2) (.slice Ao77 y475.length co77)) (fun _ hk => by first | exact ⟨hk.1.1.1, ⟨hk.1.2, ⟨hk.1.1.2.1, ⟨hk.1.1.2.2.1, ⟨hk.1.1.2.2.2.1, hk.1.1.2.2.2.2⟩⟩⟩⟩⟩ | (simp_all; done))⟩, ⟨Kd.R_mono (Kd.R_far (p := ⟨gb472, 0, none⟩) (Kd.R_types HO477.out BK472.out (by decide)) (fun _ hk => hk.2) (.slice Ao77 y475.length co77)) (fun _ hk => hk.1)⟩, ⟨by refine blk_far ?_ NB465_472.out _; exact gK BK465⟩, ⟨by refine blk_far ?_ NB466_472.out _; exact gK BK466⟩, ⟨by refine blk_far ?_ NB467_472.out _; exact gK BK467⟩, ⟨by refine blk_put (cs := #[u473000, .slice none 0 0]) ?_ 0 _ rfl; exact gK BK472⟩, ⟨by repeat first | exact gB HB | refine below_set ?_ GE465.out | refine below_set ?_ GE466.out | refine below_set ?_ GE467.out | refine below_set ?_ GE472.out⟩⟩
          ·rw [if_neg c60] at H
           have c60b0 := decide_eq_false c60
           clear c60
           replace H := Option.bind_eq_some_iff.mp H
           obtain ⟨⟨t478, t479⟩, A790, H⟩ := H
           replace H : (if t479 = 0 then (if t478 > 0 then (triglyphref05_Reshape.j2 k2 t478 ((l1_1.length : Int) == 0) l1_0 l1_1 x473000_2) else (triglyphref05_Reshape.j2 k2 t478 false l1_0 l1_1 x473000_2)) else (some (([] : List Int), ([] : List (S39)), t479))) = some (r1, r2, r3) := H
           have A79 := gA A790
           clear A790
           by_cases c80 : t479 = 0
           ·rw [if_pos c80] at H
            have c80b0 : (t479 == 0) = true := beq_iff_eq.mpr c80
            have c80b1 : (t479 != 0) = false := bne_eq_false_iff_eq.mpr c80
            clear c80
            have HC81 := gA H
            clear H
            have hnb82 := NB465_466.out
            have hnc82 := NB466_465.out
            have hnb83 := NB465_467.out
            have hnc83 := NB467_465.out
            have hnb84 := NB465_472.out
            have hnc84 := NB472_465.out
            obtain ⟨hcz85_0, hcz85_1, hfz85_0, hfz85_1⟩ := gz2 BK465
            have hnb86 := NB472_466.out
            have hnc86 := NB466_472.out
            have hnb87 := NB472_467.out
            have hnc87 := NB467_472.out
            obtain ⟨hcz88_0, hcz88_1, hfz88_0, hfz88_1⟩ := gz2 BK472
            obtain ⟨Ao89, co89, eo89⟩ := Kd.R_slice HO_473000.out
            subst eo89
            go_upto_region 26 with (first | ((with_reducible refine gate_callee (f := 40) rfl ?_); refine goesL_ (some 90) rfl rfl Try.func40 (by kernel_rfl) rfl #[.slice Ao89 x473000_2.length co89] rfl (by (try simp only [List.map_toArray, List.map_cons, List.map_nil]); first | done | rfl | (simp only [List.length_drop, List.length_take]; rfl)) ?_; (with_reducible refine (triglyphref03_Size.calls k2 _ _ x473000_2 t478 t479 _ ?side1 ?side2 A79.out).mono ?_); (case side1 => repeat (first | exact (Kd.R_reads' HO_473000.out).2.2 | (with_reducible refine Kd.C_alloc ?_ _) | (with_reducible refine Kd.C_drewN ?_ _) | (with_reducible refine Kd.C_drew ?_))); (case side2 => exact (Kd.R_reads' HO_473000.out).2.1); rintro e w' ⟨rfl, ⟨nd, rfl⟩⟩; refine ⟨_, rfl, ?_⟩))
            (try simp only [Act.put, List.setIfInBounds_toArray, List.set_cons_zero, List.set_cons_succ])
            go_cut [104] (fun v104 wc => ∃ (kq : Nat) (x104_80 : Bool), v104 = .bool x104_80 ∧ Aside0 (triglyphref05_Reshape.j2 kq t478 x104_80 l1_0 l1_1 x473000_2 = some (r1, r2, r3)) ∧ Aside0 (kq ≤ k2) ∧ Aside0 (Kd.V k39 39 wc w.heap.size (fun k_ => (P1_1_ k_ ∨ w.heap.size ≤ k_) ∧ some k_ ≠ ((.slice Ao89 x473000_2.length co89) : Value).ownBlock ∧ k_ ≠ gb465 ∧ k_ ≠ gb466 ∧ k_ ≠ gb467 ∧ k_ ≠ gb472) (.slice A1_1 l1_1.length c1_1) l1_1) ∧ Aside0 (Kd.R (Kd.int .i64) 3 wc w.heap.size (fun k_ => (w.heap.size ≤ k_)) (.slice Ao89 x473000_2.length co89) x473000_2) ∧ Aside0 (wc.heap[gb465]? = some (.cells #[(.slice A0_0 l0_0.length c0_0), (.slice A0_1 l0_1.length c0_1)] 25 (0, 0))) ∧ Aside0 (wc.heap[gb466]? = some (.cells #[(.slice A1_0 l1_0.length c1_0), (.slice A1_1 l1_1.length c1_1)] 25 (0, 0))) ∧ Aside0 (wc.heap[gb467]? = some (.cells #[(.slice none 0 0), (.slice none 0 0)] 25 (0, 0))) ∧ Aside0 (wc.heap[gb472]? = some (.cells #[(.slice Ao89 x473000_2.length co89), (.slice none 0 0)] 25 (0, 0))) ∧ Aside0 (Below w.heap.size w wc))
            case first =>
             have H := HC81.out; clear HC81
             by_cases c90 : t478 > 0
             ·rw [if_pos c90] at H
              have c90b0 : decide (0 < t478) = true := decide_eq_true c90
              clear c90
              (first | rw [c90b0] | (simp only [i64_w, i32_w]; rw [c90b0]) | skip)
              have H' := gA H
              clear H
              have hnb91 := NB466_465.out
              have hnc91 := NB465_466.out
              have hnb92 := NB466_467.out
              have hnc92 := NB467_466.out
              have hnb93 := NB466_472.out
              have hnc93 := NB472_466.out
              obtain ⟨hcz94_0, hcz94_1, hfz94_0, hfz94_1⟩ := gz2 BK466
              go_wp2
              all_goals (go_meet; (case rel => exact ⟨_, (((l1_1.length : Int) == 0)), (by first | rfl | (simp; done) | (simp [*]; done) | (exfalso; simp_all; done) | (exfalso; simp_all; omega)), H', ⟨by have := HK1.out; have := HK2.out; first | omega | exact Nat.le_refl _⟩, ⟨gV HO_467001⟩, ⟨gR HO_473000⟩, ⟨gK BK465⟩, ⟨gK BK466⟩, ⟨gK BK467⟩, ⟨gK BK472⟩, ⟨gB HB⟩⟩))
             ·rw [if_neg c90] at H
              have c90b0 : decide (0 < t478) = false := decide_eq_false c90
              clear c90
              (first | rw [c90b0] | (simp only [i64_w, i32_w]; rw [c90b0]) | skip)
              have H' := gA H
              clear H
              go_wp2
              all_goals (go_meet; (case rel => exact ⟨_, (false), (by first | rfl | (simp; done) | (simp [*]; done) | (exfalso; simp_all; done) | (exfalso; simp_all; omega)), H', ⟨by have := HK1.out; have := HK2.out; first | omega | exact Nat.le_refl _⟩, ⟨gV HO_467001⟩, ⟨gR HO_473000⟩, ⟨gK BK465⟩, ⟨gK BK466⟩, ⟨gK BK467⟩, ⟨gK BK472⟩, ⟨gB HB⟩⟩))
            case rest =>
             clear HC81
             try clear c1
             try clear c2
             try clear p2
             try clear c3
             try clear c4
             try clear p4
             try clear q4
             try clear hx4
             try clear c5
             try clear c6
             try clear p6
             try clear c7
             try clear c8
             try clear c9
             try clear c12
             try clear c12b0
             try clear c12b1
             try clear c15
             try clear c16
             try clear c19
             try clear c19b0
             try clear c19b1
             try clear c20
             try clear c20b0
             try clear c20b1
             try clear c21
             try clear c22
             try clear c24
             try clear c26
             try clear c27
             try clear c29
             try clear c29b0
             try clear c30
             try clear c30b0
             try clear c31
             try clear c31b0
             try clear c31b1
             try clear c32
             try clear c32b0
             try clear c33
             try clear c34
             try clear c36
             try clear c38
             try clear c39
             try clear c40
             try clear c41
             try clear c42
             try clear c44
             try clear c46
             try clear c46b0
             try clear c46b1
             try clear c47
             try clear p47
             try clear q47
             try clear hx47
             try clear c48
             try clear c50
             try clear c52
             try clear c53
             try clear c56
             try clear c57
             try clear c58
             try clear c60
             try clear c60b0
             try clear c61
             try clear c61b0
             try clear c62
             try clear c62b0
             try clear c63
             try clear c64
             try clear p64
             try clear c65
             try clear c67
             try clear c68
             try clear c70
             try clear c71
             try clear c72
             try clear c73
             try clear c80
             try clear c80b0
             try clear c80b1
             try clear c82
             try clear c83
             try clear c84
             try clear c86
             try clear c87
             try clear c90
             try clear c90b0
             try clear c91
             try clear c92
             try clear c93
             try clear hcz10_0
             try clear hcz10_1
             try clear hcz17_0
             try clear hcz17_1
             try clear hcz23_0
             try clear hcz23_1
             try clear hcz25_0
             try clear hcz25_1
             try clear hcz28_0
             try clear hcz28_1
             try clear hcz35_0
             try clear hcz35_1
             try clear hcz37_0
             try clear hcz37_1
             try clear hcz40_0
             try clear hcz40_1
             try clear hcz43_0
             try clear hcz43_1
             try clear hcz45_0
             try clear hcz45_1
             try clear hcz49_0
             try clear hcz49_1
             try clear hcz51_0
             try clear hcz51_1
             try clear hcz54_0
             try clear hcz54_1
             try clear hcz59_0
             try clear hcz59_1
             try clear hcz66_0
             try clear hcz66_1
             try clear hcz69_0
             try clear hcz69_1
             try clear hcz74_0
             try clear hcz74_1
             try clear hcz85_0
             try clear hcz85_1
             try clear hcz88_0
             try clear hcz88_1
             try clear hcz94_0
             try clear hcz94_1
             try clear hfz10_0
             try clear hfz10_1
             try clear hfz17_0
             try clear hfz17_1
             try clear hfz23_0
             try clear hfz23_1
             try clear hfz25_0
             try clear hfz25_1
             try clear hfz28_0
             try clear hfz28_1
             try clear hfz35_0
             try clear hfz35_1
             try clear hfz37_0
             try clear hfz37_1
             try clear hfz40_0
             try clear hfz40_1
             try clear hfz43_0
             try clear hfz43_1
             try clear hfz45_0
             try clear hfz45_1
             try clear hfz49_0
             try clear hfz49_1
             try clear hfz51_0
             try clear hfz51_1
             try clear hfz54_0
             try clear hfz54_1
             try clear hfz59_0
             try clear hfz59_1
             try clear hfz66_0
             try clear hfz66_1
             try clear hfz69_0
             try clear hfz69_1
             try clear hfz74_0
             try clear hfz74_1
             try clear hfz85_0
             try clear hfz85_1
             try clear hfz88_0
             try clear hfz88_1
             try clear hfz94_0
             try clear hfz94_1
             try clear hx470_0
             try clear hx470_1
             try clear hx470_2
             try clear hx471_0
             try clear hx471_1
             try clear hx471_2
             try clear hx473_0
             try clear hx473_1
             try clear hx473_2
             try clear hx474_0
             try clear hx474_1
             try clear hx474_2
             try clear p2
             try clear p4
             try clear p47
             try clear p470
             try clear p471
             try clear p473
             try clear p474
             try clear p6
             try clear q4
             try clear q47
             try clear q470
             try clear q471
             try clear q473
             try clear q474
             obtain ⟨kq, x104_80, rfl, HA, HJ80, HO_467001, HO_473000, BK465, BK466, BK467, BK472, HB⟩ := hcut
             cases kq with
             | zero => exact absurd HA.out (by simp [triglyphref05_Reshape.j2])
             | succ kj80 =>
              have H := HA.out; clear HA
              simp only [triglyphref05_Reshape.j2] at H
              by_cases c95 : x104_80 = true
              ·subst c95
               have H1 : (some (([] : List Int), ([] : List (S39)), 7)) = some (r1, r2, r3) := by rw [if_pos rfl] at H; exact H
               clear H; have H := H1; clear H1
               simp only [Option.some.injEq, Prod.mk.injEq] at H
               obtain ⟨rfl, rfl, rfl⟩ := H
               have hnb96 := NB467_465.out
               have hnc96 := NB465_467.out
               have hnb97 := NB467_466.out
               have hnc97 := NB466_467.out
               have hnb98 := NB467_472.out
               have hnc98 := NB472_467.out
               obtain ⟨hcz99_0, hcz99_1, hfz99_0, hfz99_1⟩ := gz2 BK467
               go_wp2
               refine bodyPost_ret (results_ct rfl _ _ gb467 25 #[.slice none 0 0, .slice none 0 0] (0, 0) _ rfl (by refine blk_put (cs := #[.slice none 0 0, .slice none 0 0]) ?_ 1 _ rfl; refine blk_put (cs := #[.slice none 0 0, .slice none 0 0]) ?_ 0 _ rfl; exact gK BK467) Try.underlying25 rfl (by kernel_rfl)) rfl ?_
               exact ⟨_, _, rfl, by first | exact Kd.R_nil _ _ _ _ _ | exact Kd.N_nil _ _ _ _ _ | exact Kd.V_nil _ _ _ _ _ | exact Kd.Q_nil _ _ _ _ _ | exact Kd.S_nil _ _ _ _ _, by first | exact Kd.R_nil _ _ _ _ _ | exact Kd.N_nil _ _ _ _ _ | exact Kd.V_nil _ _ _ _ _ | exact Kd.Q_nil _ _ _ _ _ | exact Kd.S_nil _ _ _ _ _, by repeat first | exact gB HB | refine below_set ?_ GE465.out | refine below_set ?_ GE466.out | refine below_set ?_ GE467.out | refine below_set ?_ GE472.out⟩
              ·replace c95 := Bool.eq_false_iff.mpr c95
               subst c95
               have H1 : (triglyphref05_Reshape.l2 kj80 t478 0 l1_0 l1_1 x473000_2 ([] : List (S39))) = some (r1, r2, r3) := by rw [if_neg (show ¬ (false = true) by decide)] at H; exact H
               clear H; have H := H1; clear H1
               have H' := gA H
               clear H
               go_wp2
               go_loopg [13] kj80 (fun kq v13 w' => ∃ (x13_4 : Int) (x473001_4 : List (S39)) (u473001 : Value), v13 = .int .i64 x13_4 ∧ Aside0 (triglyphref05_Reshape.l2 kq t478 x13_4 l1_0 l1_1 x473000_2 x473001_4 = some (r1, r2, r3)) ∧ Aside0 (kq ≤ kj80) ∧ Aside0 (Kd.V k39 39 w' w.heap.size (fun k_ => (P1_1_ k_ ∨ w.heap.size ≤ k_) ∧ some k_ ≠ ((.slice Ao89 x473000_2.length co89) : Value).ownBlock ∧ some k_ ≠ (u473001 : Value).ownBlock ∧ k_ ≠ gb465 ∧ k_ ≠ gb466 ∧ k_ ≠ gb467 ∧ k_ ≠ gb472) (.slice A1_1 l1_1.length c1_1) l1_1) ∧ Aside0 (Kd.R (Kd.int .i64) 3 w' w.heap.size (fun k_ => (w.heap.size ≤ k_)) (.slice Ao89 x473000_2.length co89) x473000_2) ∧ Aside0 (Kd.N k39 39 w' w.heap.size (fun k_ => (P1_1_ k_ ∨ w.heap.size ≤ k_) ∧ some k_ ≠ ((.slice Ao89 x473000_2.length co89) : Value).ownBlock ∧ k_ ≠ gb465 ∧ k_ ≠ gb466 ∧ k_ ≠ gb467 ∧ k_ ≠ gb472) u473001 x473001_4) ∧ Aside0 (w'.heap[gb465]? = some (.cells #[(.slice A0_0 l0_0.length c0_0), (.slice A0_1 l0_1.length c0_1)] 25 (0, 0))) ∧ Aside0 (w'.heap[gb466]? = some (.cells #[(.slice A1_0 l1_0.length c1_0), (.slice A1_1 l1_1.length c1_1)] 25 (0, 0))) ∧ Aside0 (w'.heap[gb467]? = some (.cells #[(.slice none 0 0), (.slice none 0 0)] 25 (0, 0))) ∧ Aside0 (w'.heap[gb472]? = some (.cells #[(.slice Ao89 x473000_2.length co89), u473001] 25 (0, 0))) ∧ Aside0 (Below w.heap.size w w'))
               case atStart => exact ⟨(0), (([] : List (S39))), (.slice none 0 0), (rfl), H', ⟨Nat.le_refl _⟩, ⟨Kd.V_mono HO_467001.out (fun _ hk => ⟨hk.1, ⟨hk.2.1, ⟨(by simp [Value.ownBlock]), ⟨hk.2.2.1, ⟨hk.2.2.2.1, ⟨hk.2.2.2.2.1, hk.2.2.2.2.2⟩⟩⟩⟩⟩⟩)⟩, ⟨gR HO_473000⟩, ⟨by first | exact Kd.R_nil _ _ _ _ _ | exact Kd.N_nil _ _ _ _ _ | exact Kd.V_nil _ _ _ _ _ | exact Kd.Q_nil _ _ _ _ _ | exact Kd.S_nil _ _ _ _ _⟩, ⟨gK BK465⟩, ⟨gK BK466⟩, ⟨gK BK467⟩, ⟨gK BK472⟩, ⟨by repeat first | exact gB HB | refine below_set ?_ GE465.out | refine below_set ?_ GE466.out | refine below_set ?_ GE467.out | refine below_set ?_ GE472.out⟩⟩
               case round =>
                clear H'
                try clear c1
                try clear c2
                try clear p2
                try clear c3
                try clear c4
                try clear p4
                try clear q4
                try clear hx4
                try clear c5
                try clear c6
                try clear p6
                try clear c7
                try clear c8
                try clear c9
                try clear c12
                try clear c12b0
                try clear c12b1
                try clear c15
                try clear c16
                try clear c19
                try clear c19b0
                try clear c19b1
                try clear c20
                try clear c20b0
                try clear c20b1
                try clear c21
                try clear c22
                try clear c24
                try clear c26
                try clear c27
                try clear c29
                try clear c29b0
                try clear c30
                try clear c30b0
                try clear c31
                try clear c31b0
                try clear c31b1
                try clear c32
                try clear c32b0
                try clear c33
                try clear c34
                try clear c36
                try clear c38
                try clear c39
                try clear c40
                try clear c41
                try clear c42
                try clear c44
                try clear c46
                try clear c46b0
                try clear c46b1
                try clear c47
                try clear p47
                try clear q47
                try clear hx47
                try clear c48
                try clear c50
                try clear c52
                try clear c53
                try clear c56
                try clear c57
                try clear c58
                try clear c60
                try clear c60b0
                try clear c61
                try clear c61b0
                try clear c62
                try clear c62b0
                try clear c63
                try clear c64
                try clear p64
                try clear c65
                try clear c67
                try clear c68
                try clear c70
                try clear c71
                try clear c72
                try clear c73
                try clear c80
                try clear c80b0
                try clear c80b1
                try clear c82
                try clear c83
                try clear c84
                try clear c86
                try clear c87
                try clear c90
                try clear c90b0
                try clear c91
                try clear c92
                try clear c93
                try clear c95
                try clear c96
                try clear c97
                try clear c98
                try clear hcz10_0
                try clear hcz10_1
                try clear hcz17_0
                try clear hcz17_1
                try clear hcz23_0
                try clear hcz23_1
                try clear hcz25_0
                try clear hcz25_1
                try clear hcz28_0
                try clear hcz28_1
                try clear hcz35_0
                try clear hcz35_1
                try clear hcz37_0
                try clear hcz37_1
                try clear hcz40_0
                try clear hcz40_1
                try clear hcz43_0
                try clear hcz43_1
                try clear hcz45_0
                try clear hcz45_1
                try clear hcz49_0
                try clear hcz49_1
                try clear hcz51_0
                try clear hcz51_1
                try clear hcz54_0
                try clear hcz54_1
                try clear hcz59_0
                try clear hcz59_1
                try clear hcz66_0
                try clear hcz66_1
                try clear hcz69_0
                try clear hcz69_1
                try clear hcz74_0
                try clear hcz74_1
                try clear hcz85_0
                try clear hcz85_1
                try clear hcz88_0
                try clear hcz88_1
                try clear hcz94_0
                try clear hcz94_1
                try clear hcz99_0
                try clear hcz99_1
                try clear hfz10_0
                try clear hfz10_1
                try clear hfz17_0
                try clear hfz17_1
                try clear hfz23_0
                try clear hfz23_1
                try clear hfz25_0
                try clear hfz25_1
                try clear hfz28_0
                try clear hfz28_1
                try clear hfz35_0
                try clear hfz35_1
                try clear hfz37_0
                try clear hfz37_1
                try clear hfz40_0
                try clear hfz40_1
                try clear hfz43_0
                try clear hfz43_1
                try clear hfz45_0
                try clear hfz45_1
                try clear hfz49_0
                try clear hfz49_1
                try clear hfz51_0
                try clear hfz51_1
                try clear hfz54_0
                try clear hfz54_1
                try clear hfz59_0
                try clear hfz59_1
                try clear hfz66_0
                try clear hfz66_1
                try clear hfz69_0
                try clear hfz69_1
                try clear hfz74_0
                try clear hfz74_1
                try clear hfz85_0
                try clear hfz85_1
                try clear hfz88_0
                try clear hfz88_1
                try clear hfz94_0
                try clear hfz94_1
                try clear hfz99_0
                try clear hfz99_1
                try clear hx470_0
                try clear hx470_1
                try clear hx470_2
                try clear hx471_0
                try clear hx471_1
                try clear hx471_2
                try clear hx473_0
                try clear hx473_1
                try clear hx473_2
                try clear hx474_0
                try clear hx474_1
                try clear hx474_2
                try clear p2
                try clear p4
                try clear p47
                try clear p470
                try clear p471
                try clear p473
                try clear p474
                try clear p6
                try clear p64
                try clear q4
                try clear q47
                try clear q470
                try clear q471
                try clear q473
                try clear q474
                obtain ⟨x13_4, x473001_4, u473001, rfl, HA, HK4, HO_467001, HO_473000, HO_473001, BK465, BK466, BK467, BK472, HB⟩ := hrel
                cases gk with
                | zero => exact absurd HA.out (by simp [triglyphref05_Reshape.l2])
                | succ k4 =>
                 have H := HA.out; clear HA
                 simp only [triglyphref05_Reshape.l2] at H
                 by_cases c100 : x13_4 < t478
                 ·rw [if_pos c100] at H
                  have c100b0 := decide_eq_true c100
                  clear c100
                  obtain ⟨c101, H⟩ := iN H
                  have c101b0 : ((l1_1.length : Int) == 0) = false := beq_eq_false_iff_ne.mpr c101
                  have c101b1 : ((l1_1.length : Int) != 0) = true := bne_iff_ne.mpr c101
                  have c101b2 : ¬ (l1_1 = []) := fun h_ => c101 (by rw [h_]; rfl)
                  obtain ⟨ji102, hji102⟩ : ∃ j_ : Int, (Int.tmod x13_4 (l1_1.length : Int)) = j_ := ⟨_, rfl⟩
                  replace H : (if 0 ≤ (ji102) then (if (ji102) < (l1_1.length : Int) then (if x473001_4.length < 3518437208883 then (triglyphref05_Reshape.l2 k4 t478 (wrap64 (x13_4 + 1)) l1_0 l1_1 x473000_2 (x473001_4 ++ [(⟨(rd_T39 l1_1 (ji102)).f0, (rd_T39 l1_1 (ji102)).f1, (rd_T39 l1_1 (ji102)).f2⟩ : S39)])) else (none)) else (none)) else (none)) = some (r1, r2, r3) := by first | (rw [hji102] at H; exact H) | (simp only [hji102] at H ⊢; exact H)
                  obtain ⟨c103, H⟩ := iS H
                  have c103b0 := decide_eq_true c103
                  clear c103
                  obtain ⟨c104, H⟩ := iS H
                  have c104b0 := decide_eq_true c104
                  clear c104
                  obtain ⟨c105, H⟩ := iS H
                  have LMc105 := gA c105
                  clear c105
                  obtain ⟨y481, hy481⟩ : ∃ y_ : List (S39), y_ = (x473001_4 ++ [(⟨(rd_T39 l1_1 (ji102)).f0, (rd_T39 l1_1 (ji102)).f1, (rd_T39 l1_1 (ji102)).f2⟩ : S39)]) := ⟨_, rfl⟩
                  replace H : (triglyphref05_Reshape.l2 k4 t478 (wrap64 (x13_4 + 1)) l1_0 l1_1 x473000_2 y481) = some (r1, r2, r3) := by first | (rw [hy481]; with_reducible exact H) | (have H2_ := (Option.bind_some _ _).symm.trans H; rw [hy481]; with_reducible exact H2_) | (have H2_ := (Option.bind_some _ _).symm.trans H; with_reducible exact H2_) | with_reducible exact H | (rw [hy481]; exact H) | exact H
                  have Ny481 := gA hy481
                  clear hy481
                  have H' := gA H
                  clear H
                  try go_wp2
                  replace HO_467001 := gA (Kd.V_drew HO_467001.out); replace HO_473000 := gA (Kd.R_drew HO_473000.out); replace HO_473001 := gA (Kd.N_drew HO_473001.out); replace BK465 := gA (blk_drew BK465.out); replace BK466 := gA (blk_drew BK466.out); replace BK467 := gA (blk_drew BK467.out); replace BK472 := gA (blk_drew BK472.out); replace HB := gA (below_drew1 HB.out)
                  have p480 : 0 ≤ ((ji102) : Int) := of_decide_eq_true (by assumption)
                  have q480 : (ji102) < (l1_1.length : Int) := of_decide_eq_true (by assumption)
                  obtain ⟨ad480, A480_2, c480_2, e480, hx480_0, hx480_1, hx480_2, hl480_2, hi480_2⟩ := at_T39 (Kd.V_reads' HO_467001.out).2.2 (ji102) p480 q480
                  cases e480
                  obtain ⟨ce480, hce480, hMe480, hcc480⟩ := Kd.V_get HO_467001.out z39 (ji102) p480 (by first | exact q480 | exact of_decide_eq_true (by assumption) | (have e_ := (Kd.V_reads' HO_467001.out).1; omega))
                  obtain ⟨ua480_2, uc480_2, rfl, ul480_2, ge480_2⟩ := k39_openF hMe480
                  have hv480_2 := hcc480 2 _ rfl
                  rw [add_field _ _ 2 (by omega)] at hv480_2
                  replace hv480_2 := Option.some.inj (hv480_2.symm.trans hx480_2)
                  injection hv480_2 with hva_ hvn_ hvc_
                  rw [hva_] at ge480_2
                  rw [hvc_] at ul480_2
                  have HL480_2 := gA (show Kd.V k25 25 _ w.heap.size _ _ ((rd_T39 l1_1 (ji102)).f2) from Kd.V_mk ul480_2 ge480_2)
                  clear hva_ hvn_ hvc_ ge480_2 ul480_2 hcc480 hce480
                  have HR480_2 := gA hi480_2
                  have HC480_2 := gA hl480_2
                  clear hi480_2 hl480_2
                  replace p480 := eq_true p480
                  replace q480 := eq_true q480
                  refine start_ (n := 15) (S := fun w' => w'.cell? ⟨gb472, 0, none⟩ = some (.slice Ao89 x473000_2.length co89) ∧ w'.cell? ⟨gb472, 1, none⟩ = some (u473001) ∧ w'.cell? ⟨gb466, 0, none⟩ = some (.slice A1_0 l1_0.length c1_0) ∧ w'.cell? ⟨gb466, 1, none⟩ = some (.slice (some ad480) l1_1.length c1_1) ∧ w'.cell? (ad480.add (((ji102)).toNat * 3)) = some (.int .i64 ((rd_T39 l1_1 (ji102)).f0)) ∧ w'.cell? ⟨(ad480.add (((ji102)).toNat * 3)).block, (ad480.add (((ji102)).toNat * 3)).off + 1, none⟩ = some (.int .i64 ((rd_T39 l1_1 (ji102)).f1)) ∧ w'.cell? ⟨(ad480.add (((ji102)).toNat * 3)).block, (ad480.add (((ji102)).toNat * 3)).off + 2, none⟩ = some (.slice A480_2 ((rd_T39 l1_1 (ji102)).f2).length c480_2)) (ds := [12, 14]) #[false, false, false, false, false, false, false, false, false, false, false, false, false, false, false] (by kernel_rfl) rfl rfl ⟨(blk_cell BK472.out 0).trans rfl, (blk_cell BK472.out 1).trans rfl, (blk_cell BK466.out 0).trans rfl, (blk_cell BK466.out 1).trans rfl, hx480_0, hx480_1, hx480_2⟩ (fun hHeld => ?_); refine with_tabW triglyphref05_Reshape.tab31 triglyphref05_Reshape.bits31 (fun HT_ HW_ => ?_)
                  generalize wr.drew = w106 at HO_467001 HO_473000 HO_473001 BK465 BK466 BK467 BK472 HB HL480_2 HR480_2 hx480_0 hx480_1 hx480_2 hHeld ⊢
                  refine pure_ (i := 0) (N := some 111) (v := ?_) (a' := ?_) #[true, false, false, false, false, false, false, false, false, false, false, false, false, false, false] rfl rfl (any_of HT_.out (by kernel_rfl)) (fun _ _ _ h => h) (Or.inl ⟨by rfl, ?_⟩) ?_ ?_; rotate_left
                  ·intro w'; go_simp; with_reducible rfl
                  rotate_left
                  ·simp only [Act.put, List.setIfInBounds_toArray, List.set_cons_zero, List.set_cons_succ, i64_w, i32_w]; rfl
                  refine pure_ (i := 2) (N := some 113) (v := ?_) (a' := ?_) #[true, false, true, false, false, false, false, false, false, false, false, false, false, false, false] rfl rfl (any_of HT_.out (by kernel_rfl)) (fun _ _ _ h => h) (Or.inl ⟨by rfl, ?_⟩) ?_ ?_; rotate_left
                  ·intro w'; go_simp; with_reducible rfl
                  rotate_left
                  ·simp only [Act.put, List.setIfInBounds_toArray, List.set_cons_zero, List.set_cons_succ, i64_w, i32_w]; rfl
                  refine pure_ (i := 4) (N := some 115) (v := ?_) (a' := ?_) #[true, false, true, false, true, false, false, false, false, false, false, false, false, false, false] rfl rfl (any_of HT_.out (by kernel_rfl)) (fun _ _ _ h => h) (Or.inl ⟨by rfl, ?_⟩) ?_ ?_; rotate_left
                  ·intro w'; go_simp; with_reducible rfl
                  rotate_left
                  ·simp only [Act.put, List.setIfInBounds_toArray, List.set_cons_zero, List.set_cons_succ, i64_w, i32_w]; rfl
                  refine pure_ (i := 5) (N := some 116) (v := ?_) (a' := ?_) #[true, false, true, false, true, true, false, false, false, false, false, false, false, false, false] rfl rfl (any_of HT_.out (by kernel_rfl)) (fun _ _ _ h => h) (Or.inl ⟨by rfl, ?_⟩) ?_ ?_; rotate_left
                  ·intro w'; go_simp; with_reducible rfl
                  rotate_left
                  ·simp only [Act.put, List.setIfInBounds_toArray, List.set_cons_zero, List.set_cons_succ, i64_w, i32_w]; rfl
                  refine take_ (i := 1) (N := some 112) (v := ?_) (a' := ?_) #[true, true, true, false, true, true, false, false, false, false, false, false, false, false, false] rfl rfl (take_ofW HT_.out HW_.out (by kernel_rfl)) (fun _ _ _ h => h) (Or.inl ⟨by rfl, ?_⟩) hHeld ?_ ?_; rotate_left
                  ·rintro w' ⟨s0, s1, s2, s3, s4, s5, s6⟩; go_simp; with_reducible rfl
                  rotate_left
                  ·simp only [Act.put, List.setIfInBounds_toArray, List.set_cons_zero, List.set_cons_succ, i64_w, i32_w]; rfl
                  refine take_ (i := 3) (N := some 114) (v := ?_) (a' := ?_) #[true, true, true, true, true, true, false, false, false, false, false, false, false, false, false] rfl rfl (take_ofW HT_.out HW_.out (by kernel_rfl)) (fun _ _ _ h => h) (Or.inl ⟨by rfl, ?_⟩) hHeld ?_ ?_; rotate_left
                  ·rintro w' ⟨s0, s1, s2, s3, s4, s5, s6⟩; go_simp; with_reducible rfl
                  rotate_left
                  ·simp only [Act.put, List.setIfInBounds_toArray, List.set_cons_zero, List.set_cons_succ, i64_w, i32_w]; rfl
                  refine take_ (i := 6) (N := some 117) (v := ?_) (a' := ?_) #[true, true, true, true, true, true, true, false, false, false, false, false, false, false, false] rfl rfl (take_ofW HT_.out HW_.out (by kernel_rfl)) (fun _ _ _ h => h) (Or.inl ⟨by rfl, ?_⟩) hHeld ?_ ?_; rotate_left
                  ·rintro w' ⟨s0, s1, s2, s3, s4, s5, s6⟩; go_simp; with_reducible rfl
                  rotate_left
                  ·simp only [Act.put, List.setIfInBounds_toArray, List.set_cons_zero, List.set_cons_succ, i64_w, i32_w]; rfl
                  refine pure_ (i := 7) (N := some 118) (v := ?_) (a' := ?_) #[true, true, true, true, true, true, true, true, false, false, false, false, false, false, false] rfl rfl (any_of HT_.out (by kernel_rfl)) (fun _ _ _ h => h) (Or.inl ⟨by rfl, ?_⟩) ?_ ?_; rotate_left
                  ·intro w'; go_simp; with_reducible rfl
                  rotate_left
                  ·simp only [Act.put, List.setIfInBounds_toArray, List.set_cons_zero, List.set_cons_succ, i64_w, i32_w]; rfl
                  refine pure_ (i := 8) (N := some 119) (v := ?_) (a' := ?_) #[true, true, true, true, true, true, true, true, true, false, false, false, false, false, false] rfl rfl (any_of HT_.out (by kernel_rfl)) (fun _ _ _ h => h) (Or.inl ⟨by rfl, ?_⟩) ?_ ?_; rotate_left
                  ·intro w'; go_simp; with_reducible rfl
                  rotate_left
                  ·simp only [Act.put, List.setIfInBounds_toArray, List.set_cons_zero, List.set_cons_succ, i64_w, i32_w]; rfl
                  refine pure_ (i := 9) (N := some 120) (v := ?_) (a' := ?_) #[true, true, true, true, true, true, true, true, true, true, false, false, false, false, false] rfl rfl (any_of HT_.out (by kernel_rfl)) (fun _ _ _ h => h) (Or.inl ⟨by rfl, ?_⟩) ?_ ?_; rotate_left
                  ·intro w'; go_simp; with_reducible rfl
                  rotate_left
                  ·simp only [Act.put, List.setIfInBounds_toArray, List.set_cons_zero, List.set_cons_succ, i64_w, i32_w]; rfl
                  refine take_ (i := 10) (N := some 121) (v := ?_) (a' := ?_) #[true, true, true, true, true, true, true, true, true, true, true, false, false, false, false] rfl rfl (take_ofW HT_.out HW_.out (by kernel_rfl)) (fun _ _ _ h => h) (Or.inl ⟨by rfl, ?_⟩) hHeld ?_ ?_; rotate_left
                  ·rintro w' ⟨s0, s1, s2, s3, s4, s5, s6⟩; go_simp; with_reducible rfl
                  rotate_left
                  ·simp only [Act.put, List.setIfInBounds_toArray, List.set_cons_zero, List.set_cons_succ, i64_w, i32_w]; rfl
                  refine one_ (i := 11) (N := some 122) #[true, true, true, true, true, true, true, true, true, true, true, true, false, false, false] rfl rfl (one_of HT_.out (by kernel_rfl)) (by decide) (fun K hK => ?_)
                  refine value_ (w1 := ?_) (v := ?_) (by rfl) rfl ?_ ?_
                  rotate_left 2
                  ·go_simp
                   constructor
                   ·rfl
                   ·rfl
                  refine hK.out _ _ ⟨(blk_cell (blk_alloc BK472.out _) 0).trans rfl, (blk_cell (blk_alloc BK472.out _) 1).trans rfl, (blk_cell (blk_alloc BK466.out _) 0).trans rfl, (blk_cell (blk_alloc BK466.out _) 1).trans rfl, (World.cell?_alloc_lt _ _ _ (World.block_lt_of_cell? _ _ (hHeld.2.2.2.2.1))).trans (hHeld.2.2.2.2.1), (World.cell?_alloc_lt _ _ _ (World.block_lt_of_cell? _ _ (hHeld.2.2.2.2.2.1))).trans (hHeld.2.2.2.2.2.1), (World.cell?_alloc_lt _ _ _ (World.block_lt_of_cell? _ _ (hHeld.2.2.2.2.2.2))).trans (hHeld.2.2.2.2.2.2)⟩ (fun hHeld => ?_); clear hK K
                  refine norm_ (a' := ?_) ?_ ?_; rotate_left
                  ·show Act.put _ (some 122) _ = _
                   simp only [Act.put, List.setIfInBounds_toArray, List.set_cons_zero, List.set_cons_succ, i64_w, i32_w]; rfl
                  refine last_ (i := 12) (N := some 123) #[true, true, true, true, true, true, true, true, true, true, true, true, true, false, false] rfl rfl (one_of HT_.out (by kernel_rfl)) (by decide) (fun K hK => ?_)
                  refine Kd.N_append_step k39 (w0 := w) w.heap.size (by rfl) (.tmp 112) (.tmp 122) 23 39 (.agg #[(.int .i64 0), (.int .i64 0), (.slice none 0 0)]) 40 rfl Try.underlying23 info39 rfl (by decide) (by omega) u473001 x473001_4 (⟨(rd_T39 l1_1 (ji102)).f0, (rd_T39 l1_1 (ji102)).f1, (rd_T39 l1_1 (ji102)).f2⟩ : S39) [.int .i64 ((rd_T39 l1_1 (ji102)).f0), .int .i64 ((rd_T39 l1_1 (ji102)).f1), .slice A480_2 ((rd_T39 l1_1 (ji102)).f2).length c480_2] (fun k_ => (P1_1_ k_ ∨ w.heap.size ≤ k_) ∧ some k_ ≠ (.slice Ao89 x473000_2.length co89 : Value).ownBlock ∧ k_ ≠ gb465 ∧ k_ ≠ gb466 ∧ k_ ≠ gb467 ∧ k_ ≠ gb472) (fun k_ => ((fun k_ => (P1_1_ k_ ∨ w.heap.size ≤ k_) ∧ some k_ ≠ (.slice Ao89 x473000_2.length co89 : Value).ownBlock ∧ k_ ≠ gb465 ∧ k_ ≠ gb466 ∧ k_ ≠ gb467 ∧ k_ ≠ gb472)) k_ ∧ some k_ ≠ (u473001 : Value).ownBlock) rfl rfl ?aP (fun _ hk => hk) ?aF ?aO ?aB ?aS ?aL ?_
                  (case aP => exact (k39_mkF _ _ (⟨(rd_T39 l1_1 (ji102)).f0, (rd_T39 l1_1 (ji102)).f1, (rd_T39 l1_1 (ji102)).f2⟩ : S39) (Kd.V_reads' (Kd.V_mono (ok' := (fun k_ => ((fun k_ => (P1_1_ k_ ∨ w.heap.size ≤ k_) ∧ some k_ ≠ (.slice Ao89 x473000_2.length co89 : Value).ownBlock ∧ k_ ≠ gb465 ∧ k_ ≠ gb466 ∧ k_ ≠ gb467 ∧ k_ ≠ gb472)) k_ ∧ some k_ ≠ (u473001 : Value).ownBlock)) (HL480_2.out) (fun k_ hk => ⟨⟨hk.1, ⟨hk.2.1, ⟨hk.2.2.2.1, ⟨hk.2.2.2.2.1, ⟨hk.2.2.2.2.2.1, hk.2.2.2.2.2.2⟩⟩⟩⟩⟩, hk.2.2.1⟩))).2.1 (Kd.V_F (Kd.V_mono (ok' := (fun k_ => ((fun k_ => (P1_1_ k_ ∨ w.heap.size ≤ k_) ∧ some k_ ≠ (.slice Ao89 x473000_2.length co89 : Value).ownBlock ∧ k_ ≠ gb465 ∧ k_ ≠ gb466 ∧ k_ ≠ gb467 ∧ k_ ≠ gb472)) k_ ∧ some k_ ≠ (u473001 : Value).ownBlock)) (HL480_2.out) (fun k_ hk => ⟨⟨hk.1, ⟨hk.2.1, ⟨hk.2.2.2.1, ⟨hk.2.2.2.2.1, ⟨hk.2.2.2.2.2.1, hk.2.2.2.2.2.2⟩⟩⟩⟩⟩, hk.2.2.1⟩)))))
                  (case aB => exact (gB HB))
                  (case aF => exact (fun k_ hk => ⟨(.inr (Nat.le_trans (below_size (gB HB)) hk)), Kd.fresh' (Kd.R_lt (gR HO_473000)) k_ hk, Kd.freshB (gK BK465) k_ hk, Kd.freshB (gK BK466) k_ hk, Kd.freshB (gK BK467) k_ hk, Kd.freshB (gK BK472) k_ hk⟩))
                  (case aO => exact (gN HO_473001))
                  (case aS => exact (below_size (gB HB)))
                  (case aL => have := LMc105.out; omega)
                  intro v482 w107 ho hb hg hat
                  rw [← Ny481.out] at ho
                  replace HO_467001 := gA (Kd.V_afterv (ok := (fun k_ => (P1_1_ k_ ∨ w.heap.size ≤ k_) ∧ some k_ ≠ (.slice Ao89 x473000_2.length co89 : Value).ownBlock ∧ k_ ≠ gb465 ∧ k_ ≠ gb466 ∧ k_ ≠ gb467 ∧ k_ ≠ gb472)) (Kd.V_mono HO_467001.out (fun _ hk => ⟨⟨hk.1, ⟨hk.2.1, ⟨hk.2.2.2.1, ⟨hk.2.2.2.2.1, ⟨hk.2.2.2.2.2.1, hk.2.2.2.2.2.2⟩⟩⟩⟩⟩, hk.2.2.1⟩)) hg hat); replace HO_473000 := gA (Kd.R_over' (gR HO_473000) (Kd.N_typed (gN HO_473001)) (by decide) hg); replace BK465 := gA (blk_grown (gK BK465) hg (Kd.N_ne HO_473001.out BK465.out (by decide))); replace BK466 := gA (blk_grown (gK BK466) hg (Kd.N_ne HO_473001.out BK466.out (by decide))); replace BK467 := gA (blk_grown (gK BK467) hg (Kd.N_ne HO_473001.out BK467.out (by decide))); replace BK472 := gA (blk_grown (gK BK472) hg (Kd.N_ne HO_473001.out BK472.out (by decide))); replace HL480_2 := gA (Kd.V_afterv (ok := (fun k_ => (P1_1_ k_ ∨ w.heap.size ≤ k_) ∧ some k_ ≠ (.slice Ao89 x473000_2.length co89 : Value).ownBlock ∧ k_ ≠ gb465 ∧ k_ ≠ gb466 ∧ k_ ≠ gb467 ∧ k_ ≠ gb472)) (Kd.V_mono HL480_2.out (fun _ hk => ⟨⟨hk.1, ⟨hk.2.1, ⟨hk.2.2.2.1, ⟨hk.2.2.2.2.1, ⟨hk.2.2.2.2.2.1, hk.2.2.2.2.2.2⟩⟩⟩⟩⟩, hk.2.2.1⟩)) hg hat); replace HB := gA (hb); have HO483 := gA (ho); clear HO_473001 ho hb hg hat
                  obtain ⟨Ao108, co108, eo108⟩ := Kd.N_slice HO483.out
                  (first | subst eo108 | (injection eo108 with f1_ f2_ f3_; have f4_ := f1_.symm; have f5_ := f3_.symm; clear f1_ f2_ f3_; subst f4_; subst f5_))
                  refine hK.out _ _ ?_; clear hK K
                  refine norm_ (a' := ?_) ?_ ?_; rotate_left
                  ·show Act.put _ (some 123) _ = _
                   simp only [Act.put, List.setIfInBounds_toArray, List.set_cons_zero, List.set_cons_succ, i64_w, i32_w]; rfl
                  refine pure_ (i := 13) (N := some 124) (v := ?_) (a' := ?_) #[true, true, true, true, true, true, true, true, true, true, true, true, true, true, false] rfl rfl (any_of HT_.out (by kernel_rfl)) (fun _ _ _ h => h) (Or.inl ⟨by rfl, ?_⟩) ?_ ?_; rotate_left
                  ·intro w'; go_simp; with_reducible rfl
                  rotate_left
                  ·simp only [Act.put, List.setIfInBounds_toArray, List.set_cons_zero, List.set_cons_succ, i64_w, i32_w]; rfl
                  refine last_ (i := 14) (N := none) #[true, true, true, true, true, true, true, true, true, true, true, true, true, true, true] rfl rfl (one_of HT_.out (by kernel_rfl)) (by decide) (fun K hK => ?_)
                  have hs109 := gz BK472 1 rfl
                  have hfs109 := blk_frozen BK472.out 1
                  have hns109_0 := NB465_472.out
                  have hns109_1 := NB466_472.out
                  have hns109_2 := NB467_472.out
                  have hms109_0 := NB472_465.out
                  have hms109_1 := NB472_466.out
                  have hms109_2 := NB472_467.out
                  refine skip_ (w1 := ?_) (by rfl) rfl ?_ ?_; rotate_left
                  ·go_simp; rfl
                  refine hK.out _ _ ?_; clear hK K
                  refine done_ (done_of HT_.out (by kernel_rfl)) ?_
                  try go_wp2
                  go_roundg k4
                  case measure => have := HK1.out; have := HK2.out; have := HJ80.out; have := HK4.out; omega
                  case rel => exact ⟨(wrap64 (x13_4 + 1)), (y481), (.slice Ao108 y481.length co108), (rfl), H', ⟨by have := HK1.out; have := HK2.out; have := HJ80.out; have := HK4.out; omega⟩, ⟨Kd.V_mono (Kd.V_far (p := ⟨gb472, 1, none⟩) (Kd.V_mono HO_467001.out (fun k_ hk => (⟨hk, hk.1.2.2.2.2.2⟩ : _ ∧ k_ ≠ gb472))) (fun _ hk => hk.2) (.slice Ao108 y481.length co108)) (fun _ hk => by first | exact ⟨hk.1.1.1, ⟨hk.1.1.2.1, ⟨hk.1.2, ⟨hk.1.1.2.2.1, ⟨hk.1.1.2.2.2.1, ⟨hk.1.1.2.2.2.2.1, hk.1.1.2.2.2.2.2⟩⟩⟩⟩⟩⟩ | (simp_all; done))⟩, ⟨Kd.R_mono (Kd.R_far (p := ⟨gb472, 1, none⟩) (Kd.R_types HO_473000.out BK472.out (by decide)) (fun _ hk => hk.2) (.slice Ao108 y481.length co108)) (fun _ hk => hk.1)⟩, ⟨Kd.N_mono (Kd.N_far (p := ⟨gb472, 1, none⟩) (Kd.N_mono HO483.out (fun k_ hk => (⟨hk, hk.2.2.2.2.2⟩ : _ ∧ k_ ≠ gb472))) (fun _ hk => hk.2) (.slice Ao108 y481.length co108)) (fun _ hk => ⟨hk.1.1, ⟨hk.1.2.1, ⟨hk.1.2.2.1, ⟨hk.1.2.2.2.1, ⟨hk.1.2.2.2.2.1, hk.1.2.2.2.2.2⟩⟩⟩⟩⟩)⟩, ⟨by refine blk_far ?_ NB465_472.out _; exact gK BK465⟩, ⟨by refine blk_far ?_ NB466_472.out _; exact gK BK466⟩, ⟨by refine blk_far ?_ NB467_472.out _; exact gK BK467⟩, ⟨by refine blk_put (cs := #[.slice Ao89 x473000_2.length co89, u473001]) ?_ 1 _ rfl; exact gK BK472⟩, ⟨by repeat first | exact gB HB | refine below_set ?_ GE465.out | refine below_set ?_ GE466.out | refine below_set ?_ GE467.out | refine below_set ?_ GE472.out⟩⟩
                 ·rw [if_neg c100] at H
                  have c100b0 := decide_eq_false c100
                  clear c100
                  simp only [Option.some.injEq, Prod.mk.injEq] at H
                  obtain ⟨rfl, rfl, rfl⟩ := H
                  have hnb110 := NB472_465.out
                  have hnc110 := NB465_472.out
                  have hnb111 := NB472_466.out
                  have hnc111 := NB466_472.out
                  have hnb112 := NB472_467.out
                  have hnc112 := NB467_472.out
                  obtain ⟨hcz113_0, hcz113_1, hfz113_0, hfz113_1⟩ := gz2 BK472
                  have hnb114 := NB467_465.out
                  have hnc114 := NB465_467.out
                  have hnb115 := NB467_466.out
                  have hnc115 := NB466_467.out
                  obtain ⟨hcz116_0, hcz116_1, hfz116_0, hfz116_1⟩ := gz2 BK467
                  obtain ⟨Ao117, co117, eo117⟩ := Kd.N_slice HO_473001.out
                  subst eo117
                  go_wp2
                  refine bodyPost_ret (results_ct rfl _ _ gb467 25 #[.slice Ao89 x473000_2.length co89, .slice Ao117 x473001_4.length co117] (0, 0) _ rfl (by refine blk_put (cs := #[.slice Ao89 x473000_2.length co89, .slice none 0 0]) ?_ 1 _ rfl; refine blk_put (cs := #[.slice none 0 0, .slice none 0 0]) ?_ 0 _ rfl; exact gK BK467) Try.underlying25 rfl (by kernel_rfl)) rfl ?_
                  exact ⟨_, _, rfl, Kd.R_mono (Kd.R_far (p := ⟨gb467, 1, none⟩) (Kd.R_far (p := ⟨gb467, 0, none⟩) (Kd.R_types HO_473000.out BK467.out (by decide)) (fun _ hk => hk.2) (.slice Ao89 x473000_2.length co89)) (fun _ hk => hk.2) (.slice Ao117 x473001_4.length co117)) (fun _ hk => hk.1), Kd.N_mono (Kd.N_far (p := ⟨gb467, 1, none⟩) (Kd.N_far (p := ⟨gb467, 0, none⟩) (Kd.N_mono HO_473001.out (fun k_ hk => (⟨hk, hk.2.2.2.2.1⟩ : _ ∧ k_ ≠ gb467))) (fun _ hk => hk.2) (.slice Ao89 x473000_2.length co89)) (fun _ hk => hk.2) (.slice Ao117 x473001_4.length co117)) (fun _ hk => ⟨hk.1.1, hk.1.2.1⟩), by repeat first | exact gB HB | refine below_set ?_ GE465.out | refine below_set ?_ GE466.out | refine below_set ?_ GE467.out | refine below_set ?_ GE472.out⟩
           ·rw [if_neg c80] at H
            have c80b0 : (t479 == 0) = false := beq_eq_false_iff_ne.mpr c80
            have c80b1 : (t479 != 0) = true := bne_iff_ne.mpr c80
            simp only [Option.some.injEq, Prod.mk.injEq] at H
            obtain ⟨rfl, rfl, rfl⟩ := H
            have hnb118 := NB465_466.out
            have hnc118 := NB466_465.out
            have hnb119 := NB465_467.out
            have hnc119 := NB467_465.out
            have hnb120 := NB465_472.out
            have hnc120 := NB472_465.out
            obtain ⟨hcz121_0, hcz121_1, hfz121_0, hfz121_1⟩ := gz2 BK465
            have hnb122 := NB472_466.out
            have hnc122 := NB466_472.out
            have hnb123 := NB472_467.out
            have hnc123 := NB467_472.out
            obtain ⟨hcz124_0, hcz124_1, hfz124_0, hfz124_1⟩ := gz2 BK472
            obtain ⟨Ao125, co125, eo125⟩ := Kd.R_slice HO_473000.out
            subst eo125
            go_wp2_with (first | ((with_reducible refine gate_callee (f := 40) rfl ?_); refine goesL_ (some 90) rfl rfl Try.func40 (by kernel_rfl) rfl #[.slice Ao125 x473000_2.length co125] rfl (by (try simp only [List.map_toArray, List.map_cons, List.map_nil]); first | done | rfl | (simp only [List.length_drop, List.length_take]; rfl)) ?_; (with_reducible refine (triglyphref03_Size.calls k2 _ _ x473000_2 t478 t479 _ ?side1 ?side2 A79.out).mono ?_); (case side1 => repeat (first | exact (Kd.R_reads' HO_473000.out).2.2 | (with_reducible refine Kd.C_alloc ?_ _) | (with_reducible refine Kd.C_drewN ?_ _) | (with_reducible refine Kd.C_drew ?_))); (case side2 => exact (Kd.R_reads' HO_473000.out).2.1); rintro e w' ⟨rfl, ⟨nd, rfl⟩⟩; refine ⟨_, rfl, ?_⟩; (try (rw [drewN_self wr]; generalize hq_ : World.drewN wr _ = wr; have n0_ : Aside0 (Kd.V k39 39 wr w.heap.size (fun k_ => (P1_1_ k_ ∨ w.heap.size ≤ k_) ∧ some k_ ≠ (.slice Ao125 x473000_2.length co125 : Value).ownBlock ∧ k_ ≠ gb465 ∧ k_ ≠ gb466 ∧ k_ ≠ gb467 ∧ k_ ≠ gb472) (.slice A1_1 l1_1.length c1_1) l1_1) := ⟨by rw [← hq_]; exact (gV HO_467001)⟩; have n1_ : Aside0 (Kd.R (Kd.int .i64) 3 wr w.heap.size (fun k_ => (w.heap.size ≤ k_)) (.slice Ao125 x473000_2.length co125) x473000_2) := ⟨by rw [← hq_]; exact (gR HO_473000)⟩; have n2_ : Aside0 (wr.heap[gb465]? = some (.cells #[.slice A0_0 l0_0.length c0_0, .slice A0_1 l0_1.length c0_1] 25 (0, 0))) := ⟨by rw [← hq_]; exact (gK BK465)⟩; have n3_ : Aside0 (wr.heap[gb466]? = some (.cells #[.slice A1_0 l1_0.length c1_0, .slice A1_1 l1_1.length c1_1] 25 (0, 0))) := ⟨by rw [← hq_]; exact (gK BK466)⟩; have n4_ : Aside0 (wr.heap[gb467]? = some (.cells #[.slice none 0 0, .slice none 0 0] 25 (0, 0))) := ⟨by rw [← hq_]; exact (gK BK467)⟩; have n5_ : Aside0 (wr.heap[gb472]? = some (.cells #[.slice Ao125 x473000_2.length co125, .slice none 0 0] 25 (0, 0))) := ⟨by rw [← hq_]; exact (gK BK472)⟩; have n6_ : Aside0 (Below w.heap.size w wr) := ⟨by rw [← hq_]; exact (gB HB)⟩; clear HO_467001 HO_473000 BK465 BK466 BK467 BK472 HB hq_; have HO_467001 := n0_; have HO_473000 := n1_; have BK465 := n2_; have BK466 := n3_; have BK467 := n4_; have BK472 := n5_; have HB := n6_; clear n0_ n1_ n2_ n3_ n4_ n5_ n6_)); have hnb126 := NB467_466.out; have hnc126 := NB466_467.out; obtain ⟨hcz127_0, hcz127_1, hfz127_0, hfz127_1⟩ := gz2 BK467))
            refine bodyPost_ret (results_ct rfl _ _ gb467 25 #[.slice none 0 0, .slice none 0 0] (0, 0) _ rfl (by refine blk_put (cs := #[.slice none 0 0, .slice none 0 0]) ?_ 1 _ rfl; refine blk_put (cs := #[.slice none 0 0, .slice none 0 0]) ?_ 0 _ rfl; exact gK BK467) Try.underlying25 rfl (by kernel_rfl)) rfl ?_
            exact ⟨_, _, rfl, by first | exact Kd.R_nil _ _ _ _ _ | exact Kd.N_nil _ _ _ _ _ | exact Kd.V_nil _ _ _ _ _ | exact Kd.Q_nil _ _ _ _ _ | exact Kd.S_nil _ _ _ _ _, by first | exact Kd.R_nil _ _ _ _ _ | exact Kd.N_nil _ _ _ _ _ | exact Kd.V_nil _ _ _ _ _ | exact Kd.Q_nil _ _ _ _ _ | exact Kd.S_nil _ _ _ _ _, by repeat first | exact gB HB | refine below_set ?_ GE465.out | refine below_set ?_ GE466.out | refine below_set ?_ GE467.out | refine below_set ?_ GE472.out⟩
  ·rw [if_neg c19] at H
   have c19b0 : (t469 == 0) = false := beq_eq_false_iff_ne.mpr c19
   have c19b1 : (t469 != 0) = true := bne_iff_ne.mpr c19
   (first | rw [c19b0] | rw [c19b1] | (simp only [i64_w, i32_w]; rw [c19b0]) | skip)
   simp only [Option.some.injEq, Prod.mk.injEq] at H
   obtain ⟨rfl, rfl, rfl⟩ := H
   have hnb128 := NB467_465.out
   have hnc128 := NB465_467.out
   have hnb129 := NB467_466.out
   have hnc129 := NB466_467.out
   obtain ⟨hcz130_0, hcz130_1, hfz130_0, hfz130_1⟩ := gz2 BK467
   go_wp2
   refine bodyPost_ret (results_ct rfl _ _ gb467 25 #[.slice none 0 0, .slice none 0 0] (0, 0) _ rfl (by refine blk_put (cs := #[.slice none 0 0, .slice none 0 0]) ?_ 1 _ rfl; refine blk_put (cs := #[.slice none 0 0, .slice none 0 0]) ?_ 0 _ rfl; exact gK BK467) Try.underlying25 rfl (by kernel_rfl)) rfl ?_
   exact ⟨_, _, rfl, by first | exact Kd.R_nil _ _ _ _ _ | exact Kd.N_nil _ _ _ _ _ | exact Kd.V_nil _ _ _ _ _ | exact Kd.Q_nil _ _ _ _ _ | exact Kd.S_nil _ _ _ _ _, by first | exact Kd.R_nil _ _ _ _ _ | exact Kd.N_nil _ _ _ _ _ | exact Kd.V_nil _ _ _ _ _ | exact Kd.Q_nil _ _ _ _ _ | exact Kd.S_nil _ _ _ _ _, by repeat first | exact gB HB | refine below_set ?_ GE465.out | refine below_set ?_ GE466.out | refine below_set ?_ GE467.out⟩
 ·rw [if_neg c12] at H
  have c12b0 : (t468 == 0) = false := beq_eq_false_iff_ne.mpr c12
  have c12b1 : (t468 != 0) = true := bne_iff_ne.mpr c12
  (first | rw [c12b0] | rw [c12b1] | (simp only [i64_w, i32_w]; rw [c12b0]) | skip)
  simp only [Option.some.injEq, Prod.mk.injEq] at H
  obtain ⟨rfl, rfl, rfl⟩ := H
  have hnb131 := NB467_465.out
  have hnc131 := NB465_467.out
  have hnb132 := NB467_466.out
  have hnc132 := NB466_467.out
  obtain ⟨hcz133_0, hcz133_1, hfz133_0, hfz133_1⟩ := gz2 BK467
  go_wp2
  refine bodyPost_ret (results_ct rfl _ _ gb467 25 #[.slice none 0 0, .slice none 0 0] (0, 0) _ rfl (by refine blk_put (cs := #[.slice none 0 0, .slice none 0 0]) ?_ 1 _ rfl; refine blk_put (cs := #[.slice none 0 0, .slice none 0 0]) ?_ 0 _ rfl; exact gK BK467) Try.underlying25 rfl (by kernel_rfl)) rfl ?_
  exact ⟨_, _, rfl, by first | exact Kd.R_nil _ _ _ _ _ | exact Kd.N_nil _ _ _ _ _ | exact Kd.V_nil _ _ _ _ _ | exact Kd.Q_nil _ _ _ _ _ | exact Kd.S_nil _ _ _ _ _, by first | exact Kd.R_nil _ _ _ _ _ | exact Kd.N_nil _ _ _ _ _ | exact Kd.V_nil _ _ _ _ _ | exact Kd.Q_nil _ _ _ _ _ | exact Kd.S_nil _ _ _ _ _, by repeat first | exact gB HB | refine below_set ?_ GE465.out | refine below_set ?_ GE466.out | refine below_set ?_ GE467.out⟩
end Go.Proofs.Ytiegcghapchimaa.P
