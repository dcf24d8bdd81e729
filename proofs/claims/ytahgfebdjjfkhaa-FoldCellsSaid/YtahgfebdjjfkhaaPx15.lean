/- Written by a program of this session: the functions that the laws reach, what each comes to, and each law as it is stated, for every input. No condition. -/
import Derived.Test.YtahgfebdjjfkhaaPx0
import Derived.Test.YtahgfebdjjfkhaaPx1
import Derived.Test.YtahgfebdjjfkhaaPx9
import Derived.Test.YtahgfebdjjfkhaaPx10
import Derived.Test.YtahgfebdjjfkhaaPx12
import Derived.Test.YtahgfebdjjfkhaaPx14
namespace Go.Proofs.Ytahgfebdjjfkhaa.P
open Go.RowKit Go.Proofs.YtahgfebdjjfkhaaW.PrintWords Go.Proofs.YtahgfebdjjfkhaaW.PrintLast Go.Proofs.YtahgfebdjjfkhaaW.PrintMore
attribute [local go_sem] max2_int min2_int max_two min_two max_three min_three max_four min_four   -- for this text's walks alone
set_option linter.unusedVariables false
set_option linter.unusedSimpArgs false
def triglyphlaw08_FoldCells.j0 : Nat → Int → Int → Int → Bool → List Int → List (S43) → List Int → List (S43) → Option (Bool)
 | 0, _, _, _, _, _, _, _, _ => none
 | k + 1, x0, x3, x4, x44, x350000, x350001, x351000, x351001 => if x44 = true then ((triglyphlaw08_works.f k).bind fun t355 => (some t355)) else ((fold_Outer.f k x0 false x350000 x350001 x351000 x351001).bind fun bt356 => (if bt356.2.2 = 0 then (if (IntKind.u64.wrap ((x350001.length : Int))) = 0 then (none) else (if (IntKind.u64.wrap ((x351001.length : Int))) = 0 then (none) else (if 0 ≤ (wrap64 (Int.tmod (IntKind.u64.wrap (x3)) (IntKind.u64.wrap ((x350001.length : Int))))) then (if (wrap64 (Int.tmod (IntKind.u64.wrap (x3)) (IntKind.u64.wrap ((x350001.length : Int))))) < (x350001.length : Int) then (if 0 ≤ (wrap64 (Int.tmod (IntKind.u64.wrap (x4)) (IntKind.u64.wrap ((x351001.length : Int))))) then (if (wrap64 (Int.tmod (IntKind.u64.wrap (x4)) (IntKind.u64.wrap ((x351001.length : Int))))) < (x351001.length : Int) then ((triglyphref04_Cell.f k x0 ((rd_T43 x350001 (wrap64 (Int.tmod (IntKind.u64.wrap (x3)) (IntKind.u64.wrap ((x350001.length : Int)))))).f0) ((rd_T43 x350001 (wrap64 (Int.tmod (IntKind.u64.wrap (x3)) (IntKind.u64.wrap ((x350001.length : Int)))))).f1) ((rd_T43 x350001 (wrap64 (Int.tmod (IntKind.u64.wrap (x3)) (IntKind.u64.wrap ((x350001.length : Int)))))).f2) ((rd_T43 x351001 (wrap64 (Int.tmod (IntKind.u64.wrap (x4)) (IntKind.u64.wrap ((x351001.length : Int)))))).f0) ((rd_T43 x351001 (wrap64 (Int.tmod (IntKind.u64.wrap (x4)) (IntKind.u64.wrap ((x351001.length : Int)))))).f1) ((rd_T43 x351001 (wrap64 (Int.tmod (IntKind.u64.wrap (x4)) (IntKind.u64.wrap ((x351001.length : Int)))))).f2)).bind fun bt366 => (if bt366.2.2.2 = 0 then (if (bt356.2.1.length : Int) = (wrap64 ((x350001.length : Int) * (x351001.length : Int))) then (if 0 ≤ (wrap64 ((wrap64 ((wrap64 (Int.tmod (IntKind.u64.wrap (x3)) (IntKind.u64.wrap ((x350001.length : Int))))) * (x351001.length : Int))) + (wrap64 (Int.tmod (IntKind.u64.wrap (x4)) (IntKind.u64.wrap ((x351001.length : Int))))))) then (if (wrap64 ((wrap64 ((wrap64 (Int.tmod (IntKind.u64.wrap (x3)) (IntKind.u64.wrap ((x350001.length : Int))))) * (x351001.length : Int))) + (wrap64 (Int.tmod (IntKind.u64.wrap (x4)) (IntKind.u64.wrap ((x351001.length : Int))))))) < (bt356.2.1.length : Int) then ((triglyphref03_Cell.f k bt366.1 bt366.2.1 bt366.2.2.1 ((rd_T43 bt356.2.1 (wrap64 ((wrap64 ((wrap64 (Int.tmod (IntKind.u64.wrap (x3)) (IntKind.u64.wrap ((x350001.length : Int))))) * (x351001.length : Int))) + (wrap64 (Int.tmod (IntKind.u64.wrap (x4)) (IntKind.u64.wrap ((x351001.length : Int)))))))).f0) ((rd_T43 bt356.2.1 (wrap64 ((wrap64 ((wrap64 (Int.tmod (IntKind.u64.wrap (x3)) (IntKind.u64.wrap ((x350001.length : Int))))) * (x351001.length : Int))) + (wrap64 (Int.tmod (IntKind.u64.wrap (x4)) (IntKind.u64.wrap ((x351001.length : Int)))))))).f1) ((rd_T43 bt356.2.1 (wrap64 ((wrap64 ((wrap64 (Int.tmod (IntKind.u64.wrap (x3)) (IntKind.u64.wrap ((x350001.length : Int))))) * (x351001.length : Int))) + (wrap64 (Int.tmod (IntKind.u64.wrap (x4)) (IntKind.u64.wrap ((x351001.length : Int)))))))).f2)).bind fun t374 => (if t374 = 0 then ((triglyphlaw08_works.f k).bind fun t375 => (some t375)) else (none))) else (none)) else (none)) else (none)) else (none))) else (none)) else (none)) else (none)) else (none)))) else (if (bt356.2.1.length : Int) = 0 then ((triglyphlaw08_works.f k).bind fun t376 => (some t376)) else (none))))
def triglyphlaw08_FoldCells.f (k : Nat) (a0 : Int) (l1_0 : List Int) (l1_1 : List (S43)) (l2_0 : List Int) (l2_1 : List (S43)) (a3 : Int) (a4 : Int) : Option (Bool) := (triglyphlaw08_light.f k l1_0 l1_1).bind fun t351 => (if t351 = true then ((triglyphlaw08_light.f k l2_0 l2_1).bind fun t352 => (if t352 = true then ((triglyphref03_Check.f k l1_0 l1_1).bind fun t353 => (if t353 = 0 then ((triglyphref03_Check.f k l2_0 l2_1).bind fun t354 => (if t354 = 0 then (if (l1_1.length : Int) = 0 then (triglyphlaw08_FoldCells.j0 k a0 a3 a4 true l1_0 l1_1 l2_0 l2_1) else (triglyphlaw08_FoldCells.j0 k a0 a3 a4 ((l2_1.length : Int) == 0) l1_0 l1_1 l2_0 l2_1)) else (triglyphlaw08_FoldCells.j0 k a0 a3 a4 true l1_0 l1_1 l2_0 l2_1))) else (triglyphlaw08_FoldCells.j0 k a0 a3 a4 true l1_0 l1_1 l2_0 l2_1))) else (triglyphlaw08_FoldCells.j0 k a0 a3 a4 true l1_0 l1_1 l2_0 l2_1))) else (triglyphlaw08_FoldCells.j0 k a0 a3 a4 true l1_0 l1_1 l2_0 l2_1))
theorem triglyphlaw08_FoldCells.mono_l : ∀ k, (∀ y0 y1 y2 y3 y4 y5 y6 y7, LeO (triglyphlaw08_FoldCells.j0 k y0 y1 y2 y3 y4 y5 y6 y7) (triglyphlaw08_FoldCells.j0 (k + 1) y0 y1 y2 y3 y4 y5 y6 y7))
 | 0 => fun _ _ _ _ _ _ _ _ r h => by simp [triglyphlaw08_FoldCells.j0] at h
 | k + 1 => by
  have ih0 := triglyphlaw08_FoldCells.mono_l k
  ·intro y0 y1 y2 y3 y4 y5 y6 y7
   unfold triglyphlaw08_FoldCells.j0
   repeat' first
   | (with_reducible exact ih0 _ _ _ _ _ _ _ _)
   | (with_reducible exact fold_Outer.mono _ _ _ _ _ _ _)
   | (with_reducible exact triglyphlaw08_light.mono _ _ _)
   | (with_reducible exact triglyphlaw08_works.mono _)
   | (with_reducible exact triglyphref03_Cell.mono _ _ _ _ _ _ _)
   | (with_reducible exact triglyphref03_Check.mono _ _ _)
   | (with_reducible exact triglyphref04_Cell.mono _ _ _ _ _ _ _ _)
   | (with_reducible exact LeO.refl _)
   | (with_reducible exact LeO.none _)
   | (with_reducible refine LeO.ite ?_ ?_)
   | (with_reducible refine LeO.bind ?_ (fun _ => ?_))

   | exact fold_Outer.mono _ _ _ _ _ _ _
   | exact triglyphlaw08_light.mono _ _ _
   | exact triglyphlaw08_works.mono _
   | exact triglyphref03_Cell.mono _ _ _ _ _ _ _
   | exact triglyphref03_Check.mono _ _ _
   | exact triglyphref04_Cell.mono _ _ _ _ _ _ _ _
theorem triglyphlaw08_FoldCells.mono : ∀ a0 a1 a2 a3 a4 a5 a6 k, LeO (triglyphlaw08_FoldCells.f k a0 a1 a2 a3 a4 a5 a6) (triglyphlaw08_FoldCells.f (k + 1) a0 a1 a2 a3 a4 a5 a6) := by
 intro a0 a1 a2 a3 a4 a5 a6 k
 have ih0 := triglyphlaw08_FoldCells.mono_l k
 unfold triglyphlaw08_FoldCells.f
 repeat' first
   | (with_reducible exact ih0 _ _ _ _ _ _ _ _)
   | (with_reducible exact fold_Outer.mono _ _ _ _ _ _ _)
   | (with_reducible exact triglyphlaw08_light.mono _ _ _)
   | (with_reducible exact triglyphlaw08_works.mono _)
   | (with_reducible exact triglyphref03_Cell.mono _ _ _ _ _ _ _)
   | (with_reducible exact triglyphref03_Check.mono _ _ _)
   | (with_reducible exact triglyphref04_Cell.mono _ _ _ _ _ _ _ _)
   | (with_reducible exact LeO.refl _)
   | (with_reducible exact LeO.none _)
   | (with_reducible refine LeO.ite ?_ ?_)
   | (with_reducible refine LeO.bind ?_ (fun _ => ?_))

   | exact fold_Outer.mono _ _ _ _ _ _ _
   | exact triglyphlaw08_light.mono _ _ _
   | exact triglyphlaw08_works.mono _
   | exact triglyphref03_Cell.mono _ _ _ _ _ _ _
   | exact triglyphref03_Check.mono _ _ _
   | exact triglyphref04_Cell.mono _ _ _ _ _ _ _ _
def triglyphlaw08_FoldCells.T6 : Bool × List (List Nat × List Nat) := (true, [([], []), ([0], [0]), ([], []), ([2], [2]), ([3], [3]), ([4], [4]), ([1, 5], [1, 5]), ([6], [6]), ([], []), ([8], [8]), ([], []), ([10], [10]), ([11], [11]), ([12], [12]), ([9, 13], [9, 13]), ([14], [14]), ([7, 0, 1, 2, 3, 4, 5, 6, 7], [0, 7]), ([15, 16, 0, 1, 2, 3, 4, 5, 6, 7, 8, 9, 10, 11, 12, 13, 14, 15, 16], [8, 15])])
def triglyphlaw08_FoldCells.B6 : List Nat := [0, 1, 0, 4, 12, 28, 63, 127, 0, 256, 0, 1024, 3072, 7168, 16128, 32512, 255, 131071]
theorem triglyphlaw08_FoldCells.tab6 : rtab .any (opsOf Try.f8 6) = triglyphlaw08_FoldCells.T6 := by kernel_rfl
theorem triglyphlaw08_FoldCells.bits6 : waitsOk triglyphlaw08_FoldCells.T6.2 triglyphlaw08_FoldCells.B6 = true := by kernel_rfl
def triglyphlaw08_FoldCells.T7 : Bool × List (List Nat × List Nat) := (true, [([], []), ([], []), ([1], [1]), ([], []), ([2, 3], [2, 3]), ([4], [4]), ([], []), ([6], [6]), ([], []), ([7, 8], [7, 8]), ([9], [9]), ([0, 5, 10], [0, 5, 10]), ([11], [11]), ([12], [12]), ([12], [12]), ([], []), ([15, 13, 11, 0, 1, 2, 3, 4, 5, 6, 7, 8, 9, 10, 11, 12, 13, 15], [13, 15]), ([14, 16, 0, 1, 2, 3, 4, 5, 6, 7, 8, 9, 10, 11, 12, 13, 14, 15, 16], [14])])
def triglyphlaw08_FoldCells.B7 : List Nat := [0, 0, 2, 0, 14, 30, 0, 64, 0, 448, 960, 2047, 4095, 8191, 8191, 0, 49151, 131071]
theorem triglyphlaw08_FoldCells.tab7 : rtab .any (opsOf Try.f8 7) = triglyphlaw08_FoldCells.T7 := by kernel_rfl
theorem triglyphlaw08_FoldCells.bits7 : waitsOk triglyphlaw08_FoldCells.T7.2 triglyphlaw08_FoldCells.B7 = true := by kernel_rfl
def triglyphlaw08_FoldCells.T8 : Bool × List (List Nat × List Nat) := (true, [([], []), ([0], [0]), ([1], [1]), ([2], [2]), ([3, 2], [2, 3]), ([4, 2], [2, 4]), ([2], [2]), ([6, 2], [2, 6]), ([7, 2], [2, 7]), ([2], [2]), ([9, 2], [2, 9]), ([10, 2], [2, 10]), ([8, 11, 2], [2, 8, 11]), ([5, 12, 2], [2, 5, 12]), ([2, 13], [2, 13]), ([14, 2], [14]), ([15], [15]), ([15], [15]), ([17, 15], [15, 17]), ([15], [15]), ([15], [15]), ([20, 15], [15, 20]), ([21, 15], [15, 21]), ([19, 22, 15], [15, 19, 22]), ([15], [15]), ([23, 24, 15], [15, 23, 24]), ([18, 25, 15], [15, 18, 25]), ([26, 15], [15, 26]), ([16, 27, 15, 15], [15, 16, 27]), ([28, 15], [15, 28]), ([15, 29], [15, 29]), ([30, 28], [30]), ([31, 31], [31]), ([31, 32], [31, 32]), ([33, 32, 0, 1, 2, 3, 4, 5, 6, 7, 8, 9, 10, 11, 12, 13, 14, 15, 16, 17, 18, 19, 20, 21, 22, 23, 24, 25, 26, 27, 28, 29, 30, 31, 32, 33], [33])])
def triglyphlaw08_FoldCells.B8 : List Nat := [0, 1, 3, 7, 15, 31, 7, 71, 199, 7, 519, 1543, 4039, 8191, 16383, 32767, 65535, 65535, 196607, 65535, 65535, 1114111, 3211263, 7929855, 65535, 33095679, 67043327, 134152191, 268435455, 536870911, 1073741823, 2147483647, 4294967295, 8589934591, 17179869183]
theorem triglyphlaw08_FoldCells.tab8 : rtab .any (opsOf Try.f8 8) = triglyphlaw08_FoldCells.T8 := by kernel_rfl
theorem triglyphlaw08_FoldCells.bits8 : waitsOk triglyphlaw08_FoldCells.T8.2 triglyphlaw08_FoldCells.B8 = true := by kernel_rfl
set_option maxHeartbeats 8000000 in
set_option maxRecDepth 100000 in
theorem triglyphlaw08_FoldCells.calls (k : Nat) (a0 : Int) (A1_0 : Option Addr) (c1_0 : Nat) (l1_0 : List Int) (A1_1 : Option Addr) (c1_1 : Nat) (l1_1 : List (S43)) (A2_0 : Option Addr) (c2_0 : Nat) (l2_0 : List Int) (A2_1 : Option Addr) (c2_1 : Nat) (l2_1 : List (S43)) (a3 : Int) (a4 : Int) (r : Bool) (w : World) (hr1_0 : Kd.C (Kd.int .i64) w A1_0 l1_0.length l1_0) (hc1_0 : l1_0.length ≤ c1_0) (hr1_1 : Kd.C k43 w A1_1 l1_1.length l1_1) (hc1_1 : l1_1.length ≤ c1_1) (hr2_0 : Kd.C (Kd.int .i64) w A2_0 l2_0.length l2_0) (hc2_0 : l2_0.length ≤ c2_0) (hr2_1 : Kd.C k43 w A2_1 l2_1.length l2_1) (hc2_1 : l2_1.length ≤ c2_1) (h : triglyphlaw08_FoldCells.f k a0 l1_0 l1_1 l2_0 l2_1 a3 a4 = some r) :
  Calls Try.prog 8 #[.int .i64 a0, .agg #[.slice A1_0 l1_0.length c1_0, .slice A1_1 l1_1.length c1_1], .agg #[.slice A2_0 l2_0.length c2_0, .slice A2_1 l2_1.length c2_1], .int .i64 a3, .int .i64 a4] w fun e w' => e = .returned (.bool r) ∧ Below w.heap.size w w' := by
 have hu25 := Try.underlying25
 have hu32 := Try.underlying32
 have hu43 := Try.underlying43
 have HR1_0 := gA hr1_0
 have HC1_0 := gA hc1_0
 clear hr1_0 hc1_0
 have HR1_1 := gA hr1_1
 have HC1_1 := gA hc1_1
 clear hr1_1 hc1_1
 have HR2_0 := gA hr2_0
 have HC2_0 := gA hc2_0
 clear hr2_0 hc2_0
 have HR2_1 := gA hr2_1
 have HC2_1 := gA hc2_1
 clear hr2_1 hc2_1
 have HB := gA (Below.refl w.heap.size w)
 have H : ((triglyphlaw08_light.f k l1_0 l1_1).bind fun t351 => (if t351 = true then ((triglyphlaw08_light.f k l2_0 l2_1).bind fun t352 => (if t352 = true then ((triglyphref03_Check.f k l1_0 l1_1).bind fun t353 => (if t353 = 0 then ((triglyphref03_Check.f k l2_0 l2_1).bind fun t354 => (if t354 = 0 then (if (l1_1.length : Int) = 0 then (triglyphlaw08_FoldCells.j0 k a0 a3 a4 true l1_0 l1_1 l2_0 l2_1) else (triglyphlaw08_FoldCells.j0 k a0 a3 a4 ((l2_1.length : Int) == 0) l1_0 l1_1 l2_0 l2_1)) else (triglyphlaw08_FoldCells.j0 k a0 a3 a4 true l1_0 l1_1 l2_0 l2_1))) else (triglyphlaw08_FoldCells.j0 k a0 a3 a4 true l1_0 l1_1 l2_0 l2_1))) else (triglyphlaw08_FoldCells.j0 k a0 a3 a4 true l1_0 l1_1 l2_0 l2_1))) else (triglyphlaw08_FoldCells.j0 k a0 a3 a4 true l1_0 l1_1 l2_0 l2_1))) = some r := h
 clear h
 have HC6 := gA H
 clear H
 go_enter Try.func8, Try.ntmps8
 go_upto_region 1 with (first | ((with_reducible refine gate_dst (N := 6) rfl ?_); (try (refine gate_guard (by rfl) ?_; dsimp only)); refine box_event ?hg (N := 6) ?hd (cs := #[.slice A1_0 l1_0.length c1_0, .slice A1_1 l1_1.length c1_1]) (t := 25) ?hr ?_; (case hd => rfl); (case hg => rfl); (case hr => first | (go_simp; done) | (go_simp; rfl)); intro gb349 hg w7 hbox hb; have BK349 := gA (hbox); have GW349 := gA ((by rw [hg]; exact (below_size (gB HB)) : w.heap.size ≤ gb349)); have GE349 := gA ((by rw [hg]; exact (below_size (gB HB)) : w.heap.size ≤ gb349)); replace HB := gA (below_step (gB HB) hb); clear hb hbox hg) | ((with_reducible refine gate_dst (N := 7) rfl ?_); (try (refine gate_guard (by rfl) ?_; dsimp only)); refine box_event ?hg (N := 7) ?hd (cs := #[.slice A2_0 l2_0.length c2_0, .slice A2_1 l2_1.length c2_1]) (t := 25) ?hr ?_; (case hd => rfl); (case hg => rfl); (case hr => first | (go_simp; done) | (go_simp; rfl)); intro gb350 hg w8 hbox hb; have BK350 := gA (hbox); have GW350 := gA ((by rw [hg]; exact (below_size (gB HB)) : w.heap.size ≤ gb350)); have GE350 := gA ((by rw [hg]; exact (below_size (gB HB)) : w.heap.size ≤ gb350)); replace HB := gA (below_step (gB HB) hb); have NB349_350 := gA ((by rw [hg]; exact Nat.ne_of_lt (blk_lt (gK BK349)) : gb349 ≠ gb350)); have NB350_349 := gA ((by rw [hg]; exact Nat.ne_of_gt (blk_lt (gK BK349)) : gb350 ≠ gb349)); replace BK349 := gA (blk_below (gK BK349) hb); clear hb hbox hg))
 (try simp only [Act.put, List.setIfInBounds_toArray, List.set_cons_zero, List.set_cons_succ])
 go_cut [44] (fun v44 wc => ∃ (kq : Nat) (x44_5 : Bool), v44 = .bool x44_5 ∧ Aside0 (triglyphlaw08_FoldCells.j0 kq a0 a3 a4 x44_5 l1_0 l1_1 l2_0 l2_1 = some r) ∧ Aside0 (kq ≤ k) ∧ Aside0 (wc.heap[gb349]? = some (.cells #[(.slice A1_0 l1_0.length c1_0), (.slice A1_1 l1_1.length c1_1)] 25 (0, 0))) ∧ Aside0 (wc.heap[gb350]? = some (.cells #[(.slice A2_0 l2_0.length c2_0), (.slice A2_1 l2_1.length c2_1)] 25 (0, 0))) ∧ Aside0 (Below w.heap.size w wc))
 case first =>
  have H := HC6.out; clear HC6
  replace H := Option.bind_eq_some_iff.mp H
  obtain ⟨t351, A90, H⟩ := H
  replace H : (if t351 = true then ((triglyphlaw08_light.f k l2_0 l2_1).bind fun t352 => (if t352 = true then ((triglyphref03_Check.f k l1_0 l1_1).bind fun t353 => (if t353 = 0 then ((triglyphref03_Check.f k l2_0 l2_1).bind fun t354 => (if t354 = 0 then (if (l1_1.length : Int) = 0 then (triglyphlaw08_FoldCells.j0 k a0 a3 a4 true l1_0 l1_1 l2_0 l2_1) else (triglyphlaw08_FoldCells.j0 k a0 a3 a4 ((l2_1.length : Int) == 0) l1_0 l1_1 l2_0 l2_1)) else (triglyphlaw08_FoldCells.j0 k a0 a3 a4 true l1_0 l1_1 l2_0 l2_1))) else (triglyphlaw08_FoldCells.j0 k a0 a3 a4 true l1_0 l1_1 l2_0 l2_1))) else (triglyphlaw08_FoldCells.j0 k a0 a3 a4 true l1_0 l1_1 l2_0 l2_1))) else (triglyphlaw08_FoldCells.j0 k a0 a3 a4 true l1_0 l1_1 l2_0 l2_1)) = some r := H
  have A9 := gA A90
  clear A90
  by_cases c10 : t351 = true
  ·subst c10
   have H1 : ((triglyphlaw08_light.f k l2_0 l2_1).bind fun t352 => (if t352 = true then ((triglyphref03_Check.f k l1_0 l1_1).bind fun t353 => (if t353 = 0 then ((triglyphref03_Check.f k l2_0 l2_1).bind fun t354 => (if t354 = 0 then (if (l1_1.length : Int) = 0 then (triglyphlaw08_FoldCells.j0 k a0 a3 a4 true l1_0 l1_1 l2_0 l2_1) else (triglyphlaw08_FoldCells.j0 k a0 a3 a4 ((l2_1.length : Int) == 0) l1_0 l1_1 l2_0 l2_1)) else (triglyphlaw08_FoldCells.j0 k a0 a3 a4 true l1_0 l1_1 l2_0 l2_1))) else (triglyphlaw08_FoldCells.j0 k a0 a3 a4 true l1_0 l1_1 l2_0 l2_1))) else (triglyphlaw08_FoldCells.j0 k a0 a3 a4 true l1_0 l1_1 l2_0 l2_1))) = some r := by rw [if_pos rfl] at H; exact H
   clear H; have H := H1; clear H1
   replace H := Option.bind_eq_some_iff.mp H
   obtain ⟨t352, A110, H⟩ := H
   replace H : (if t352 = true then ((triglyphref03_Check.f k l1_0 l1_1).bind fun t353 => (if t353 = 0 then ((triglyphref03_Check.f k l2_0 l2_1).bind fun t354 => (if t354 = 0 then (if (l1_1.length : Int) = 0 then (triglyphlaw08_FoldCells.j0 k a0 a3 a4 true l1_0 l1_1 l2_0 l2_1) else (triglyphlaw08_FoldCells.j0 k a0 a3 a4 ((l2_1.length : Int) == 0) l1_0 l1_1 l2_0 l2_1)) else (triglyphlaw08_FoldCells.j0 k a0 a3 a4 true l1_0 l1_1 l2_0 l2_1))) else (triglyphlaw08_FoldCells.j0 k a0 a3 a4 true l1_0 l1_1 l2_0 l2_1))) else (triglyphlaw08_FoldCells.j0 k a0 a3 a4 true l1_0 l1_1 l2_0 l2_1)) = some r := H
   have A11 := gA A110
   clear A110
   by_cases c12 : t352 = true
   ·subst c12
    have H1 : ((triglyphref03_Check.f k l1_0 l1_1).bind fun t353 => (if t353 = 0 then ((triglyphref03_Check.f k l2_0 l2_1).bind fun t354 => (if t354 = 0 then (if (l1_1.length : Int) = 0 then (triglyphlaw08_FoldCells.j0 k a0 a3 a4 true l1_0 l1_1 l2_0 l2_1) else (triglyphlaw08_FoldCells.j0 k a0 a3 a4 ((l2_1.length : Int) == 0) l1_0 l1_1 l2_0 l2_1)) else (triglyphlaw08_FoldCells.j0 k a0 a3 a4 true l1_0 l1_1 l2_0 l2_1))) else (triglyphlaw08_FoldCells.j0 k a0 a3 a4 true l1_0 l1_1 l2_0 l2_1))) = some r := by rw [if_pos rfl] at H; exact H
    clear H; have H := H1; clear H1
    replace H := Option.bind_eq_some_iff.mp H
    obtain ⟨t353, A130, H⟩ := H
    replace H : (if t353 = 0 then ((triglyphref03_Check.f k l2_0 l2_1).bind fun t354 => (if t354 = 0 then (if (l1_1.length : Int) = 0 then (triglyphlaw08_FoldCells.j0 k a0 a3 a4 true l1_0 l1_1 l2_0 l2_1) else (triglyphlaw08_FoldCells.j0 k a0 a3 a4 ((l2_1.length : Int) == 0) l1_0 l1_1 l2_0 l2_1)) else (triglyphlaw08_FoldCells.j0 k a0 a3 a4 true l1_0 l1_1 l2_0 l2_1))) else (triglyphlaw08_FoldCells.j0 k a0 a3 a4 true l1_0 l1_1 l2_0 l2_1)) = some r := H
    have A13 := gA A130
    clear A130
    by_cases c14 : t353 = 0
    ·rw [if_pos c14] at H
     have c14b0 : (t353 == 0) = true := beq_iff_eq.mpr c14
     have c14b1 : (t353 != 0) = false := bne_eq_false_iff_eq.mpr c14
     clear c14
     (first | rw [c14b0] | rw [c14b1] | (simp only [i64_w, i32_w]; rw [c14b0]) | skip)
     replace H := Option.bind_eq_some_iff.mp H
     obtain ⟨t354, A150, H⟩ := H
     replace H : (if t354 = 0 then (if (l1_1.length : Int) = 0 then (triglyphlaw08_FoldCells.j0 k a0 a3 a4 true l1_0 l1_1 l2_0 l2_1) else (triglyphlaw08_FoldCells.j0 k a0 a3 a4 ((l2_1.length : Int) == 0) l1_0 l1_1 l2_0 l2_1)) else (triglyphlaw08_FoldCells.j0 k a0 a3 a4 true l1_0 l1_1 l2_0 l2_1)) = some r := H
     have A15 := gA A150
     clear A150
     by_cases c16 : t354 = 0
     ·rw [if_pos c16] at H
      have c16b0 : (t354 == 0) = true := beq_iff_eq.mpr c16
      have c16b1 : (t354 != 0) = false := bne_eq_false_iff_eq.mpr c16
      clear c16
      by_cases c17 : (l1_1.length : Int) = 0
      ·rw [if_pos c17] at H
       have c17b0 : ((l1_1.length : Int) == 0) = true := beq_iff_eq.mpr c17
       have c17b1 : ((l1_1.length : Int) != 0) = false := bne_eq_false_iff_eq.mpr c17
       clear c17
       have H' := gA H
       clear H
       have hnb18 := NB349_350.out
       have hnc18 := NB350_349.out
       obtain ⟨hcz19_0, hcz19_1, hfz19_0, hfz19_1⟩ := gz2 BK349
       go_wp2_with (first | ((with_reducible refine gate_callee (f := 9) rfl ?_); refine goesL_ (some 16) rfl rfl Try.func9 (by kernel_rfl) rfl #[.agg #[.slice A1_0 l1_0.length c1_0, .slice A1_1 l1_1.length c1_1]] rfl (by (try simp only [List.map_toArray, List.map_cons, List.map_nil]); first | done | rfl | (simp only [List.length_drop, List.length_take]; rfl)) ?_; (with_reducible refine (triglyphlaw08_light.calls k _ _ l1_0 _ _ l1_1 true _ ?side1 ?side2 ?side3 ?side4 A9.out).mono ?_); (case side1 => exact gC HR1_0 HB); (case side2 => exact HC1_0.out); (case side3 => exact gC HR1_1 HB); (case side4 => exact HC1_1.out); rintro e w20 ⟨rfl, hb⟩; refine ⟨_, rfl, ?_⟩; replace BK349 := gA (blk_below (gK BK349) hb); replace BK350 := gA (blk_below (gK BK350) hb); replace HB := gA (below_step (gB HB) hb); (try clear hb); obtain ⟨hcz21_0, hcz21_1, hfz21_0, hfz21_1⟩ := gz2 BK350) | (go_at_call 9; (with_reducible refine (triglyphlaw08_light.calls k _ _ l2_0 _ _ l2_1 true _ ?side1 ?side2 ?side3 ?side4 A11.out).mono ?_); (case side1 => exact gC HR2_0 HB); (case side2 => exact HC2_0.out); (case side3 => exact gC HR2_1 HB); (case side4 => exact HC2_1.out); rintro e w22 ⟨rfl, hb⟩; replace BK349 := gA (blk_below (gK BK349) hb); replace BK350 := gA (blk_below (gK BK350) hb); replace HB := gA (below_step (gB HB) hb); (try clear hb); obtain ⟨hcz23_0, hcz23_1, hfz23_0, hfz23_1⟩ := gz2 BK349) | (go_at_call 21; (with_reducible refine (triglyphref03_Check.calls k _ _ l1_0 _ _ l1_1 t353 _ ?side1 ?side2 ?side3 ?side4 A13.out).mono ?_); (case side1 => exact gC HR1_0 HB); (case side2 => exact HC1_0.out); (case side3 => exact gC HR1_1 HB); (case side4 => exact HC1_1.out); rintro e w24 ⟨rfl, hb⟩; replace BK349 := gA (blk_below (gK BK349) hb); replace BK350 := gA (blk_below (gK BK350) hb); replace HB := gA (below_step (gB HB) hb); (try clear hb); obtain ⟨hcz25_0, hcz25_1, hfz25_0, hfz25_1⟩ := gz2 BK350) | (go_at_call 21; (with_reducible refine (triglyphref03_Check.calls k _ _ l2_0 _ _ l2_1 t354 _ ?side1 ?side2 ?side3 ?side4 A15.out).mono ?_); (case side1 => exact gC HR2_0 HB); (case side2 => exact HC2_0.out); (case side3 => exact gC HR2_1 HB); (case side4 => exact HC2_1.out); rintro e w26 ⟨rfl, hb⟩; replace BK349 := gA (blk_below (gK BK349) hb); replace BK350 := gA (blk_below (gK BK350) hb); replace HB := gA (below_step (gB HB) hb); (try clear hb); obtain ⟨hcz27_0, hcz27_1, hfz27_0, hfz27_1⟩ := gz2 BK349))
       all_goals (go_meet; (case rel => exact ⟨_, (true), (by first | rfl | (simp; done) | (simp [*]; done) | (exfalso; simp_all; done) | (exfalso; simp_all; omega)), H', ⟨by first | omega | exact Nat.le_refl _⟩, ⟨gK BK349⟩, ⟨gK BK350⟩, ⟨gB HB⟩⟩))
      ·rw [if_neg c17] at H
       have c17b0 : ((l1_1.length : Int) == 0) = false := beq_eq_false_iff_ne.mpr c17
       have c17b1 : ((l1_1.length : Int) != 0) = true := bne_iff_ne.mpr c17
       have c17b2 : ¬ (l1_1 = []) := fun h_ => c17 (by rw [h_]; rfl)
       have H' := gA H
       clear H
       have hnb28 := NB349_350.out
       have hnc28 := NB350_349.out
       obtain ⟨hcz29_0, hcz29_1, hfz29_0, hfz29_1⟩ := gz2 BK349
       go_wp2_with (first | ((with_reducible refine gate_callee (f := 9) rfl ?_); refine goesL_ (some 16) rfl rfl Try.func9 (by kernel_rfl) rfl #[.agg #[.slice A1_0 l1_0.length c1_0, .slice A1_1 l1_1.length c1_1]] rfl (by (try simp only [List.map_toArray, List.map_cons, List.map_nil]); first | done | rfl | (simp only [List.length_drop, List.length_take]; rfl)) ?_; (with_reducible refine (triglyphlaw08_light.calls k _ _ l1_0 _ _ l1_1 true _ ?side1 ?side2 ?side3 ?side4 A9.out).mono ?_); (case side1 => exact gC HR1_0 HB); (case side2 => exact HC1_0.out); (case side3 => exact gC HR1_1 HB); (case side4 => exact HC1_1.out); rintro e w30 ⟨rfl, hb⟩; refine ⟨_, rfl, ?_⟩; replace BK349 := gA (blk_below (gK BK349) hb); replace BK350 := gA (blk_below (gK BK350) hb); replace HB := gA (below_step (gB HB) hb); (try clear hb); obtain ⟨hcz31_0, hcz31_1, hfz31_0, hfz31_1⟩ := gz2 BK350) | (go_at_call 9; (with_reducible refine (triglyphlaw08_light.calls k _ _ l2_0 _ _ l2_1 true _ ?side1 ?side2 ?side3 ?side4 A11.out).mono ?_); (case side1 => exact gC HR2_0 HB); (case side2 => exact HC2_0.out); (case side3 => exact gC HR2_1 HB); (case side4 => exact HC2_1.out); rintro e w32 ⟨rfl, hb⟩; replace BK349 := gA (blk_below (gK BK349) hb); replace BK350 := gA (blk_below (gK BK350) hb); replace HB := gA (below_step (gB HB) hb); (try clear hb); obtain ⟨hcz33_0, hcz33_1, hfz33_0, hfz33_1⟩ := gz2 BK349) | (go_at_call 21; (with_reducible refine (triglyphref03_Check.calls k _ _ l1_0 _ _ l1_1 t353 _ ?side1 ?side2 ?side3 ?side4 A13.out).mono ?_); (case side1 => exact gC HR1_0 HB); (case side2 => exact HC1_0.out); (case side3 => exact gC HR1_1 HB); (case side4 => exact HC1_1.out); rintro e w34 ⟨rfl, hb⟩; replace BK349 := gA (blk_below (gK BK349) hb); replace BK350 := gA (blk_below (gK BK350) hb); replace HB := gA (below_step (gB HB) hb); (try clear hb); obtain ⟨hcz35_0, hcz35_1, hfz35_0, hfz35_1⟩ := gz2 BK350) | (go_at_call 21; (with_reducible refine (triglyphref03_Check.calls k _ _ l2_0 _ _ l2_1 t354 _ ?side1 ?side2 ?side3 ?side4 A15.out).mono ?_); (case side1 => exact gC HR2_0 HB); (case side2 => exact HC2_0.out); (case side3 => exact gC HR2_1 HB); (case side4 => exact HC2_1.out); rintro e w36 ⟨rfl, hb⟩; replace BK349 := gA (blk_below (gK BK349) hb); replace BK350 := gA (blk_below (gK BK350) hb); replace HB := gA (below_step (gB HB) hb); (try clear hb); obtain ⟨hcz37_0, hcz37_1, hfz37_0, hfz37_1⟩ := gz2 BK349; obtain ⟨hcz38_0, hcz38_1, hfz38_0, hfz38_1⟩ := gz2 BK350))
       all_goals (go_meet; (case rel => exact ⟨_, (((l2_1.length : Int) == 0)), (by first | rfl | (simp; done) | (simp [*]; done) | (exfalso; simp_all; done) | (exfalso; simp_all; omega)), H', ⟨by first | omega | exact Nat.le_refl _⟩, ⟨gK BK349⟩, ⟨gK BK350⟩, ⟨gB HB⟩⟩))
     ·rw [if_neg c16] at H
      have c16b0 : (t354 == 0) = false := beq_eq_false_iff_ne.mpr c16
      have c16b1 : (t354 != 0) = true := bne_iff_ne.mpr c16
      have H' := gA H
      clear H
      have hnb39 := NB349_350.out
      have hnc39 := NB350_349.out
      obtain ⟨hcz40_0, hcz40_1, hfz40_0, hfz40_1⟩ := gz2 BK349
      go_wp2_with (first | ((with_reducible refine gate_callee (f := 9) rfl ?_); refine goesL_ (some 16) rfl rfl Try.func9 (by kernel_rfl) rfl #[.agg #[.slice A1_0 l1_0.length c1_0, .slice A1_1 l1_1.length c1_1]] rfl (by (try simp only [List.map_toArray, List.map_cons, List.map_nil]); first | done | rfl | (simp only [List.length_drop, List.length_take]; rfl)) ?_; (with_reducible refine (triglyphlaw08_light.calls k _ _ l1_0 _ _ l1_1 true _ ?side1 ?side2 ?side3 ?side4 A9.out).mono ?_); (case side1 => exact gC HR1_0 HB); (case side2 => exact HC1_0.out); (case side3 => exact gC HR1_1 HB); (case side4 => exact HC1_1.out); rintro e w41 ⟨rfl, hb⟩; refine ⟨_, rfl, ?_⟩; replace BK349 := gA (blk_below (gK BK349) hb); replace BK350 := gA (blk_below (gK BK350) hb); replace HB := gA (below_step (gB HB) hb); (try clear hb); obtain ⟨hcz42_0, hcz42_1, hfz42_0, hfz42_1⟩ := gz2 BK350) | (go_at_call 9; (with_reducible refine (triglyphlaw08_light.calls k _ _ l2_0 _ _ l2_1 true _ ?side1 ?side2 ?side3 ?side4 A11.out).mono ?_); (case side1 => exact gC HR2_0 HB); (case side2 => exact HC2_0.out); (case side3 => exact gC HR2_1 HB); (case side4 => exact HC2_1.out); rintro e w43 ⟨rfl, hb⟩; replace BK349 := gA (blk_below (gK BK349) hb); replace BK350 := gA (blk_below (gK BK350) hb); replace HB := gA (below_step (gB HB) hb); (try clear hb); obtain ⟨hcz44_0, hcz44_1, hfz44_0, hfz44_1⟩ := gz2 BK349) | (go_at_call 21; (with_reducible refine (triglyphref03_Check.calls k _ _ l1_0 _ _ l1_1 t353 _ ?side1 ?side2 ?side3 ?side4 A13.out).mono ?_); (case side1 => exact gC HR1_0 HB); (case side2 => exact HC1_0.out); (case side3 => exact gC HR1_1 HB); (case side4 => exact HC1_1.out); rintro e w45 ⟨rfl, hb⟩; replace BK349 := gA (blk_below (gK BK349) hb); replace BK350 := gA (blk_below (gK BK350) hb); replace HB := gA (below_step (gB HB) hb); (try clear hb); obtain ⟨hcz46_0, hcz46_1, hfz46_0, hfz46_1⟩ := gz2 BK350) | (go_at_call 21; (with_reducible refine (triglyphref03_Check.calls k _ _ l2_0 _ _ l2_1 t354 _ ?side1 ?side2 ?side3 ?side4 A15.out).mono ?_); (case side1 => exact gC HR2_0 HB); (case side2 => exact HC2_0.out); (case side3 => exact gC HR2_1 HB); (case side4 => exact HC2_1.out); rintro e w47 ⟨rfl, hb⟩; replace BK349 := gA (blk_below (gK BK349) hb); replace BK350 := gA (blk_below (gK BK350) hb); replace HB := gA (below_step (gB HB) hb); (try clear hb)))
      all_goals (go_meet; (case rel => exact ⟨_, (true), (by first | rfl | (simp; done) | (simp [*]; done) | (exfalso; simp_all; done) | (exfalso; simp_all; omega)), H', ⟨by first | omega | exact Nat.le_refl _⟩, ⟨gK BK349⟩, ⟨gK BK350⟩, ⟨gB HB⟩⟩))
    ·rw [if_neg c14] at H
     have c14b0 : (t353 == 0) = false := beq_eq_false_iff_ne.mpr c14
     have c14b1 : (t353 != 0) = true := bne_iff_ne.mpr c14
     (first | rw [c14b0] | rw [c14b1] | (simp only [i64_w, i32_w]; rw [c14b0]) | skip)
     have H' := gA H
     clear H
     have hnb48 := NB349_350.out
     have hnc48 := NB350_349.out
     obtain ⟨hcz49_0, hcz49_1, hfz49_0, hfz49_1⟩ := gz2 BK349
     go_wp2_with (first | ((with_reducible refine gate_callee (f := 9) rfl ?_); refine goesL_ (some 16) rfl rfl Try.func9 (by kernel_rfl) rfl #[.agg #[.slice A1_0 l1_0.length c1_0, .slice A1_1 l1_1.length c1_1]] rfl (by (try simp only [List.map_toArray, List.map_cons, List.map_nil]); first | done | rfl | (simp only [List.length_drop, List.length_take]; rfl)) ?_; (with_reducible refine (triglyphlaw08_light.calls k _ _ l1_0 _ _ l1_1 true _ ?side1 ?side2 ?side3 ?side4 A9.out).mono ?_); (case side1 => exact gC HR1_0 HB); (case side2 => exact HC1_0.out); (case side3 => exact gC HR1_1 HB); (case side4 => exact HC1_1.out); rintro e w50 ⟨rfl, hb⟩; refine ⟨_, rfl, ?_⟩; replace BK349 := gA (blk_below (gK BK349) hb); replace BK350 := gA (blk_below (gK BK350) hb); replace HB := gA (below_step (gB HB) hb); (try clear hb); obtain ⟨hcz51_0, hcz51_1, hfz51_0, hfz51_1⟩ := gz2 BK350) | (go_at_call 9; (with_reducible refine (triglyphlaw08_light.calls k _ _ l2_0 _ _ l2_1 true _ ?side1 ?side2 ?side3 ?side4 A11.out).mono ?_); (case side1 => exact gC HR2_0 HB); (case side2 => exact HC2_0.out); (case side3 => exact gC HR2_1 HB); (case side4 => exact HC2_1.out); rintro e w52 ⟨rfl, hb⟩; replace BK349 := gA (blk_below (gK BK349) hb); replace BK350 := gA (blk_below (gK BK350) hb); replace HB := gA (below_step (gB HB) hb); (try clear hb); obtain ⟨hcz53_0, hcz53_1, hfz53_0, hfz53_1⟩ := gz2 BK349) | (go_at_call 21; (with_reducible refine (triglyphref03_Check.calls k _ _ l1_0 _ _ l1_1 t353 _ ?side1 ?side2 ?side3 ?side4 A13.out).mono ?_); (case side1 => exact gC HR1_0 HB); (case side2 => exact HC1_0.out); (case side3 => exact gC HR1_1 HB); (case side4 => exact HC1_1.out); rintro e w54 ⟨rfl, hb⟩; replace BK349 := gA (blk_below (gK BK349) hb); replace BK350 := gA (blk_below (gK BK350) hb); replace HB := gA (below_step (gB HB) hb); (try clear hb)))
     all_goals (go_meet; (case rel => exact ⟨_, (true), (by first | rfl | (simp; done) | (simp [*]; done) | (exfalso; simp_all; done) | (exfalso; simp_all; omega)), H', ⟨by first | omega | exact Nat.le_refl _⟩, ⟨gK BK349⟩, ⟨gK BK350⟩, ⟨gB HB⟩⟩))
   ·replace c12 := Bool.eq_false_iff.mpr c12
    subst c12
    have H1 : (triglyphlaw08_FoldCells.j0 k a0 a3 a4 true l1_0 l1_1 l2_0 l2_1) = some r := by rw [if_neg (show ¬ (false = true) by decide)] at H; exact H
    clear H; have H := H1; clear H1
    have H' := gA H
    clear H
    have hnb55 := NB349_350.out
    have hnc55 := NB350_349.out
    obtain ⟨hcz56_0, hcz56_1, hfz56_0, hfz56_1⟩ := gz2 BK349
    go_wp2_with (first | ((with_reducible refine gate_callee (f := 9) rfl ?_); refine goesL_ (some 16) rfl rfl Try.func9 (by kernel_rfl) rfl #[.agg #[.slice A1_0 l1_0.length c1_0, .slice A1_1 l1_1.length c1_1]] rfl (by (try simp only [List.map_toArray, List.map_cons, List.map_nil]); first | done | rfl | (simp only [List.length_drop, List.length_take]; rfl)) ?_; (with_reducible refine (triglyphlaw08_light.calls k _ _ l1_0 _ _ l1_1 true _ ?side1 ?side2 ?side3 ?side4 A9.out).mono ?_); (case side1 => exact gC HR1_0 HB); (case side2 => exact HC1_0.out); (case side3 => exact gC HR1_1 HB); (case side4 => exact HC1_1.out); rintro e w57 ⟨rfl, hb⟩; refine ⟨_, rfl, ?_⟩; replace BK349 := gA (blk_below (gK BK349) hb); replace BK350 := gA (blk_below (gK BK350) hb); replace HB := gA (below_step (gB HB) hb); (try clear hb); obtain ⟨hcz58_0, hcz58_1, hfz58_0, hfz58_1⟩ := gz2 BK350) | (go_at_call 9; (with_reducible refine (triglyphlaw08_light.calls k _ _ l2_0 _ _ l2_1 false _ ?side1 ?side2 ?side3 ?side4 A11.out).mono ?_); (case side1 => exact gC HR2_0 HB); (case side2 => exact HC2_0.out); (case side3 => exact gC HR2_1 HB); (case side4 => exact HC2_1.out); rintro e w59 ⟨rfl, hb⟩; replace BK349 := gA (blk_below (gK BK349) hb); replace BK350 := gA (blk_below (gK BK350) hb); replace HB := gA (below_step (gB HB) hb); (try clear hb)))
    all_goals (go_meet; (case rel => exact ⟨_, (true), (by first | rfl | (simp; done) | (simp [*]; done) | (exfalso; simp_all; done) | (exfalso; simp_all; omega)), H', ⟨by first | omega | exact Nat.le_refl _⟩, ⟨gK BK349⟩, ⟨gK BK350⟩, ⟨gB HB⟩⟩))
  ·replace c10 := Bool.eq_false_iff.mpr c10
   subst c10
   have H1 : (triglyphlaw08_FoldCells.j0 k a0 a3 a4 true l1_0 l1_1 l2_0 l2_1) = some r := by rw [if_neg (show ¬ (false = true) by decide)] at H; exact H
   clear H; have H := H1; clear H1
   have H' := gA H
   clear H
   have hnb60 := NB349_350.out
   have hnc60 := NB350_349.out
   obtain ⟨hcz61_0, hcz61_1, hfz61_0, hfz61_1⟩ := gz2 BK349
   go_wp2_with (first | ((with_reducible refine gate_callee (f := 9) rfl ?_); refine goesL_ (some 16) rfl rfl Try.func9 (by kernel_rfl) rfl #[.agg #[.slice A1_0 l1_0.length c1_0, .slice A1_1 l1_1.length c1_1]] rfl (by (try simp only [List.map_toArray, List.map_cons, List.map_nil]); first | done | rfl | (simp only [List.length_drop, List.length_take]; rfl)) ?_; (with_reducible refine (triglyphlaw08_light.calls k _ _ l1_0 _ _ l1_1 false _ ?side1 ?side2 ?side3 ?side4 A9.out).mono ?_); (case side1 => exact gC HR1_0 HB); (case side2 => exact HC1_0.out); (case side3 => exact gC HR1_1 HB); (case side4 => exact HC1_1.out); rintro e w62 ⟨rfl, hb⟩; refine ⟨_, rfl, ?_⟩; replace BK349 := gA (blk_below (gK BK349) hb); replace BK350 := gA (blk_below (gK BK350) hb); replace HB := gA (below_step (gB HB) hb); (try clear hb)))
   all_goals (go_meet; (case rel => exact ⟨_, (true), (by first | rfl | (simp; done) | (simp [*]; done) | (exfalso; simp_all; done) | (exfalso; simp_all; omega)), H', ⟨by first | omega | exact Nat.le_refl _⟩, ⟨gK BK349⟩, ⟨gK BK350⟩, ⟨gB HB⟩⟩))
 case rest =>
  clear HC6
  try clear c1
  try clear c2
  try clear p2
  try clear c3
  try clear c4
  try clear c5
  try clear c6
  try clear c8
  try clear c9
  try clear c10
  try clear c12
  try clear c14
  try clear c14b0
  try clear c14b1
  try clear c16
  try clear c16b0
  try clear c16b1
  try clear c17
  try clear c17b0
  try clear c17b1
  try clear c17b2
  try clear c18
  try clear c28
  try clear c39
  try clear c48
  try clear c55
  try clear c60
  try clear hcz19_0
  try clear hcz19_1
  try clear hcz21_0
  try clear hcz21_1
  try clear hcz23_0
  try clear hcz23_1
  try clear hcz25_0
  try clear hcz25_1
  try clear hcz27_0
  try clear hcz27_1
  try clear hcz29_0
  try clear hcz29_1
  try clear hcz31_0
  try clear hcz31_1
  try clear hcz33_0
  try clear hcz33_1
  try clear hcz35_0
  try clear hcz35_1
  try clear hcz37_0
  try clear hcz37_1
  try clear hcz38_0
  try clear hcz38_1
  try clear hcz40_0
  try clear hcz40_1
  try clear hcz42_0
  try clear hcz42_1
  try clear hcz44_0
  try clear hcz44_1
  try clear hcz46_0
  try clear hcz46_1
  try clear hcz49_0
  try clear hcz49_1
  try clear hcz51_0
  try clear hcz51_1
  try clear hcz53_0
  try clear hcz53_1
  try clear hcz56_0
  try clear hcz56_1
  try clear hcz58_0
  try clear hcz58_1
  try clear hcz61_0
  try clear hcz61_1
  try clear hfz19_0
  try clear hfz19_1
  try clear hfz21_0
  try clear hfz21_1
  try clear hfz23_0
  try clear hfz23_1
  try clear hfz25_0
  try clear hfz25_1
  try clear hfz27_0
  try clear hfz27_1
  try clear hfz29_0
  try clear hfz29_1
  try clear hfz31_0
  try clear hfz31_1
  try clear hfz33_0
  try clear hfz33_1
  try clear hfz35_0
  try clear hfz35_1
  try clear hfz37_0
  try clear hfz37_1
  try clear hfz38_0
  try clear hfz38_1
  try clear hfz40_0
  try clear hfz40_1
  try clear hfz42_0
  try clear hfz42_1
  try clear hfz44_0
  try clear hfz44_1
  try clear hfz46_0
  try clear hfz46_1
  try clear hfz49_0
  try clear hfz49_1
  try clear hfz51_0
  try clear hfz51_1
  try clear hfz53_0
  try clear hfz53_1
  try clear hfz56_0
  try clear hfz56_1
  try clear hfz58_0
  try clear hfz58_1
  try clear hfz61_0
  try clear hfz61_1
  obtain ⟨kq, x44_5, rfl, HA, HJ5, BK349, BK350, HB⟩ := hcut
  cases kq with
  | zero => exact absurd HA.out (by simp [triglyphlaw08_FoldCells.j0])
  | succ kj5 =>
   have H := HA.out; clear HA
   simp only [triglyphlaw08_FoldCells.j0] at H
   by_cases c63 : x44_5 = true
   ·subst c63
    have H1 : ((triglyphlaw08_works.f kj5).bind fun t355 => (some t355)) = some r := by rw [if_pos rfl] at H; exact H
    clear H; have H := H1; clear H1
    replace H := Option.bind_eq_some_iff.mp H
    obtain ⟨t355, A640, H⟩ := H
    replace H : (some t355) = some r := H
    have A64 := gA A640
    clear A640
    obtain rfl := Option.some.inj H
    go_wp2_with (first | ((with_reducible refine gate_callee (f := 11) rfl ?_); refine goesL_ (some 45) rfl rfl Try.func11 (by kernel_rfl) rfl #[] rfl (by (try simp only [List.map_toArray, List.map_cons, List.map_nil]); first | done | rfl | (simp only [List.length_drop, List.length_take]; rfl)) ?_; (with_reducible refine (triglyphlaw08_works.calls kj5  t355 _ A64.out).mono ?_); rintro e w65 ⟨rfl, hb⟩; refine ⟨_, rfl, ?_⟩; replace BK349 := gA (blk_below (gK BK349) hb); replace BK350 := gA (blk_below (gK BK350) hb); replace HB := gA (below_step (gB HB) hb); (try clear hb)))
    go_ret
    exact ⟨rfl, by repeat first | exact gB HB | refine below_set ?_ GE349.out | refine below_set ?_ GE350.out⟩
   ·replace c63 := Bool.eq_false_iff.mpr c63
    subst c63
    have H1 : ((fold_Outer.f kj5 a0 false l1_0 l1_1 l2_0 l2_1).bind fun bt356 => (if bt356.2.2 = 0 then (if (IntKind.u64.wrap ((l1_1.length : Int))) = 0 then (none) else (if (IntKind.u64.wrap ((l2_1.length : Int))) = 0 then (none) else (if 0 ≤ (wrap64 (Int.tmod (IntKind.u64.wrap (a3)) (IntKind.u64.wrap ((l1_1.length : Int))))) then (if (wrap64 (Int.tmod (IntKind.u64.wrap (a3)) (IntKind.u64.wrap ((l1_1.length : Int))))) < (l1_1.length : Int) then (if 0 ≤ (wrap64 (Int.tmod (IntKind.u64.wrap (a4)) (IntKind.u64.wrap ((l2_1.length : Int))))) then (if (wrap64 (Int.tmod (IntKind.u64.wrap (a4)) (IntKind.u64.wrap ((l2_1.length : Int))))) < (l2_1.length : Int) then ((triglyphref04_Cell.f kj5 a0 ((rd_T43 l1_1 (wrap64 (Int.tmod (IntKind.u64.wrap (a3)) (IntKind.u64.wrap ((l1_1.length : Int)))))).f0) ((rd_T43 l1_1 (wrap64 (Int.tmod (IntKind.u64.wrap (a3)) (IntKind.u64.wrap ((l1_1.length : Int)))))).f1) ((rd_T43 l1_1 (wrap64 (Int.tmod (IntKind.u64.wrap (a3)) (IntKind.u64.wrap ((l1_1.length : Int)))))).f2) ((rd_T43 l2_1 (wrap64 (Int.tmod (IntKind.u64.wrap (a4)) (IntKind.u64.wrap ((l2_1.length : Int)))))).f0) ((rd_T43 l2_1 (wrap64 (Int.tmod (IntKind.u64.wrap (a4)) (IntKind.u64.wrap ((l2_1.length : Int)))))).f1) ((rd_T43 l2_1 (wrap64 (Int.tmod (IntKind.u64.wrap (a4)) (IntKind.u64.wrap ((l2_1.length : Int)))))).f2)).bind fun bt366 => (if bt366.2.2.2 = 0 then (if (bt356.2.1.length : Int) = (wrap64 ((l1_1.length : Int) * (l2_1.length : Int))) then (if 0 ≤ (wrap64 ((wrap64 ((wrap64 (Int.tmod (IntKind.u64.wrap (a3)) (IntKind.u64.wrap ((l1_1.length : Int))))) * (l2_1.length : Int))) + (wrap64 (Int.tmod (IntKind.u64.wrap (a4)) (IntKind.u64.wrap ((l2_1.length : Int))))))) then (if (wrap64 ((wrap64 ((wrap64 (Int.tmod (IntKind.u64.wrap (a3)) (IntKind.u64.wrap ((l1_1.length : Int))))) * (l2_1.length : Int))) + (wrap64 (Int.tmod (IntKind.u64.wrap (a4)) (IntKind.u64.wrap ((l2_1.length : Int))))))) < (bt356.2.1.length : Int) then ((triglyphref03_Cell.f kj5 bt366.1 bt366.2.1 bt366.2.2.1 ((rd_T43 bt356.2.1 (wrap64 ((wrap64 ((wrap64 (Int.tmod (IntKind.u64.wrap (a3)) (IntKind.u64.wrap ((l1_1.length : Int))))) * (l2_1.length : Int))) + (wrap64 (Int.tmod (IntKind.u64.wrap (a4)) (IntKind.u64.wrap ((l2_1.length : Int)))))))).f0) ((rd_T43 bt356.2.1 (wrap64 ((wrap64 ((wrap64 (Int.tmod (IntKind.u64.wrap (a3)) (IntKind.u64.wrap ((l1_1.length : Int))))) * (l2_1.length : Int))) + (wrap64 (Int.tmod (IntKind.u64.wrap (a4)) (IntKind.u64.wrap ((l2_1.length : Int)))))))).f1) ((rd_T43 bt356.2.1 (wrap64 ((wrap64 ((wrap64 (Int.tmod (IntKind.u64.wrap (a3)) (IntKind.u64.wrap ((l1_1.length : Int))))) * (l2_1.length : Int))) + (wrap64 (Int.tmod (IntKind.u64.wrap (a4)) (IntKind.u64.wrap ((l2_1.length : Int)))))))).f2)).bind fun t374 => (if t374 = 0 then ((triglyphlaw08_works.f kj5).bind fun t375 => (some t375)) else (none))) else (none)) else (none)) else (none)) else (none))) else (none)) else (none)) else (none)) else (none)))) else (if (bt356.2.1.length : Int) = 0 then ((triglyphlaw08_works.f kj5).bind fun t376 => (some t376)) else (none)))) = some r := by rw [if_neg (show ¬ (false = true) by decide)] at H; exact H
    clear H; have H := H1; clear H1
    replace H := Option.bind_eq_some_iff.mp H
    obtain ⟨⟨t356, t359, t362⟩, A660, H⟩ := H
    replace H : (if t362 = 0 then (if (IntKind.u64.wrap ((l1_1.length : Int))) = 0 then (none) else (if (IntKind.u64.wrap ((l2_1.length : Int))) = 0 then (none) else (if 0 ≤ (wrap64 (Int.tmod (IntKind.u64.wrap (a3)) (IntKind.u64.wrap ((l1_1.length : Int))))) then (if (wrap64 (Int.tmod (IntKind.u64.wrap (a3)) (IntKind.u64.wrap ((l1_1.length : Int))))) < (l1_1.length : Int) then (if 0 ≤ (wrap64 (Int.tmod (IntKind.u64.wrap (a4)) (IntKind.u64.wrap ((l2_1.length : Int))))) then (if (wrap64 (Int.tmod (IntKind.u64.wrap (a4)) (IntKind.u64.wrap ((l2_1.length : Int))))) < (l2_1.length : Int) then ((triglyphref04_Cell.f kj5 a0 ((rd_T43 l1_1 (wrap64 (Int.tmod (IntKind.u64.wrap (a3)) (IntKind.u64.wrap ((l1_1.length : Int)))))).f0) ((rd_T43 l1_1 (wrap64 (Int.tmod (IntKind.u64.wrap (a3)) (IntKind.u64.wrap ((l1_1.length : Int)))))).f1) ((rd_T43 l1_1 (wrap64 (Int.tmod (IntKind.u64.wrap (a3)) (IntKind.u64.wrap ((l1_1.length : Int)))))).f2) ((rd_T43 l2_1 (wrap64 (Int.tmod (IntKind.u64.wrap (a4)) (IntKind.u64.wrap ((l2_1.length : Int)))))).f0) ((rd_T43 l2_1 (wrap64 (Int.tmod (IntKind.u64.wrap (a4)) (IntKind.u64.wrap ((l2_1.length : Int)))))).f1) ((rd_T43 l2_1 (wrap64 (Int.tmod (IntKind.u64.wrap (a4)) (IntKind.u64.wrap ((l2_1.length : Int)))))).f2)).bind fun bt366 => (if bt366.2.2.2 = 0 then (if (t359.length : Int) = (wrap64 ((l1_1.length : Int) * (l2_1.length : Int))) then (if 0 ≤ (wrap64 ((wrap64 ((wrap64 (Int.tmod (IntKind.u64.wrap (a3)) (IntKind.u64.wrap ((l1_1.length : Int))))) * (l2_1.length : Int))) + (wrap64 (Int.tmod (IntKind.u64.wrap (a4)) (IntKind.u64.wrap ((l2_1.length : Int))))))) then (if (wrap64 ((wrap64 ((wrap64 (Int.tmod (IntKind.u64.wrap (a3)) (IntKind.u64.wrap ((l1_1.length : Int))))) * (l2_1.length : Int))) + (wrap64 (Int.tmod (IntKind.u64.wrap (a4)) (IntKind.u64.wrap ((l2_1.length : Int))))))) < (t359.length : Int) then ((triglyphref03_Cell.f kj5 bt366.1 bt366.2.1 bt366.2.2.1 ((rd_T43 t359 (wrap64 ((wrap64 ((wrap64 (Int.tmod (IntKind.u64.wrap (a3)) (IntKind.u64.wrap ((l1_1.length : Int))))) * (l2_1.length : Int))) + (wrap64 (Int.tmod (IntKind.u64.wrap (a4)) (IntKind.u64.wrap ((l2_1.length : Int)))))))).f0) ((rd_T43 t359 (wrap64 ((wrap64 ((wrap64 (Int.tmod (IntKind.u64.wrap (a3)) (IntKind.u64.wrap ((l1_1.length : Int))))) * (l2_1.length : Int))) + (wrap64 (Int.tmod (IntKind.u64.wrap (a4)) (IntKind.u64.wrap ((l2_1.length : Int)))))))).f1) ((rd_T43 t359 (wrap64 ((wrap64 ((wrap64 (Int.tmod (IntKind.u64.wrap (a3)) (IntKind.u64.wrap ((l1_1.length : Int))))) * (l2_1.length : Int))) + (wrap64 (Int.tmod (IntKind.u64.wrap (a4)) (IntKind.u64.wrap ((l2_1.length : Int)))))))).f2)).bind fun t374 => (if t374 = 0 then ((triglyphlaw08_works.f kj5).bind fun t375 => (some t375)) else (none))) else (none)) else (none)) else (none)) else (none))) else (none)) else (none)) else (none)) else (none)))) else (if (t359.length : Int) = 0 then ((triglyphlaw08_works.f kj5).bind fun t376 => (some t376)) else (none))) = some r := H
    have A66 := gA A660
    clear A660
    by_cases c67 : t362 = 0
    ·rw [if_pos c67] at H
     have c67b0 : (t362 == 0) = true := beq_iff_eq.mpr c67
     have c67b1 : (t362 != 0) = false := bne_eq_false_iff_eq.mpr c67
     clear c67
     obtain ⟨c68, H⟩ := iN H
     have c68b0 : ((IntKind.u64.wrap ((l1_1.length : Int))) == 0) = false := beq_eq_false_iff_ne.mpr c68
     have c68b1 : ((IntKind.u64.wrap ((l1_1.length : Int))) != 0) = true := bne_iff_ne.mpr c68
     obtain ⟨c69, H⟩ := iN H
     have c69b0 : ((IntKind.u64.wrap ((l2_1.length : Int))) == 0) = false := beq_eq_false_iff_ne.mpr c69
     have c69b1 : ((IntKind.u64.wrap ((l2_1.length : Int))) != 0) = true := bne_iff_ne.mpr c69
     obtain ⟨ji70, hji70⟩ : ∃ j_ : Int, (wrap64 (Int.tmod (IntKind.u64.wrap (a3)) (IntKind.u64.wrap ((l1_1.length : Int))))) = j_ := ⟨_, rfl⟩
     replace H : (if 0 ≤ (ji70) then (if (ji70) < (l1_1.length : Int) then (if 0 ≤ (wrap64 (Int.tmod (IntKind.u64.wrap (a4)) (IntKind.u64.wrap ((l2_1.length : Int))))) then (if (wrap64 (Int.tmod (IntKind.u64.wrap (a4)) (IntKind.u64.wrap ((l2_1.length : Int))))) < (l2_1.length : Int) then ((triglyphref04_Cell.f kj5 a0 ((rd_T43 l1_1 (ji70)).f0) ((rd_T43 l1_1 (ji70)).f1) ((rd_T43 l1_1 (ji70)).f2) ((rd_T43 l2_1 (wrap64 (Int.tmod (IntKind.u64.wrap (a4)) (IntKind.u64.wrap ((l2_1.length : Int)))))).f0) ((rd_T43 l2_1 (wrap64 (Int.tmod (IntKind.u64.wrap (a4)) (IntKind.u64.wrap ((l2_1.length : Int)))))).f1) ((rd_T43 l2_1 (wrap64 (Int.tmod (IntKind.u64.wrap (a4)) (IntKind.u64.wrap ((l2_1.length : Int)))))).f2)).bind fun bt366 => (if bt366.2.2.2 = 0 then (if (t359.length : Int) = (wrap64 ((l1_1.length : Int) * (l2_1.length : Int))) then (if 0 ≤ (wrap64 ((wrap64 ((ji70) * (l2_1.length : Int))) + (wrap64 (Int.tmod (IntKind.u64.wrap (a4)) (IntKind.u64.wrap ((l2_1.length : Int))))))) then (if (wrap64 ((wrap64 ((ji70) * (l2_1.length : Int))) + (wrap64 (Int.tmod (IntKind.u64.wrap (a4)) (IntKind.u64.wrap ((l2_1.length : Int))))))) < (t359.length : Int) then ((triglyphref03_Cell.f kj5 bt366.1 bt366.2.1 bt366.2.2.1 ((rd_T43 t359 (wrap64 ((wrap64 ((ji70) * (l2_1.length : Int))) + (wrap64 (Int.tmod (IntKind.u64.wrap (a4)) (IntKind.u64.wrap ((l2_1.length : Int)))))))).f0) ((rd_T43 t359 (wrap64 ((wrap64 ((ji70) * (l2_1.length : Int))) + (wrap64 (Int.tmod (IntKind.u64.wrap (a4)) (IntKind.u64.wrap ((l2_1.length : Int)))))))).f1) ((rd_T43 t359 (wrap64 ((wrap64 ((ji70) * (l2_1.length : Int))) + (wrap64 (Int.tmod (IntKind.u64.wrap (a4)) (IntKind.u64.wrap ((l2_1.length : Int)))))))).f2)).bind fun t374 => (if t374 = 0 then ((triglyphlaw08_works.f kj5).bind fun t375 => (some t375)) else (none))) else (none)) else (none)) else (none)) else (none))) else (none)) else (none)) else (none)) else (none)) = some r := by first | (rw [hji70] at H; exact H) | (simp only [hji70] at H ⊢; exact H)
     (try rw [hji70] at A66)
     have hji70w : (IntKind.i64.wrap (Int.tmod (IntKind.u64.wrap (a3)) (IntKind.u64.wrap ((l1_1.length : Int))))) = ji70 := (i64_w _).trans hji70
     obtain ⟨c71, H⟩ := iS H
     have c71b0 := decide_eq_true c71
     clear c71
     obtain ⟨c72, H⟩ := iS H
     have c72b0 := decide_eq_true c72
     clear c72
     obtain ⟨ji73, hji73⟩ : ∃ j_ : Int, (wrap64 (Int.tmod (IntKind.u64.wrap (a4)) (IntKind.u64.wrap ((l2_1.length : Int))))) = j_ := ⟨_, rfl⟩
     replace H : (if 0 ≤ (ji73) then (if (ji73) < (l2_1.length : Int) then ((triglyphref04_Cell.f kj5 a0 ((rd_T43 l1_1 (ji70)).f0) ((rd_T43 l1_1 (ji70)).f1) ((rd_T43 l1_1 (ji70)).f2) ((rd_T43 l2_1 (ji73)).f0) ((rd_T43 l2_1 (ji73)).f1) ((rd_T43 l2_1 (ji73)).f2)).bind fun bt366 => (if bt366.2.2.2 = 0 then (if (t359.length : Int) = (wrap64 ((l1_1.length : Int) * (l2_1.length : Int))) then (if 0 ≤ (wrap64 ((wrap64 ((ji70) * (l2_1.length : Int))) + (ji73))) then (if (wrap64 ((wrap64 ((ji70) * (l2_1.length : Int))) + (ji73))) < (t359.length : Int) then ((triglyphref03_Cell.f kj5 bt366.1 bt366.2.1 bt366.2.2.1 ((rd_T43 t359 (wrap64 ((wrap64 ((ji70) * (l2_1.length : Int))) + (ji73)))).f0) ((rd_T43 t359 (wrap64 ((wrap64 ((ji70) * (l2_1.length : Int))) + (ji73)))).f1) ((rd_T43 t359 (wrap64 ((wrap64 ((ji70) * (l2_1.length : Int))) + (ji73)))).f2)).bind fun t374 => (if t374 = 0 then ((triglyphlaw08_works.f kj5).bind fun t375 => (some t375)) else (none))) else (none)) else (none)) else (none)) else (none))) else (none)) else (none)) = some r := by first | (rw [hji73] at H; exact H) | (simp only [hji73] at H ⊢; exact H)
     (try rw [hji73] at A66)
     have hji73w : (IntKind.i64.wrap (Int.tmod (IntKind.u64.wrap (a4)) (IntKind.u64.wrap ((l2_1.length : Int))))) = ji73 := (i64_w _).trans hji73
     obtain ⟨c74, H⟩ := iS H
     have c74b0 := decide_eq_true c74
     clear c74
     obtain ⟨c75, H⟩ := iS H
     have c75b0 := decide_eq_true c75
     clear c75
     replace H := Option.bind_eq_some_iff.mp H
     obtain ⟨⟨t366, t367, t368, t371⟩, A760, H⟩ := H
     replace H : (if t371 = 0 then (if (t359.length : Int) = (wrap64 ((l1_1.length : Int) * (l2_1.length : Int))) then (if 0 ≤ (wrap64 ((wrap64 ((ji70) * (l2_1.length : Int))) + (ji73))) then (if (wrap64 ((wrap64 ((ji70) * (l2_1.length : Int))) + (ji73))) < (t359.length : Int) then ((triglyphref03_Cell.f kj5 t366 t367 t368 ((rd_T43 t359 (wrap64 ((wrap64 ((ji70) * (l2_1.length : Int))) + (ji73)))).f0) ((rd_T43 t359 (wrap64 ((wrap64 ((ji70) * (l2_1.length : Int))) + (ji73)))).f1) ((rd_T43 t359 (wrap64 ((wrap64 ((ji70) * (l2_1.length : Int))) + (ji73)))).f2)).bind fun t374 => (if t374 = 0 then ((triglyphlaw08_works.f kj5).bind fun t375 => (some t375)) else (none))) else (none)) else (none)) else (none)) else (none)) = some r := H
     have A76 := gA A760
     clear A760
     by_cases c77 : t371 = 0
     ·rw [if_pos c77] at H
      have c77b0 : (t371 == 0) = true := beq_iff_eq.mpr c77
      have c77b1 : (t371 != 0) = false := bne_eq_false_iff_eq.mpr c77
      clear c77
      by_cases c78 : (t359.length : Int) = (wrap64 ((l1_1.length : Int) * (l2_1.length : Int)))
      ·rw [if_pos c78] at H
       have c78b0 : ((t359.length : Int) == (wrap64 ((l1_1.length : Int) * (l2_1.length : Int)))) = true := beq_iff_eq.mpr c78
       have c78b1 : ((t359.length : Int) != (wrap64 ((l1_1.length : Int) * (l2_1.length : Int)))) = false := bne_eq_false_iff_eq.mpr c78
       clear c78
       obtain ⟨ji79, hji79⟩ : ∃ j_ : Int, (wrap64 ((wrap64 ((ji70) * (l2_1.length : Int))) + (ji73))) = j_ := ⟨_, rfl⟩
       replace H : (if 0 ≤ (ji79) then (if (ji79) < (t359.length : Int) then ((triglyphref03_Cell.f kj5 t366 t367 t368 ((rd_T43 t359 (ji79)).f0) ((rd_T43 t359 (ji79)).f1) ((rd_T43 t359 (ji79)).f2)).bind fun t374 => (if t374 = 0 then ((triglyphlaw08_works.f kj5).bind fun t375 => (some t375)) else (none))) else (none)) else (none)) = some r := by first | (rw [hji79] at H; exact H) | (simp only [hji79] at H ⊢; exact H)
       (try rw [hji79] at A66)
       (try rw [hji79] at A76)
       have hji79w : (IntKind.i64.wrap ((wrap64 ((ji70) * (l2_1.length : Int))) + (ji73))) = ji79 := (i64_w _).trans hji79
       obtain ⟨c80, H⟩ := iS H
       have c80b0 := decide_eq_true c80
       clear c80
       obtain ⟨c81, H⟩ := iS H
       have c81b0 := decide_eq_true c81
       clear c81
       replace H := Option.bind_eq_some_iff.mp H
       obtain ⟨t374, A820, H⟩ := H
       replace H : (if t374 = 0 then ((triglyphlaw08_works.f kj5).bind fun t375 => (some t375)) else (none)) = some r := H
       have A82 := gA A820
       clear A820
       by_cases c83 : t374 = 0
       ·rw [if_pos c83] at H
        have c83b0 : (t374 == 0) = true := beq_iff_eq.mpr c83
        have c83b1 : (t374 != 0) = false := bne_eq_false_iff_eq.mpr c83
        clear c83
        replace H := Option.bind_eq_some_iff.mp H
        obtain ⟨t375, A840, H⟩ := H
        replace H : (some t375) = some r := H
        have A84 := gA A840
        clear A840
        obtain rfl := Option.some.inj H
        have hnb85 := NB349_350.out
        have hnc85 := NB350_349.out
        obtain ⟨hcz86_0, hcz86_1, hfz86_0, hfz86_1⟩ := gz2 BK349
        obtain ⟨hcz87_0, hcz87_1, hfz87_0, hfz87_1⟩ := gz2 BK350
        try go_wp2_with (first | ((with_reducible refine gate_callee (f := 17) rfl ?_); refine goesL_ (some 51) rfl rfl Try.func17 (by kernel_rfl) rfl #[.agg #[.int .i64 a0, .bool false], .agg #[.slice A1_0 l1_0.length c1_0, .slice A1_1 l1_1.length c1_1], .agg #[.slice A2_0 l2_0.length c2_0, .slice A2_1 l2_1.length c2_1]] rfl (by (try simp only [List.map_toArray, List.map_cons, List.map_nil]); first | done | rfl | (simp only [List.length_drop, List.length_take]; rfl)) ?_; (with_reducible refine (fold_Outer.calls kj5 a0 false _ _ l1_0 _ _ l1_1 _ _ l2_0 _ _ l2_1 t356 t359 t362 _ ?side1 ?side2 ?side3 ?side4 ?side5 ?side6 ?side7 ?side8 A66.out).mono ?_); (case side1 => exact gC HR1_0 HB); (case side2 => exact HC1_0.out); (case side3 => exact gC HR1_1 HB); (case side4 => exact HC1_1.out); (case side5 => exact gC HR2_0 HB); (case side6 => exact HC2_0.out); (case side7 => exact gC HR2_1 HB); (case side8 => exact HC2_1.out); rintro e w88 ⟨v357, v360, rfl, ho0, ho1, hb⟩; refine ⟨_, rfl, ?_⟩; have HO358 := gA (Kd.R_lower ho0 (below_size (gB HB))); have HO361 := gA (Kd.R_lower (Kd.R_newB (Kd.R_newB ho1 (gK BK349)) (gK BK350)) (below_size (gB HB))); replace BK349 := gA (blk_below (gK BK349) hb); replace BK350 := gA (blk_below (gK BK350) hb); replace HB := gA (below_step (gB HB) hb); (try clear hb); (try clear ho0); (try clear ho1)) | ((with_reducible refine gate_dst (N := 11) rfl ?_); (try (refine gate_guard (by rfl) ?_; dsimp only)); refine box_event ?hg (N := 11) ?hd (cs := #[.slice none 0 0, .slice none 0 0]) (t := 25) ?hr ?_; (case hd => rfl); (case hg => rfl); (case hr => first | (go_simp; done) | (go_simp; rfl)); intro gb363 hg w89 hbox hb; replace HO358 := gA (Kd.R_below (gR HO358) hb); replace HO361 := gA (Kd.R_below (Kd.R_elderB (gR HO361) gb363 (Nat.le_of_eq hg.symm)) hb); have BK363 := gA (hbox); have GW363 := gA ((by rw [hg]; exact (below_size (gB HB)) : w.heap.size ≤ gb363)); have GE363 := gA ((by rw [hg]; exact (below_size (gB HB)) : w.heap.size ≤ gb363)); replace HB := gA (below_step (gB HB) hb); have NB349_363 := gA ((by rw [hg]; exact Nat.ne_of_lt (blk_lt (gK BK349)) : gb349 ≠ gb363)); have NB363_349 := gA ((by rw [hg]; exact Nat.ne_of_gt (blk_lt (gK BK349)) : gb363 ≠ gb349)); replace BK349 := gA (blk_below (gK BK349) hb); have NB350_363 := gA ((by rw [hg]; exact Nat.ne_of_lt (blk_lt (gK BK350)) : gb350 ≠ gb363)); have NB363_350 := gA ((by rw [hg]; exact Nat.ne_of_gt (blk_lt (gK BK350)) : gb363 ≠ gb350)); replace BK350 := gA (blk_below (gK BK350) hb); clear hb hbox hg; obtain ⟨Ao90, co90, eo90⟩ := Kd.R_slice HO358.out; subst eo90; have hnb91 := NB363_349.out; have hnc91 := NB349_363.out; have hnb92 := NB363_350.out; have hnc92 := NB350_363.out; obtain ⟨hcz93_0, hcz93_1, hfz93_0, hfz93_1⟩ := gz2 BK363; obtain ⟨Ao94, co94, eo94⟩ := Kd.R_slice HO361.out; subst eo94))
        have n0_ : Aside0 (Kd.R (Kd.int .i64) 3 ((w89.setCell ⟨gb363, 0, none⟩ (.slice Ao90 t356.length co90)).setCell ⟨gb363, 1, none⟩ (.slice Ao94 t359.length co94)) w.heap.size (fun _ => True) (.slice Ao90 t356.length co90) t356) := ⟨Kd.R_mono (Kd.R_far (p := ⟨gb363, 1, none⟩) (Kd.R_far (p := ⟨gb363, 0, none⟩) (Kd.R_types HO358.out BK363.out (by decide)) (fun _ hk => hk.2) (.slice Ao90 t356.length co90)) (fun _ hk => hk.2) (.slice Ao94 t359.length co94)) (fun _ hk => trivial)⟩
        have n1_ : Aside0 (Kd.R k43 43 ((w89.setCell ⟨gb363, 0, none⟩ (.slice Ao90 t356.length co90)).setCell ⟨gb363, 1, none⟩ (.slice Ao94 t359.length co94)) w.heap.size (fun k_ => some k_ ≠ (.slice Ao90 t356.length co90 : Value).ownBlock ∧ k_ ≠ gb349 ∧ k_ ≠ gb350 ∧ k_ ≠ gb363) (.slice Ao94 t359.length co94) t359) := ⟨Kd.R_mono (Kd.R_far (p := ⟨gb363, 1, none⟩) (Kd.R_far (p := ⟨gb363, 0, none⟩) (Kd.R_mono HO361.out (fun k_ hk => (⟨hk, hk.2⟩ : _ ∧ k_ ≠ gb363))) (fun _ hk => hk.2) (.slice Ao90 t356.length co90)) (fun _ hk => hk.2) (.slice Ao94 t359.length co94)) (fun _ hk => by first | exact ⟨hk.1.1.1.1, ⟨hk.1.1.1.2, ⟨hk.1.1.2, hk.1.2⟩⟩⟩ | (simp_all; done))⟩
        have n2_ : Aside0 (((w89.setCell ⟨gb363, 0, none⟩ (.slice Ao90 t356.length co90)).setCell ⟨gb363, 1, none⟩ (.slice Ao94 t359.length co94)).heap[gb349]? = some (.cells #[.slice A1_0 l1_0.length c1_0, .slice A1_1 l1_1.length c1_1] 25 (0, 0))) := ⟨by refine blk_far ?_ NB349_363.out _; refine blk_far ?_ NB349_363.out _; exact gK BK349⟩
        have n3_ : Aside0 (((w89.setCell ⟨gb363, 0, none⟩ (.slice Ao90 t356.length co90)).setCell ⟨gb363, 1, none⟩ (.slice Ao94 t359.length co94)).heap[gb350]? = some (.cells #[.slice A2_0 l2_0.length c2_0, .slice A2_1 l2_1.length c2_1] 25 (0, 0))) := ⟨by refine blk_far ?_ NB350_363.out _; refine blk_far ?_ NB350_363.out _; exact gK BK350⟩
        have n4_ : Aside0 (((w89.setCell ⟨gb363, 0, none⟩ (.slice Ao90 t356.length co90)).setCell ⟨gb363, 1, none⟩ (.slice Ao94 t359.length co94)).heap[gb363]? = some (.cells #[.slice Ao90 t356.length co90, .slice Ao94 t359.length co94] 25 (0, 0))) := ⟨by refine blk_put (cs := #[.slice Ao90 t356.length co90, .slice none 0 0]) ?_ 1 _ rfl; refine blk_put (cs := #[.slice none 0 0, .slice none 0 0]) ?_ 0 _ rfl; exact gK BK363⟩
        have n5_ : Aside0 (Below w.heap.size w ((w89.setCell ⟨gb363, 0, none⟩ (.slice Ao90 t356.length co90)).setCell ⟨gb363, 1, none⟩ (.slice Ao94 t359.length co94))) := ⟨by repeat first | exact gB HB | refine below_set ?_ GE349.out | refine below_set ?_ GE350.out | refine below_set ?_ GE363.out⟩
        (try clear HO358)
        generalize ((w89.setCell ⟨gb363, 0, none⟩ (.slice Ao90 t356.length co90)).setCell ⟨gb363, 1, none⟩ (.slice Ao94 t359.length co94)) = w95 at n0_ n1_ n2_ n3_ n4_ n5_ ⊢
        have HO358 := n0_; have HO361 := n1_
        have BK349 := n2_; have BK350 := n3_
        have BK363 := n4_; have HB := n5_
        clear n0_ n1_ n2_ n3_ n4_ n5_
        replace HO358 := gA (Kd.R_drew HO358.out); replace HO361 := gA (Kd.R_drew HO361.out); replace BK349 := gA (blk_drew BK349.out); replace BK350 := gA (blk_drew BK350.out); replace BK363 := gA (blk_drew BK363.out); replace HB := gA (below_drew1 HB.out)
        refine start_ (n := 18) (S := fun w' => w'.cell? ⟨gb349, 0, none⟩ = some (.slice A1_0 l1_0.length c1_0) ∧ w'.cell? ⟨gb349, 1, none⟩ = some (.slice A1_1 l1_1.length c1_1) ∧ w'.cell? ⟨gb350, 0, none⟩ = some (.slice A2_0 l2_0.length c2_0) ∧ w'.cell? ⟨gb350, 1, none⟩ = some (.slice A2_1 l2_1.length c2_1)) (ds := []) #[false, false, false, false, false, false, false, false, false, false, false, false, false, false, false, false, false, false] (by kernel_rfl) rfl rfl ⟨(blk_cell BK349.out 0).trans rfl, (blk_cell BK349.out 1).trans rfl, (blk_cell BK350.out 0).trans rfl, (blk_cell BK350.out 1).trans rfl⟩ (fun hHeld => ?_); refine with_tabW triglyphlaw08_FoldCells.tab6 triglyphlaw08_FoldCells.bits6 (fun HT_ HW_ => ?_)
        generalize w95.drew = w96 at HO358 HO361 BK349 BK350 BK363 HB hHeld ⊢
        refine pure_ (i := 0) (N := some 63) (v := ?_) (a' := ?_) #[true, false, false, false, false, false, false, false, false, false, false, false, false, false, false, false, false, false] rfl rfl (any_of HT_.out (by kernel_rfl)) (fun _ _ _ h => h) (Or.inl ⟨by rfl, ?_⟩) ?_ ?_; rotate_left
        ·intro w'; go_simp; with_reducible rfl
        rotate_left
        ·simp only [Act.put, List.setIfInBounds_toArray, List.set_cons_zero, List.set_cons_succ, i64_w, i32_w]; rfl
        refine pure_ (i := 1) (N := some 64) (v := ?_) (a' := ?_) #[true, true, false, false, false, false, false, false, false, false, false, false, false, false, false, false, false, false] rfl rfl (any_of HT_.out (by kernel_rfl)) (fun _ _ _ h => h) (Or.inl ⟨by rfl, ?_⟩) ?_ ?_; rotate_left
        ·intro w'; go_simp; with_reducible rfl
        rotate_left
        ·simp only [Act.put, List.setIfInBounds_toArray, List.set_cons_zero, List.set_cons_succ, i64_w, i32_w]; rfl
        refine pure_ (i := 2) (N := some 65) (v := ?_) (a' := ?_) #[true, true, true, false, false, false, false, false, false, false, false, false, false, false, false, false, false, false] rfl rfl (any_of HT_.out (by kernel_rfl)) (fun _ _ _ h => h) (Or.inl ⟨by rfl, ?_⟩) ?_ ?_; rotate_left
        ·intro w'; go_simp; with_reducible rfl
        rotate_left
        ·simp only [Act.put, List.setIfInBounds_toArray, List.set_cons_zero, List.set_cons_succ, i64_w, i32_w]; rfl
        refine pure_ (i := 8) (N := some 71) (v := ?_) (a' := ?_) #[true, true, true, false, false, false, false, false, true, false, false, false, false, false, false, false, false, false] rfl rfl (any_of HT_.out (by kernel_rfl)) (fun _ _ _ h => h) (Or.inl ⟨by rfl, ?_⟩) ?_ ?_; rotate_left
        ·intro w'; go_simp; with_reducible rfl
        rotate_left
        ·simp only [Act.put, List.setIfInBounds_toArray, List.set_cons_zero, List.set_cons_succ, i64_w, i32_w]; rfl
        refine pure_ (i := 9) (N := some 72) (v := ?_) (a' := ?_) #[true, true, true, false, false, false, false, false, true, true, false, false, false, false, false, false, false, false] rfl rfl (any_of HT_.out (by kernel_rfl)) (fun _ _ _ h => h) (Or.inl ⟨by rfl, ?_⟩) ?_ ?_; rotate_left
        ·intro w'; go_simp; with_reducible rfl
        rotate_left
        ·simp only [Act.put, List.setIfInBounds_toArray, List.set_cons_zero, List.set_cons_succ, i64_w, i32_w]; rfl
        refine pure_ (i := 10) (N := some 73) (v := ?_) (a' := ?_) #[true, true, true, false, false, false, false, false, true, true, true, false, false, false, false, false, false, false] rfl rfl (any_of HT_.out (by kernel_rfl)) (fun _ _ _ h => h) (Or.inl ⟨by rfl, ?_⟩) ?_ ?_; rotate_left
        ·intro w'; go_simp; with_reducible rfl
        rotate_left
        ·simp only [Act.put, List.setIfInBounds_toArray, List.set_cons_zero, List.set_cons_succ, i64_w, i32_w]; rfl
        refine take_ (i := 3) (N := some 66) (v := ?_) (a' := ?_) #[true, true, true, true, false, false, false, false, true, true, true, false, false, false, false, false, false, false] rfl rfl (take_ofW HT_.out HW_.out (by kernel_rfl)) (fun _ _ _ h => h) (Or.inl ⟨by rfl, ?_⟩) hHeld ?_ ?_; rotate_left
        ·rintro w' ⟨s0, s1, s2, s3⟩; go_simp; with_reducible rfl
        rotate_left
        ·simp only [Act.put, List.setIfInBounds_toArray, List.set_cons_zero, List.set_cons_succ, i64_w, i32_w]; rfl
        refine pure_ (i := 4) (N := some 67) (v := ?_) (a' := ?_) #[true, true, true, true, true, false, false, false, true, true, true, false, false, false, false, false, false, false] rfl rfl (any_of HT_.out (by kernel_rfl)) (fun _ _ _ h => h) (Or.inl ⟨by rfl, ?_⟩) ?_ ?_; rotate_left
        ·intro w'; go_simp; with_reducible rfl
        rotate_left
        ·simp only [Act.put, List.setIfInBounds_toArray, List.set_cons_zero, List.set_cons_succ, i64_w, i32_w]; rfl
        refine pure_ (i := 5) (N := some 68) (v := ?_) (a' := ?_) #[true, true, true, true, true, true, false, false, true, true, true, false, false, false, false, false, false, false] rfl rfl (any_of HT_.out (by kernel_rfl)) (fun _ _ _ h => h) (Or.inl ⟨by rfl, ?_⟩) ?_ ?_; rotate_left
        ·intro w'; go_simp; with_reducible rfl
        rotate_left
        ·simp only [Act.put, List.setIfInBounds_toArray, List.set_cons_zero, List.set_cons_succ, i64_w, i32_w]; rfl
        refine pure_ (i := 6) (N := some 69) (v := ?_) (a' := ?_) #[true, true, true, true, true, true, true, false, true, true, true, false, false, false, false, false, false, false] rfl rfl (any_of HT_.out (by kernel_rfl)) (fun _ _ _ h => h) (Or.inl ⟨by rfl, ?_⟩) ?_ ?_; rotate_left
        ·intro w'; go_simp; with_reducible rfl
        rotate_left
        ·simp only [Act.put, List.setIfInBounds_toArray, List.set_cons_zero, List.set_cons_succ, i64_w, i32_w]; rfl
        refine pure_ (i := 7) (N := some 70) (v := ?_) (a' := ?_) #[true, true, true, true, true, true, true, true, true, true, true, false, false, false, false, false, false, false] rfl rfl (any_of HT_.out (by kernel_rfl)) (fun _ _ _ h => h) (Or.inl ⟨by rfl, ?_⟩) ?_ ?_; rotate_left
        ·intro w'; go_simp; with_reducible rfl
        rotate_left
        ·simp only [Act.put, List.setIfInBounds_toArray, List.set_cons_zero, List.set_cons_succ, i64_w, i32_w]; rfl
        refine pure_ (i := 16) (N := some 3) (v := ?_) (a' := ?_) #[true, true, true, true, true, true, true, true, true, true, true, false, false, false, false, false, true, false] rfl rfl (any_of HT_.out (by kernel_rfl)) (fun _ _ _ h => h) (Or.inl ⟨by rfl, ?_⟩) ?_ ?_; rotate_left
        ·intro w'; go_simp; with_reducible rfl
        rotate_left
        ·simp only [Act.put, List.setIfInBounds_toArray, List.set_cons_zero, List.set_cons_succ, i64_w, i32_w]; rfl
        refine take_ (i := 11) (N := some 74) (v := ?_) (a' := ?_) #[true, true, true, true, true, true, true, true, true, true, true, true, false, false, false, false, true, false] rfl rfl (take_ofW HT_.out HW_.out (by kernel_rfl)) (fun _ _ _ h => h) (Or.inl ⟨by rfl, ?_⟩) hHeld ?_ ?_; rotate_left
        ·rintro w' ⟨s0, s1, s2, s3⟩; go_simp; with_reducible rfl
        rotate_left
        ·simp only [Act.put, List.setIfInBounds_toArray, List.set_cons_zero, List.set_cons_succ, i64_w, i32_w]; rfl
        refine pure_ (i := 12) (N := some 75) (v := ?_) (a' := ?_) #[true, true, true, true, true, true, true, true, true, true, true, true, true, false, false, false, true, false] rfl rfl (any_of HT_.out (by kernel_rfl)) (fun _ _ _ h => h) (Or.inl ⟨by rfl, ?_⟩) ?_ ?_; rotate_left
        ·intro w'; go_simp; with_reducible rfl
        rotate_left
        ·simp only [Act.put, List.setIfInBounds_toArray, List.set_cons_zero, List.set_cons_succ, i64_w, i32_w]; rfl
        refine pure_ (i := 13) (N := some 76) (v := ?_) (a' := ?_) #[true, true, true, true, true, true, true, true, true, true, true, true, true, true, false, false, true, false] rfl rfl (any_of HT_.out (by kernel_rfl)) (fun _ _ _ h => h) (Or.inl ⟨by rfl, ?_⟩) ?_ ?_; rotate_left
        ·intro w'; go_simp; with_reducible rfl
        rotate_left
        ·simp only [Act.put, List.setIfInBounds_toArray, List.set_cons_zero, List.set_cons_succ, i64_w, i32_w]; rfl
        refine pure_ (i := 14) (N := some 77) (v := ?_) (a' := ?_) #[true, true, true, true, true, true, true, true, true, true, true, true, true, true, true, false, true, false] rfl rfl (any_of HT_.out (by kernel_rfl)) (fun _ _ _ h => h) (Or.inl ⟨by rfl, ?_⟩) ?_ ?_; rotate_left
        ·intro w'; go_simp; with_reducible rfl
        rotate_left
        ·simp only [Act.put, List.setIfInBounds_toArray, List.set_cons_zero, List.set_cons_succ, i64_w, i32_w]; rfl
        refine pure_ (i := 15) (N := some 78) (v := ?_) (a' := ?_) #[true, true, true, true, true, true, true, true, true, true, true, true, true, true, true, true, true, false] rfl rfl (any_of HT_.out (by kernel_rfl)) (fun _ _ _ h => h) (Or.inl ⟨by rfl, ?_⟩) ?_ ?_; rotate_left
        ·intro w'; go_simp; with_reducible rfl
        rotate_left
        ·simp only [Act.put, List.setIfInBounds_toArray, List.set_cons_zero, List.set_cons_succ, i64_w, i32_w]; rfl
        refine pure_ (i := 17) (N := some 4) (v := ?_) (a' := ?_) #[true, true, true, true, true, true, true, true, true, true, true, true, true, true, true, true, true, true] rfl rfl (any_of HT_.out (by kernel_rfl)) (fun _ _ _ h => h) (Or.inl ⟨by rfl, ?_⟩) ?_ ?_; rotate_left
        ·intro w'; go_simp; with_reducible rfl
        rotate_left
        ·simp only [Act.put, List.setIfInBounds_toArray, List.set_cons_zero, List.set_cons_succ, i64_w, i32_w]; rfl
        refine done_ (done_of HT_.out (by kernel_rfl)) ?_
        try go_wp2
        replace HO358 := gA (Kd.R_drew HO358.out); replace HO361 := gA (Kd.R_drew HO361.out); replace BK349 := gA (blk_drew BK349.out); replace BK350 := gA (blk_drew BK350.out); replace BK363 := gA (blk_drew BK363.out); replace HB := gA (below_drew1 HB.out)
        have p364 : 0 ≤ ((ji70) : Int) := of_decide_eq_true (by assumption)
        have q364 : (ji70) < (l1_1.length : Int) := of_decide_eq_true (by assumption)
        obtain ⟨ad364, A364_2, c364_2, e364, hx364_0, hx364_1, hx364_2, hl364_2, hi364_2⟩ := at_T43 HR1_1.out (ji70) p364 q364
        have hw364_2 := hx364_2
        have hw364_1 := hx364_1
        have hw364_0 := hx364_0
        cases e364
        replace hx364_0 := (HB.out.cell (World.block_lt_of_cell? w _ hx364_0)).trans hx364_0
        replace hx364_1 := (HB.out.cell (World.block_lt_of_cell? w _ hx364_1)).trans hx364_1
        replace hx364_2 := (HB.out.cell (World.block_lt_of_cell? w _ hx364_2)).trans hx364_2
        have HR364_2 := gA hi364_2
        have HC364_2 := gA hl364_2
        clear hi364_2 hl364_2
        replace p364 := eq_true p364
        replace q364 := eq_true q364
        have p365 : 0 ≤ ((ji73) : Int) := of_decide_eq_true (by assumption)
        have q365 : (ji73) < (l2_1.length : Int) := of_decide_eq_true (by assumption)
        obtain ⟨ad365, A365_2, c365_2, e365, hx365_0, hx365_1, hx365_2, hl365_2, hi365_2⟩ := at_T43 HR2_1.out (ji73) p365 q365
        have hw365_2 := hx365_2
        have hw365_1 := hx365_1
        have hw365_0 := hx365_0
        cases e365
        replace hx365_0 := (HB.out.cell (World.block_lt_of_cell? w _ hx365_0)).trans hx365_0
        replace hx365_1 := (HB.out.cell (World.block_lt_of_cell? w _ hx365_1)).trans hx365_1
        replace hx365_2 := (HB.out.cell (World.block_lt_of_cell? w _ hx365_2)).trans hx365_2
        have HR365_2 := gA hi365_2
        have HC365_2 := gA hl365_2
        clear hi365_2 hl365_2
        replace p365 := eq_true p365
        replace q365 := eq_true q365
        refine start_ (n := 18) (S := fun w' => w'.cell? ⟨gb349, 0, none⟩ = some (.slice A1_0 l1_0.length c1_0) ∧ w'.cell? ⟨gb349, 1, none⟩ = some (.slice (some ad364) l1_1.length c1_1) ∧ w'.cell? ⟨gb350, 0, none⟩ = some (.slice A2_0 l2_0.length c2_0) ∧ w'.cell? ⟨gb350, 1, none⟩ = some (.slice (some ad365) l2_1.length c2_1) ∧ w'.cell? (ad364.add (((ji70)).toNat * 3)) = some (.int .i64 ((rd_T43 l1_1 (ji70)).f0)) ∧ w'.cell? ⟨(ad364.add (((ji70)).toNat * 3)).block, (ad364.add (((ji70)).toNat * 3)).off + 1, none⟩ = some (.int .i64 ((rd_T43 l1_1 (ji70)).f1)) ∧ w'.cell? ⟨(ad364.add (((ji70)).toNat * 3)).block, (ad364.add (((ji70)).toNat * 3)).off + 2, none⟩ = some (.slice A364_2 ((rd_T43 l1_1 (ji70)).f2).length c364_2) ∧ w'.cell? (ad365.add (((ji73)).toNat * 3)) = some (.int .i64 ((rd_T43 l2_1 (ji73)).f0)) ∧ w'.cell? ⟨(ad365.add (((ji73)).toNat * 3)).block, (ad365.add (((ji73)).toNat * 3)).off + 1, none⟩ = some (.int .i64 ((rd_T43 l2_1 (ji73)).f1)) ∧ w'.cell? ⟨(ad365.add (((ji73)).toNat * 3)).block, (ad365.add (((ji73)).toNat * 3)).off + 2, none⟩ = some (.slice A365_2 ((rd_T43 l2_1 (ji73)).f2).length c365_2)) (ds := []) #[false, false, false, false, false, false, false, false, false, false, false, false, false, false, false, false, false, false] (by kernel_rfl) rfl rfl ⟨(blk_cell BK349.out 0).trans rfl, (blk_cell BK349.out 1).trans rfl, (blk_cell BK350.out 0).trans rfl, (blk_cell BK350.out 1).trans rfl, ((HB.out.cell (World.block_lt_of_cell? w _ hw364_0)).trans hw364_0), ((HB.out.cell (World.block_lt_of_cell? w _ hw364_1)).trans hw364_1), ((HB.out.cell (World.block_lt_of_cell? w _ hw364_2)).trans hw364_2), ((HB.out.cell (World.block_lt_of_cell? w _ hw365_0)).trans hw365_0), ((HB.out.cell (World.block_lt_of_cell? w _ hw365_1)).trans hw365_1), ((HB.out.cell (World.block_lt_of_cell? w _ hw365_2)).trans hw365_2)⟩ (fun hHeld => ?_); refine with_tabW triglyphlaw08_FoldCells.tab7 triglyphlaw08_FoldCells.bits7 (fun HT_ HW_ => ?_)
        generalize w96.drew = w97 at HO358 HO361 BK349 BK350 BK363 HB HR364_2 HR365_2 hx364_0 hx364_1 hx364_2 hx365_0 hx365_1 hx365_2 hHeld ⊢
        refine pure_ (i := 0) (N := some 80) (v := ?_) (a' := ?_) #[true, false, false, false, false, false, false, false, false, false, false, false, false, false, false, false, false, false] rfl rfl (any_of HT_.out (by kernel_rfl)) (fun _ _ _ h => h) (Or.inl ⟨by rfl, ?_⟩) ?_ ?_; rotate_left
        ·intro w'; go_simp; with_reducible rfl
        rotate_left
        ·simp only [Act.put, List.setIfInBounds_toArray, List.set_cons_zero, List.set_cons_succ, i64_w, i32_w]; rfl
        refine pure_ (i := 1) (N := some 81) (v := ?_) (a' := ?_) #[true, true, false, false, false, false, false, false, false, false, false, false, false, false, false, false, false, false] rfl rfl (any_of HT_.out (by kernel_rfl)) (fun _ _ _ h => h) (Or.inl ⟨by rfl, ?_⟩) ?_ ?_; rotate_left
        ·intro w'; go_simp; with_reducible rfl
        rotate_left
        ·simp only [Act.put, List.setIfInBounds_toArray, List.set_cons_zero, List.set_cons_succ, i64_w, i32_w]; rfl
        refine pure_ (i := 3) (N := some 83) (v := ?_) (a' := ?_) #[true, true, false, true, false, false, false, false, false, false, false, false, false, false, false, false, false, false] rfl rfl (any_of HT_.out (by kernel_rfl)) (fun _ _ _ h => h) (Or.inl ⟨by rfl, ?_⟩) ?_ ?_; rotate_left
        ·intro w'; go_simp; with_reducible rfl
        rotate_left
        ·simp only [Act.put, List.setIfInBounds_toArray, List.set_cons_zero, List.set_cons_succ, i64_w, i32_w]; rfl
        refine pure_ (i := 6) (N := some 86) (v := ?_) (a' := ?_) #[true, true, false, true, false, false, true, false, false, false, false, false, false, false, false, false, false, false] rfl rfl (any_of HT_.out (by kernel_rfl)) (fun _ _ _ h => h) (Or.inl ⟨by rfl, ?_⟩) ?_ ?_; rotate_left
        ·intro w'; go_simp; with_reducible rfl
        rotate_left
        ·simp only [Act.put, List.setIfInBounds_toArray, List.set_cons_zero, List.set_cons_succ, i64_w, i32_w]; rfl
        refine pure_ (i := 8) (N := some 88) (v := ?_) (a' := ?_) #[true, true, false, true, false, false, true, false, true, false, false, false, false, false, false, false, false, false] rfl rfl (any_of HT_.out (by kernel_rfl)) (fun _ _ _ h => h) (Or.inl ⟨by rfl, ?_⟩) ?_ ?_; rotate_left
        ·intro w'; go_simp; with_reducible rfl
        rotate_left
        ·simp only [Act.put, List.setIfInBounds_toArray, List.set_cons_zero, List.set_cons_succ, i64_w, i32_w]; rfl
        refine take_ (i := 2) (N := some 82) (v := ?_) (a' := ?_) #[true, true, true, true, false, false, true, false, true, false, false, false, false, false, false, false, false, false] rfl rfl (take_ofW HT_.out HW_.out (by kernel_rfl)) (fun _ _ _ h => h) (Or.inl ⟨by rfl, ?_⟩) hHeld ?_ ?_; rotate_left
        ·rintro w' ⟨s0, s1, s2, s3, s4, s5, s6, s7, s8, s9⟩; go_simp; with_reducible rfl
        rotate_left
        ·simp only [Act.put, List.setIfInBounds_toArray, List.set_cons_zero, List.set_cons_succ, i64_w, i32_w]; rfl
        refine pure_ (i := 4) (N := some 84) (v := ?_) (a' := ?_) #[true, true, true, true, true, false, true, false, true, false, false, false, false, false, false, false, false, false] rfl rfl (any_of HT_.out (by kernel_rfl)) (fun _ _ _ h => h) (Or.inl ⟨by rfl, ?_⟩) ?_ ?_; rotate_left
        ·intro w'; go_simp; with_reducible rfl
        rotate_left
        ·simp only [Act.put, List.setIfInBounds_toArray, List.set_cons_zero, List.set_cons_succ, i64_w, i32_w]; rfl
        refine take_ (i := 5) (N := some 85) (v := ?_) (a' := ?_) #[true, true, true, true, true, true, true, false, true, false, false, false, false, false, false, false, false, false] rfl rfl (take_ofW HT_.out HW_.out (by kernel_rfl)) (fun _ _ _ h => h) (Or.inl ⟨by rfl, ?_⟩) hHeld ?_ ?_; rotate_left
        ·rintro w' ⟨s0, s1, s2, s3, s4, s5, s6, s7, s8, s9⟩; go_simp; with_reducible rfl
        rotate_left
        ·simp only [Act.put, List.setIfInBounds_toArray, List.set_cons_zero, List.set_cons_succ, i64_w, i32_w]; rfl
        refine take_ (i := 7) (N := some 87) (v := ?_) (a' := ?_) #[true, true, true, true, true, true, true, true, true, false, false, false, false, false, false, false, false, false] rfl rfl (take_ofW HT_.out HW_.out (by kernel_rfl)) (fun _ _ _ h => h) (Or.inl ⟨by rfl, ?_⟩) hHeld ?_ ?_; rotate_left
        ·rintro w' ⟨s0, s1, s2, s3, s4, s5, s6, s7, s8, s9⟩; go_simp; with_reducible rfl
        rotate_left
        ·simp only [Act.put, List.setIfInBounds_toArray, List.set_cons_zero, List.set_cons_succ, i64_w, i32_w]; rfl
        refine pure_ (i := 9) (N := some 89) (v := ?_) (a' := ?_) #[true, true, true, true, true, true, true, true, true, true, false, false, false, false, false, false, false, false] rfl rfl (any_of HT_.out (by kernel_rfl)) (fun _ _ _ h => h) (Or.inl ⟨by rfl, ?_⟩) ?_ ?_; rotate_left
        ·intro w'; go_simp; with_reducible rfl
        rotate_left
        ·simp only [Act.put, List.setIfInBounds_toArray, List.set_cons_zero, List.set_cons_succ, i64_w, i32_w]; rfl
        refine take_ (i := 10) (N := some 90) (v := ?_) (a' := ?_) #[true, true, true, true, true, true, true, true, true, true, true, false, false, false, false, false, false, false] rfl rfl (take_ofW HT_.out HW_.out (by kernel_rfl)) (fun _ _ _ h => h) (Or.inl ⟨by rfl, ?_⟩) hHeld ?_ ?_; rotate_left
        ·rintro w' ⟨s0, s1, s2, s3, s4, s5, s6, s7, s8, s9⟩; go_simp; with_reducible rfl
        rotate_left
        ·simp only [Act.put, List.setIfInBounds_toArray, List.set_cons_zero, List.set_cons_succ, i64_w, i32_w]; rfl
        refine join_ (σ := Value × Nat) 2 #[true, true, true, true, true, true, true, true, true, true, true, true, true, true, true, true, false, false] (fun s_ => [(91, .tuple #[.agg #[.int .i64 t366, .int .i64 t367, s_.1], .int .i64 t371]), (13, .pointer (some ⟨s_.2, 0, none⟩)), (79, .tuple #[.agg #[.int .i64 t366, .int .i64 t367, s_.1], .int .i64 t371]), (92, .agg #[.int .i64 t366, .int .i64 t367, s_.1]), (93, .int .i64 t371)]) (fun s_ w' => (w'.cell? ⟨gb349, 0, none⟩ = some (.slice A1_0 l1_0.length c1_0) ∧ w'.cell? ⟨gb349, 1, none⟩ = some (.slice (some ad364) l1_1.length c1_1) ∧ w'.cell? ⟨gb350, 0, none⟩ = some (.slice A2_0 l2_0.length c2_0) ∧ w'.cell? ⟨gb350, 1, none⟩ = some (.slice (some ad365) l2_1.length c2_1) ∧ w'.cell? (ad364.add (((ji70)).toNat * 3)) = some (.int .i64 ((rd_T43 l1_1 (ji70)).f0)) ∧ w'.cell? ⟨(ad364.add (((ji70)).toNat * 3)).block, (ad364.add (((ji70)).toNat * 3)).off + 1, none⟩ = some (.int .i64 ((rd_T43 l1_1 (ji70)).f1)) ∧ w'.cell? ⟨(ad364.add (((ji70)).toNat * 3)).block, (ad364.add (((ji70)).toNat * 3)).off + 2, none⟩ = some (.slice A364_2 ((rd_T43 l1_1 (ji70)).f2).length c364_2) ∧ w'.cell? (ad365.add (((ji73)).toNat * 3)) = some (.int .i64 ((rd_T43 l2_1 (ji73)).f0)) ∧ w'.cell? ⟨(ad365.add (((ji73)).toNat * 3)).block, (ad365.add (((ji73)).toNat * 3)).off + 1, none⟩ = some (.int .i64 ((rd_T43 l2_1 (ji73)).f1)) ∧ w'.cell? ⟨(ad365.add (((ji73)).toNat * 3)).block, (ad365.add (((ji73)).toNat * 3)).off + 2, none⟩ = some (.slice A365_2 ((rd_T43 l2_1 (ji73)).f2).length c365_2)) ∧ (Kd.R (Kd.int .i64) 3 w' w.heap.size (fun _ => True) (.slice Ao90 t356.length co90) t356) ∧ (Kd.R k43 43 w' w.heap.size (fun k_ => some k_ ≠ (.slice Ao90 t356.length co90 : Value).ownBlock ∧ some k_ ≠ (s_.1 : Value).ownBlock ∧ k_ ≠ gb349 ∧ k_ ≠ gb350 ∧ k_ ≠ gb363 ∧ k_ ≠ s_.2) (.slice Ao94 t359.length co94) t359) ∧ (Kd.R k25 25 w' w.heap.size (fun k_ => some k_ ≠ (.slice Ao90 t356.length co90 : Value).ownBlock ∧ some k_ ≠ (.slice Ao94 t359.length co94 : Value).ownBlock ∧ k_ ≠ gb349 ∧ k_ ≠ gb350 ∧ k_ ≠ gb363 ∧ k_ ≠ s_.2) s_.1 t368) ∧ (w'.heap[gb349]? = some (.cells #[.slice A1_0 l1_0.length c1_0, .slice (some ad364) l1_1.length c1_1] 25 (0, 0))) ∧ (w'.heap[gb350]? = some (.cells #[.slice A2_0 l2_0.length c2_0, .slice (some ad365) l2_1.length c2_1] 25 (0, 0))) ∧ (w'.heap[gb363]? = some (.cells #[.slice Ao90 t356.length co90, .slice Ao94 t359.length co94] 25 (0, 0))) ∧ (w'.heap[s_.2]? = some (.cells #[.int .i64 0, .int .i64 0, .slice none 0 0] 43 (0, 0))) ∧ (w.heap.size ≤ s_.2) ∧ (w.heap.size ≤ s_.2) ∧ (gb349 ≠ s_.2) ∧ (s_.2 ≠ gb349) ∧ (gb350 ≠ s_.2) ∧ (s_.2 ≠ gb350) ∧ (gb363 ≠ s_.2) ∧ (s_.2 ≠ gb363) ∧ (Below w.heap.size w w')) ?_ ?_; rotate_left
        ·intro hCont
         refine two_ (i := 11) (j := 15) (Ni := some 91) (Nj := some 13) #[true, true, true, true, true, true, true, true, true, true, true, true, false, false, false, false, false, false] #[true, true, true, true, true, true, true, true, true, true, true, false, false, false, false, true, false, false] rfl rfl rfl rfl (two_of HT_.out (by kernel_rfl)) (by decide) (by decide) (fun K hK => ?_) (fun K hK => ?_)
         ·skip
          refine goes_ Try.func23 (by kernel_rfl) rfl #[.int .i64 a0, .agg #[.int .i64 ((rd_T43 l1_1 (ji70)).f0), .int .i64 ((rd_T43 l1_1 (ji70)).f1), .slice A364_2 ((rd_T43 l1_1 (ji70)).f2).length c364_2], .agg #[.int .i64 ((rd_T43 l2_1 (ji73)).f0), .int .i64 ((rd_T43 l2_1 (ji73)).f1), .slice A365_2 ((rd_T43 l2_1 (ji73)).f2).length c365_2]] (by rfl) rfl rfl (by (try simp only [List.map_toArray, List.map_cons, List.map_nil]); first | done | (simp only [hji70, hji73]; rfl) | rfl | (simp only [List.length_drop, List.length_take]; rfl)) ?_
          with_reducible refine (triglyphref04_Cell.calls kj5 a0 ((rd_T43 l1_1 (ji70)).f0) ((rd_T43 l1_1 (ji70)).f1) _ _ ((rd_T43 l1_1 (ji70)).f2) ((rd_T43 l2_1 (ji73)).f0) ((rd_T43 l2_1 (ji73)).f1) _ _ ((rd_T43 l2_1 (ji73)).f2) t366 t367 t368 t371 _ ?side1 ?side2 ?side3 ?side4 A76.out).mono ?_
          (case side1 => exact gC HR364_2 HB)
          (case side2 => exact HC364_2.out)
          (case side3 => exact gC HR365_2 HB)
          (case side4 => exact HC365_2.out)
          rintro e w98 ⟨v369, rfl, ho0, hb⟩
          refine ⟨_, rfl, ?_⟩
          have HO370 := gA (Kd.R_lower (Kd.R_newB (Kd.R_newB (Kd.R_newB (Kd.R_new' (Kd.R_new' ho0 (Kd.R_lt (gR HO358))) (Kd.R_lt (gR HO361))) (gK BK349)) (gK BK350)) (gK BK363)) (below_size (gB HB))); replace HO358 := gA (Kd.R_below (gR HO358) hb); replace HO361 := gA (Kd.R_elder' (gR HO361) (Kd.R_base ho0) hb); replace BK349 := gA (blk_below (gK BK349) hb); replace BK350 := gA (blk_below (gK BK350) hb); replace BK363 := gA (blk_below (gK BK363) hb); replace HB := gA (below_step (gB HB) hb); (try clear hb); (try clear ho0)
          refine hK.out _ _ ⟨(blk_cell BK349.out 0).trans rfl, (blk_cell BK349.out 1).trans rfl, (blk_cell BK350.out 0).trans rfl, (blk_cell BK350.out 1).trans rfl, ((HB.out.cell (World.block_lt_of_cell? w _ hw364_0)).trans hw364_0), ((HB.out.cell (World.block_lt_of_cell? w _ hw364_1)).trans hw364_1), ((HB.out.cell (World.block_lt_of_cell? w _ hw364_2)).trans hw364_2), ((HB.out.cell (World.block_lt_of_cell? w _ hw365_0)).trans hw365_0), ((HB.out.cell (World.block_lt_of_cell? w _ hw365_1)).trans hw365_1), ((HB.out.cell (World.block_lt_of_cell? w _ hw365_2)).trans hw365_2)⟩ (fun hHeld => ?_); clear hK K
          refine norm_ (a' := ?_) ?_ ?_; rotate_left
          ·show Act.put _ (some 91) _ = _
           simp only [Act.put, List.setIfInBounds_toArray, List.set_cons_zero, List.set_cons_succ, i64_w, i32_w]; rfl
          refine pure_ (i := 12) (N := some 79) (v := ?_) (a' := ?_) #[true, true, true, true, true, true, true, true, true, true, true, true, true, false, false, false, false, false] rfl rfl (any_of HT_.out (by kernel_rfl)) (fun _ _ _ h => h) (Or.inl ⟨by rfl, ?_⟩) ?_ ?_; rotate_left
          ·intro w'; go_simp; with_reducible rfl
          rotate_left
          ·simp only [Act.put, List.setIfInBounds_toArray, List.set_cons_zero, List.set_cons_succ, i64_w, i32_w]; rfl
          refine pure_ (i := 13) (N := some 92) (v := ?_) (a' := ?_) #[true, true, true, true, true, true, true, true, true, true, true, true, true, true, false, false, false, false] rfl rfl (any_of HT_.out (by kernel_rfl)) (fun _ _ _ h => h) (Or.inl ⟨by rfl, ?_⟩) ?_ ?_; rotate_left
          ·intro w'; go_simp; with_reducible rfl
          rotate_left
          ·simp only [Act.put, List.setIfInBounds_toArray, List.set_cons_zero, List.set_cons_succ, i64_w, i32_w]; rfl
          refine pure_ (i := 14) (N := some 93) (v := ?_) (a' := ?_) #[true, true, true, true, true, true, true, true, true, true, true, true, true, true, true, false, false, false] rfl rfl (any_of HT_.out (by kernel_rfl)) (fun _ _ _ h => h) (Or.inl ⟨by rfl, ?_⟩) ?_ ?_; rotate_left
          ·intro w'; go_simp; with_reducible rfl
          rotate_left
          ·simp only [Act.put, List.setIfInBounds_toArray, List.set_cons_zero, List.set_cons_succ, i64_w, i32_w]; rfl
          refine one_ (i := 15) (N := some 13) #[true, true, true, true, true, true, true, true, true, true, true, true, true, true, true, true, false, false] rfl rfl (one_of HT_.out (by kernel_rfl)) (by decide) (fun K hK => ?_)
          refine box_step ?hg (N := 13) ?hd (cs := #[.int .i64 0, .int .i64 0, .slice none 0 0]) (t := 43) ?hr ?_; (case hd => rfl); (case hg => rfl); (case hr => first | (go_simp; done) | (go_simp; rfl))
          intro gb372 hg w99 hbox hb
          replace HO358 := gA (Kd.R_below (gR HO358) hb); replace HO361 := gA (Kd.R_below (Kd.R_elderB (gR HO361) gb372 (Nat.le_of_eq hg.symm)) hb); replace HO370 := gA (Kd.R_below (Kd.R_elderB (gR HO370) gb372 (Nat.le_of_eq hg.symm)) hb); have BK372 := gA (hbox); have GW372 := gA ((by rw [hg]; exact (below_size (gB HB)) : w.heap.size ≤ gb372)); have GE372 := gA ((by rw [hg]; exact (below_size (gB HB)) : w.heap.size ≤ gb372)); replace HB := gA (below_step (gB HB) hb); have NB349_372 := gA ((by rw [hg]; exact Nat.ne_of_lt (blk_lt (gK BK349)) : gb349 ≠ gb372)); have NB372_349 := gA ((by rw [hg]; exact Nat.ne_of_gt (blk_lt (gK BK349)) : gb372 ≠ gb349)); replace BK349 := gA (blk_below (gK BK349) hb); have NB350_372 := gA ((by rw [hg]; exact Nat.ne_of_lt (blk_lt (gK BK350)) : gb350 ≠ gb372)); have NB372_350 := gA ((by rw [hg]; exact Nat.ne_of_gt (blk_lt (gK BK350)) : gb372 ≠ gb350)); replace BK350 := gA (blk_below (gK BK350) hb); have NB363_372 := gA ((by rw [hg]; exact Nat.ne_of_lt (blk_lt (gK BK363)) : gb363 ≠ gb372)); have NB372_363 := gA ((by rw [hg]; exact Nat.ne_of_gt (blk_lt (gK BK363)) : gb372 ≠ gb363)); replace BK363 := gA (blk_below (gK BK363) hb); clear hb hbox hg
          refine hK.out _ _ ⟨(blk_cell BK349.out 0).trans rfl, (blk_cell BK349.out 1).trans rfl, (blk_cell BK350.out 0).trans rfl, (blk_cell BK350.out 1).trans rfl, ((HB.out.cell (World.block_lt_of_cell? w _ hw364_0)).trans hw364_0), ((HB.out.cell (World.block_lt_of_cell? w _ hw364_1)).trans hw364_1), ((HB.out.cell (World.block_lt_of_cell? w _ hw364_2)).trans hw364_2), ((HB.out.cell (World.block_lt_of_cell? w _ hw365_0)).trans hw365_0), ((HB.out.cell (World.block_lt_of_cell? w _ hw365_1)).trans hw365_1), ((HB.out.cell (World.block_lt_of_cell? w _ hw365_2)).trans hw365_2)⟩ (fun hHeld => ?_); clear hK K
          refine norm_ (a' := ?_) ?_ ?_; rotate_left
          ·show Act.put _ (some 13) _ = _
           simp only [Act.put, List.setIfInBounds_toArray, List.set_cons_zero, List.set_cons_succ, i64_w, i32_w]; rfl
          exact norm_ (by simp only [putAll, Act.put, List.setIfInBounds_toArray, List.set_cons_zero, List.set_cons_succ]) (hCont (v369, gb372) _ ⟨hHeld, (gR HO358), (Kd.R_mono HO361.out (fun _ hk => by first | exact ⟨hk.1.1.1, ⟨hk.1.2, ⟨hk.1.1.2.1, ⟨hk.1.1.2.2.1, ⟨hk.1.1.2.2.2, hk.2⟩⟩⟩⟩⟩ | (simp_all; done))), (Kd.R_mono HO370.out (fun _ hk => ⟨hk.1.1.1.1.1.2, ⟨hk.1.1.1.1.2, ⟨hk.1.1.1.2, ⟨hk.1.1.2, ⟨hk.1.2, hk.2⟩⟩⟩⟩⟩)), (gK BK349), (gK BK350), (gK BK363), (gK BK372), GW372.out, GE372.out, NB349_372.out, NB372_349.out, NB350_372.out, NB372_350.out, NB363_372.out, NB372_363.out, (gB HB)⟩)
         ·skip
          refine box_step ?hg (N := 13) ?hd (cs := #[.int .i64 0, .int .i64 0, .slice none 0 0]) (t := 43) ?hr ?_; (case hd => rfl); (case hg => rfl); (case hr => first | (go_simp; done) | (go_simp; rfl))
          intro gb372 hg w98 hbox hb
          replace HO358 := gA (Kd.R_below (gR HO358) hb); replace HO361 := gA (Kd.R_below (Kd.R_elderB (gR HO361) gb372 (Nat.le_of_eq hg.symm)) hb); have BK372 := gA (hbox); have GW372 := gA ((by rw [hg]; exact (below_size (gB HB)) : w.heap.size ≤ gb372)); have GE372 := gA ((by rw [hg]; exact (below_size (gB HB)) : w.heap.size ≤ gb372)); replace HB := gA (below_step (gB HB) hb); have NB349_372 := gA ((by rw [hg]; exact Nat.ne_of_lt (blk_lt (gK BK349)) : gb349 ≠ gb372)); have NB372_349 := gA ((by rw [hg]; exact Nat.ne_of_gt (blk_lt (gK BK349)) : gb372 ≠ gb349)); replace BK349 := gA (blk_below (gK BK349) hb); have NB350_372 := gA ((by rw [hg]; exact Nat.ne_of_lt (blk_lt (gK BK350)) : gb350 ≠ gb372)); have NB372_350 := gA ((by rw [hg]; exact Nat.ne_of_gt (blk_lt (gK BK350)) : gb372 ≠ gb350)); replace BK350 := gA (blk_below (gK BK350) hb); have NB363_372 := gA ((by rw [hg]; exact Nat.ne_of_lt (blk_lt (gK BK363)) : gb363 ≠ gb372)); have NB372_363 := gA ((by rw [hg]; exact Nat.ne_of_gt (blk_lt (gK BK363)) : gb372 ≠ gb363)); replace BK363 := gA (blk_below (gK BK363) hb); clear hb hbox hg
          refine hK.out _ _ ⟨(blk_cell BK349.out 0).trans rfl, (blk_cell BK349.out 1).trans rfl, (blk_cell BK350.out 0).trans rfl, (blk_cell BK350.out 1).trans rfl, ((HB.out.cell (World.block_lt_of_cell? w _ hw364_0)).trans hw364_0), ((HB.out.cell (World.block_lt_of_cell? w _ hw364_1)).trans hw364_1), ((HB.out.cell (World.block_lt_of_cell? w _ hw364_2)).trans hw364_2), ((HB.out.cell (World.block_lt_of_cell? w _ hw365_0)).trans hw365_0), ((HB.out.cell (World.block_lt_of_cell? w _ hw365_1)).trans hw365_1), ((HB.out.cell (World.block_lt_of_cell? w _ hw365_2)).trans hw365_2)⟩ (fun hHeld => ?_); clear hK K
          refine norm_ (a' := ?_) ?_ ?_; rotate_left
          ·show Act.put _ (some 13) _ = _
           simp only [Act.put, List.setIfInBounds_toArray, List.set_cons_zero, List.set_cons_succ, i64_w, i32_w]; rfl
          refine one_ (i := 11) (N := some 91) #[true, true, true, true, true, true, true, true, true, true, true, true, false, false, false, true, false, false] rfl rfl (one_of HT_.out (by kernel_rfl)) (by decide) (fun K hK => ?_)
          refine goes_ Try.func23 (by kernel_rfl) rfl #[.int .i64 a0, .agg #[.int .i64 ((rd_T43 l1_1 (ji70)).f0), .int .i64 ((rd_T43 l1_1 (ji70)).f1), .slice A364_2 ((rd_T43 l1_1 (ji70)).f2).length c364_2], .agg #[.int .i64 ((rd_T43 l2_1 (ji73)).f0), .int .i64 ((rd_T43 l2_1 (ji73)).f1), .slice A365_2 ((rd_T43 l2_1 (ji73)).f2).length c365_2]] (by rfl) rfl rfl (by (try simp only [List.map_toArray, List.map_cons, List.map_nil]); first | done | (simp only [hji70, hji73]; rfl) | rfl | (simp only [List.length_drop, List.length_take]; rfl)) ?_
          with_reducible refine (triglyphref04_Cell.calls kj5 a0 ((rd_T43 l1_1 (ji70)).f0) ((rd_T43 l1_1 (ji70)).f1) _ _ ((rd_T43 l1_1 (ji70)).f2) ((rd_T43 l2_1 (ji73)).f0) ((rd_T43 l2_1 (ji73)).f1) _ _ ((rd_T43 l2_1 (ji73)).f2) t366 t367 t368 t371 _ ?side1 ?side2 ?side3 ?side4 A76.out).mono ?_
          (case side1 => exact gC HR364_2 HB)
          (case side2 => exact HC364_2.out)
          (case side3 => exact gC HR365_2 HB)
          (case side4 => exact HC365_2.out)
          rintro e w99 ⟨v369, rfl, ho0, hb⟩
          refine ⟨_, rfl, ?_⟩
          have HO370 := gA (Kd.R_lower (Kd.R_newB (Kd.R_newB (Kd.R_newB (Kd.R_newB (Kd.R_new' (Kd.R_new' ho0 (Kd.R_lt (gR HO358))) (Kd.R_lt (gR HO361))) (gK BK349)) (gK BK350)) (gK BK363)) (gK BK372)) (below_size (gB HB))); replace HO358 := gA (Kd.R_below (gR HO358) hb); replace HO361 := gA (Kd.R_elder' (gR HO361) (Kd.R_base ho0) hb); replace BK349 := gA (blk_below (gK BK349) hb); replace BK350 := gA (blk_below (gK BK350) hb); replace BK363 := gA (blk_below (gK BK363) hb); replace BK372 := gA (blk_below (gK BK372) hb); replace HB := gA (below_step (gB HB) hb); (try clear hb); (try clear ho0)
          refine hK.out _ _ ⟨(blk_cell BK349.out 0).trans rfl, (blk_cell BK349.out 1).trans rfl, (blk_cell BK350.out 0).trans rfl, (blk_cell BK350.out 1).trans rfl, ((HB.out.cell (World.block_lt_of_cell? w _ hw364_0)).trans hw364_0), ((HB.out.cell (World.block_lt_of_cell? w _ hw364_1)).trans hw364_1), ((HB.out.cell (World.block_lt_of_cell? w _ hw364_2)).trans hw364_2), ((HB.out.cell (World.block_lt_of_cell? w _ hw365_0)).trans hw365_0), ((HB.out.cell (World.block_lt_of_cell? w _ hw365_1)).trans hw365_1), ((HB.out.cell (World.block_lt_of_cell? w _ hw365_2)).trans hw365_2)⟩ (fun hHeld => ?_); clear hK K
          refine norm_ (a' := ?_) ?_ ?_; rotate_left
          ·show Act.put _ (some 91) _ = _
           simp only [Act.put, List.setIfInBounds_toArray, List.set_cons_zero, List.set_cons_succ, i64_w, i32_w]; rfl
          refine pure_ (i := 12) (N := some 79) (v := ?_) (a' := ?_) #[true, true, true, true, true, true, true, true, true, true, true, true, true, false, false, true, false, false] rfl rfl (any_of HT_.out (by kernel_rfl)) (fun _ _ _ h => h) (Or.inl ⟨by rfl, ?_⟩) ?_ ?_; rotate_left
          ·intro w'; go_simp; with_reducible rfl
          rotate_left
          ·simp only [Act.put, List.setIfInBounds_toArray, List.set_cons_zero, List.set_cons_succ, i64_w, i32_w]; rfl
          refine pure_ (i := 13) (N := some 92) (v := ?_) (a' := ?_) #[true, true, true, true, true, true, true, true, true, true, true, true, true, true, false, true, false, false] rfl rfl (any_of HT_.out (by kernel_rfl)) (fun _ _ _ h => h) (Or.inl ⟨by rfl, ?_⟩) ?_ ?_; rotate_left
          ·intro w'; go_simp; with_reducible rfl
          rotate_left
          ·simp only [Act.put, List.setIfInBounds_toArray, List.set_cons_zero, List.set_cons_succ, i64_w, i32_w]; rfl
          refine pure_ (i := 14) (N := some 93) (v := ?_) (a' := ?_) #[true, true, true, true, true, true, true, true, true, true, true, true, true, true, true, true, false, false] rfl rfl (any_of HT_.out (by kernel_rfl)) (fun _ _ _ h => h) (Or.inl ⟨by rfl, ?_⟩) ?_ ?_; rotate_left
          ·intro w'; go_simp; with_reducible rfl
          rotate_left
          ·simp only [Act.put, List.setIfInBounds_toArray, List.set_cons_zero, List.set_cons_succ, i64_w, i32_w]; rfl
          exact norm_ (by simp only [putAll, Act.put, List.setIfInBounds_toArray, List.set_cons_zero, List.set_cons_succ]) (hCont (v369, gb372) _ ⟨hHeld, (gR HO358), (Kd.R_mono HO361.out (fun _ hk => by first | exact ⟨hk.1.1.1, ⟨hk.2, ⟨hk.1.1.2.1, ⟨hk.1.1.2.2.1, ⟨hk.1.1.2.2.2, hk.1.2⟩⟩⟩⟩⟩ | (simp_all; done))), (Kd.R_mono HO370.out (fun _ hk => ⟨hk.1.1.1.1.1.2, ⟨hk.1.1.1.1.2, ⟨hk.1.1.1.2, ⟨hk.1.1.2, ⟨hk.1.2, hk.2⟩⟩⟩⟩⟩)), (gK BK349), (gK BK350), (gK BK363), (gK BK372), GW372.out, GE372.out, NB349_372.out, NB372_349.out, NB350_372.out, NB372_350.out, NB363_372.out, NB372_363.out, (gB HB)⟩)
        rintro ⟨v369, gb372⟩ w100 ⟨hS_, h0_, h1_, h2_, h3_, h4_, h5_, h6_, h7_, h8_, h9_, h10_, h11_, h12_, h13_, h14_, h15_⟩
        have n0_ : Aside0 (Kd.R (Kd.int .i64) 3 w100 w.heap.size (fun _ => True) (.slice Ao90 t356.length co90) t356) := ⟨h0_⟩
        have n1_ : Aside0 (Kd.R k43 43 w100 w.heap.size (fun k_ => some k_ ≠ (.slice Ao90 t356.length co90 : Value).ownBlock ∧ some k_ ≠ (v369 : Value).ownBlock ∧ k_ ≠ gb349 ∧ k_ ≠ gb350 ∧ k_ ≠ gb363 ∧ k_ ≠ gb372) (.slice Ao94 t359.length co94) t359) := ⟨h1_⟩
        have n2_ : Aside0 (Kd.R k25 25 w100 w.heap.size (fun k_ => some k_ ≠ (.slice Ao90 t356.length co90 : Value).ownBlock ∧ some k_ ≠ (.slice Ao94 t359.length co94 : Value).ownBlock ∧ k_ ≠ gb349 ∧ k_ ≠ gb350 ∧ k_ ≠ gb363 ∧ k_ ≠ gb372) v369 t368) := ⟨h2_⟩
        have n3_ : Aside0 (w100.heap[gb349]? = some (.cells #[.slice A1_0 l1_0.length c1_0, .slice (some ad364) l1_1.length c1_1] 25 (0, 0))) := ⟨h3_⟩
        have n4_ : Aside0 (w100.heap[gb350]? = some (.cells #[.slice A2_0 l2_0.length c2_0, .slice (some ad365) l2_1.length c2_1] 25 (0, 0))) := ⟨h4_⟩
        have n5_ : Aside0 (w100.heap[gb363]? = some (.cells #[.slice Ao90 t356.length co90, .slice Ao94 t359.length co94] 25 (0, 0))) := ⟨h5_⟩
        have n6_ : Aside0 (w100.heap[gb372]? = some (.cells #[.int .i64 0, .int .i64 0, .slice none 0 0] 43 (0, 0))) := ⟨h6_⟩
        have n7_ : Aside0 (w.heap.size ≤ gb372) := ⟨h7_⟩
        have n8_ : Aside0 (w.heap.size ≤ gb372) := ⟨h8_⟩
        have n9_ : Aside0 (gb349 ≠ gb372) := ⟨h9_⟩
        have n10_ : Aside0 (gb372 ≠ gb349) := ⟨h10_⟩
        have n11_ : Aside0 (gb350 ≠ gb372) := ⟨h11_⟩
        have n12_ : Aside0 (gb372 ≠ gb350) := ⟨h12_⟩
        have n13_ : Aside0 (gb363 ≠ gb372) := ⟨h13_⟩
        have n14_ : Aside0 (gb372 ≠ gb363) := ⟨h14_⟩
        have n15_ : Aside0 (Below w.heap.size w w100) := ⟨h15_⟩
        clear HO358 HO361 BK349 BK350 BK363 HB h0_ h1_ h2_ h3_ h4_ h5_ h6_ h7_ h8_ h9_ h10_ h11_ h12_ h13_ h14_ h15_; have HO358 := n0_; have HO361 := n1_; have HO370 := n2_; have BK349 := n3_; have BK350 := n4_; have BK363 := n5_; have BK372 := n6_; have GW372 := n7_; have GE372 := n8_; have NB349_372 := n9_; have NB372_349 := n10_; have NB350_372 := n11_; have NB372_350 := n12_; have NB363_372 := n13_; have NB372_363 := n14_; have HB := n15_; clear n0_ n1_ n2_ n3_ n4_ n5_ n6_ n7_ n8_ n9_ n10_ n11_ n12_ n13_ n14_ n15_
        have hHeld : w100.cell? ⟨gb349, 0, none⟩ = some (.slice A1_0 l1_0.length c1_0) ∧ w100.cell? ⟨gb349, 1, none⟩ = some (.slice (some ad364) l1_1.length c1_1) ∧ w100.cell? ⟨gb350, 0, none⟩ = some (.slice A2_0 l2_0.length c2_0) ∧ w100.cell? ⟨gb350, 1, none⟩ = some (.slice (some ad365) l2_1.length c2_1) ∧ w100.cell? (ad364.add (((ji70)).toNat * 3)) = some (.int .i64 ((rd_T43 l1_1 (ji70)).f0)) ∧ w100.cell? ⟨(ad364.add (((ji70)).toNat * 3)).block, (ad364.add (((ji70)).toNat * 3)).off + 1, none⟩ = some (.int .i64 ((rd_T43 l1_1 (ji70)).f1)) ∧ w100.cell? ⟨(ad364.add (((ji70)).toNat * 3)).block, (ad364.add (((ji70)).toNat * 3)).off + 2, none⟩ = some (.slice A364_2 ((rd_T43 l1_1 (ji70)).f2).length c364_2) ∧ w100.cell? (ad365.add (((ji73)).toNat * 3)) = some (.int .i64 ((rd_T43 l2_1 (ji73)).f0)) ∧ w100.cell? ⟨(ad365.add (((ji73)).toNat * 3)).block, (ad365.add (((ji73)).toNat * 3)).off + 1, none⟩ = some (.int .i64 ((rd_T43 l2_1 (ji73)).f1)) ∧ w100.cell? ⟨(ad365.add (((ji73)).toNat * 3)).block, (ad365.add (((ji73)).toNat * 3)).off + 2, none⟩ = some (.slice A365_2 ((rd_T43 l2_1 (ji73)).f2).length c365_2) := hS_
        obtain ⟨Ao103, co103, eo103⟩ := Kd.R_slice HO370.out
        (first | subst eo103 | (injection eo103 with f1_ f2_ f3_; have f4_ := f1_.symm; have f5_ := f3_.symm; clear f1_ f2_ f3_; subst f4_; subst f5_))
        refine norm_ (a' := ?_) ?_ ?_; rotate_left
        ·simp only [putAll, Act.put, List.setIfInBounds_toArray, List.set_cons_zero, List.set_cons_succ]; rfl
        refine one_ (i := 16) (N := none) #[true, true, true, true, true, true, true, true, true, true, true, true, true, true, true, true, true, false] rfl rfl (one_of HT_.out (by kernel_rfl)) (by decide) (fun K hK => ?_)
        have hs101 := gz BK372 0 rfl
        have hfs101 := blk_frozen BK372.out 0
        have hns101_0 := NB349_372.out
        have hns101_1 := NB350_372.out
        have hns101_2 := NB363_372.out
        have hms101_0 := NB372_349.out
        have hms101_1 := NB372_350.out
        have hms101_2 := NB372_363.out
        have hs102 := gz BK372 1 rfl
        have hfs102 := blk_frozen BK372.out 1
        have hns102_0 := NB349_372.out
        have hns102_1 := NB350_372.out
        have hns102_2 := NB363_372.out
        have hms102_0 := NB372_349.out
        have hms102_1 := NB372_350.out
        have hms102_2 := NB372_363.out
        have hs104 := gz BK372 2 rfl
        have hfs104 := blk_frozen BK372.out 2
        have hns104_0 := NB349_372.out
        have hns104_1 := NB350_372.out
        have hns104_2 := NB363_372.out
        have hms104_0 := NB372_349.out
        have hms104_1 := NB372_350.out
        have hms104_2 := NB372_363.out
        refine skip_ (w1 := ?_) (by rfl) rfl ?_ ?_; rotate_left
        ·go_simp; rfl
        refine hK.out _ _ ⟨((cell_far (p := ⟨gb372, _, none⟩) NB349_372.out _).trans (((cell_far (p := ⟨gb372, _, none⟩) NB349_372.out _).trans (((cell_far (p := ⟨gb372, _, none⟩) NB349_372.out _).trans (hHeld.1)))))), ((cell_far (p := ⟨gb372, _, none⟩) NB349_372.out _).trans (((cell_far (p := ⟨gb372, _, none⟩) NB349_372.out _).trans (((cell_far (p := ⟨gb372, _, none⟩) NB349_372.out _).trans (hHeld.2.1)))))), ((cell_far (p := ⟨gb372, _, none⟩) NB350_372.out _).trans (((cell_far (p := ⟨gb372, _, none⟩) NB350_372.out _).trans (((cell_far (p := ⟨gb372, _, none⟩) NB350_372.out _).trans (hHeld.2.2.1)))))), ((cell_far (p := ⟨gb372, _, none⟩) NB350_372.out _).trans (((cell_far (p := ⟨gb372, _, none⟩) NB350_372.out _).trans (((cell_far (p := ⟨gb372, _, none⟩) NB350_372.out _).trans (hHeld.2.2.2.1)))))), ((cell_far (p := ⟨gb372, _, none⟩) (by first | exact Nat.ne_of_lt (Nat.lt_of_lt_of_le (by have := World.block_lt_of_cell? _ _ hw364_0; first | rwa [add_block] at this | exact this) GW372.out) | (rw [add_block]; exact Nat.ne_of_lt (Nat.lt_of_lt_of_le (by have := World.block_lt_of_cell? _ _ hw364_0; first | rwa [add_block] at this | exact this) GW372.out)) | (show (Addr.add _ _).block ≠ _; rw [add_block]; exact Nat.ne_of_lt (Nat.lt_of_lt_of_le (by have := World.block_lt_of_cell? _ _ hw364_0; first | rwa [add_block] at this | exact this) GW372.out)) | (dsimp only; exact Nat.ne_of_lt (Nat.lt_of_lt_of_le (by have := World.block_lt_of_cell? _ _ hw364_0; first | rwa [add_block] at this | exact this) GW372.out))) _).trans (((cell_far (p := ⟨gb372, _, none⟩) (by first | exact Nat.ne_of_lt (Nat.lt_of_lt_of_le (by have := World.block_lt_of_cell? _ _ hw364_0; first | rwa [add_block] at this | exact this) GW372.out) | (rw [add_block]; exact Nat.ne_of_lt (Nat.lt_of_lt_of_le (by have := World.block_lt_of_cell? _ _ hw364_0; first | rwa [add_block] at this | exact this) GW372.out)) | (show (Addr.add _ _).block ≠ _; rw [add_block]; exact Nat.ne_of_lt (Nat.lt_of_lt_of_le (by have := World.block_lt_of_cell? _ _ hw364_0; first | rwa [add_block] at this | exact this) GW372.out)) | (dsimp only; exact Nat.ne_of_lt (Nat.lt_of_lt_of_le (by have := World.block_lt_of_cell? _ _ hw364_0; first | rwa [add_block] at this | exact this) GW372.out))) _).trans (((cell_far (p := ⟨gb372, _, none⟩) (by first | exact Nat.ne_of_lt (Nat.lt_of_lt_of_le (by have := World.block_lt_of_cell? _ _ hw364_0; first | rwa [add_block] at this | exact this) GW372.out) | (rw [add_block]; exact Nat.ne_of_lt (Nat.lt_of_lt_of_le (by have := World.block_lt_of_cell? _ _ hw364_0; first | rwa [add_block] at this | exact this) GW372.out)) | (show (Addr.add _ _).block ≠ _; rw [add_block]; exact Nat.ne_of_lt (Nat.lt_of_lt_of_le (by have := World.block_lt_of_cell? _ _ hw364_0; first | rwa [add_block] at this | exact this) GW372.out)) | (dsimp only; exact Nat.ne_of_lt (Nat.lt_of_lt_of_le (by have := World.block_lt_of_cell? _ _ hw364_0; first | rwa [add_block] at this | exact this) GW372.out))) _).trans (hHeld.2.2.2.2.1)))))), ((cell_far (p := ⟨gb372, _, none⟩) (by first | exact Nat.ne_of_lt (Nat.lt_of_lt_of_le (by have := World.block_lt_of_cell? _ _ hw364_1; first | rwa [add_block] at this | exact this) GW372.out) | (rw [add_block]; exact Nat.ne_of_lt (Nat.lt_of_lt_of_le (by have := World.block_lt_of_cell? _ _ hw364_1; first | rwa [add_block] at this | exact this) GW372.out)) | (show (Addr.add _ _).block ≠ _; rw [add_block]; exact Nat.ne_of_lt (Nat.lt_of_lt_of_le (by have := World.block_lt_of_cell? _ _ hw364_1; first | rwa [add_block] at this | exact this) GW372.out)) | (dsimp only; exact Nat.ne_of_lt (Nat.lt_of_lt_of_le (by have := World.block_lt_of_cell? _ _ hw364_1; first | rwa [add_block] at this | exact this) GW372.out))) _).trans (((cell_far (p := ⟨gb372, _, none⟩) (by first | exact Nat.ne_of_lt (Nat.lt_of_lt_of_le (by have := World.block_lt_of_cell? _ _ hw364_1; first | rwa [add_block] at this | exact this) GW372.out) | (rw [add_block]; exact Nat.ne_of_lt (Nat.lt_of_lt_of_le (by have := World.block_lt_of_cell? _ _ hw364_1; first | rwa [add_block] at this | exact this) GW372.out)) | (show (Addr.add _ _).block ≠ _; rw [add_block]; exact Nat.ne_of_lt (Nat.lt_of_lt_of_le (by have := World.block_lt_of_cell? _ _ hw364_1; first | rwa [add_block] at this | exact this) GW372.out)) | (dsimp only; exact Nat.ne_of_lt (Nat.lt_of_lt_of_le (by have := World.block_lt_of_cell? _ _ hw364_1; first | rwa [add_block] at this | exact this) GW372.out))) _).trans (((cell_far (p := ⟨gb372, _, none⟩) (by first | exact Nat.ne_of_lt (Nat.lt_of_lt_of_le (by have := World.block_lt_of_cell? _ _ hw364_1; first | rwa [add_block] at this | exact this) GW372.out) | (rw [add_block]; exact Nat.ne_of_lt (Nat.lt_of_lt_of_le (by have := World.block_lt_of_cell? _ _ hw364_1; first | rwa [add_block] at this | exact this) GW372.out)) | (show (Addr.add _ _).block ≠ _; rw [add_block]; exact Nat.ne_of_lt (Nat.lt_of_lt_of_le (by have := World.block_lt_of_cell? _ _ hw364_1; first | rwa [add_block] at this | exact this) GW372.out)) | (dsimp only; exact Nat.ne_of_lt (Nat.lt_of_lt_of_le (by have := World.block_lt_of_cell? _ _ hw364_1; first | rwa [add_block] at this | exact this) GW372.out))) _).trans (hHeld.2.2.2.2.2.1)))))), ((cell_far (p := ⟨gb372, _, none⟩) (by first | exact Nat.ne_of_lt (Nat.lt_of_lt_of_le (by have := World.block_lt_of_cell? _ _ hw364_2; first | rwa [add_block] at this | exact this) GW372.out) | (rw [add_block]; exact Nat.ne_of_lt (Nat.lt_of_lt_of_le (by have := World.block_lt_of_cell? _ _ hw364_2; first | rwa [add_block] at this | exact this) GW372.out)) | (show (Addr.add _ _).block ≠ _; rw [add_block]; exact Nat.ne_of_lt (Nat.lt_of_lt_of_le (by have := World.block_lt_of_cell? _ _ hw364_2; first | rwa [add_block] at this | exact this) GW372.out)) | (dsimp only; exact Nat.ne_of_lt (Nat.lt_of_lt_of_le (by have := World.block_lt_of_cell? _ _ hw364_2; first | rwa [add_block] at this | exact this) GW372.out))) _).trans (((cell_far (p := ⟨gb372, _, none⟩) (by first | exact Nat.ne_of_lt (Nat.lt_of_lt_of_le (by have := World.block_lt_of_cell? _ _ hw364_2; first | rwa [add_block] at this | exact this) GW372.out) | (rw [add_block]; exact Nat.ne_of_lt (Nat.lt_of_lt_of_le (by have := World.block_lt_of_cell? _ _ hw364_2; first | rwa [add_block] at this | exact this) GW372.out)) | (show (Addr.add _ _).block ≠ _; rw [add_block]; exact Nat.ne_of_lt (Nat.lt_of_lt_of_le (by have := World.block_lt_of_cell? _ _ hw364_2; first | rwa [add_block] at this | exact this) GW372.out)) | (dsimp only; exact Nat.ne_of_lt (Nat.lt_of_lt_of_le (by have := World.block_lt_of_cell? _ _ hw364_2; first | rwa [add_block] at this | exact this) GW372.out))) _).trans (((cell_far (p := ⟨gb372, _, none⟩) (by first | exact Nat.ne_of_lt (Nat.lt_of_lt_of_le (by have := World.block_lt_of_cell? _ _ hw364_2; first | rwa [add_block] at this | exact this) GW372.out) | (rw [add_block]; exact Nat.ne_of_lt (Nat.lt_of_lt_of_le (by have := World.block_lt_of_cell? _ _ hw364_2; first | rwa [add_block] at this | exact this) GW372.out)) | (show (Addr.add _ _).block ≠ _; rw [add_block]; exact Nat.ne_of_lt (Nat.lt_of_lt_of_le (by have := World.block_lt_of_cell? _ _ hw364_2; first | rwa [add_block] at this | exact this) GW372.out)) | (dsimp only; exact Nat.ne_of_lt (Nat.lt_of_lt_of_le (by have := World.block_lt_of_cell? _ _ hw364_2; first | rwa [add_block] at this | exact this) GW372.out))) _).trans (hHeld.2.2.2.2.2.2.1)))))), ((cell_far (p := ⟨gb372, _, none⟩) (by first | exact Nat.ne_of_lt (Nat.lt_of_lt_of_le (by have := World.block_lt_of_cell? _ _ hw365_0; first | rwa [add_block] at this | exact this) GW372.out) | (rw [add_block]; exact Nat.ne_of_lt (Nat.lt_of_lt_of_le (by have := World.block_lt_of_cell? _ _ hw365_0; first | rwa [add_block] at this | exact this) GW372.out)) | (show (Addr.add _ _).block ≠ _; rw [add_block]; exact Nat.ne_of_lt (Nat.lt_of_lt_of_le (by have := World.block_lt_of_cell? _ _ hw365_0; first | rwa [add_block] at this | exact this) GW372.out)) | (dsimp only; exact Nat.ne_of_lt (Nat.lt_of_lt_of_le (by have := World.block_lt_of_cell? _ _ hw365_0; first | rwa [add_block] at this | exact this) GW372.out))) _).trans (((cell_far (p := ⟨gb372, _, none⟩) (by first | exact Nat.ne_of_lt (Nat.lt_of_lt_of_le (by have := World.block_lt_of_cell? _ _ hw365_0; first | rwa [add_block] at this | exact this) GW372.out) | (rw [add_block]; exact Nat.ne_of_lt (Nat.lt_of_lt_of_le (by have := World.block_lt_of_cell? _ _ hw365_0; first | rwa [add_block] at this | exact this) GW372.out)) | (show (Addr.add _ _).block ≠ _; rw [add_block]; exact Nat.ne_of_lt (Nat.lt_of_lt_of_le (by have := World.block_lt_of_cell? _ _ hw365_0; first | rwa [add_block] at this | exact this) GW372.out)) | (dsimp only; exact Nat.ne_of_lt (Nat.lt_of_lt_of_le (by have := World.block_lt_of_cell? _ _ hw365_0; first | rwa [add_block] at this | exact this) GW372.out))) _).trans (((cell_far (p := ⟨gb372, _, none⟩) (by first | exact Nat.ne_of_lt (Nat.lt_of_lt_of_le (by have := World.block_lt_of_cell? _ _ hw365_0; first | rwa [add_block] at this | exact this) GW372.out) | (rw [add_block]; exact Nat.ne_of_lt (Nat.lt_of_lt_of_le (by have := World.block_lt_of_cell? _ _ hw365_0; first | rwa [add_block] at this | exact this) GW372.out)) | (show (Addr.add _ _).block ≠ _; rw [add_block]; exact Nat.ne_of_lt (Nat.lt_of_lt_of_le (by have := World.block_lt_of_cell? _ _ hw365_0; first | rwa [add_block] at this | exact this) GW372.out)) | (dsimp only; exact Nat.ne_of_lt (Nat.lt_of_lt_of_le (by have := World.block_lt_of_cell? _ _ hw365_0; first | rwa [add_block] at this | exact this) GW372.out))) _).trans (hHeld.2.2.2.2.2.2.2.1)))))), ((cell_far (p := ⟨gb372, _, none⟩) (by first | exact Nat.ne_of_lt (Nat.lt_of_lt_of_le (by have := World.block_lt_of_cell? _ _ hw365_1; first | rwa [add_block] at this | exact this) GW372.out) | (rw [add_block]; exact Nat.ne_of_lt (Nat.lt_of_lt_of_le (by have := World.block_lt_of_cell? _ _ hw365_1; first | rwa [add_block] at this | exact this) GW372.out)) | (show (Addr.add _ _).block ≠ _; rw [add_block]; exact Nat.ne_of_lt (Nat.lt_of_lt_of_le (by have := World.block_lt_of_cell? _ _ hw365_1; first | rwa [add_block] at this | exact this) GW372.out)) | (dsimp only; exact Nat.ne_of_lt (Nat.lt_of_lt_of_le (by have := World.block_lt_of_cell? _ _ hw365_1; first | rwa [add_block] at this | exact this) GW372.out))) _).trans (((cell_far (p := ⟨gb372, _, none⟩) (by first | exact Nat.ne_of_lt (Nat.lt_of_lt_of_le (by have := World.block_lt_of_cell? _ _ hw365_1; first | rwa [add_block] at this | exact this) GW372.out) | (rw [add_block]; exact Nat.ne_of_lt (Nat.lt_of_lt_of_le (by have := World.block_lt_of_cell? _ _ hw365_1; first | rwa [add_block] at this | exact this) GW372.out)) | (show (Addr.add _ _).block ≠ _; rw [add_block]; exact Nat.ne_of_lt (Nat.lt_of_lt_of_le (by have := World.block_lt_of_cell? _ _ hw365_1; first | rwa [add_block] at this | exact this) GW372.out)) | (dsimp only; exact Nat.ne_of_lt (Nat.lt_of_lt_of_le (by have := World.block_lt_of_cell? _ _ hw365_1; first | rwa [add_block] at this | exact this) GW372.out))) _).trans (((cell_far (p := ⟨gb372, _, none⟩) (by first | exact Nat.ne_of_lt (Nat.lt_of_lt_of_le (by have := World.block_lt_of_cell? _ _ hw365_1; first | rwa [add_block] at this | exact this) GW372.out) | (rw [add_block]; exact Nat.ne_of_lt (Nat.lt_of_lt_of_le (by have := World.block_lt_of_cell? _ _ hw365_1; first | rwa [add_block] at this | exact this) GW372.out)) | (show (Addr.add _ _).block ≠ _; rw [add_block]; exact Nat.ne_of_lt (Nat.lt_of_lt_of_le (by have := World.block_lt_of_cell? _ _ hw365_1; first | rwa [add_block] at this | exact this) GW372.out)) | (dsimp only; exact Nat.ne_of_lt (Nat.lt_of_lt_of_le (by have := World.block_lt_of_cell? _ _ hw365_1; first | rwa [add_block] at this | exact this) GW372.out))) _).trans (hHeld.2.2.2.2.2.2.2.2.1)))))), ((cell_far (p := ⟨gb372, _, none⟩) (by first | exact Nat.ne_of_lt (Nat.lt_of_lt_of_le (by have := World.block_lt_of_cell? _ _ hw365_2; first | rwa [add_block] at this | exact this) GW372.out) | (rw [add_block]; exact Nat.ne_of_lt (Nat.lt_of_lt_of_le (by have := World.block_lt_of_cell? _ _ hw365_2; first | rwa [add_block] at this | exact this) GW372.out)) | (show (Addr.add _ _).block ≠ _; rw [add_block]; exact Nat.ne_of_lt (Nat.lt_of_lt_of_le (by have := World.block_lt_of_cell? _ _ hw365_2; first | rwa [add_block] at this | exact this) GW372.out)) | (dsimp only; exact Nat.ne_of_lt (Nat.lt_of_lt_of_le (by have := World.block_lt_of_cell? _ _ hw365_2; first | rwa [add_block] at this | exact this) GW372.out))) _).trans (((cell_far (p := ⟨gb372, _, none⟩) (by first | exact Nat.ne_of_lt (Nat.lt_of_lt_of_le (by have := World.block_lt_of_cell? _ _ hw365_2; first | rwa [add_block] at this | exact this) GW372.out) | (rw [add_block]; exact Nat.ne_of_lt (Nat.lt_of_lt_of_le (by have := World.block_lt_of_cell? _ _ hw365_2; first | rwa [add_block] at this | exact this) GW372.out)) | (show (Addr.add _ _).block ≠ _; rw [add_block]; exact Nat.ne_of_lt (Nat.lt_of_lt_of_le (by have := World.block_lt_of_cell? _ _ hw365_2; first | rwa [add_block] at this | exact this) GW372.out)) | (dsimp only; exact Nat.ne_of_lt (Nat.lt_of_lt_of_le (by have := World.block_lt_of_cell? _ _ hw365_2; first | rwa [add_block] at this | exact this) GW372.out))) _).trans (((cell_far (p := ⟨gb372, _, none⟩) (by first | exact Nat.ne_of_lt (Nat.lt_of_lt_of_le (by have := World.block_lt_of_cell? _ _ hw365_2; first | rwa [add_block] at this | exact this) GW372.out) | (rw [add_block]; exact Nat.ne_of_lt (Nat.lt_of_lt_of_le (by have := World.block_lt_of_cell? _ _ hw365_2; first | rwa [add_block] at this | exact this) GW372.out)) | (show (Addr.add _ _).block ≠ _; rw [add_block]; exact Nat.ne_of_lt (Nat.lt_of_lt_of_le (by have := World.block_lt_of_cell? _ _ hw365_2; first | rwa [add_block] at this | exact this) GW372.out)) | (dsimp only; exact Nat.ne_of_lt (Nat.lt_of_lt_of_le (by have := World.block_lt_of_cell? _ _ hw365_2; first | rwa [add_block] at this | exact this) GW372.out))) _).trans (hHeld.2.2.2.2.2.2.2.2.2))))))⟩ (fun hHeld => ?_)
        clear hK K
        refine pure_ (i := 17) (N := some 14) (v := ?_) (a' := ?_) #[true, true, true, true, true, true, true, true, true, true, true, true, true, true, true, true, true, true] rfl rfl (any_of HT_.out (by kernel_rfl)) (fun _ _ _ h => h) (Or.inl ⟨by rfl, ?_⟩) ?_ ?_; rotate_left
        ·intro w'; go_simp; with_reducible rfl
        rotate_left
        ·simp only [Act.put, List.setIfInBounds_toArray, List.set_cons_zero, List.set_cons_succ, i64_w, i32_w]; rfl
        refine done_ (done_of HT_.out (by kernel_rfl)) ?_
        try go_wp2
        have n0_ : Aside0 (Kd.R (Kd.int .i64) 3 (((w100.setCell ⟨gb372, 0, none⟩ (.int .i64 t366)).setCell ⟨gb372, 1, none⟩ (.int .i64 t367)).setCell ⟨gb372, 2, none⟩ (.slice Ao103 t368.length co103)) w.heap.size (fun _ => True) (.slice Ao90 t356.length co90) t356) := ⟨Kd.R_mono (Kd.R_far (p := ⟨gb372, 2, none⟩) (Kd.R_far (p := ⟨gb372, 1, none⟩) (Kd.R_far (p := ⟨gb372, 0, none⟩) (Kd.R_types HO358.out BK372.out (by decide)) (fun _ hk => hk.2) (.int .i64 t366)) (fun _ hk => hk.2) (.int .i64 t367)) (fun _ hk => hk.2) (.slice Ao103 t368.length co103)) (fun _ hk => trivial)⟩
        have n1_ : Aside0 (Kd.R k43 43 (((w100.setCell ⟨gb372, 0, none⟩ (.int .i64 t366)).setCell ⟨gb372, 1, none⟩ (.int .i64 t367)).setCell ⟨gb372, 2, none⟩ (.slice Ao103 t368.length co103)) w.heap.size (fun k_ => some k_ ≠ (.slice Ao90 t356.length co90 : Value).ownBlock ∧ some k_ ≠ (.slice Ao103 t368.length co103 : Value).ownBlock ∧ k_ ≠ gb349 ∧ k_ ≠ gb350 ∧ k_ ≠ gb363 ∧ k_ ≠ gb372) (.slice Ao94 t359.length co94) t359) := ⟨Kd.R_mono (Kd.R_far (p := ⟨gb372, 2, none⟩) (Kd.R_far (p := ⟨gb372, 1, none⟩) (Kd.R_far (p := ⟨gb372, 0, none⟩) (Kd.R_mono HO361.out (fun k_ hk => (⟨hk, hk.2.2.2.2.2⟩ : _ ∧ k_ ≠ gb372))) (fun _ hk => hk.2) (.int .i64 t366)) (fun _ hk => hk.2) (.int .i64 t367)) (fun _ hk => hk.2) (.slice Ao103 t368.length co103)) (fun _ hk => ⟨hk.1.1, ⟨hk.1.2.1, ⟨hk.1.2.2.1, ⟨hk.1.2.2.2.1, ⟨hk.1.2.2.2.2.1, hk.1.2.2.2.2.2⟩⟩⟩⟩⟩)⟩
        have n2_ : Aside0 (Kd.R k25 25 (((w100.setCell ⟨gb372, 0, none⟩ (.int .i64 t366)).setCell ⟨gb372, 1, none⟩ (.int .i64 t367)).setCell ⟨gb372, 2, none⟩ (.slice Ao103 t368.length co103)) w.heap.size (fun k_ => some k_ ≠ (.slice Ao90 t356.length co90 : Value).ownBlock ∧ some k_ ≠ (.slice Ao94 t359.length co94 : Value).ownBlock ∧ k_ ≠ gb349 ∧ k_ ≠ gb350 ∧ k_ ≠ gb363 ∧ k_ ≠ gb372) (.slice Ao103 t368.length co103) t368) := ⟨Kd.R_mono (Kd.R_far (p := ⟨gb372, 2, none⟩) (Kd.R_far (p := ⟨gb372, 1, none⟩) (Kd.R_far (p := ⟨gb372, 0, none⟩) (Kd.R_mono HO370.out (fun k_ hk => (⟨hk, hk.2.2.2.2.2⟩ : _ ∧ k_ ≠ gb372))) (fun _ hk => hk.2) (.int .i64 t366)) (fun _ hk => hk.2) (.int .i64 t367)) (fun _ hk => hk.2) (.slice Ao103 t368.length co103)) (fun _ hk => ⟨hk.1.1, ⟨hk.1.2.1, ⟨hk.1.2.2.1, ⟨hk.1.2.2.2.1, ⟨hk.1.2.2.2.2.1, hk.1.2.2.2.2.2⟩⟩⟩⟩⟩)⟩
        have n3_ : Aside0 ((((w100.setCell ⟨gb372, 0, none⟩ (.int .i64 t366)).setCell ⟨gb372, 1, none⟩ (.int .i64 t367)).setCell ⟨gb372, 2, none⟩ (.slice Ao103 t368.length co103)).heap[gb349]? = some (.cells #[.slice A1_0 l1_0.length c1_0, .slice (some ad364) l1_1.length c1_1] 25 (0, 0))) := ⟨by refine blk_far ?_ NB349_372.out _; refine blk_far ?_ NB349_372.out _; refine blk_far ?_ NB349_372.out _; exact gK BK349⟩
        have n4_ : Aside0 ((((w100.setCell ⟨gb372, 0, none⟩ (.int .i64 t366)).setCell ⟨gb372, 1, none⟩ (.int .i64 t367)).setCell ⟨gb372, 2, none⟩ (.slice Ao103 t368.length co103)).heap[gb350]? = some (.cells #[.slice A2_0 l2_0.length c2_0, .slice (some ad365) l2_1.length c2_1] 25 (0, 0))) := ⟨by refine blk_far ?_ NB350_372.out _; refine blk_far ?_ NB350_372.out _; refine blk_far ?_ NB350_372.out _; exact gK BK350⟩
        have n5_ : Aside0 ((((w100.setCell ⟨gb372, 0, none⟩ (.int .i64 t366)).setCell ⟨gb372, 1, none⟩ (.int .i64 t367)).setCell ⟨gb372, 2, none⟩ (.slice Ao103 t368.length co103)).heap[gb363]? = some (.cells #[.slice Ao90 t356.length co90, .slice Ao94 t359.length co94] 25 (0, 0))) := ⟨by refine blk_far ?_ NB363_372.out _; refine blk_far ?_ NB363_372.out _; refine blk_far ?_ NB363_372.out _; exact gK BK363⟩
        have n6_ : Aside0 ((((w100.setCell ⟨gb372, 0, none⟩ (.int .i64 t366)).setCell ⟨gb372, 1, none⟩ (.int .i64 t367)).setCell ⟨gb372, 2, none⟩ (.slice Ao103 t368.length co103)).heap[gb372]? = some (.cells #[.int .i64 t366, .int .i64 t367, .slice Ao103 t368.length co103] 43 (0, 0))) := ⟨by refine blk_put (cs := #[.int .i64 t366, .int .i64 t367, .slice none 0 0]) ?_ 2 _ rfl; refine blk_put (cs := #[.int .i64 t366, .int .i64 0, .slice none 0 0]) ?_ 1 _ rfl; refine blk_put (cs := #[.int .i64 0, .int .i64 0, .slice none 0 0]) ?_ 0 _ rfl; exact gK BK372⟩
        have n7_ : Aside0 (Below w.heap.size w (((w100.setCell ⟨gb372, 0, none⟩ (.int .i64 t366)).setCell ⟨gb372, 1, none⟩ (.int .i64 t367)).setCell ⟨gb372, 2, none⟩ (.slice Ao103 t368.length co103))) := ⟨by repeat first | exact gB HB | refine below_set ?_ GE349.out | refine below_set ?_ GE350.out | refine below_set ?_ GE363.out | refine below_set ?_ GE372.out⟩
        (try clear HO358)
        generalize (((w100.setCell ⟨gb372, 0, none⟩ (.int .i64 t366)).setCell ⟨gb372, 1, none⟩ (.int .i64 t367)).setCell ⟨gb372, 2, none⟩ (.slice Ao103 t368.length co103)) = w105 at n0_ n1_ n2_ n3_ n4_ n5_ n6_ n7_ ⊢
        have HO358 := n0_; have HO361 := n1_
        have HO370 := n2_; have BK349 := n3_
        have BK350 := n4_; have BK363 := n5_
        have BK372 := n6_; have HB := n7_
        clear n0_ n1_ n2_ n3_ n4_ n5_ n6_ n7_
        replace HO358 := gA (Kd.R_drew HO358.out); replace HO361 := gA (Kd.R_drew HO361.out); replace HO370 := gA (Kd.R_drew HO370.out); replace BK349 := gA (blk_drew BK349.out); replace BK350 := gA (blk_drew BK350.out); replace BK363 := gA (blk_drew BK363.out); replace BK372 := gA (blk_drew BK372.out); replace HB := gA (below_drew1 HB.out)
        have p373 : 0 ≤ ((ji79) : Int) := of_decide_eq_true (by assumption)
        have q373 : (ji79) < (t359.length : Int) := of_decide_eq_true (by assumption)
        obtain ⟨ad373, A373_2, c373_2, e373, hx373_0, hx373_1, hx373_2, hl373_2, hi373_2⟩ := at_T43 (Kd.R_reads' HO361.out).2.2 (ji79) p373 q373
        cases e373
        obtain ⟨ce373, hce373, hMe373, hcc373⟩ := Kd.R_get HO361.out z43 (ji79) p373 (by first | exact q373 | exact of_decide_eq_true (by assumption) | (have e_ := (Kd.R_reads' HO361.out).1; omega))
        obtain ⟨ve373_2, rfl, ge373_2⟩ := k43_openM hMe373
        have hv373_2 := hcc373 2 _ rfl
        rw [add_field _ _ 2 (by omega)] at hv373_2
        replace hv373_2 := Option.some.inj (hv373_2.symm.trans hx373_2)
        rw [hv373_2] at ge373_2
        have HL373_2 := gA (show Kd.R k25 25 _ _ _ _ ((rd_T43 t359 (ji79)).f2) from ge373_2)
        clear hv373_2 ge373_2 hcc373 hce373
        have HR373_2 := gA hi373_2
        have HC373_2 := gA hl373_2
        clear hi373_2 hl373_2
        replace p373 := eq_true p373
        replace q373 := eq_true q373
        refine start_ (n := 35) (S := fun w' => w'.cell? ⟨gb363, 0, none⟩ = some (.slice Ao90 t356.length co90) ∧ w'.cell? ⟨gb363, 1, none⟩ = some (.slice (some ad373) t359.length co94) ∧ w'.cell? ⟨gb349, 0, none⟩ = some (.slice A1_0 l1_0.length c1_0) ∧ w'.cell? ⟨gb349, 1, none⟩ = some (.slice (some ad364) l1_1.length c1_1) ∧ w'.cell? ⟨gb350, 0, none⟩ = some (.slice A2_0 l2_0.length c2_0) ∧ w'.cell? ⟨gb350, 1, none⟩ = some (.slice (some ad365) l2_1.length c2_1) ∧ w'.cell? ⟨gb372, 0, none⟩ = some (.int .i64 t366) ∧ w'.cell? ⟨gb372, 1, none⟩ = some (.int .i64 t367) ∧ w'.cell? ⟨gb372, 2, none⟩ = some (.slice Ao103 t368.length co103) ∧ w'.cell? (ad373.add (((ji79)).toNat * 3)) = some (.int .i64 ((rd_T43 t359 (ji79)).f0)) ∧ w'.cell? ⟨(ad373.add (((ji79)).toNat * 3)).block, (ad373.add (((ji79)).toNat * 3)).off + 1, none⟩ = some (.int .i64 ((rd_T43 t359 (ji79)).f1)) ∧ w'.cell? ⟨(ad373.add (((ji79)).toNat * 3)).block, (ad373.add (((ji79)).toNat * 3)).off + 2, none⟩ = some (.slice A373_2 ((rd_T43 t359 (ji79)).f2).length c373_2)) (ds := []) #[false, false, false, false, false, false, false, false, false, false, false, false, false, false, false, false, false, false, false, false, false, false, false, false, false, false, false, false, false, false, false, false, false, false, false] (by kernel_rfl) rfl rfl ⟨(blk_cell BK363.out 0).trans rfl, (blk_cell BK363.out 1).trans rfl, (blk_cell BK349.out 0).trans rfl, (blk_cell BK349.out 1).trans rfl, (blk_cell BK350.out 0).trans rfl, (blk_cell BK350.out 1).trans rfl, (blk_cell BK372.out 0).trans rfl, (blk_cell BK372.out 1).trans rfl, (blk_cell BK372.out 2).trans rfl, hx373_0, hx373_1, hx373_2⟩ (fun hHeld => ?_); refine with_tabW triglyphlaw08_FoldCells.tab8 triglyphlaw08_FoldCells.bits8 (fun HT_ HW_ => ?_)
        generalize w105.drew = w106 at HO358 HO361 HO370 BK349 BK350 BK363 BK372 HB HL373_2 HR373_2 hx373_0 hx373_1 hx373_2 hHeld ⊢
        refine pure_ (i := 0) (N := some 94) (v := ?_) (a' := ?_) #[true, false, false, false, false, false, false, false, false, false, false, false, false, false, false, false, false, false, false, false, false, false, false, false, false, false, false, false, false, false, false, false, false, false, false] rfl rfl (any_of HT_.out (by kernel_rfl)) (fun _ _ _ h => h) (Or.inl ⟨by rfl, ?_⟩) ?_ ?_; rotate_left
        ·intro w'; go_simp; with_reducible rfl
        rotate_left
        ·simp only [Act.put, List.setIfInBounds_toArray, List.set_cons_zero, List.set_cons_succ, i64_w, i32_w]; rfl
        refine pure_ (i := 1) (N := some 95) (v := ?_) (a' := ?_) #[true, true, false, false, false, false, false, false, false, false, false, false, false, false, false, false, false, false, false, false, false, false, false, false, false, false, false, false, false, false, false, false, false, false, false] rfl rfl (any_of HT_.out (by kernel_rfl)) (fun _ _ _ h => h) (Or.inl ⟨by rfl, ?_⟩) ?_ ?_; rotate_left
        ·intro w'; go_simp; with_reducible rfl
        rotate_left
        ·simp only [Act.put, List.setIfInBounds_toArray, List.set_cons_zero, List.set_cons_succ, i64_w, i32_w]; rfl
        refine pure_ (i := 2) (N := some 96) (v := ?_) (a' := ?_) #[true, true, true, false, false, false, false, false, false, false, false, false, false, false, false, false, false, false, false, false, false, false, false, false, false, false, false, false, false, false, false, false, false, false, false] rfl rfl (any_of HT_.out (by kernel_rfl)) (fun _ _ _ h => h) (Or.inl ⟨by rfl, ?_⟩) ?_ ?_; rotate_left
        ·intro w'; go_simp; with_reducible rfl
        rotate_left
        ·simp only [Act.put, List.setIfInBounds_toArray, List.set_cons_zero, List.set_cons_succ, i64_w, i32_w]; rfl
        refine pure_ (i := 3) (N := some 97) (v := ?_) (a' := ?_) #[true, true, true, true, false, false, false, false, false, false, false, false, false, false, false, false, false, false, false, false, false, false, false, false, false, false, false, false, false, false, false, false, false, false, false] rfl rfl (any_of HT_.out (by kernel_rfl)) (fun _ _ _ h => h) (Or.inl ⟨by rfl, ?_⟩) ?_ ?_; rotate_left
        ·intro w'; go_simp; with_reducible rfl
        rotate_left
        ·simp only [Act.put, List.setIfInBounds_toArray, List.set_cons_zero, List.set_cons_succ, i64_w, i32_w]; rfl
        refine pure_ (i := 6) (N := some 100) (v := ?_) (a' := ?_) #[true, true, true, true, false, false, true, false, false, false, false, false, false, false, false, false, false, false, false, false, false, false, false, false, false, false, false, false, false, false, false, false, false, false, false] rfl rfl (any_of HT_.out (by kernel_rfl)) (fun _ _ _ h => h) (Or.inl ⟨by rfl, ?_⟩) ?_ ?_; rotate_left
        ·intro w'; go_simp; with_reducible rfl
        rotate_left
        ·simp only [Act.put, List.setIfInBounds_toArray, List.set_cons_zero, List.set_cons_succ, i64_w, i32_w]; rfl
        refine pure_ (i := 9) (N := some 103) (v := ?_) (a' := ?_) #[true, true, true, true, false, false, true, false, false, true, false, false, false, false, false, false, false, false, false, false, false, false, false, false, false, false, false, false, false, false, false, false, false, false, false] rfl rfl (any_of HT_.out (by kernel_rfl)) (fun _ _ _ h => h) (Or.inl ⟨by rfl, ?_⟩) ?_ ?_; rotate_left
        ·intro w'; go_simp; with_reducible rfl
        rotate_left
        ·simp only [Act.put, List.setIfInBounds_toArray, List.set_cons_zero, List.set_cons_succ, i64_w, i32_w]; rfl
        refine take_ (i := 4) (N := some 98) (v := ?_) (a' := ?_) #[true, true, true, true, true, false, true, false, false, true, false, false, false, false, false, false, false, false, false, false, false, false, false, false, false, false, false, false, false, false, false, false, false, false, false] rfl rfl (take_ofW HT_.out HW_.out (by kernel_rfl)) (fun _ _ _ h => h) (Or.inl ⟨by rfl, ?_⟩) hHeld ?_ ?_; rotate_left
        ·rintro w' ⟨s0, s1, s2, s3, s4, s5, s6, s7, s8, s9, s10, s11⟩; go_simp; with_reducible rfl
        rotate_left
        ·simp only [Act.put, List.setIfInBounds_toArray, List.set_cons_zero, List.set_cons_succ, i64_w, i32_w]; rfl
        refine pure_ (i := 5) (N := some 99) (v := ?_) (a' := ?_) #[true, true, true, true, true, true, true, false, false, true, false, false, false, false, false, false, false, false, false, false, false, false, false, false, false, false, false, false, false, false, false, false, false, false, false] rfl rfl (any_of HT_.out (by kernel_rfl)) (fun _ _ _ h => h) (Or.inl ⟨by rfl, ?_⟩) ?_ ?_; rotate_left
        ·intro w'; go_simp; with_reducible rfl
        rotate_left
        ·simp only [Act.put, List.setIfInBounds_toArray, List.set_cons_zero, List.set_cons_succ, i64_w, i32_w]; rfl
        refine take_ (i := 7) (N := some 101) (v := ?_) (a' := ?_) #[true, true, true, true, true, true, true, true, false, true, false, false, false, false, false, false, false, false, false, false, false, false, false, false, false, false, false, false, false, false, false, false, false, false, false] rfl rfl (take_ofW HT_.out HW_.out (by kernel_rfl)) (fun _ _ _ h => h) (Or.inl ⟨by rfl, ?_⟩) hHeld ?_ ?_; rotate_left
        ·rintro w' ⟨s0, s1, s2, s3, s4, s5, s6, s7, s8, s9, s10, s11⟩; go_simp; with_reducible rfl
        rotate_left
        ·simp only [Act.put, List.setIfInBounds_toArray, List.set_cons_zero, List.set_cons_succ, i64_w, i32_w]; rfl
        refine pure_ (i := 8) (N := some 102) (v := ?_) (a' := ?_) #[true, true, true, true, true, true, true, true, true, true, false, false, false, false, false, false, false, false, false, false, false, false, false, false, false, false, false, false, false, false, false, false, false, false, false] rfl rfl (any_of HT_.out (by kernel_rfl)) (fun _ _ _ h => h) (Or.inl ⟨by rfl, ?_⟩) ?_ ?_; rotate_left
        ·intro w'; go_simp; with_reducible rfl
        rotate_left
        ·simp only [Act.put, List.setIfInBounds_toArray, List.set_cons_zero, List.set_cons_succ, i64_w, i32_w]; rfl
        refine take_ (i := 10) (N := some 104) (v := ?_) (a' := ?_) #[true, true, true, true, true, true, true, true, true, true, true, false, false, false, false, false, false, false, false, false, false, false, false, false, false, false, false, false, false, false, false, false, false, false, false] rfl rfl (take_ofW HT_.out HW_.out (by kernel_rfl)) (fun _ _ _ h => h) (Or.inl ⟨by rfl, ?_⟩) hHeld ?_ ?_; rotate_left
        ·rintro w' ⟨s0, s1, s2, s3, s4, s5, s6, s7, s8, s9, s10, s11⟩; go_simp; with_reducible rfl
        rotate_left
        ·simp only [Act.put, List.setIfInBounds_toArray, List.set_cons_zero, List.set_cons_succ, i64_w, i32_w]; rfl
        refine pure_ (i := 11) (N := some 105) (v := ?_) (a' := ?_) #[true, true, true, true, true, true, true, true, true, true, true, true, false, false, false, false, false, false, false, false, false, false, false, false, false, false, false, false, false, false, false, false, false, false, false] rfl rfl (any_of HT_.out (by kernel_rfl)) (fun _ _ _ h => h) (Or.inl ⟨by rfl, ?_⟩) ?_ ?_; rotate_left
        ·intro w'; go_simp; with_reducible rfl
        rotate_left
        ·simp only [Act.put, List.setIfInBounds_toArray, List.set_cons_zero, List.set_cons_succ, i64_w, i32_w]; rfl
        refine pure_ (i := 12) (N := some 106) (v := ?_) (a' := ?_) #[true, true, true, true, true, true, true, true, true, true, true, true, true, false, false, false, false, false, false, false, false, false, false, false, false, false, false, false, false, false, false, false, false, false, false] rfl rfl (any_of HT_.out (by kernel_rfl)) (fun _ _ _ h => h) (Or.inl ⟨by rfl, ?_⟩) ?_ ?_; rotate_left
        ·intro w'; go_simp; with_reducible rfl
        rotate_left
        ·simp only [Act.put, List.setIfInBounds_toArray, List.set_cons_zero, List.set_cons_succ, i64_w, i32_w]; rfl
        refine pure_ (i := 13) (N := some 107) (v := ?_) (a' := ?_) #[true, true, true, true, true, true, true, true, true, true, true, true, true, true, false, false, false, false, false, false, false, false, false, false, false, false, false, false, false, false, false, false, false, false, false] rfl rfl (any_of HT_.out (by kernel_rfl)) (fun _ _ _ h => h) (Or.inl ⟨by rfl, ?_⟩) ?_ ?_; rotate_left
        ·intro w'; go_simp; with_reducible rfl
        rotate_left
        ·simp only [Act.put, List.setIfInBounds_toArray, List.set_cons_zero, List.set_cons_succ, i64_w, i32_w]; rfl
        refine pure_ (i := 14) (N := some 108) (v := ?_) (a' := ?_) #[true, true, true, true, true, true, true, true, true, true, true, true, true, true, true, false, false, false, false, false, false, false, false, false, false, false, false, false, false, false, false, false, false, false, false] rfl rfl (any_of HT_.out (by kernel_rfl)) (fun _ _ _ h => h) (Or.inl ⟨by rfl, ?_⟩) ?_ ?_; rotate_left
        ·intro w'; go_simp; with_reducible rfl
        rotate_left
        ·simp only [Act.put, List.setIfInBounds_toArray, List.set_cons_zero, List.set_cons_succ, i64_w, i32_w]; rfl
        refine pure_ (i := 15) (N := some 109) (v := ?_) (a' := ?_) #[true, true, true, true, true, true, true, true, true, true, true, true, true, true, true, true, false, false, false, false, false, false, false, false, false, false, false, false, false, false, false, false, false, false, false] rfl rfl (any_of HT_.out (by kernel_rfl)) (fun _ _ _ h => h) (Or.inl ⟨by rfl, ?_⟩) ?_ ?_; rotate_left
        ·intro w'; go_simp; with_reducible rfl
        rotate_left
        ·simp only [Act.put, List.setIfInBounds_toArray, List.set_cons_zero, List.set_cons_succ, i64_w, i32_w]; rfl
        refine pure_ (i := 17) (N := some 111) (v := ?_) (a' := ?_) #[true, true, true, true, true, true, true, true, true, true, true, true, true, true, true, true, false, true, false, false, false, false, false, false, false, false, false, false, false, false, false, false, false, false, false] rfl rfl (any_of HT_.out (by kernel_rfl)) (fun _ _ _ h => h) (Or.inl ⟨by rfl, ?_⟩) ?_ ?_; rotate_left
        ·intro w'; go_simp; with_reducible rfl
        rotate_left
        ·simp only [Act.put, List.setIfInBounds_toArray, List.set_cons_zero, List.set_cons_succ, i64_w, i32_w]; rfl
        refine pure_ (i := 19) (N := some 113) (v := ?_) (a' := ?_) #[true, true, true, true, true, true, true, true, true, true, true, true, true, true, true, true, false, true, false, true, false, false, false, false, false, false, false, false, false, false, false, false, false, false, false] rfl rfl (any_of HT_.out (by kernel_rfl)) (fun _ _ _ h => h) (Or.inl ⟨by rfl, ?_⟩) ?_ ?_; rotate_left
        ·intro w'; go_simp; with_reducible rfl
        rotate_left
        ·simp only [Act.put, List.setIfInBounds_toArray, List.set_cons_zero, List.set_cons_succ, i64_w, i32_w]; rfl
        refine pure_ (i := 20) (N := some 114) (v := ?_) (a' := ?_) #[true, true, true, true, true, true, true, true, true, true, true, true, true, true, true, true, false, true, false, true, true, false, false, false, false, false, false, false, false, false, false, false, false, false, false] rfl rfl (any_of HT_.out (by kernel_rfl)) (fun _ _ _ h => h) (Or.inl ⟨by rfl, ?_⟩) ?_ ?_; rotate_left
        ·intro w'; go_simp; with_reducible rfl
        rotate_left
        ·simp only [Act.put, List.setIfInBounds_toArray, List.set_cons_zero, List.set_cons_succ, i64_w, i32_w]; rfl
        refine pure_ (i := 24) (N := some 118) (v := ?_) (a' := ?_) #[true, true, true, true, true, true, true, true, true, true, true, true, true, true, true, true, false, true, false, true, true, false, false, false, true, false, false, false, false, false, false, false, false, false, false] rfl rfl (any_of HT_.out (by kernel_rfl)) (fun _ _ _ h => h) (Or.inl ⟨by rfl, ?_⟩) ?_ ?_; rotate_left
        ·intro w'; go_simp; with_reducible rfl
        rotate_left
        ·simp only [Act.put, List.setIfInBounds_toArray, List.set_cons_zero, List.set_cons_succ, i64_w, i32_w]; rfl
        refine take_ (i := 16) (N := some 110) (v := ?_) (a' := ?_) #[true, true, true, true, true, true, true, true, true, true, true, true, true, true, true, true, true, true, false, true, true, false, false, false, true, false, false, false, false, false, false, false, false, false, false] rfl rfl (take_ofW HT_.out HW_.out (by kernel_rfl)) (fun _ _ _ h => h) (Or.inl ⟨by rfl, ?_⟩) hHeld ?_ ?_; rotate_left
        ·rintro w' ⟨s0, s1, s2, s3, s4, s5, s6, s7, s8, s9, s10, s11⟩; go_simp; with_reducible rfl
        rotate_left
        ·simp only [Act.put, List.setIfInBounds_toArray, List.set_cons_zero, List.set_cons_succ, i64_w, i32_w]; rfl
        refine take_ (i := 18) (N := some 112) (v := ?_) (a' := ?_) #[true, true, true, true, true, true, true, true, true, true, true, true, true, true, true, true, true, true, true, true, true, false, false, false, true, false, false, false, false, false, false, false, false, false, false] rfl rfl (take_ofW HT_.out HW_.out (by kernel_rfl)) (fun _ _ _ h => h) (Or.inl ⟨by rfl, ?_⟩) hHeld ?_ ?_; rotate_left
        ·rintro w' ⟨s0, s1, s2, s3, s4, s5, s6, s7, s8, s9, s10, s11⟩; go_simp; with_reducible rfl
        rotate_left
        ·simp only [Act.put, List.setIfInBounds_toArray, List.set_cons_zero, List.set_cons_succ, i64_w, i32_w]; rfl
        refine take_ (i := 21) (N := some 115) (v := ?_) (a' := ?_) #[true, true, true, true, true, true, true, true, true, true, true, true, true, true, true, true, true, true, true, true, true, true, false, false, true, false, false, false, false, false, false, false, false, false, false] rfl rfl (take_ofW HT_.out HW_.out (by kernel_rfl)) (fun _ _ _ h => h) (Or.inl ⟨by rfl, ?_⟩) hHeld ?_ ?_; rotate_left
        ·rintro w' ⟨s0, s1, s2, s3, s4, s5, s6, s7, s8, s9, s10, s11⟩; go_simp; with_reducible rfl
        rotate_left
        ·simp only [Act.put, List.setIfInBounds_toArray, List.set_cons_zero, List.set_cons_succ, i64_w, i32_w]; rfl
        refine pure_ (i := 22) (N := some 116) (v := ?_) (a' := ?_) #[true, true, true, true, true, true, true, true, true, true, true, true, true, true, true, true, true, true, true, true, true, true, true, false, true, false, false, false, false, false, false, false, false, false, false] rfl rfl (any_of HT_.out (by kernel_rfl)) (fun _ _ _ h => h) (Or.inl ⟨by rfl, ?_⟩) ?_ ?_; rotate_left
        ·intro w'; go_simp; with_reducible rfl
        rotate_left
        ·simp only [Act.put, List.setIfInBounds_toArray, List.set_cons_zero, List.set_cons_succ, i64_w, i32_w]; rfl
        refine pure_ (i := 23) (N := some 117) (v := ?_) (a' := ?_) #[true, true, true, true, true, true, true, true, true, true, true, true, true, true, true, true, true, true, true, true, true, true, true, true, true, false, false, false, false, false, false, false, false, false, false] rfl rfl (any_of HT_.out (by kernel_rfl)) (fun _ _ _ h => h) (Or.inl ⟨by rfl, ?_⟩) ?_ ?_; rotate_left
        ·intro w'; go_simp; with_reducible rfl
        rotate_left
        ·simp only [Act.put, List.setIfInBounds_toArray, List.set_cons_zero, List.set_cons_succ, i64_w, i32_w]; rfl
        refine pure_ (i := 25) (N := some 119) (v := ?_) (a' := ?_) #[true, true, true, true, true, true, true, true, true, true, true, true, true, true, true, true, true, true, true, true, true, true, true, true, true, true, false, false, false, false, false, false, false, false, false] rfl rfl (any_of HT_.out (by kernel_rfl)) (fun _ _ _ h => h) (Or.inl ⟨by rfl, ?_⟩) ?_ ?_; rotate_left
        ·intro w'; go_simp; with_reducible rfl
        rotate_left
        ·simp only [Act.put, List.setIfInBounds_toArray, List.set_cons_zero, List.set_cons_succ, i64_w, i32_w]; rfl
        refine pure_ (i := 26) (N := some 120) (v := ?_) (a' := ?_) #[true, true, true, true, true, true, true, true, true, true, true, true, true, true, true, true, true, true, true, true, true, true, true, true, true, true, true, false, false, false, false, false, false, false, false] rfl rfl (any_of HT_.out (by kernel_rfl)) (fun _ _ _ h => h) (Or.inl ⟨by rfl, ?_⟩) ?_ ?_; rotate_left
        ·intro w'; go_simp; with_reducible rfl
        rotate_left
        ·simp only [Act.put, List.setIfInBounds_toArray, List.set_cons_zero, List.set_cons_succ, i64_w, i32_w]; rfl
        refine take_ (i := 27) (N := some 121) (v := ?_) (a' := ?_) #[true, true, true, true, true, true, true, true, true, true, true, true, true, true, true, true, true, true, true, true, true, true, true, true, true, true, true, true, false, false, false, false, false, false, false] rfl rfl (take_ofW HT_.out HW_.out (by kernel_rfl)) (fun _ _ _ h => h) (Or.inl ⟨by rfl, ?_⟩) hHeld ?_ ?_; rotate_left
        ·rintro w' ⟨s0, s1, s2, s3, s4, s5, s6, s7, s8, s9, s10, s11⟩; go_simp; with_reducible rfl
        rotate_left
        ·simp only [Act.put, List.setIfInBounds_toArray, List.set_cons_zero, List.set_cons_succ, i64_w, i32_w]; rfl
        refine one_ (i := 28) (N := some 122) #[true, true, true, true, true, true, true, true, true, true, true, true, true, true, true, true, true, true, true, true, true, true, true, true, true, true, true, true, true, false, false, false, false, false, false] rfl rfl (one_of HT_.out (by kernel_rfl)) (by decide) (fun K hK => ?_)
        refine goes_ Try.func20 (by kernel_rfl) rfl #[.agg #[.int .i64 t366, .int .i64 t367, .slice Ao103 t368.length co103], .agg #[.int .i64 ((rd_T43 t359 (ji79)).f0), .int .i64 ((rd_T43 t359 (ji79)).f1), .slice A373_2 ((rd_T43 t359 (ji79)).f2).length c373_2]] (by rfl) rfl rfl (by (try simp only [List.map_toArray, List.map_cons, List.map_nil]); first | done | (simp only [hji79]; rfl) | rfl | (simp only [List.length_drop, List.length_take]; rfl)) ?_
        with_reducible refine (triglyphref03_Cell.calls kj5 t366 t367 _ _ t368 ((rd_T43 t359 (ji79)).f0) ((rd_T43 t359 (ji79)).f1) _ _ ((rd_T43 t359 (ji79)).f2) t374 _ ?side1 ?side2 ?side3 ?side4 A82.out).mono ?_
        (case side1 => repeat (first | exact (Kd.R_reads' HO370.out).2.2 | (with_reducible refine Kd.C_alloc ?_ _) | (with_reducible refine Kd.C_drewN ?_ _) | (with_reducible refine Kd.C_drew ?_)))
        (case side2 => exact (Kd.R_reads' HO370.out).2.1)
        (case side3 => repeat (first | exact (by repeat (first | (with_reducible exact HR373_2.out) | (with_reducible refine Kd.C_alloc ?_ _) | (with_reducible refine Kd.C_drewN ?_ _) | (with_reducible refine Kd.C_drew ?_) | exact HR373_2.out)) | (with_reducible refine Kd.C_alloc ?_ _) | (with_reducible refine Kd.C_drewN ?_ _) | (with_reducible refine Kd.C_drew ?_)))
        (case side4 => exact HC373_2.out)
        rintro e w107 ⟨rfl, hb⟩
        have HS9_ := (hb.cell (World.block_lt_of_cell? _ _ (hHeld.2.2.2.2.2.2.2.2.2.1))).trans (hHeld.2.2.2.2.2.2.2.2.2.1)
        have HS10_ := (hb.cell (World.block_lt_of_cell? _ _ (hHeld.2.2.2.2.2.2.2.2.2.2.1))).trans (hHeld.2.2.2.2.2.2.2.2.2.2.1)
        have HS11_ := (hb.cell (World.block_lt_of_cell? _ _ (hHeld.2.2.2.2.2.2.2.2.2.2.2))).trans (hHeld.2.2.2.2.2.2.2.2.2.2.2)
        refine ⟨_, rfl, ?_⟩
        replace HO358 := gA (Kd.R_below (gR HO358) hb); replace HO361 := gA (Kd.R_below (gR HO361) hb); replace HO370 := gA (Kd.R_below (gR HO370) hb); replace HL373_2 := gA (Kd.R_below (gR HL373_2) hb); replace BK349 := gA (blk_below (gK BK349) hb); replace BK350 := gA (blk_below (gK BK350) hb); replace BK363 := gA (blk_below (gK BK363) hb); replace BK372 := gA (blk_below (gK BK372) hb); replace HR373_2 := gA (Kd.C_below (by repeat (first | (with_reducible exact HR373_2.out) | (with_reducible refine Kd.C_alloc ?_ _) | (with_reducible refine Kd.C_drewN ?_ _) | (with_reducible refine Kd.C_drew ?_) | exact HR373_2.out)) hb); replace HB := gA (below_step (gB HB) hb); (try clear hb)
        refine hK.out _ _ ⟨(blk_cell BK363.out 0).trans rfl, (blk_cell BK363.out 1).trans rfl, (blk_cell BK349.out 0).trans rfl, (blk_cell BK349.out 1).trans rfl, (blk_cell BK350.out 0).trans rfl, (blk_cell BK350.out 1).trans rfl, (blk_cell BK372.out 0).trans rfl, (blk_cell BK372.out 1).trans rfl, (blk_cell BK372.out 2).trans rfl, HS9_, HS10_, HS11_⟩ (fun hHeld => ?_); clear hK K
        refine norm_ (a' := ?_) ?_ ?_; rotate_left
        ·show Act.put _ (some 122) _ = _
         simp only [Act.put, List.setIfInBounds_toArray, List.set_cons_zero, List.set_cons_succ, i64_w, i32_w]; rfl
        refine pure_ (i := 29) (N := some 123) (v := ?_) (a' := ?_) #[true, true, true, true, true, true, true, true, true, true, true, true, true, true, true, true, true, true, true, true, true, true, true, true, true, true, true, true, true, true, false, false, false, false, false] rfl rfl (any_of HT_.out (by kernel_rfl)) (fun _ _ _ h => h) (Or.inl ⟨by rfl, ?_⟩) ?_ ?_; rotate_left
        ·intro w'; go_simp; with_reducible rfl
        rotate_left
        ·simp only [Act.put, List.setIfInBounds_toArray, List.set_cons_zero, List.set_cons_succ, i64_w, i32_w]; rfl
        refine pure_ (i := 30) (N := some 124) (v := ?_) (a' := ?_) #[true, true, true, true, true, true, true, true, true, true, true, true, true, true, true, true, true, true, true, true, true, true, true, true, true, true, true, true, true, true, true, false, false, false, false] rfl rfl (any_of HT_.out (by kernel_rfl)) (fun _ _ _ h => h) (Or.inl ⟨by rfl, ?_⟩) ?_ ?_; rotate_left
        ·intro w'; go_simp; with_reducible rfl
        rotate_left
        ·simp only [Act.put, List.setIfInBounds_toArray, List.set_cons_zero, List.set_cons_succ, i64_w, i32_w]; rfl
        refine pure_ (i := 31) (N := some 125) (v := ?_) (a' := ?_) #[true, true, true, true, true, true, true, true, true, true, true, true, true, true, true, true, true, true, true, true, true, true, true, true, true, true, true, true, true, true, true, true, false, false, false] rfl rfl (any_of HT_.out (by kernel_rfl)) (fun _ _ _ h => h) (Or.inl ⟨by rfl, ?_⟩) ?_ ?_; rotate_left
        ·intro w'; go_simp; with_reducible rfl
        rotate_left
        ·simp only [Act.put, List.setIfInBounds_toArray, List.set_cons_zero, List.set_cons_succ, i64_w, i32_w]; rfl
        refine one_ (i := 32) (N := some 126) #[true, true, true, true, true, true, true, true, true, true, true, true, true, true, true, true, true, true, true, true, true, true, true, true, true, true, true, true, true, true, true, true, true, false, false] rfl rfl (one_of HT_.out (by kernel_rfl)) (by decide) (fun K hK => ?_)
        refine goes_ Try.func11 (by kernel_rfl) rfl #[] (by rfl) rfl rfl (by (try simp only [List.map_toArray, List.map_cons, List.map_nil]); first | done | rfl | (simp only [List.length_drop, List.length_take]; rfl)) ?_
        with_reducible refine (triglyphlaw08_works.calls kj5  t375 _ A84.out).mono ?_
        rintro e w108 ⟨rfl, hb⟩
        have HS9_ := (hb.cell (World.block_lt_of_cell? _ _ (hHeld.2.2.2.2.2.2.2.2.2.1))).trans (hHeld.2.2.2.2.2.2.2.2.2.1)
        have HS10_ := (hb.cell (World.block_lt_of_cell? _ _ (hHeld.2.2.2.2.2.2.2.2.2.2.1))).trans (hHeld.2.2.2.2.2.2.2.2.2.2.1)
        have HS11_ := (hb.cell (World.block_lt_of_cell? _ _ (hHeld.2.2.2.2.2.2.2.2.2.2.2))).trans (hHeld.2.2.2.2.2.2.2.2.2.2.2)
        refine ⟨_, rfl, ?_⟩
        replace HO358 := gA (Kd.R_below (gR HO358) hb); replace HO361 := gA (Kd.R_below (gR HO361) hb); replace HO370 := gA (Kd.R_below (gR HO370) hb); replace HL373_2 := gA (Kd.R_below (gR HL373_2) hb); replace BK349 := gA (blk_below (gK BK349) hb); replace BK350 := gA (blk_below (gK BK350) hb); replace BK363 := gA (blk_below (gK BK363) hb); replace BK372 := gA (blk_below (gK BK372) hb); replace HR373_2 := gA (Kd.C_below (by repeat (first | (with_reducible exact HR373_2.out) | (with_reducible refine Kd.C_alloc ?_ _) | (with_reducible refine Kd.C_drewN ?_ _) | (with_reducible refine Kd.C_drew ?_) | exact HR373_2.out)) hb); replace HB := gA (below_step (gB HB) hb); (try clear hb)
        refine hK.out _ _ ⟨(blk_cell BK363.out 0).trans rfl, (blk_cell BK363.out 1).trans rfl, (blk_cell BK349.out 0).trans rfl, (blk_cell BK349.out 1).trans rfl, (blk_cell BK350.out 0).trans rfl, (blk_cell BK350.out 1).trans rfl, (blk_cell BK372.out 0).trans rfl, (blk_cell BK372.out 1).trans rfl, (blk_cell BK372.out 2).trans rfl, HS9_, HS10_, HS11_⟩ (fun hHeld => ?_); clear hK K
        refine norm_ (a' := ?_) ?_ ?_; rotate_left
        ·show Act.put _ (some 126) _ = _
         simp only [Act.put, List.setIfInBounds_toArray, List.set_cons_zero, List.set_cons_succ, i64_w, i32_w]; rfl
        refine pure_ (i := 33) (N := some 127) (v := ?_) (a' := ?_) #[true, true, true, true, true, true, true, true, true, true, true, true, true, true, true, true, true, true, true, true, true, true, true, true, true, true, true, true, true, true, true, true, true, true, false] rfl rfl (any_of HT_.out (by kernel_rfl)) (fun _ _ _ h => h) (Or.inl ⟨by rfl, ?_⟩) ?_ ?_; rotate_left
        ·intro w'; go_simp; with_reducible rfl
        rotate_left
        ·simp only [Act.put, List.setIfInBounds_toArray, List.set_cons_zero, List.set_cons_succ, i64_w, i32_w]; rfl
        refine pure_ (i := 34) (N := some 10) (v := ?_) (a' := ?_) #[true, true, true, true, true, true, true, true, true, true, true, true, true, true, true, true, true, true, true, true, true, true, true, true, true, true, true, true, true, true, true, true, true, true, true] rfl rfl (any_of HT_.out (by kernel_rfl)) (fun _ _ _ h => h) (Or.inl ⟨by rfl, ?_⟩) ?_ ?_; rotate_left
        ·intro w'; go_simp; with_reducible rfl
        rotate_left
        ·simp only [Act.put, List.setIfInBounds_toArray, List.set_cons_zero, List.set_cons_succ, i64_w, i32_w]; rfl
        refine done_ (done_of HT_.out (by kernel_rfl)) ?_
        try go_wp2
        go_ret
        exact ⟨by first | rfl | (simp [errW_none, errW_some] <;> rfl) | (simp only [← hji70, ← hji73, ← hji79]; first | rfl | (simp [errW_none, errW_some] <;> rfl)) | (simp [*, errW_none, errW_some] <;> rfl), by repeat first | exact gB HB | refine below_set ?_ GE349.out | refine below_set ?_ GE350.out | refine below_set ?_ GE363.out | refine below_set ?_ GE372.out⟩
       ·rw [if_neg c83] at H
        have c83b0 : (t374 == 0) = false := beq_eq_false_iff_ne.mpr c83
        have c83b1 : (t374 != 0) = true := bne_iff_ne.mpr c83
        exact absurd H (by simp)
      ·rw [if_neg c78] at H
       have c78b0 : ((t359.length : Int) == (wrap64 ((l1_1.length : Int) * (l2_1.length : Int)))) = false := beq_eq_false_iff_ne.mpr c78
       have c78b1 : ((t359.length : Int) != (wrap64 ((l1_1.length : Int) * (l2_1.length : Int)))) = true := bne_iff_ne.mpr c78
       exact absurd H (by simp)
     ·rw [if_neg c77] at H
      have c77b0 : (t371 == 0) = false := beq_eq_false_iff_ne.mpr c77
      have c77b1 : (t371 != 0) = true := bne_iff_ne.mpr c77
      exact absurd H (by simp)
    ·rw [if_neg c67] at H
     have c67b0 : (t362 == 0) = false := beq_eq_false_iff_ne.mpr c67
     have c67b1 : (t362 != 0) = true := bne_iff_ne.mpr c67
     obtain ⟨c109, H⟩ := iS H
     have c109b0 : ((t359.length : Int) == 0) = true := beq_iff_eq.mpr c109
     have c109b1 : ((t359.length : Int) != 0) = false := bne_eq_false_iff_eq.mpr c109
     clear c109
     replace H := Option.bind_eq_some_iff.mp H
     obtain ⟨t376, A1100, H⟩ := H
     replace H : (some t376) = some r := H
     have A110 := gA A1100
     clear A1100
     obtain rfl := Option.some.inj H
     have hnb111 := NB349_350.out
     have hnc111 := NB350_349.out
     obtain ⟨hcz112_0, hcz112_1, hfz112_0, hfz112_1⟩ := gz2 BK349
     obtain ⟨hcz113_0, hcz113_1, hfz113_0, hfz113_1⟩ := gz2 BK350
     go_wp2_with (first | ((with_reducible refine gate_callee (f := 17) rfl ?_); refine goesL_ (some 51) rfl rfl Try.func17 (by kernel_rfl) rfl #[.agg #[.int .i64 a0, .bool false], .agg #[.slice A1_0 l1_0.length c1_0, .slice A1_1 l1_1.length c1_1], .agg #[.slice A2_0 l2_0.length c2_0, .slice A2_1 l2_1.length c2_1]] rfl (by (try simp only [List.map_toArray, List.map_cons, List.map_nil]); first | done | rfl | (simp only [List.length_drop, List.length_take]; rfl)) ?_; (with_reducible refine (fold_Outer.calls kj5 a0 false _ _ l1_0 _ _ l1_1 _ _ l2_0 _ _ l2_1 t356 t359 t362 _ ?side1 ?side2 ?side3 ?side4 ?side5 ?side6 ?side7 ?side8 A66.out).mono ?_); (case side1 => exact gC HR1_0 HB); (case side2 => exact HC1_0.out); (case side3 => exact gC HR1_1 HB); (case side4 => exact HC1_1.out); (case side5 => exact gC HR2_0 HB); (case side6 => exact HC2_0.out); (case side7 => exact gC HR2_1 HB); (case side8 => exact HC2_1.out); rintro e w114 ⟨v357, v360, rfl, ho0, ho1, hb⟩; refine ⟨_, rfl, ?_⟩; have HO358 := gA (Kd.R_lower ho0 (below_size (gB HB))); have HO361 := gA (Kd.R_lower (Kd.R_newB (Kd.R_newB ho1 (gK BK349)) (gK BK350)) (below_size (gB HB))); replace BK349 := gA (blk_below (gK BK349) hb); replace BK350 := gA (blk_below (gK BK350) hb); replace HB := gA (below_step (gB HB) hb); (try clear hb); (try clear ho0); (try clear ho1)) | ((with_reducible refine gate_dst (N := 11) rfl ?_); (try (refine gate_guard (by rfl) ?_; dsimp only)); refine box_event ?hg (N := 11) ?hd (cs := #[.slice none 0 0, .slice none 0 0]) (t := 25) ?hr ?_; (case hd => rfl); (case hg => rfl); (case hr => first | (go_simp; done) | (go_simp; rfl)); intro gb363 hg w115 hbox hb; replace HO358 := gA (Kd.R_below (gR HO358) hb); replace HO361 := gA (Kd.R_below (Kd.R_elderB (gR HO361) gb363 (Nat.le_of_eq hg.symm)) hb); have BK363 := gA (hbox); have GW363 := gA ((by rw [hg]; exact (below_size (gB HB)) : w.heap.size ≤ gb363)); have GE363 := gA ((by rw [hg]; exact (below_size (gB HB)) : w.heap.size ≤ gb363)); replace HB := gA (below_step (gB HB) hb); have NB349_363 := gA ((by rw [hg]; exact Nat.ne_of_lt (blk_lt (gK BK349)) : gb349 ≠ gb363)); have NB363_349 := gA ((by rw [hg]; exact Nat.ne_of_gt (blk_lt (gK BK349)) : gb363 ≠ gb349)); replace BK349 := gA (blk_below (gK BK349) hb); have NB350_363 := gA ((by rw [hg]; exact Nat.ne_of_lt (blk_lt (gK BK350)) : gb350 ≠ gb363)); have NB363_350 := gA ((by rw [hg]; exact Nat.ne_of_gt (blk_lt (gK BK350)) : gb363 ≠ gb350)); replace BK350 := gA (blk_below (gK BK350) hb); clear hb hbox hg; obtain ⟨Ao116, co116, eo116⟩ := Kd.R_slice HO358.out; subst eo116; have hnb117 := NB363_349.out; have hnc117 := NB349_363.out; have hnb118 := NB363_350.out; have hnc118 := NB350_363.out; obtain ⟨hcz119_0, hcz119_1, hfz119_0, hfz119_1⟩ := gz2 BK363; obtain ⟨Ao120, co120, eo120⟩ := Kd.R_slice HO361.out; subst eo120) | (go_at_call 11; (with_reducible refine (triglyphlaw08_works.calls kj5  t376 _ A110.out).mono ?_); rintro e w121 ⟨rfl, hb⟩; replace HO358 := gA (Kd.R_below (by (with_reducible repeat (first | apply Kd.R_alloc | apply Kd.R_drewN | apply Kd.R_drew)); exact (Kd.R_mono (Kd.R_far (p := ⟨gb363, 1, none⟩) (Kd.R_far (p := ⟨gb363, 0, none⟩) (Kd.R_types HO358.out BK363.out (by decide)) (fun _ hk => hk.2) (.slice Ao116 t356.length co116)) (fun _ hk => hk.2) (.slice Ao120 t359.length co120)) (fun _ h_ => h_.1))) hb); replace HO361 := gA (Kd.R_below (by (with_reducible repeat (first | apply Kd.R_alloc | apply Kd.R_drewN | apply Kd.R_drew)); exact (Kd.R_mono (Kd.R_far (p := ⟨gb363, 1, none⟩) (Kd.R_far (p := ⟨gb363, 0, none⟩) (Kd.R_mono HO361.out (fun k_ hk => (⟨hk, hk.2⟩ : _ ∧ k_ ≠ gb363))) (fun _ hk => hk.2) (.slice Ao116 t356.length co116)) (fun _ hk => hk.2) (.slice Ao120 t359.length co120)) (fun _ h_ => h_.1))) hb); replace BK349 := gA (blk_below (g := gb349) (o := .cells #[.slice A1_0 l1_0.length c1_0, .slice A1_1 l1_1.length c1_1] 25 (0, 0)) (by refine blk_far ?_ NB349_363.out _; refine blk_far ?_ NB349_363.out _; exact gK BK349) hb); replace BK350 := gA (blk_below (g := gb350) (o := .cells #[.slice A2_0 l2_0.length c2_0, .slice A2_1 l2_1.length c2_1] 25 (0, 0)) (by refine blk_far ?_ NB350_363.out _; refine blk_far ?_ NB350_363.out _; exact gK BK350) hb); replace BK363 := gA (blk_below (g := gb363) (o := .cells #[.slice Ao116 t356.length co116, .slice Ao120 t359.length co120] 25 (0, 0)) (by refine blk_put (cs := #[.slice Ao116 t356.length co116, .slice none 0 0]) ?_ 1 _ rfl; refine blk_put (cs := #[.slice none 0 0, .slice none 0 0]) ?_ 0 _ rfl; exact gK BK363) hb); replace HB := gA (below_step (by repeat first | exact gB HB | refine below_set ?_ GE349.out | refine below_set ?_ GE350.out | refine below_set ?_ GE363.out) hb); (try clear hb); (try clear hk)))
     go_ret
     exact ⟨rfl, by repeat first | exact gB HB | refine below_set ?_ GE349.out | refine below_set ?_ GE350.out | refine below_set ?_ GE363.out⟩
end Go.Proofs.Ytahgfebdjjfkhaa.P
