/- Written by a program of this session: the functions that the laws reach, what each comes to, and each law as it is stated, for every input. No condition. -/
import Derived.Test.YtiegcghapchimaaPx0
import Derived.Test.YtiegcghapchimaaPx1
import Derived.Test.YtiegcghapchimaaPx2
import Derived.Test.YtiegcghapchimaaPx3
import Derived.Test.YtiegcghapchimaaPx8
namespace Go.Proofs.Ytiegcghapchimaa.P
open Go.RowKit Go.Proofs.YtiegcghapchimaaW.PrintWords Go.Proofs.YtiegcghapchimaaW.PrintLast Go.Proofs.YtiegcghapchimaaW.PrintMore
attribute [local go_sem] max2_int min2_int max_two min_two max_three min_three max_four min_four   -- for this text's walks alone
set_option linter.unusedVariables false
set_option linter.unusedSimpArgs false
mutual
def layout_Reshape.l0 : Nat → List (S25) → Int → Int → List Int → List (S39) → List Int → List (S39) → Option (List Int × (List (S39)) × Int)
 | 0, _, _, _, _, _, _, _ => none
 | k + 1, x16, x17, x18, x360000, x360001, x361000, x361001 => if x18 < x17 then (if 0 ≤ x18 then (if x18 < (x16.length : Int) then ((arr_Check.f k ((rd_T25 x16 x18).f0) ((rd_T25 x16 x18).f1)).bind fun t367 => (if t367 = 0 then (layout_Reshape.l0 k x16 x17 (wrap64 (x18 + 1)) x360000 x360001 x361000 x361001) else (some (([] : List Int), ([] : List (S39)), t367)))) else (none)) else (none)) else ((layout_wanted.f k x360000 x360001).bind fun bt368 => (if bt368.2 = 0 then ((arr_Size.f k bt368.1).bind fun bt372 => (if bt372.2 = 0 then (if bt372.1 > 0 then (layout_Reshape.j1 k bt368.1 bt372.1 ((x361001.length : Int) == 0) x361000 x361001) else (layout_Reshape.j1 k bt368.1 bt372.1 false x361000 x361001)) else (some (([] : List Int), ([] : List (S39)), bt372.2)))) else (some (([] : List Int), ([] : List (S39)), bt368.2))))
def layout_Reshape.j1 : Nat → List Int → Int → Bool → List Int → List (S39) → Option (List Int × (List (S39)) × Int)
 | 0, _, _, _, _, _ => none
 | k + 1, x9, x11, x54, x361000, x361001 => if x54 = true then (some (([] : List Int), ([] : List (S39)), 7)) else (layout_Reshape.l1 k x11 0 x361000 x361001 x9 ([] : List (S39)))
def layout_Reshape.l1 : Nat → Int → Int → List Int → List (S39) → List Int → List (S39) → Option (List Int × (List (S39)) × Int)
 | 0, _, _, _, _, _, _ => none
 | k + 1, x58, x59, x361000, x361001, x375000, x375001 => if x59 < x58 then (if (x361001.length : Int) = 0 then (none) else (if 0 ≤ (Int.tmod x59 (x361001.length : Int)) then (if (Int.tmod x59 (x361001.length : Int)) < (x361001.length : Int) then (if x375001.length < 3518437208883 then (layout_Reshape.l1 k x58 (wrap64 (x59 + 1)) x361000 x361001 x375000 (x375001 ++ [(⟨(rd_T39 x361001 (Int.tmod x59 (x361001.length : Int))).f0, (rd_T39 x361001 (Int.tmod x59 (x361001.length : Int))).f1, (rd_T39 x361001 (Int.tmod x59 (x361001.length : Int))).f2⟩ : S39)])) else (none)) else (none)) else (none))) else ((arr_Copy.f k x375000 x375001).bind fun bt379 => (some (bt379.1, bt379.2, 0)))
end
def layout_Reshape.f (k : Nat) (l0_0 : List Int) (l0_1 : List (S39)) (l1_0 : List Int) (l1_1 : List (S39)) : Option (List Int × (List (S39)) × Int) := (some (([(⟨l0_0, l0_1⟩ : S25), (⟨l1_0, l1_1⟩ : S25)] : List (S25)) : List (S25))).bind fun y362 => (layout_Reshape.l0 k y362 (y362.length : Int) 0 l0_0 l0_1 l1_0 l1_1)
theorem layout_Reshape.mono_l : ∀ k, (∀ y0 y1 y2 y3 y4 y5 y6, LeO (layout_Reshape.l0 k y0 y1 y2 y3 y4 y5 y6) (layout_Reshape.l0 (k + 1) y0 y1 y2 y3 y4 y5 y6)) ∧ (∀ y0 y1 y2 y3 y4, LeO (layout_Reshape.j1 k y0 y1 y2 y3 y4) (layout_Reshape.j1 (k + 1) y0 y1 y2 y3 y4)) ∧ (∀ y0 y1 y2 y3 y4 y5, LeO (layout_Reshape.l1 k y0 y1 y2 y3 y4 y5) (layout_Reshape.l1 (k + 1) y0 y1 y2 y3 y4 y5))
 | 0 => ⟨fun _ _ _ _ _ _ _ r h => by simp [layout_Reshape.l0] at h, fun _ _ _ _ _ r h => by simp [layout_Reshape.j1] at h, fun _ _ _ _ _ _ r h => by simp [layout_Reshape.l1] at h⟩
 | k + 1 => by
  obtain ⟨ih0, ih1, ih2⟩ := layout_Reshape.mono_l k
  refine ⟨?_, ?_, ?_⟩
  ·intro y0 y1 y2 y3 y4 y5 y6
   unfold layout_Reshape.l0
   repeat' first
   | (with_reducible exact ih0 _ _ _ _ _ _ _)
   | (with_reducible exact ih1 _ _ _ _ _)
   | (with_reducible exact ih2 _ _ _ _ _ _)
   | (with_reducible exact arr_Check.mono _ _ _)
   | (with_reducible exact arr_Copy.mono _ _ _)
   | (with_reducible exact arr_Size.mono _ _)
   | (with_reducible exact layout_wanted.mono _ _ _)
   | (with_reducible exact LeO.refl _)
   | (with_reducible exact LeO.none _)
   | (with_reducible refine LeO.ite ?_ ?_)
   | (with_reducible refine LeO.bind ?_ (fun _ => ?_))



   | exact arr_Check.mono _ _ _
   | exact arr_Copy.mono _ _ _
   | exact arr_Size.mono _ _
   | exact layout_wanted.mono _ _ _



  ·intro y0 y1 y2 y3 y4
   unfold layout_Reshape.j1
   repeat' first
   | (with_reducible exact ih0 _ _ _ _ _ _ _)
   | (with_reducible exact ih1 _ _ _ _ _)
   | (with_reducible exact ih2 _ _ _ _ _ _)
   | (with_reducible exact arr_Check.mono _ _ _)
   | (with_reducible exact arr_Copy.mono _ _ _)
   | (with_reducible exact arr_Size.mono _ _)
   | (with_reducible exact layout_wanted.mono _ _ _)
   | (with_reducible exact LeO.refl _)
   | (with_reducible exact LeO.none _)
   | (with_reducible refine LeO.ite ?_ ?_)
   | (with_reducible refine LeO.bind ?_ (fun _ => ?_))



   | exact arr_Check.mono _ _ _
   | exact arr_Copy.mono _ _ _
   | exact arr_Size.mono _ _
   | exact layout_wanted.mono _ _ _



  ·intro y0 y1 y2 y3 y4 y5
   unfold layout_Reshape.l1
   repeat' first
   | (with_reducible exact ih0 _ _ _ _ _ _ _)
   | (with_reducible exact ih1 _ _ _ _ _)
   | (with_reducible exact ih2 _ _ _ _ _ _)
   | (with_reducible exact arr_Check.mono _ _ _)
   | (with_reducible exact arr_Copy.mono _ _ _)
   | (with_reducible exact arr_Size.mono _ _)
   | (with_reducible exact layout_wanted.mono _ _ _)
   | (with_reducible exact LeO.refl _)
   | (with_reducible exact LeO.none _)
   | (with_reducible refine LeO.ite ?_ ?_)
   | (with_reducible refine LeO.bind ?_ (fun _ => ?_))



   | exact arr_Check.mono _ _ _
   | exact arr_Copy.mono _ _ _
   | exact arr_Size.mono _ _
   | exact layout_wanted.mono _ _ _
theorem layout_Reshape.mono : ∀ a0 a1 a2 a3 k, LeO (layout_Reshape.f k a0 a1 a2 a3) (layout_Reshape.f (k + 1) a0 a1 a2 a3) := by
 intro a0 a1 a2 a3 k
 obtain ⟨ih0, ih1, ih2⟩ := layout_Reshape.mono_l k
 unfold layout_Reshape.f
 repeat' first
   | (with_reducible exact ih0 _ _ _ _ _ _ _)
   | (with_reducible exact ih1 _ _ _ _ _)
   | (with_reducible exact ih2 _ _ _ _ _ _)
   | (with_reducible exact arr_Check.mono _ _ _)
   | (with_reducible exact arr_Copy.mono _ _ _)
   | (with_reducible exact arr_Size.mono _ _)
   | (with_reducible exact layout_wanted.mono _ _ _)
   | (with_reducible exact LeO.refl _)
   | (with_reducible exact LeO.none _)
   | (with_reducible refine LeO.ite ?_ ?_)
   | (with_reducible refine LeO.bind ?_ (fun _ => ?_))



   | exact arr_Check.mono _ _ _
   | exact arr_Copy.mono _ _ _
   | exact arr_Size.mono _ _
   | exact layout_wanted.mono _ _ _
def layout_Reshape.T20 : Bool × List (List Nat × List Nat) := (true, [([], []), ([0], [0]), ([], []), ([2], [2]), ([], []), ([], []), ([5], [5]), ([6], [6]), ([4, 7], [4, 7]), ([3, 8], [3, 8]), ([9], [9]), ([10], [10]), ([1, 11], [1, 11]), ([0, 1, 2, 3, 4, 5, 6, 7, 8, 9, 10, 11, 12], []), ([13, 12, 12, 0, 1, 2, 3, 4, 5, 6, 7, 8, 9, 10, 11, 12], [12, 13])])
def layout_Reshape.B20 : List Nat := [0, 1, 0, 4, 0, 0, 32, 96, 240, 508, 1020, 2044, 4095, 8191, 16383]
theorem layout_Reshape.tab20 : rtab .any (opsOf Try.f14 20) = layout_Reshape.T20 := by kernel_rfl
theorem layout_Reshape.bits20 : waitsOk layout_Reshape.T20.2 layout_Reshape.B20 = true := by kernel_rfl
set_option maxHeartbeats 8000000 in
set_option maxRecDepth 100000 in
theorem layout_Reshape.calls (k : Nat) (P0_0_ : Nat → Prop) (A0_0 : Option Addr) (c0_0 : Nat) (l0_0 : List Int) (P0_1_ : Nat → Prop) (A0_1 : Option Addr) (c0_1 : Nat) (l0_1 : List (S39)) (P1_0_ : Nat → Prop) (A1_0 : Option Addr) (c1_0 : Nat) (l1_0 : List Int) (P1_1_ : Nat → Prop) (A1_1 : Option Addr) (c1_1 : Nat) (l1_1 : List (S39)) (r1 : List Int) (r2 : List (S39)) (r3 : Int) (w : World) (hs0_0 : Kd.V (Kd.int .i64) 3 w w.heap.size (fun k_ => P0_0_ k_) (.slice A0_0 l0_0.length c0_0) l0_0) (hs0_1 : Kd.V k39 39 w w.heap.size (fun k_ => P0_1_ k_) (.slice A0_1 l0_1.length c0_1) l0_1) (hs1_0 : Kd.V (Kd.int .i64) 3 w w.heap.size (fun k_ => P1_0_ k_) (.slice A1_0 l1_0.length c1_0) l1_0) (hs1_1 : Kd.V k39 39 w w.heap.size (fun k_ => P1_1_ k_) (.slice A1_1 l1_1.length c1_1) l1_1) (h : layout_Reshape.f k l0_0 l0_1 l1_0 l1_1 = some (r1, r2, r3)) :
  Calls Try.prog 14 #[.agg #[.slice A0_0 l0_0.length c0_0, .slice A0_1 l0_1.length c0_1], .agg #[.slice A1_0 l1_0.length c1_0, .slice A1_1 l1_1.length c1_1]] w fun e w' => ∃ v0_ v1_ : Value, e = .returned (.tuple #[.agg #[v0_, v1_], .int .i64 r3]) ∧ Kd.R (Kd.int .i64) 3 w' w.heap.size (fun k_ => (w.heap.size ≤ k_)) v0_ r1 ∧ Kd.N k39 39 w' w.heap.size (fun k_ => ((P0_0_ k_ ∨ P0_1_ k_ ∨ P1_0_ k_ ∨ P1_1_ k_) ∨ w.heap.size ≤ k_) ∧ some k_ ≠ (v0_ : Value).ownBlock) v1_ r2 ∧ Below w.heap.size w w' := by
 have hu25 := Try.underlying25
 have hu39 := Try.underlying39
 have HO0_0 := gA (show Kd.V (Kd.int .i64) 3 w w.heap.size (fun k_ => ((P0_0_ k_ ∨ P0_1_ k_ ∨ P1_0_ k_ ∨ P1_1_ k_) ∨ w.heap.size ≤ k_)) (.slice A0_0 l0_0.length c0_0) l0_0 from Kd.V_mono hs0_0 (fun k_ hk => .inl (.inl hk)))
 have HO0_1 := gA (show Kd.V k39 39 w w.heap.size (fun k_ => ((P0_0_ k_ ∨ P0_1_ k_ ∨ P1_0_ k_ ∨ P1_1_ k_) ∨ w.heap.size ≤ k_)) (.slice A0_1 l0_1.length c0_1) l0_1 from Kd.V_mono hs0_1 (fun k_ hk => .inl (.inr (.inl hk))))
 have HO1_0 := gA (show Kd.V (Kd.int .i64) 3 w w.heap.size (fun k_ => ((P0_0_ k_ ∨ P0_1_ k_ ∨ P1_0_ k_ ∨ P1_1_ k_) ∨ w.heap.size ≤ k_)) (.slice A1_0 l1_0.length c1_0) l1_0 from Kd.V_mono hs1_0 (fun k_ hk => .inl (.inr (.inr (.inl hk)))))
 have HO1_1 := gA (show Kd.V k39 39 w w.heap.size (fun k_ => ((P0_0_ k_ ∨ P0_1_ k_ ∨ P1_0_ k_ ∨ P1_1_ k_) ∨ w.heap.size ≤ k_)) (.slice A1_1 l1_1.length c1_1) l1_1 from Kd.V_mono hs1_1 (fun k_ hk => .inl (.inr (.inr (.inr hk)))))
 have HB := gA (Below.refl w.heap.size w)
 have H : ((some (([(⟨l0_0, l0_1⟩ : S25), (⟨l1_0, l1_1⟩ : S25)] : List (S25)) : List (S25))).bind fun y362 => (layout_Reshape.l0 k y362 (y362.length : Int) 0 l0_0 l0_1 l1_0 l1_1)) = some (r1, r2, r3) := h
 clear h
 obtain ⟨y362, hy362⟩ : ∃ y_ : List (S25), y_ = (([(⟨l0_0, l0_1⟩ : S25), (⟨l1_0, l1_1⟩ : S25)] : List (S25))) := ⟨_, rfl⟩
 replace H : (layout_Reshape.l0 k y362 (y362.length : Int) 0 l0_0 l0_1 l1_0 l1_1) = some (r1, r2, r3) := by first | (rw [hy362]; with_reducible exact H) | (have H2_ := (Option.bind_some _ _).symm.trans H; rw [hy362]; with_reducible exact H2_) | (have H2_ := (Option.bind_some _ _).symm.trans H; with_reducible exact H2_) | with_reducible exact H | (rw [hy362]; exact H) | exact H
 have Ny362 := gA hy362
 clear hy362
 have H' := gA H
 clear H
 go_enter Try.func14, Try.ntmps14
 go_wp2_with (first | ((with_reducible refine gate_dst (N := 2) rfl ?_); (try (refine gate_guard (by rfl) ?_; dsimp only)); refine box_event ?hg (N := 2) ?hd (cs := #[.slice A0_0 l0_0.length c0_0, .slice A0_1 l0_1.length c0_1]) (t := 25) ?hr ?_; (case hd => rfl); (case hg => rfl); (case hr => first | (go_simp; done) | (go_simp; rfl)); intro gb359 hg w3 hbox hb; replace HO0_0 := gA (Kd.V_below (Kd.V_elderB (gV HO0_0) gb359 (Nat.le_of_eq hg.symm)) hb); replace HO0_1 := gA (Kd.V_below (Kd.V_elderB (gV HO0_1) gb359 (Nat.le_of_eq hg.symm)) hb); replace HO1_0 := gA (Kd.V_below (Kd.V_elderB (gV HO1_0) gb359 (Nat.le_of_eq hg.symm)) hb); replace HO1_1 := gA (Kd.V_below (Kd.V_elderB (gV HO1_1) gb359 (Nat.le_of_eq hg.symm)) hb); have BK359 := gA (hbox); have GW359 := gA ((by rw [hg]; exact (below_size (gB HB)) : w.heap.size ≤ gb359)); have GE359 := gA ((by rw [hg]; exact (below_size (gB HB)) : w.heap.size ≤ gb359)); replace HB := gA (below_step (gB HB) hb); clear hb hbox hg) | ((with_reducible refine gate_dst (N := 3) rfl ?_); (try (refine gate_guard (by rfl) ?_; dsimp only)); refine box_event ?hg (N := 3) ?hd (cs := #[.slice A1_0 l1_0.length c1_0, .slice A1_1 l1_1.length c1_1]) (t := 25) ?hr ?_; (case hd => rfl); (case hg => rfl); (case hr => first | (go_simp; done) | (go_simp; rfl)); intro gb360 hg w4 hbox hb; replace HO0_0 := gA (Kd.V_below (Kd.V_elderB (gV HO0_0) gb360 (Nat.le_of_eq hg.symm)) hb); replace HO0_1 := gA (Kd.V_below (Kd.V_elderB (gV HO0_1) gb360 (Nat.le_of_eq hg.symm)) hb); replace HO1_0 := gA (Kd.V_below (Kd.V_elderB (gV HO1_0) gb360 (Nat.le_of_eq hg.symm)) hb); replace HO1_1 := gA (Kd.V_below (Kd.V_elderB (gV HO1_1) gb360 (Nat.le_of_eq hg.symm)) hb); have BK360 := gA (hbox); have GW360 := gA ((by rw [hg]; exact (below_size (gB HB)) : w.heap.size ≤ gb360)); have GE360 := gA ((by rw [hg]; exact (below_size (gB HB)) : w.heap.size ≤ gb360)); replace HB := gA (below_step (gB HB) hb); have NB359_360 := gA ((by rw [hg]; exact Nat.ne_of_lt (blk_lt (gK BK359)) : gb359 ≠ gb360)); have NB360_359 := gA ((by rw [hg]; exact Nat.ne_of_gt (blk_lt (gK BK359)) : gb360 ≠ gb359)); replace BK359 := gA (blk_below (gK BK359) hb); clear hb hbox hg) | ((with_reducible refine gate_dst (N := 4) rfl ?_); (try (refine gate_guard (by rfl) ?_; dsimp only)); refine box_event ?hg (N := 4) ?hd (cs := #[.slice none 0 0, .slice none 0 0]) (t := 25) ?hr ?_; (case hd => rfl); (case hg => rfl); (case hr => first | (go_simp; done) | (go_simp; rfl)); intro gb361 hg w5 hbox hb; replace HO0_0 := gA (Kd.V_below (Kd.V_elderB (gV HO0_0) gb361 (Nat.le_of_eq hg.symm)) hb); replace HO0_1 := gA (Kd.V_below (Kd.V_elderB (gV HO0_1) gb361 (Nat.le_of_eq hg.symm)) hb); replace HO1_0 := gA (Kd.V_below (Kd.V_elderB (gV HO1_0) gb361 (Nat.le_of_eq hg.symm)) hb); replace HO1_1 := gA (Kd.V_below (Kd.V_elderB (gV HO1_1) gb361 (Nat.le_of_eq hg.symm)) hb); have BK361 := gA (hbox); have GW361 := gA ((by rw [hg]; exact (below_size (gB HB)) : w.heap.size ≤ gb361)); have GE361 := gA ((by rw [hg]; exact (below_size (gB HB)) : w.heap.size ≤ gb361)); replace HB := gA (below_step (gB HB) hb); have NB359_361 := gA ((by rw [hg]; exact Nat.ne_of_lt (blk_lt (gK BK359)) : gb359 ≠ gb361)); have NB361_359 := gA ((by rw [hg]; exact Nat.ne_of_gt (blk_lt (gK BK359)) : gb361 ≠ gb359)); replace BK359 := gA (blk_below (gK BK359) hb); have NB360_361 := gA ((by rw [hg]; exact Nat.ne_of_lt (blk_lt (gK BK360)) : gb360 ≠ gb361)); have NB361_360 := gA ((by rw [hg]; exact Nat.ne_of_gt (blk_lt (gK BK360)) : gb361 ≠ gb360)); replace BK360 := gA (blk_below (gK BK360) hb); clear hb hbox hg; have hnb6 := NB359_360.out; have hnc6 := NB360_359.out; have hnb7 := NB359_361.out; have hnc7 := NB361_359.out; obtain ⟨hcz8_0, hcz8_1, hfz8_0, hfz8_1⟩ := gz2 BK359; have hnb9 := NB360_361.out; have hnc9 := NB361_360.out; obtain ⟨hcz10_0, hcz10_1, hfz10_0, hfz10_1⟩ := gz2 BK360) | ((with_reducible refine gate_dst (N := 16) rfl ?_); (try (refine gate_guard (by rfl) ?_; dsimp only)); refine Kd.N_lit k25 _ 25 ?hg (N' := 16) ?hd (xs := ([(⟨l0_0, l0_1⟩ : S25), (⟨l1_0, l1_1⟩ : S25)] : List (S25))) (inner := [.slice A0_0 l0_0.length c0_0, .slice A0_1 l0_1.length c0_1, .slice A1_0 l1_0.length c1_0, .slice A1_1 l1_1.length c1_1]) (ok := (fun k_ => ((P0_0_ k_ ∨ P0_1_ k_ ∨ P1_0_ k_ ∨ P1_1_ k_) ∨ w.heap.size ≤ k_) ∧ k_ ≠ gb359 ∧ k_ ≠ gb360 ∧ k_ ≠ gb361)) (okp := (fun k_ => ((P0_0_ k_ ∨ P0_1_ k_ ∨ P1_0_ k_ ∨ P1_1_ k_) ∨ w.heap.size ≤ k_) ∧ k_ ≠ gb359 ∧ k_ ≠ gb360 ∧ k_ ≠ gb361)) ?hr ?hp (fun _ hk => hk) ((show ∀ k_, w5.heap.size ≤ k_ → (fun k_ => ((P0_0_ k_ ∨ P0_1_ k_ ∨ P1_0_ k_ ∨ P1_1_ k_) ∨ w.heap.size ≤ k_) ∧ k_ ≠ gb359 ∧ k_ ≠ gb360 ∧ k_ ≠ gb361) k_ from fun k_ hk => ⟨(.inr (Nat.le_trans (below_size (gB HB)) hk)), Kd.freshB (gK BK359) k_ hk, Kd.freshB (gK BK360) k_ hk, Kd.freshB (gK BK361) k_ hk⟩) _ (Nat.le_refl _)) (Below.refl _ _) (Nat.le_refl _) (by simp) ?_; (case hd => rfl); (case hg => rfl); (case hr => first | (go_simp; done) | (go_simp; rfl)); (case hp => exact (Reps.c2 (show Kd.FK k25 _ _ (⟨l0_0, l0_1⟩ : S25) [.slice A0_0 l0_0.length c0_0, .slice A0_1 l0_1.length c0_1] from (k25_mkF _ _ (⟨l0_0, l0_1⟩ : S25) (Kd.V_reads' (Kd.V_mono (ok' := (fun k_ => ((P0_0_ k_ ∨ P0_1_ k_ ∨ P1_0_ k_ ∨ P1_1_ k_) ∨ w.heap.size ≤ k_) ∧ k_ ≠ gb359 ∧ k_ ≠ gb360 ∧ k_ ≠ gb361)) (HO0_0.out) (fun k_ hk => ⟨hk.1.1.1, ⟨hk.1.1.2, ⟨hk.1.2, hk.2⟩⟩⟩))).2.1 (Kd.V_F (Kd.V_mono (ok' := (fun k_ => ((P0_0_ k_ ∨ P0_1_ k_ ∨ P1_0_ k_ ∨ P1_1_ k_) ∨ w.heap.size ≤ k_) ∧ k_ ≠ gb359 ∧ k_ ≠ gb360 ∧ k_ ≠ gb361)) (HO0_0.out) (fun k_ hk => ⟨hk.1.1.1, ⟨hk.1.1.2, ⟨hk.1.2, hk.2⟩⟩⟩))) (Kd.V_reads' (Kd.V_mono (ok' := (fun k_ => ((P0_0_ k_ ∨ P0_1_ k_ ∨ P1_0_ k_ ∨ P1_1_ k_) ∨ w.heap.size ≤ k_) ∧ k_ ≠ gb359 ∧ k_ ≠ gb360 ∧ k_ ≠ gb361)) (HO0_1.out) (fun k_ hk => ⟨hk.1.1.1, ⟨hk.1.1.2, ⟨hk.1.2, hk.2⟩⟩⟩))).2.1 (Kd.V_F (Kd.V_mono (ok' := (fun k_ => ((P0_0_ k_ ∨ P0_1_ k_ ∨ P1_0_ k_ ∨ P1_1_ k_) ∨ w.heap.size ≤ k_) ∧ k_ ≠ gb359 ∧ k_ ≠ gb360 ∧ k_ ≠ gb361)) (HO0_1.out) (fun k_ hk => ⟨hk.1.1.1, ⟨hk.1.1.2, ⟨hk.1.2, hk.2⟩⟩⟩))))) (Reps.c2 (show Kd.FK k25 _ _ (⟨l1_0, l1_1⟩ : S25) [.slice A1_0 l1_0.length c1_0, .slice A1_1 l1_1.length c1_1] from (k25_mkF _ _ (⟨l1_0, l1_1⟩ : S25) (Kd.V_reads' (Kd.V_mono (ok' := (fun k_ => ((P0_0_ k_ ∨ P0_1_ k_ ∨ P1_0_ k_ ∨ P1_1_ k_) ∨ w.heap.size ≤ k_) ∧ k_ ≠ gb359 ∧ k_ ≠ gb360 ∧ k_ ≠ gb361)) (HO1_0.out) (fun k_ hk => ⟨hk.1.1.1, ⟨hk.1.1.2, ⟨hk.1.2, hk.2⟩⟩⟩))).2.1 (Kd.V_F (Kd.V_mono (ok' := (fun k_ => ((P0_0_ k_ ∨ P0_1_ k_ ∨ P1_0_ k_ ∨ P1_1_ k_) ∨ w.heap.size ≤ k_) ∧ k_ ≠ gb359 ∧ k_ ≠ gb360 ∧ k_ ≠ gb361)) (HO1_0.out) (fun k_ hk => ⟨hk.1.1.1, ⟨hk.1.1.2, ⟨hk.1.2, hk.2⟩⟩⟩))) (Kd.V_reads' (Kd.V_mono (ok' := (fun k_ => ((P0_0_ k_ ∨ P0_1_ k_ ∨ P1_0_ k_ ∨ P1_1_ k_) ∨ w.heap.size ≤ k_) ∧ k_ ≠ gb359 ∧ k_ ≠ gb360 ∧ k_ ≠ gb361)) (HO1_1.out) (fun k_ hk => ⟨hk.1.1.1, ⟨hk.1.1.2, ⟨hk.1.2, hk.2⟩⟩⟩))).2.1 (Kd.V_F (Kd.V_mono (ok' := (fun k_ => ((P0_0_ k_ ∨ P0_1_ k_ ∨ P1_0_ k_ ∨ P1_1_ k_) ∨ w.heap.size ≤ k_) ∧ k_ ≠ gb359 ∧ k_ ≠ gb360 ∧ k_ ≠ gb361)) (HO1_1.out) (fun k_ hk => ⟨hk.1.1.1, ⟨hk.1.1.2, ⟨hk.1.2, hk.2⟩⟩⟩))))) (Reps.none _ _)))); intro v363 w11 ho12 hb hg_ hnew_; clear hg_ hnew_; (first | rw [← Ny362.out] at ho12 | (simp only [Int.reduceToNat] at ho12; rw [← Ny362.out] at ho12)); replace HO0_0 := gA (Kd.V_elder' (gV HO0_0) (Kd.N_base ho12) hb); replace HO0_1 := gA (Kd.V_elder' (gV HO0_1) (Kd.N_base ho12) hb); replace HO1_0 := gA (Kd.V_elder' (gV HO1_0) (Kd.N_base ho12) hb); replace HO1_1 := gA (Kd.V_elder' (gV HO1_1) (Kd.N_base ho12) hb); have HO364 := gA (Kd.N_lower ho12 (below_size (gB HB))); replace BK359 := gA (blk_below (gK BK359) hb); replace BK360 := gA (blk_below (gK BK360) hb); replace BK361 := gA (blk_below (gK BK361) hb); replace HB := gA (below_step (gB HB) hb); clear hb ho12; obtain ⟨Ao13, co13, eo13⟩ := Kd.N_slice HO364.out; subst eo13))
 go_loopg [18] k (fun kq v18 w' => ∃ (x18_1 : Int), v18 = .int .i64 x18_1 ∧ Aside0 (layout_Reshape.l0 kq y362 (y362.length : Int) x18_1 l0_0 l0_1 l1_0 l1_1 = some (r1, r2, r3)) ∧ Aside0 (kq ≤ k) ∧ Aside0 (Kd.N k25 25 w' w.heap.size (fun k_ => ((P0_0_ k_ ∨ P0_1_ k_ ∨ P1_0_ k_ ∨ P1_1_ k_) ∨ w.heap.size ≤ k_) ∧ k_ ≠ gb359 ∧ k_ ≠ gb360 ∧ k_ ≠ gb361) (.slice Ao13 y362.length co13) y362) ∧ Aside0 (Kd.V (Kd.int .i64) 3 w' w.heap.size (fun k_ => ((P0_0_ k_ ∨ P0_1_ k_ ∨ P1_0_ k_ ∨ P1_1_ k_) ∨ w.heap.size ≤ k_) ∧ some k_ ≠ ((.slice Ao13 y362.length co13) : Value).ownBlock ∧ k_ ≠ gb359 ∧ k_ ≠ gb360 ∧ k_ ≠ gb361) (.slice A0_0 l0_0.length c0_0) l0_0) ∧ Aside0 (Kd.V k39 39 w' w.heap.size (fun k_ => ((P0_0_ k_ ∨ P0_1_ k_ ∨ P1_0_ k_ ∨ P1_1_ k_) ∨ w.heap.size ≤ k_) ∧ some k_ ≠ ((.slice Ao13 y362.length co13) : Value).ownBlock ∧ k_ ≠ gb359 ∧ k_ ≠ gb360 ∧ k_ ≠ gb361) (.slice A0_1 l0_1.length c0_1) l0_1) ∧ Aside0 (Kd.V (Kd.int .i64) 3 w' w.heap.size (fun k_ => ((P0_0_ k_ ∨ P0_1_ k_ ∨ P1_0_ k_ ∨ P1_1_ k_) ∨ w.heap.size ≤ k_) ∧ some k_ ≠ ((.slice Ao13 y362.length co13) : Value).ownBlock ∧ k_ ≠ gb359 ∧ k_ ≠ gb360 ∧ k_ ≠ gb361) (.slice A1_0 l1_0.length c1_0) l1_0) ∧ Aside0 (Kd.V k39 39 w' w.heap.size (fun k_ => ((P0_0_ k_ ∨ P0_1_ k_ ∨ P1_0_ k_ ∨ P1_1_ k_) ∨ w.heap.size ≤ k_) ∧ some k_ ≠ ((.slice Ao13 y362.length co13) : Value).ownBlock ∧ k_ ≠ gb359 ∧ k_ ≠ gb360 ∧ k_ ≠ gb361) (.slice A1_1 l1_1.length c1_1) l1_1) ∧ Aside0 (w'.heap[gb359]? = some (.cells #[(.slice A0_0 l0_0.length c0_0), (.slice A0_1 l0_1.length c0_1)] 25 (0, 0))) ∧ Aside0 (w'.heap[gb360]? = some (.cells #[(.slice A1_0 l1_0.length c1_0), (.slice A1_1 l1_1.length c1_1)] 25 (0, 0))) ∧ Aside0 (w'.heap[gb361]? = some (.cells #[(.slice none 0 0), (.slice none 0 0)] 25 (0, 0))) ∧ Aside0 (Below w.heap.size w w'))
 case atStart => exact ⟨(0), (rfl), H', ⟨Nat.le_refl _⟩, ⟨gN HO364⟩, ⟨Kd.V_mono HO0_0.out (fun _ hk => by first | exact ⟨hk.1.1.1.1, ⟨hk.2, ⟨hk.1.1.1.2, ⟨hk.1.1.2, hk.1.2⟩⟩⟩⟩ | (simp_all; done))⟩, ⟨Kd.V_mono HO0_1.out (fun _ hk => by first | exact ⟨hk.1.1.1.1, ⟨hk.2, ⟨hk.1.1.1.2, ⟨hk.1.1.2, hk.1.2⟩⟩⟩⟩ | (simp_all; done))⟩, ⟨Kd.V_mono HO1_0.out (fun _ hk => by first | exact ⟨hk.1.1.1.1, ⟨hk.2, ⟨hk.1.1.1.2, ⟨hk.1.1.2, hk.1.2⟩⟩⟩⟩ | (simp_all; done))⟩, ⟨Kd.V_mono HO1_1.out (fun _ hk => by first | exact ⟨hk.1.1.1.1, ⟨hk.2, ⟨hk.1.1.1.2, ⟨hk.1.1.2, hk.1.2⟩⟩⟩⟩ | (simp_all; done))⟩, ⟨gK BK359⟩, ⟨gK BK360⟩, ⟨gK BK361⟩, ⟨by repeat first | exact gB HB | refine below_set ?_ GE359.out | refine below_set ?_ GE360.out | refine below_set ?_ GE361.out⟩⟩
 case round =>
  clear H'
  try clear c1
  try clear c2
  try clear p2
  try clear c6
  try clear c7
  try clear c9
  try clear hcz10_0
  try clear hcz10_1
  try clear hcz8_0
  try clear hcz8_1
  try clear hfz10_0
  try clear hfz10_1
  try clear hfz8_0
  try clear hfz8_1
  obtain ⟨x18_1, rfl, HA, HK1, HO_16, HO_360000, HO_360001, HO_361000, HO_361001, BK359, BK360, BK361, HB⟩ := hrel
  cases gk with
  | zero => exact absurd HA.out (by simp [layout_Reshape.l0])
  | succ k1 =>
   have H := HA.out; clear HA
   simp only [layout_Reshape.l0] at H
   by_cases c14 : x18_1 < (y362.length : Int)
   ·rw [if_pos c14] at H
    have c14b0 := decide_eq_true c14
    clear c14
    obtain ⟨c15, H⟩ := iS H
    have c15b0 := decide_eq_true c15
    clear c15
    obtain ⟨c16, H⟩ := iS H
    have c16b0 := decide_eq_true c16
    clear c16
    replace H := Option.bind_eq_some_iff.mp H
    obtain ⟨t367, A170, H⟩ := H
    replace H : (if t367 = 0 then (layout_Reshape.l0 k1 y362 (y362.length : Int) (wrap64 (x18_1 + 1)) l0_0 l0_1 l1_0 l1_1) else (some (([] : List Int), ([] : List (S39)), t367))) = some (r1, r2, r3) := H
    have A17 := gA A170
    clear A170
    by_cases c18 : t367 = 0
    ·rw [if_pos c18] at H
     have c18b0 : (t367 == 0) = true := beq_iff_eq.mpr c18
     have c18b1 : (t367 != 0) = false := bne_eq_false_iff_eq.mpr c18
     clear c18
     have H' := gA H
     clear H
     have p365 : 0 ≤ (x18_1 : Int) := of_decide_eq_true (by assumption)
     have q365 : x18_1 < (y362.length : Int) := of_decide_eq_true (by assumption)
     obtain ⟨ad365, A365_0, c365_0, A365_1, c365_1, e365, hx365_0, hx365_1, hl365_0, hi365_0, hl365_1, hi365_1⟩ := at_T25 (Kd.N_reads' HO_16.out).2.2 x18_1 p365 q365
     cases e365
     obtain ⟨ce365, hce365, hMe365, hcc365⟩ := Kd.N_get HO_16.out z25 x18_1 p365 (by first | exact q365 | exact of_decide_eq_true (by assumption) | (have e_ := (Kd.N_reads' HO_16.out).1; omega))
     obtain ⟨ua365_0, uc365_0, ua365_1, uc365_1, rfl, ul365_0, ge365_0, ul365_1, ge365_1⟩ := k25_openF hMe365
     have hv365_0 := hcc365 0 _ rfl
     rw [Nat.add_zero] at hv365_0
     replace hv365_0 := Option.some.inj (hv365_0.symm.trans hx365_0)
     injection hv365_0 with hva_ hvn_ hvc_
     rw [hva_] at ge365_0
     rw [hvc_] at ul365_0
     have HL365_0 := gA (show Kd.V (Kd.int .i64) 3 _ w.heap.size _ _ ((rd_T25 y362 x18_1).f0) from Kd.V_mk ul365_0 ge365_0)
     clear hva_ hvn_ hvc_ ge365_0 ul365_0
     have hv365_1 := hcc365 1 _ rfl
     rw [add_field _ _ 1 (by omega)] at hv365_1
     replace hv365_1 := Option.some.inj (hv365_1.symm.trans hx365_1)
     injection hv365_1 with hva_ hvn_ hvc_
     rw [hva_] at ge365_1
     rw [hvc_] at ul365_1
     have HL365_1 := gA (show Kd.V k39 39 _ w.heap.size _ _ ((rd_T25 y362 x18_1).f1) from Kd.V_mk ul365_1 ge365_1)
     clear hva_ hvn_ hvc_ ge365_1 ul365_1 hcc365 hce365
     have HR365_0 := gA hi365_0
     have HC365_0 := gA hl365_0
     clear hi365_0 hl365_0
     have HR365_1 := gA hi365_1
     have HC365_1 := gA hl365_1
     clear hi365_1 hl365_1
     replace p365 := eq_true p365
     replace q365 := eq_true q365
     go_wp2_with (first | ((with_reducible refine gate_dst (N := 7) rfl ?_); (try (refine gate_guard (by rfl) ?_; dsimp only)); refine box_event ?hg (N := 7) ?hd (cs := #[.slice none 0 0, .slice none 0 0]) (t := 25) ?hr ?_; (case hd => rfl); (case hg => rfl); (case hr => first | (go_simp; done) | (go_simp; rfl)); intro gb366 hg w19 hbox hb; replace HO_16 := gA (Kd.N_below (Kd.N_elderB (gN HO_16) gb366 (Nat.le_of_eq hg.symm)) hb); replace HO_360000 := gA (Kd.V_below (Kd.V_elderB (gV HO_360000) gb366 (Nat.le_of_eq hg.symm)) hb); replace HO_360001 := gA (Kd.V_below (Kd.V_elderB (gV HO_360001) gb366 (Nat.le_of_eq hg.symm)) hb); replace HO_361000 := gA (Kd.V_below (Kd.V_elderB (gV HO_361000) gb366 (Nat.le_of_eq hg.symm)) hb); replace HO_361001 := gA (Kd.V_below (Kd.V_elderB (gV HO_361001) gb366 (Nat.le_of_eq hg.symm)) hb); replace HL365_0 := gA (Kd.V_below (Kd.V_elderB (gV HL365_0) gb366 (Nat.le_of_eq hg.symm)) hb); replace HL365_1 := gA (Kd.V_below (Kd.V_elderB (gV HL365_1) gb366 (Nat.le_of_eq hg.symm)) hb); replace HR365_0 := gA (Kd.C_below (by repeat (first | (with_reducible exact HR365_0.out) | (with_reducible refine Kd.C_alloc ?_ _) | (with_reducible refine Kd.C_drewN ?_ _) | (with_reducible refine Kd.C_drew ?_) | exact HR365_0.out)) hb); replace HR365_1 := gA (Kd.C_below (by repeat (first | (with_reducible exact HR365_1.out) | (with_reducible refine Kd.C_alloc ?_ _) | (with_reducible refine Kd.C_drewN ?_ _) | (with_reducible refine Kd.C_drew ?_) | exact HR365_1.out)) hb); have BK366 := gA (hbox); have GW366 := gA ((by rw [hg]; exact (below_size (gB HB)) : w.heap.size ≤ gb366)); have GE366 := gA ((by rw [hg]; exact (below_size (gB HB)) : w.heap.size ≤ gb366)); replace HB := gA (below_step (gB HB) hb); have NB359_366 := gA ((by rw [hg]; exact Nat.ne_of_lt (blk_lt (gK BK359)) : gb359 ≠ gb366)); have NB366_359 := gA ((by rw [hg]; exact Nat.ne_of_gt (blk_lt (gK BK359)) : gb366 ≠ gb359)); replace BK359 := gA (blk_below (gK BK359) hb); have NB360_366 := gA ((by rw [hg]; exact Nat.ne_of_lt (blk_lt (gK BK360)) : gb360 ≠ gb366)); have NB366_360 := gA ((by rw [hg]; exact Nat.ne_of_gt (blk_lt (gK BK360)) : gb366 ≠ gb360)); replace BK360 := gA (blk_below (gK BK360) hb); have NB361_366 := gA ((by rw [hg]; exact Nat.ne_of_lt (blk_lt (gK BK361)) : gb361 ≠ gb366)); have NB366_361 := gA ((by rw [hg]; exact Nat.ne_of_gt (blk_lt (gK BK361)) : gb366 ≠ gb361)); replace BK361 := gA (blk_below (gK BK361) hb); clear hb hbox hg; have hnb20 := NB366_359.out; have hnc20 := NB359_366.out; have hnb21 := NB366_360.out; have hnc21 := NB360_366.out; have hnb22 := NB366_361.out; have hnc22 := NB361_366.out; obtain ⟨hcz23_0, hcz23_1, hfz23_0, hfz23_1⟩ := gz2 BK366) | ((with_reducible refine gate_callee (f := 21) rfl ?_); refine goesL_ (some 23) rfl rfl Try.func21 (by kernel_rfl) rfl #[.agg #[.slice A365_0 ((rd_T25 y362 x18_1).f0).length c365_0, .slice A365_1 ((rd_T25 y362 x18_1).f1).length c365_1]] rfl (by (try simp only [List.map_toArray, List.map_cons, List.map_nil]); first | done | rfl | (simp only [List.length_drop, List.length_take]; rfl)) ?_; (with_reducible refine (arr_Check.calls k1 _ _ ((rd_T25 y362 x18_1).f0) _ _ ((rd_T25 y362 x18_1).f1) t367 _ ?side1 ?side2 ?side3 ?side4 A17.out).mono ?_); (case side1 => repeat (first | exact ((Kd.V_reads' (by (with_reducible repeat (first | apply Kd.V_alloc | apply Kd.V_drewN | apply Kd.V_drew)); exact (Kd.V_mono (Kd.V_far (p := ⟨gb366, 1, none⟩) (Kd.V_far (p := ⟨gb366, 0, none⟩) (Kd.V_mono HL365_0.out (fun k_ hk => (⟨hk, hk.2⟩ : _ ∧ k_ ≠ gb366))) (fun _ hk => hk.2) (.slice A365_0 ((rd_T25 y362 x18_1).f0).length c365_0)) (fun _ hk => hk.2) (.slice A365_1 ((rd_T25 y362 x18_1).f1).length c365_1)) (fun _ h_ => h_.1)))).2.2) | (with_reducible refine Kd.C_alloc ?_ _) | (with_reducible refine Kd.C_drewN ?_ _) | (with_reducible refine Kd.C_drew ?_))); (case side2 => exact HC365_0.out); (case side3 => repeat (first | exact ((Kd.V_reads' (by (with_reducible repeat (first | apply Kd.V_alloc | apply Kd.V_drewN | apply Kd.V_drew)); exact (Kd.V_mono (Kd.V_far (p := ⟨gb366, 1, none⟩) (Kd.V_far (p := ⟨gb366, 0, none⟩) (Kd.V_mono HL365_1.out (fun k_ hk => (⟨hk, hk.2⟩ : _ ∧ k_ ≠ gb366))) (fun _ hk => hk.2) (.slice A365_0 ((rd_T25 y362 x18_1).f0).length c365_0)) (fun _ hk => hk.2) (.slice A365_1 ((rd_T25 y362 x18_1).f1).length c365_1)) (fun _ h_ => h_.1)))).2.2) | (with_reducible refine Kd.C_alloc ?_ _) | (with_reducible refine Kd.C_drewN ?_ _) | (with_reducible refine Kd.C_drew ?_))); (case side4 => exact HC365_1.out); rintro e w24 ⟨rfl, hb⟩; refine ⟨_, rfl, ?_⟩; replace HO_16 := gA (Kd.N_below (by (with_reducible repeat (first | apply Kd.N_alloc | apply Kd.N_drewN | apply Kd.N_drew)); exact (Kd.N_mono (Kd.N_far (p := ⟨gb366, 1, none⟩) (Kd.N_far (p := ⟨gb366, 0, none⟩) (Kd.N_mono HO_16.out (fun k_ hk => (⟨hk, hk.2⟩ : _ ∧ k_ ≠ gb366))) (fun _ hk => hk.2) (.slice A365_0 ((rd_T25 y362 x18_1).f0).length c365_0)) (fun _ hk => hk.2) (.slice A365_1 ((rd_T25 y362 x18_1).f1).length c365_1)) (fun _ h_ => h_.1))) hb); replace HO_360000 := gA (Kd.V_below (by (with_reducible repeat (first | apply Kd.V_alloc | apply Kd.V_drewN | apply Kd.V_drew)); exact (Kd.V_mono (Kd.V_far (p := ⟨gb366, 1, none⟩) (Kd.V_far (p := ⟨gb366, 0, none⟩) (Kd.V_mono HO_360000.out (fun k_ hk => (⟨hk, hk.2⟩ : _ ∧ k_ ≠ gb366))) (fun _ hk => hk.2) (.slice A365_0 ((rd_T25 y362 x18_1).f0).length c365_0)) (fun _ hk => hk.2) (.slice A365_1 ((rd_T25 y362 x18_1).f1).length c365_1)) (fun _ h_ => h_.1))) hb); replace HO_360001 := gA (Kd.V_below (by (with_reducible repeat (first | apply Kd.V_alloc | apply Kd.V_drewN | apply Kd.V_drew)); exact (Kd.V_mono (Kd.V_far (p := ⟨gb366, 1, none⟩) (Kd.V_far (p := ⟨gb366, 0, none⟩) (Kd.V_mono HO_360001.out (fun k_ hk => (⟨hk, hk.2⟩ : _ ∧ k_ ≠ gb366))) (fun _ hk => hk.2) (.slice A365_0 ((rd_T25 y362 x18_1).f0).length c365_0)) (fun _ hk => hk.2) (.slice A365_1 ((rd_T25 y362 x18_1).f1).length c365_1)) (fun _ h_ => h_.1))) hb); replace HO_361000 := gA (Kd.V_below (by (with_reducible repeat (first | apply Kd.V_alloc | apply Kd.V_drewN | apply Kd.V_drew)); exact (Kd.V_mono (Kd.V_far (p := ⟨gb366, 1, none⟩) (Kd.V_far (p := ⟨gb366, 0, none⟩) (Kd.V_mono HO_361000.out (fun k_ hk => (⟨hk, hk.2⟩ : _ ∧ k_ ≠ gb366))) (fun _ hk => hk.2) (.slice A365_0 ((rd_T25 y362 x18_1).f0).length c365_0)) (fun _ hk => hk.2) (.slice A365_1 ((rd_T25 y362 x18_1).f1).length c365_1)) (fun _ h_ => h_.1))) hb); replace HO_361001 := gA (Kd.V_below (by (with_reducible repeat (first | apply Kd.V_alloc | apply Kd.V_drewN | apply Kd.V_drew)); exact (Kd.V_mono (Kd.V_far (p := ⟨gb366, 1, none⟩) (Kd.V_far (p := ⟨gb366, 0, none⟩) (Kd.V_mono HO_361001.out (fun k_ hk => (⟨hk, hk.2⟩ : _ ∧ k_ ≠ gb366))) (fun _ hk => hk.2) (.slice A365_0 ((rd_T25 y362 x18_1).f0).length c365_0)) (fun _ hk => hk.2) (.slice A365_1 ((rd_T25 y362 x18_1).f1).length c365_1)) (fun _ h_ => h_.1))) hb); replace BK359 := gA (blk_below (g := gb359) (o := .cells #[.slice A0_0 l0_0.length c0_0, .slice A0_1 l0_1.length c0_1] 25 (0, 0)) (by refine blk_far ?_ NB359_366.out _; refine blk_far ?_ NB359_366.out _; exact gK BK359) hb); replace BK360 := gA (blk_below (g := gb360) (o := .cells #[.slice A1_0 l1_0.length c1_0, .slice A1_1 l1_1.length c1_1] 25 (0, 0)) (by refine blk_far ?_ NB360_366.out _; refine blk_far ?_ NB360_366.out _; exact gK BK360) hb); replace BK361 := gA (blk_below (g := gb361) (o := .cells #[.slice none 0 0, .slice none 0 0] 25 (0, 0)) (by refine blk_far ?_ NB361_366.out _; refine blk_far ?_ NB361_366.out _; exact gK BK361) hb); replace HR365_0 := gA (Kd.C_below ((Kd.V_reads' (by (with_reducible repeat (first | apply Kd.V_alloc | apply Kd.V_drewN | apply Kd.V_drew)); exact (Kd.V_mono (Kd.V_far (p := ⟨gb366, 1, none⟩) (Kd.V_far (p := ⟨gb366, 0, none⟩) (Kd.V_mono HL365_0.out (fun k_ hk => (⟨hk, hk.2⟩ : _ ∧ k_ ≠ gb366))) (fun _ hk => hk.2) (.slice A365_0 ((rd_T25 y362 x18_1).f0).length c365_0)) (fun _ hk => hk.2) (.slice A365_1 ((rd_T25 y362 x18_1).f1).length c365_1)) (fun _ h_ => h_.1)))).2.2) hb); replace HL365_0 := gA (Kd.V_below (by (with_reducible repeat (first | apply Kd.V_alloc | apply Kd.V_drewN | apply Kd.V_drew)); exact (Kd.V_mono (Kd.V_far (p := ⟨gb366, 1, none⟩) (Kd.V_far (p := ⟨gb366, 0, none⟩) (Kd.V_mono HL365_0.out (fun k_ hk => (⟨hk, hk.2⟩ : _ ∧ k_ ≠ gb366))) (fun _ hk => hk.2) (.slice A365_0 ((rd_T25 y362 x18_1).f0).length c365_0)) (fun _ hk => hk.2) (.slice A365_1 ((rd_T25 y362 x18_1).f1).length c365_1)) (fun _ h_ => h_.1))) hb); replace HR365_1 := gA (Kd.C_below ((Kd.V_reads' (by (with_reducible repeat (first | apply Kd.V_alloc | apply Kd.V_drewN | apply Kd.V_drew)); exact (Kd.V_mono (Kd.V_far (p := ⟨gb366, 1, none⟩) (Kd.V_far (p := ⟨gb366, 0, none⟩) (Kd.V_mono HL365_1.out (fun k_ hk => (⟨hk, hk.2⟩ : _ ∧ k_ ≠ gb366))) (fun _ hk => hk.2) (.slice A365_0 ((rd_T25 y362 x18_1).f0).length c365_0)) (fun _ hk => hk.2) (.slice A365_1 ((rd_T25 y362 x18_1).f1).length c365_1)) (fun _ h_ => h_.1)))).2.2) hb); replace HL365_1 := gA (Kd.V_below (by (with_reducible repeat (first | apply Kd.V_alloc | apply Kd.V_drewN | apply Kd.V_drew)); exact (Kd.V_mono (Kd.V_far (p := ⟨gb366, 1, none⟩) (Kd.V_far (p := ⟨gb366, 0, none⟩) (Kd.V_mono HL365_1.out (fun k_ hk => (⟨hk, hk.2⟩ : _ ∧ k_ ≠ gb366))) (fun _ hk => hk.2) (.slice A365_0 ((rd_T25 y362 x18_1).f0).length c365_0)) (fun _ hk => hk.2) (.slice A365_1 ((rd_T25 y362 x18_1).f1).length c365_1)) (fun _ h_ => h_.1))) hb); replace BK366 := gA (blk_below (g := gb366) (o := .cells #[.slice A365_0 ((rd_T25 y362 x18_1).f0).length c365_0, .slice A365_1 ((rd_T25 y362 x18_1).f1).length c365_1] 25 (0, 0)) (by refine blk_put (cs := #[.slice A365_0 ((rd_T25 y362 x18_1).f0).length c365_0, .slice none 0 0]) ?_ 1 _ rfl; refine blk_put (cs := #[.slice none 0 0, .slice none 0 0]) ?_ 0 _ rfl; exact gK BK366) hb); replace HB := gA (below_step (by repeat first | exact gB HB | refine below_set ?_ GE359.out | refine below_set ?_ GE360.out | refine below_set ?_ GE361.out | refine below_set ?_ GE366.out) hb); (try clear hb); (try clear hk)))
     go_roundg k1
     case measure => have := HK1.out; omega
     case rel => exact ⟨(wrap64 (x18_1 + 1)), (rfl), H', ⟨by have := HK1.out; omega⟩, ⟨Kd.N_mono HO_16.out (fun _ hk => ⟨hk.1.1, ⟨hk.1.2.1, ⟨hk.1.2.2.1, hk.1.2.2.2⟩⟩⟩)⟩, ⟨Kd.V_mono HO_360000.out (fun _ hk => ⟨hk.1.1, ⟨hk.1.2.1, ⟨hk.1.2.2.1, ⟨hk.1.2.2.2.1, hk.1.2.2.2.2⟩⟩⟩⟩)⟩, ⟨Kd.V_mono HO_360001.out (fun _ hk => ⟨hk.1.1, ⟨hk.1.2.1, ⟨hk.1.2.2.1, ⟨hk.1.2.2.2.1, hk.1.2.2.2.2⟩⟩⟩⟩)⟩, ⟨Kd.V_mono HO_361000.out (fun _ hk => ⟨hk.1.1, ⟨hk.1.2.1, ⟨hk.1.2.2.1, ⟨hk.1.2.2.2.1, hk.1.2.2.2.2⟩⟩⟩⟩)⟩, ⟨Kd.V_mono HO_361001.out (fun _ hk => ⟨hk.1.1, ⟨hk.1.2.1, ⟨hk.1.2.2.1, ⟨hk.1.2.2.2.1, hk.1.2.2.2.2⟩⟩⟩⟩)⟩, ⟨gK BK359⟩, ⟨gK BK360⟩, ⟨gK BK361⟩, ⟨by repeat first | exact gB HB | refine below_set ?_ GE359.out | refine below_set ?_ GE360.out | refine below_set ?_ GE361.out | refine below_set ?_ GE366.out⟩⟩
    ·rw [if_neg c18] at H
     have c18b0 : (t367 == 0) = false := beq_eq_false_iff_ne.mpr c18
     have c18b1 : (t367 != 0) = true := bne_iff_ne.mpr c18
     simp only [Option.some.injEq, Prod.mk.injEq] at H
     obtain ⟨rfl, rfl, rfl⟩ := H
     have p365 : 0 ≤ (x18_1 : Int) := of_decide_eq_true (by assumption)
     have q365 : x18_1 < (y362.length : Int) := of_decide_eq_true (by assumption)
     obtain ⟨ad365, A365_0, c365_0, A365_1, c365_1, e365, hx365_0, hx365_1, hl365_0, hi365_0, hl365_1, hi365_1⟩ := at_T25 (Kd.N_reads' HO_16.out).2.2 x18_1 p365 q365
     cases e365
     obtain ⟨ce365, hce365, hMe365, hcc365⟩ := Kd.N_get HO_16.out z25 x18_1 p365 (by first | exact q365 | exact of_decide_eq_true (by assumption) | (have e_ := (Kd.N_reads' HO_16.out).1; omega))
     obtain ⟨ua365_0, uc365_0, ua365_1, uc365_1, rfl, ul365_0, ge365_0, ul365_1, ge365_1⟩ := k25_openF hMe365
     have hv365_0 := hcc365 0 _ rfl
     rw [Nat.add_zero] at hv365_0
     replace hv365_0 := Option.some.inj (hv365_0.symm.trans hx365_0)
     injection hv365_0 with hva_ hvn_ hvc_
     rw [hva_] at ge365_0
     rw [hvc_] at ul365_0
     have HL365_0 := gA (show Kd.V (Kd.int .i64) 3 _ w.heap.size _ _ ((rd_T25 y362 x18_1).f0) from Kd.V_mk ul365_0 ge365_0)
     clear hva_ hvn_ hvc_ ge365_0 ul365_0
     have hv365_1 := hcc365 1 _ rfl
     rw [add_field _ _ 1 (by omega)] at hv365_1
     replace hv365_1 := Option.some.inj (hv365_1.symm.trans hx365_1)
     injection hv365_1 with hva_ hvn_ hvc_
     rw [hva_] at ge365_1
     rw [hvc_] at ul365_1
     have HL365_1 := gA (show Kd.V k39 39 _ w.heap.size _ _ ((rd_T25 y362 x18_1).f1) from Kd.V_mk ul365_1 ge365_1)
     clear hva_ hvn_ hvc_ ge365_1 ul365_1 hcc365 hce365
     have HR365_0 := gA hi365_0
     have HC365_0 := gA hl365_0
     clear hi365_0 hl365_0
     have HR365_1 := gA hi365_1
     have HC365_1 := gA hl365_1
     clear hi365_1 hl365_1
     replace p365 := eq_true p365
     replace q365 := eq_true q365
     go_wp2_with (first | ((with_reducible refine gate_dst (N := 7) rfl ?_); (try (refine gate_guard (by rfl) ?_; dsimp only)); refine box_event ?hg (N := 7) ?hd (cs := #[.slice none 0 0, .slice none 0 0]) (t := 25) ?hr ?_; (case hd => rfl); (case hg => rfl); (case hr => first | (go_simp; done) | (go_simp; rfl)); intro gb366 hg w25 hbox hb; replace HO_16 := gA (Kd.N_below (Kd.N_elderB (gN HO_16) gb366 (Nat.le_of_eq hg.symm)) hb); replace HO_360000 := gA (Kd.V_below (Kd.V_elderB (gV HO_360000) gb366 (Nat.le_of_eq hg.symm)) hb); replace HO_360001 := gA (Kd.V_below (Kd.V_elderB (gV HO_360001) gb366 (Nat.le_of_eq hg.symm)) hb); replace HO_361000 := gA (Kd.V_below (Kd.V_elderB (gV HO_361000) gb366 (Nat.le_of_eq hg.symm)) hb); replace HO_361001 := gA (Kd.V_below (Kd.V_elderB (gV HO_361001) gb366 (Nat.le_of_eq hg.symm)) hb); replace HL365_0 := gA (Kd.V_below (Kd.V_elderB (gV HL365_0) gb366 (Nat.le_of_eq hg.symm)) hb); replace HL365_1 := gA (Kd.V_below (Kd.V_elderB (gV HL365_1) gb366 (Nat.le_of_eq hg.symm)) hb); replace HR365_0 := gA (Kd.C_below (by repeat (first | (with_reducible exact HR365_0.out) | (with_reducible refine Kd.C_alloc ?_ _) | (with_reducible refine Kd.C_drewN ?_ _) | (with_reducible refine Kd.C_drew ?_) | exact HR365_0.out)) hb); replace HR365_1 := gA (Kd.C_below (by repeat (first | (with_reducible exact HR365_1.out) | (with_reducible refine Kd.C_alloc ?_ _) | (with_reducible refine Kd.C_drewN ?_ _) | (with_reducible refine Kd.C_drew ?_) | exact HR365_1.out)) hb); have BK366 := gA (hbox); have GW366 := gA ((by rw [hg]; exact (below_size (gB HB)) : w.heap.size ≤ gb366)); have GE366 := gA ((by rw [hg]; exact (below_size (gB HB)) : w.heap.size ≤ gb366)); replace HB := gA (below_step (gB HB) hb); have NB359_366 := gA ((by rw [hg]; exact Nat.ne_of_lt (blk_lt (gK BK359)) : gb359 ≠ gb366)); have NB366_359 := gA ((by rw [hg]; exact Nat.ne_of_gt (blk_lt (gK BK359)) : gb366 ≠ gb359)); replace BK359 := gA (blk_below (gK BK359) hb); have NB360_366 := gA ((by rw [hg]; exact Nat.ne_of_lt (blk_lt (gK BK360)) : gb360 ≠ gb366)); have NB366_360 := gA ((by rw [hg]; exact Nat.ne_of_gt (blk_lt (gK BK360)) : gb366 ≠ gb360)); replace BK360 := gA (blk_below (gK BK360) hb); have NB361_366 := gA ((by rw [hg]; exact Nat.ne_of_lt (blk_lt (gK BK361)) : gb361 ≠ gb366)); have NB366_361 := gA ((by rw [hg]; exact Nat.ne_of_gt (blk_lt (gK BK361)) : gb366 ≠ gb361)); replace BK361 := gA (blk_below (gK BK361) hb); clear hb hbox hg; have hnb26 := NB366_359.out; have hnc26 := NB359_366.out; have hnb27 := NB366_360.out; have hnc27 := NB360_366.out; have hnb28 := NB366_361.out; have hnc28 := NB361_366.out; obtain ⟨hcz29_0, hcz29_1, hfz29_0, hfz29_1⟩ := gz2 BK366) | ((with_reducible refine gate_callee (f := 21) rfl ?_); refine goesL_ (some 23) rfl rfl Try.func21 (by kernel_rfl) rfl #[.agg #[.slice A365_0 ((rd_T25 y362 x18_1).f0).length c365_0, .slice A365_1 ((rd_T25 y362 x18_1).f1).length c365_1]] rfl (by (try simp only [List.map_toArray, List.map_cons, List.map_nil]); first | done | rfl | (simp only [List.length_drop, List.length_take]; rfl)) ?_; (with_reducible refine (arr_Check.calls k1 _ _ ((rd_T25 y362 x18_1).f0) _ _ ((rd_T25 y362 x18_1).f1) t367 _ ?side1 ?side2 ?side3 ?side4 A17.out).mono ?_); (case side1 => repeat (first | exact ((Kd.V_reads' (by (with_reducible repeat (first | apply Kd.V_alloc | apply Kd.V_drewN | apply Kd.V_drew)); exact (Kd.V_mono (Kd.V_far (p := ⟨gb366, 1, none⟩) (Kd.V_far (p := ⟨gb366, 0, none⟩) (Kd.V_mono HL365_0.out (fun k_ hk => (⟨hk, hk.2⟩ : _ ∧ k_ ≠ gb366))) (fun _ hk => hk.2) (.slice A365_0 ((rd_T25 y362 x18_1).f0).length c365_0)) (fun _ hk => hk.2) (.slice A365_1 ((rd_T25 y362 x18_1).f1).length c365_1)) (fun _ h_ => h_.1)))).2.2) | (with_reducible refine Kd.C_alloc ?_ _) | (with_reducible refine Kd.C_drewN ?_ _) | (with_reducible refine Kd.C_drew ?_))); (case side2 => exact HC365_0.out); (case side3 => repeat (first | exact ((Kd.V_reads' (by (with_reducible repeat (first | apply Kd.V_alloc | apply Kd.V_drewN | apply Kd.V_drew)); exact (Kd.V_mono (Kd.V_far (p := ⟨gb366, 1, none⟩) (Kd.V_far (p := ⟨gb366, 0, none⟩) (Kd.V_mono HL365_1.out (fun k_ hk => (⟨hk, hk.2⟩ : _ ∧ k_ ≠ gb366))) (fun _ hk => hk.2) (.slice A365_0 ((rd_T25 y362 x18_1).f0).length c365_0)) (fun _ hk => hk.2) (.slice A365_1 ((rd_T25 y362 x18_1).f1).length c365_1)) (fun _ h_ => h_.1)))).2.2) | (with_reducible refine Kd.C_alloc ?_ _) | (with_reducible refine Kd.C_drewN ?_ _) | (with_reducible refine Kd.C_drew ?_))); (case side4 => exact HC365_1.out); rintro e w30 ⟨rfl, hb⟩; refine ⟨_, rfl, ?_⟩; replace HO_16 := gA (Kd.N_below (by (with_reducible repeat (first | apply Kd.N_alloc | apply Kd.N_drewN | apply Kd.N_drew)); exact (Kd.N_mono (Kd.N_far (p := ⟨gb366, 1, none⟩) (Kd.N_far (p := ⟨gb366, 0, none⟩) (Kd.N_mono HO_16.out (fun k_ hk => (⟨hk, hk.2⟩ : _ ∧ k_ ≠ gb366))) (fun _ hk => hk.2) (.slice A365_0 ((rd_T25 y362 x18_1).f0).length c365_0)) (fun _ hk => hk.2) (.slice A365_1 ((rd_T25 y362 x18_1).f1).length c365_1)) (fun _ h_ => h_.1))) hb); replace HO_360000 := gA (Kd.V_below (by (with_reducible repeat (first | apply Kd.V_alloc | apply Kd.V_drewN | apply Kd.V_drew)); exact (Kd.V_mono (Kd.V_far (p := ⟨gb366, 1, none⟩) (Kd.V_far (p := ⟨gb366, 0, none⟩) (Kd.V_mono HO_360000.out (fun k_ hk => (⟨hk, hk.2⟩ : _ ∧ k_ ≠ gb366))) (fun _ hk => hk.2) (.slice A365_0 ((rd_T25 y362 x18_1).f0).length c365_0)) (fun _ hk => hk.2) (.slice A365_1 ((rd_T25 y362 x18_1).f1).length c365_1)) (fun _ h_ => h_.1))) hb); replace HO_360001 := gA (Kd.V_below (by (with_reducible repeat (first | apply Kd.V_alloc | apply Kd.V_drewN | apply Kd.V_drew)); exact (Kd.V_mono (Kd.V_far (p := ⟨gb366, 1, none⟩) (Kd.V_far (p := ⟨gb366, 0, none⟩) (Kd.V_mono HO_360001.out (fun k_ hk => (⟨hk, hk.2⟩ : _ ∧ k_ ≠ gb366))) (fun _ hk => hk.2) (.slice A365_0 ((rd_T25 y362 x18_1).f0).length c365_0)) (fun _ hk => hk.2) (.slice A365_1 ((rd_T25 y362 x18_1).f1).length c365_1)) (fun _ h_ => h_.1))) hb); replace HO_361000 := gA (Kd.V_below (by (with_reducible repeat (first | apply Kd.V_alloc | apply Kd.V_drewN | apply Kd.V_drew)); exact (Kd.V_mono (Kd.V_far (p := ⟨gb366, 1, none⟩) (Kd.V_far (p := ⟨gb366, 0, none⟩) (Kd.V_mono HO_361000.out (fun k_ hk => (⟨hk, hk.2⟩ : _ ∧ k_ ≠ gb366))) (fun _ hk => hk.2) (.slice A365_0 ((rd_T25 y362 x18_1).f0).length c365_0)) (fun _ hk => hk.2) (.slice A365_1 ((rd_T25 y362 x18_1).f1).length c365_1)) (fun _ h_ => h_.1))) hb); replace HO_361001 := gA (Kd.V_below (by (with_reducible repeat (first | apply Kd.V_alloc | apply Kd.V_drewN | apply Kd.V_drew)); exact (Kd.V_mono (Kd.V_far (p := ⟨gb366, 1, none⟩) (Kd.V_far (p := ⟨gb366, 0, none⟩) (Kd.V_mono HO_361001.out (fun k_ hk => (⟨hk, hk.2⟩ : _ ∧ k_ ≠ gb366))) (fun _ hk => hk.2) (.slice A365_0 ((rd_T25 y362 x18_1).f0).length c365_0)) (fun _ hk => hk.2) (.slice A365_1 ((rd_T25 y362 x18_1).f1).length c365_1)) (fun _ h_ => h_.1))) hb); replace BK359 := gA (blk_below (g := gb359) (o := .cells #[.slice A0_0 l0_0.length c0_0, .slice A0_1 l0_1.length c0_1] 25 (0, 0)) (by refine blk_far ?_ NB359_366.out _; refine blk_far ?_ NB359_366.out _; exact gK BK359) hb); replace BK360 := gA (blk_below (g := gb360) (o := .cells #[.slice A1_0 l1_0.length c1_0, .slice A1_1 l1_1.length c1_1] 25 (0, 0)) (by refine blk_far ?_ NB360_366.out _; refine blk_far ?_ NB360_366.out _; exact gK BK360) hb); replace BK361 := gA (blk_below (g := gb361) (o := .cells #[.slice none 0 0, .slice none 0 0] 25 (0, 0)) (by refine blk_far ?_ NB361_366.out _; refine blk_far ?_ NB361_366.out _; exact gK BK361) hb); replace HR365_0 := gA (Kd.C_below ((Kd.V_reads' (by (with_reducible repeat (first | apply Kd.V_alloc | apply Kd.V_drewN | apply Kd.V_drew)); exact (Kd.V_mono (Kd.V_far (p := ⟨gb366, 1, none⟩) (Kd.V_far (p := ⟨gb366, 0, none⟩) (Kd.V_mono HL365_0.out (fun k_ hk => (⟨hk, hk.2⟩ : _ ∧ k_ ≠ gb366))) (fun _ hk => hk.2) (.slice A365_0 ((rd_T25 y362 x18_1).f0).length c365_0)) (fun _ hk => hk.2) (.slice A365_1 ((rd_T25 y362 x18_1).f1).length c365_1)) (fun _ h_ => h_.1)))).2.2) hb); replace HL365_0 := gA (Kd.V_below (by (with_reducible repeat (first | apply Kd.V_alloc | apply Kd.V_drewN | apply Kd.V_drew)); exact (Kd.V_mono (Kd.V_far (p := ⟨gb366, 1, none⟩) (Kd.V_far (p := ⟨gb366, 0, none⟩) (Kd.V_mono HL365_0.out (fun k_ hk => (⟨hk, hk.2⟩ : _ ∧ k_ ≠ gb366))) (fun _ hk => hk.2) (.slice A365_0 ((rd_T25 y362 x18_1).f0).length c365_0)) (fun _ hk => hk.2) (.slice A365_1 ((rd_T25 y362 x18_1).f1).length c365_1)) (fun _ h_ => h_.1))) hb); replace HR365_1 := gA (Kd.C_below ((Kd.V_reads' (by (with_reducible repeat (first | apply Kd.V_alloc | apply Kd.V_drewN | apply Kd.V_drew)); exact (Kd.V_mono (Kd.V_far (p := ⟨gb366, 1, none⟩) (Kd.V_far (p := ⟨gb366, 0, none⟩) (Kd.V_mono HL365_1.out (fun k_ hk => (⟨hk, hk.2⟩ : _ ∧ k_ ≠ gb366))) (fun _ hk => hk.2) (.slice A365_0 ((rd_T25 y362 x18_1).f0).length c365_0)) (fun _ hk => hk.2) (.slice A365_1 ((rd_T25 y362 x18_1).f1).length c365_1)) (fun _ h_ => h_.1)))).2.2) hb); replace HL365_1 := gA (Kd.V_below (by (with_reducible repeat (first | apply Kd.V_alloc | apply Kd.V_drewN | apply Kd.V_drew)); exact (Kd.V_mono (Kd.V_far (p := ⟨gb366, 1, none⟩) (Kd.V_far (p := ⟨gb366, 0, none⟩) (Kd.V_mono HL365_1.out (fun k_ hk => (⟨hk, hk.2⟩ : _ ∧ k_ ≠ gb366))) (fun _ hk => hk.2) (.slice A365_0 ((rd_T25 y362 x18_1).f0).length c365_0)) (fun _ hk => hk.2) (.slice A365_1 ((rd_T25 y362 x18_1).f1).length c365_1)) (fun _ h_ => h_.1))) hb); replace BK366 := gA (blk_below (g := gb366) (o := .cells #[.slice A365_0 ((rd_T25 y362 x18_1).f0).length c365_0, .slice A365_1 ((rd_T25 y362 x18_1).f1).length c365_1] 25 (0, 0)) (by refine blk_put (cs := #[.slice A365_0 ((rd_T25 y362 x18_1).f0).length c365_0, .slice none 0 0]) ?_ 1 _ rfl; refine blk_put (cs := #[.slice none 0 0, .slice none 0 0]) ?_ 0 _ rfl; exact gK BK366) hb); replace HB := gA (below_step (by repeat first | exact gB HB | refine below_set ?_ GE359.out | refine below_set ?_ GE360.out | refine below_set ?_ GE361.out | refine below_set ?_ GE366.out) hb); (try clear hb); (try clear hk); have hnb31 := NB361_359.out; have hnc31 := NB359_361.out; have hnb32 := NB361_360.out; have hnc32 := NB360_361.out; obtain ⟨hcz33_0, hcz33_1, hfz33_0, hfz33_1⟩ := gz2 BK361))
     refine bodyPost_ret (results_ct rfl _ _ gb361 25 #[.slice none 0 0, .slice none 0 0] (0, 0) _ rfl (by refine blk_put (cs := #[.slice none 0 0, .slice none 0 0]) ?_ 1 _ rfl; refine blk_put (cs := #[.slice none 0 0, .slice none 0 0]) ?_ 0 _ rfl; exact gK BK361) Try.underlying25 rfl (by kernel_rfl)) rfl ?_
     exact ⟨_, _, rfl, by first | exact Kd.R_nil _ _ _ _ _ | exact Kd.N_nil _ _ _ _ _ | exact Kd.V_nil _ _ _ _ _ | exact Kd.Q_nil _ _ _ _ _ | exact Kd.S_nil _ _ _ _ _, by first | exact Kd.R_nil _ _ _ _ _ | exact Kd.N_nil _ _ _ _ _ | exact Kd.V_nil _ _ _ _ _ | exact Kd.Q_nil _ _ _ _ _ | exact Kd.S_nil _ _ _ _ _, by repeat first | exact gB HB | refine below_set ?_ GE359.out | refine below_set ?_ GE360.out | refine below_set ?_ GE361.out | refine below_set ?_ GE366.out⟩
   ·rw [if_neg c14] at H
    have c14b0 := decide_eq_false c14
    clear c14
    replace H := Option.bind_eq_some_iff.mp H
    obtain ⟨⟨t368, t371⟩, A340, H⟩ := H
    replace H : (if t371 = 0 then ((arr_Size.f k1 t368).bind fun bt372 => (if bt372.2 = 0 then (if bt372.1 > 0 then (layout_Reshape.j1 k1 t368 bt372.1 ((l1_1.length : Int) == 0) l1_0 l1_1) else (layout_Reshape.j1 k1 t368 bt372.1 false l1_0 l1_1)) else (some (([] : List Int), ([] : List (S39)), bt372.2)))) else (some (([] : List Int), ([] : List (S39)), t371))) = some (r1, r2, r3) := H
    have A34 := gA A340
    clear A340
    by_cases c35 : t371 = 0
    ·rw [if_pos c35] at H
     have c35b0 : (t371 == 0) = true := beq_iff_eq.mpr c35
     have c35b1 : (t371 != 0) = false := bne_eq_false_iff_eq.mpr c35
     clear c35
     replace H := Option.bind_eq_some_iff.mp H
     obtain ⟨⟨t372, t373⟩, A360, H⟩ := H
     replace H : (if t373 = 0 then (if t372 > 0 then (layout_Reshape.j1 k1 t368 t372 ((l1_1.length : Int) == 0) l1_0 l1_1) else (layout_Reshape.j1 k1 t368 t372 false l1_0 l1_1)) else (some (([] : List Int), ([] : List (S39)), t373))) = some (r1, r2, r3) := H
     have A36 := gA A360
     clear A360
     by_cases c37 : t373 = 0
     ·rw [if_pos c37] at H
      have c37b0 : (t373 == 0) = true := beq_iff_eq.mpr c37
      have c37b1 : (t373 != 0) = false := bne_eq_false_iff_eq.mpr c37
      clear c37
      have HC38 := gA H
      clear H
      have hnb39 := NB359_360.out
      have hnc39 := NB360_359.out
      have hnb40 := NB359_361.out
      have hnc40 := NB361_359.out
      obtain ⟨hcz41_0, hcz41_1, hfz41_0, hfz41_1⟩ := gz2 BK359
      go_upto_region 14 with (first | ((with_reducible refine gate_callee (f := 38) rfl ?_); refine goesL_ (some 31) rfl rfl Try.func38 (by kernel_rfl) rfl #[.agg #[.slice A0_0 l0_0.length c0_0, .slice A0_1 l0_1.length c0_1]] rfl (by (try simp only [List.map_toArray, List.map_cons, List.map_nil]); first | done | rfl | (simp only [List.length_drop, List.length_take]; rfl)) ?_; (with_reducible refine (layout_wanted.calls k1 _ _ l0_0 _ _ l0_1 t368 t371 _ ?side1 ?side2 ?side3 ?side4 A34.out).mono ?_); (case side1 => repeat (first | exact (Kd.V_reads' HO_360000.out).2.2 | (with_reducible refine Kd.C_alloc ?_ _) | (with_reducible refine Kd.C_drewN ?_ _) | (with_reducible refine Kd.C_drew ?_))); (case side2 => exact (Kd.V_reads' HO_360000.out).2.1); (case side3 => repeat (first | exact (Kd.V_reads' HO_360001.out).2.2 | (with_reducible refine Kd.C_alloc ?_ _) | (with_reducible refine Kd.C_drewN ?_ _) | (with_reducible refine Kd.C_drew ?_))); (case side4 => exact (Kd.V_reads' HO_360001.out).2.1); rintro e w42 ⟨v369, rfl, ho0, hb⟩; refine ⟨_, rfl, ?_⟩; replace HO_16 := gA (Kd.N_elder' (gN HO_16) (Kd.R_base ho0) hb); replace HO_360000 := gA (Kd.V_elder' (gV HO_360000) (Kd.R_base ho0) hb); replace HO_360001 := gA (Kd.V_elder' (gV HO_360001) (Kd.R_base ho0) hb); replace HO_361000 := gA (Kd.V_elder' (gV HO_361000) (Kd.R_base ho0) hb); replace HO_361001 := gA (Kd.V_elder' (gV HO_361001) (Kd.R_base ho0) hb); have HO370 := gA (Kd.R_lower (Kd.R_newM (M := fun k_ => (w.heap.size ≤ k_)) ho0 (below_size (gB HB)) (fun k_ h_ => h_)) (below_size (gB HB))); replace BK359 := gA (blk_below (gK BK359) hb); replace BK360 := gA (blk_below (gK BK360) hb); replace BK361 := gA (blk_below (gK BK361) hb); replace HB := gA (below_step (gB HB) hb); (try clear hb); (try clear ho0); obtain ⟨Ao43, co43, eo43⟩ := Kd.R_slice HO370.out; subst eo43) | ((with_reducible refine gate_callee (f := 39) rfl ?_); refine goesL_ (some 40) rfl rfl Try.func39 (by kernel_rfl) rfl #[.slice Ao43 t368.length co43] rfl (by (try simp only [List.map_toArray, List.map_cons, List.map_nil]); first | done | rfl | (simp only [List.length_drop, List.length_take]; rfl)) ?_; (with_reducible refine (arr_Size.calls k1 _ _ t368 t372 t373 _ ?side1 ?side2 A36.out).mono ?_); (case side1 => repeat (first | exact (Kd.R_reads' HO370.out).2.2 | (with_reducible refine Kd.C_alloc ?_ _) | (with_reducible refine Kd.C_drewN ?_ _) | (with_reducible refine Kd.C_drew ?_))); (case side2 => exact (Kd.R_reads' HO370.out).2.1); rintro e w' ⟨rfl, ⟨nd, rfl⟩⟩; refine ⟨_, rfl, ?_⟩))
      (try simp only [Act.put, List.setIfInBounds_toArray, List.set_cons_zero, List.set_cons_succ])
      go_cut [54] (fun v54 wc => ∃ (kq : Nat) (x54_37 : Bool), v54 = .bool x54_37 ∧ Aside0 (layout_Reshape.j1 kq t368 t372 x54_37 l1_0 l1_1 = some (r1, r2, r3)) ∧ Aside0 (kq ≤ k1) ∧ Aside0 (Kd.R (Kd.int .i64) 3 wc w.heap.size (fun k_ => (w.heap.size ≤ k_)) (.slice Ao43 t368.length co43) t368) ∧ Aside0 (Kd.V (Kd.int .i64) 3 wc w.heap.size (fun k_ => ((P0_0_ k_ ∨ P0_1_ k_ ∨ P1_0_ k_ ∨ P1_1_ k_) ∨ w.heap.size ≤ k_) ∧ some k_ ≠ ((.slice Ao43 t368.length co43) : Value).ownBlock ∧ k_ ≠ gb359 ∧ k_ ≠ gb360 ∧ k_ ≠ gb361) (.slice A0_0 l0_0.length c0_0) l0_0) ∧ Aside0 (Kd.V k39 39 wc w.heap.size (fun k_ => ((P0_0_ k_ ∨ P0_1_ k_ ∨ P1_0_ k_ ∨ P1_1_ k_) ∨ w.heap.size ≤ k_) ∧ some k_ ≠ ((.slice Ao43 t368.length co43) : Value).ownBlock ∧ k_ ≠ gb359 ∧ k_ ≠ gb360 ∧ k_ ≠ gb361) (.slice A0_1 l0_1.length c0_1) l0_1) ∧ Aside0 (Kd.V (Kd.int .i64) 3 wc w.heap.size (fun k_ => ((P0_0_ k_ ∨ P0_1_ k_ ∨ P1_0_ k_ ∨ P1_1_ k_) ∨ w.heap.size ≤ k_) ∧ some k_ ≠ ((.slice Ao43 t368.length co43) : Value).ownBlock ∧ k_ ≠ gb359 ∧ k_ ≠ gb360 ∧ k_ ≠ gb361) (.slice A1_0 l1_0.length c1_0) l1_0) ∧ Aside0 (Kd.V k39 39 wc w.heap.size (fun k_ => ((P0_0_ k_ ∨ P0_1_ k_ ∨ P1_0_ k_ ∨ P1_1_ k_) ∨ w.heap.size ≤ k_) ∧ some k_ ≠ ((.slice Ao43 t368.length co43) : Value).ownBlock ∧ k_ ≠ gb359 ∧ k_ ≠ gb360 ∧ k_ ≠ gb361) (.slice A1_1 l1_1.length c1_1) l1_1) ∧ Aside0 (wc.heap[gb359]? = some (.cells #[(.slice A0_0 l0_0.length c0_0), (.slice A0_1 l0_1.length c0_1)] 25 (0, 0))) ∧ Aside0 (wc.heap[gb360]? = some (.cells #[(.slice A1_0 l1_0.length c1_0), (.slice A1_1 l1_1.length c1_1)] 25 (0, 0))) ∧ Aside0 (wc.heap[gb361]? = some (.cells #[(.slice none 0 0), (.slice none 0 0)] 25 (0, 0))) ∧ Aside0 (Below w.heap.size w wc))
      case first =>
       have H := HC38.out; clear HC38
       by_cases c44 : t372 > 0
       ·rw [if_pos c44] at H
        have c44b0 : decide (0 < t372) = true := decide_eq_true c44
        clear c44
        (first | rw [c44b0] | (simp only [i64_w, i32_w]; rw [c44b0]) | skip)
        have H' := gA H
        clear H
        have hnb45 := NB360_359.out
        have hnc45 := NB359_360.out
        have hnb46 := NB360_361.out
        have hnc46 := NB361_360.out
        obtain ⟨hcz47_0, hcz47_1, hfz47_0, hfz47_1⟩ := gz2 BK360
        go_wp2
        all_goals (go_meet; (case rel => exact ⟨_, (((l1_1.length : Int) == 0)), (by first | rfl | (simp; done) | (simp [*]; done) | (exfalso; simp_all; done) | (exfalso; simp_all; omega)), H', ⟨by have := HK1.out; first | omega | exact Nat.le_refl _⟩, ⟨Kd.R_mono HO370.out (fun _ hk => hk.1)⟩, ⟨Kd.V_mono HO_360000.out (fun _ hk => ⟨hk.1.1, ⟨hk.2, ⟨hk.1.2.2.1, ⟨hk.1.2.2.2.1, hk.1.2.2.2.2⟩⟩⟩⟩)⟩, ⟨Kd.V_mono HO_360001.out (fun _ hk => ⟨hk.1.1, ⟨hk.2, ⟨hk.1.2.2.1, ⟨hk.1.2.2.2.1, hk.1.2.2.2.2⟩⟩⟩⟩)⟩, ⟨Kd.V_mono HO_361000.out (fun _ hk => ⟨hk.1.1, ⟨hk.2, ⟨hk.1.2.2.1, ⟨hk.1.2.2.2.1, hk.1.2.2.2.2⟩⟩⟩⟩)⟩, ⟨Kd.V_mono HO_361001.out (fun _ hk => ⟨hk.1.1, ⟨hk.2, ⟨hk.1.2.2.1, ⟨hk.1.2.2.2.1, hk.1.2.2.2.2⟩⟩⟩⟩)⟩, ⟨gK BK359⟩, ⟨gK BK360⟩, ⟨gK BK361⟩, ⟨gB HB⟩⟩))
       ·rw [if_neg c44] at H
        have c44b0 : decide (0 < t372) = false := decide_eq_false c44
        clear c44
        (first | rw [c44b0] | (simp only [i64_w, i32_w]; rw [c44b0]) | skip)
        have H' := gA H
        clear H
        go_wp2
        all_goals (go_meet; (case rel => exact ⟨_, (false), (by first | rfl | (simp; done) | (simp [*]; done) | (exfalso; simp_all; done) | (exfalso; simp_all; omega)), H', ⟨by have := HK1.out; first | omega | exact Nat.le_refl _⟩, ⟨Kd.R_mono HO370.out (fun _ hk => hk.1)⟩, ⟨Kd.V_mono HO_360000.out (fun _ hk => ⟨hk.1.1, ⟨hk.2, ⟨hk.1.2.2.1, ⟨hk.1.2.2.2.1, hk.1.2.2.2.2⟩⟩⟩⟩)⟩, ⟨Kd.V_mono HO_360001.out (fun _ hk => ⟨hk.1.1, ⟨hk.2, ⟨hk.1.2.2.1, ⟨hk.1.2.2.2.1, hk.1.2.2.2.2⟩⟩⟩⟩)⟩, ⟨Kd.V_mono HO_361000.out (fun _ hk => ⟨hk.1.1, ⟨hk.2, ⟨hk.1.2.2.1, ⟨hk.1.2.2.2.1, hk.1.2.2.2.2⟩⟩⟩⟩)⟩, ⟨Kd.V_mono HO_361001.out (fun _ hk => ⟨hk.1.1, ⟨hk.2, ⟨hk.1.2.2.1, ⟨hk.1.2.2.2.1, hk.1.2.2.2.2⟩⟩⟩⟩)⟩, ⟨gK BK359⟩, ⟨gK BK360⟩, ⟨gK BK361⟩, ⟨gB HB⟩⟩))
      case rest =>
       clear HC38
       try clear c1
       try clear c2
       try clear p2
       try clear c3
       try clear p3
       try clear q3
       try clear hx3
       try clear c4
       try clear c6
       try clear p6
       try clear c7
       try clear c9
       try clear c14
       try clear c14b0
       try clear c15
       try clear c15b0
       try clear c16
       try clear c16b0
       try clear c18
       try clear c18b0
       try clear c18b1
       try clear c20
       try clear c21
       try clear c22
       try clear c26
       try clear c27
       try clear c28
       try clear c31
       try clear c32
       try clear c35
       try clear c35b0
       try clear c35b1
       try clear c36
       try clear p36
       try clear q36
       try clear hx36
       try clear c37
       try clear c37b0
       try clear c37b1
       try clear c38
       try clear c39
       try clear c40
       try clear c44
       try clear c44b0
       try clear c45
       try clear c46
       try clear hcz10_0
       try clear hcz10_1
       try clear hcz23_0
       try clear hcz23_1
       try clear hcz29_0
       try clear hcz29_1
       try clear hcz33_0
       try clear hcz33_1
       try clear hcz41_0
       try clear hcz41_1
       try clear hcz47_0
       try clear hcz47_1
       try clear hcz8_0
       try clear hcz8_1
       try clear hfz10_0
       try clear hfz10_1
       try clear hfz23_0
       try clear hfz23_1
       try clear hfz29_0
       try clear hfz29_1
       try clear hfz33_0
       try clear hfz33_1
       try clear hfz41_0
       try clear hfz41_1
       try clear hfz47_0
       try clear hfz47_1
       try clear hfz8_0
       try clear hfz8_1
       try clear hx365_0
       try clear hx365_1
       try clear p2
       try clear p365
       try clear q365
       obtain ⟨kq, x54_37, rfl, HA, HJ37, HO_9, HO_360000, HO_360001, HO_361000, HO_361001, BK359, BK360, BK361, HB⟩ := hcut
       cases kq with
       | zero => exact absurd HA.out (by simp [layout_Reshape.j1])
       | succ kj37 =>
        have H := HA.out; clear HA
        simp only [layout_Reshape.j1] at H
        by_cases c48 : x54_37 = true
        ·subst c48
         have H1 : (some (([] : List Int), ([] : List (S39)), 7)) = some (r1, r2, r3) := by rw [if_pos rfl] at H; exact H
         clear H; have H := H1; clear H1
         simp only [Option.some.injEq, Prod.mk.injEq] at H
         obtain ⟨rfl, rfl, rfl⟩ := H
         have hnb49 := NB361_359.out
         have hnc49 := NB359_361.out
         have hnb50 := NB361_360.out
         have hnc50 := NB360_361.out
         obtain ⟨hcz51_0, hcz51_1, hfz51_0, hfz51_1⟩ := gz2 BK361
         go_wp2
         refine bodyPost_ret (results_ct rfl _ _ gb361 25 #[.slice none 0 0, .slice none 0 0] (0, 0) _ rfl (by refine blk_put (cs := #[.slice none 0 0, .slice none 0 0]) ?_ 1 _ rfl; refine blk_put (cs := #[.slice none 0 0, .slice none 0 0]) ?_ 0 _ rfl; exact gK BK361) Try.underlying25 rfl (by kernel_rfl)) rfl ?_
         exact ⟨_, _, rfl, by first | exact Kd.R_nil _ _ _ _ _ | exact Kd.N_nil _ _ _ _ _ | exact Kd.V_nil _ _ _ _ _ | exact Kd.Q_nil _ _ _ _ _ | exact Kd.S_nil _ _ _ _ _, by first | exact Kd.R_nil _ _ _ _ _ | exact Kd.N_nil _ _ _ _ _ | exact Kd.V_nil _ _ _ _ _ | exact Kd.Q_nil _ _ _ _ _ | exact Kd.S_nil _ _ _ _ _, by repeat first | exact gB HB | refine below_set ?_ GE359.out | refine below_set ?_ GE360.out | refine below_set ?_ GE361.out⟩
        ·replace c48 := Bool.eq_false_iff.mpr c48
         subst c48
         have H1 : (layout_Reshape.l1 kj37 t372 0 l1_0 l1_1 t368 ([] : List (S39))) = some (r1, r2, r3) := by rw [if_neg (show ¬ (false = true) by decide)] at H; exact H
         clear H; have H := H1; clear H1
         have H' := gA H
         clear H
         go_wp2_with (first | ((with_reducible refine gate_dst (N := 12) rfl ?_); (try (refine gate_guard (by rfl) ?_; dsimp only)); refine box_event ?hg (N := 12) ?hd (cs := #[.slice none 0 0, .slice none 0 0]) (t := 25) ?hr ?_; (case hd => rfl); (case hg => rfl); (case hr => first | (go_simp; done) | (go_simp; rfl)); intro gb374 hg w52 hbox hb; replace HO_9 := gA (Kd.R_below (gR HO_9) hb); replace HO_360000 := gA (Kd.V_below (Kd.V_elderB (gV HO_360000) gb374 (Nat.le_of_eq hg.symm)) hb); replace HO_360001 := gA (Kd.V_below (Kd.V_elderB (gV HO_360001) gb374 (Nat.le_of_eq hg.symm)) hb); replace HO_361000 := gA (Kd.V_below (Kd.V_elderB (gV HO_361000) gb374 (Nat.le_of_eq hg.symm)) hb); replace HO_361001 := gA (Kd.V_below (Kd.V_elderB (gV HO_361001) gb374 (Nat.le_of_eq hg.symm)) hb); have BK374 := gA (hbox); have GW374 := gA ((by rw [hg]; exact (below_size (gB HB)) : w.heap.size ≤ gb374)); have GE374 := gA ((by rw [hg]; exact (below_size (gB HB)) : w.heap.size ≤ gb374)); replace HB := gA (below_step (gB HB) hb); have NB359_374 := gA ((by rw [hg]; exact Nat.ne_of_lt (blk_lt (gK BK359)) : gb359 ≠ gb374)); have NB374_359 := gA ((by rw [hg]; exact Nat.ne_of_gt (blk_lt (gK BK359)) : gb374 ≠ gb359)); replace BK359 := gA (blk_below (gK BK359) hb); have NB360_374 := gA ((by rw [hg]; exact Nat.ne_of_lt (blk_lt (gK BK360)) : gb360 ≠ gb374)); have NB374_360 := gA ((by rw [hg]; exact Nat.ne_of_gt (blk_lt (gK BK360)) : gb374 ≠ gb360)); replace BK360 := gA (blk_below (gK BK360) hb); have NB361_374 := gA ((by rw [hg]; exact Nat.ne_of_lt (blk_lt (gK BK361)) : gb361 ≠ gb374)); have NB374_361 := gA ((by rw [hg]; exact Nat.ne_of_gt (blk_lt (gK BK361)) : gb374 ≠ gb361)); replace BK361 := gA (blk_below (gK BK361) hb); clear hb hbox hg; have hnb53 := NB374_359.out; have hnc53 := NB359_374.out; have hnb54 := NB374_360.out; have hnc54 := NB360_374.out; have hnb55 := NB374_361.out; have hnc55 := NB361_374.out; obtain ⟨hcz56_0, hcz56_1, hfz56_0, hfz56_1⟩ := gz2 BK374))
         go_loopg [59] kj37 (fun kq v59 w' => ∃ (x59_3 : Int) (x375001_3 : List (S39)) (u375001 : Value), v59 = .int .i64 x59_3 ∧ Aside0 (layout_Reshape.l1 kq t372 x59_3 l1_0 l1_1 t368 x375001_3 = some (r1, r2, r3)) ∧ Aside0 (kq ≤ kj37) ∧ Aside0 (Kd.V (Kd.int .i64) 3 w' w.heap.size (fun k_ => ((P0_0_ k_ ∨ P0_1_ k_ ∨ P1_0_ k_ ∨ P1_1_ k_) ∨ w.heap.size ≤ k_) ∧ some k_ ≠ ((.slice Ao43 t368.length co43) : Value).ownBlock ∧ some k_ ≠ (u375001 : Value).ownBlock ∧ k_ ≠ gb359 ∧ k_ ≠ gb360 ∧ k_ ≠ gb361 ∧ k_ ≠ gb374) (.slice A0_0 l0_0.length c0_0) l0_0) ∧ Aside0 (Kd.V k39 39 w' w.heap.size (fun k_ => ((P0_0_ k_ ∨ P0_1_ k_ ∨ P1_0_ k_ ∨ P1_1_ k_) ∨ w.heap.size ≤ k_) ∧ some k_ ≠ ((.slice Ao43 t368.length co43) : Value).ownBlock ∧ some k_ ≠ (u375001 : Value).ownBlock ∧ k_ ≠ gb359 ∧ k_ ≠ gb360 ∧ k_ ≠ gb361 ∧ k_ ≠ gb374) (.slice A0_1 l0_1.length c0_1) l0_1) ∧ Aside0 (Kd.V (Kd.int .i64) 3 w' w.heap.size (fun k_ => ((P0_0_ k_ ∨ P0_1_ k_ ∨ P1_0_ k_ ∨ P1_1_ k_) ∨ w.heap.size ≤ k_) ∧ some k_ ≠ ((.slice Ao43 t368.length co43) : Value).ownBlock ∧ some k_ ≠ (u375001 : Value).ownBlock ∧ k_ ≠ gb359 ∧ k_ ≠ gb360 ∧ k_ ≠ gb361 ∧ k_ ≠ gb374) (.slice A1_0 l1_0.length c1_0) l1_0) ∧ Aside0 (Kd.V k39 39 w' w.heap.size (fun k_ => ((P0_0_ k_ ∨ P0_1_ k_ ∨ P1_0_ k_ ∨ P1_1_ k_) ∨ w.heap.size ≤ k_) ∧ some k_ ≠ ((.slice Ao43 t368.length co43) : Value).ownBlock ∧ some k_ ≠ (u375001 : Value).ownBlock ∧ k_ ≠ gb359 ∧ k_ ≠ gb360 ∧ k_ ≠ gb361 ∧ k_ ≠ gb374) (.slice A1_1 l1_1.length c1_1) l1_1) ∧ Aside0 (Kd.R (Kd.int .i64) 3 w' w.heap.size (fun k_ => (w.heap.size ≤ k_)) (.slice Ao43 t368.length co43) t368) ∧ Aside0 (Kd.N k39 39 w' w.heap.size (fun k_ => ((P0_0_ k_ ∨ P0_1_ k_ ∨ P1_0_ k_ ∨ P1_1_ k_) ∨ w.heap.size ≤ k_) ∧ some k_ ≠ ((.slice Ao43 t368.length co43) : Value).ownBlock ∧ k_ ≠ gb359 ∧ k_ ≠ gb360 ∧ k_ ≠ gb361 ∧ k_ ≠ gb374) u375001 x375001_3) ∧ Aside0 (w'.heap[gb359]? = some (.cells #[(.slice A0_0 l0_0.length c0_0), (.slice A0_1 l0_1.length c0_1)] 25 (0, 0))) ∧ Aside0 (w'.heap[gb360]? = some (.cells #[(.slice A1_0 l1_0.length c1_0), (.slice A1_1 l1_1.length c1_1)] 25 (0, 0))) ∧ Aside0 (w'.heap[gb361]? = some (.cells #[(.slice none 0 0), (.slice none 0 0)] 25 (0, 0))) ∧ Aside0 (w'.heap[gb374]? = some (.cells #[(.slice Ao43 t368.length co43), u375001] 25 (0, 0))) ∧ Aside0 (Below w.heap.size w w'))
         case atStart => exact ⟨(0), (([] : List (S39))), (.slice none 0 0), (rfl), H', ⟨Nat.le_refl _⟩, ⟨Kd.V_mono (Kd.V_far (p := ⟨gb374, 1, none⟩) (Kd.V_far (p := ⟨gb374, 0, none⟩) (Kd.V_mono HO_360000.out (fun k_ hk => (⟨hk, hk.2⟩ : _ ∧ k_ ≠ gb374))) (fun _ hk => hk.2) (.slice Ao43 t368.length co43)) (fun _ hk => hk.2) (.slice none 0 0)) (fun _ hk => ⟨hk.1.1.1, ⟨hk.1.1.2.1, ⟨(by simp [Value.ownBlock]), ⟨hk.1.1.2.2.1, ⟨hk.1.1.2.2.2.1, ⟨hk.1.1.2.2.2.2, hk.1.2⟩⟩⟩⟩⟩⟩)⟩, ⟨Kd.V_mono (Kd.V_far (p := ⟨gb374, 1, none⟩) (Kd.V_far (p := ⟨gb374, 0, none⟩) (Kd.V_mono HO_360001.out (fun k_ hk => (⟨hk, hk.2⟩ : _ ∧ k_ ≠ gb374))) (fun _ hk => hk.2) (.slice Ao43 t368.length co43)) (fun _ hk => hk.2) (.slice none 0 0)) (fun _ hk => ⟨hk.1.1.1, ⟨hk.1.1.2.1, ⟨(by simp [Value.ownBlock]), ⟨hk.1.1.2.2.1, ⟨hk.1.1.2.2.2.1, ⟨hk.1.1.2.2.2.2, hk.1.2⟩⟩⟩⟩⟩⟩)⟩, ⟨Kd.V_mono (Kd.V_far (p := ⟨gb374, 1, none⟩) (Kd.V_far (p := ⟨gb374, 0, none⟩) (Kd.V_mono HO_361000.out (fun k_ hk => (⟨hk, hk.2⟩ : _ ∧ k_ ≠ gb374))) (fun _ hk => hk.2) (.slice Ao43 t368.length co43)) (fun _ hk => hk.2) (.slice none 0 0)) (fun _ hk => ⟨hk.1.1.1, ⟨hk.1.1.2.1, ⟨(by simp [Value.ownBlock]), ⟨hk.1.1.2.2.1, ⟨hk.1.1.2.2.2.1, ⟨hk.1.1.2.2.2.2, hk.1.2⟩⟩⟩⟩⟩⟩)⟩, ⟨Kd.V_mono (Kd.V_far (p := ⟨gb374, 1, none⟩) (Kd.V_far (p := ⟨gb374, 0, none⟩) (Kd.V_mono HO_361001.out (fun k_ hk => (⟨hk, hk.2⟩ : _ ∧ k_ ≠ gb374))) (fun _ hk => hk.2) (.slice Ao43 t368.length co43)) (fun _ hk => hk.2) (.slice none 0 0)) (fun _ hk => ⟨hk.1.1.1, ⟨hk.1.1.2.1, ⟨(by simp [Value.ownBlock]), ⟨hk.1.1.2.2.1, ⟨hk.1.1.2.2.2.1, ⟨hk.1.1.2.2.2.2, hk.1.2⟩⟩⟩⟩⟩⟩)⟩, ⟨Kd.R_mono (Kd.R_far (p := ⟨gb374, 1, none⟩) (Kd.R_far (p := ⟨gb374, 0, none⟩) (Kd.R_types HO_9.out BK374.out (by decide)) (fun _ hk => hk.2) (.slice Ao43 t368.length co43)) (fun _ hk => hk.2) (.slice none 0 0)) (fun _ hk => hk.1)⟩, ⟨by first | exact Kd.R_nil _ _ _ _ _ | exact Kd.N_nil _ _ _ _ _ | exact Kd.V_nil _ _ _ _ _ | exact Kd.Q_nil _ _ _ _ _ | exact Kd.S_nil _ _ _ _ _⟩, ⟨by refine blk_far ?_ NB359_374.out _; refine blk_far ?_ NB359_374.out _; exact gK BK359⟩, ⟨by refine blk_far ?_ NB360_374.out _; refine blk_far ?_ NB360_374.out _; exact gK BK360⟩, ⟨by refine blk_far ?_ NB361_374.out _; refine blk_far ?_ NB361_374.out _; exact gK BK361⟩, ⟨by refine blk_put (cs := #[.slice Ao43 t368.length co43, .slice none 0 0]) ?_ 1 _ rfl; refine blk_put (cs := #[.slice none 0 0, .slice none 0 0]) ?_ 0 _ rfl; exact gK BK374⟩, ⟨by repeat first | exact gB HB | refine below_set ?_ GE359.out | refine below_set ?_ GE360.out | refine below_set ?_ GE361.out | refine below_set ?_ GE374.out⟩⟩
         case round =>
          clear H'
          try clear c1
          try clear c2
          try clear p2
          try clear c3
          try clear p3
          try clear q3
          try clear hx3
          try clear c4
          try clear c5
          try clear c6
          try clear p6
          try clear c7
          try clear c9
          try clear c14
          try clear c14b0
          try clear c15
          try clear c15b0
          try clear c16
          try clear c16b0
          try clear c18
          try clear c18b0
          try clear c18b1
          try clear c20
          try clear c21
          try clear c22
          try clear c26
          try clear c27
          try clear c28
          try clear c31
          try clear c32
          try clear c35
          try clear c35b0
          try clear c35b1
          try clear c36
          try clear p36
          try clear q36
          try clear hx36
          try clear c37
          try clear c37b0
          try clear c37b1
          try clear c38
          try clear c39
          try clear c40
          try clear c44
          try clear c44b0
          try clear c45
          try clear c46
          try clear c48
          try clear c49
          try clear c50
          try clear c53
          try clear c54
          try clear c55
          try clear hcz10_0
          try clear hcz10_1
          try clear hcz23_0
          try clear hcz23_1
          try clear hcz29_0
          try clear hcz29_1
          try clear hcz33_0
          try clear hcz33_1
          try clear hcz41_0
          try clear hcz41_1
          try clear hcz47_0
          try clear hcz47_1
          try clear hcz51_0
          try clear hcz51_1
          try clear hcz56_0
          try clear hcz56_1
          try clear hcz8_0
          try clear hcz8_1
          try clear hfz10_0
          try clear hfz10_1
          try clear hfz23_0
          try clear hfz23_1
          try clear hfz29_0
          try clear hfz29_1
          try clear hfz33_0
          try clear hfz33_1
          try clear hfz41_0
          try clear hfz41_1
          try clear hfz47_0
          try clear hfz47_1
          try clear hfz51_0
          try clear hfz51_1
          try clear hfz56_0
          try clear hfz56_1
          try clear hfz8_0
          try clear hfz8_1
          try clear hx365_0
          try clear hx365_1
          try clear p2
          try clear p3
          try clear p36
          try clear p365
          try clear p6
          try clear q3
          try clear q36
          try clear q365
          obtain ⟨x59_3, x375001_3, u375001, rfl, HA, HK3, HO_360000, HO_360001, HO_361000, HO_361001, HO_375000, HO_375001, BK359, BK360, BK361, BK374, HB⟩ := hrel
          cases gk with
          | zero => exact absurd HA.out (by simp [layout_Reshape.l1])
          | succ k3 =>
           have H := HA.out; clear HA
           simp only [layout_Reshape.l1] at H
           by_cases c57 : x59_3 < t372
           ·rw [if_pos c57] at H
            have c57b0 := decide_eq_true c57
            clear c57
            obtain ⟨c58, H⟩ := iN H
            have c58b0 : ((l1_1.length : Int) == 0) = false := beq_eq_false_iff_ne.mpr c58
            have c58b1 : ((l1_1.length : Int) != 0) = true := bne_iff_ne.mpr c58
            have c58b2 : ¬ (l1_1 = []) := fun h_ => c58 (by rw [h_]; rfl)
            obtain ⟨ji59, hji59⟩ : ∃ j_ : Int, (Int.tmod x59_3 (l1_1.length : Int)) = j_ := ⟨_, rfl⟩
            replace H : (if 0 ≤ (ji59) then (if (ji59) < (l1_1.length : Int) then (if x375001_3.length < 3518437208883 then (layout_Reshape.l1 k3 t372 (wrap64 (x59_3 + 1)) l1_0 l1_1 t368 (x375001_3 ++ [(⟨(rd_T39 l1_1 (ji59)).f0, (rd_T39 l1_1 (ji59)).f1, (rd_T39 l1_1 (ji59)).f2⟩ : S39)])) else (none)) else (none)) else (none)) = some (r1, r2, r3) := by first | (rw [hji59] at H; exact H) | (simp only [hji59] at H ⊢; exact H)
            obtain ⟨c60, H⟩ := iS H
            have c60b0 := decide_eq_true c60
            clear c60
            obtain ⟨c61, H⟩ := iS H
            have c61b0 := decide_eq_true c61
            clear c61
            obtain ⟨c62, H⟩ := iS H
            have LMc62 := gA c62
            clear c62
            obtain ⟨y376, hy376⟩ : ∃ y_ : List (S39), y_ = (x375001_3 ++ [(⟨(rd_T39 l1_1 (ji59)).f0, (rd_T39 l1_1 (ji59)).f1, (rd_T39 l1_1 (ji59)).f2⟩ : S39)]) := ⟨_, rfl⟩
            replace H : (layout_Reshape.l1 k3 t372 (wrap64 (x59_3 + 1)) l1_0 l1_1 t368 y376) = some (r1, r2, r3) := by first | (rw [hy376]; with_reducible exact H) | (have H2_ := (Option.bind_some _ _).symm.trans H; rw [hy376]; with_reducible exact H2_) | (have H2_ := (Option.bind_some _ _).symm.trans H; with_reducible exact H2_) | with_reducible exact H | (rw [hy376]; exact H) | exact H
            have Ny376 := gA hy376
            clear hy376
            have H' := gA H
            clear H
            try go_wp2
            replace HO_360000 := gA (Kd.V_drew HO_360000.out); replace HO_360001 := gA (Kd.V_drew HO_360001.out); replace HO_361000 := gA (Kd.V_drew HO_361000.out); replace HO_361001 := gA (Kd.V_drew HO_361001.out); replace HO_375000 := gA (Kd.R_drew HO_375000.out); replace HO_375001 := gA (Kd.N_drew HO_375001.out); replace BK359 := gA (blk_drew BK359.out); replace BK360 := gA (blk_drew BK360.out); replace BK361 := gA (blk_drew BK361.out); replace BK374 := gA (blk_drew BK374.out); replace HB := gA (below_drew1 HB.out)
            have p375 : 0 ≤ ((ji59) : Int) := of_decide_eq_true (by assumption)
            have q375 : (ji59) < (l1_1.length : Int) := of_decide_eq_true (by assumption)
            obtain ⟨ad375, A375_2, c375_2, e375, hx375_0, hx375_1, hx375_2, hl375_2, hi375_2⟩ := at_T39 (Kd.V_reads' HO_361001.out).2.2 (ji59) p375 q375
            cases e375
            obtain ⟨ce375, hce375, hMe375, hcc375⟩ := Kd.V_get HO_361001.out z39 (ji59) p375 (by first | exact q375 | exact of_decide_eq_true (by assumption) | (have e_ := (Kd.V_reads' HO_361001.out).1; omega))
            obtain ⟨ua375_2, uc375_2, rfl, ul375_2, ge375_2⟩ := k39_openF hMe375
            have hv375_2 := hcc375 2 _ rfl
            rw [add_field _ _ 2 (by omega)] at hv375_2
            replace hv375_2 := Option.some.inj (hv375_2.symm.trans hx375_2)
            injection hv375_2 with hva_ hvn_ hvc_
            rw [hva_] at ge375_2
            rw [hvc_] at ul375_2
            have HL375_2 := gA (show Kd.V k25 25 _ w.heap.size _ _ ((rd_T39 l1_1 (ji59)).f2) from Kd.V_mk ul375_2 ge375_2)
            clear hva_ hvn_ hvc_ ge375_2 ul375_2 hcc375 hce375
            have HR375_2 := gA hi375_2
            have HC375_2 := gA hl375_2
            clear hi375_2 hl375_2
            replace p375 := eq_true p375
            replace q375 := eq_true q375
            refine start_ (n := 15) (S := fun w' => w'.cell? ⟨gb374, 0, none⟩ = some (.slice Ao43 t368.length co43) ∧ w'.cell? ⟨gb374, 1, none⟩ = some (u375001) ∧ w'.cell? ⟨gb360, 0, none⟩ = some (.slice A1_0 l1_0.length c1_0) ∧ w'.cell? ⟨gb360, 1, none⟩ = some (.slice (some ad375) l1_1.length c1_1) ∧ w'.cell? (ad375.add (((ji59)).toNat * 3)) = some (.int .i64 ((rd_T39 l1_1 (ji59)).f0)) ∧ w'.cell? ⟨(ad375.add (((ji59)).toNat * 3)).block, (ad375.add (((ji59)).toNat * 3)).off + 1, none⟩ = some (.int .i64 ((rd_T39 l1_1 (ji59)).f1)) ∧ w'.cell? ⟨(ad375.add (((ji59)).toNat * 3)).block, (ad375.add (((ji59)).toNat * 3)).off + 2, none⟩ = some (.slice A375_2 ((rd_T39 l1_1 (ji59)).f2).length c375_2)) (ds := [12, 14]) #[false, false, false, false, false, false, false, false, false, false, false, false, false, false, false] (by kernel_rfl) rfl rfl ⟨(blk_cell BK374.out 0).trans rfl, (blk_cell BK374.out 1).trans rfl, (blk_cell BK360.out 0).trans rfl, (blk_cell BK360.out 1).trans rfl, hx375_0, hx375_1, hx375_2⟩ (fun hHeld => ?_); refine with_tabW layout_Reshape.tab20 layout_Reshape.bits20 (fun HT_ HW_ => ?_)
            generalize wr.drew = w63 at HO_360000 HO_360001 HO_361000 HO_361001 HO_375000 HO_375001 BK359 BK360 BK361 BK374 HB HL375_2 HR375_2 hx375_0 hx375_1 hx375_2 hHeld ⊢
            refine pure_ (i := 0) (N := some 62) (v := ?_) (a' := ?_) #[true, false, false, false, false, false, false, false, false, false, false, false, false, false, false] rfl rfl (any_of HT_.out (by kernel_rfl)) (fun _ _ _ h => h) (Or.inl ⟨by rfl, ?_⟩) ?_ ?_; rotate_left
            ·intro w'; go_simp; with_reducible rfl
            rotate_left
            ·simp only [Act.put, List.setIfInBounds_toArray, List.set_cons_zero, List.set_cons_succ, i64_w, i32_w]; rfl
            refine pure_ (i := 2) (N := some 64) (v := ?_) (a' := ?_) #[true, false, true, false, false, false, false, false, false, false, false, false, false, false, false] rfl rfl (any_of HT_.out (by kernel_rfl)) (fun _ _ _ h => h) (Or.inl ⟨by rfl, ?_⟩) ?_ ?_; rotate_left
            ·intro w'; go_simp; with_reducible rfl
            rotate_left
            ·simp only [Act.put, List.setIfInBounds_toArray, List.set_cons_zero, List.set_cons_succ, i64_w, i32_w]; rfl
            refine pure_ (i := 4) (N := some 66) (v := ?_) (a' := ?_) #[true, false, true, false, true, false, false, false, false, false, false, false, false, false, false] rfl rfl (any_of HT_.out (by kernel_rfl)) (fun _ _ _ h => h) (Or.inl ⟨by rfl, ?_⟩) ?_ ?_; rotate_left
            ·intro w'; go_simp; with_reducible rfl
            rotate_left
            ·simp only [Act.put, List.setIfInBounds_toArray, List.set_cons_zero, List.set_cons_succ, i64_w, i32_w]; rfl
            refine pure_ (i := 5) (N := some 67) (v := ?_) (a' := ?_) #[true, false, true, false, true, true, false, false, false, false, false, false, false, false, false] rfl rfl (any_of HT_.out (by kernel_rfl)) (fun _ _ _ h => h) (Or.inl ⟨by rfl, ?_⟩) ?_ ?_; rotate_left
            ·intro w'; go_simp; with_reducible rfl
            rotate_left
            ·simp only [Act.put, List.setIfInBounds_toArray, List.set_cons_zero, List.set_cons_succ, i64_w, i32_w]; rfl
            refine take_ (i := 1) (N := some 63) (v := ?_) (a' := ?_) #[true, true, true, false, true, true, false, false, false, false, false, false, false, false, false] rfl rfl (take_ofW HT_.out HW_.out (by kernel_rfl)) (fun _ _ _ h => h) (Or.inl ⟨by rfl, ?_⟩) hHeld ?_ ?_; rotate_left
            ·rintro w' ⟨s0, s1, s2, s3, s4, s5, s6⟩; go_simp; with_reducible rfl
            rotate_left
            ·simp only [Act.put, List.setIfInBounds_toArray, List.set_cons_zero, List.set_cons_succ, i64_w, i32_w]; rfl
            refine take_ (i := 3) (N := some 65) (v := ?_) (a' := ?_) #[true, true, true, true, true, true, false, false, false, false, false, false, false, false, false] rfl rfl (take_ofW HT_.out HW_.out (by kernel_rfl)) (fun _ _ _ h => h) (Or.inl ⟨by rfl, ?_⟩) hHeld ?_ ?_; rotate_left
            ·rintro w' ⟨s0, s1, s2, s3, s4, s5, s6⟩; go_simp; with_reducible rfl
            rotate_left
            ·simp only [Act.put, List.setIfInBounds_toArray, List.set_cons_zero, List.set_cons_succ, i64_w, i32_w]; rfl
            refine take_ (i := 6) (N := some 68) (v := ?_) (a' := ?_) #[true, true, true, true, true, true, true, false, false, false, false, false, false, false, false] rfl rfl (take_ofW HT_.out HW_.out (by kernel_rfl)) (fun _ _ _ h => h) (Or.inl ⟨by rfl, ?_⟩) hHeld ?_ ?_; rotate_left
            ·rintro w' ⟨s0, s1, s2, s3, s4, s5, s6⟩; go_simp; with_reducible rfl
            rotate_left
            ·simp only [Act.put, List.setIfInBounds_toArray, List.set_cons_zero, List.set_cons_succ, i64_w, i32_w]; rfl
            refine pure_ (i := 7) (N := some 69) (v := ?_) (a' := ?_) #[true, true, true, true, true, true, true, true, false, false, false, false, false, false, false] rfl rfl (any_of HT_.out (by kernel_rfl)) (fun _ _ _ h => h) (Or.inl ⟨by rfl, ?_⟩) ?_ ?_; rotate_left
            ·intro w'; go_simp; with_reducible rfl
            rotate_left
            ·simp only [Act.put, List.setIfInBounds_toArray, List.set_cons_zero, List.set_cons_succ, i64_w, i32_w]; rfl
            refine pure_ (i := 8) (N := some 70) (v := ?_) (a' := ?_) #[true, true, true, true, true, true, true, true, true, false, false, false, false, false, false] rfl rfl (any_of HT_.out (by kernel_rfl)) (fun _ _ _ h => h) (Or.inl ⟨by rfl, ?_⟩) ?_ ?_; rotate_left
            ·intro w'; go_simp; with_reducible rfl
            rotate_left
            ·simp only [Act.put, List.setIfInBounds_toArray, List.set_cons_zero, List.set_cons_succ, i64_w, i32_w]; rfl
            refine pure_ (i := 9) (N := some 71) (v := ?_) (a' := ?_) #[true, true, true, true, true, true, true, true, true, true, false, false, false, false, false] rfl rfl (any_of HT_.out (by kernel_rfl)) (fun _ _ _ h => h) (Or.inl ⟨by rfl, ?_⟩) ?_ ?_; rotate_left
            ·intro w'; go_simp; with_reducible rfl
            rotate_left
            ·simp only [Act.put, List.setIfInBounds_toArray, List.set_cons_zero, List.set_cons_succ, i64_w, i32_w]; rfl
            refine take_ (i := 10) (N := some 72) (v := ?_) (a' := ?_) #[true, true, true, true, true, true, true, true, true, true, true, false, false, false, false] rfl rfl (take_ofW HT_.out HW_.out (by kernel_rfl)) (fun _ _ _ h => h) (Or.inl ⟨by rfl, ?_⟩) hHeld ?_ ?_; rotate_left
            ·rintro w' ⟨s0, s1, s2, s3, s4, s5, s6⟩; go_simp; with_reducible rfl
            rotate_left
            ·simp only [Act.put, List.setIfInBounds_toArray, List.set_cons_zero, List.set_cons_succ, i64_w, i32_w]; rfl
            refine one_ (i := 11) (N := some 73) #[true, true, true, true, true, true, true, true, true, true, true, true, false, false, false] rfl rfl (one_of HT_.out (by kernel_rfl)) (by decide) (fun K hK => ?_)
            refine value_ (w1 := ?_) (v := ?_) (by rfl) rfl ?_ ?_
            rotate_left 2
            ·go_simp
             constructor
             ·rfl
             ·rfl
            refine hK.out _ _ ⟨(blk_cell (blk_alloc BK374.out _) 0).trans rfl, (blk_cell (blk_alloc BK374.out _) 1).trans rfl, (blk_cell (blk_alloc BK360.out _) 0).trans rfl, (blk_cell (blk_alloc BK360.out _) 1).trans rfl, (World.cell?_alloc_lt _ _ _ (World.block_lt_of_cell? _ _ (hHeld.2.2.2.2.1))).trans (hHeld.2.2.2.2.1), (World.cell?_alloc_lt _ _ _ (World.block_lt_of_cell? _ _ (hHeld.2.2.2.2.2.1))).trans (hHeld.2.2.2.2.2.1), (World.cell?_alloc_lt _ _ _ (World.block_lt_of_cell? _ _ (hHeld.2.2.2.2.2.2))).trans (hHeld.2.2.2.2.2.2)⟩ (fun hHeld => ?_); clear hK K
            refine norm_ (a' := ?_) ?_ ?_; rotate_left
            ·show Act.put _ (some 73) _ = _
             simp only [Act.put, List.setIfInBounds_toArray, List.set_cons_zero, List.set_cons_succ, i64_w, i32_w]; rfl
            refine last_ (i := 12) (N := some 74) #[true, true, true, true, true, true, true, true, true, true, true, true, true, false, false] rfl rfl (one_of HT_.out (by kernel_rfl)) (by decide) (fun K hK => ?_)
            refine Kd.N_append_step k39 (w0 := w) w.heap.size (by rfl) (.tmp 63) (.tmp 73) 23 39 (.agg #[(.int .i64 0), (.int .i64 0), (.slice none 0 0)]) 40 rfl Try.underlying23 info39 rfl (by decide) (by omega) u375001 x375001_3 (⟨(rd_T39 l1_1 (ji59)).f0, (rd_T39 l1_1 (ji59)).f1, (rd_T39 l1_1 (ji59)).f2⟩ : S39) [.int .i64 ((rd_T39 l1_1 (ji59)).f0), .int .i64 ((rd_T39 l1_1 (ji59)).f1), .slice A375_2 ((rd_T39 l1_1 (ji59)).f2).length c375_2] (fun k_ => ((P0_0_ k_ ∨ P0_1_ k_ ∨ P1_0_ k_ ∨ P1_1_ k_) ∨ w.heap.size ≤ k_) ∧ some k_ ≠ (.slice Ao43 t368.length co43 : Value).ownBlock ∧ k_ ≠ gb359 ∧ k_ ≠ gb360 ∧ k_ ≠ gb361 ∧ k_ ≠ gb374) (fun k_ => ((fun k_ => ((P0_0_ k_ ∨ P0_1_ k_ ∨ P1_0_ k_ ∨ P1_1_ k_) ∨ w.heap.size ≤ k_) ∧ some k_ ≠ (.slice Ao43 t368.length co43 : Value).ownBlock ∧ k_ ≠ gb359 ∧ k_ ≠ gb360 ∧ k_ ≠ gb361 ∧ k_ ≠ gb374)) k_ ∧ some k_ ≠ (u375001 : Value).ownBlock) rfl rfl ?aP (fun _ hk => hk) ?aF ?aO ?aB ?aS ?aL ?_
            (case aP => exact (k39_mkF _ _ (⟨(rd_T39 l1_1 (ji59)).f0, (rd_T39 l1_1 (ji59)).f1, (rd_T39 l1_1 (ji59)).f2⟩ : S39) (Kd.V_reads' (Kd.V_mono (ok' := (fun k_ => ((fun k_ => ((P0_0_ k_ ∨ P0_1_ k_ ∨ P1_0_ k_ ∨ P1_1_ k_) ∨ w.heap.size ≤ k_) ∧ some k_ ≠ (.slice Ao43 t368.length co43 : Value).ownBlock ∧ k_ ≠ gb359 ∧ k_ ≠ gb360 ∧ k_ ≠ gb361 ∧ k_ ≠ gb374)) k_ ∧ some k_ ≠ (u375001 : Value).ownBlock)) (HL375_2.out) (fun k_ hk => ⟨⟨hk.1, ⟨hk.2.1, ⟨hk.2.2.2.1, ⟨hk.2.2.2.2.1, ⟨hk.2.2.2.2.2.1, hk.2.2.2.2.2.2⟩⟩⟩⟩⟩, hk.2.2.1⟩))).2.1 (Kd.V_F (Kd.V_mono (ok' := (fun k_ => ((fun k_ => ((P0_0_ k_ ∨ P0_1_ k_ ∨ P1_0_ k_ ∨ P1_1_ k_) ∨ w.heap.size ≤ k_) ∧ some k_ ≠ (.slice Ao43 t368.length co43 : Value).ownBlock ∧ k_ ≠ gb359 ∧ k_ ≠ gb360 ∧ k_ ≠ gb361 ∧ k_ ≠ gb374)) k_ ∧ some k_ ≠ (u375001 : Value).ownBlock)) (HL375_2.out) (fun k_ hk => ⟨⟨hk.1, ⟨hk.2.1, ⟨hk.2.2.2.1, ⟨hk.2.2.2.2.1, ⟨hk.2.2.2.2.2.1, hk.2.2.2.2.2.2⟩⟩⟩⟩⟩, hk.2.2.1⟩)))))
            (case aB => exact (gB HB))
            (case aF => exact (fun k_ hk => ⟨(.inr (Nat.le_trans (below_size (gB HB)) hk)), Kd.fresh' (Kd.R_lt (gR HO_375000)) k_ hk, Kd.freshB (gK BK359) k_ hk, Kd.freshB (gK BK360) k_ hk, Kd.freshB (gK BK361) k_ hk, Kd.freshB (gK BK374) k_ hk⟩))
            (case aO => exact (gN HO_375001))
            (case aS => exact (below_size (gB HB)))
            (case aL => have := LMc62.out; omega)
            intro v377 w64 ho hb hg hat
            rw [← Ny376.out] at ho
            replace HO_360000 := gA (Kd.V_afterv (ok := (fun k_ => ((P0_0_ k_ ∨ P0_1_ k_ ∨ P1_0_ k_ ∨ P1_1_ k_) ∨ w.heap.size ≤ k_) ∧ some k_ ≠ (.slice Ao43 t368.length co43 : Value).ownBlock ∧ k_ ≠ gb359 ∧ k_ ≠ gb360 ∧ k_ ≠ gb361 ∧ k_ ≠ gb374)) (Kd.V_mono HO_360000.out (fun _ hk => ⟨⟨hk.1, ⟨hk.2.1, ⟨hk.2.2.2.1, ⟨hk.2.2.2.2.1, ⟨hk.2.2.2.2.2.1, hk.2.2.2.2.2.2⟩⟩⟩⟩⟩, hk.2.2.1⟩)) hg hat); replace HO_360001 := gA (Kd.V_afterv (ok := (fun k_ => ((P0_0_ k_ ∨ P0_1_ k_ ∨ P1_0_ k_ ∨ P1_1_ k_) ∨ w.heap.size ≤ k_) ∧ some k_ ≠ (.slice Ao43 t368.length co43 : Value).ownBlock ∧ k_ ≠ gb359 ∧ k_ ≠ gb360 ∧ k_ ≠ gb361 ∧ k_ ≠ gb374)) (Kd.V_mono HO_360001.out (fun _ hk => ⟨⟨hk.1, ⟨hk.2.1, ⟨hk.2.2.2.1, ⟨hk.2.2.2.2.1, ⟨hk.2.2.2.2.2.1, hk.2.2.2.2.2.2⟩⟩⟩⟩⟩, hk.2.2.1⟩)) hg hat); replace HO_361000 := gA (Kd.V_afterv (ok := (fun k_ => ((P0_0_ k_ ∨ P0_1_ k_ ∨ P1_0_ k_ ∨ P1_1_ k_) ∨ w.heap.size ≤ k_) ∧ some k_ ≠ (.slice Ao43 t368.length co43 : Value).ownBlock ∧ k_ ≠ gb359 ∧ k_ ≠ gb360 ∧ k_ ≠ gb361 ∧ k_ ≠ gb374)) (Kd.V_mono HO_361000.out (fun _ hk => ⟨⟨hk.1, ⟨hk.2.1, ⟨hk.2.2.2.1, ⟨hk.2.2.2.2.1, ⟨hk.2.2.2.2.2.1, hk.2.2.2.2.2.2⟩⟩⟩⟩⟩, hk.2.2.1⟩)) hg hat); replace HO_361001 := gA (Kd.V_afterv (ok := (fun k_ => ((P0_0_ k_ ∨ P0_1_ k_ ∨ P1_0_ k_ ∨ P1_1_ k_) ∨ w.heap.size ≤ k_) ∧ some k_ ≠ (.slice Ao43 t368.length co43 : Value).ownBlock ∧ k_ ≠ gb359 ∧ k_ ≠ gb360 ∧ k_ ≠ gb361 ∧ k_ ≠ gb374)) (Kd.V_mono HO_361001.out (fun _ hk => ⟨⟨hk.1, ⟨hk.2.1, ⟨hk.2.2.2.1, ⟨hk.2.2.2.2.1, ⟨hk.2.2.2.2.2.1, hk.2.2.2.2.2.2⟩⟩⟩⟩⟩, hk.2.2.1⟩)) hg hat); replace HO_375000 := gA (Kd.R_over' (gR HO_375000) (Kd.N_typed (gN HO_375001)) (by decide) hg); replace BK359 := gA (blk_grown (gK BK359) hg (Kd.N_ne HO_375001.out BK359.out (by decide))); replace BK360 := gA (blk_grown (gK BK360) hg (Kd.N_ne HO_375001.out BK360.out (by decide))); replace BK361 := gA (blk_grown (gK BK361) hg (Kd.N_ne HO_375001.out BK361.out (by decide))); replace BK374 := gA (blk_grown (gK BK374) hg (Kd.N_ne HO_375001.out BK374.out (by decide))); replace HL375_2 := gA (Kd.V_afterv (ok := (fun k_ => ((P0_0_ k_ ∨ P0_1_ k_ ∨ P1_0_ k_ ∨ P1_1_ k_) ∨ w.heap.size ≤ k_) ∧ some k_ ≠ (.slice Ao43 t368.length co43 : Value).ownBlock ∧ k_ ≠ gb359 ∧ k_ ≠ gb360 ∧ k_ ≠ gb361 ∧ k_ ≠ gb374)) (Kd.V_mono HL375_2.out (fun _ hk => ⟨⟨hk.1, ⟨hk.2.1, ⟨hk.2.2.2.1, ⟨hk.2.2.2.2.1, ⟨hk.2.2.2.2.2.1, hk.2.2.2.2.2.2⟩⟩⟩⟩⟩, hk.2.2.1⟩)) hg hat); replace HB := gA (hb); have HO378 := gA (ho); clear HO_375001 ho hb hg hat
            obtain ⟨Ao65, co65, eo65⟩ := Kd.N_slice HO378.out
            (first | subst eo65 | (injection eo65 with f1_ f2_ f3_; have f4_ := f1_.symm; have f5_ := f3_.symm; clear f1_ f2_ f3_; subst f4_; subst f5_))
            refine hK.out _ _ ?_; clear hK K
            refine norm_ (a' := ?_) ?_ ?_; rotate_left
            ·show Act.put _ (some 74) _ = _
             simp only [Act.put, List.setIfInBounds_toArray, List.set_cons_zero, List.set_cons_succ, i64_w, i32_w]; rfl
            refine pure_ (i := 13) (N := some 75) (v := ?_) (a' := ?_) #[true, true, true, true, true, true, true, true, true, true, true, true, true, true, false] rfl rfl (any_of HT_.out (by kernel_rfl)) (fun _ _ _ h => h) (Or.inl ⟨by rfl, ?_⟩) ?_ ?_; rotate_left
            ·intro w'; go_simp; with_reducible rfl
            rotate_left
            ·simp only [Act.put, List.setIfInBounds_toArray, List.set_cons_zero, List.set_cons_succ, i64_w, i32_w]; rfl
            refine last_ (i := 14) (N := none) #[true, true, true, true, true, true, true, true, true, true, true, true, true, true, true] rfl rfl (one_of HT_.out (by kernel_rfl)) (by decide) (fun K hK => ?_)
            have hs66 := gz BK374 1 rfl
            have hfs66 := blk_frozen BK374.out 1
            have hns66_0 := NB359_374.out
            have hns66_1 := NB360_374.out
            have hns66_2 := NB361_374.out
            have hms66_0 := NB374_359.out
            have hms66_1 := NB374_360.out
            have hms66_2 := NB374_361.out
            refine skip_ (w1 := ?_) (by rfl) rfl ?_ ?_; rotate_left
            ·go_simp; rfl
            refine hK.out _ _ ?_; clear hK K
            refine done_ (done_of HT_.out (by kernel_rfl)) ?_
            try go_wp2
            go_roundg k3
            case measure => have := HK1.out; have := HJ37.out; have := HK3.out; omega
            case rel => exact ⟨(wrap64 (x59_3 + 1)), (y376), (.slice Ao65 y376.length co65), (rfl), H', ⟨by have := HK1.out; have := HJ37.out; have := HK3.out; omega⟩, ⟨Kd.V_mono (Kd.V_far (p := ⟨gb374, 1, none⟩) (Kd.V_mono HO_360000.out (fun k_ hk => (⟨hk, hk.1.2.2.2.2.2⟩ : _ ∧ k_ ≠ gb374))) (fun _ hk => hk.2) (.slice Ao65 y376.length co65)) (fun _ hk => by first | exact ⟨hk.1.1.1, ⟨hk.1.1.2.1, ⟨hk.1.2, ⟨hk.1.1.2.2.1, ⟨hk.1.1.2.2.2.1, ⟨hk.1.1.2.2.2.2.1, hk.1.1.2.2.2.2.2⟩⟩⟩⟩⟩⟩ | (simp_all; done))⟩, ⟨Kd.V_mono (Kd.V_far (p := ⟨gb374, 1, none⟩) (Kd.V_mono HO_360001.out (fun k_ hk => (⟨hk, hk.1.2.2.2.2.2⟩ : _ ∧ k_ ≠ gb374))) (fun _ hk => hk.2) (.slice Ao65 y376.length co65)) (fun _ hk => by first | exact ⟨hk.1.1.1, ⟨hk.1.1.2.1, ⟨hk.1.2, ⟨hk.1.1.2.2.1, ⟨hk.1.1.2.2.2.1, ⟨hk.1.1.2.2.2.2.1, hk.1.1.2.2.2.2.2⟩⟩⟩⟩⟩⟩ | (simp_all; done))⟩, ⟨Kd.V_mono (Kd.V_far (p := ⟨gb374, 1, none⟩) (Kd.V_mono HO_361000.out (fun k_ hk => (⟨hk, hk.1.2.2.2.2.2⟩ : _ ∧ k_ ≠ gb374))) (fun _ hk => hk.2) (.slice Ao65 y376.length co65)) (fun _ hk => by first | exact ⟨hk.1.1.1, ⟨hk.1.1.2.1, ⟨hk.1.2, ⟨hk.1.1.2.2.1, ⟨hk.1.1.2.2.2.1, ⟨hk.1.1.2.2.2.2.1, hk.1.1.2.2.2.2.2⟩⟩⟩⟩⟩⟩ | (simp_all; done))⟩, ⟨Kd.V_mono (Kd.V_far (p := ⟨gb374, 1, none⟩) (Kd.V_mono HO_361001.out (fun k_ hk => (⟨hk, hk.1.2.2.2.2.2⟩ : _ ∧ k_ ≠ gb374))) (fun _ hk => hk.2) (.slice Ao65 y376.length co65)) (fun _ hk => by first | exact ⟨hk.1.1.1, ⟨hk.1.1.2.1, ⟨hk.1.2, ⟨hk.1.1.2.2.1, ⟨hk.1.1.2.2.2.1, ⟨hk.1.1.2.2.2.2.1, hk.1.1.2.2.2.2.2⟩⟩⟩⟩⟩⟩ | (simp_all; done))⟩, ⟨Kd.R_mono (Kd.R_far (p := ⟨gb374, 1, none⟩) (Kd.R_types HO_375000.out BK374.out (by decide)) (fun _ hk => hk.2) (.slice Ao65 y376.length co65)) (fun _ hk => hk.1)⟩, ⟨Kd.N_mono (Kd.N_far (p := ⟨gb374, 1, none⟩) (Kd.N_mono HO378.out (fun k_ hk => (⟨hk, hk.2.2.2.2.2⟩ : _ ∧ k_ ≠ gb374))) (fun _ hk => hk.2) (.slice Ao65 y376.length co65)) (fun _ hk => ⟨hk.1.1, ⟨hk.1.2.1, ⟨hk.1.2.2.1, ⟨hk.1.2.2.2.1, ⟨hk.1.2.2.2.2.1, hk.1.2.2.2.2.2⟩⟩⟩⟩⟩)⟩, ⟨by refine blk_far ?_ NB359_374.out _; exact gK BK359⟩, ⟨by refine blk_far ?_ NB360_374.out _; exact gK BK360⟩, ⟨by refine blk_far ?_ NB361_374.out _; exact gK BK361⟩, ⟨by refine blk_put (cs := #[.slice Ao43 t368.length co43, u375001]) ?_ 1 _ rfl; exact gK BK374⟩, ⟨by repeat first | exact gB HB | refine below_set ?_ GE359.out | refine below_set ?_ GE360.out | refine below_set ?_ GE361.out | refine below_set ?_ GE374.out⟩⟩
           ·rw [if_neg c57] at H
            have c57b0 := decide_eq_false c57
            clear c57
            replace H := Option.bind_eq_some_iff.mp H
            obtain ⟨⟨t379, t382⟩, A670, H⟩ := H
            replace H : (some (t379, t382, 0)) = some (r1, r2, r3) := H
            have A67 := gA A670
            clear A670
            simp only [Option.some.injEq, Prod.mk.injEq] at H
            obtain ⟨rfl, rfl, rfl⟩ := H
            have hnb68 := NB374_359.out
            have hnc68 := NB359_374.out
            have hnb69 := NB374_360.out
            have hnc69 := NB360_374.out
            have hnb70 := NB374_361.out
            have hnc70 := NB361_374.out
            obtain ⟨hcz71_0, hcz71_1, hfz71_0, hfz71_1⟩ := gz2 BK374
            obtain ⟨Ao72, co72, eo72⟩ := Kd.N_slice HO_375001.out
            subst eo72
            go_wp2_with (first | ((with_reducible refine gate_callee (f := 22) rfl ?_); refine goesL_ (some 78) rfl rfl Try.func22 (by kernel_rfl) rfl #[.agg #[.slice Ao43 t368.length co43, .slice Ao72 x375001_3.length co72]] rfl (by (try simp only [List.map_toArray, List.map_cons, List.map_nil]); first | done | rfl | (simp only [List.length_drop, List.length_take]; rfl)) ?_; (with_reducible refine (arr_Copy.calls k3 _ _ t368 (fun k_ => (((P0_0_ k_ ∨ P0_1_ k_ ∨ P1_0_ k_ ∨ P1_1_ k_) ∨ w.heap.size ≤ k_) ∧ (some k_ ≠ (.slice Ao43 t368.length co43 : Value).ownBlock ∧ (k_ ≠ gb359 ∧ (k_ ≠ gb360 ∧ (k_ ≠ gb361 ∧ k_ ≠ gb374)))))) _ _ x375001_3 t379 t382 _ ?side1 ?side2 ?side3 A67.out).mono ?_); (case side1 => repeat (first | exact (Kd.R_reads' HO_375000.out).2.2 | (with_reducible refine Kd.C_alloc ?_ _) | (with_reducible refine Kd.C_drewN ?_ _) | (with_reducible refine Kd.C_drew ?_))); (case side2 => exact (Kd.R_reads' HO_375000.out).2.1); (case side3 => exact Kd.N_V (HO_375001.out)); rintro e w73 ⟨v380, v383, rfl, ho0, ho1, hb⟩; refine ⟨_, rfl, ?_⟩; replace HO_360000 := gA (Kd.V_mono (Kd.V_told (Kd.V_told (Kd.V_old (gV HO_360000) hb) (Kd.R_base ho0)) (by first | exact Kd.N_base ho1 | exact Kd.R_base ho1)) (fun _ h_ => h_.1)); replace HO_360001 := gA (Kd.V_mono (Kd.V_told (Kd.V_told (Kd.V_old (gV HO_360001) hb) (Kd.R_base ho0)) (by first | exact Kd.N_base ho1 | exact Kd.R_base ho1)) (fun _ h_ => h_.1)); replace HO_361000 := gA (Kd.V_mono (Kd.V_told (Kd.V_told (Kd.V_old (gV HO_361000) hb) (Kd.R_base ho0)) (by first | exact Kd.N_base ho1 | exact Kd.R_base ho1)) (fun _ h_ => h_.1)); replace HO_361001 := gA (Kd.V_mono (Kd.V_told (Kd.V_told (Kd.V_old (gV HO_361001) hb) (Kd.R_base ho0)) (by first | exact Kd.N_base ho1 | exact Kd.R_base ho1)) (fun _ h_ => h_.1)); replace HO_375001 := gA (Kd.N_mono (Kd.N_told (Kd.N_told (Kd.N_old (gN HO_375001) hb) (Kd.R_base ho0)) (by first | exact Kd.N_base ho1 | exact Kd.R_base ho1)) (fun _ h_ => h_.1)); have HO381 := gA (Kd.R_lower (Kd.R_new' (Kd.R_newM (M := fun k_ => (w.heap.size ≤ k_)) (Kd.R_mono (ok' := fun k_ => True) ho0 (fun _ hk_ => trivial)) (below_size (gB HB)) (fun k_ h_ => h_)) (Kd.R_lt (gR HO_375000))) (below_size (gB HB))); have HO384 := gA (Kd.N_lower (Kd.N_mono (ok' := fun k_ => ((P0_0_ k_ ∨ P0_1_ k_ ∨ P1_0_ k_ ∨ P1_1_ k_) ∨ w.heap.size ≤ k_) ∧ some k_ ≠ (v380 : Value).ownBlock ∧ some k_ ≠ (.slice Ao43 t368.length co43 : Value).ownBlock ∧ k_ ≠ gb359 ∧ k_ ≠ gb360 ∧ k_ ≠ gb361 ∧ k_ ≠ gb374) ho1 (fun k_ hk_ => ⟨Or.elim hk_.1 (fun hs_ => hs_.1) (fun hn_ => (.inr (Nat.le_trans (below_size (gB HB)) hn_))), hk_.2, Or.elim hk_.1 (fun hs_ => hs_.2.1) (fun hn_ => (Kd.fresh' (Kd.R_lt (gR HO_375000)) k_ hn_)), Or.elim hk_.1 (fun hs_ => hs_.2.2.1) (fun hn_ => (Kd.freshB (gK BK359) k_ hn_)), Or.elim hk_.1 (fun hs_ => hs_.2.2.2.1) (fun hn_ => (Kd.freshB (gK BK360) k_ hn_)), Or.elim hk_.1 (fun hs_ => hs_.2.2.2.2.1) (fun hn_ => (Kd.freshB (gK BK361) k_ hn_)), Or.elim hk_.1 (fun hs_ => hs_.2.2.2.2.2) (fun hn_ => (Kd.freshB (gK BK374) k_ hn_))⟩)) (below_size (gB HB))); replace HO_375000 := gA (Kd.R_elder' (gR HO_375000) (Kd.R_base ho0) hb); replace BK359 := gA (blk_below (gK BK359) hb); replace BK360 := gA (blk_below (gK BK360) hb); replace BK361 := gA (blk_below (gK BK361) hb); replace BK374 := gA (blk_below (gK BK374) hb); replace HB := gA (below_step (gB HB) hb); (try clear hb); (try clear ho0); (try clear ho1); obtain ⟨Ao74, co74, eo74⟩ := Kd.R_slice HO381.out; subst eo74; have hnb75 := NB361_359.out; have hnc75 := NB359_361.out; have hnb76 := NB361_360.out; have hnc76 := NB360_361.out; obtain ⟨hcz77_0, hcz77_1, hfz77_0, hfz77_1⟩ := gz2 BK361; obtain ⟨Ao78, co78, eo78⟩ := Kd.N_slice HO384.out; subst eo78))
            refine bodyPost_ret (results_ct rfl _ _ gb361 25 #[.slice Ao74 t379.length co74, .slice Ao78 t382.length co78] (0, 0) _ rfl (by refine blk_put (cs := #[.slice Ao74 t379.length co74, .slice none 0 0]) ?_ 1 _ rfl; refine blk_put (cs := #[.slice none 0 0, .slice none 0 0]) ?_ 0 _ rfl; exact gK BK361) Try.underlying25 rfl (by kernel_rfl)) rfl ?_
            exact ⟨_, _, rfl, Kd.R_mono (Kd.R_far (p := ⟨gb361, 1, none⟩) (Kd.R_far (p := ⟨gb361, 0, none⟩) (Kd.R_types HO381.out BK361.out (by decide)) (fun _ hk => hk.2) (.slice Ao74 t379.length co74)) (fun _ hk => hk.2) (.slice Ao78 t382.length co78)) (fun _ hk => hk.1.1.1), Kd.N_mono (Kd.N_far (p := ⟨gb361, 1, none⟩) (Kd.N_far (p := ⟨gb361, 0, none⟩) (Kd.N_mono HO384.out (fun k_ hk => (⟨hk, hk.2.2.2.2.2.1⟩ : _ ∧ k_ ≠ gb361))) (fun _ hk => hk.2) (.slice Ao74 t379.length co74)) (fun _ hk => hk.2) (.slice Ao78 t382.length co78)) (fun _ hk => ⟨hk.1.1, hk.1.2.1⟩), by repeat first | exact gB HB | refine below_set ?_ GE359.out | refine below_set ?_ GE360.out | refine below_set ?_ GE361.out | refine below_set ?_ GE374.out⟩
     ·rw [if_neg c37] at H
      have c37b0 : (t373 == 0) = false := beq_eq_false_iff_ne.mpr c37
      have c37b1 : (t373 != 0) = true := bne_iff_ne.mpr c37
      simp only [Option.some.injEq, Prod.mk.injEq] at H
      obtain ⟨rfl, rfl, rfl⟩ := H
      have hnb79 := NB359_360.out
      have hnc79 := NB360_359.out
      have hnb80 := NB359_361.out
      have hnc80 := NB361_359.out
      obtain ⟨hcz81_0, hcz81_1, hfz81_0, hfz81_1⟩ := gz2 BK359
      go_wp2_with (first | ((with_reducible refine gate_callee (f := 38) rfl ?_); refine goesL_ (some 31) rfl rfl Try.func38 (by kernel_rfl) rfl #[.agg #[.slice A0_0 l0_0.length c0_0, .slice A0_1 l0_1.length c0_1]] rfl (by (try simp only [List.map_toArray, List.map_cons, List.map_nil]); first | done | rfl | (simp only [List.length_drop, List.length_take]; rfl)) ?_; (with_reducible refine (layout_wanted.calls k1 _ _ l0_0 _ _ l0_1 t368 t371 _ ?side1 ?side2 ?side3 ?side4 A34.out).mono ?_); (case side1 => repeat (first | exact (Kd.V_reads' HO_360000.out).2.2 | (with_reducible refine Kd.C_alloc ?_ _) | (with_reducible refine Kd.C_drewN ?_ _) | (with_reducible refine Kd.C_drew ?_))); (case side2 => exact (Kd.V_reads' HO_360000.out).2.1); (case side3 => repeat (first | exact (Kd.V_reads' HO_360001.out).2.2 | (with_reducible refine Kd.C_alloc ?_ _) | (with_reducible refine Kd.C_drewN ?_ _) | (with_reducible refine Kd.C_drew ?_))); (case side4 => exact (Kd.V_reads' HO_360001.out).2.1); rintro e w82 ⟨v369, rfl, ho0, hb⟩; refine ⟨_, rfl, ?_⟩; replace HO_16 := gA (Kd.N_elder' (gN HO_16) (Kd.R_base ho0) hb); replace HO_360000 := gA (Kd.V_elder' (gV HO_360000) (Kd.R_base ho0) hb); replace HO_360001 := gA (Kd.V_elder' (gV HO_360001) (Kd.R_base ho0) hb); replace HO_361000 := gA (Kd.V_elder' (gV HO_361000) (Kd.R_base ho0) hb); replace HO_361001 := gA (Kd.V_elder' (gV HO_361001) (Kd.R_base ho0) hb); have HO370 := gA (Kd.R_lower (Kd.R_newM (M := fun k_ => (w.heap.size ≤ k_)) ho0 (below_size (gB HB)) (fun k_ h_ => h_)) (below_size (gB HB))); replace BK359 := gA (blk_below (gK BK359) hb); replace BK360 := gA (blk_below (gK BK360) hb); replace BK361 := gA (blk_below (gK BK361) hb); replace HB := gA (below_step (gB HB) hb); (try clear hb); (try clear ho0); obtain ⟨Ao83, co83, eo83⟩ := Kd.R_slice HO370.out; subst eo83) | ((with_reducible refine gate_callee (f := 39) rfl ?_); refine goesL_ (some 40) rfl rfl Try.func39 (by kernel_rfl) rfl #[.slice Ao83 t368.length co83] rfl (by (try simp only [List.map_toArray, List.map_cons, List.map_nil]); first | done | rfl | (simp only [List.length_drop, List.length_take]; rfl)) ?_; (with_reducible refine (arr_Size.calls k1 _ _ t368 t372 t373 _ ?side1 ?side2 A36.out).mono ?_); (case side1 => repeat (first | exact (Kd.R_reads' HO370.out).2.2 | (with_reducible refine Kd.C_alloc ?_ _) | (with_reducible refine Kd.C_drewN ?_ _) | (with_reducible refine Kd.C_drew ?_))); (case side2 => exact (Kd.R_reads' HO370.out).2.1); rintro e w' ⟨rfl, ⟨nd, rfl⟩⟩; refine ⟨_, rfl, ?_⟩; (try (rw [drewN_self w82]; generalize hq_ : World.drewN w82 _ = w82; have n0_ : Aside0 (Kd.R (Kd.int .i64) 3 w82 w.heap.size (fun k_ => (w.heap.size ≤ k_)) (.slice Ao83 t368.length co83) t368) := ⟨by rw [← hq_]; exact (Kd.R_mono HO370.out (fun _ hk => hk.1))⟩; have n1_ : Aside0 (Kd.N k25 25 w82 w.heap.size (fun k_ => ((P0_0_ k_ ∨ P0_1_ k_ ∨ P1_0_ k_ ∨ P1_1_ k_) ∨ w.heap.size ≤ k_) ∧ some k_ ≠ (.slice Ao83 t368.length co83 : Value).ownBlock ∧ k_ ≠ gb359 ∧ k_ ≠ gb360 ∧ k_ ≠ gb361) (.slice Ao13 y362.length co13) y362) := ⟨by rw [← hq_]; exact (Kd.N_mono HO_16.out (fun _ hk => ⟨hk.1.1, ⟨hk.2, ⟨hk.1.2.1, ⟨hk.1.2.2.1, hk.1.2.2.2⟩⟩⟩⟩))⟩; have n2_ : Aside0 (Kd.V (Kd.int .i64) 3 w82 w.heap.size (fun k_ => ((P0_0_ k_ ∨ P0_1_ k_ ∨ P1_0_ k_ ∨ P1_1_ k_) ∨ w.heap.size ≤ k_) ∧ some k_ ≠ (.slice Ao83 t368.length co83 : Value).ownBlock ∧ some k_ ≠ (.slice Ao13 y362.length co13 : Value).ownBlock ∧ k_ ≠ gb359 ∧ k_ ≠ gb360 ∧ k_ ≠ gb361) (.slice A0_0 l0_0.length c0_0) l0_0) := ⟨by rw [← hq_]; exact (Kd.V_mono HO_360000.out (fun _ hk => ⟨hk.1.1, ⟨hk.2, ⟨hk.1.2.1, ⟨hk.1.2.2.1, ⟨hk.1.2.2.2.1, hk.1.2.2.2.2⟩⟩⟩⟩⟩))⟩; have n3_ : Aside0 (Kd.V k39 39 w82 w.heap.size (fun k_ => ((P0_0_ k_ ∨ P0_1_ k_ ∨ P1_0_ k_ ∨ P1_1_ k_) ∨ w.heap.size ≤ k_) ∧ some k_ ≠ (.slice Ao83 t368.length co83 : Value).ownBlock ∧ some k_ ≠ (.slice Ao13 y362.length co13 : Value).ownBlock ∧ k_ ≠ gb359 ∧ k_ ≠ gb360 ∧ k_ ≠ gb361) (.slice A0_1 l0_1.length c0_1) l0_1) := ⟨by rw [← hq_]; exact (Kd.V_mono HO_360001.out (fun _ hk => ⟨hk.1.1, ⟨hk.2, ⟨hk.1.2.1, ⟨hk.1.2.2.1, ⟨hk.1.2.2.2.1, hk.1.2.2.2.2⟩⟩⟩⟩⟩))⟩; have n4_ : Aside0 (Kd.V (Kd.int .i64) 3 w82 w.heap.size (fun k_ => ((P0_0_ k_ ∨ P0_1_ k_ ∨ P1_0_ k_ ∨ P1_1_ k_) ∨ w.heap.size ≤ k_) ∧ some k_ ≠ (.slice Ao83 t368.length co83 : Value).ownBlock ∧ some k_ ≠ (.slice Ao13 y362.length co13 : Value).ownBlock ∧ k_ ≠ gb359 ∧ k_ ≠ gb360 ∧ k_ ≠ gb361) (.slice A1_0 l1_0.length c1_0) l1_0) := ⟨by rw [← hq_]; exact (Kd.V_mono HO_361000.out (fun _ hk => ⟨hk.1.1, ⟨hk.2, ⟨hk.1.2.1, ⟨hk.1.2.2.1, ⟨hk.1.2.2.2.1, hk.1.2.2.2.2⟩⟩⟩⟩⟩))⟩; have n5_ : Aside0 (Kd.V k39 39 w82 w.heap.size (fun k_ => ((P0_0_ k_ ∨ P0_1_ k_ ∨ P1_0_ k_ ∨ P1_1_ k_) ∨ w.heap.size ≤ k_) ∧ some k_ ≠ (.slice Ao83 t368.length co83 : Value).ownBlock ∧ some k_ ≠ (.slice Ao13 y362.length co13 : Value).ownBlock ∧ k_ ≠ gb359 ∧ k_ ≠ gb360 ∧ k_ ≠ gb361) (.slice A1_1 l1_1.length c1_1) l1_1) := ⟨by rw [← hq_]; exact (Kd.V_mono HO_361001.out (fun _ hk => ⟨hk.1.1, ⟨hk.2, ⟨hk.1.2.1, ⟨hk.1.2.2.1, ⟨hk.1.2.2.2.1, hk.1.2.2.2.2⟩⟩⟩⟩⟩))⟩; have n6_ : Aside0 (w82.heap[gb359]? = some (.cells #[.slice A0_0 l0_0.length c0_0, .slice A0_1 l0_1.length c0_1] 25 (0, 0))) := ⟨by rw [← hq_]; exact (gK BK359)⟩; have n7_ : Aside0 (w82.heap[gb360]? = some (.cells #[.slice A1_0 l1_0.length c1_0, .slice A1_1 l1_1.length c1_1] 25 (0, 0))) := ⟨by rw [← hq_]; exact (gK BK360)⟩; have n8_ : Aside0 (w82.heap[gb361]? = some (.cells #[.slice none 0 0, .slice none 0 0] 25 (0, 0))) := ⟨by rw [← hq_]; exact (gK BK361)⟩; have n9_ : Aside0 (Below w.heap.size w w82) := ⟨by rw [← hq_]; exact (gB HB)⟩; clear HO370 HO_16 HO_360000 HO_360001 HO_361000 HO_361001 BK359 BK360 BK361 HB hq_; have HO370 := n0_; have HO_16 := n1_; have HO_360000 := n2_; have HO_360001 := n3_; have HO_361000 := n4_; have HO_361001 := n5_; have BK359 := n6_; have BK360 := n7_; have BK361 := n8_; have HB := n9_; clear n0_ n1_ n2_ n3_ n4_ n5_ n6_ n7_ n8_ n9_)); have hnb84 := NB361_360.out; have hnc84 := NB360_361.out; obtain ⟨hcz85_0, hcz85_1, hfz85_0, hfz85_1⟩ := gz2 BK361))
      refine bodyPost_ret (results_ct rfl _ _ gb361 25 #[.slice none 0 0, .slice none 0 0] (0, 0) _ rfl (by refine blk_put (cs := #[.slice none 0 0, .slice none 0 0]) ?_ 1 _ rfl; refine blk_put (cs := #[.slice none 0 0, .slice none 0 0]) ?_ 0 _ rfl; exact gK BK361) Try.underlying25 rfl (by kernel_rfl)) rfl ?_
      exact ⟨_, _, rfl, by first | exact Kd.R_nil _ _ _ _ _ | exact Kd.N_nil _ _ _ _ _ | exact Kd.V_nil _ _ _ _ _ | exact Kd.Q_nil _ _ _ _ _ | exact Kd.S_nil _ _ _ _ _, by first | exact Kd.R_nil _ _ _ _ _ | exact Kd.N_nil _ _ _ _ _ | exact Kd.V_nil _ _ _ _ _ | exact Kd.Q_nil _ _ _ _ _ | exact Kd.S_nil _ _ _ _ _, by repeat first | exact gB HB | refine below_set ?_ GE359.out | refine below_set ?_ GE360.out | refine below_set ?_ GE361.out⟩
    ·rw [if_neg c35] at H
     have c35b0 : (t371 == 0) = false := beq_eq_false_iff_ne.mpr c35
     have c35b1 : (t371 != 0) = true := bne_iff_ne.mpr c35
     simp only [Option.some.injEq, Prod.mk.injEq] at H
     obtain ⟨rfl, rfl, rfl⟩ := H
     have hnb86 := NB359_360.out
     have hnc86 := NB360_359.out
     have hnb87 := NB359_361.out
     have hnc87 := NB361_359.out
     obtain ⟨hcz88_0, hcz88_1, hfz88_0, hfz88_1⟩ := gz2 BK359
     go_wp2_with (first | ((with_reducible refine gate_callee (f := 38) rfl ?_); refine goesL_ (some 31) rfl rfl Try.func38 (by kernel_rfl) rfl #[.agg #[.slice A0_0 l0_0.length c0_0, .slice A0_1 l0_1.length c0_1]] rfl (by (try simp only [List.map_toArray, List.map_cons, List.map_nil]); first | done | rfl | (simp only [List.length_drop, List.length_take]; rfl)) ?_; (with_reducible refine (layout_wanted.calls k1 _ _ l0_0 _ _ l0_1 t368 t371 _ ?side1 ?side2 ?side3 ?side4 A34.out).mono ?_); (case side1 => repeat (first | exact (Kd.V_reads' HO_360000.out).2.2 | (with_reducible refine Kd.C_alloc ?_ _) | (with_reducible refine Kd.C_drewN ?_ _) | (with_reducible refine Kd.C_drew ?_))); (case side2 => exact (Kd.V_reads' HO_360000.out).2.1); (case side3 => repeat (first | exact (Kd.V_reads' HO_360001.out).2.2 | (with_reducible refine Kd.C_alloc ?_ _) | (with_reducible refine Kd.C_drewN ?_ _) | (with_reducible refine Kd.C_drew ?_))); (case side4 => exact (Kd.V_reads' HO_360001.out).2.1); rintro e w89 ⟨v369, rfl, ho0, hb⟩; refine ⟨_, rfl, ?_⟩; replace HO_16 := gA (Kd.N_elder' (gN HO_16) (Kd.R_base ho0) hb); replace HO_360000 := gA (Kd.V_elder' (gV HO_360000) (Kd.R_base ho0) hb); replace HO_360001 := gA (Kd.V_elder' (gV HO_360001) (Kd.R_base ho0) hb); replace HO_361000 := gA (Kd.V_elder' (gV HO_361000) (Kd.R_base ho0) hb); replace HO_361001 := gA (Kd.V_elder' (gV HO_361001) (Kd.R_base ho0) hb); have HO370 := gA (Kd.R_lower (Kd.R_newM (M := fun k_ => (w.heap.size ≤ k_)) ho0 (below_size (gB HB)) (fun k_ h_ => h_)) (below_size (gB HB))); replace BK359 := gA (blk_below (gK BK359) hb); replace BK360 := gA (blk_below (gK BK360) hb); replace BK361 := gA (blk_below (gK BK361) hb); replace HB := gA (below_step (gB HB) hb); (try clear hb); (try clear ho0); have hnb90 := NB361_360.out; have hnc90 := NB360_361.out; obtain ⟨hcz91_0, hcz91_1, hfz91_0, hfz91_1⟩ := gz2 BK361))
     refine bodyPost_ret (results_ct rfl _ _ gb361 25 #[.slice none 0 0, .slice none 0 0] (0, 0) _ rfl (by refine blk_put (cs := #[.slice none 0 0, .slice none 0 0]) ?_ 1 _ rfl; refine blk_put (cs := #[.slice none 0 0, .slice none 0 0]) ?_ 0 _ rfl; exact gK BK361) Try.underlying25 rfl (by kernel_rfl)) rfl ?_
     exact ⟨_, _, rfl, by first | exact Kd.R_nil _ _ _ _ _ | exact Kd.N_nil _ _ _ _ _ | exact Kd.V_nil _ _ _ _ _ | exact Kd.Q_nil _ _ _ _ _ | exact Kd.S_nil _ _ _ _ _, by first | exact Kd.R_nil _ _ _ _ _ | exact Kd.N_nil _ _ _ _ _ | exact Kd.V_nil _ _ _ _ _ | exact Kd.Q_nil _ _ _ _ _ | exact Kd.S_nil _ _ _ _ _, by repeat first | exact gB HB | refine below_set ?_ GE359.out | refine below_set ?_ GE360.out | refine below_set ?_ GE361.out⟩
def triglyphref03_Atom.f (a0 : Int) : Option (List Int × (List (S39))) := some (([] : List Int), (([(⟨0, a0, ([] : List (S25))⟩ : S39)] : List (S39))))
set_option maxHeartbeats 8000000 in
set_option maxRecDepth 100000 in
theorem triglyphref03_Atom.calls (a0 : Int) (r1 : List Int) (r2 : List (S39)) (w : World) (h : triglyphref03_Atom.f a0 = some (r1, r2)) :
  Calls Try.prog 19 #[.int .i64 a0] w fun e w' => ∃ v0_ v1_ : Value, e = .returned (.agg #[v0_, v1_]) ∧ Kd.R (Kd.int .i64) 3 w' w.heap.size (fun _ => True) v0_ r1 ∧ Kd.R k39 39 w' w.heap.size (fun k_ => some k_ ≠ (v0_ : Value).ownBlock) v1_ r2 ∧ Below w.heap.size w w' := by
 have hu25 := Try.underlying25
 have hu39 := Try.underlying39
 have HB := gA (Below.refl w.heap.size w)
 have H : (some (([] : List Int), (([(⟨0, a0, ([] : List (S25))⟩ : S39)] : List (S39))))) = some (r1, r2) := h
 clear h
 obtain ⟨y386, hy386⟩ : ∃ y_ : List (S39), y_ = (([(⟨0, a0, ([] : List (S25))⟩ : S39)] : List (S39))) := ⟨_, rfl⟩
 replace H : (some (([] : List Int), y386)) = some (r1, r2) := by first | (rw [hy386]; with_reducible exact H) | (have H2_ := (Option.bind_some _ _).symm.trans H; rw [hy386]; with_reducible exact H2_) | (have H2_ := (Option.bind_some _ _).symm.trans H; with_reducible exact H2_) | with_reducible exact H | (rw [hy386]; exact H) | exact H
 have Ny386 := gA hy386
 clear hy386
 simp only [Option.some.injEq, Prod.mk.injEq] at H
 obtain ⟨rfl, rfl⟩ := H
 go_enter Try.func19, Try.ntmps19
 go_wp2_with (first | ((with_reducible refine gate_dst (N := 2) rfl ?_); refine box_event ?hg (N := 2) ?hd (cs := #[.slice none 0 0, .slice none 0 0]) (t := 25) ?hr ?_; (case hd => rfl); (case hg => rfl); (case hr => first | (go_simp; done) | (go_simp; rfl)); intro gb385 hg w2 hbox hb; have BK385 := gA (hbox); have GW385 := gA ((by rw [hg]; exact (below_size (gB HB)) : w.heap.size ≤ gb385)); have GE385 := gA ((by rw [hg]; exact (below_size (gB HB)) : w.heap.size ≤ gb385)); replace HB := gA (below_step (gB HB) hb); clear hb hbox hg) | ((with_reducible refine gate_dst (N := 5) rfl ?_); refine Kd.R_lit k39 _ 39 ?hg (N := 5) ?hd (xs := ([(⟨0, a0, ([] : List (S25))⟩ : S39)] : List (S39))) (inner := [.int .i64 0, .int .i64 a0, .slice none 0 0]) (ok := fun _ => True) (okp := fun _ => True) ?hr ?hp (fun _ hk => hk) trivial (Below.refl _ _) (Nat.le_refl _) (by simp) ?_; (case hd => rfl); (case hg => rfl); (case hr => first | (go_simp; done) | (go_simp; rfl)); (case hp => exact (Reps.c3 (show Kd.M k39 _ _ _ (⟨0, a0, ([] : List (S25))⟩ : S39) [.int .i64 0, .int .i64 a0, .slice none 0 0] from (k39_mkM _ _ _ (⟨0, a0, ([] : List (S25))⟩ : S39) (Kd.R_nil _ _ _ _ _))) (Reps.none _ _))); intro v387 w3 ho4 hb hg_ hnew_; clear hg_ hnew_; (first | rw [← Ny386.out] at ho4 | (simp only [Int.reduceToNat] at ho4; rw [← Ny386.out] at ho4)); have HO388 := gA (Kd.R_lower (Kd.R_newB ho4 (gK BK385)) (below_size (gB HB))); replace BK385 := gA (blk_below (gK BK385) hb); replace HB := gA (below_step (gB HB) hb); clear hb ho4; obtain ⟨Ao5, co5, eo5⟩ := Kd.R_slice HO388.out; subst eo5; obtain ⟨hcz6_0, hcz6_1, hfz6_0, hfz6_1⟩ := gz2 BK385))
 refine bodyPost_ret (results_cell_row rfl _ _ gb385 25 #[.slice none 0 0, .slice Ao5 y386.length co5] (0, 0) _ rfl (by refine blk_put (cs := #[.slice none 0 0, .slice none 0 0]) ?_ 1 _ rfl; refine blk_put (cs := #[.slice none 0 0, .slice none 0 0]) ?_ 0 _ rfl; exact gK BK385) Try.underlying25 rfl (by kernel_rfl)) rfl ?_
 exact ⟨_, _, rfl, by first | exact Kd.R_nil _ _ _ _ _ | exact Kd.N_nil _ _ _ _ _ | exact Kd.V_nil _ _ _ _ _ | exact Kd.Q_nil _ _ _ _ _ | exact Kd.S_nil _ _ _ _ _, Kd.R_mono (Kd.R_far (p := ⟨gb385, 1, none⟩) (Kd.R_far (p := ⟨gb385, 0, none⟩) (Kd.R_mono HO388.out (fun k_ hk => (⟨hk, hk.2⟩ : _ ∧ k_ ≠ gb385))) (fun _ hk => hk.2) (.slice none 0 0)) (fun _ hk => hk.2) (.slice Ao5 y386.length co5)) (fun _ hk => (by simp [Value.ownBlock])), by repeat first | exact gB HB | refine below_set ?_ GE385.out⟩
end Go.Proofs.Ytiegcghapchimaa.P
