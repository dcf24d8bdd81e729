/- Written by a program of this session: the functions that the laws reach, what each comes to, and each law as it is stated, for every input. No condition. -/
import Derived.Test.YtdihmempaonfjaaPx0
import Derived.Test.YtdihmempaonfjaaPx2
import Derived.Test.YtdihmempaonfjaaPx3
import Derived.Test.YtdihmempaonfjaaPx4
import Derived.Test.YtdihmempaonfjaaPx5
import Derived.Test.YtdihmempaonfjaaPx6
namespace Go.Proofs.Ytdihmempaonfjaa.P
open Go.RowKit Go.Proofs.YtdihmempaonfjaaW.PrintWords Go.Proofs.YtdihmempaonfjaaW.PrintLast Go.Proofs.YtdihmempaonfjaaW.PrintMore
attribute [local go_sem] max2_int min2_int max_two min_two max_three min_three max_four min_four   -- for this text's walks alone
set_option linter.unusedVariables false
set_option linter.unusedSimpArgs false
mutual
def pick_Dy.l0 : Nat → Int → List (S25) → Int → Int → List Int → List (S45) → List Int → List (S45) → Option (List Int × (List (S45)) × Int)
 | 0, _, _, _, _, _, _, _, _ => none
 | k + 1, x0, x15, x16, x17, x290000, x290001, x291000, x291001 => if x17 < x16 then (if 0 ≤ x17 then (if x17 < (x15.length : Int) then ((arr_Check.f k ((rd_T25 x15 x17).f0) ((rd_T25 x15 x17).f1)).bind fun t297 => (if t297 = 0 then (pick_Dy.l0 k x0 x15 x16 (wrap64 (x17 + 1)) x290000 x290001 x291000 x291001) else (none))) else (none)) else (none)) else ((arr_Copy.f k x290000 x290001).bind fun bt298 => ((arr_Copy.f k x291000 x291001).bind fun bt304 => (if x0 = 46 then (pick_Dy.j1 k x0 x0 (x0 == 46) bt298.1 bt298.2 bt304.1 bt304.2) else (pick_Dy.j1 k x0 x0 (x0 == 47) bt298.1 bt298.2 bt304.1 bt304.2))))
def pick_Dy.j3 : Nat → Int → List Int → List (S45) → List Int → List (S45) → Option (List Int × (List (S45)) × Int)
 | 0, _, _, _, _, _ => none
 | k + 1, x0, x290000, x290001, x291000, x291001 => (pick_number.f x290000 x290001).bind fun bt324 => (if bt324.2 = 0 then (if x0 = 42 then ((pick_take.f k bt324.1 x291000 x291001).bind fun bt326 => (some (bt326.1, bt326.2.1, bt326.2.2))) else (if x0 = 43 then (none) else (if x0 = 44 then ((pick_rotated.f k bt324.1 x291000 x291001 0).bind fun bt333 => (some (bt333.1, bt333.2, 0))) else ((pick_rotated.f k bt324.1 x291000 x291001 (wrap64 ((x291000.length : Int) - 1))).bind fun bt339 => (some (bt339.1, bt339.2, 0)))))) else (none))
def pick_Dy.j1 : Nat → Int → Int → Bool → List Int → List (S45) → List Int → List (S45) → Option (List Int × (List (S45)) × Int)
 | 0, _, _, _, _, _, _, _ => none
 | k + 1, x0, x32, x34, x290000, x290001, x291000, x291001 => if x34 = true then (none) else (if x32 = 52 then ((pick_from.f k x290000 x290001 x291000 x291001).bind fun bt310 => (some (bt310.1, bt310.2.1, bt310.2.2))) else (if x32 = 53 then ((pick_from.f k x291000 x291001 x290000 x290001).bind fun bt317 => (some (bt317.1, bt317.2.1, bt317.2.2))) else (if x32 = 50 then (pick_Dy.j2 k x0 x32 (x32 == 50) x290000 x290001 x291000 x291001) else (pick_Dy.j2 k x0 x32 (x32 == 51) x290000 x290001 x291000 x291001))))
def pick_Dy.j2 : Nat → Int → Int → Bool → List Int → List (S45) → List Int → List (S45) → Option (List Int × (List (S45)) × Int)
 | 0, _, _, _, _, _, _, _ => none
 | k + 1, x0, x32, x58, x290000, x290001, x291000, x291001 => if x58 = true then (none) else (if x32 = 42 then (pick_Dy.j3 k x0 x290000 x290001 x291000 x291001) else (if x32 = 43 then (none) else (if x32 = 44 then (pick_Dy.j3 k x0 x290000 x290001 x291000 x291001) else (if x32 = 45 then (pick_Dy.j3 k x0 x290000 x290001 x291000 x291001) else (some (([] : List Int), ([] : List (S45)), 1))))))
end
def pick_Dy.f (k : Nat) (a0 : Int) (l1_0 : List Int) (l1_1 : List (S45)) (l2_0 : List Int) (l2_1 : List (S45)) : Option (List Int × (List (S45)) × Int) := (some (([(⟨l1_0, l1_1⟩ : S25), (⟨l2_0, l2_1⟩ : S25)] : List (S25)) : List (S25))).bind fun y292 => (pick_Dy.l0 k a0 y292 (y292.length : Int) 0 l1_0 l1_1 l2_0 l2_1)
theorem pick_Dy.mono_l : ∀ k, (∀ y0 y1 y2 y3 y4 y5 y6 y7, LeO (pick_Dy.l0 k y0 y1 y2 y3 y4 y5 y6 y7) (pick_Dy.l0 (k + 1) y0 y1 y2 y3 y4 y5 y6 y7)) ∧ (∀ y0 y1 y2 y3 y4, LeO (pick_Dy.j3 k y0 y1 y2 y3 y4) (pick_Dy.j3 (k + 1) y0 y1 y2 y3 y4)) ∧ (∀ y0 y1 y2 y3 y4 y5 y6, LeO (pick_Dy.j1 k y0 y1 y2 y3 y4 y5 y6) (pick_Dy.j1 (k + 1) y0 y1 y2 y3 y4 y5 y6)) ∧ (∀ y0 y1 y2 y3 y4 y5 y6, LeO (pick_Dy.j2 k y0 y1 y2 y3 y4 y5 y6) (pick_Dy.j2 (k + 1) y0 y1 y2 y3 y4 y5 y6))
 | 0 => ⟨fun _ _ _ _ _ _ _ _ r h => by simp [pick_Dy.l0] at h, fun _ _ _ _ _ r h => by simp [pick_Dy.j3] at h, fun _ _ _ _ _ _ _ r h => by simp [pick_Dy.j1] at h, fun _ _ _ _ _ _ _ r h => by simp [pick_Dy.j2] at h⟩
 | k + 1 => by
  obtain ⟨ih0, ih1, ih2, ih3⟩ := pick_Dy.mono_l k
  refine ⟨?_, ?_, ?_, ?_⟩
  ·intro y0 y1 y2 y3 y4 y5 y6 y7
   unfold pick_Dy.l0
   repeat' first
   | (with_reducible exact ih0 _ _ _ _ _ _ _ _)
   | (with_reducible exact ih1 _ _ _ _ _)
   | (with_reducible exact ih2 _ _ _ _ _ _ _)
   | (with_reducible exact ih3 _ _ _ _ _ _ _)
   | (with_reducible exact arr_Check.mono _ _ _)
   | (with_reducible exact arr_Copy.mono _ _ _)
   | (with_reducible exact pick_from.mono _ _ _ _ _)
   | (with_reducible exact pick_rotated.mono _ _ _ _ _)
   | (with_reducible exact pick_take.mono _ _ _ _)
   | (with_reducible exact LeO.refl _)
   | (with_reducible exact LeO.none _)
   | (with_reducible refine LeO.ite ?_ ?_)
   | (with_reducible refine LeO.bind ?_ (fun _ => ?_))




   | exact arr_Check.mono _ _ _
   | exact arr_Copy.mono _ _ _
   | exact pick_from.mono _ _ _ _ _
   | exact pick_rotated.mono _ _ _ _ _
   | exact pick_take.mono _ _ _ _



  ·intro y0 y1 y2 y3 y4
   unfold pick_Dy.j3
   repeat' first
   | (with_reducible exact ih0 _ _ _ _ _ _ _ _)
   | (with_reducible exact ih1 _ _ _ _ _)
   | (with_reducible exact ih2 _ _ _ _ _ _ _)
   | (with_reducible exact ih3 _ _ _ _ _ _ _)
   | (with_reducible exact arr_Check.mono _ _ _)
   | (with_reducible exact arr_Copy.mono _ _ _)
   | (with_reducible exact pick_from.mono _ _ _ _ _)
   | (with_reducible exact pick_rotated.mono _ _ _ _ _)
   | (with_reducible exact pick_take.mono _ _ _ _)
   | (with_reducible exact LeO.refl _)
   | (with_reducible exact LeO.none _)
   | (with_reducible refine LeO.ite ?_ ?_)
   | (with_reducible refine LeO.bind ?_ (fun _ => ?_))




   | exact arr_Check.mono _ _ _
   | exact arr_Copy.mono _ _ _
   | exact pick_from.mono _ _ _ _ _
   | exact pick_rotated.mono _ _ _ _ _
   | exact pick_take.mono _ _ _ _



  ·intro y0 y1 y2 y3 y4 y5 y6
   unfold pick_Dy.j1
   repeat' first
   | (with_reducible exact ih0 _ _ _ _ _ _ _ _)
   | (with_reducible exact ih1 _ _ _ _ _)
   | (with_reducible exact ih2 _ _ _ _ _ _ _)
   | (with_reducible exact ih3 _ _ _ _ _ _ _)
   | (with_reducible exact arr_Check.mono _ _ _)
   | (with_reducible exact arr_Copy.mono _ _ _)
   | (with_reducible exact pick_from.mono _ _ _ _ _)
   | (with_reducible exact pick_rotated.mono _ _ _ _ _)
   | (with_reducible exact pick_take.mono _ _ _ _)
   | (with_reducible exact LeO.refl _)
   | (with_reducible exact LeO.none _)
   | (with_reducible refine LeO.ite ?_ ?_)
   | (with_reducible refine LeO.bind ?_ (fun _ => ?_))




   | exact arr_Check.mono _ _ _
   | exact arr_Copy.mono _ _ _
   | exact pick_from.mono _ _ _ _ _
   | exact pick_rotated.mono _ _ _ _ _
   | exact pick_take.mono _ _ _ _



  ·intro y0 y1 y2 y3 y4 y5 y6
   unfold pick_Dy.j2
   repeat' first
   | (with_reducible exact ih0 _ _ _ _ _ _ _ _)
   | (with_reducible exact ih1 _ _ _ _ _)
   | (with_reducible exact ih2 _ _ _ _ _ _ _)
   | (with_reducible exact ih3 _ _ _ _ _ _ _)
   | (with_reducible exact arr_Check.mono _ _ _)
   | (with_reducible exact arr_Copy.mono _ _ _)
   | (with_reducible exact pick_from.mono _ _ _ _ _)
   | (with_reducible exact pick_rotated.mono _ _ _ _ _)
   | (with_reducible exact pick_take.mono _ _ _ _)
   | (with_reducible exact LeO.refl _)
   | (with_reducible exact LeO.none _)
   | (with_reducible refine LeO.ite ?_ ?_)
   | (with_reducible refine LeO.bind ?_ (fun _ => ?_))




   | exact arr_Check.mono _ _ _
   | exact arr_Copy.mono _ _ _
   | exact pick_from.mono _ _ _ _ _
   | exact pick_rotated.mono _ _ _ _ _
   | exact pick_take.mono _ _ _ _
theorem pick_Dy.mono : ∀ a0 a1 a2 a3 a4 k, LeO (pick_Dy.f k a0 a1 a2 a3 a4) (pick_Dy.f (k + 1) a0 a1 a2 a3 a4) := by
 intro a0 a1 a2 a3 a4 k
 obtain ⟨ih0, ih1, ih2, ih3⟩ := pick_Dy.mono_l k
 unfold pick_Dy.f
 repeat' first
   | (with_reducible exact ih0 _ _ _ _ _ _ _ _)
   | (with_reducible exact ih1 _ _ _ _ _)
   | (with_reducible exact ih2 _ _ _ _ _ _ _)
   | (with_reducible exact ih3 _ _ _ _ _ _ _)
   | (with_reducible exact arr_Check.mono _ _ _)
   | (with_reducible exact arr_Copy.mono _ _ _)
   | (with_reducible exact pick_from.mono _ _ _ _ _)
   | (with_reducible exact pick_rotated.mono _ _ _ _ _)
   | (with_reducible exact pick_take.mono _ _ _ _)
   | (with_reducible exact LeO.refl _)
   | (with_reducible exact LeO.none _)
   | (with_reducible refine LeO.ite ?_ ?_)
   | (with_reducible refine LeO.bind ?_ (fun _ => ?_))




   | exact arr_Check.mono _ _ _
   | exact arr_Copy.mono _ _ _
   | exact pick_from.mono _ _ _ _ _
   | exact pick_rotated.mono _ _ _ _ _
   | exact pick_take.mono _ _ _ _
set_option maxHeartbeats 8000000 in
set_option maxRecDepth 100000 in
theorem pick_Dy.calls (k : Nat) (a0 : Int) (P1_0_ : Nat → Prop) (A1_0 : Option Addr) (c1_0 : Nat) (l1_0 : List Int) (P1_1_ : Nat → Prop) (A1_1 : Option Addr) (c1_1 : Nat) (l1_1 : List (S45)) (P2_0_ : Nat → Prop) (A2_0 : Option Addr) (c2_0 : Nat) (l2_0 : List Int) (P2_1_ : Nat → Prop) (A2_1 : Option Addr) (c2_1 : Nat) (l2_1 : List (S45)) (r1 : List Int) (r2 : List (S45)) (r3 : Int) (w : World) (hs1_0 : Kd.V (Kd.int .i64) 3 w w.heap.size (fun k_ => P1_0_ k_) (.slice A1_0 l1_0.length c1_0) l1_0) (hs1_1 : Kd.V k45 45 w w.heap.size (fun k_ => P1_1_ k_) (.slice A1_1 l1_1.length c1_1) l1_1) (hs2_0 : Kd.V (Kd.int .i64) 3 w w.heap.size (fun k_ => P2_0_ k_) (.slice A2_0 l2_0.length c2_0) l2_0) (hs2_1 : Kd.V k45 45 w w.heap.size (fun k_ => P2_1_ k_) (.slice A2_1 l2_1.length c2_1) l2_1) (h : pick_Dy.f k a0 l1_0 l1_1 l2_0 l2_1 = some (r1, r2, r3)) :
  Calls Try.prog 11 #[.int .i64 a0, .agg #[.slice A1_0 l1_0.length c1_0, .slice A1_1 l1_1.length c1_1], .agg #[.slice A2_0 l2_0.length c2_0, .slice A2_1 l2_1.length c2_1]] w fun e w' => ∃ v0_ v1_ : Value, e = .returned (.tuple #[.agg #[v0_, v1_], .int .i64 r3]) ∧ Kd.V (Kd.int .i64) 3 w' w.heap.size (fun k_ => ((P1_0_ k_ ∨ P1_1_ k_ ∨ P2_0_ k_ ∨ P2_1_ k_) ∨ w.heap.size ≤ k_)) v0_ r1 ∧ Kd.V k45 45 w' w.heap.size (fun k_ => ((P1_0_ k_ ∨ P1_1_ k_ ∨ P2_0_ k_ ∨ P2_1_ k_) ∨ w.heap.size ≤ k_)) v1_ r2 ∧ Below w.heap.size w w' := by
 have hu25 := Try.underlying25
 have HO1_0 := gA (show Kd.V (Kd.int .i64) 3 w w.heap.size (fun k_ => ((P1_0_ k_ ∨ P1_1_ k_ ∨ P2_0_ k_ ∨ P2_1_ k_) ∨ w.heap.size ≤ k_)) (.slice A1_0 l1_0.length c1_0) l1_0 from Kd.V_mono hs1_0 (fun k_ hk => .inl (.inl hk)))
 have HO1_1 := gA (show Kd.V k45 45 w w.heap.size (fun k_ => ((P1_0_ k_ ∨ P1_1_ k_ ∨ P2_0_ k_ ∨ P2_1_ k_) ∨ w.heap.size ≤ k_)) (.slice A1_1 l1_1.length c1_1) l1_1 from Kd.V_mono hs1_1 (fun k_ hk => .inl (.inr (.inl hk))))
 have HO2_0 := gA (show Kd.V (Kd.int .i64) 3 w w.heap.size (fun k_ => ((P1_0_ k_ ∨ P1_1_ k_ ∨ P2_0_ k_ ∨ P2_1_ k_) ∨ w.heap.size ≤ k_)) (.slice A2_0 l2_0.length c2_0) l2_0 from Kd.V_mono hs2_0 (fun k_ hk => .inl (.inr (.inr (.inl hk)))))
 have HO2_1 := gA (show Kd.V k45 45 w w.heap.size (fun k_ => ((P1_0_ k_ ∨ P1_1_ k_ ∨ P2_0_ k_ ∨ P2_1_ k_) ∨ w.heap.size ≤ k_)) (.slice A2_1 l2_1.length c2_1) l2_1 from Kd.V_mono hs2_1 (fun k_ hk => .inl (.inr (.inr (.inr hk)))))
 have HB := gA (Below.refl w.heap.size w)
 have H : ((some (([(⟨l1_0, l1_1⟩ : S25), (⟨l2_0, l2_1⟩ : S25)] : List (S25)) : List (S25))).bind fun y292 => (pick_Dy.l0 k a0 y292 (y292.length : Int) 0 l1_0 l1_1 l2_0 l2_1)) = some (r1, r2, r3) := h
 clear h
 obtain ⟨y292, hy292⟩ : ∃ y_ : List (S25), y_ = (([(⟨l1_0, l1_1⟩ : S25), (⟨l2_0, l2_1⟩ : S25)] : List (S25))) := ⟨_, rfl⟩
 replace H : (pick_Dy.l0 k a0 y292 (y292.length : Int) 0 l1_0 l1_1 l2_0 l2_1) = some (r1, r2, r3) := by first | (rw [hy292]; with_reducible exact H) | (have H2_ := (Option.bind_some _ _).symm.trans H; rw [hy292]; with_reducible exact H2_) | (have H2_ := (Option.bind_some _ _).symm.trans H; with_reducible exact H2_) | with_reducible exact H | (rw [hy292]; exact H) | exact H
 have Ny292 := gA hy292
 clear hy292
 have H' := gA H
 clear H
 go_enter Try.func11, Try.ntmps11
 go_wp2_with (first | ((with_reducible refine gate_dst (N := 4) rfl ?_); refine box_event ?hg (N := 4) ?hd (cs := #[.slice A1_0 l1_0.length c1_0, .slice A1_1 l1_1.length c1_1]) (t := 25) ?hr ?_; (case hd => rfl); (case hg => rfl); (case hr => first | (go_simp; done) | (go_simp; rfl)); intro gb289 hg w4 hbox hb; replace HO1_0 := gA (Kd.V_below (Kd.V_elderB (gV HO1_0) gb289 (Nat.le_of_eq hg.symm)) hb); replace HO1_1 := gA (Kd.V_below (Kd.V_elderB (gV HO1_1) gb289 (Nat.le_of_eq hg.symm)) hb); replace HO2_0 := gA (Kd.V_below (Kd.V_elderB (gV HO2_0) gb289 (Nat.le_of_eq hg.symm)) hb); replace HO2_1 := gA (Kd.V_below (Kd.V_elderB (gV HO2_1) gb289 (Nat.le_of_eq hg.symm)) hb); have BK289 := gA (hbox); have GW289 := gA ((by rw [hg]; exact (below_size (gB HB)) : w.heap.size ≤ gb289)); have GE289 := gA ((by rw [hg]; exact (below_size (gB HB)) : w.heap.size ≤ gb289)); replace HB := gA (below_step (gB HB) hb); clear hb hbox hg) | ((with_reducible refine gate_dst (N := 5) rfl ?_); refine box_event ?hg (N := 5) ?hd (cs := #[.slice A2_0 l2_0.length c2_0, .slice A2_1 l2_1.length c2_1]) (t := 25) ?hr ?_; (case hd => rfl); (case hg => rfl); (case hr => first | (go_simp; done) | (go_simp; rfl)); intro gb290 hg w5 hbox hb; replace HO1_0 := gA (Kd.V_below (Kd.V_elderB (gV HO1_0) gb290 (Nat.le_of_eq hg.symm)) hb); replace HO1_1 := gA (Kd.V_below (Kd.V_elderB (gV HO1_1) gb290 (Nat.le_of_eq hg.symm)) hb); replace HO2_0 := gA (Kd.V_below (Kd.V_elderB (gV HO2_0) gb290 (Nat.le_of_eq hg.symm)) hb); replace HO2_1 := gA (Kd.V_below (Kd.V_elderB (gV HO2_1) gb290 (Nat.le_of_eq hg.symm)) hb); have BK290 := gA (hbox); have GW290 := gA ((by rw [hg]; exact (below_size (gB HB)) : w.heap.size ≤ gb290)); have GE290 := gA ((by rw [hg]; exact (below_size (gB HB)) : w.heap.size ≤ gb290)); replace HB := gA (below_step (gB HB) hb); have NB289_290 := gA ((by rw [hg]; exact Nat.ne_of_lt (blk_lt (gK BK289)) : gb289 ≠ gb290)); have NB290_289 := gA ((by rw [hg]; exact Nat.ne_of_gt (blk_lt (gK BK289)) : gb290 ≠ gb289)); replace BK289 := gA (blk_below (gK BK289) hb); clear hb hbox hg) | ((with_reducible refine gate_dst (N := 6) rfl ?_); refine box_event ?hg (N := 6) ?hd (cs := #[.slice none 0 0, .slice none 0 0]) (t := 25) ?hr ?_; (case hd => rfl); (case hg => rfl); (case hr => first | (go_simp; done) | (go_simp; rfl)); intro gb291 hg w6 hbox hb; replace HO1_0 := gA (Kd.V_below (Kd.V_elderB (gV HO1_0) gb291 (Nat.le_of_eq hg.symm)) hb); replace HO1_1 := gA (Kd.V_below (Kd.V_elderB (gV HO1_1) gb291 (Nat.le_of_eq hg.symm)) hb); replace HO2_0 := gA (Kd.V_below (Kd.V_elderB (gV HO2_0) gb291 (Nat.le_of_eq hg.symm)) hb); replace HO2_1 := gA (Kd.V_below (Kd.V_elderB (gV HO2_1) gb291 (Nat.le_of_eq hg.symm)) hb); have BK291 := gA (hbox); have GW291 := gA ((by rw [hg]; exact (below_size (gB HB)) : w.heap.size ≤ gb291)); have GE291 := gA ((by rw [hg]; exact (below_size (gB HB)) : w.heap.size ≤ gb291)); replace HB := gA (below_step (gB HB) hb); have NB289_291 := gA ((by rw [hg]; exact Nat.ne_of_lt (blk_lt (gK BK289)) : gb289 ≠ gb291)); have NB291_289 := gA ((by rw [hg]; exact Nat.ne_of_gt (blk_lt (gK BK289)) : gb291 ≠ gb289)); replace BK289 := gA (blk_below (gK BK289) hb); have NB290_291 := gA ((by rw [hg]; exact Nat.ne_of_lt (blk_lt (gK BK290)) : gb290 ≠ gb291)); have NB291_290 := gA ((by rw [hg]; exact Nat.ne_of_gt (blk_lt (gK BK290)) : gb291 ≠ gb290)); replace BK290 := gA (blk_below (gK BK290) hb); clear hb hbox hg; have hnb7 := NB289_290.out; have hnc7 := NB290_289.out; have hnb8 := NB289_291.out; have hnc8 := NB291_289.out; obtain ⟨hcz9_0, hcz9_1, hfz9_0, hfz9_1⟩ := gz2 BK289; have hnb10 := NB290_291.out; have hnc10 := NB291_290.out; obtain ⟨hcz11_0, hcz11_1, hfz11_0, hfz11_1⟩ := gz2 BK290) | ((with_reducible refine gate_dst (N := 15) rfl ?_); refine Kd.N_lit k25 _ 25 ?hg (N' := 15) ?hd (xs := ([(⟨l1_0, l1_1⟩ : S25), (⟨l2_0, l2_1⟩ : S25)] : List (S25))) (inner := [.slice A1_0 l1_0.length c1_0, .slice A1_1 l1_1.length c1_1, .slice A2_0 l2_0.length c2_0, .slice A2_1 l2_1.length c2_1]) (ok := (fun k_ => ((P1_0_ k_ ∨ P1_1_ k_ ∨ P2_0_ k_ ∨ P2_1_ k_) ∨ w.heap.size ≤ k_) ∧ k_ ≠ gb289 ∧ k_ ≠ gb290 ∧ k_ ≠ gb291)) (okp := (fun k_ => ((P1_0_ k_ ∨ P1_1_ k_ ∨ P2_0_ k_ ∨ P2_1_ k_) ∨ w.heap.size ≤ k_) ∧ k_ ≠ gb289 ∧ k_ ≠ gb290 ∧ k_ ≠ gb291)) ?hr ?hp (fun _ hk => hk) ((show ∀ k_, w6.heap.size ≤ k_ → (fun k_ => ((P1_0_ k_ ∨ P1_1_ k_ ∨ P2_0_ k_ ∨ P2_1_ k_) ∨ w.heap.size ≤ k_) ∧ k_ ≠ gb289 ∧ k_ ≠ gb290 ∧ k_ ≠ gb291) k_ from fun k_ hk => ⟨(.inr (Nat.le_trans (below_size (gB HB)) hk)), Kd.freshB (gK BK289) k_ hk, Kd.freshB (gK BK290) k_ hk, Kd.freshB (gK BK291) k_ hk⟩) _ (Nat.le_refl _)) (Below.refl _ _) (Nat.le_refl _) (by simp) ?_; (case hd => rfl); (case hg => rfl); (case hr => first | (go_simp; done) | (go_simp; rfl)); (case hp => exact (Reps.c2 (show Kd.FK k25 _ _ (⟨l1_0, l1_1⟩ : S25) [.slice A1_0 l1_0.length c1_0, .slice A1_1 l1_1.length c1_1] from (k25_mkF _ _ (⟨l1_0, l1_1⟩ : S25) (Kd.V_reads' (Kd.V_mono (ok' := (fun k_ => ((P1_0_ k_ ∨ P1_1_ k_ ∨ P2_0_ k_ ∨ P2_1_ k_) ∨ w.heap.size ≤ k_) ∧ k_ ≠ gb289 ∧ k_ ≠ gb290 ∧ k_ ≠ gb291)) (HO1_0.out) (fun k_ hk => ⟨hk.1.1.1, ⟨hk.1.1.2, ⟨hk.1.2, hk.2⟩⟩⟩))).2.1 (Kd.V_F (Kd.V_mono (ok' := (fun k_ => ((P1_0_ k_ ∨ P1_1_ k_ ∨ P2_0_ k_ ∨ P2_1_ k_) ∨ w.heap.size ≤ k_) ∧ k_ ≠ gb289 ∧ k_ ≠ gb290 ∧ k_ ≠ gb291)) (HO1_0.out) (fun k_ hk => ⟨hk.1.1.1, ⟨hk.1.1.2, ⟨hk.1.2, hk.2⟩⟩⟩))) (Kd.V_reads' (Kd.V_mono (ok' := (fun k_ => ((P1_0_ k_ ∨ P1_1_ k_ ∨ P2_0_ k_ ∨ P2_1_ k_) ∨ w.heap.size ≤ k_) ∧ k_ ≠ gb289 ∧ k_ ≠ gb290 ∧ k_ ≠ gb291)) (HO1_1.out) (fun k_ hk => ⟨hk.1.1.1, ⟨hk.1.1.2, ⟨hk.1.2, hk.2⟩⟩⟩))).2.1 (Kd.V_F (Kd.V_mono (ok' := (fun k_ => ((P1_0_ k_ ∨ P1_1_ k_ ∨ P2_0_ k_ ∨ P2_1_ k_) ∨ w.heap.size ≤ k_) ∧ k_ ≠ gb289 ∧ k_ ≠ gb290 ∧ k_ ≠ gb291)) (HO1_1.out) (fun k_ hk => ⟨hk.1.1.1, ⟨hk.1.1.2, ⟨hk.1.2, hk.2⟩⟩⟩))))) (Reps.c2 (show Kd.FK k25 _ _ (⟨l2_0, l2_1⟩ : S25) [.slice A2_0 l2_0.length c2_0, .slice A2_1 l2_1.length c2_1] from (k25_mkF _ _ (⟨l2_0, l2_1⟩ : S25) (Kd.V_reads' (Kd.V_mono (ok' := (fun k_ => ((P1_0_ k_ ∨ P1_1_ k_ ∨ P2_0_ k_ ∨ P2_1_ k_) ∨ w.heap.size ≤ k_) ∧ k_ ≠ gb289 ∧ k_ ≠ gb290 ∧ k_ ≠ gb291)) (HO2_0.out) (fun k_ hk => ⟨hk.1.1.1, ⟨hk.1.1.2, ⟨hk.1.2, hk.2⟩⟩⟩))).2.1 (Kd.V_F (Kd.V_mono (ok' := (fun k_ => ((P1_0_ k_ ∨ P1_1_ k_ ∨ P2_0_ k_ ∨ P2_1_ k_) ∨ w.heap.size ≤ k_) ∧ k_ ≠ gb289 ∧ k_ ≠ gb290 ∧ k_ ≠ gb291)) (HO2_0.out) (fun k_ hk => ⟨hk.1.1.1, ⟨hk.1.1.2, ⟨hk.1.2, hk.2⟩⟩⟩))) (Kd.V_reads' (Kd.V_mono (ok' := (fun k_ => ((P1_0_ k_ ∨ P1_1_ k_ ∨ P2_0_ k_ ∨ P2_1_ k_) ∨ w.heap.size ≤ k_) ∧ k_ ≠ gb289 ∧ k_ ≠ gb290 ∧ k_ ≠ gb291)) (HO2_1.out) (fun k_ hk => ⟨hk.1.1.1, ⟨hk.1.1.2, ⟨hk.1.2, hk.2⟩⟩⟩))).2.1 (Kd.V_F (Kd.V_mono (ok' := (fun k_ => ((P1_0_ k_ ∨ P1_1_ k_ ∨ P2_0_ k_ ∨ P2_1_ k_) ∨ w.heap.size ≤ k_) ∧ k_ ≠ gb289 ∧ k_ ≠ gb290 ∧ k_ ≠ gb291)) (HO2_1.out) (fun k_ hk => ⟨hk.1.1.1, ⟨hk.1.1.2, ⟨hk.1.2, hk.2⟩⟩⟩))))) (Reps.none _ _)))); intro v293 w12 ho13 hb hg_ hnew_; clear hg_ hnew_; (first | rw [← Ny292.out] at ho13 | (simp only [Int.reduceToNat] at ho13; rw [← Ny292.out] at ho13)); replace HO1_0 := gA (Kd.V_elder' (gV HO1_0) (Kd.N_base ho13) hb); replace HO1_1 := gA (Kd.V_elder' (gV HO1_1) (Kd.N_base ho13) hb); replace HO2_0 := gA (Kd.V_elder' (gV HO2_0) (Kd.N_base ho13) hb); replace HO2_1 := gA (Kd.V_elder' (gV HO2_1) (Kd.N_base ho13) hb); have HO294 := gA (Kd.N_lower ho13 (below_size (gB HB))); replace BK289 := gA (blk_below (gK BK289) hb); replace BK290 := gA (blk_below (gK BK290) hb); replace BK291 := gA (blk_below (gK BK291) hb); replace HB := gA (below_step (gB HB) hb); clear hb ho13; obtain ⟨Ao14, co14, eo14⟩ := Kd.N_slice HO294.out; subst eo14))
 go_loopg [17] k (fun kq v17 w' => ∃ (x17_1 : Int), v17 = .int .i64 x17_1 ∧ Aside0 (pick_Dy.l0 kq a0 y292 (y292.length : Int) x17_1 l1_0 l1_1 l2_0 l2_1 = some (r1, r2, r3)) ∧ Aside0 (kq ≤ k) ∧ Aside0 (Kd.N k25 25 w' w.heap.size (fun k_ => ((P1_0_ k_ ∨ P1_1_ k_ ∨ P2_0_ k_ ∨ P2_1_ k_) ∨ w.heap.size ≤ k_) ∧ k_ ≠ gb289 ∧ k_ ≠ gb290 ∧ k_ ≠ gb291) (.slice Ao14 y292.length co14) y292) ∧ Aside0 (Kd.V (Kd.int .i64) 3 w' w.heap.size (fun k_ => ((P1_0_ k_ ∨ P1_1_ k_ ∨ P2_0_ k_ ∨ P2_1_ k_) ∨ w.heap.size ≤ k_) ∧ some k_ ≠ ((.slice Ao14 y292.length co14) : Value).ownBlock ∧ k_ ≠ gb289 ∧ k_ ≠ gb290 ∧ k_ ≠ gb291) (.slice A1_0 l1_0.length c1_0) l1_0) ∧ Aside0 (Kd.V k45 45 w' w.heap.size (fun k_ => ((P1_0_ k_ ∨ P1_1_ k_ ∨ P2_0_ k_ ∨ P2_1_ k_) ∨ w.heap.size ≤ k_) ∧ some k_ ≠ ((.slice Ao14 y292.length co14) : Value).ownBlock ∧ k_ ≠ gb289 ∧ k_ ≠ gb290 ∧ k_ ≠ gb291) (.slice A1_1 l1_1.length c1_1) l1_1) ∧ Aside0 (Kd.V (Kd.int .i64) 3 w' w.heap.size (fun k_ => ((P1_0_ k_ ∨ P1_1_ k_ ∨ P2_0_ k_ ∨ P2_1_ k_) ∨ w.heap.size ≤ k_) ∧ some k_ ≠ ((.slice Ao14 y292.length co14) : Value).ownBlock ∧ k_ ≠ gb289 ∧ k_ ≠ gb290 ∧ k_ ≠ gb291) (.slice A2_0 l2_0.length c2_0) l2_0) ∧ Aside0 (Kd.V k45 45 w' w.heap.size (fun k_ => ((P1_0_ k_ ∨ P1_1_ k_ ∨ P2_0_ k_ ∨ P2_1_ k_) ∨ w.heap.size ≤ k_) ∧ some k_ ≠ ((.slice Ao14 y292.length co14) : Value).ownBlock ∧ k_ ≠ gb289 ∧ k_ ≠ gb290 ∧ k_ ≠ gb291) (.slice A2_1 l2_1.length c2_1) l2_1) ∧ Aside0 (w'.heap[gb289]? = some (.cells #[(.slice A1_0 l1_0.length c1_0), (.slice A1_1 l1_1.length c1_1)] 25 (0, 0))) ∧ Aside0 (w'.heap[gb290]? = some (.cells #[(.slice A2_0 l2_0.length c2_0), (.slice A2_1 l2_1.length c2_1)] 25 (0, 0))) ∧ Aside0 (w'.heap[gb291]? = some (.cells #[(.slice none 0 0), (.slice none 0 0)] 25 (0, 0))) ∧ Aside0 (Below w.heap.size w w'))
 case atStart => exact ⟨(0), (rfl), H', ⟨Nat.le_refl _⟩, ⟨gN HO294⟩, ⟨Kd.V_mono HO1_0.out (fun _ hk => by first | exact ⟨hk.1.1.1.1, ⟨hk.2, ⟨hk.1.1.1.2, ⟨hk.1.1.2, hk.1.2⟩⟩⟩⟩ | (simp_all; done))⟩, ⟨Kd.V_mono HO1_1.out (fun _ hk => by first | exact ⟨hk.1.1.1.1, ⟨hk.2, ⟨hk.1.1.1.2, ⟨hk.1.1.2, hk.1.2⟩⟩⟩⟩ | (simp_all; done))⟩, ⟨Kd.V_mono HO2_0.out (fun _ hk => by first | exact ⟨hk.1.1.1.1, ⟨hk.2, ⟨hk.1.1.1.2, ⟨hk.1.1.2, hk.1.2⟩⟩⟩⟩ | (simp_all; done))⟩, ⟨Kd.V_mono HO2_1.out (fun _ hk => by first | exact ⟨hk.1.1.1.1, ⟨hk.2, ⟨hk.1.1.1.2, ⟨hk.1.1.2, hk.1.2⟩⟩⟩⟩ | (simp_all; done))⟩, ⟨gK BK289⟩, ⟨gK BK290⟩, ⟨gK BK291⟩, ⟨by repeat first | exact gB HB | refine below_set ?_ GE289.out | refine below_set ?_ GE290.out | refine below_set ?_ GE291.out⟩⟩
 case round =>
  clear H'
  try clear c1
  try clear c2
  try clear p2
  try clear c7
  try clear c8
  try clear c10
  try clear c11
  try clear hcz11_0
  try clear hcz11_1
  try clear hcz9_0
  try clear hcz9_1
  try clear hfz11_0
  try clear hfz11_1
  try clear hfz9_0
  try clear hfz9_1
  obtain ⟨x17_1, rfl, HA, HK1, HO_15, HO_290000, HO_290001, HO_291000, HO_291001, BK289, BK290, BK291, HB⟩ := hrel
  cases gk with
  | zero => exact absurd HA.out (by simp [pick_Dy.l0])
  | succ k1 =>
   have H := HA.out; clear HA
   simp only [pick_Dy.l0] at H
   by_cases c15 : x17_1 < (y292.length : Int)
   ·rw [if_pos c15] at H
    have c15b0 := decide_eq_true c15
    clear c15
    obtain ⟨c16, H⟩ := iS H
    have c16b0 := decide_eq_true c16
    clear c16
    obtain ⟨c17, H⟩ := iS H
    have c17b0 := decide_eq_true c17
    clear c17
    replace H := Option.bind_eq_some_iff.mp H
    obtain ⟨t297, A180, H⟩ := H
    replace H : (if t297 = 0 then (pick_Dy.l0 k1 a0 y292 (y292.length : Int) (wrap64 (x17_1 + 1)) l1_0 l1_1 l2_0 l2_1) else (none)) = some (r1, r2, r3) := H
    have A18 := gA A180
    clear A180
    obtain ⟨c19, H⟩ := iS H
    have c19b0 : (t297 == 0) = true := beq_iff_eq.mpr c19
    have c19b1 : (t297 != 0) = false := bne_eq_false_iff_eq.mpr c19
    clear c19
    have H' := gA H
    clear H
    have p295 : 0 ≤ (x17_1 : Int) := of_decide_eq_true (by assumption)
    have q295 : x17_1 < (y292.length : Int) := of_decide_eq_true (by assumption)
    obtain ⟨ad295, A295_0, c295_0, A295_1, c295_1, e295, hx295_0, hx295_1, hl295_0, hi295_0, hl295_1, hi295_1⟩ := at_T25 (Kd.N_reads' HO_15.out).2.2 x17_1 p295 q295
    cases e295
    obtain ⟨ce295, hce295, hMe295, hcc295⟩ := Kd.N_get HO_15.out z25 x17_1 p295 (by first | exact q295 | exact of_decide_eq_true (by assumption) | (have e_ := (Kd.N_reads' HO_15.out).1; omega))
    obtain ⟨ua295_0, uc295_0, ua295_1, uc295_1, rfl, ul295_0, ge295_0, ul295_1, ge295_1⟩ := k25_openF hMe295
    have hv295_0 := hcc295 0 _ rfl
    rw [Nat.add_zero] at hv295_0
    replace hv295_0 := Option.some.inj (hv295_0.symm.trans hx295_0)
    injection hv295_0 with hva_ hvn_ hvc_
    rw [hva_] at ge295_0
    rw [hvc_] at ul295_0
    have HL295_0 := gA (show Kd.V (Kd.int .i64) 3 _ w.heap.size _ _ ((rd_T25 y292 x17_1).f0) from Kd.V_mk ul295_0 ge295_0)
    clear hva_ hvn_ hvc_ ge295_0 ul295_0
    have hv295_1 := hcc295 1 _ rfl
    rw [add_field _ _ 1 (by omega)] at hv295_1
    replace hv295_1 := Option.some.inj (hv295_1.symm.trans hx295_1)
    injection hv295_1 with hva_ hvn_ hvc_
    rw [hva_] at ge295_1
    rw [hvc_] at ul295_1
    have HL295_1 := gA (show Kd.V k45 45 _ w.heap.size _ _ ((rd_T25 y292 x17_1).f1) from Kd.V_mk ul295_1 ge295_1)
    clear hva_ hvn_ hvc_ ge295_1 ul295_1 hcc295 hce295
    have HR295_0 := gA hi295_0
    have HC295_0 := gA hl295_0
    clear hi295_0 hl295_0
    have HR295_1 := gA hi295_1
    have HC295_1 := gA hl295_1
    clear hi295_1 hl295_1
    replace p295 := eq_true p295
    replace q295 := eq_true q295
    go_wp2_with (first | ((with_reducible refine gate_dst (N := 9) rfl ?_); refine box_event ?hg (N := 9) ?hd (cs := #[.slice none 0 0, .slice none 0 0]) (t := 25) ?hr ?_; (case hd => rfl); (case hg => rfl); (case hr => first | (go_simp; done) | (go_simp; rfl)); intro gb296 hg w20 hbox hb; replace HO_15 := gA (Kd.N_below (Kd.N_elderB (gN HO_15) gb296 (Nat.le_of_eq hg.symm)) hb); replace HO_290000 := gA (Kd.V_below (Kd.V_elderB (gV HO_290000) gb296 (Nat.le_of_eq hg.symm)) hb); replace HO_290001 := gA (Kd.V_below (Kd.V_elderB (gV HO_290001) gb296 (Nat.le_of_eq hg.symm)) hb); replace HO_291000 := gA (Kd.V_below (Kd.V_elderB (gV HO_291000) gb296 (Nat.le_of_eq hg.symm)) hb); replace HO_291001 := gA (Kd.V_below (Kd.V_elderB (gV HO_291001) gb296 (Nat.le_of_eq hg.symm)) hb); replace HL295_0 := gA (Kd.V_below (Kd.V_elderB (gV HL295_0) gb296 (Nat.le_of_eq hg.symm)) hb); replace HL295_1 := gA (Kd.V_below (Kd.V_elderB (gV HL295_1) gb296 (Nat.le_of_eq hg.symm)) hb); replace HR295_0 := gA (Kd.C_below (by repeat (first | (with_reducible exact HR295_0.out) | (with_reducible refine Kd.C_alloc ?_ _) | (with_reducible refine Kd.C_drewN ?_ _) | (with_reducible refine Kd.C_drew ?_) | exact HR295_0.out)) hb); replace HR295_1 := gA (Kd.C_below (by repeat (first | (with_reducible exact HR295_1.out) | (with_reducible refine Kd.C_alloc ?_ _) | (with_reducible refine Kd.C_drewN ?_ _) | (with_reducible refine Kd.C_drew ?_) | exact HR295_1.out)) hb); have BK296 := gA (hbox); have GW296 := gA ((by rw [hg]; exact (below_size (gB HB)) : w.heap.size ≤ gb296)); have GE296 := gA ((by rw [hg]; exact (below_size (gB HB)) : w.heap.size ≤ gb296)); replace HB := gA (below_step (gB HB) hb); have NB289_296 := gA ((by rw [hg]; exact Nat.ne_of_lt (blk_lt (gK BK289)) : gb289 ≠ gb296)); have NB296_289 := gA ((by rw [hg]; exact Nat.ne_of_gt (blk_lt (gK BK289)) : gb296 ≠ gb289)); replace BK289 := gA (blk_below (gK BK289) hb); have NB290_296 := gA ((by rw [hg]; exact Nat.ne_of_lt (blk_lt (gK BK290)) : gb290 ≠ gb296)); have NB296_290 := gA ((by rw [hg]; exact Nat.ne_of_gt (blk_lt (gK BK290)) : gb296 ≠ gb290)); replace BK290 := gA (blk_below (gK BK290) hb); have NB291_296 := gA ((by rw [hg]; exact Nat.ne_of_lt (blk_lt (gK BK291)) : gb291 ≠ gb296)); have NB296_291 := gA ((by rw [hg]; exact Nat.ne_of_gt (blk_lt (gK BK291)) : gb296 ≠ gb291)); replace BK291 := gA (blk_below (gK BK291) hb); clear hb hbox hg; have hnb21 := NB296_289.out; have hnc21 := NB289_296.out; have hnb22 := NB296_290.out; have hnc22 := NB290_296.out; have hnb23 := NB296_291.out; have hnc23 := NB291_296.out; obtain ⟨hcz24_0, hcz24_1, hfz24_0, hfz24_1⟩ := gz2 BK296) | ((with_reducible refine gate_callee (f := 19) rfl ?_); refine goesL_ (some 22) rfl rfl Try.func19 (by kernel_rfl) rfl #[.agg #[.slice A295_0 ((rd_T25 y292 x17_1).f0).length c295_0, .slice A295_1 ((rd_T25 y292 x17_1).f1).length c295_1]] rfl (by (try simp only [List.map_toArray, List.map_cons, List.map_nil]); first | done | rfl | (simp only [List.length_drop, List.length_take]; rfl)) ?_; (with_reducible refine (arr_Check.calls k1 _ _ ((rd_T25 y292 x17_1).f0) _ _ ((rd_T25 y292 x17_1).f1) t297 _ ?side1 ?side2 ?side3 ?side4 A18.out).mono ?_); (case side1 => repeat (first | exact ((Kd.V_reads' (by (with_reducible repeat (first | apply Kd.V_alloc | apply Kd.V_drewN | apply Kd.V_drew)); exact (Kd.V_mono (Kd.V_far (p := ⟨gb296, 1, none⟩) (Kd.V_far (p := ⟨gb296, 0, none⟩) (Kd.V_mono HL295_0.out (fun k_ hk => (⟨hk, hk.2⟩ : _ ∧ k_ ≠ gb296))) (fun _ hk => hk.2) (.slice A295_0 ((rd_T25 y292 x17_1).f0).length c295_0)) (fun _ hk => hk.2) (.slice A295_1 ((rd_T25 y292 x17_1).f1).length c295_1)) (fun _ h_ => h_.1)))).2.2) | (with_reducible refine Kd.C_alloc ?_ _) | (with_reducible refine Kd.C_drewN ?_ _) | (with_reducible refine Kd.C_drew ?_))); (case side2 => exact HC295_0.out); (case side3 => repeat (first | exact ((Kd.V_reads' (by (with_reducible repeat (first | apply Kd.V_alloc | apply Kd.V_drewN | apply Kd.V_drew)); exact (Kd.V_mono (Kd.V_far (p := ⟨gb296, 1, none⟩) (Kd.V_far (p := ⟨gb296, 0, none⟩) (Kd.V_mono HL295_1.out (fun k_ hk => (⟨hk, hk.2⟩ : _ ∧ k_ ≠ gb296))) (fun _ hk => hk.2) (.slice A295_0 ((rd_T25 y292 x17_1).f0).length c295_0)) (fun _ hk => hk.2) (.slice A295_1 ((rd_T25 y292 x17_1).f1).length c295_1)) (fun _ h_ => h_.1)))).2.2) | (with_reducible refine Kd.C_alloc ?_ _) | (with_reducible refine Kd.C_drewN ?_ _) | (with_reducible refine Kd.C_drew ?_))); (case side4 => exact HC295_1.out); rintro e w25 ⟨rfl, hb⟩; refine ⟨_, rfl, ?_⟩; replace HO_15 := gA (Kd.N_below (by (with_reducible repeat (first | apply Kd.N_alloc | apply Kd.N_drewN | apply Kd.N_drew)); exact (Kd.N_mono (Kd.N_far (p := ⟨gb296, 1, none⟩) (Kd.N_far (p := ⟨gb296, 0, none⟩) (Kd.N_mono HO_15.out (fun k_ hk => (⟨hk, hk.2⟩ : _ ∧ k_ ≠ gb296))) (fun _ hk => hk.2) (.slice A295_0 ((rd_T25 y292 x17_1).f0).length c295_0)) (fun _ hk => hk.2) (.slice A295_1 ((rd_T25 y292 x17_1).f1).length c295_1)) (fun _ h_ => h_.1))) hb); replace HO_290000 := gA (Kd.V_below (by (with_reducible repeat (first | apply Kd.V_alloc | apply Kd.V_drewN | apply Kd.V_drew)); exact (Kd.V_mono (Kd.V_far (p := ⟨gb296, 1, none⟩) (Kd.V_far (p := ⟨gb296, 0, none⟩) (Kd.V_mono HO_290000.out (fun k_ hk => (⟨hk, hk.2⟩ : _ ∧ k_ ≠ gb296))) (fun _ hk => hk.2) (.slice A295_0 ((rd_T25 y292 x17_1).f0).length c295_0)) (fun _ hk => hk.2) (.slice A295_1 ((rd_T25 y292 x17_1).f1).length c295_1)) (fun _ h_ => h_.1))) hb); replace HO_290001 := gA (Kd.V_below (by (with_reducible repeat (first | apply Kd.V_alloc | apply Kd.V_drewN | apply Kd.V_drew)); exact (Kd.V_mono (Kd.V_far (p := ⟨gb296, 1, none⟩) (Kd.V_far (p := ⟨gb296, 0, none⟩) (Kd.V_mono HO_290001.out (fun k_ hk => (⟨hk, hk.2⟩ : _ ∧ k_ ≠ gb296))) (fun _ hk => hk.2) (.slice A295_0 ((rd_T25 y292 x17_1).f0).length c295_0)) (fun _ hk => hk.2) (.slice A295_1 ((rd_T25 y292 x17_1).f1).length c295_1)) (fun _ h_ => h_.1))) hb); replace HO_291000 := gA (Kd.V_below (by (with_reducible repeat (first | apply Kd.V_alloc | apply Kd.V_drewN | apply Kd.V_drew)); exact (Kd.V_mono (Kd.V_far (p := ⟨gb296, 1, none⟩) (Kd.V_far (p := ⟨gb296, 0, none⟩) (Kd.V_mono HO_291000.out (fun k_ hk => (⟨hk, hk.2⟩ : _ ∧ k_ ≠ gb296))) (fun _ hk => hk.2) (.slice A295_0 ((rd_T25 y292 x17_1).f0).length c295_0)) (fun _ hk => hk.2) (.slice A295_1 ((rd_T25 y292 x17_1).f1).length c295_1)) (fun _ h_ => h_.1))) hb); replace HO_291001 := gA (Kd.V_below (by (with_reducible repeat (first | apply Kd.V_alloc | apply Kd.V_drewN | apply Kd.V_drew)); exact (Kd.V_mono (Kd.V_far (p := ⟨gb296, 1, none⟩) (Kd.V_far (p := ⟨gb296, 0, none⟩) (Kd.V_mono HO_291001.out (fun k_ hk => (⟨hk, hk.2⟩ : _ ∧ k_ ≠ gb296))) (fun _ hk => hk.2) (.slice A295_0 ((rd_T25 y292 x17_1).f0).length c295_0)) (fun _ hk => hk.2) (.slice A295_1 ((rd_T25 y292 x17_1).f1).length c295_1)) (fun _ h_ => h_.1))) hb); replace BK289 := gA (blk_below (g := gb289) (o := .cells #[.slice A1_0 l1_0.length c1_0, .slice A1_1 l1_1.length c1_1] 25 (0, 0)) (by refine blk_far ?_ NB289_296.out _; refine blk_far ?_ NB289_296.out _; exact gK BK289) hb); replace BK290 := gA (blk_below (g := gb290) (o := .cells #[.slice A2_0 l2_0.length c2_0, .slice A2_1 l2_1.length c2_1] 25 (0, 0)) (by refine blk_far ?_ NB290_296.out _; refine blk_far ?_ NB290_296.out _; exact gK BK290) hb); replace BK291 := gA (blk_below (g := gb291) (o := .cells #[.slice none 0 0, .slice none 0 0] 25 (0, 0)) (by refine blk_far ?_ NB291_296.out _; refine blk_far ?_ NB291_296.out _; exact gK BK291) hb); replace HR295_0 := gA (Kd.C_below ((Kd.V_reads' (by (with_reducible repeat (first | apply Kd.V_alloc | apply Kd.V_drewN | apply Kd.V_drew)); exact (Kd.V_mono (Kd.V_far (p := ⟨gb296, 1, none⟩) (Kd.V_far (p := ⟨gb296, 0, none⟩) (Kd.V_mono HL295_0.out (fun k_ hk => (⟨hk, hk.2⟩ : _ ∧ k_ ≠ gb296))) (fun _ hk => hk.2) (.slice A295_0 ((rd_T25 y292 x17_1).f0).length c295_0)) (fun _ hk => hk.2) (.slice A295_1 ((rd_T25 y292 x17_1).f1).length c295_1)) (fun _ h_ => h_.1)))).2.2) hb); replace HL295_0 := gA (Kd.V_below (by (with_reducible repeat (first | apply Kd.V_alloc | apply Kd.V_drewN | apply Kd.V_drew)); exact (Kd.V_mono (Kd.V_far (p := ⟨gb296, 1, none⟩) (Kd.V_far (p := ⟨gb296, 0, none⟩) (Kd.V_mono HL295_0.out (fun k_ hk => (⟨hk, hk.2⟩ : _ ∧ k_ ≠ gb296))) (fun _ hk => hk.2) (.slice A295_0 ((rd_T25 y292 x17_1).f0).length c295_0)) (fun _ hk => hk.2) (.slice A295_1 ((rd_T25 y292 x17_1).f1).length c295_1)) (fun _ h_ => h_.1))) hb); replace HR295_1 := gA (Kd.C_below ((Kd.V_reads' (by (with_reducible repeat (first | apply Kd.V_alloc | apply Kd.V_drewN | apply Kd.V_drew)); exact (Kd.V_mono (Kd.V_far (p := ⟨gb296, 1, none⟩) (Kd.V_far (p := ⟨gb296, 0, none⟩) (Kd.V_mono HL295_1.out (fun k_ hk => (⟨hk, hk.2⟩ : _ ∧ k_ ≠ gb296))) (fun _ hk => hk.2) (.slice A295_0 ((rd_T25 y292 x17_1).f0).length c295_0)) (fun _ hk => hk.2) (.slice A295_1 ((rd_T25 y292 x17_1).f1).length c295_1)) (fun _ h_ => h_.1)))).2.2) hb); replace HL295_1 := gA (Kd.V_below (by (with_reducible repeat (first | apply Kd.V_alloc | apply Kd.V_drewN | apply Kd.V_drew)); exact (Kd.V_mono (Kd.V_far (p := ⟨gb296, 1, none⟩) (Kd.V_far (p := ⟨gb296, 0, none⟩) (Kd.V_mono HL295_1.out (fun k_ hk => (⟨hk, hk.2⟩ : _ ∧ k_ ≠ gb296))) (fun _ hk => hk.2) (.slice A295_0 ((rd_T25 y292 x17_1).f0).length c295_0)) (fun _ hk => hk.2) (.slice A295_1 ((rd_T25 y292 x17_1).f1).length c295_1)) (fun _ h_ => h_.1))) hb); replace BK296 := gA (blk_below (g := gb296) (o := .cells #[.slice A295_0 ((rd_T25 y292 x17_1).f0).length c295_0, .slice A295_1 ((rd_T25 y292 x17_1).f1).length c295_1] 25 (0, 0)) (by refine blk_put (cs := #[.slice A295_0 ((rd_T25 y292 x17_1).f0).length c295_0, .slice none 0 0]) ?_ 1 _ rfl; refine blk_put (cs := #[.slice none 0 0, .slice none 0 0]) ?_ 0 _ rfl; exact gK BK296) hb); replace HB := gA (below_step (by repeat first | exact gB HB | refine below_set ?_ GE289.out | refine below_set ?_ GE290.out | refine below_set ?_ GE291.out | refine below_set ?_ GE296.out) hb); (try clear hb); (try clear hk)))
    go_roundg k1
    case measure => have := HK1.out; omega
    case rel => exact ⟨(wrap64 (x17_1 + 1)), (rfl), H', ⟨by have := HK1.out; omega⟩, ⟨Kd.N_mono HO_15.out (fun _ hk => ⟨hk.1.1, ⟨hk.1.2.1, ⟨hk.1.2.2.1, hk.1.2.2.2⟩⟩⟩)⟩, ⟨Kd.V_mono HO_290000.out (fun _ hk => ⟨hk.1.1, ⟨hk.1.2.1, ⟨hk.1.2.2.1, ⟨hk.1.2.2.2.1, hk.1.2.2.2.2⟩⟩⟩⟩)⟩, ⟨Kd.V_mono HO_290001.out (fun _ hk => ⟨hk.1.1, ⟨hk.1.2.1, ⟨hk.1.2.2.1, ⟨hk.1.2.2.2.1, hk.1.2.2.2.2⟩⟩⟩⟩)⟩, ⟨Kd.V_mono HO_291000.out (fun _ hk => ⟨hk.1.1, ⟨hk.1.2.1, ⟨hk.1.2.2.1, ⟨hk.1.2.2.2.1, hk.1.2.2.2.2⟩⟩⟩⟩)⟩, ⟨Kd.V_mono HO_291001.out (fun _ hk => ⟨hk.1.1, ⟨hk.1.2.1, ⟨hk.1.2.2.1, ⟨hk.1.2.2.2.1, hk.1.2.2.2.2⟩⟩⟩⟩)⟩, ⟨gK BK289⟩, ⟨gK BK290⟩, ⟨gK BK291⟩, ⟨by repeat first | exact gB HB | refine below_set ?_ GE289.out | refine below_set ?_ GE290.out | refine below_set ?_ GE291.out | refine below_set ?_ GE296.out⟩⟩
   ·rw [if_neg c15] at H
    have c15b0 := decide_eq_false c15
    clear c15
    replace H := Option.bind_eq_some_iff.mp H
    obtain ⟨⟨t298, t301⟩, A260, H⟩ := H
    replace H : ((arr_Copy.f k1 l2_0 l2_1).bind fun bt304 => (if a0 = 46 then (pick_Dy.j1 k1 a0 a0 (a0 == 46) t298 t301 bt304.1 bt304.2) else (pick_Dy.j1 k1 a0 a0 (a0 == 47) t298 t301 bt304.1 bt304.2))) = some (r1, r2, r3) := H
    have A26 := gA A260
    clear A260
    replace H := Option.bind_eq_some_iff.mp H
    obtain ⟨⟨t304, t307⟩, A270, H⟩ := H
    replace H : (if a0 = 46 then (pick_Dy.j1 k1 a0 a0 (a0 == 46) t298 t301 t304 t307) else (pick_Dy.j1 k1 a0 a0 (a0 == 47) t298 t301 t304 t307)) = some (r1, r2, r3) := H
    have A27 := gA A270
    clear A270
    have HC28 := gA H
    clear H
    try go_wp2
    replace HO_15 := gA (Kd.N_drew HO_15.out); replace HO_290000 := gA (Kd.V_drew HO_290000.out); replace HO_290001 := gA (Kd.V_drew HO_290001.out); replace HO_291000 := gA (Kd.V_drew HO_291000.out); replace HO_291001 := gA (Kd.V_drew HO_291001.out); replace BK289 := gA (blk_drew BK289.out); replace BK290 := gA (blk_drew BK290.out); replace BK291 := gA (blk_drew BK291.out); replace HB := gA (below_drew1 HB.out)
    refine start_ (n := 6) (S := fun w' => w'.cell? ⟨gb289, 0, none⟩ = some (.slice A1_0 l1_0.length c1_0) ∧ w'.cell? ⟨gb289, 1, none⟩ = some (.slice A1_1 l1_1.length c1_1) ∧ w'.cell? ⟨gb290, 0, none⟩ = some (.slice A2_0 l2_0.length c2_0) ∧ w'.cell? ⟨gb290, 1, none⟩ = some (.slice A2_1 l2_1.length c2_1)) (ds := [4, 5]) #[false, false, false, false, false, false] (by kernel_rfl) rfl rfl ⟨(blk_cell BK289.out 0).trans rfl, (blk_cell BK289.out 1).trans rfl, (blk_cell BK290.out 0).trans rfl, (blk_cell BK290.out 1).trans rfl⟩ (fun hHeld => ?_)
    generalize wr.drew = w29 at HO_15 HO_290000 HO_290001 HO_291000 HO_291001 BK289 BK290 BK291 HB hHeld ⊢
    refine take_ (i := 0) (N := some 28) (v := ?_) (a' := ?_) #[true, false, false, false, false, false] rfl rfl (by kernel_rfl) (fun _ _ _ h => h) (Or.inl ⟨by rfl, ?_⟩) hHeld ?_ ?_; rotate_left
    ·rintro w' ⟨s0, s1, s2, s3⟩; go_simp; with_reducible rfl
    rotate_left
    ·simp only [Act.put, List.setIfInBounds_toArray, List.set_cons_zero, List.set_cons_succ, i64_w, i32_w]; rfl
    refine take_ (i := 2) (N := some 30) (v := ?_) (a' := ?_) #[true, false, true, false, false, false] rfl rfl (by kernel_rfl) (fun _ _ _ h => h) (Or.inl ⟨by rfl, ?_⟩) hHeld ?_ ?_; rotate_left
    ·rintro w' ⟨s0, s1, s2, s3⟩; go_simp; with_reducible rfl
    rotate_left
    ·simp only [Act.put, List.setIfInBounds_toArray, List.set_cons_zero, List.set_cons_succ, i64_w, i32_w]; rfl
    refine one_ (i := 1) (N := some 29) #[true, true, true, false, false, false] rfl rfl (by kernel_rfl) (by decide) (fun K hK => ?_)
    refine goes_ Try.func20 (by kernel_rfl) rfl #[.agg #[.slice A1_0 l1_0.length c1_0, .slice A1_1 l1_1.length c1_1]] (by rfl) rfl rfl (by (try simp only [List.map_toArray, List.map_cons, List.map_nil]); first | done | rfl | (simp only [List.length_drop, List.length_take]; rfl)) ?_
    with_reducible refine (arr_Copy.calls k1 _ _ l1_0 (fun k_ => (((P1_0_ k_ ∨ P1_1_ k_ ∨ P2_0_ k_ ∨ P2_1_ k_) ∨ w.heap.size ≤ k_) ∧ (some k_ ≠ (.slice Ao14 y292.length co14 : Value).ownBlock ∧ (k_ ≠ gb289 ∧ (k_ ≠ gb290 ∧ k_ ≠ gb291))))) _ _ l1_1 t298 t301 _ ?side1 ?side2 ?side3 A26.out).mono ?_
    (case side1 => repeat (first | exact (Kd.V_reads' HO_290000.out).2.2 | (with_reducible refine Kd.C_alloc ?_ _) | (with_reducible refine Kd.C_drewN ?_ _) | (with_reducible refine Kd.C_drew ?_)))
    (case side2 => exact (Kd.V_reads' HO_290000.out).2.1)
    (case side3 => exact HO_290001.out)
    rintro e w30 ⟨v299, v302, rfl, ho0, ho1, hb⟩
    refine ⟨_, rfl, ?_⟩
    replace HO_290000 := gA (Kd.V_mono (Kd.V_told (Kd.V_told (Kd.V_old (gV HO_290000) hb) (Kd.R_base ho0)) (by first | exact Kd.N_base ho1 | exact Kd.R_base ho1)) (fun _ h_ => h_.1)); replace HO_290001 := gA (Kd.V_mono (Kd.V_told (Kd.V_told (Kd.V_old (gV HO_290001) hb) (Kd.R_base ho0)) (by first | exact Kd.N_base ho1 | exact Kd.R_base ho1)) (fun _ h_ => h_.1)); replace HO_291000 := gA (Kd.V_mono (Kd.V_told (Kd.V_told (Kd.V_old (gV HO_291000) hb) (Kd.R_base ho0)) (by first | exact Kd.N_base ho1 | exact Kd.R_base ho1)) (fun _ h_ => h_.1)); replace HO_291001 := gA (Kd.V_mono (Kd.V_told (Kd.V_told (Kd.V_old (gV HO_291001) hb) (Kd.R_base ho0)) (by first | exact Kd.N_base ho1 | exact Kd.R_base ho1)) (fun _ h_ => h_.1)); have HO300 := gA (Kd.R_lower (Kd.R_newM (M := fun k_ => (w.heap.size ≤ k_)) (Kd.R_mono (ok' := fun k_ => True) ho0 (fun _ hk_ => trivial)) (below_size (gB HB)) (fun k_ h_ => h_)) (below_size (gB HB))); have HO303 := gA (Kd.N_lower (Kd.N_mono (ok' := fun k_ => ((P1_0_ k_ ∨ P1_1_ k_ ∨ P2_0_ k_ ∨ P2_1_ k_) ∨ w.heap.size ≤ k_) ∧ some k_ ≠ (v299 : Value).ownBlock ∧ some k_ ≠ (.slice Ao14 y292.length co14 : Value).ownBlock ∧ k_ ≠ gb289 ∧ k_ ≠ gb290 ∧ k_ ≠ gb291) ho1 (fun k_ hk_ => ⟨Or.elim hk_.1 (fun hs_ => hs_.1) (fun hn_ => (.inr (Nat.le_trans (below_size (gB HB)) hn_))), hk_.2, Or.elim hk_.1 (fun hs_ => hs_.2.1) (fun hn_ => (Kd.fresh' (Kd.N_lt (gN HO_15)) k_ hn_)), Or.elim hk_.1 (fun hs_ => hs_.2.2.1) (fun hn_ => (Kd.freshB (gK BK289) k_ hn_)), Or.elim hk_.1 (fun hs_ => hs_.2.2.2.1) (fun hn_ => (Kd.freshB (gK BK290) k_ hn_)), Or.elim hk_.1 (fun hs_ => hs_.2.2.2.2) (fun hn_ => (Kd.freshB (gK BK291) k_ hn_))⟩)) (below_size (gB HB))); replace HO_15 := gA (Kd.N_mono (Kd.N_told (Kd.N_told (Kd.N_old (gN HO_15) hb) (Kd.R_base ho0)) (by first | exact Kd.N_base ho1 | exact Kd.R_base ho1)) (fun _ h_ => h_.1)); replace BK289 := gA (blk_below (gK BK289) hb); replace BK290 := gA (blk_below (gK BK290) hb); replace BK291 := gA (blk_below (gK BK291) hb); replace HB := gA (below_step (gB HB) hb); (try clear hb); (try clear ho0); (try clear ho1)
    refine hK.out _ _ ⟨(blk_cell BK289.out 0).trans rfl, (blk_cell BK289.out 1).trans rfl, (blk_cell BK290.out 0).trans rfl, (blk_cell BK290.out 1).trans rfl⟩ (fun hHeld => ?_); clear hK K
    refine norm_ (a' := ?_) ?_ ?_; rotate_left
    ·show Act.put _ (some 29) _ = _
     simp only [Act.put, List.setIfInBounds_toArray, List.set_cons_zero, List.set_cons_succ, i64_w, i32_w]; rfl
    refine one_ (i := 3) (N := some 31) #[true, true, true, true, false, false] rfl rfl (by kernel_rfl) (by decide) (fun K hK => ?_)
    refine goes_ Try.func20 (by kernel_rfl) rfl #[.agg #[.slice A2_0 l2_0.length c2_0, .slice A2_1 l2_1.length c2_1]] (by rfl) rfl rfl (by (try simp only [List.map_toArray, List.map_cons, List.map_nil]); first | done | rfl | (simp only [List.length_drop, List.length_take]; rfl)) ?_
    with_reducible refine (arr_Copy.calls k1 _ _ l2_0 (fun k_ => (((((P1_0_ k_ ∨ P1_1_ k_ ∨ P2_0_ k_ ∨ P2_1_ k_) ∨ w.heap.size ≤ k_) ∧ (some k_ ≠ (.slice Ao14 y292.length co14 : Value).ownBlock ∧ (k_ ≠ gb289 ∧ (k_ ≠ gb290 ∧ k_ ≠ gb291)))) ∧ some k_ ≠ (v299 : Value).ownBlock) ∧ some k_ ≠ (v302 : Value).ownBlock)) _ _ l2_1 t304 t307 _ ?side1 ?side2 ?side3 A27.out).mono ?_
    (case side1 => repeat (first | exact (Kd.V_reads' HO_291000.out).2.2 | (with_reducible refine Kd.C_alloc ?_ _) | (with_reducible refine Kd.C_drewN ?_ _) | (with_reducible refine Kd.C_drew ?_)))
    (case side2 => exact (Kd.V_reads' HO_291000.out).2.1)
    (case side3 => exact HO_291001.out)
    rintro e w31 ⟨v305, v308, rfl, ho0, ho1, hb⟩
    refine ⟨_, rfl, ?_⟩
    replace HO_290000 := gA (Kd.V_mono (Kd.V_told (Kd.V_told (Kd.V_old (gV HO_290000) hb) (Kd.R_base ho0)) (by first | exact Kd.N_base ho1 | exact Kd.R_base ho1)) (fun _ h_ => h_.1)); replace HO_290001 := gA (Kd.V_mono (Kd.V_told (Kd.V_told (Kd.V_old (gV HO_290001) hb) (Kd.R_base ho0)) (by first | exact Kd.N_base ho1 | exact Kd.R_base ho1)) (fun _ h_ => h_.1)); replace HO_291000 := gA (Kd.V_mono (Kd.V_told (Kd.V_told (Kd.V_old (gV HO_291000) hb) (Kd.R_base ho0)) (by first | exact Kd.N_base ho1 | exact Kd.R_base ho1)) (fun _ h_ => h_.1)); replace HO_291001 := gA (Kd.V_mono (Kd.V_told (Kd.V_told (Kd.V_old (gV HO_291001) hb) (Kd.R_base ho0)) (by first | exact Kd.N_base ho1 | exact Kd.R_base ho1)) (fun _ h_ => h_.1)); have HO306 := gA (Kd.R_lower (Kd.R_new' (Kd.R_newM (M := fun k_ => (w.heap.size ≤ k_)) (Kd.R_mono (ok' := fun k_ => True) ho0 (fun _ hk_ => trivial)) (below_size (gB HB)) (fun k_ h_ => h_)) (Kd.R_lt (gR HO300))) (below_size (gB HB))); have HO309 := gA (Kd.N_lower (Kd.N_mono (ok' := fun k_ => ((P1_0_ k_ ∨ P1_1_ k_ ∨ P2_0_ k_ ∨ P2_1_ k_) ∨ w.heap.size ≤ k_) ∧ some k_ ≠ (v305 : Value).ownBlock ∧ some k_ ≠ (.slice Ao14 y292.length co14 : Value).ownBlock ∧ some k_ ≠ (v299 : Value).ownBlock ∧ some k_ ≠ (v302 : Value).ownBlock ∧ k_ ≠ gb289 ∧ k_ ≠ gb290 ∧ k_ ≠ gb291) ho1 (fun k_ hk_ => ⟨Or.elim hk_.1 (fun hs_ => hs_.1.1.1) (fun hn_ => (.inr (Nat.le_trans (below_size (gB HB)) hn_))), hk_.2, Or.elim hk_.1 (fun hs_ => hs_.1.1.2.1) (fun hn_ => (Kd.fresh' (Kd.N_lt (gN HO_15)) k_ hn_)), Or.elim hk_.1 (fun hs_ => hs_.1.2) (fun hn_ => (Kd.fresh' (Kd.R_lt (gR HO300)) k_ hn_)), Or.elim hk_.1 (fun hs_ => hs_.2) (fun hn_ => (Kd.fresh' (Kd.N_lt (gN HO303)) k_ hn_)), Or.elim hk_.1 (fun hs_ => hs_.1.1.2.2.1) (fun hn_ => (Kd.freshB (gK BK289) k_ hn_)), Or.elim hk_.1 (fun hs_ => hs_.1.1.2.2.2.1) (fun hn_ => (Kd.freshB (gK BK290) k_ hn_)), Or.elim hk_.1 (fun hs_ => hs_.1.1.2.2.2.2) (fun hn_ => (Kd.freshB (gK BK291) k_ hn_))⟩)) (below_size (gB HB))); replace HO_15 := gA (Kd.N_mono (Kd.N_told (Kd.N_told (Kd.N_old (gN HO_15) hb) (Kd.R_base ho0)) (by first | exact Kd.N_base ho1 | exact Kd.R_base ho1)) (fun _ h_ => h_.1)); replace HO300 := gA (Kd.R_elder' (gR HO300) (Kd.R_base ho0) hb); replace HO303 := gA (Kd.N_mono (Kd.N_told (Kd.N_told (Kd.N_old (gN HO303) hb) (Kd.R_base ho0)) (by first | exact Kd.N_base ho1 | exact Kd.R_base ho1)) (fun _ h_ => h_.1)); replace BK289 := gA (blk_below (gK BK289) hb); replace BK290 := gA (blk_below (gK BK290) hb); replace BK291 := gA (blk_below (gK BK291) hb); replace HB := gA (below_step (gB HB) hb); (try clear hb); (try clear ho0); (try clear ho1)
    obtain ⟨Ao32, co32, eo32⟩ := Kd.R_slice HO300.out
    (first | subst eo32 | (injection eo32 with f1_ f2_ f3_; have f4_ := f1_.symm; have f5_ := f3_.symm; clear f1_ f2_ f3_; subst f4_; subst f5_))
    obtain ⟨Ao34, co34, eo34⟩ := Kd.N_slice HO303.out
    (first | subst eo34 | (injection eo34 with f1_ f2_ f3_; have f4_ := f1_.symm; have f5_ := f3_.symm; clear f1_ f2_ f3_; subst f4_; subst f5_))
    obtain ⟨Ao36, co36, eo36⟩ := Kd.R_slice HO306.out
    (first | subst eo36 | (injection eo36 with f1_ f2_ f3_; have f4_ := f1_.symm; have f5_ := f3_.symm; clear f1_ f2_ f3_; subst f4_; subst f5_))
    obtain ⟨Ao38, co38, eo38⟩ := Kd.N_slice HO309.out
    (first | subst eo38 | (injection eo38 with f1_ f2_ f3_; have f4_ := f1_.symm; have f5_ := f3_.symm; clear f1_ f2_ f3_; subst f4_; subst f5_))
    refine hK.out _ _ ⟨(blk_cell BK289.out 0).trans rfl, (blk_cell BK289.out 1).trans rfl, (blk_cell BK290.out 0).trans rfl, (blk_cell BK290.out 1).trans rfl⟩ (fun hHeld => ?_); clear hK K
    refine norm_ (a' := ?_) ?_ ?_; rotate_left
    ·show Act.put _ (some 31) _ = _
     simp only [Act.put, List.setIfInBounds_toArray, List.set_cons_zero, List.set_cons_succ, i64_w, i32_w]; rfl
    refine last_ (i := 4) (N := none) #[true, true, true, true, true, false] rfl rfl (by kernel_rfl) (by decide) (fun K hK => ?_)
    have hs33 := gz BK289 0 rfl
    have hfs33 := blk_frozen BK289.out 0
    have hns33_1 := NB290_289.out
    have hns33_2 := NB291_289.out
    have hms33_1 := NB289_290.out
    have hms33_2 := NB289_291.out
    have hs35 := gz BK289 1 rfl
    have hfs35 := blk_frozen BK289.out 1
    have hns35_1 := NB290_289.out
    have hns35_2 := NB291_289.out
    have hms35_1 := NB289_290.out
    have hms35_2 := NB289_291.out
    refine skip_ (w1 := ?_) (by rfl) rfl ?_ ?_; rotate_left
    ·go_simp; rfl
    refine hK.out _ _ ?_; clear hK K
    refine last_ (i := 5) (N := none) #[true, true, true, true, true, true] rfl rfl (by kernel_rfl) (by decide) (fun K hK => ?_)
    have hs37 := gz BK290 0 rfl
    have hfs37 := blk_frozen BK290.out 0
    have hns37_0 := NB289_290.out
    have hns37_2 := NB291_290.out
    have hms37_0 := NB290_289.out
    have hms37_2 := NB290_291.out
    have hs39 := gz BK290 1 rfl
    have hfs39 := blk_frozen BK290.out 1
    have hns39_0 := NB289_290.out
    have hns39_2 := NB291_290.out
    have hms39_0 := NB290_289.out
    have hms39_2 := NB290_291.out
    refine skip_ (w1 := ?_) (by rfl) rfl ?_ ?_; rotate_left
    ·go_simp; rfl
    refine hK.out _ _ ?_; clear hK K
    refine done_ (by kernel_rfl) ?_
    go_upto_block 2 with (fail)
    go_cut [] (fun wc => ∃ (kq : Nat), Aside0 (pick_Dy.j3 kq a0 t298 t301 t304 t307 = some (r1, r2, r3)) ∧ Aside0 (kq ≤ k1) ∧ Aside0 (Kd.R (Kd.int .i64) 3 wc w.heap.size (fun k_ => (w.heap.size ≤ k_) ∧ some k_ ≠ ((.slice Ao36 t304.length co36) : Value).ownBlock) (.slice Ao32 t298.length co32) t298) ∧ Aside0 (Kd.N k45 45 wc w.heap.size (fun k_ => ((P1_0_ k_ ∨ P1_1_ k_ ∨ P2_0_ k_ ∨ P2_1_ k_) ∨ w.heap.size ≤ k_) ∧ some k_ ≠ ((.slice Ao32 t298.length co32) : Value).ownBlock ∧ some k_ ≠ ((.slice Ao36 t304.length co36) : Value).ownBlock ∧ some k_ ≠ ((.slice Ao38 t307.length co38) : Value).ownBlock ∧ k_ ≠ gb289 ∧ k_ ≠ gb290 ∧ k_ ≠ gb291) (.slice Ao34 t301.length co34) t301) ∧ Aside0 (Kd.R (Kd.int .i64) 3 wc w.heap.size (fun k_ => (w.heap.size ≤ k_) ∧ some k_ ≠ ((.slice Ao32 t298.length co32) : Value).ownBlock) (.slice Ao36 t304.length co36) t304) ∧ Aside0 (Kd.N k45 45 wc w.heap.size (fun k_ => ((P1_0_ k_ ∨ P1_1_ k_ ∨ P2_0_ k_ ∨ P2_1_ k_) ∨ w.heap.size ≤ k_) ∧ some k_ ≠ ((.slice Ao32 t298.length co32) : Value).ownBlock ∧ some k_ ≠ ((.slice Ao34 t301.length co34) : Value).ownBlock ∧ some k_ ≠ ((.slice Ao36 t304.length co36) : Value).ownBlock ∧ k_ ≠ gb289 ∧ k_ ≠ gb290 ∧ k_ ≠ gb291) (.slice Ao38 t307.length co38) t307) ∧ Aside0 (wc.heap[gb289]? = some (.cells #[(.slice Ao32 t298.length co32), (.slice Ao34 t301.length co34)] 25 (0, 0))) ∧ Aside0 (wc.heap[gb290]? = some (.cells #[(.slice Ao36 t304.length co36), (.slice Ao38 t307.length co38)] 25 (0, 0))) ∧ Aside0 (wc.heap[gb291]? = some (.cells #[(.slice none 0 0), (.slice none 0 0)] 25 (0, 0))) ∧ Aside0 (Below w.heap.size w wc))
    case first =>
     have H := HC28.out; clear HC28
     have HC40 := gA H
     clear H
     go_upto_if 34 with (fail)
     go_cut [34] (fun v34 wc => ∃ (kq : Nat) (x34_39 : Bool), v34 = .bool x34_39 ∧ Aside0 (pick_Dy.j1 kq a0 a0 x34_39 t298 t301 t304 t307 = some (r1, r2, r3)) ∧ Aside0 (kq ≤ k1) ∧ Aside0 (Kd.R (Kd.int .i64) 3 wc w.heap.size (fun k_ => (w.heap.size ≤ k_) ∧ some k_ ≠ ((.slice Ao36 t304.length co36) : Value).ownBlock) (.slice Ao32 t298.length co32) t298) ∧ Aside0 (Kd.N k45 45 wc w.heap.size (fun k_ => ((P1_0_ k_ ∨ P1_1_ k_ ∨ P2_0_ k_ ∨ P2_1_ k_) ∨ w.heap.size ≤ k_) ∧ some k_ ≠ ((.slice Ao32 t298.length co32) : Value).ownBlock ∧ some k_ ≠ ((.slice Ao36 t304.length co36) : Value).ownBlock ∧ some k_ ≠ ((.slice Ao38 t307.length co38) : Value).ownBlock ∧ k_ ≠ gb289 ∧ k_ ≠ gb290 ∧ k_ ≠ gb291) (.slice Ao34 t301.length co34) t301) ∧ Aside0 (Kd.R (Kd.int .i64) 3 wc w.heap.size (fun k_ => (w.heap.size ≤ k_) ∧ some k_ ≠ ((.slice Ao32 t298.length co32) : Value).ownBlock) (.slice Ao36 t304.length co36) t304) ∧ Aside0 (Kd.N k45 45 wc w.heap.size (fun k_ => ((P1_0_ k_ ∨ P1_1_ k_ ∨ P2_0_ k_ ∨ P2_1_ k_) ∨ w.heap.size ≤ k_) ∧ some k_ ≠ ((.slice Ao32 t298.length co32) : Value).ownBlock ∧ some k_ ≠ ((.slice Ao34 t301.length co34) : Value).ownBlock ∧ some k_ ≠ ((.slice Ao36 t304.length co36) : Value).ownBlock ∧ k_ ≠ gb289 ∧ k_ ≠ gb290 ∧ k_ ≠ gb291) (.slice Ao38 t307.length co38) t307) ∧ Aside0 (wc.heap[gb289]? = some (.cells #[(.slice Ao32 t298.length co32), (.slice Ao34 t301.length co34)] 25 (0, 0))) ∧ Aside0 (wc.heap[gb290]? = some (.cells #[(.slice Ao36 t304.length co36), (.slice Ao38 t307.length co38)] 25 (0, 0))) ∧ Aside0 (wc.heap[gb291]? = some (.cells #[(.slice none 0 0), (.slice none 0 0)] 25 (0, 0))) ∧ Aside0 (Below w.heap.size w wc))
     case first =>
      have H := HC40.out; clear HC40
      by_cases c41 : a0 = 46
      ·rw [if_pos c41] at H
       have c41b0 : (a0 == 46) = true := beq_iff_eq.mpr c41
       have c41b1 : (a0 != 46) = false := bne_eq_false_iff_eq.mpr c41
       clear c41
       (first | rw [c41b0] | rw [c41b1] | (simp only [i64_w, i32_w]; rw [c41b0]) | skip)
       have H' := gA H
       clear H
       go_wp2
       all_goals (go_meet; (case rel => exact ⟨_, ((a0 == 46)), (by first | rfl | (simp; done) | (simp [*]; done) | (exfalso; simp_all; done) | (exfalso; simp_all; omega)), H', ⟨by have := HK1.out; first | omega | exact Nat.le_refl _⟩, ⟨Kd.R_mono (Kd.R_far (p := ⟨gb290, 1, none⟩) (Kd.R_far (p := ⟨gb290, 0, none⟩) (Kd.R_far (p := ⟨gb289, 1, none⟩) (Kd.R_far (p := ⟨gb289, 0, none⟩) (Kd.R_types (Kd.R_types HO300.out BK289.out (by decide)) BK290.out (by decide)) (fun _ hk => hk.1.2) (.slice Ao32 t298.length co32)) (fun _ hk => hk.1.2) (.slice Ao34 t301.length co34)) (fun _ hk => hk.2) (.slice Ao36 t304.length co36)) (fun _ hk => hk.2) (.slice Ao38 t307.length co38)) (fun _ hk => by first | exact ⟨hk.1.1.1.1, hk.1.1.2⟩ | (simp_all; done))⟩, ⟨Kd.N_mono (Kd.N_far (p := ⟨gb290, 1, none⟩) (Kd.N_far (p := ⟨gb290, 0, none⟩) (Kd.N_far (p := ⟨gb289, 1, none⟩) (Kd.N_far (p := ⟨gb289, 0, none⟩) (Kd.N_mono (Kd.N_mono HO303.out (fun k_ hk => (⟨hk, hk.1.1.2.2.2.1⟩ : _ ∧ k_ ≠ gb289))) (fun k_ hk => (⟨hk, hk.1.1.1.2.2.2.2.1⟩ : _ ∧ k_ ≠ gb290))) (fun _ hk => hk.1.2) (.slice Ao32 t298.length co32)) (fun _ hk => hk.1.2) (.slice Ao34 t301.length co34)) (fun _ hk => hk.2) (.slice Ao36 t304.length co36)) (fun _ hk => hk.2) (.slice Ao38 t307.length co38)) (fun _ hk => by first | exact ⟨hk.1.1.1.1.1, ⟨hk.1.1.1.1.2.1, ⟨hk.1.1.1.2, ⟨hk.1.1.2, ⟨hk.1.1.1.1.2.2.2.1, ⟨hk.1.1.1.1.2.2.2.2.1, hk.1.1.1.1.2.2.2.2.2⟩⟩⟩⟩⟩⟩ | (simp_all; done))⟩, ⟨Kd.R_mono (Kd.R_far (p := ⟨gb290, 1, none⟩) (Kd.R_far (p := ⟨gb290, 0, none⟩) (Kd.R_far (p := ⟨gb289, 1, none⟩) (Kd.R_far (p := ⟨gb289, 0, none⟩) (Kd.R_types (Kd.R_types HO306.out BK289.out (by decide)) BK290.out (by decide)) (fun _ hk => hk.1.2) (.slice Ao32 t298.length co32)) (fun _ hk => hk.1.2) (.slice Ao34 t301.length co34)) (fun _ hk => hk.2) (.slice Ao36 t304.length co36)) (fun _ hk => hk.2) (.slice Ao38 t307.length co38)) (fun _ hk => by first | exact ⟨hk.1.1.1.1, hk.1.1.2⟩ | (simp_all; done))⟩, ⟨Kd.N_mono (Kd.N_far (p := ⟨gb290, 1, none⟩) (Kd.N_far (p := ⟨gb290, 0, none⟩) (Kd.N_far (p := ⟨gb289, 1, none⟩) (Kd.N_far (p := ⟨gb289, 0, none⟩) (Kd.N_mono (Kd.N_mono HO309.out (fun k_ hk => (⟨hk, hk.2.2.2.2.2.1⟩ : _ ∧ k_ ≠ gb289))) (fun k_ hk => (⟨hk, hk.1.2.2.2.2.2.2.1⟩ : _ ∧ k_ ≠ gb290))) (fun _ hk => hk.1.2) (.slice Ao32 t298.length co32)) (fun _ hk => hk.1.2) (.slice Ao34 t301.length co34)) (fun _ hk => hk.2) (.slice Ao36 t304.length co36)) (fun _ hk => hk.2) (.slice Ao38 t307.length co38)) (fun _ hk => by first | exact ⟨hk.1.1.1, ⟨hk.1.1.2.2.2.1, ⟨hk.1.1.2.2.2.2.1, ⟨hk.1.1.2.1, ⟨hk.1.1.2.2.2.2.2.1, ⟨hk.1.1.2.2.2.2.2.2.1, hk.1.1.2.2.2.2.2.2.2⟩⟩⟩⟩⟩⟩ | (simp_all; done))⟩, ⟨by (with_reducible repeat (first | refine blk_drewN ?_ _ | refine blk_drew ?_ | refine blk_alloc ?_ _)); refine blk_far ?_ NB289_290.out _; (with_reducible repeat (first | refine blk_drewN ?_ _ | refine blk_drew ?_ | refine blk_alloc ?_ _)); refine blk_far ?_ NB289_290.out _; (with_reducible repeat (first | refine blk_drewN ?_ _ | refine blk_drew ?_ | refine blk_alloc ?_ _)); refine blk_put (cs := #[.slice Ao32 t298.length co32, .slice A1_1 l1_1.length c1_1]) ?_ 1 _ rfl; (with_reducible repeat (first | refine blk_drewN ?_ _ | refine blk_drew ?_ | refine blk_alloc ?_ _)); refine blk_put (cs := #[.slice A1_0 l1_0.length c1_0, .slice A1_1 l1_1.length c1_1]) ?_ 0 _ rfl; exact gK BK289⟩, ⟨by (with_reducible repeat (first | refine blk_drewN ?_ _ | refine blk_drew ?_ | refine blk_alloc ?_ _)); refine blk_put (cs := #[.slice Ao36 t304.length co36, .slice A2_1 l2_1.length c2_1]) ?_ 1 _ rfl; (with_reducible repeat (first | refine blk_drewN ?_ _ | refine blk_drew ?_ | refine blk_alloc ?_ _)); refine blk_put (cs := #[.slice A2_0 l2_0.length c2_0, .slice A2_1 l2_1.length c2_1]) ?_ 0 _ rfl; (with_reducible repeat (first | refine blk_drewN ?_ _ | refine blk_drew ?_ | refine blk_alloc ?_ _)); refine blk_far ?_ NB290_289.out _; (with_reducible repeat (first | refine blk_drewN ?_ _ | refine blk_drew ?_ | refine blk_alloc ?_ _)); refine blk_far ?_ NB290_289.out _; exact gK BK290⟩, ⟨by (with_reducible repeat (first | refine blk_drewN ?_ _ | refine blk_drew ?_ | refine blk_alloc ?_ _)); refine blk_far ?_ NB291_290.out _; (with_reducible repeat (first | refine blk_drewN ?_ _ | refine blk_drew ?_ | refine blk_alloc ?_ _)); refine blk_far ?_ NB291_290.out _; (with_reducible repeat (first | refine blk_drewN ?_ _ | refine blk_drew ?_ | refine blk_alloc ?_ _)); refine blk_far ?_ NB291_289.out _; (with_reducible repeat (first | refine blk_drewN ?_ _ | refine blk_drew ?_ | refine blk_alloc ?_ _)); refine blk_far ?_ NB291_289.out _; exact gK BK291⟩, ⟨by repeat first | exact gB HB | refine below_set ?_ GE289.out | refine below_set ?_ GE290.out | refine below_set ?_ GE291.out⟩⟩))
      ·rw [if_neg c41] at H
       have c41b0 : (a0 == 46) = false := beq_eq_false_iff_ne.mpr c41
       have c41b1 : (a0 != 46) = true := bne_iff_ne.mpr c41
       (first | rw [c41b0] | rw [c41b1] | (simp only [i64_w, i32_w]; rw [c41b0]) | skip)
       have H' := gA H
       clear H
       go_wp2
       all_goals (go_meet; (case rel => exact ⟨_, ((a0 == 47)), (by first | rfl | (simp; done) | (simp [*]; done) | (exfalso; simp_all; done) | (exfalso; simp_all; omega)), H', ⟨by have := HK1.out; first | omega | exact Nat.le_refl _⟩, ⟨Kd.R_mono (Kd.R_far (p := ⟨gb290, 1, none⟩) (Kd.R_far (p := ⟨gb290, 0, none⟩) (Kd.R_far (p := ⟨gb289, 1, none⟩) (Kd.R_far (p := ⟨gb289, 0, none⟩) (Kd.R_types (Kd.R_types HO300.out BK289.out (by decide)) BK290.out (by decide)) (fun _ hk => hk.1.2) (.slice Ao32 t298.length co32)) (fun _ hk => hk.1.2) (.slice Ao34 t301.length co34)) (fun _ hk => hk.2) (.slice Ao36 t304.length co36)) (fun _ hk => hk.2) (.slice Ao38 t307.length co38)) (fun _ hk => by first | exact ⟨hk.1.1.1.1, hk.1.1.2⟩ | (simp_all; done))⟩, ⟨Kd.N_mono (Kd.N_far (p := ⟨gb290, 1, none⟩) (Kd.N_far (p := ⟨gb290, 0, none⟩) (Kd.N_far (p := ⟨gb289, 1, none⟩) (Kd.N_far (p := ⟨gb289, 0, none⟩) (Kd.N_mono (Kd.N_mono HO303.out (fun k_ hk => (⟨hk, hk.1.1.2.2.2.1⟩ : _ ∧ k_ ≠ gb289))) (fun k_ hk => (⟨hk, hk.1.1.1.2.2.2.2.1⟩ : _ ∧ k_ ≠ gb290))) (fun _ hk => hk.1.2) (.slice Ao32 t298.length co32)) (fun _ hk => hk.1.2) (.slice Ao34 t301.length co34)) (fun _ hk => hk.2) (.slice Ao36 t304.length co36)) (fun _ hk => hk.2) (.slice Ao38 t307.length co38)) (fun _ hk => by first | exact ⟨hk.1.1.1.1.1, ⟨hk.1.1.1.1.2.1, ⟨hk.1.1.1.2, ⟨hk.1.1.2, ⟨hk.1.1.1.1.2.2.2.1, ⟨hk.1.1.1.1.2.2.2.2.1, hk.1.1.1.1.2.2.2.2.2⟩⟩⟩⟩⟩⟩ | (simp_all; done))⟩, ⟨Kd.R_mono (Kd.R_far (p := ⟨gb290, 1, none⟩) (Kd.R_far (p := ⟨gb290, 0, none⟩) (Kd.R_far (p := ⟨gb289, 1, none⟩) (Kd.R_far (p := ⟨gb289, 0, none⟩) (Kd.R_types (Kd.R_types HO306.out BK289.out (by decide)) BK290.out (by decide)) (fun _ hk => hk.1.2) (.slice Ao32 t298.length co32)) (fun _ hk => hk.1.2) (.slice Ao34 t301.length co34)) (fun _ hk => hk.2) (.slice Ao36 t304.length co36)) (fun _ hk => hk.2) (.slice Ao38 t307.length co38)) (fun _ hk => by first | exact ⟨hk.1.1.1.1, hk.1.1.2⟩ | (simp_all; done))⟩, ⟨Kd.N_mono (Kd.N_far (p := ⟨gb290, 1, none⟩) (Kd.N_far (p := ⟨gb290, 0, none⟩) (Kd.N_far (p := ⟨gb289, 1, none⟩) (Kd.N_far (p := ⟨gb289, 0, none⟩) (Kd.N_mono (Kd.N_mono HO309.out (fun k_ hk => (⟨hk, hk.2.2.2.2.2.1⟩ : _ ∧ k_ ≠ gb289))) (fun k_ hk => (⟨hk, hk.1.2.2.2.2.2.2.1⟩ : _ ∧ k_ ≠ gb290))) (fun _ hk => hk.1.2) (.slice Ao32 t298.length co32)) (fun _ hk => hk.1.2) (.slice Ao34 t301.length co34)) (fun _ hk => hk.2) (.slice Ao36 t304.length co36)) (fun _ hk => hk.2) (.slice Ao38 t307.length co38)) (fun _ hk => by first | exact ⟨hk.1.1.1, ⟨hk.1.1.2.2.2.1, ⟨hk.1.1.2.2.2.2.1, ⟨hk.1.1.2.1, ⟨hk.1.1.2.2.2.2.2.1, ⟨hk.1.1.2.2.2.2.2.2.1, hk.1.1.2.2.2.2.2.2.2⟩⟩⟩⟩⟩⟩ | (simp_all; done))⟩, ⟨by (with_reducible repeat (first | refine blk_drewN ?_ _ | refine blk_drew ?_ | refine blk_alloc ?_ _)); refine blk_far ?_ NB289_290.out _; (with_reducible repeat (first | refine blk_drewN ?_ _ | refine blk_drew ?_ | refine blk_alloc ?_ _)); refine blk_far ?_ NB289_290.out _; (with_reducible repeat (first | refine blk_drewN ?_ _ | refine blk_drew ?_ | refine blk_alloc ?_ _)); refine blk_put (cs := #[.slice Ao32 t298.length co32, .slice A1_1 l1_1.length c1_1]) ?_ 1 _ rfl; (with_reducible repeat (first | refine blk_drewN ?_ _ | refine blk_drew ?_ | refine blk_alloc ?_ _)); refine blk_put (cs := #[.slice A1_0 l1_0.length c1_0, .slice A1_1 l1_1.length c1_1]) ?_ 0 _ rfl; exact gK BK289⟩, ⟨by (with_reducible repeat (first | refine blk_drewN ?_ _ | refine blk_drew ?_ | refine blk_alloc ?_ _)); refine blk_put (cs := #[.slice Ao36 t304.length co36, .slice A2_1 l2_1.length c2_1]) ?_ 1 _ rfl; (with_reducible repeat (first | refine blk_drewN ?_ _ | refine blk_drew ?_ | refine blk_alloc ?_ _)); refine blk_put (cs := #[.slice A2_0 l2_0.length c2_0, .slice A2_1 l2_1.length c2_1]) ?_ 0 _ rfl; (with_reducible repeat (first | refine blk_drewN ?_ _ | refine blk_drew ?_ | refine blk_alloc ?_ _)); refine blk_far ?_ NB290_289.out _; (with_reducible repeat (first | refine blk_drewN ?_ _ | refine blk_drew ?_ | refine blk_alloc ?_ _)); refine blk_far ?_ NB290_289.out _; exact gK BK290⟩, ⟨by (with_reducible repeat (first | refine blk_drewN ?_ _ | refine blk_drew ?_ | refine blk_alloc ?_ _)); refine blk_far ?_ NB291_290.out _; (with_reducible repeat (first | refine blk_drewN ?_ _ | refine blk_drew ?_ | refine blk_alloc ?_ _)); refine blk_far ?_ NB291_290.out _; (with_reducible repeat (first | refine blk_drewN ?_ _ | refine blk_drew ?_ | refine blk_alloc ?_ _)); refine blk_far ?_ NB291_289.out _; (with_reducible repeat (first | refine blk_drewN ?_ _ | refine blk_drew ?_ | refine blk_alloc ?_ _)); refine blk_far ?_ NB291_289.out _; exact gK BK291⟩, ⟨by repeat first | exact gB HB | refine below_set ?_ GE289.out | refine below_set ?_ GE290.out | refine below_set ?_ GE291.out⟩⟩))
     case rest =>
      clear HC40
      try clear c1
      try clear c2
      try clear p2
      try clear q2
      try clear hx2
      try clear c4
      try clear p6
      try clear c7
      try clear c8
      try clear c10
      try clear c11
      try clear c15
      try clear c15b0
      try clear c16
      try clear c16b0
      try clear c17
      try clear c17b0
      try clear c19
      try clear c19b0
      try clear c19b1
      try clear c20
      try clear c21
      try clear c22
      try clear c23
      try clear c29
      try clear p29
      try clear q29
      try clear hx29
      try clear c41
      try clear c41b0
      try clear c41b1
      try clear hcz11_0
      try clear hcz11_1
      try clear hcz24_0
      try clear hcz24_1
      try clear hcz9_0
      try clear hcz9_1
      try clear hfz11_0
      try clear hfz11_1
      try clear hfz24_0
      try clear hfz24_1
      try clear hfz9_0
      try clear hfz9_1
      try clear hx295_0
      try clear hx295_1
      try clear p2
      try clear p295
      try clear q295
      obtain ⟨kq, x34_39, rfl, HA, HJ39, HO_290000, HO_290001, HO_291000, HO_291001, BK289, BK290, BK291, HB⟩ := hcut
      cases kq with
      | zero => exact absurd HA.out (by simp [pick_Dy.j1])
      | succ kj39 =>
       have H := HA.out; clear HA
       simp only [pick_Dy.j1] at H
       by_cases c42 : x34_39 = true
       ·subst c42
        have H1 : (none) = some (r1, r2, r3) := by rw [if_pos rfl] at H; exact H
        clear H; have H := H1; clear H1
        exact absurd H (by simp)
       ·replace c42 := Bool.eq_false_iff.mpr c42
        subst c42
        have H1 : (if a0 = 52 then ((pick_from.f kj39 t298 t301 t304 t307).bind fun bt310 => (some (bt310.1, bt310.2.1, bt310.2.2))) else (if a0 = 53 then ((pick_from.f kj39 t304 t307 t298 t301).bind fun bt317 => (some (bt317.1, bt317.2.1, bt317.2.2))) else (if a0 = 50 then (pick_Dy.j2 kj39 a0 a0 (a0 == 50) t298 t301 t304 t307) else (pick_Dy.j2 kj39 a0 a0 (a0 == 51) t298 t301 t304 t307)))) = some (r1, r2, r3) := by rw [if_neg (show ¬ (false = true) by decide)] at H; exact H
        clear H; have H := H1; clear H1
        by_cases c43 : a0 = 52
        ·rw [if_pos c43] at H
         have c43b0 : (a0 == 52) = true := beq_iff_eq.mpr c43
         have c43b1 : (a0 != 52) = false := bne_eq_false_iff_eq.mpr c43
         clear c43
         replace H := Option.bind_eq_some_iff.mp H
         obtain ⟨⟨t310, t313, t316⟩, A440, H⟩ := H
         replace H : (some (t310, t313, t316)) = some (r1, r2, r3) := H
         have A44 := gA A440
         clear A440
         simp only [Option.some.injEq, Prod.mk.injEq] at H
         obtain ⟨rfl, rfl, rfl⟩ := H
         have hnb45 := NB289_290.out
         have hnc45 := NB290_289.out
         have hnb46 := NB289_291.out
         have hnc46 := NB291_289.out
         obtain ⟨hcz47_0, hcz47_1, hfz47_0, hfz47_1⟩ := gz2 BK289
         have hnb48 := NB290_291.out
         have hnc48 := NB291_290.out
         obtain ⟨hcz49_0, hcz49_1, hfz49_0, hfz49_1⟩ := gz2 BK290
         go_wp2_with (first | ((with_reducible refine gate_callee (f := 22) rfl ?_); refine goesL_ (some 48) rfl rfl Try.func22 (by kernel_rfl) rfl #[.agg #[.slice Ao32 t298.length co32, .slice Ao34 t301.length co34], .agg #[.slice Ao36 t304.length co36, .slice Ao38 t307.length co38]] rfl (by (try simp only [List.map_toArray, List.map_cons, List.map_nil]); first | done | rfl | (simp only [List.length_drop, List.length_take]; rfl)) ?_; (with_reducible refine (pick_from.calls kj39 _ _ t298 _ _ t301 _ _ t304 (fun k_ => (((P1_0_ k_ ∨ P1_1_ k_ ∨ P2_0_ k_ ∨ P2_1_ k_) ∨ w.heap.size ≤ k_) ∧ (some k_ ≠ (.slice Ao32 t298.length co32 : Value).ownBlock ∧ (some k_ ≠ (.slice Ao34 t301.length co34 : Value).ownBlock ∧ (some k_ ≠ (.slice Ao36 t304.length co36 : Value).ownBlock ∧ (k_ ≠ gb289 ∧ (k_ ≠ gb290 ∧ k_ ≠ gb291))))))) _ _ t307 t310 t313 t316 _ ?side1 ?side2 ?side3 ?side4 ?side5 ?side6 ?side7 A44.out).mono ?_); (case side1 => repeat (first | exact (Kd.R_reads' HO_290000.out).2.2 | (with_reducible refine Kd.C_alloc ?_ _) | (with_reducible refine Kd.C_drewN ?_ _) | (with_reducible refine Kd.C_drew ?_))); (case side2 => exact (Kd.R_reads' HO_290000.out).2.1); (case side3 => repeat (first | exact (Kd.N_reads' HO_290001.out).2.2 | (with_reducible refine Kd.C_alloc ?_ _) | (with_reducible refine Kd.C_drewN ?_ _) | (with_reducible refine Kd.C_drew ?_))); (case side4 => exact (Kd.N_reads' HO_290001.out).2.1); (case side5 => repeat (first | exact (Kd.R_reads' HO_291000.out).2.2 | (with_reducible refine Kd.C_alloc ?_ _) | (with_reducible refine Kd.C_drewN ?_ _) | (with_reducible refine Kd.C_drew ?_))); (case side6 => exact (Kd.R_reads' HO_291000.out).2.1); (case side7 => exact Kd.N_V (HO_291001.out)); rintro e w50 ⟨v311, v314, rfl, ho0, ho1, hb⟩; refine ⟨_, rfl, ?_⟩; replace HO_291001 := gA (Kd.N_mono (Kd.N_told (Kd.N_told (Kd.N_old (gN HO_291001) hb) (Kd.R_base ho0)) (by first | exact Kd.N_base ho1 | exact Kd.R_base ho1)) (fun _ h_ => h_.1)); have HO312 := gA (Kd.R_lower (Kd.R_new' (Kd.R_new' (Kd.R_newM (M := fun k_ => (w.heap.size ≤ k_)) (Kd.R_mono (ok' := fun k_ => True) ho0 (fun _ hk_ => trivial)) (below_size (gB HB)) (fun k_ h_ => h_)) (Kd.R_lt (gR HO_290000))) (Kd.R_lt (gR HO_291000))) (below_size (gB HB))); have HO315 := gA (Kd.N_lower (Kd.N_mono (ok' := fun k_ => ((P1_0_ k_ ∨ P1_1_ k_ ∨ P2_0_ k_ ∨ P2_1_ k_) ∨ w.heap.size ≤ k_) ∧ some k_ ≠ (v311 : Value).ownBlock ∧ some k_ ≠ (.slice Ao32 t298.length co32 : Value).ownBlock ∧ some k_ ≠ (.slice Ao34 t301.length co34 : Value).ownBlock ∧ some k_ ≠ (.slice Ao36 t304.length co36 : Value).ownBlock ∧ k_ ≠ gb289 ∧ k_ ≠ gb290 ∧ k_ ≠ gb291) ho1 (fun k_ hk_ => ⟨Or.elim hk_.1 (fun hs_ => hs_.1) (fun hn_ => (.inr (Nat.le_trans (below_size (gB HB)) hn_))), hk_.2, Or.elim hk_.1 (fun hs_ => hs_.2.1) (fun hn_ => (Kd.fresh' (Kd.R_lt (gR HO_290000)) k_ hn_)), Or.elim hk_.1 (fun hs_ => hs_.2.2.1) (fun hn_ => (Kd.fresh' (Kd.N_lt (gN HO_290001)) k_ hn_)), Or.elim hk_.1 (fun hs_ => hs_.2.2.2.1) (fun hn_ => (Kd.fresh' (Kd.R_lt (gR HO_291000)) k_ hn_)), Or.elim hk_.1 (fun hs_ => hs_.2.2.2.2.1) (fun hn_ => (Kd.freshB (gK BK289) k_ hn_)), Or.elim hk_.1 (fun hs_ => hs_.2.2.2.2.2.1) (fun hn_ => (Kd.freshB (gK BK290) k_ hn_)), Or.elim hk_.1 (fun hs_ => hs_.2.2.2.2.2.2) (fun hn_ => (Kd.freshB (gK BK291) k_ hn_))⟩)) (below_size (gB HB))); replace HO_290000 := gA (Kd.R_elder' (gR HO_290000) (Kd.R_base ho0) hb); replace HO_290001 := gA (Kd.N_mono (Kd.N_told (Kd.N_told (Kd.N_old (gN HO_290001) hb) (Kd.R_base ho0)) (by first | exact Kd.N_base ho1 | exact Kd.R_base ho1)) (fun _ h_ => h_.1)); replace HO_291000 := gA (Kd.R_elder' (gR HO_291000) (Kd.R_base ho0) hb); replace BK289 := gA (blk_below (gK BK289) hb); replace BK290 := gA (blk_below (gK BK290) hb); replace BK291 := gA (blk_below (gK BK291) hb); replace HB := gA (below_step (gB HB) hb); (try clear hb); (try clear ho0); (try clear ho1); obtain ⟨Ao51, co51, eo51⟩ := Kd.R_slice HO312.out; subst eo51; obtain ⟨hcz52_0, hcz52_1, hfz52_0, hfz52_1⟩ := gz2 BK291; obtain ⟨Ao53, co53, eo53⟩ := Kd.N_slice HO315.out; subst eo53))
         refine bodyPost_ret (results_ct rfl _ _ gb291 25 #[.slice Ao51 t310.length co51, .slice Ao53 t313.length co53] (0, 0) _ rfl (by refine blk_put (cs := #[.slice Ao51 t310.length co51, .slice none 0 0]) ?_ 1 _ rfl; refine blk_put (cs := #[.slice none 0 0, .slice none 0 0]) ?_ 0 _ rfl; exact gK BK291) Try.underlying25 rfl (by kernel_rfl)) rfl ?_
         exact ⟨_, _, rfl, Kd.V_mono (Kd.R_V (Kd.R_mono (Kd.R_far (p := ⟨gb291, 1, none⟩) (Kd.R_far (p := ⟨gb291, 0, none⟩) (Kd.R_types HO312.out BK291.out (by decide)) (fun _ hk => hk.2) (.slice Ao51 t310.length co51)) (fun _ hk => hk.2) (.slice Ao53 t313.length co53)) (fun _ hk => hk.1.1.1.1))) (fun k_ hk => by first | exact ⟨(.inr (hk.1)), hk.2⟩ | exact (.inr (hk))), Kd.N_V (Kd.N_mono (Kd.N_far (p := ⟨gb291, 1, none⟩) (Kd.N_far (p := ⟨gb291, 0, none⟩) (Kd.N_mono HO315.out (fun k_ hk => (⟨hk, hk.2.2.2.2.2.2.2⟩ : _ ∧ k_ ≠ gb291))) (fun _ hk => hk.2) (.slice Ao51 t310.length co51)) (fun _ hk => hk.2) (.slice Ao53 t313.length co53)) (fun _ hk => hk.1.1)), by repeat first | exact gB HB | refine below_set ?_ GE289.out | refine below_set ?_ GE290.out | refine below_set ?_ GE291.out⟩
        ·rw [if_neg c43] at H
         have c43b0 : (a0 == 52) = false := beq_eq_false_iff_ne.mpr c43
         have c43b1 : (a0 != 52) = true := bne_iff_ne.mpr c43
         by_cases c54 : a0 = 53
         ·rw [if_pos c54] at H
          have c54b0 : (a0 == 53) = true := beq_iff_eq.mpr c54
          have c54b1 : (a0 != 53) = false := bne_eq_false_iff_eq.mpr c54
          clear c54
          replace H := Option.bind_eq_some_iff.mp H
          obtain ⟨⟨t317, t320, t323⟩, A550, H⟩ := H
          replace H : (some (t317, t320, t323)) = some (r1, r2, r3) := H
          have A55 := gA A550
          clear A550
          simp only [Option.some.injEq, Prod.mk.injEq] at H
          obtain ⟨rfl, rfl, rfl⟩ := H
          have hnb56 := NB290_289.out
          have hnc56 := NB289_290.out
          have hnb57 := NB290_291.out
          have hnc57 := NB291_290.out
          obtain ⟨hcz58_0, hcz58_1, hfz58_0, hfz58_1⟩ := gz2 BK290
          have hnb59 := NB289_291.out
          have hnc59 := NB291_289.out
          obtain ⟨hcz60_0, hcz60_1, hfz60_0, hfz60_1⟩ := gz2 BK289
          go_wp2_with (first | ((with_reducible refine gate_callee (f := 22) rfl ?_); refine goesL_ (some 55) rfl rfl Try.func22 (by kernel_rfl) rfl #[.agg #[.slice Ao36 t304.length co36, .slice Ao38 t307.length co38], .agg #[.slice Ao32 t298.length co32, .slice Ao34 t301.length co34]] rfl (by (try simp only [List.map_toArray, List.map_cons, List.map_nil]); first | done | rfl | (simp only [List.length_drop, List.length_take]; rfl)) ?_; (with_reducible refine (pick_from.calls kj39 _ _ t304 _ _ t307 _ _ t298 (fun k_ => (((P1_0_ k_ ∨ P1_1_ k_ ∨ P2_0_ k_ ∨ P2_1_ k_) ∨ w.heap.size ≤ k_) ∧ (some k_ ≠ (.slice Ao32 t298.length co32 : Value).ownBlock ∧ (some k_ ≠ (.slice Ao36 t304.length co36 : Value).ownBlock ∧ (some k_ ≠ (.slice Ao38 t307.length co38 : Value).ownBlock ∧ (k_ ≠ gb289 ∧ (k_ ≠ gb290 ∧ k_ ≠ gb291))))))) _ _ t301 t317 t320 t323 _ ?side1 ?side2 ?side3 ?side4 ?side5 ?side6 ?side7 A55.out).mono ?_); (case side1 => repeat (first | exact (Kd.R_reads' HO_291000.out).2.2 | (with_reducible refine Kd.C_alloc ?_ _) | (with_reducible refine Kd.C_drewN ?_ _) | (with_reducible refine Kd.C_drew ?_))); (case side2 => exact (Kd.R_reads' HO_291000.out).2.1); (case side3 => repeat (first | exact (Kd.N_reads' HO_291001.out).2.2 | (with_reducible refine Kd.C_alloc ?_ _) | (with_reducible refine Kd.C_drewN ?_ _) | (with_reducible refine Kd.C_drew ?_))); (case side4 => exact (Kd.N_reads' HO_291001.out).2.1); (case side5 => repeat (first | exact (Kd.R_reads' HO_290000.out).2.2 | (with_reducible refine Kd.C_alloc ?_ _) | (with_reducible refine Kd.C_drewN ?_ _) | (with_reducible refine Kd.C_drew ?_))); (case side6 => exact (Kd.R_reads' HO_290000.out).2.1); (case side7 => exact Kd.N_V (HO_290001.out)); rintro e w61 ⟨v318, v321, rfl, ho0, ho1, hb⟩; refine ⟨_, rfl, ?_⟩; replace HO_290001 := gA (Kd.N_mono (Kd.N_told (Kd.N_told (Kd.N_old (gN HO_290001) hb) (Kd.R_base ho0)) (by first | exact Kd.N_base ho1 | exact Kd.R_base ho1)) (fun _ h_ => h_.1)); have HO319 := gA (Kd.R_lower (Kd.R_new' (Kd.R_new' (Kd.R_newM (M := fun k_ => (w.heap.size ≤ k_)) (Kd.R_mono (ok' := fun k_ => True) ho0 (fun _ hk_ => trivial)) (below_size (gB HB)) (fun k_ h_ => h_)) (Kd.R_lt (gR HO_290000))) (Kd.R_lt (gR HO_291000))) (below_size (gB HB))); have HO322 := gA (Kd.N_lower (Kd.N_mono (ok' := fun k_ => ((P1_0_ k_ ∨ P1_1_ k_ ∨ P2_0_ k_ ∨ P2_1_ k_) ∨ w.heap.size ≤ k_) ∧ some k_ ≠ (v318 : Value).ownBlock ∧ some k_ ≠ (.slice Ao32 t298.length co32 : Value).ownBlock ∧ some k_ ≠ (.slice Ao36 t304.length co36 : Value).ownBlock ∧ some k_ ≠ (.slice Ao38 t307.length co38 : Value).ownBlock ∧ k_ ≠ gb289 ∧ k_ ≠ gb290 ∧ k_ ≠ gb291) ho1 (fun k_ hk_ => ⟨Or.elim hk_.1 (fun hs_ => hs_.1) (fun hn_ => (.inr (Nat.le_trans (below_size (gB HB)) hn_))), hk_.2, Or.elim hk_.1 (fun hs_ => hs_.2.1) (fun hn_ => (Kd.fresh' (Kd.R_lt (gR HO_290000)) k_ hn_)), Or.elim hk_.1 (fun hs_ => hs_.2.2.1) (fun hn_ => (Kd.fresh' (Kd.R_lt (gR HO_291000)) k_ hn_)), Or.elim hk_.1 (fun hs_ => hs_.2.2.2.1) (fun hn_ => (Kd.fresh' (Kd.N_lt (gN HO_291001)) k_ hn_)), Or.elim hk_.1 (fun hs_ => hs_.2.2.2.2.1) (fun hn_ => (Kd.freshB (gK BK289) k_ hn_)), Or.elim hk_.1 (fun hs_ => hs_.2.2.2.2.2.1) (fun hn_ => (Kd.freshB (gK BK290) k_ hn_)), Or.elim hk_.1 (fun hs_ => hs_.2.2.2.2.2.2) (fun hn_ => (Kd.freshB (gK BK291) k_ hn_))⟩)) (below_size (gB HB))); replace HO_290000 := gA (Kd.R_elder' (gR HO_290000) (Kd.R_base ho0) hb); replace HO_291000 := gA (Kd.R_elder' (gR HO_291000) (Kd.R_base ho0) hb); replace HO_291001 := gA (Kd.N_mono (Kd.N_told (Kd.N_told (Kd.N_old (gN HO_291001) hb) (Kd.R_base ho0)) (by first | exact Kd.N_base ho1 | exact Kd.R_base ho1)) (fun _ h_ => h_.1)); replace BK289 := gA (blk_below (gK BK289) hb); replace BK290 := gA (blk_below (gK BK290) hb); replace BK291 := gA (blk_below (gK BK291) hb); replace HB := gA (below_step (gB HB) hb); (try clear hb); (try clear ho0); (try clear ho1); obtain ⟨Ao62, co62, eo62⟩ := Kd.R_slice HO319.out; subst eo62; obtain ⟨hcz63_0, hcz63_1, hfz63_0, hfz63_1⟩ := gz2 BK291; obtain ⟨Ao64, co64, eo64⟩ := Kd.N_slice HO322.out; subst eo64))
          refine bodyPost_ret (results_ct rfl _ _ gb291 25 #[.slice Ao62 t317.length co62, .slice Ao64 t320.length co64] (0, 0) _ rfl (by refine blk_put (cs := #[.slice Ao62 t317.length co62, .slice none 0 0]) ?_ 1 _ rfl; refine blk_put (cs := #[.slice none 0 0, .slice none 0 0]) ?_ 0 _ rfl; exact gK BK291) Try.underlying25 rfl (by kernel_rfl)) rfl ?_
          exact ⟨_, _, rfl, Kd.V_mono (Kd.R_V (Kd.R_mono (Kd.R_far (p := ⟨gb291, 1, none⟩) (Kd.R_far (p := ⟨gb291, 0, none⟩) (Kd.R_types HO319.out BK291.out (by decide)) (fun _ hk => hk.2) (.slice Ao62 t317.length co62)) (fun _ hk => hk.2) (.slice Ao64 t320.length co64)) (fun _ hk => hk.1.1.1.1))) (fun k_ hk => by first | exact ⟨(.inr (hk.1)), hk.2⟩ | exact (.inr (hk))), Kd.N_V (Kd.N_mono (Kd.N_far (p := ⟨gb291, 1, none⟩) (Kd.N_far (p := ⟨gb291, 0, none⟩) (Kd.N_mono HO322.out (fun k_ hk => (⟨hk, hk.2.2.2.2.2.2.2⟩ : _ ∧ k_ ≠ gb291))) (fun _ hk => hk.2) (.slice Ao62 t317.length co62)) (fun _ hk => hk.2) (.slice Ao64 t320.length co64)) (fun _ hk => hk.1.1)), by repeat first | exact gB HB | refine below_set ?_ GE289.out | refine below_set ?_ GE290.out | refine below_set ?_ GE291.out⟩
         ·rw [if_neg c54] at H
          have c54b0 : (a0 == 53) = false := beq_eq_false_iff_ne.mpr c54
          have c54b1 : (a0 != 53) = true := bne_iff_ne.mpr c54
          have HC65 := gA H
          clear H
          go_upto_if 58 with (fail)
          go_cut [58] (fun v58 wc => ∃ (kq : Nat) (x58_64 : Bool), v58 = .bool x58_64 ∧ Aside0 (pick_Dy.j2 kq a0 a0 x58_64 t298 t301 t304 t307 = some (r1, r2, r3)) ∧ Aside0 (kq ≤ kj39) ∧ Aside0 (Kd.R (Kd.int .i64) 3 wc w.heap.size (fun k_ => (w.heap.size ≤ k_) ∧ some k_ ≠ ((.slice Ao36 t304.length co36) : Value).ownBlock) (.slice Ao32 t298.length co32) t298) ∧ Aside0 (Kd.N k45 45 wc w.heap.size (fun k_ => ((P1_0_ k_ ∨ P1_1_ k_ ∨ P2_0_ k_ ∨ P2_1_ k_) ∨ w.heap.size ≤ k_) ∧ some k_ ≠ ((.slice Ao32 t298.length co32) : Value).ownBlock ∧ some k_ ≠ ((.slice Ao36 t304.length co36) : Value).ownBlock ∧ some k_ ≠ ((.slice Ao38 t307.length co38) : Value).ownBlock ∧ k_ ≠ gb289 ∧ k_ ≠ gb290 ∧ k_ ≠ gb291) (.slice Ao34 t301.length co34) t301) ∧ Aside0 (Kd.R (Kd.int .i64) 3 wc w.heap.size (fun k_ => (w.heap.size ≤ k_) ∧ some k_ ≠ ((.slice Ao32 t298.length co32) : Value).ownBlock) (.slice Ao36 t304.length co36) t304) ∧ Aside0 (Kd.N k45 45 wc w.heap.size (fun k_ => ((P1_0_ k_ ∨ P1_1_ k_ ∨ P2_0_ k_ ∨ P2_1_ k_) ∨ w.heap.size ≤ k_) ∧ some k_ ≠ ((.slice Ao32 t298.length co32) : Value).ownBlock ∧ some k_ ≠ ((.slice Ao34 t301.length co34) : Value).ownBlock ∧ some k_ ≠ ((.slice Ao36 t304.length co36) : Value).ownBlock ∧ k_ ≠ gb289 ∧ k_ ≠ gb290 ∧ k_ ≠ gb291) (.slice Ao38 t307.length co38) t307) ∧ Aside0 (wc.heap[gb289]? = some (.cells #[(.slice Ao32 t298.length co32), (.slice Ao34 t301.length co34)] 25 (0, 0))) ∧ Aside0 (wc.heap[gb290]? = some (.cells #[(.slice Ao36 t304.length co36), (.slice Ao38 t307.length co38)] 25 (0, 0))) ∧ Aside0 (wc.heap[gb291]? = some (.cells #[(.slice none 0 0), (.slice none 0 0)] 25 (0, 0))) ∧ Aside0 (Below w.heap.size w wc))
          case first =>
           have H := HC65.out; clear HC65
           by_cases c66 : a0 = 50
           ·rw [if_pos c66] at H
            have c66b0 : (a0 == 50) = true := beq_iff_eq.mpr c66
            have c66b1 : (a0 != 50) = false := bne_eq_false_iff_eq.mpr c66
            clear c66
            (first | rw [c66b0] | rw [c66b1] | (simp only [i64_w, i32_w]; rw [c66b0]) | skip)
            have H' := gA H
            clear H
            go_wp2
            all_goals (go_meet; (case rel => exact ⟨_, ((a0 == 50)), (by first | rfl | (simp; done) | (simp [*]; done) | (exfalso; simp_all; done) | (exfalso; simp_all; omega)), H', ⟨by have := HK1.out; have := HJ39.out; first | omega | exact Nat.le_refl _⟩, ⟨gR HO_290000⟩, ⟨gN HO_290001⟩, ⟨gR HO_291000⟩, ⟨gN HO_291001⟩, ⟨gK BK289⟩, ⟨gK BK290⟩, ⟨gK BK291⟩, ⟨gB HB⟩⟩))
           ·rw [if_neg c66] at H
            have c66b0 : (a0 == 50) = false := beq_eq_false_iff_ne.mpr c66
            have c66b1 : (a0 != 50) = true := bne_iff_ne.mpr c66
            (first | rw [c66b0] | rw [c66b1] | (simp only [i64_w, i32_w]; rw [c66b0]) | skip)
            have H' := gA H
            clear H
            go_wp2
            all_goals (go_meet; (case rel => exact ⟨_, ((a0 == 51)), (by first | rfl | (simp; done) | (simp [*]; done) | (exfalso; simp_all; done) | (exfalso; simp_all; omega)), H', ⟨by have := HK1.out; have := HJ39.out; first | omega | exact Nat.le_refl _⟩, ⟨gR HO_290000⟩, ⟨gN HO_290001⟩, ⟨gR HO_291000⟩, ⟨gN HO_291001⟩, ⟨gK BK289⟩, ⟨gK BK290⟩, ⟨gK BK291⟩, ⟨gB HB⟩⟩))
          case rest =>
           clear HC65
           try clear c1
           try clear c2
           try clear p2
           try clear q2
           try clear hx2
           try clear c4
           try clear c5
           try clear c6
           try clear p6
           try clear c7
           try clear c8
           try clear c10
           try clear c11
           try clear c15
           try clear c15b0
           try clear c16
           try clear c16b0
           try clear c17
           try clear c17b0
           try clear c19
           try clear c19b0
           try clear c19b1
           try clear c20
           try clear c21
           try clear c22
           try clear c23
           try clear c29
           try clear p29
           try clear q29
           try clear hx29
           try clear c41
           try clear c41b0
           try clear c41b1
           try clear c42
           try clear c43
           try clear c43b0
           try clear c43b1
           try clear c45
           try clear c46
           try clear c48
           try clear c54
           try clear c54b0
           try clear c54b1
           try clear c56
           try clear c57
           try clear c59
           try clear p64
           try clear c66
           try clear c66b0
           try clear c66b1
           try clear hcz11_0
           try clear hcz11_1
           try clear hcz24_0
           try clear hcz24_1
           try clear hcz47_0
           try clear hcz47_1
           try clear hcz49_0
           try clear hcz49_1
           try clear hcz52_0
           try clear hcz52_1
           try clear hcz58_0
           try clear hcz58_1
           try clear hcz60_0
           try clear hcz60_1
           try clear hcz63_0
           try clear hcz63_1
           try clear hcz9_0
           try clear hcz9_1
           try clear hfz11_0
           try clear hfz11_1
           try clear hfz24_0
           try clear hfz24_1
           try clear hfz47_0
           try clear hfz47_1
           try clear hfz49_0
           try clear hfz49_1
           try clear hfz52_0
           try clear hfz52_1
           try clear hfz58_0
           try clear hfz58_1
           try clear hfz60_0
           try clear hfz60_1
           try clear hfz63_0
           try clear hfz63_1
           try clear hfz9_0
           try clear hfz9_1
           try clear hx295_0
           try clear hx295_1
           try clear p2
           try clear p29
           try clear p295
           try clear p6
           try clear q2
           try clear q29
           try clear q295
           obtain ⟨kq, x58_64, rfl, HA, HJ64, HO_290000, HO_290001, HO_291000, HO_291001, BK289, BK290, BK291, HB⟩ := hcut
           cases kq with
           | zero => exact absurd HA.out (by simp [pick_Dy.j2])
           | succ kj64 =>
            have H := HA.out; clear HA
            simp only [pick_Dy.j2] at H
            by_cases c67 : x58_64 = true
            ·subst c67
             have H1 : (none) = some (r1, r2, r3) := by rw [if_pos rfl] at H; exact H
             clear H; have H := H1; clear H1
             exact absurd H (by simp)
            ·replace c67 := Bool.eq_false_iff.mpr c67
             subst c67
             have H1 : (if a0 = 42 then (pick_Dy.j3 kj64 a0 t298 t301 t304 t307) else (if a0 = 43 then (none) else (if a0 = 44 then (pick_Dy.j3 kj64 a0 t298 t301 t304 t307) else (if a0 = 45 then (pick_Dy.j3 kj64 a0 t298 t301 t304 t307) else (some (([] : List Int), ([] : List (S45)), 1)))))) = some (r1, r2, r3) := by rw [if_neg (show ¬ (false = true) by decide)] at H; exact H
             clear H; have H := H1; clear H1
             by_cases c68 : a0 = 42
             ·rw [if_pos c68] at H
              have c68b0 : (a0 == 42) = true := beq_iff_eq.mpr c68
              have c68b1 : (a0 != 42) = false := bne_eq_false_iff_eq.mpr c68
              clear c68
              have H' := gA H
              clear H
              go_wp2
              all_goals (go_meet; (case rel => exact ⟨_, H', ⟨by have := HK1.out; have := HJ39.out; have := HJ64.out; first | omega | exact Nat.le_refl _⟩, ⟨gR HO_290000⟩, ⟨gN HO_290001⟩, ⟨gR HO_291000⟩, ⟨gN HO_291001⟩, ⟨gK BK289⟩, ⟨gK BK290⟩, ⟨gK BK291⟩, ⟨gB HB⟩⟩))
             ·rw [if_neg c68] at H
              have c68b0 : (a0 == 42) = false := beq_eq_false_iff_ne.mpr c68
              have c68b1 : (a0 != 42) = true := bne_iff_ne.mpr c68
              obtain ⟨c69, H⟩ := iN H
              have c69b0 : (a0 == 43) = false := beq_eq_false_iff_ne.mpr c69
              have c69b1 : (a0 != 43) = true := bne_iff_ne.mpr c69
              by_cases c70 : a0 = 44
              ·rw [if_pos c70] at H
               have c70b0 : (a0 == 44) = true := beq_iff_eq.mpr c70
               have c70b1 : (a0 != 44) = false := bne_eq_false_iff_eq.mpr c70
               clear c70
               have H' := gA H
               clear H
               go_wp2
               all_goals (go_meet; (case rel => exact ⟨_, H', ⟨by have := HK1.out; have := HJ39.out; have := HJ64.out; first | omega | exact Nat.le_refl _⟩, ⟨gR HO_290000⟩, ⟨gN HO_290001⟩, ⟨gR HO_291000⟩, ⟨gN HO_291001⟩, ⟨gK BK289⟩, ⟨gK BK290⟩, ⟨gK BK291⟩, ⟨gB HB⟩⟩))
              ·rw [if_neg c70] at H
               have c70b0 : (a0 == 44) = false := beq_eq_false_iff_ne.mpr c70
               have c70b1 : (a0 != 44) = true := bne_iff_ne.mpr c70
               by_cases c71 : a0 = 45
               ·rw [if_pos c71] at H
                have c71b0 : (a0 == 45) = true := beq_iff_eq.mpr c71
                have c71b1 : (a0 != 45) = false := bne_eq_false_iff_eq.mpr c71
                clear c71
                have H' := gA H
                clear H
                go_wp2
                all_goals (go_meet; (case rel => exact ⟨_, H', ⟨by have := HK1.out; have := HJ39.out; have := HJ64.out; first | omega | exact Nat.le_refl _⟩, ⟨gR HO_290000⟩, ⟨gN HO_290001⟩, ⟨gR HO_291000⟩, ⟨gN HO_291001⟩, ⟨gK BK289⟩, ⟨gK BK290⟩, ⟨gK BK291⟩, ⟨gB HB⟩⟩))
               ·rw [if_neg c71] at H
                have c71b0 : (a0 == 45) = false := beq_eq_false_iff_ne.mpr c71
                have c71b1 : (a0 != 45) = true := bne_iff_ne.mpr c71
                simp only [Option.some.injEq, Prod.mk.injEq] at H
                obtain ⟨rfl, rfl, rfl⟩ := H
                have hnb72 := NB291_289.out
                have hnc72 := NB289_291.out
                have hnb73 := NB291_290.out
                have hnc73 := NB290_291.out
                obtain ⟨hcz74_0, hcz74_1, hfz74_0, hfz74_1⟩ := gz2 BK291
                go_wp2
                refine bodyPost_ret (results_ct rfl _ _ gb291 25 #[.slice none 0 0, .slice none 0 0] (0, 0) _ rfl (by refine blk_put (cs := #[.slice none 0 0, .slice none 0 0]) ?_ 1 _ rfl; refine blk_put (cs := #[.slice none 0 0, .slice none 0 0]) ?_ 0 _ rfl; exact gK BK291) Try.underlying25 rfl (by kernel_rfl)) rfl ?_
                exact ⟨_, _, rfl, by first | exact Kd.R_nil _ _ _ _ _ | exact Kd.N_nil _ _ _ _ _ | exact Kd.V_nil _ _ _ _ _ | exact Kd.Q_nil _ _ _ _ _ | exact Kd.S_nil _ _ _ _ _, by first | exact Kd.R_nil _ _ _ _ _ | exact Kd.N_nil _ _ _ _ _ | exact Kd.V_nil _ _ _ _ _ | exact Kd.Q_nil _ _ _ _ _ | exact Kd.S_nil _ _ _ _ _, by repeat first | exact gB HB | refine below_set ?_ GE289.out | refine below_set ?_ GE290.out | refine below_set ?_ GE291.out⟩
    case rest =>
     clear HC28
     try clear c1
     try clear c2
     try clear p2
     try clear q2
     try clear hx2
     try clear c4
     try clear c5
     try clear c6
     try clear p6
     try clear c7
     try clear c8
     try clear c10
     try clear c11
     try clear c15
     try clear c15b0
     try clear c16
     try clear c16b0
     try clear c17
     try clear c17b0
     try clear c19
     try clear c19b0
     try clear c19b1
     try clear c20
     try clear c21
     try clear c22
     try clear c23
     try clear c29
     try clear p29
     try clear q29
     try clear hx29
     try clear c41
     try clear c41b0
     try clear c41b1
     try clear c42
     try clear c43
     try clear c43b0
     try clear c43b1
     try clear c45
     try clear c46
     try clear c48
     try clear c54
     try clear c54b0
     try clear c54b1
     try clear c56
     try clear c57
     try clear c59
     try clear p64
     try clear c66
     try clear c66b0
     try clear c66b1
     try clear c67
     try clear c68
     try clear c68b0
     try clear c68b1
     try clear c69
     try clear c69b0
     try clear c69b1
     try clear c70
     try clear c70b0
     try clear c70b1
     try clear c71
     try clear c71b0
     try clear c71b1
     try clear c72
     try clear c73
     try clear hcz11_0
     try clear hcz11_1
     try clear hcz24_0
     try clear hcz24_1
     try clear hcz47_0
     try clear hcz47_1
     try clear hcz49_0
     try clear hcz49_1
     try clear hcz52_0
     try clear hcz52_1
     try clear hcz58_0
     try clear hcz58_1
     try clear hcz60_0
     try clear hcz60_1
     try clear hcz63_0
     try clear hcz63_1
     try clear hcz74_0
     try clear hcz74_1
     try clear hcz9_0
     try clear hcz9_1
     try clear hfz11_0
     try clear hfz11_1
     try clear hfz24_0
     try clear hfz24_1
     try clear hfz47_0
     try clear hfz47_1
     try clear hfz49_0
     try clear hfz49_1
     try clear hfz52_0
     try clear hfz52_1
     try clear hfz58_0
     try clear hfz58_1
     try clear hfz60_0
     try clear hfz60_1
     try clear hfz63_0
     try clear hfz63_1
     try clear hfz74_0
     try clear hfz74_1
     try clear hfz9_0
     try clear hfz9_1
     try clear hx295_0
     try clear hx295_1
     try clear p2
     try clear p29
     try clear p295
     try clear p6
     try clear p64
     try clear q2
     try clear q29
     try clear q295
     obtain ⟨kq, HA, HJ27, HO_290000, HO_290001, HO_291000, HO_291001, BK289, BK290, BK291, HB⟩ := hcut
     cases kq with
     | zero => exact absurd HA.out (by simp [pick_Dy.j3])
     | succ kj27 =>
      have H := HA.out; clear HA
      simp only [pick_Dy.j3] at H
      replace H := Option.bind_eq_some_iff.mp H
      obtain ⟨⟨t324, t325⟩, A750, H⟩ := H
      replace H : (if t325 = 0 then (if a0 = 42 then ((pick_take.f kj27 t324 t304 t307).bind fun bt326 => (some (bt326.1, bt326.2.1, bt326.2.2))) else (if a0 = 43 then (none) else (if a0 = 44 then ((pick_rotated.f kj27 t324 t304 t307 0).bind fun bt333 => (some (bt333.1, bt333.2, 0))) else ((pick_rotated.f kj27 t324 t304 t307 (wrap64 ((t304.length : Int) - 1))).bind fun bt339 => (some (bt339.1, bt339.2, 0)))))) else (none)) = some (r1, r2, r3) := H
      have A75 := gA A750
      clear A750
      obtain ⟨c76, H⟩ := iS H
      have c76b0 : (t325 == 0) = true := beq_iff_eq.mpr c76
      have c76b1 : (t325 != 0) = false := bne_eq_false_iff_eq.mpr c76
      clear c76
      by_cases c77 : a0 = 42
      ·rw [if_pos c77] at H
       have c77b0 : (a0 == 42) = true := beq_iff_eq.mpr c77
       have c77b1 : (a0 != 42) = false := bne_eq_false_iff_eq.mpr c77
       clear c77
       replace H := Option.bind_eq_some_iff.mp H
       obtain ⟨⟨t326, t329, t332⟩, A780, H⟩ := H
       replace H : (some (t326, t329, t332)) = some (r1, r2, r3) := H
       have A78 := gA A780
       clear A780
       simp only [Option.some.injEq, Prod.mk.injEq] at H
       obtain ⟨rfl, rfl, rfl⟩ := H
       have hnb79 := NB289_290.out
       have hnc79 := NB290_289.out
       have hnb80 := NB289_291.out
       have hnc80 := NB291_289.out
       obtain ⟨hcz81_0, hcz81_1, hfz81_0, hfz81_1⟩ := gz2 BK289
       go_wp2_with (first | ((with_reducible refine gate_callee (f := 24) rfl ?_); refine goesL_ (some 75) rfl rfl Try.func24 (by kernel_rfl) rfl #[.agg #[.slice Ao32 t298.length co32, .slice Ao34 t301.length co34]] rfl (by (try simp only [List.map_toArray, List.map_cons, List.map_nil]); first | done | rfl | (simp only [List.length_drop, List.length_take]; rfl)) ?_; (with_reducible refine (pick_number.calls _ _ t298 _ _ t301 t324 t325 _ ?side1 ?side2 ?side3 ?side4 A75.out).mono ?_); (case side1 => repeat (first | exact (Kd.R_reads' HO_290000.out).2.2 | (with_reducible refine Kd.C_alloc ?_ _) | (with_reducible refine Kd.C_drewN ?_ _) | (with_reducible refine Kd.C_drew ?_))); (case side2 => exact (Kd.R_reads' HO_290000.out).2.1); (case side3 => repeat (first | exact (Kd.N_reads' HO_290001.out).2.2 | (with_reducible refine Kd.C_alloc ?_ _) | (with_reducible refine Kd.C_drewN ?_ _) | (with_reducible refine Kd.C_drew ?_))); (case side4 => exact (Kd.N_reads' HO_290001.out).2.1); rintro e w82 ⟨rfl, hb⟩; refine ⟨_, rfl, ?_⟩; replace HO_290000 := gA (Kd.R_below (gR HO_290000) hb); replace HO_290001 := gA (Kd.N_below (gN HO_290001) hb); replace HO_291000 := gA (Kd.R_below (gR HO_291000) hb); replace HO_291001 := gA (Kd.N_below (gN HO_291001) hb); replace BK289 := gA (blk_below (gK BK289) hb); replace BK290 := gA (blk_below (gK BK290) hb); replace BK291 := gA (blk_below (gK BK291) hb); replace HB := gA (below_step (gB HB) hb); (try clear hb); have hnb83 := NB290_291.out; have hnc83 := NB291_290.out; obtain ⟨hcz84_0, hcz84_1, hfz84_0, hfz84_1⟩ := gz2 BK290) | ((with_reducible refine gate_callee (f := 25) rfl ?_); refine goesL_ (some 88) rfl rfl Try.func25 (by kernel_rfl) rfl #[.int .i64 t324, .agg #[.slice Ao36 t304.length co36, .slice Ao38 t307.length co38]] rfl (by (try simp only [List.map_toArray, List.map_cons, List.map_nil]); first | done | rfl | (simp only [List.length_drop, List.length_take]; rfl)) ?_; (with_reducible refine (pick_take.calls kj27 t324 (fun k_ => some k_ = (.slice Ao36 t304.length co36 : Value).ownBlock) _ _ t304 (fun k_ => (((P1_0_ k_ ∨ P1_1_ k_ ∨ P2_0_ k_ ∨ P2_1_ k_) ∨ w.heap.size ≤ k_) ∧ (some k_ ≠ (.slice Ao32 t298.length co32 : Value).ownBlock ∧ (some k_ ≠ (.slice Ao34 t301.length co34 : Value).ownBlock ∧ (some k_ ≠ (.slice Ao36 t304.length co36 : Value).ownBlock ∧ (k_ ≠ gb289 ∧ (k_ ≠ gb290 ∧ k_ ≠ gb291))))))) _ _ t307 t326 t329 t332 _ ?side1 ?side2 A78.out).mono ?_); (case side1 => exact Kd.R_V (Kd.R_tight rfl (Kd.R_types (Kd.R_types (Kd.R_types (Kd.R_apart' (Kd.R_apart' (HO_291000.out) (Kd.N_typed HO_290001.out) (by decide)) (Kd.N_typed HO_291001.out) (by decide)) BK289.out (by decide)) BK290.out (by decide)) BK291.out (by decide)))); (case side2 => exact Kd.N_V (HO_291001.out)); rintro e w85 ⟨v327, v330, rfl, ho0, ho1, hb⟩; refine ⟨_, rfl, ?_⟩; have HO328 := gA (Kd.R_lower (Kd.R_new' (Kd.R_new' (Kd.R_newM (M := fun k_ => (w.heap.size ≤ k_)) (Kd.R_mono (ok' := fun k_ => True) ho0 (fun _ hk_ => trivial)) (below_size (gB HB)) (fun k_ h_ => h_)) (Kd.R_lt (gR HO_290000))) (Kd.R_lt (gR HO_291000))) (below_size (gB HB))); have HO331 := gA (Kd.N_lower (Kd.N_mono (ok' := fun k_ => ((P1_0_ k_ ∨ P1_1_ k_ ∨ P2_0_ k_ ∨ P2_1_ k_) ∨ w.heap.size ≤ k_) ∧ some k_ ≠ (v327 : Value).ownBlock ∧ some k_ ≠ (.slice Ao32 t298.length co32 : Value).ownBlock ∧ some k_ ≠ (.slice Ao34 t301.length co34 : Value).ownBlock ∧ k_ ≠ gb289 ∧ k_ ≠ gb290 ∧ k_ ≠ gb291) ho1 (fun k_ hk_ => have y1_ := (Kd.R_types (Kd.R_types (Kd.R_types (Kd.R_apart' (Kd.R_apart' (HO_291000.out) (Kd.N_typed HO_290001.out) (by decide)) (Kd.N_typed HO_291001.out) (by decide)) BK289.out (by decide)) BK290.out (by decide)) BK291.out (by decide)).1 k_; ⟨Or.elim hk_.1 (fun hs_ => Or.elim hs_ (fun hs_ => (.inr ((y1_ hs_.symm).1.1.1.1.1.1))) (fun hs_ => hs_.1)) (fun hn_ => (.inr (Nat.le_trans (below_size (gB HB)) hn_))), hk_.2, Or.elim hk_.1 (fun hs_ => Or.elim hs_ (fun hs_ => (y1_ hs_.symm).1.1.1.1.1.2) (fun hs_ => hs_.2.1)) (fun hn_ => (Kd.fresh' (Kd.R_lt (gR HO_290000)) k_ hn_)), Or.elim hk_.1 (fun hs_ => Or.elim hs_ (fun hs_ => (y1_ hs_.symm).1.1.1.1.2) (fun hs_ => hs_.2.2.1)) (fun hn_ => (Kd.fresh' (Kd.N_lt (gN HO_290001)) k_ hn_)), Or.elim hk_.1 (fun hs_ => Or.elim hs_ (fun hs_ => (y1_ hs_.symm).1.1.2) (fun hs_ => hs_.2.2.2.2.1)) (fun hn_ => (Kd.freshB (gK BK289) k_ hn_)), Or.elim hk_.1 (fun hs_ => Or.elim hs_ (fun hs_ => (y1_ hs_.symm).1.2) (fun hs_ => hs_.2.2.2.2.2.1)) (fun hn_ => (Kd.freshB (gK BK290) k_ hn_)), Or.elim hk_.1 (fun hs_ => Or.elim hs_ (fun hs_ => (y1_ hs_.symm).2) (fun hs_ => hs_.2.2.2.2.2.2)) (fun hn_ => (Kd.freshB (gK BK291) k_ hn_))⟩)) (below_size (gB HB))); replace HO_290000 := gA (Kd.R_elder' (gR HO_290000) (Kd.R_base ho0) hb); replace HO_290001 := gA (Kd.N_mono (Kd.N_told (Kd.N_told (Kd.N_old (gN HO_290001) hb) (Kd.R_base ho0)) (by first | exact Kd.N_base ho1 | exact Kd.R_base ho1)) (fun _ h_ => h_.1)); replace HO_291000 := gA (Kd.R_elder' (gR HO_291000) (Kd.R_base ho0) hb); replace HO_291001 := gA (Kd.N_mono (Kd.N_told (Kd.N_told (Kd.N_old (gN HO_291001) hb) (Kd.R_base ho0)) (by first | exact Kd.N_base ho1 | exact Kd.R_base ho1)) (fun _ h_ => h_.1)); replace BK289 := gA (blk_below (gK BK289) hb); replace BK290 := gA (blk_below (gK BK290) hb); replace BK291 := gA (blk_below (gK BK291) hb); replace HB := gA (below_step (gB HB) hb); (try clear hb); (try clear ho0); (try clear ho1); obtain ⟨Ao86, co86, eo86⟩ := Kd.R_slice HO328.out; subst eo86; obtain ⟨hcz87_0, hcz87_1, hfz87_0, hfz87_1⟩ := gz2 BK291; obtain ⟨Ao88, co88, eo88⟩ := Kd.N_slice HO331.out; subst eo88))
       refine bodyPost_ret (results_ct rfl _ _ gb291 25 #[.slice Ao86 t326.length co86, .slice Ao88 t329.length co88] (0, 0) _ rfl (by refine blk_put (cs := #[.slice Ao86 t326.length co86, .slice none 0 0]) ?_ 1 _ rfl; refine blk_put (cs := #[.slice none 0 0, .slice none 0 0]) ?_ 0 _ rfl; exact gK BK291) Try.underlying25 rfl (by kernel_rfl)) rfl ?_
       exact ⟨_, _, rfl, Kd.V_mono (Kd.R_V (Kd.R_mono (Kd.R_far (p := ⟨gb291, 1, none⟩) (Kd.R_far (p := ⟨gb291, 0, none⟩) (Kd.R_types HO328.out BK291.out (by decide)) (fun _ hk => hk.2) (.slice Ao86 t326.length co86)) (fun _ hk => hk.2) (.slice Ao88 t329.length co88)) (fun _ hk => hk.1.1.1.1))) (fun k_ hk => by first | exact ⟨(.inr (hk.1)), hk.2⟩ | exact (.inr (hk))), Kd.N_V (Kd.N_mono (Kd.N_far (p := ⟨gb291, 1, none⟩) (Kd.N_far (p := ⟨gb291, 0, none⟩) (Kd.N_mono HO331.out (fun k_ hk => (⟨hk, hk.2.2.2.2.2.2⟩ : _ ∧ k_ ≠ gb291))) (fun _ hk => hk.2) (.slice Ao86 t326.length co86)) (fun _ hk => hk.2) (.slice Ao88 t329.length co88)) (fun _ hk => hk.1.1)), by repeat first | exact gB HB | refine below_set ?_ GE289.out | refine below_set ?_ GE290.out | refine below_set ?_ GE291.out⟩
      ·rw [if_neg c77] at H
       have c77b0 : (a0 == 42) = false := beq_eq_false_iff_ne.mpr c77
       have c77b1 : (a0 != 42) = true := bne_iff_ne.mpr c77
       obtain ⟨c89, H⟩ := iN H
       have c89b0 : (a0 == 43) = false := beq_eq_false_iff_ne.mpr c89
       have c89b1 : (a0 != 43) = true := bne_iff_ne.mpr c89
       by_cases c90 : a0 = 44
       ·rw [if_pos c90] at H
        have c90b0 : (a0 == 44) = true := beq_iff_eq.mpr c90
        have c90b1 : (a0 != 44) = false := bne_eq_false_iff_eq.mpr c90
        clear c90
        replace H := Option.bind_eq_some_iff.mp H
        obtain ⟨⟨t333, t336⟩, A910, H⟩ := H
        replace H : (some (t333, t336, 0)) = some (r1, r2, r3) := H
        have A91 := gA A910
        clear A910
        simp only [Option.some.injEq, Prod.mk.injEq] at H
        obtain ⟨rfl, rfl, rfl⟩ := H
        have hnb92 := NB289_290.out
        have hnc92 := NB290_289.out
        have hnb93 := NB289_291.out
        have hnc93 := NB291_289.out
        obtain ⟨hcz94_0, hcz94_1, hfz94_0, hfz94_1⟩ := gz2 BK289
        go_wp2_with (first | ((with_reducible refine gate_callee (f := 24) rfl ?_); refine goesL_ (some 75) rfl rfl Try.func24 (by kernel_rfl) rfl #[.agg #[.slice Ao32 t298.length co32, .slice Ao34 t301.length co34]] rfl (by (try simp only [List.map_toArray, List.map_cons, List.map_nil]); first | done | rfl | (simp only [List.length_drop, List.length_take]; rfl)) ?_; (with_reducible refine (pick_number.calls _ _ t298 _ _ t301 t324 t325 _ ?side1 ?side2 ?side3 ?side4 A75.out).mono ?_); (case side1 => repeat (first | exact (Kd.R_reads' HO_290000.out).2.2 | (with_reducible refine Kd.C_alloc ?_ _) | (with_reducible refine Kd.C_drewN ?_ _) | (with_reducible refine Kd.C_drew ?_))); (case side2 => exact (Kd.R_reads' HO_290000.out).2.1); (case side3 => repeat (first | exact (Kd.N_reads' HO_290001.out).2.2 | (with_reducible refine Kd.C_alloc ?_ _) | (with_reducible refine Kd.C_drewN ?_ _) | (with_reducible refine Kd.C_drew ?_))); (case side4 => exact (Kd.N_reads' HO_290001.out).2.1); rintro e w95 ⟨rfl, hb⟩; refine ⟨_, rfl, ?_⟩; replace HO_290000 := gA (Kd.R_below (gR HO_290000) hb); replace HO_290001 := gA (Kd.N_below (gN HO_290001) hb); replace HO_291000 := gA (Kd.R_below (gR HO_291000) hb); replace HO_291001 := gA (Kd.N_below (gN HO_291001) hb); replace BK289 := gA (blk_below (gK BK289) hb); replace BK290 := gA (blk_below (gK BK290) hb); replace BK291 := gA (blk_below (gK BK291) hb); replace HB := gA (below_step (gB HB) hb); (try clear hb); have hnb96 := NB290_291.out; have hnc96 := NB291_290.out; obtain ⟨hcz97_0, hcz97_1, hfz97_0, hfz97_1⟩ := gz2 BK290) | ((with_reducible refine gate_callee (f := 27) rfl ?_); refine goesL_ (some 102) rfl rfl Try.func27 (by kernel_rfl) rfl #[.int .i64 t324, .agg #[.slice Ao36 t304.length co36, .slice Ao38 t307.length co38], .int .i64 0] rfl (by (try simp only [List.map_toArray, List.map_cons, List.map_nil]); first | done | rfl | (simp only [List.length_drop, List.length_take]; rfl)) ?_; (with_reducible refine (pick_rotated.calls kj27 t324 (fun k_ => some k_ = (.slice Ao36 t304.length co36 : Value).ownBlock) _ _ t304 (fun k_ => (((P1_0_ k_ ∨ P1_1_ k_ ∨ P2_0_ k_ ∨ P2_1_ k_) ∨ w.heap.size ≤ k_) ∧ (some k_ ≠ (.slice Ao32 t298.length co32 : Value).ownBlock ∧ (some k_ ≠ (.slice Ao34 t301.length co34 : Value).ownBlock ∧ (some k_ ≠ (.slice Ao36 t304.length co36 : Value).ownBlock ∧ (k_ ≠ gb289 ∧ (k_ ≠ gb290 ∧ k_ ≠ gb291))))))) _ _ t307 0 t333 t336 _ ?side1 ?side2 A91.out).mono ?_); (case side1 => exact Kd.R_V (Kd.R_tight rfl (Kd.R_types (Kd.R_types (Kd.R_types (Kd.R_apart' (Kd.R_apart' (HO_291000.out) (Kd.N_typed HO_290001.out) (by decide)) (Kd.N_typed HO_291001.out) (by decide)) BK289.out (by decide)) BK290.out (by decide)) BK291.out (by decide)))); (case side2 => exact Kd.N_V (HO_291001.out)); rintro e w98 ⟨v334, v337, rfl, ho0, ho1, hb⟩; refine ⟨_, rfl, ?_⟩; have HO335 := gA (Kd.V_lower (Kd.V_mono (ok' := fun k_ => ((P1_0_ k_ ∨ P1_1_ k_ ∨ P2_0_ k_ ∨ P2_1_ k_) ∨ w.heap.size ≤ k_) ∧ some k_ ≠ (.slice Ao32 t298.length co32 : Value).ownBlock ∧ some k_ ≠ (.slice Ao34 t301.length co34 : Value).ownBlock ∧ k_ ≠ gb289 ∧ k_ ≠ gb290 ∧ k_ ≠ gb291) ho0 (fun k_ hk_ => have y1_ := (Kd.R_types (Kd.R_types (Kd.R_types (Kd.R_apart' (Kd.R_apart' (HO_291000.out) (Kd.N_typed HO_290001.out) (by decide)) (Kd.N_typed HO_291001.out) (by decide)) BK289.out (by decide)) BK290.out (by decide)) BK291.out (by decide)).1 k_; ⟨Or.elim hk_ (fun hs_ => Or.elim hs_ (fun hs_ => (.inr ((y1_ hs_.symm).1.1.1.1.1.1))) (fun hs_ => hs_.1)) (fun hn_ => (.inr (Nat.le_trans (below_size (gB HB)) hn_))), Or.elim hk_ (fun hs_ => Or.elim hs_ (fun hs_ => (y1_ hs_.symm).1.1.1.1.1.2) (fun hs_ => hs_.2.1)) (fun hn_ => (Kd.fresh' (Kd.R_lt (gR HO_290000)) k_ hn_)), Or.elim hk_ (fun hs_ => Or.elim hs_ (fun hs_ => (y1_ hs_.symm).1.1.1.1.2) (fun hs_ => hs_.2.2.1)) (fun hn_ => (Kd.fresh' (Kd.N_lt (gN HO_290001)) k_ hn_)), Or.elim hk_ (fun hs_ => Or.elim hs_ (fun hs_ => (y1_ hs_.symm).1.1.2) (fun hs_ => hs_.2.2.2.2.1)) (fun hn_ => (Kd.freshB (gK BK289) k_ hn_)), Or.elim hk_ (fun hs_ => Or.elim hs_ (fun hs_ => (y1_ hs_.symm).1.2) (fun hs_ => hs_.2.2.2.2.2.1)) (fun hn_ => (Kd.freshB (gK BK290) k_ hn_)), Or.elim hk_ (fun hs_ => Or.elim hs_ (fun hs_ => (y1_ hs_.symm).2) (fun hs_ => hs_.2.2.2.2.2.2)) (fun hn_ => (Kd.freshB (gK BK291) k_ hn_))⟩)) (below_size (gB HB))); have HO338 := gA (Kd.V_lower (Kd.V_mono (ok' := fun k_ => ((P1_0_ k_ ∨ P1_1_ k_ ∨ P2_0_ k_ ∨ P2_1_ k_) ∨ w.heap.size ≤ k_) ∧ some k_ ≠ (.slice Ao32 t298.length co32 : Value).ownBlock ∧ some k_ ≠ (.slice Ao34 t301.length co34 : Value).ownBlock ∧ k_ ≠ gb289 ∧ k_ ≠ gb290 ∧ k_ ≠ gb291) ho1 (fun k_ hk_ => have y1_ := (Kd.R_types (Kd.R_types (Kd.R_types (Kd.R_apart' (Kd.R_apart' (HO_291000.out) (Kd.N_typed HO_290001.out) (by decide)) (Kd.N_typed HO_291001.out) (by decide)) BK289.out (by decide)) BK290.out (by decide)) BK291.out (by decide)).1 k_; ⟨Or.elim hk_ (fun hs_ => Or.elim hs_ (fun hs_ => (.inr ((y1_ hs_.symm).1.1.1.1.1.1))) (fun hs_ => hs_.1)) (fun hn_ => (.inr (Nat.le_trans (below_size (gB HB)) hn_))), Or.elim hk_ (fun hs_ => Or.elim hs_ (fun hs_ => (y1_ hs_.symm).1.1.1.1.1.2) (fun hs_ => hs_.2.1)) (fun hn_ => (Kd.fresh' (Kd.R_lt (gR HO_290000)) k_ hn_)), Or.elim hk_ (fun hs_ => Or.elim hs_ (fun hs_ => (y1_ hs_.symm).1.1.1.1.2) (fun hs_ => hs_.2.2.1)) (fun hn_ => (Kd.fresh' (Kd.N_lt (gN HO_290001)) k_ hn_)), Or.elim hk_ (fun hs_ => Or.elim hs_ (fun hs_ => (y1_ hs_.symm).1.1.2) (fun hs_ => hs_.2.2.2.2.1)) (fun hn_ => (Kd.freshB (gK BK289) k_ hn_)), Or.elim hk_ (fun hs_ => Or.elim hs_ (fun hs_ => (y1_ hs_.symm).1.2) (fun hs_ => hs_.2.2.2.2.2.1)) (fun hn_ => (Kd.freshB (gK BK290) k_ hn_)), Or.elim hk_ (fun hs_ => Or.elim hs_ (fun hs_ => (y1_ hs_.symm).2) (fun hs_ => hs_.2.2.2.2.2.2)) (fun hn_ => (Kd.freshB (gK BK291) k_ hn_))⟩)) (below_size (gB HB))); replace HO_290000 := gA (Kd.R_below (gR HO_290000) hb); replace HO_290001 := gA (Kd.N_below (gN HO_290001) hb); replace HO_291000 := gA (Kd.R_below (gR HO_291000) hb); replace HO_291001 := gA (Kd.N_below (gN HO_291001) hb); replace BK289 := gA (blk_below (gK BK289) hb); replace BK290 := gA (blk_below (gK BK290) hb); replace BK291 := gA (blk_below (gK BK291) hb); replace HB := gA (below_step (gB HB) hb); (try clear hb); (try clear ho0); (try clear ho1); obtain ⟨Ao99, co99, eo99⟩ := Kd.V_slice HO335.out; subst eo99; obtain ⟨hcz100_0, hcz100_1, hfz100_0, hfz100_1⟩ := gz2 BK291; obtain ⟨Ao101, co101, eo101⟩ := Kd.V_slice HO338.out; subst eo101))
        refine bodyPost_ret (results_ct rfl _ _ gb291 25 #[.slice Ao99 t333.length co99, .slice Ao101 t336.length co101] (0, 0) _ rfl (by refine blk_put (cs := #[.slice Ao99 t333.length co99, .slice none 0 0]) ?_ 1 _ rfl; refine blk_put (cs := #[.slice none 0 0, .slice none 0 0]) ?_ 0 _ rfl; exact gK BK291) Try.underlying25 rfl (by kernel_rfl)) rfl ?_
        exact ⟨_, _, rfl, Kd.V_mono (Kd.V_far (p := ⟨gb291, 1, none⟩) (Kd.V_far (p := ⟨gb291, 0, none⟩) (Kd.V_mono HO335.out (fun k_ hk => (⟨hk, hk.2.2.2.2.2⟩ : _ ∧ k_ ≠ gb291))) (fun _ hk => hk.2) (.slice Ao99 t333.length co99)) (fun _ hk => hk.2) (.slice Ao101 t336.length co101)) (fun _ hk => hk.1.1), Kd.V_mono (Kd.V_far (p := ⟨gb291, 1, none⟩) (Kd.V_far (p := ⟨gb291, 0, none⟩) (Kd.V_mono HO338.out (fun k_ hk => (⟨hk, hk.2.2.2.2.2⟩ : _ ∧ k_ ≠ gb291))) (fun _ hk => hk.2) (.slice Ao99 t333.length co99)) (fun _ hk => hk.2) (.slice Ao101 t336.length co101)) (fun _ hk => hk.1.1), by repeat first | exact gB HB | refine below_set ?_ GE289.out | refine below_set ?_ GE290.out | refine below_set ?_ GE291.out⟩
       ·rw [if_neg c90] at H
        have c90b0 : (a0 == 44) = false := beq_eq_false_iff_ne.mpr c90
        have c90b1 : (a0 != 44) = true := bne_iff_ne.mpr c90
        replace H := Option.bind_eq_some_iff.mp H
        obtain ⟨⟨t339, t342⟩, A1020, H⟩ := H
        replace H : (some (t339, t342, 0)) = some (r1, r2, r3) := H
        have A102 := gA A1020
        clear A1020
        simp only [Option.some.injEq, Prod.mk.injEq] at H
        obtain ⟨rfl, rfl, rfl⟩ := H
        have hnb103 := NB289_290.out
        have hnc103 := NB290_289.out
        have hnb104 := NB289_291.out
        have hnc104 := NB291_289.out
        obtain ⟨hcz105_0, hcz105_1, hfz105_0, hfz105_1⟩ := gz2 BK289
        go_wp2_with (first | ((with_reducible refine gate_callee (f := 24) rfl ?_); refine goesL_ (some 75) rfl rfl Try.func24 (by kernel_rfl) rfl #[.agg #[.slice Ao32 t298.length co32, .slice Ao34 t301.length co34]] rfl (by (try simp only [List.map_toArray, List.map_cons, List.map_nil]); first | done | rfl | (simp only [List.length_drop, List.length_take]; rfl)) ?_; (with_reducible refine (pick_number.calls _ _ t298 _ _ t301 t324 t325 _ ?side1 ?side2 ?side3 ?side4 A75.out).mono ?_); (case side1 => repeat (first | exact (Kd.R_reads' HO_290000.out).2.2 | (with_reducible refine Kd.C_alloc ?_ _) | (with_reducible refine Kd.C_drewN ?_ _) | (with_reducible refine Kd.C_drew ?_))); (case side2 => exact (Kd.R_reads' HO_290000.out).2.1); (case side3 => repeat (first | exact (Kd.N_reads' HO_290001.out).2.2 | (with_reducible refine Kd.C_alloc ?_ _) | (with_reducible refine Kd.C_drewN ?_ _) | (with_reducible refine Kd.C_drew ?_))); (case side4 => exact (Kd.N_reads' HO_290001.out).2.1); rintro e w106 ⟨rfl, hb⟩; refine ⟨_, rfl, ?_⟩; replace HO_290000 := gA (Kd.R_below (gR HO_290000) hb); replace HO_290001 := gA (Kd.N_below (gN HO_290001) hb); replace HO_291000 := gA (Kd.R_below (gR HO_291000) hb); replace HO_291001 := gA (Kd.N_below (gN HO_291001) hb); replace BK289 := gA (blk_below (gK BK289) hb); replace BK290 := gA (blk_below (gK BK290) hb); replace BK291 := gA (blk_below (gK BK291) hb); replace HB := gA (below_step (gB HB) hb); (try clear hb); have hnb107 := NB290_291.out; have hnc107 := NB291_290.out; obtain ⟨hcz108_0, hcz108_1, hfz108_0, hfz108_1⟩ := gz2 BK290) | ((with_reducible refine gate_callee (f := 27) rfl ?_); refine goesL_ (some 109) rfl rfl Try.func27 (by kernel_rfl) rfl #[.int .i64 t324, .agg #[.slice Ao36 t304.length co36, .slice Ao38 t307.length co38], .int .i64 (wrap64 ((t304.length : Int) - 1))] rfl (by (try simp only [List.map_toArray, List.map_cons, List.map_nil]); first | done | rfl | (simp only [List.length_drop, List.length_take]; rfl)) ?_; (with_reducible refine (pick_rotated.calls kj27 t324 (fun k_ => some k_ = (.slice Ao36 t304.length co36 : Value).ownBlock) _ _ t304 (fun k_ => (((P1_0_ k_ ∨ P1_1_ k_ ∨ P2_0_ k_ ∨ P2_1_ k_) ∨ w.heap.size ≤ k_) ∧ (some k_ ≠ (.slice Ao32 t298.length co32 : Value).ownBlock ∧ (some k_ ≠ (.slice Ao34 t301.length co34 : Value).ownBlock ∧ (some k_ ≠ (.slice Ao36 t304.length co36 : Value).ownBlock ∧ (k_ ≠ gb289 ∧ (k_ ≠ gb290 ∧ k_ ≠ gb291))))))) _ _ t307 (wrap64 ((t304.length : Int) - 1)) t339 t342 _ ?side1 ?side2 A102.out).mono ?_); (case side1 => exact Kd.R_V (Kd.R_tight rfl (Kd.R_types (Kd.R_types (Kd.R_types (Kd.R_apart' (Kd.R_apart' (HO_291000.out) (Kd.N_typed HO_290001.out) (by decide)) (Kd.N_typed HO_291001.out) (by decide)) BK289.out (by decide)) BK290.out (by decide)) BK291.out (by decide)))); (case side2 => exact Kd.N_V (HO_291001.out)); rintro e w109 ⟨v340, v343, rfl, ho0, ho1, hb⟩; refine ⟨_, rfl, ?_⟩; have HO341 := gA (Kd.V_lower (Kd.V_mono (ok' := fun k_ => ((P1_0_ k_ ∨ P1_1_ k_ ∨ P2_0_ k_ ∨ P2_1_ k_) ∨ w.heap.size ≤ k_) ∧ some k_ ≠ (.slice Ao32 t298.length co32 : Value).ownBlock ∧ some k_ ≠ (.slice Ao34 t301.length co34 : Value).ownBlock ∧ k_ ≠ gb289 ∧ k_ ≠ gb290 ∧ k_ ≠ gb291) ho0 (fun k_ hk_ => have y1_ := (Kd.R_types (Kd.R_types (Kd.R_types (Kd.R_apart' (Kd.R_apart' (HO_291000.out) (Kd.N_typed HO_290001.out) (by decide)) (Kd.N_typed HO_291001.out) (by decide)) BK289.out (by decide)) BK290.out (by decide)) BK291.out (by decide)).1 k_; ⟨Or.elim hk_ (fun hs_ => Or.elim hs_ (fun hs_ => (.inr ((y1_ hs_.symm).1.1.1.1.1.1))) (fun hs_ => hs_.1)) (fun hn_ => (.inr (Nat.le_trans (below_size (gB HB)) hn_))), Or.elim hk_ (fun hs_ => Or.elim hs_ (fun hs_ => (y1_ hs_.symm).1.1.1.1.1.2) (fun hs_ => hs_.2.1)) (fun hn_ => (Kd.fresh' (Kd.R_lt (gR HO_290000)) k_ hn_)), Or.elim hk_ (fun hs_ => Or.elim hs_ (fun hs_ => (y1_ hs_.symm).1.1.1.1.2) (fun hs_ => hs_.2.2.1)) (fun hn_ => (Kd.fresh' (Kd.N_lt (gN HO_290001)) k_ hn_)), Or.elim hk_ (fun hs_ => Or.elim hs_ (fun hs_ => (y1_ hs_.symm).1.1.2) (fun hs_ => hs_.2.2.2.2.1)) (fun hn_ => (Kd.freshB (gK BK289) k_ hn_)), Or.elim hk_ (fun hs_ => Or.elim hs_ (fun hs_ => (y1_ hs_.symm).1.2) (fun hs_ => hs_.2.2.2.2.2.1)) (fun hn_ => (Kd.freshB (gK BK290) k_ hn_)), Or.elim hk_ (fun hs_ => Or.elim hs_ (fun hs_ => (y1_ hs_.symm).2) (fun hs_ => hs_.2.2.2.2.2.2)) (fun hn_ => (Kd.freshB (gK BK291) k_ hn_))⟩)) (below_size (gB HB))); have HO344 := gA (Kd.V_lower (Kd.V_mono (ok' := fun k_ => ((P1_0_ k_ ∨ P1_1_ k_ ∨ P2_0_ k_ ∨ P2_1_ k_) ∨ w.heap.size ≤ k_) ∧ some k_ ≠ (.slice Ao32 t298.length co32 : Value).ownBlock ∧ some k_ ≠ (.slice Ao34 t301.length co34 : Value).ownBlock ∧ k_ ≠ gb289 ∧ k_ ≠ gb290 ∧ k_ ≠ gb291) ho1 (fun k_ hk_ => have y1_ := (Kd.R_types (Kd.R_types (Kd.R_types (Kd.R_apart' (Kd.R_apart' (HO_291000.out) (Kd.N_typed HO_290001.out) (by decide)) (Kd.N_typed HO_291001.out) (by decide)) BK289.out (by decide)) BK290.out (by decide)) BK291.out (by decide)).1 k_; ⟨Or.elim hk_ (fun hs_ => Or.elim hs_ (fun hs_ => (.inr ((y1_ hs_.symm).1.1.1.1.1.1))) (fun hs_ => hs_.1)) (fun hn_ => (.inr (Nat.le_trans (below_size (gB HB)) hn_))), Or.elim hk_ (fun hs_ => Or.elim hs_ (fun hs_ => (y1_ hs_.symm).1.1.1.1.1.2) (fun hs_ => hs_.2.1)) (fun hn_ => (Kd.fresh' (Kd.R_lt (gR HO_290000)) k_ hn_)), Or.elim hk_ (fun hs_ => Or.elim hs_ (fun hs_ => (y1_ hs_.symm).1.1.1.1.2) (fun hs_ => hs_.2.2.1)) (fun hn_ => (Kd.fresh' (Kd.N_lt (gN HO_290001)) k_ hn_)), Or.elim hk_ (fun hs_ => Or.elim hs_ (fun hs_ => (y1_ hs_.symm).1.1.2) (fun hs_ => hs_.2.2.2.2.1)) (fun hn_ => (Kd.freshB (gK BK289) k_ hn_)), Or.elim hk_ (fun hs_ => Or.elim hs_ (fun hs_ => (y1_ hs_.symm).1.2) (fun hs_ => hs_.2.2.2.2.2.1)) (fun hn_ => (Kd.freshB (gK BK290) k_ hn_)), Or.elim hk_ (fun hs_ => Or.elim hs_ (fun hs_ => (y1_ hs_.symm).2) (fun hs_ => hs_.2.2.2.2.2.2)) (fun hn_ => (Kd.freshB (gK BK291) k_ hn_))⟩)) (below_size (gB HB))); replace HO_290000 := gA (Kd.R_below (gR HO_290000) hb); replace HO_290001 := gA (Kd.N_below (gN HO_290001) hb); replace HO_291000 := gA (Kd.R_below (gR HO_291000) hb); replace HO_291001 := gA (Kd.N_below (gN HO_291001) hb); replace BK289 := gA (blk_below (gK BK289) hb); replace BK290 := gA (blk_below (gK BK290) hb); replace BK291 := gA (blk_below (gK BK291) hb); replace HB := gA (below_step (gB HB) hb); (try clear hb); (try clear ho0); (try clear ho1); obtain ⟨Ao110, co110, eo110⟩ := Kd.V_slice HO341.out; subst eo110; obtain ⟨hcz111_0, hcz111_1, hfz111_0, hfz111_1⟩ := gz2 BK291; obtain ⟨Ao112, co112, eo112⟩ := Kd.V_slice HO344.out; subst eo112))
        refine bodyPost_ret (results_ct rfl _ _ gb291 25 #[.slice Ao110 t339.length co110, .slice Ao112 t342.length co112] (0, 0) _ rfl (by refine blk_put (cs := #[.slice Ao110 t339.length co110, .slice none 0 0]) ?_ 1 _ rfl; refine blk_put (cs := #[.slice none 0 0, .slice none 0 0]) ?_ 0 _ rfl; exact gK BK291) Try.underlying25 rfl (by kernel_rfl)) rfl ?_
        exact ⟨_, _, rfl, Kd.V_mono (Kd.V_far (p := ⟨gb291, 1, none⟩) (Kd.V_far (p := ⟨gb291, 0, none⟩) (Kd.V_mono HO341.out (fun k_ hk => (⟨hk, hk.2.2.2.2.2⟩ : _ ∧ k_ ≠ gb291))) (fun _ hk => hk.2) (.slice Ao110 t339.length co110)) (fun _ hk => hk.2) (.slice Ao112 t342.length co112)) (fun _ hk => hk.1.1), Kd.V_mono (Kd.V_far (p := ⟨gb291, 1, none⟩) (Kd.V_far (p := ⟨gb291, 0, none⟩) (Kd.V_mono HO344.out (fun k_ hk => (⟨hk, hk.2.2.2.2.2⟩ : _ ∧ k_ ≠ gb291))) (fun _ hk => hk.2) (.slice Ao110 t339.length co110)) (fun _ hk => hk.2) (.slice Ao112 t342.length co112)) (fun _ hk => hk.1.1), by repeat first | exact gB HB | refine below_set ?_ GE289.out | refine below_set ?_ GE290.out | refine below_set ?_ GE291.out⟩
end Go.Proofs.Ytdihmempaonfjaa.P
