/- Written by a program of this session: the functions that the laws reach, what each comes to, and each law as it is stated, for every input. No condition. -/
import Derived.Test.YtdihmempaonfjaaPx0
import Derived.Test.YtdihmempaonfjaaPx2
import Derived.Test.YtdihmempaonfjaaPx3
import Derived.Test.YtdihmempaonfjaaPx4
import Derived.Test.YtdihmempaonfjaaPx6
import Derived.Test.YtdihmempaonfjaaPx7
namespace Go.Proofs.Ytdihmempaonfjaa.P
open Go.RowKit Go.Proofs.YtdihmempaonfjaaW.PrintWords Go.Proofs.YtdihmempaonfjaaW.PrintLast Go.Proofs.YtdihmempaonfjaaW.PrintMore
attribute [local go_sem] max2_int min2_int max_two min_two max_three min_three max_four min_four   -- for this text's walks alone
set_option linter.unusedVariables false
set_option linter.unusedSimpArgs false
mutual
def pick_Dy.l0 : Nat → Int → List (S25) → Int → Int → List Int → List (S45) → List Int → List (S45) → Option (List Int × (List (S45)) × Int)
 | 0, _, _, _, _, _, _, _, _ => none
 | k + 1, x0, x15, x16, x17, x311000, x311001, x312000, x312001 => if x17 < x16 then (if 0 ≤ x17 then (if x17 < (x15.length : Int) then ((arr_Check.f k ((rd_T25 x15 x17).f0) ((rd_T25 x15 x17).f1)).bind fun t318 => (if t318 = 0 then (pick_Dy.l0 k x0 x15 x16 (wrap64 (x17 + 1)) x311000 x311001 x312000 x312001) else (none))) else (none)) else (none)) else ((arr_Copy.f k x311000 x311001).bind fun bt319 => ((arr_Copy.f k x312000 x312001).bind fun bt325 => (if x0 = 46 then (pick_Dy.j1 k x0 x0 (x0 == 46) bt319.1 bt319.2 bt325.1 bt325.2) else (pick_Dy.j1 k x0 x0 (x0 == 47) bt319.1 bt319.2 bt325.1 bt325.2))))
def pick_Dy.j1 : Nat → Int → Int → Bool → List Int → List (S45) → List Int → List (S45) → Option (List Int × (List (S45)) × Int)
 | 0, _, _, _, _, _, _, _ => none
 | k + 1, x0, x32, x34, x311000, x311001, x312000, x312001 => if x34 = true then (none) else (if x32 = 52 then ((pick_from.f k x311000 x311001 x312000 x312001).bind fun bt331 => (some (bt331.1, bt331.2.1, bt331.2.2))) else (if x32 = 53 then ((pick_from.f k x312000 x312001 x311000 x311001).bind fun bt338 => (some (bt338.1, bt338.2.1, bt338.2.2))) else (if x32 = 50 then (pick_Dy.j2 k x0 x32 (x32 == 50) x311000 x311001 x312000 x312001) else (pick_Dy.j2 k x0 x32 (x32 == 51) x311000 x311001 x312000 x312001))))
def pick_Dy.j2 : Nat → Int → Int → Bool → List Int → List (S45) → List Int → List (S45) → Option (List Int × (List (S45)) × Int)
 | 0, _, _, _, _, _, _, _ => none
 | k + 1, x0, x32, x58, x311000, x311001, x312000, x312001 => if x58 = true then ((pick_repeated.f k x311000 x311001 x312000 x312001 (x0 == 51)).bind fun bt345 => (some (bt345.1, bt345.2.1, bt345.2.2))) else (if x32 = 42 then ((pick_number.f x311000 x311001).bind fun bt352 => (if bt352.2 = 0 then (if x0 = 42 then ((pick_take.f k bt352.1 x312000 x312001).bind fun bt354 => (some (bt354.1, bt354.2.1, bt354.2.2))) else (if x0 = 43 then (none) else (if x0 = 44 then (none) else (none)))) else (none))) else (if x32 = 43 then (none) else (if x32 = 44 then (none) else (none))))
end
def pick_Dy.f (k : Nat) (a0 : Int) (l1_0 : List Int) (l1_1 : List (S45)) (l2_0 : List Int) (l2_1 : List (S45)) : Option (List Int × (List (S45)) × Int) := (some (([(⟨l1_0, l1_1⟩ : S25), (⟨l2_0, l2_1⟩ : S25)] : List (S25)) : List (S25))).bind fun y313 => (pick_Dy.l0 k a0 y313 (y313.length : Int) 0 l1_0 l1_1 l2_0 l2_1)
theorem pick_Dy.mono_l : ∀ k, (∀ y0 y1 y2 y3 y4 y5 y6 y7, LeO (pick_Dy.l0 k y0 y1 y2 y3 y4 y5 y6 y7) (pick_Dy.l0 (k + 1) y0 y1 y2 y3 y4 y5 y6 y7)) ∧ (∀ y0 y1 y2 y3 y4 y5 y6, LeO (pick_Dy.j1 k y0 y1 y2 y3 y4 y5 y6) (pick_Dy.j1 (k + 1) y0 y1 y2 y3 y4 y5 y6)) ∧ (∀ y0 y1 y2 y3 y4 y5 y6, LeO (pick_Dy.j2 k y0 y1 y2 y3 y4 y5 y6) (pick_Dy.j2 (k + 1) y0 y1 y2 y3 y4 y5 y6))
 | 0 => ⟨fun _ _ _ _ _ _ _ _ r h => by simp [pick_Dy.l0] at h, fun _ _ _ _ _ _ _ r h => by simp [pick_Dy.j1] at h, fun _ _ _ _ _ _ _ r h => by simp [pick_Dy.j2] at h⟩
 | k + 1 => by
  obtain ⟨ih0, ih1, ih2⟩ := pick_Dy.mono_l k
  refine ⟨?_, ?_, ?_⟩
  ·intro y0 y1 y2 y3 y4 y5 y6 y7
   unfold pick_Dy.l0
   repeat' first
   | (with_reducible exact ih0 _ _ _ _ _ _ _ _)
   | (with_reducible exact ih1 _ _ _ _ _ _ _)
   | (with_reducible exact ih2 _ _ _ _ _ _ _)
   | (with_reducible exact arr_Check.mono _ _ _)
   | (with_reducible exact arr_Copy.mono _ _ _)
   | (with_reducible exact pick_from.mono _ _ _ _ _)
   | (with_reducible exact pick_repeated.mono _ _ _ _ _ _)
   | (with_reducible exact pick_take.mono _ _ _ _)
   | (with_reducible exact LeO.refl _)
   | (with_reducible exact LeO.none _)
   | (with_reducible refine LeO.ite ?_ ?_)
   | (with_reducible refine LeO.bind ?_ (fun _ => ?_))



   | exact arr_Check.mono _ _ _
   | exact arr_Copy.mono _ _ _
   | exact pick_from.mono _ _ _ _ _
   | exact pick_repeated.mono _ _ _ _ _ _
   | exact pick_take.mono _ _ _ _



  ·intro y0 y1 y2 y3 y4 y5 y6
   unfold pick_Dy.j1
   repeat' first
   | (with_reducible exact ih0 _ _ _ _ _ _ _ _)
   | (with_reducible exact ih1 _ _ _ _ _ _ _)
   | (with_reducible exact ih2 _ _ _ _ _ _ _)
   | (with_reducible exact arr_Check.mono _ _ _)
   | (with_reducible exact arr_Copy.mono _ _ _)
   | (with_reducible exact pick_from.mono _ _ _ _ _)
   | (with_reducible exact pick_repeated.mono _ _ _ _ _ _)
   | (with_reducible exact pick_take.mono _ _ _ _)
   | (with_reducible exact LeO.refl _)
   | (with_reducible exact LeO.none _)
   | (with_reducible refine LeO.ite ?_ ?_)
   | (with_reducible refine LeO.bind ?_ (fun _ => ?_))



   | exact arr_Check.mono _ _ _
   | exact arr_Copy.mono _ _ _
   | exact pick_from.mono _ _ _ _ _
   | exact pick_repeated.mono _ _ _ _ _ _
   | exact pick_take.mono _ _ _ _



  ·intro y0 y1 y2 y3 y4 y5 y6
   unfold pick_Dy.j2
   repeat' first
   | (with_reducible exact ih0 _ _ _ _ _ _ _ _)
   | (with_reducible exact ih1 _ _ _ _ _ _ _)
   | (with_reducible exact ih2 _ _ _ _ _ _ _)
   | (with_reducible exact arr_Check.mono _ _ _)
   | (with_reducible exact arr_Copy.mono _ _ _)
   | (with_reducible exact pick_from.mono _ _ _ _ _)
   | (with_reducible exact pick_repeated.mono _ _ _ _ _ _)
   | (with_reducible exact pick_take.mono _ _ _ _)
   | (with_reducible exact LeO.refl _)
   | (with_reducible exact LeO.none _)
   | (with_reducible refine LeO.ite ?_ ?_)
   | (with_reducible refine LeO.bind ?_ (fun _ => ?_))



   | exact arr_Check.mono _ _ _
   | exact arr_Copy.mono _ _ _
   | exact pick_from.mono _ _ _ _ _
   | exact pick_repeated.mono _ _ _ _ _ _
   | exact pick_take.mono _ _ _ _
theorem pick_Dy.mono : ∀ a0 a1 a2 a3 a4 k, LeO (pick_Dy.f k a0 a1 a2 a3 a4) (pick_Dy.f (k + 1) a0 a1 a2 a3 a4) := by
 intro a0 a1 a2 a3 a4 k
 obtain ⟨ih0, ih1, ih2⟩ := pick_Dy.mono_l k
 unfold pick_Dy.f
 repeat' first
   | (with_reducible exact ih0 _ _ _ _ _ _ _ _)
   | (with_reducible exact ih1 _ _ _ _ _ _ _)
   | (with_reducible exact ih2 _ _ _ _ _ _ _)
   | (with_reducible exact arr_Check.mono _ _ _)
   | (with_reducible exact arr_Copy.mono _ _ _)
   | (with_reducible exact pick_from.mono _ _ _ _ _)
   | (with_reducible exact pick_repeated.mono _ _ _ _ _ _)
   | (with_reducible exact pick_take.mono _ _ _ _)
   | (with_reducible exact LeO.refl _)
   | (with_reducible exact LeO.none _)
   | (with_reducible refine LeO.ite ?_ ?_)
   | (with_reducible refine LeO.bind ?_ (fun _ => ?_))



   | exact arr_Check.mono _ _ _
   | exact arr_Copy.mono _ _ _
   | exact pick_from.mono _ _ _ _ _
   | exact pick_repeated.mono _ _ _ _ _ _
   | exact pick_take.mono _ _ _ _
set_option maxHeartbeats 8000000 in
set_option maxRecDepth 100000 in
theorem pick_Dy.calls (k : Nat) (a0 : Int) (P1_0_ : Nat → Prop) (A1_0 : Option Addr) (c1_0 : Nat) (l1_0 : List Int) (P1_1_ : Nat → Prop) (A1_1 : Option Addr) (c1_1 : Nat) (l1_1 : List (S45)) (P2_0_ : Nat → Prop) (A2_0 : Option Addr) (c2_0 : Nat) (l2_0 : List Int) (P2_1_ : Nat → Prop) (A2_1 : Option Addr) (c2_1 : Nat) (l2_1 : List (S45)) (r1 : List Int) (r2 : List (S45)) (r3 : Int) (w : World) (hs1_0 : Kd.V (Kd.int .i64) 3 w w.heap.size (fun k_ => P1_0_ k_) (.slice A1_0 l1_0.length c1_0) l1_0) (hs1_1 : Kd.V k45 45 w w.heap.size (fun k_ => P1_1_ k_) (.slice A1_1 l1_1.length c1_1) l1_1) (hs2_0 : Kd.V (Kd.int .i64) 3 w w.heap.size (fun k_ => P2_0_ k_) (.slice A2_0 l2_0.length c2_0) l2_0) (hs2_1 : Kd.V k45 45 w w.heap.size (fun k_ => P2_1_ k_) (.slice A2_1 l2_1.length c2_1) l2_1) (h : pick_Dy.f k a0 l1_0 l1_1 l2_0 l2_1 = some (r1, r2, r3)) :
  Calls Try.prog 11 #[.int .i64 a0, .agg #[.slice A1_0 l1_0.length c1_0, .slice A1_1 l1_1.length c1_1], .agg #[.slice A2_0 l2_0.length c2_0, .slice A2_1 l2_1.length c2_1]] w fun e w' => ∃ v0_ v1_ : Value, e = .returned (.tuple #[.agg #[v0_, v1_], .int .i64 r3]) ∧ Kd.R (Kd.int .i64) 3 w' w.heap.size (fun k_ => (w.heap.size ≤ k_)) v0_ r1 ∧ Kd.N k45 45 w' w.heap.size (fun k_ => ((P1_0_ k_ ∨ P1_1_ k_ ∨ P2_0_ k_ ∨ P2_1_ k_) ∨ w.heap.size ≤ k_) ∧ some k_ ≠ (v0_ : Value).ownBlock) v1_ r2 ∧ Below w.heap.size w w' := by
 have hu25 := Try.underlying25
 have HO1_0 := gA (show Kd.V (Kd.int .i64) 3 w w.heap.size (fun k_ => ((P1_0_ k_ ∨ P1_1_ k_ ∨ P2_0_ k_ ∨ P2_1_ k_) ∨ w.heap.size ≤ k_)) (.slice A1_0 l1_0.length c1_0) l1_0 from Kd.V_mono hs1_0 (fun k_ hk => .inl (.inl hk)))
 have HO1_1 := gA (show Kd.V k45 45 w w.heap.size (fun k_ => ((P1_0_ k_ ∨ P1_1_ k_ ∨ P2_0_ k_ ∨ P2_1_ k_) ∨ w.heap.size ≤ k_)) (.slice A1_1 l1_1.length c1_1) l1_1 from Kd.V_mono hs1_1 (fun k_ hk => .inl (.inr (.inl hk))))
 have HO2_0 := gA (show Kd.V (Kd.int .i64) 3 w w.heap.size (fun k_ => ((P1_0_ k_ ∨ P1_1_ k_ ∨ P2_0_ k_ ∨ P2_1_ k_) ∨ w.heap.size ≤ k_)) (.slice A2_0 l2_0.length c2_0) l2_0 from Kd.V_mono hs2_0 (fun k_ hk => .inl (.inr (.inr (.inl hk)))))
 have HO2_1 := gA (show Kd.V k45 45 w w.heap.size (fun k_ => ((P1_0_ k_ ∨ P1_1_ k_ ∨ P2_0_ k_ ∨ P2_1_ k_) ∨ w.heap.size ≤ k_)) (.slice A2_1 l2_1.length c2_1) l2_1 from Kd.V_mono hs2_1 (fun k_ hk => .inl (.inr (.inr (.inr hk)))))
 have HB := gA (Below.refl w.heap.size w)
 have H : ((some (([(⟨l1_0, l1_1⟩ : S25), (⟨l2_0, l2_1⟩ : S25)] : List (S25)) : List (S25))).bind fun y313 => (pick_Dy.l0 k a0 y313 (y313.length : Int) 0 l1_0 l1_1 l2_0 l2_1)) = some (r1, r2, r3) := h
 clear h
 obtain ⟨y313, hy313⟩ : ∃ y_ : List (S25), y_ = (([(⟨l1_0, l1_1⟩ : S25), (⟨l2_0, l2_1⟩ : S25)] : List (S25))) := ⟨_, rfl⟩
 replace H : (pick_Dy.l0 k a0 y313 (y313.length : Int) 0 l1_0 l1_1 l2_0 l2_1) = some (r1, r2, r3) := by first | (rw [hy313]; with_reducible exact H) | (have H2_ := (Option.bind_some _ _).symm.trans H; rw [hy313]; with_reducible exact H2_) | (have H2_ := (Option.bind_some _ _).symm.trans H; with_reducible exact H2_) | with_reducible exact H | (rw [hy313]; exact H) | exact H
 have Ny313 := gA hy313
 clear hy313
 have H' := gA H
 clear H
 go_enter Try.func11, Try.ntmps11
 go_wp2_with (first | ((with_reducible refine gate_dst (N := 4) rfl ?_); refine box_event ?hg (N := 4) ?hd (cs := #[.slice A1_0 l1_0.length c1_0, .slice A1_1 l1_1.length c1_1]) (t := 25) ?hr ?_; (case hd => rfl); (case hg => rfl); (case hr => first | (go_simp; done) | (go_simp; rfl)); intro gb310 hg w4 hbox hb; replace HO1_0 := gA (Kd.V_below (Kd.V_elderB (gV HO1_0) gb310 (Nat.le_of_eq hg.symm)) hb); replace HO1_1 := gA (Kd.V_below (Kd.V_elderB (gV HO1_1) gb310 (Nat.le_of_eq hg.symm)) hb); replace HO2_0 := gA (Kd.V_below (Kd.V_elderB (gV HO2_0) gb310 (Nat.le_of_eq hg.symm)) hb); replace HO2_1 := gA (Kd.V_below (Kd.V_elderB (gV HO2_1) gb310 (Nat.le_of_eq hg.symm)) hb); have BK310 := gA (hbox); have GW310 := gA ((by rw [hg]; exact (below_size (gB HB)) : w.heap.size ≤ gb310)); have GE310 := gA ((by rw [hg]; exact (below_size (gB HB)) : w.heap.size ≤ gb310)); replace HB := gA (below_step (gB HB) hb); clear hb hbox hg) | ((with_reducible refine gate_dst (N := 5) rfl ?_); refine box_event ?hg (N := 5) ?hd (cs := #[.slice A2_0 l2_0.length c2_0, .slice A2_1 l2_1.length c2_1]) (t := 25) ?hr ?_; (case hd => rfl); (case hg => rfl); (case hr => first | (go_simp; done) | (go_simp; rfl)); intro gb311 hg w5 hbox hb; replace HO1_0 := gA (Kd.V_below (Kd.V_elderB (gV HO1_0) gb311 (Nat.le_of_eq hg.symm)) hb); replace HO1_1 := gA (Kd.V_below (Kd.V_elderB (gV HO1_1) gb311 (Nat.le_of_eq hg.symm)) hb); replace HO2_0 := gA (Kd.V_below (Kd.V_elderB (gV HO2_0) gb311 (Nat.le_of_eq hg.symm)) hb); replace HO2_1 := gA (Kd.V_below (Kd.V_elderB (gV HO2_1) gb311 (Nat.le_of_eq hg.symm)) hb); have BK311 := gA (hbox); have GW311 := gA ((by rw [hg]; exact (below_size (gB HB)) : w.heap.size ≤ gb311)); have GE311 := gA ((by rw [hg]; exact (below_size (gB HB)) : w.heap.size ≤ gb311)); replace HB := gA (below_step (gB HB) hb); have NB310_311 := gA ((by rw [hg]; exact Nat.ne_of_lt (blk_lt (gK BK310)) : gb310 ≠ gb311)); have NB311_310 := gA ((by rw [hg]; exact Nat.ne_of_gt (blk_lt (gK BK310)) : gb311 ≠ gb310)); replace BK310 := gA (blk_below (gK BK310) hb); clear hb hbox hg) | ((with_reducible refine gate_dst (N := 6) rfl ?_); refine box_event ?hg (N := 6) ?hd (cs := #[.slice none 0 0, .slice none 0 0]) (t := 25) ?hr ?_; (case hd => rfl); (case hg => rfl); (case hr => first | (go_simp; done) | (go_simp; rfl)); intro gb312 hg w6 hbox hb; replace HO1_0 := gA (Kd.V_below (Kd.V_elderB (gV HO1_0) gb312 (Nat.le_of_eq hg.symm)) hb); replace HO1_1 := gA (Kd.V_below (Kd.V_elderB (gV HO1_1) gb312 (Nat.le_of_eq hg.symm)) hb); replace HO2_0 := gA (Kd.V_below (Kd.V_elderB (gV HO2_0) gb312 (Nat.le_of_eq hg.symm)) hb); replace HO2_1 := gA (Kd.V_below (Kd.V_elderB (gV HO2_1) gb312 (Nat.le_of_eq hg.symm)) hb); have BK312 := gA (hbox); have GW312 := gA ((by rw [hg]; exact (below_size (gB HB)) : w.heap.size ≤ gb312)); have GE312 := gA ((by rw [hg]; exact (below_size (gB HB)) : w.heap.size ≤ gb312)); replace HB := gA (below_step (gB HB) hb); have NB310_312 := gA ((by rw [hg]; exact Nat.ne_of_lt (blk_lt (gK BK310)) : gb310 ≠ gb312)); have NB312_310 := gA ((by rw [hg]; exact Nat.ne_of_gt (blk_lt (gK BK310)) : gb312 ≠ gb310)); replace BK310 := gA (blk_below (gK BK310) hb); have NB311_312 := gA ((by rw [hg]; exact Nat.ne_of_lt (blk_lt (gK BK311)) : gb311 ≠ gb312)); have NB312_311 := gA ((by rw [hg]; exact Nat.ne_of_gt (blk_lt (gK BK311)) : gb312 ≠ gb311)); replace BK311 := gA (blk_below (gK BK311) hb); clear hb hbox hg; have hnb7 := NB310_311.out; have hnc7 := NB311_310.out; have hnb8 := NB310_312.out; have hnc8 := NB312_310.out; obtain ⟨hcz9_0, hcz9_1, hfz9_0, hfz9_1⟩ := gz2 BK310; have hnb10 := NB311_312.out; have hnc10 := NB312_311.out; obtain ⟨hcz11_0, hcz11_1, hfz11_0, hfz11_1⟩ := gz2 BK311) | ((with_reducible refine gate_dst (N := 15) rfl ?_); refine Kd.N_lit k25 _ 25 ?hg (N' := 15) ?hd (xs := ([(⟨l1_0, l1_1⟩ : S25), (⟨l2_0, l2_1⟩ : S25)] : List (S25))) (inner := [.slice A1_0 l1_0.length c1_0, .slice A1_1 l1_1.length c1_1, .slice A2_0 l2_0.length c2_0, .slice A2_1 l2_1.length c2_1]) (ok := (fun k_ => ((P1_0_ k_ ∨ P1_1_ k_ ∨ P2_0_ k_ ∨ P2_1_ k_) ∨ w.heap.size ≤ k_) ∧ k_ ≠ gb310 ∧ k_ ≠ gb311 ∧ k_ ≠ gb312)) (okp := (fun k_ => ((P1_0_ k_ ∨ P1_1_ k_ ∨ P2_0_ k_ ∨ P2_1_ k_) ∨ w.heap.size ≤ k_) ∧ k_ ≠ gb310 ∧ k_ ≠ gb311 ∧ k_ ≠ gb312)) ?hr ?hp (fun _ hk => hk) ((show ∀ k_, w6.heap.size ≤ k_ → (fun k_ => ((P1_0_ k_ ∨ P1_1_ k_ ∨ P2_0_ k_ ∨ P2_1_ k_) ∨ w.heap.size ≤ k_) ∧ k_ ≠ gb310 ∧ k_ ≠ gb311 ∧ k_ ≠ gb312) k_ from fun k_ hk => ⟨(.inr (Nat.le_trans (below_size (gB HB)) hk)), Kd.freshB (gK BK310) k_ hk, Kd.freshB (gK BK311) k_ hk, Kd.freshB (gK BK312) k_ hk⟩) _ (Nat.le_refl _)) (Below.refl _ _) (Nat.le_refl _) (by simp) ?_; (case hd => rfl); (case hg => rfl); (case hr => first | (go_simp; done) | (go_simp; rfl)); (case hp => exact (Reps.c2 (show Kd.FK k25 _ _ (⟨l1_0, l1_1⟩ : S25) [.slice A1_0 l1_0.length c1_0, .slice A1_1 l1_1.length c1_1] from (k25_mkF _ _ (⟨l1_0, l1_1⟩ : S25) (Kd.V_reads' (Kd.V_mono (ok' := (fun k_ => ((P1_0_ k_ ∨ P1_1_ k_ ∨ P2_0_ k_ ∨ P2_1_ k_) ∨ w.heap.size ≤ k_) ∧ k_ ≠ gb310 ∧ k_ ≠ gb311 ∧ k_ ≠ gb312)) (HO1_0.out) (fun k_ hk => ⟨hk.1.1.1, ⟨hk.1.1.2, ⟨hk.1.2, hk.2⟩⟩⟩))).2.1 (Kd.V_F (Kd.V_mono (ok' := (fun k_ => ((P1_0_ k_ ∨ P1_1_ k_ ∨ P2_0_ k_ ∨ P2_1_ k_) ∨ w.heap.size ≤ k_) ∧ k_ ≠ gb310 ∧ k_ ≠ gb311 ∧ k_ ≠ gb312)) (HO1_0.out) (fun k_ hk => ⟨hk.1.1.1, ⟨hk.1.1.2, ⟨hk.1.2, hk.2⟩⟩⟩))) (Kd.V_reads' (Kd.V_mono (ok' := (fun k_ => ((P1_0_ k_ ∨ P1_1_ k_ ∨ P2_0_ k_ ∨ P2_1_ k_) ∨ w.heap.size ≤ k_) ∧ k_ ≠ gb310 ∧ k_ ≠ gb311 ∧ k_ ≠ gb312)) (HO1_1.out) (fun k_ hk => ⟨hk.1.1.1, ⟨hk.1.1.2, ⟨hk.1.2, hk.2⟩⟩⟩))).2.1 (Kd.V_F (Kd.V_mono (ok' := (fun k_ => ((P1_0_ k_ ∨ P1_1_ k_ ∨ P2_0_ k_ ∨ P2_1_ k_) ∨ w.heap.size ≤ k_) ∧ k_ ≠ gb310 ∧ k_ ≠ gb311 ∧ k_ ≠ gb312)) (HO1_1.out) (fun k_ hk => ⟨hk.1.1.1, ⟨hk.1.1.2, ⟨hk.1.2, hk.2⟩⟩⟩))))) (Reps.c2 (show Kd.FK k25 _ _ (⟨l2_0, l2_1⟩ : S25) [.slice A2_0 l2_0.length c2_0, .slice A2_1 l2_1.length c2_1] from (k25_mkF _ _ (⟨l2_0, l2_1⟩ : S25) (Kd.V_reads' (Kd.V_mono (ok' := (fun k_ => ((P1_0_ k_ ∨ P1_1_ k_ ∨ P2_0_ k_ ∨ P2_1_ k_) ∨ w.heap.size ≤ k_) ∧ k_ ≠ gb310 ∧ k_ ≠ gb311 ∧ k_ ≠ gb312)) (HO2_0.out) (fun k_ hk => ⟨hk.1.1.1, ⟨hk.1.1.2, ⟨hk.1.2, hk.2⟩⟩⟩))).2.1 (Kd.V_F (Kd.V_mono (ok' := (fun k_ => ((P1_0_ k_ ∨ P1_1_ k_ ∨ P2_0_ k_ ∨ P2_1_ k_) ∨ w.heap.size ≤ k_) ∧ k_ ≠ gb310 ∧ k_ ≠ gb311 ∧ k_ ≠ gb312)) (HO2_0.out) (fun k_ hk => ⟨hk.1.1.1, ⟨hk.1.1.2, ⟨hk.1.2, hk.2⟩⟩⟩))) (Kd.V_reads' (Kd.V_mono (ok' := (fun k_ => ((P1_0_ k_ ∨ P1_1_ k_ ∨ P2_0_ k_ ∨ P2_1_ k_) ∨ w.heap.size ≤ k_) ∧ k_ ≠ gb310 ∧ k_ ≠ gb311 ∧ k_ ≠ gb312)) (HO2_1.out) (fun k_ hk => ⟨hk.1.1.1, ⟨hk.1.1.2, ⟨hk.1.2, hk.2⟩⟩⟩))).2.1 (Kd.V_F (Kd.V_mono (ok' := (fun k_ => ((P1_0_ k_ ∨ P1_1_ k_ ∨ P2_0_ k_ ∨ P2_1_ k_) ∨ w.heap.size ≤ k_) ∧ k_ ≠ gb310 ∧ k_ ≠ gb311 ∧ k_ ≠ gb312)) (HO2_1.out) (fun k_ hk => ⟨hk.1.1.1, ⟨hk.1.1.2, ⟨hk.1.2, hk.2⟩⟩⟩))))) (Reps.none _ _)))); intro v314 w12 ho13 hb hg_ hnew_; clear hg_ hnew_; (first | rw [← Ny313.out] at ho13 | (simp only [Int.reduceToNat] at ho13; rw [← Ny313.out] at ho13)); replace HO1_0 := gA (Kd.V_elder' (gV HO1_0) (Kd.N_base ho13) hb); replace HO1_1 := gA (Kd.V_elder' (gV HO1_1) (Kd.N_base ho13) hb); replace HO2_0 := gA (Kd.V_elder' (gV HO2_0) (Kd.N_base ho13) hb); replace HO2_1 := gA (Kd.V_elder' (gV HO2_1) (Kd.N_base ho13) hb); have HO315 := gA (Kd.N_lower ho13 (below_size (gB HB))); replace BK310 := gA (blk_below (gK BK310) hb); replace BK311 := gA (blk_below (gK BK311) hb); replace BK312 := gA (blk_below (gK BK312) hb); replace HB := gA (below_step (gB HB) hb); clear hb ho13; obtain ⟨Ao14, co14, eo14⟩ := Kd.N_slice HO315.out; subst eo14))
 go_loopg [17] k (fun kq v17 w' => ∃ (x17_1 : Int), v17 = .int .i64 x17_1 ∧ Aside0 (pick_Dy.l0 kq a0 y313 (y313.length : Int) x17_1 l1_0 l1_1 l2_0 l2_1 = some (r1, r2, r3)) ∧ Aside0 (kq ≤ k) ∧ Aside0 (Kd.N k25 25 w' w.heap.size (fun k_ => ((P1_0_ k_ ∨ P1_1_ k_ ∨ P2_0_ k_ ∨ P2_1_ k_) ∨ w.heap.size ≤ k_) ∧ k_ ≠ gb310 ∧ k_ ≠ gb311 ∧ k_ ≠ gb312) (.slice Ao14 y313.length co14) y313) ∧ Aside0 (Kd.V (Kd.int .i64) 3 w' w.heap.size (fun k_ => ((P1_0_ k_ ∨ P1_1_ k_ ∨ P2_0_ k_ ∨ P2_1_ k_) ∨ w.heap.size ≤ k_) ∧ some k_ ≠ ((.slice Ao14 y313.length co14) : Value).ownBlock ∧ k_ ≠ gb310 ∧ k_ ≠ gb311 ∧ k_ ≠ gb312) (.slice A1_0 l1_0.length c1_0) l1_0) ∧ Aside0 (Kd.V k45 45 w' w.heap.size (fun k_ => ((P1_0_ k_ ∨ P1_1_ k_ ∨ P2_0_ k_ ∨ P2_1_ k_) ∨ w.heap.size ≤ k_) ∧ some k_ ≠ ((.slice Ao14 y313.length co14) : Value).ownBlock ∧ k_ ≠ gb310 ∧ k_ ≠ gb311 ∧ k_ ≠ gb312) (.slice A1_1 l1_1.length c1_1) l1_1) ∧ Aside0 (Kd.V (Kd.int .i64) 3 w' w.heap.size (fun k_ => ((P1_0_ k_ ∨ P1_1_ k_ ∨ P2_0_ k_ ∨ P2_1_ k_) ∨ w.heap.size ≤ k_) ∧ some k_ ≠ ((.slice Ao14 y313.length co14) : Value).ownBlock ∧ k_ ≠ gb310 ∧ k_ ≠ gb311 ∧ k_ ≠ gb312) (.slice A2_0 l2_0.length c2_0) l2_0) ∧ Aside0 (Kd.V k45 45 w' w.heap.size (fun k_ => ((P1_0_ k_ ∨ P1_1_ k_ ∨ P2_0_ k_ ∨ P2_1_ k_) ∨ w.heap.size ≤ k_) ∧ some k_ ≠ ((.slice Ao14 y313.length co14) : Value).ownBlock ∧ k_ ≠ gb310 ∧ k_ ≠ gb311 ∧ k_ ≠ gb312) (.slice A2_1 l2_1.length c2_1) l2_1) ∧ Aside0 (w'.heap[gb310]? = some (.cells #[(.slice A1_0 l1_0.length c1_0), (.slice A1_1 l1_1.length c1_1)] 25 (0, 0))) ∧ Aside0 (w'.heap[gb311]? = some (.cells #[(.slice A2_0 l2_0.length c2_0), (.slice A2_1 l2_1.length c2_1)] 25 (0, 0))) ∧ Aside0 (w'.heap[gb312]? = some (.cells #[(.slice none 0 0), (.slice none 0 0)] 25 (0, 0))) ∧ Aside0 (Below w.heap.size w w'))
 case atStart => exact ⟨(0), (rfl), H', ⟨Nat.le_refl _⟩, ⟨gN HO315⟩, ⟨Kd.V_mono HO1_0.out (fun _ hk => by first | exact ⟨hk.1.1.1.1, ⟨hk.2, ⟨hk.1.1.1.2, ⟨hk.1.1.2, hk.1.2⟩⟩⟩⟩ | (simp_all; done))⟩, ⟨Kd.V_mono HO1_1.out (fun _ hk => by first | exact ⟨hk.1.1.1.1, ⟨hk.2, ⟨hk.1.1.1.2, ⟨hk.1.1.2, hk.1.2⟩⟩⟩⟩ | (simp_all; done))⟩, ⟨Kd.V_mono HO2_0.out (fun _ hk => by first | exact ⟨hk.1.1.1.1, ⟨hk.2, ⟨hk.1.1.1.2, ⟨hk.1.1.2, hk.1.2⟩⟩⟩⟩ | (simp_all; done))⟩, ⟨Kd.V_mono HO2_1.out (fun _ hk => by first | exact ⟨hk.1.1.1.1, ⟨hk.2, ⟨hk.1.1.1.2, ⟨hk.1.1.2, hk.1.2⟩⟩⟩⟩ | (simp_all; done))⟩, ⟨gK BK310⟩, ⟨gK BK311⟩, ⟨gK BK312⟩, ⟨by repeat first | exact gB HB | refine below_set ?_ GE310.out | refine below_set ?_ GE311.out | refine below_set ?_ GE312.out⟩⟩
 case round =>
  clear H'
  try clear c1
  try clear c2
  try clear p2
  try clear c7
  try clear c8
  try clear c10
  try clear c11
  try clear hcz11_0
  try clear hcz11_1
  try clear hcz9_0
  try clear hcz9_1
  try clear hfz11_0
  try clear hfz11_1
  try clear hfz9_0
  try clear hfz9_1
  obtain ⟨x17_1, rfl, HA, HK1, HO_15, HO_311000, HO_311001, HO_312000, HO_312001, BK310, BK311, BK312, HB⟩ := hrel
  cases gk with
  | zero => exact absurd HA.out (by simp [pick_Dy.l0])
  | succ k1 =>
   have H := HA.out; clear HA
   simp only [pick_Dy.l0] at H
   by_cases c15 : x17_1 < (y313.length : Int)
   ·rw [if_pos c15] at H
    have c15b0 := decide_eq_true c15
    clear c15
    obtain ⟨c16, H⟩ := iS H
    have c16b0 := decide_eq_true c16
    clear c16
    obtain ⟨c17, H⟩ := iS H
    have c17b0 := decide_eq_true c17
    clear c17
    replace H := Option.bind_eq_some_iff.mp H
    obtain ⟨t318, A180, H⟩ := H
    replace H : (if t318 = 0 then (pick_Dy.l0 k1 a0 y313 (y313.length : Int) (wrap64 (x17_1 + 1)) l1_0 l1_1 l2_0 l2_1) else (none)) = some (r1, r2, r3) := H
    have A18 := gA A180
    clear A180
    obtain ⟨c19, H⟩ := iS H
    have c19b0 : (t318 == 0) = true := beq_iff_eq.mpr c19
    have c19b1 : (t318 != 0) = false := bne_eq_false_iff_eq.mpr c19
    clear c19
    have H' := gA H
    clear H
    have p316 : 0 ≤ (x17_1 : Int) := of_decide_eq_true (by assumption)
    have q316 : x17_1 < (y313.length : Int) := of_decide_eq_true (by assumption)
    obtain ⟨ad316, A316_0, c316_0, A316_1, c316_1, e316, hx316_0, hx316_1, hl316_0, hi316_0, hl316_1, hi316_1⟩ := at_T25 (Kd.N_reads' HO_15.out).2.2 x17_1 p316 q316
    cases e316
    obtain ⟨ce316, hce316, hMe316, hcc316⟩ := Kd.N_get HO_15.out z25 x17_1 p316 (by first | exact q316 | exact of_decide_eq_true (by assumption) | (have e_ := (Kd.N_reads' HO_15.out).1; omega))
    obtain ⟨ua316_0, uc316_0, ua316_1, uc316_1, rfl, ul316_0, ge316_0, ul316_1, ge316_1⟩ := k25_openF hMe316
    have hv316_0 := hcc316 0 _ rfl
    rw [Nat.add_zero] at hv316_0
    replace hv316_0 := Option.some.inj (hv316_0.symm.trans hx316_0)
    injection hv316_0 with hva_ hvn_ hvc_
    rw [hva_] at ge316_0
    rw [hvc_] at ul316_0
    have HL316_0 := gA (show Kd.V (Kd.int .i64) 3 _ w.heap.size _ _ ((rd_T25 y313 x17_1).f0) from Kd.V_mk ul316_0 ge316_0)
    clear hva_ hvn_ hvc_ ge316_0 ul316_0
    have hv316_1 := hcc316 1 _ rfl
    rw [add_field _ _ 1 (by omega)] at hv316_1
    replace hv316_1 := Option.some.inj (hv316_1.symm.trans hx316_1)
    injection hv316_1 with hva_ hvn_ hvc_
    rw [hva_] at ge316_1
    rw [hvc_] at ul316_1
    have HL316_1 := gA (show Kd.V k45 45 _ w.heap.size _ _ ((rd_T25 y313 x17_1).f1) from Kd.V_mk ul316_1 ge316_1)
    clear hva_ hvn_ hvc_ ge316_1 ul316_1 hcc316 hce316
    have HR316_0 := gA hi316_0
    have HC316_0 := gA hl316_0
    clear hi316_0 hl316_0
    have HR316_1 := gA hi316_1
    have HC316_1 := gA hl316_1
    clear hi316_1 hl316_1
    replace p316 := eq_true p316
    replace q316 := eq_true q316
    go_wp2_with (first | ((with_reducible refine gate_dst (N := 9) rfl ?_); refine box_event ?hg (N := 9) ?hd (cs := #[.slice none 0 0, .slice none 0 0]) (t := 25) ?hr ?_; (case hd => rfl); (case hg => rfl); (case hr => first | (go_simp; done) | (go_simp; rfl)); intro gb317 hg w20 hbox hb; replace HO_15 := gA (Kd.N_below (Kd.N_elderB (gN HO_15) gb317 (Nat.le_of_eq hg.symm)) hb); replace HO_311000 := gA (Kd.V_below (Kd.V_elderB (gV HO_311000) gb317 (Nat.le_of_eq hg.symm)) hb); replace HO_311001 := gA (Kd.V_below (Kd.V_elderB (gV HO_311001) gb317 (Nat.le_of_eq hg.symm)) hb); replace HO_312000 := gA (Kd.V_below (Kd.V_elderB (gV HO_312000) gb317 (Nat.le_of_eq hg.symm)) hb); replace HO_312001 := gA (Kd.V_below (Kd.V_elderB (gV HO_312001) gb317 (Nat.le_of_eq hg.symm)) hb); replace HL316_0 := gA (Kd.V_below (Kd.V_elderB (gV HL316_0) gb317 (Nat.le_of_eq hg.symm)) hb); replace HL316_1 := gA (Kd.V_below (Kd.V_elderB (gV HL316_1) gb317 (Nat.le_of_eq hg.symm)) hb); replace HR316_0 := gA (Kd.C_below (by repeat (first | (with_reducible exact HR316_0.out) | (with_reducible refine Kd.C_alloc ?_ _) | (with_reducible refine Kd.C_drewN ?_ _) | (with_reducible refine Kd.C_drew ?_) | exact HR316_0.out)) hb); replace HR316_1 := gA (Kd.C_below (by repeat (first | (with_reducible exact HR316_1.out) | (with_reducible refine Kd.C_alloc ?_ _) | (with_reducible refine Kd.C_drewN ?_ _) | (with_reducible refine Kd.C_drew ?_) | exact HR316_1.out)) hb); have BK317 := gA (hbox); have GW317 := gA ((by rw [hg]; exact (below_size (gB HB)) : w.heap.size ≤ gb317)); have GE317 := gA ((by rw [hg]; exact (below_size (gB HB)) : w.heap.size ≤ gb317)); replace HB := gA (below_step (gB HB) hb); have NB310_317 := gA ((by rw [hg]; exact Nat.ne_of_lt (blk_lt (gK BK310)) : gb310 ≠ gb317)); have NB317_310 := gA ((by rw [hg]; exact Nat.ne_of_gt (blk_lt (gK BK310)) : gb317 ≠ gb310)); replace BK310 := gA (blk_below (gK BK310) hb); have NB311_317 := gA ((by rw [hg]; exact Nat.ne_of_lt (blk_lt (gK BK311)) : gb311 ≠ gb317)); have NB317_311 := gA ((by rw [hg]; exact Nat.ne_of_gt (blk_lt (gK BK311)) : gb317 ≠ gb311)); replace BK311 := gA (blk_below (gK BK311) hb); have NB312_317 := gA ((by rw [hg]; exact Nat.ne_of_lt (blk_lt (gK BK312)) : gb312 ≠ gb317)); have NB317_312 := gA ((by rw [hg]; exact Nat.ne_of_gt (blk_lt (gK BK312)) : gb317 ≠ gb312)); replace BK312 := gA (blk_below (gK BK312) hb); clear hb hbox hg; have hnb21 := NB317_310.out; have hnc21 := NB310_317.out; have hnb22 := NB317_311.out; have hnc22 := NB311_317.out; have hnb23 := NB317_312.out; have hnc23 := NB312_317.out; obtain ⟨hcz24_0, hcz24_1, hfz24_0, hfz24_1⟩ := gz2 BK317) | ((with_reducible refine gate_callee (f := 19) rfl ?_); refine goesL_ (some 22) rfl rfl Try.func19 (by kernel_rfl) rfl #[.agg #[.slice A316_0 ((rd_T25 y313 x17_1).f0).length c316_0, .slice A316_1 ((rd_T25 y313 x17_1).f1).length c316_1]] rfl (by (try simp only [List.map_toArray, List.map_cons, List.map_nil]); first | done | rfl | (simp only [List.length_drop, List.length_take]; rfl)) ?_; (with_reducible refine (arr_Check.calls k1 _ _ ((rd_T25 y313 x17_1).f0) _ _ ((rd_T25 y313 x17_1).f1) t318 _ ?side1 ?side2 ?side3 ?side4 A18.out).mono ?_); (case side1 => repeat (first | exact ((Kd.V_reads' (by (with_reducible repeat (first | apply Kd.V_alloc | apply Kd.V_drewN | apply Kd.V_drew)); exact (Kd.V_mono (Kd.V_far (p := ⟨gb317, 1, none⟩) (Kd.V_far (p := ⟨gb317, 0, none⟩) (Kd.V_mono HL316_0.out (fun k_ hk => (⟨hk, hk.2⟩ : _ ∧ k_ ≠ gb317))) (fun _ hk => hk.2) (.slice A316_0 ((rd_T25 y313 x17_1).f0).length c316_0)) (fun _ hk => hk.2) (.slice A316_1 ((rd_T25 y313 x17_1).f1).length c316_1)) (fun _ h_ => h_.1)))).2.2) | (with_reducible refine Kd.C_alloc ?_ _) | (with_reducible refine Kd.C_drewN ?_ _) | (with_reducible refine Kd.C_drew ?_))); (case side2 => exact HC316_0.out); (case side3 => repeat (first | exact ((Kd.V_reads' (by (with_reducible repeat (first | apply Kd.V_alloc | apply Kd.V_drewN | apply Kd.V_drew)); exact (Kd.V_mono (Kd.V_far (p := ⟨gb317, 1, none⟩) (Kd.V_far (p := ⟨gb317, 0, none⟩) (Kd.V_mono HL316_1.out (fun k_ hk => (⟨hk, hk.2⟩ : _ ∧ k_ ≠ gb317))) (fun _ hk => hk.2) (.slice A316_0 ((rd_T25 y313 x17_1).f0).length c316_0)) (fun _ hk => hk.2) (.slice A316_1 ((rd_T25 y313 x17_1).f1).length c316_1)) (fun _ h_ => h_.1)))).2.2) | (with_reducible refine Kd.C_alloc ?_ _) | (with_reducible refine Kd.C_drewN ?_ _) | (with_reducible refine Kd.C_drew ?_))); (case side4 => exact HC316_1.out); rintro e w25 ⟨rfl, hb⟩; refine ⟨_, rfl, ?_⟩; replace HO_15 := gA (Kd.N_below (by (with_reducible repeat (first | apply Kd.N_alloc | apply Kd.N_drewN | apply Kd.N_drew)); exact (Kd.N_mono (Kd.N_far (p := ⟨gb317, 1, none⟩) (Kd.N_far (p := ⟨gb317, 0, none⟩) (Kd.N_mono HO_15.out (fun k_ hk => (⟨hk, hk.2⟩ : _ ∧ k_ ≠ gb317))) (fun _ hk => hk.2) (.slice A316_0 ((rd_T25 y313 x17_1).f0).length c316_0)) (fun _ hk => hk.2) (.slice A316_1 ((rd_T25 y313 x17_1).f1).length c316_1)) (fun _ h_ => h_.1))) hb); replace HO_311000 := gA (Kd.V_below (by (with_reducible repeat (first | apply Kd.V_alloc | apply Kd.V_drewN | apply Kd.V_drew)); exact (Kd.V_mono (Kd.V_far (p := ⟨gb317, 1, none⟩) (Kd.V_far (p := ⟨gb317, 0, none⟩) (Kd.V_mono HO_311000.out (fun k_ hk => (⟨hk, hk.2⟩ : _ ∧ k_ ≠ gb317))) (fun _ hk => hk.2) (.slice A316_0 ((rd_T25 y313 x17_1).f0).length c316_0)) (fun _ hk => hk.2) (.slice A316_1 ((rd_T25 y313 x17_1).f1).length c316_1)) (fun _ h_ => h_.1))) hb); replace HO_311001 := gA (Kd.V_below (by (with_reducible repeat (first | apply Kd.V_alloc | apply Kd.V_drewN | apply Kd.V_drew)); exact (Kd.V_mono (Kd.V_far (p := ⟨gb317, 1, none⟩) (Kd.V_far (p := ⟨gb317, 0, none⟩) (Kd.V_mono HO_311001.out (fun k_ hk => (⟨hk, hk.2⟩ : _ ∧ k_ ≠ gb317))) (fun _ hk => hk.2) (.slice A316_0 ((rd_T25 y313 x17_1).f0).length c316_0)) (fun _ hk => hk.2) (.slice A316_1 ((rd_T25 y313 x17_1).f1).length c316_1)) (fun _ h_ => h_.1))) hb); replace HO_312000 := gA (Kd.V_below (by (with_reducible repeat (first | apply Kd.V_alloc | apply Kd.V_drewN | apply Kd.V_drew)); exact (Kd.V_mono (Kd.V_far (p := ⟨gb317, 1, none⟩) (Kd.V_far (p := ⟨gb317, 0, none⟩) (Kd.V_mono HO_312000.out (fun k_ hk => (⟨hk, hk.2⟩ : _ ∧ k_ ≠ gb317))) (fun _ hk => hk.2) (.slice A316_0 ((rd_T25 y313 x17_1).f0).length c316_0)) (fun _ hk => hk.2) (.slice A316_1 ((rd_T25 y313 x17_1).f1).length c316_1)) (fun _ h_ => h_.1))) hb); replace HO_312001 := gA (Kd.V_below (by (with_reducible repeat (first | apply Kd.V_alloc | apply Kd.V_drewN | apply Kd.V_drew)); exact (Kd.V_mono (Kd.V_far (p := ⟨gb317, 1, none⟩) (Kd.V_far (p := ⟨gb317, 0, none⟩) (Kd.V_mono HO_312001.out (fun k_ hk => (⟨hk, hk.2⟩ : _ ∧ k_ ≠ gb317))) (fun _ hk => hk.2) (.slice A316_0 ((rd_T25 y313 x17_1).f0).length c316_0)) (fun _ hk => hk.2) (.slice A316_1 ((rd_T25 y313 x17_1).f1).length c316_1)) (fun _ h_ => h_.1))) hb); replace BK310 := gA (blk_below (g := gb310) (o := .cells #[.slice A1_0 l1_0.length c1_0, .slice A1_1 l1_1.length c1_1] 25 (0, 0)) (by refine blk_far ?_ NB310_317.out _; refine blk_far ?_ NB310_317.out _; exact gK BK310) hb); replace BK311 := gA (blk_below (g := gb311) (o := .cells #[.slice A2_0 l2_0.length c2_0, .slice A2_1 l2_1.length c2_1] 25 (0, 0)) (by refine blk_far ?_ NB311_317.out _; refine blk_far ?_ NB311_317.out _; exact gK BK311) hb); replace BK312 := gA (blk_below (g := gb312) (o := .cells #[.slice none 0 0, .slice none 0 0] 25 (0, 0)) (by refine blk_far ?_ NB312_317.out _; refine blk_far ?_ NB312_317.out _; exact gK BK312) hb); replace HR316_0 := gA (Kd.C_below ((Kd.V_reads' (by (with_reducible repeat (first | apply Kd.V_alloc | apply Kd.V_drewN | apply Kd.V_drew)); exact (Kd.V_mono (Kd.V_far (p := ⟨gb317, 1, none⟩) (Kd.V_far (p := ⟨gb317, 0, none⟩) (Kd.V_mono HL316_0.out (fun k_ hk => (⟨hk, hk.2⟩ : _ ∧ k_ ≠ gb317))) (fun _ hk => hk.2) (.slice A316_0 ((rd_T25 y313 x17_1).f0).length c316_0)) (fun _ hk => hk.2) (.slice A316_1 ((rd_T25 y313 x17_1).f1).length c316_1)) (fun _ h_ => h_.1)))).2.2) hb); replace HL316_0 := gA (Kd.V_below (by (with_reducible repeat (first | apply Kd.V_alloc | apply Kd.V_drewN | apply Kd.V_drew)); exact (Kd.V_mono (Kd.V_far (p := ⟨gb317, 1, none⟩) (Kd.V_far (p := ⟨gb317, 0, none⟩) (Kd.V_mono HL316_0.out (fun k_ hk => (⟨hk, hk.2⟩ : _ ∧ k_ ≠ gb317))) (fun _ hk => hk.2) (.slice A316_0 ((rd_T25 y313 x17_1).f0).length c316_0)) (fun _ hk => hk.2) (.slice A316_1 ((rd_T25 y313 x17_1).f1).length c316_1)) (fun _ h_ => h_.1))) hb); replace HR316_1 := gA (Kd.C_below ((Kd.V_reads' (by (with_reducible repeat (first | apply Kd.V_alloc | apply Kd.V_drewN | apply Kd.V_drew)); exact (Kd.V_mono (Kd.V_far (p := ⟨gb317, 1, none⟩) (Kd.V_far (p := ⟨gb317, 0, none⟩) (Kd.V_mono HL316_1.out (fun k_ hk => (⟨hk, hk.2⟩ : _ ∧ k_ ≠ gb317))) (fun _ hk => hk.2) (.slice A316_0 ((rd_T25 y313 x17_1).f0).length c316_0)) (fun _ hk => hk.2) (.slice A316_1 ((rd_T25 y313 x17_1).f1).length c316_1)) (fun _ h_ => h_.1)))).2.2) hb); replace HL316_1 := gA (Kd.V_below (by (with_reducible repeat (first | apply Kd.V_alloc | apply Kd.V_drewN | apply Kd.V_drew)); exact (Kd.V_mono (Kd.V_far (p := ⟨gb317, 1, none⟩) (Kd.V_far (p := ⟨gb317, 0, none⟩) (Kd.V_mono HL316_1.out (fun k_ hk => (⟨hk, hk.2⟩ : _ ∧ k_ ≠ gb317))) (fun _ hk => hk.2) (.slice A316_0 ((rd_T25 y313 x17_1).f0).length c316_0)) (fun _ hk => hk.2) (.slice A316_1 ((rd_T25 y313 x17_1).f1).length c316_1)) (fun _ h_ => h_.1))) hb); replace BK317 := gA (blk_below (g := gb317) (o := .cells #[.slice A316_0 ((rd_T25 y313 x17_1).f0).length c316_0, .slice A316_1 ((rd_T25 y313 x17_1).f1).length c316_1] 25 (0, 0)) (by refine blk_put (cs := #[.slice A316_0 ((rd_T25 y313 x17_1).f0).length c316_0, .slice none 0 0]) ?_ 1 _ rfl; refine blk_put (cs := #[.slice none 0 0, .slice none 0 0]) ?_ 0 _ rfl; exact gK BK317) hb); replace HB := gA (below_step (by repeat first | exact gB HB | refine below_set ?_ GE310.out | refine below_set ?_ GE311.out | refine below_set ?_ GE312.out | refine below_set ?_ GE317.out) hb); (try clear hb); (try clear hk)))
    go_roundg k1
    case measure => have := HK1.out; omega
    case rel => exact ⟨(wrap64 (x17_1 + 1)), (rfl), H', ⟨by have := HK1.out; omega⟩, ⟨Kd.N_mono HO_15.out (fun _ hk => ⟨hk.1.1, ⟨hk.1.2.1, ⟨hk.1.2.2.1, hk.1.2.2.2⟩⟩⟩)⟩, ⟨Kd.V_mono HO_311000.out (fun _ hk => ⟨hk.1.1, ⟨hk.1.2.1, ⟨hk.1.2.2.1, ⟨hk.1.2.2.2.1, hk.1.2.2.2.2⟩⟩⟩⟩)⟩, ⟨Kd.V_mono HO_311001.out (fun _ hk => ⟨hk.1.1, ⟨hk.1.2.1, ⟨hk.1.2.2.1, ⟨hk.1.2.2.2.1, hk.1.2.2.2.2⟩⟩⟩⟩)⟩, ⟨Kd.V_mono HO_312000.out (fun _ hk => ⟨hk.1.1, ⟨hk.1.2.1, ⟨hk.1.2.2.1, ⟨hk.1.2.2.2.1, hk.1.2.2.2.2⟩⟩⟩⟩)⟩, ⟨Kd.V_mono HO_312001.out (fun _ hk => ⟨hk.1.1, ⟨hk.1.2.1, ⟨hk.1.2.2.1, ⟨hk.1.2.2.2.1, hk.1.2.2.2.2⟩⟩⟩⟩)⟩, ⟨gK BK310⟩, ⟨gK BK311⟩, ⟨gK BK312⟩, ⟨by repeat first | exact gB HB | refine below_set ?_ GE310.out | refine below_set ?_ GE311.out | refine below_set ?_ GE312.out | refine below_set ?_ GE317.out⟩⟩
   ·rw [if_neg c15] at H
    have c15b0 := decide_eq_false c15
    clear c15
    replace H := Option.bind_eq_some_iff.mp H
    obtain ⟨⟨t319, t322⟩, A260, H⟩ := H
    replace H : ((arr_Copy.f k1 l2_0 l2_1).bind fun bt325 => (if a0 = 46 then (pick_Dy.j1 k1 a0 a0 (a0 == 46) t319 t322 bt325.1 bt325.2) else (pick_Dy.j1 k1 a0 a0 (a0 == 47) t319 t322 bt325.1 bt325.2))) = some (r1, r2, r3) := H
    have A26 := gA A260
    clear A260
    replace H := Option.bind_eq_some_iff.mp H
    obtain ⟨⟨t325, t328⟩, A270, H⟩ := H
    replace H : (if a0 = 46 then (pick_Dy.j1 k1 a0 a0 (a0 == 46) t319 t322 t325 t328) else (pick_Dy.j1 k1 a0 a0 (a0 == 47) t319 t322 t325 t328)) = some (r1, r2, r3) := H
    have A27 := gA A270
    clear A270
    have HC28 := gA H
    clear H
    try go_wp2
    replace HO_15 := gA (Kd.N_drew HO_15.out); replace HO_311000 := gA (Kd.V_drew HO_311000.out); replace HO_311001 := gA (Kd.V_drew HO_311001.out); replace HO_312000 := gA (Kd.V_drew HO_312000.out); replace HO_312001 := gA (Kd.V_drew HO_312001.out); replace BK310 := gA (blk_drew BK310.out); replace BK311 := gA (blk_drew BK311.out); replace BK312 := gA (blk_drew BK312.out); replace HB := gA (below_drew1 HB.out)
    refine start_ (n := 6) (S := fun w' => w'.cell? ⟨gb310, 0, none⟩ = some (.slice A1_0 l1_0.length c1_0) ∧ w'.cell? ⟨gb310, 1, none⟩ = some (.slice A1_1 l1_1.length c1_1) ∧ w'.cell? ⟨gb311, 0, none⟩ = some (.slice A2_0 l2_0.length c2_0) ∧ w'.cell? ⟨gb311, 1, none⟩ = some (.slice A2_1 l2_1.length c2_1)) (ds := [4, 5]) #[false, false, false, false, false, false] (by kernel_rfl) rfl rfl ⟨(blk_cell BK310.out 0).trans rfl, (blk_cell BK310.out 1).trans rfl, (blk_cell BK311.out 0).trans rfl, (blk_cell BK311.out 1).trans rfl⟩ (fun hHeld => ?_)
    generalize wr.drew = w29 at HO_15 HO_311000 HO_311001 HO_312000 HO_312001 BK310 BK311 BK312 HB hHeld ⊢
    refine take_ (i := 0) (N := some 28) (v := ?_) (a' := ?_) #[true, false, false, false, false, false] rfl rfl (by kernel_rfl) (fun _ _ _ h => h) (Or.inl ⟨by rfl, ?_⟩) hHeld ?_ ?_; rotate_left
    ·rintro w' ⟨s0, s1, s2, s3⟩; go_simp; with_reducible rfl
    rotate_left
    ·simp only [Act.put, List.setIfInBounds_toArray, List.set_cons_zero, List.set_cons_succ, i64_w, i32_w]; rfl
    refine take_ (i := 2) (N := some 30) (v := ?_) (a' := ?_) #[true, false, true, false, false, false] rfl rfl (by kernel_rfl) (fun _ _ _ h => h) (Or.inl ⟨by rfl, ?_⟩) hHeld ?_ ?_; rotate_left
    ·rintro w' ⟨s0, s1, s2, s3⟩; go_simp; with_reducible rfl
    rotate_left
    ·simp only [Act.put, List.setIfInBounds_toArray, List.set_cons_zero, List.set_cons_succ, i64_w, i32_w]; rfl
    refine one_ (i := 1) (N := some 29) #[true, true, true, false, false, false] rfl rfl (by kernel_rfl) (by decide) (fun K hK => ?_)
    refine goes_ Try.func20 (by kernel_rfl) rfl #[.agg #[.slice A1_0 l1_0.length c1_0, .slice A1_1 l1_1.length c1_1]] (by rfl) rfl rfl (by (try simp only [List.map_toArray, List.map_cons, List.map_nil]); first | done | rfl | (simp only [List.length_drop, List.length_take]; rfl)) ?_
    with_reducible refine (arr_Copy.calls k1 _ _ l1_0 (fun k_ => (((P1_0_ k_ ∨ P1_1_ k_ ∨ P2_0_ k_ ∨ P2_1_ k_) ∨ w.heap.size ≤ k_) ∧ (some k_ ≠ (.slice Ao14 y313.length co14 : Value).ownBlock ∧ (k_ ≠ gb310 ∧ (k_ ≠ gb311 ∧ k_ ≠ gb312))))) _ _ l1_1 t319 t322 _ ?side1 ?side2 ?side3 A26.out).mono ?_
    (case side1 => repeat (first | exact (Kd.V_reads' HO_311000.out).2.2 | (with_reducible refine Kd.C_alloc ?_ _) | (with_reducible refine Kd.C_drewN ?_ _) | (with_reducible refine Kd.C_drew ?_)))
    (case side2 => exact (Kd.V_reads' HO_311000.out).2.1)
    (case side3 => exact HO_311001.out)
    rintro e w30 ⟨v320, v323, rfl, ho0, ho1, hb⟩
    refine ⟨_, rfl, ?_⟩
    replace HO_311000 := gA (Kd.V_mono (Kd.V_told (Kd.V_told (Kd.V_old (gV HO_311000) hb) (Kd.R_base ho0)) (by first | exact Kd.N_base ho1 | exact Kd.R_base ho1)) (fun _ h_ => h_.1)); replace HO_311001 := gA (Kd.V_mono (Kd.V_told (Kd.V_told (Kd.V_old (gV HO_311001) hb) (Kd.R_base ho0)) (by first | exact Kd.N_base ho1 | exact Kd.R_base ho1)) (fun _ h_ => h_.1)); replace HO_312000 := gA (Kd.V_mono (Kd.V_told (Kd.V_told (Kd.V_old (gV HO_312000) hb) (Kd.R_base ho0)) (by first | exact Kd.N_base ho1 | exact Kd.R_base ho1)) (fun _ h_ => h_.1)); replace HO_312001 := gA (Kd.V_mono (Kd.V_told (Kd.V_told (Kd.V_old (gV HO_312001) hb) (Kd.R_base ho0)) (by first | exact Kd.N_base ho1 | exact Kd.R_base ho1)) (fun _ h_ => h_.1)); have HO321 := gA (Kd.R_lower (Kd.R_newM (M := fun k_ => (w.heap.size ≤ k_)) (Kd.R_mono (ok' := fun k_ => True) ho0 (fun _ hk_ => trivial)) (below_size (gB HB)) (fun k_ h_ => h_)) (below_size (gB HB))); have HO324 := gA (Kd.N_lower (Kd.N_mono (ok' := fun k_ => ((P1_0_ k_ ∨ P1_1_ k_ ∨ P2_0_ k_ ∨ P2_1_ k_) ∨ w.heap.size ≤ k_) ∧ some k_ ≠ (v320 : Value).ownBlock ∧ some k_ ≠ (.slice Ao14 y313.length co14 : Value).ownBlock ∧ k_ ≠ gb310 ∧ k_ ≠ gb311 ∧ k_ ≠ gb312) ho1 (fun k_ hk_ => ⟨Or.elim hk_.1 (fun hs_ => hs_.1) (fun hn_ => (.inr (Nat.le_trans (below_size (gB HB)) hn_))), hk_.2, Or.elim hk_.1 (fun hs_ => hs_.2.1) (fun hn_ => (Kd.fresh' (Kd.N_lt (gN HO_15)) k_ hn_)), Or.elim hk_.1 (fun hs_ => hs_.2.2.1) (fun hn_ => (Kd.freshB (gK BK310) k_ hn_)), Or.elim hk_.1 (fun hs_ => hs_.2.2.2.1) (fun hn_ => (Kd.freshB (gK BK311) k_ hn_)), Or.elim hk_.1 (fun hs_ => hs_.2.2.2.2) (fun hn_ => (Kd.freshB (gK BK312) k_ hn_))⟩)) (below_size (gB HB))); replace HO_15 := gA (Kd.N_mono (Kd.N_told (Kd.N_told (Kd.N_old (gN HO_15) hb) (Kd.R_base ho0)) (by first | exact Kd.N_base ho1 | exact Kd.R_base ho1)) (fun _ h_ => h_.1)); replace BK310 := gA (blk_below (gK BK310) hb); replace BK311 := gA (blk_below (gK BK311) hb); replace BK312 := gA (blk_below (gK BK312) hb); replace HB := gA (below_step (gB HB) hb); (try clear hb); (try clear ho0); (try clear ho1)
    refine hK.out _ _ ⟨(blk_cell BK310.out 0).trans rfl, (blk_cell BK310.out 1).trans rfl, (blk_cell BK311.out 0).trans rfl, (blk_cell BK311.out 1).trans rfl⟩ (fun hHeld => ?_); clear hK K
    refine norm_ (a' := ?_) ?_ ?_; rotate_left
    ·show Act.put _ (some 29) _ = _
     simp only [Act.put, List.setIfInBounds_toArray, List.set_cons_zero, List.set_cons_succ, i64_w, i32_w]; rfl
    refine one_ (i := 3) (N := some 31) #[true, true, true, true, false, false] rfl rfl (by kernel_rfl) (by decide) (fun K hK => ?_)
    refine goes_ Try.func20 (by kernel_rfl) rfl #[.agg #[.slice A2_0 l2_0.length c2_0, .slice A2_1 l2_1.length c2_1]] (by rfl) rfl rfl (by (try simp only [List.map_toArray, List.map_cons, List.map_nil]); first | done | rfl | (simp only [List.length_drop, List.length_take]; rfl)) ?_
    with_reducible refine (arr_Copy.calls k1 _ _ l2_0 (fun k_ => (((((P1_0_ k_ ∨ P1_1_ k_ ∨ P2_0_ k_ ∨ P2_1_ k_) ∨ w.heap.size ≤ k_) ∧ (some k_ ≠ (.slice Ao14 y313.length co14 : Value).ownBlock ∧ (k_ ≠ gb310 ∧ (k_ ≠ gb311 ∧ k_ ≠ gb312)))) ∧ some k_ ≠ (v320 : Value).ownBlock) ∧ some k_ ≠ (v323 : Value).ownBlock)) _ _ l2_1 t325 t328 _ ?side1 ?side2 ?side3 A27.out).mono ?_
    (case side1 => repeat (first | exact (Kd.V_reads' HO_312000.out).2.2 | (with_reducible refine Kd.C_alloc ?_ _) | (with_reducible refine Kd.C_drewN ?_ _) | (with_reducible refine Kd.C_drew ?_)))
    (case side2 => exact (Kd.V_reads' HO_312000.out).2.1)
    (case side3 => exact HO_312001.out)
    rintro e w31 ⟨v326, v329, rfl, ho0, ho1, hb⟩
    refine ⟨_, rfl, ?_⟩
    replace HO_311000 := gA (Kd.V_mono (Kd.V_told (Kd.V_told (Kd.V_old (gV HO_311000) hb) (Kd.R_base ho0)) (by first | exact Kd.N_base ho1 | exact Kd.R_base ho1)) (fun _ h_ => h_.1)); replace HO_311001 := gA (Kd.V_mono (Kd.V_told (Kd.V_told (Kd.V_old (gV HO_311001) hb) (Kd.R_base ho0)) (by first | exact Kd.N_base ho1 | exact Kd.R_base ho1)) (fun _ h_ => h_.1)); replace HO_312000 := gA (Kd.V_mono (Kd.V_told (Kd.V_told (Kd.V_old (gV HO_312000) hb) (Kd.R_base ho0)) (by first | exact Kd.N_base ho1 | exact Kd.R_base ho1)) (fun _ h_ => h_.1)); replace HO_312001 := gA (Kd.V_mono (Kd.V_told (Kd.V_told (Kd.V_old (gV HO_312001) hb) (Kd.R_base ho0)) (by first | exact Kd.N_base ho1 | exact Kd.R_base ho1)) (fun _ h_ => h_.1)); have HO327 := gA (Kd.R_lower (Kd.R_new' (Kd.R_newM (M := fun k_ => (w.heap.size ≤ k_)) (Kd.R_mono (ok' := fun k_ => True) ho0 (fun _ hk_ => trivial)) (below_size (gB HB)) (fun k_ h_ => h_)) (Kd.R_lt (gR HO321))) (below_size (gB HB))); have HO330 := gA (Kd.N_lower (Kd.N_mono (ok' := fun k_ => ((P1_0_ k_ ∨ P1_1_ k_ ∨ P2_0_ k_ ∨ P2_1_ k_) ∨ w.heap.size ≤ k_) ∧ some k_ ≠ (v326 : Value).ownBlock ∧ some k_ ≠ (.slice Ao14 y313.length co14 : Value).ownBlock ∧ some k_ ≠ (v320 : Value).ownBlock ∧ some k_ ≠ (v323 : Value).ownBlock ∧ k_ ≠ gb310 ∧ k_ ≠ gb311 ∧ k_ ≠ gb312) ho1 (fun k_ hk_ => ⟨Or.elim hk_.1 (fun hs_ => hs_.1.1.1) (fun hn_ => (.inr (Nat.le_trans (below_size (gB HB)) hn_))), hk_.2, Or.elim hk_.1 (fun hs_ => hs_.1.1.2.1) (fun hn_ => (Kd.fresh' (Kd.N_lt (gN HO_15)) k_ hn_)), Or.elim hk_.1 (fun hs_ => hs_.1.2) (fun hn_ => (Kd.fresh' (Kd.R_lt (gR HO321)) k_ hn_)), Or.elim hk_.1 (fun hs_ => hs_.2) (fun hn_ => (Kd.fresh' (Kd.N_lt (gN HO324)) k_ hn_)), Or.elim hk_.1 (fun hs_ => hs_.1.1.2.2.1) (fun hn_ => (Kd.freshB (gK BK310) k_ hn_)), Or.elim hk_.1 (fun hs_ => hs_.1.1.2.2.2.1) (fun hn_ => (Kd.freshB (gK BK311) k_ hn_)), Or.elim hk_.1 (fun hs_ => hs_.1.1.2.2.2.2) (fun hn_ => (Kd.freshB (gK BK312) k_ hn_))⟩)) (below_size (gB HB))); replace HO_15 := gA (Kd.N_mono (Kd.N_told (Kd.N_told (Kd.N_old (gN HO_15) hb) (Kd.R_base ho0)) (by first | exact Kd.N_base ho1 | exact Kd.R_base ho1)) (fun _ h_ => h_.1)); replace HO321 := gA (Kd.R_elder' (gR HO321) (Kd.R_base ho0) hb); replace HO324 := gA (Kd.N_mono (Kd.N_told (Kd.N_told (Kd.N_old (gN HO324) hb) (Kd.R_base ho0)) (by first | exact Kd.N_base ho1 | exact Kd.R_base ho1)) (fun _ h_ => h_.1)); replace BK310 := gA (blk_below (gK BK310) hb); replace BK311 := gA (blk_below (gK BK311) hb); replace BK312 := gA (blk_below (gK BK312) hb); replace HB := gA (below_step (gB HB) hb); (try clear hb); (try clear ho0); (try clear ho1)
    obtain ⟨Ao32, co32, eo32⟩ := Kd.R_slice HO321.out
    (first | subst eo32 | (injection eo32 with f1_ f2_ f3_; have f4_ := f1_.symm; have f5_ := f3_.symm; clear f1_ f2_ f3_; subst f4_; subst f5_))
    obtain ⟨Ao34, co34, eo34⟩ := Kd.N_slice HO324.out
    (first | subst eo34 | (injection eo34 with f1_ f2_ f3_; have f4_ := f1_.symm; have f5_ := f3_.symm; clear f1_ f2_ f3_; subst f4_; subst f5_))
    obtain ⟨Ao36, co36, eo36⟩ := Kd.R_slice HO327.out
    (first | subst eo36 | (injection eo36 with f1_ f2_ f3_; have f4_ := f1_.symm; have f5_ := f3_.symm; clear f1_ f2_ f3_; subst f4_; subst f5_))
    obtain ⟨Ao38, co38, eo38⟩ := Kd.N_slice HO330.out
    (first | subst eo38 | (injection eo38 with f1_ f2_ f3_; have f4_ := f1_.symm; have f5_ := f3_.symm; clear f1_ f2_ f3_; subst f4_; subst f5_))
    refine hK.out _ _ ⟨(blk_cell BK310.out 0).trans rfl, (blk_cell BK310.out 1).trans rfl, (blk_cell BK311.out 0).trans rfl, (blk_cell BK311.out 1).trans rfl⟩ (fun hHeld => ?_); clear hK K
    refine norm_ (a' := ?_) ?_ ?_; rotate_left
    ·show Act.put _ (some 31) _ = _
     simp only [Act.put, List.setIfInBounds_toArray, List.set_cons_zero, List.set_cons_succ, i64_w, i32_w]; rfl
    refine last_ (i := 4) (N := none) #[true, true, true, true, true, false] rfl rfl (by kernel_rfl) (by decide) (fun K hK => ?_)
    have hs33 := gz BK310 0 rfl
    have hfs33 := blk_frozen BK310.out 0
    have hns33_1 := NB311_310.out
    have hns33_2 := NB312_310.out
    have hms33_1 := NB310_311.out
    have hms33_2 := NB310_312.out
    have hs35 := gz BK310 1 rfl
    have hfs35 := blk_frozen BK310.out 1
    have hns35_1 := NB311_310.out
    have hns35_2 := NB312_310.out
    have hms35_1 := NB310_311.out
    have hms35_2 := NB310_312.out
    refine skip_ (w1 := ?_) (by rfl) rfl ?_ ?_; rotate_left
    ·go_simp; rfl
    refine hK.out _ _ ?_; clear hK K
    refine last_ (i := 5) (N := none) #[true, true, true, true, true, true] rfl rfl (by kernel_rfl) (by decide) (fun K hK => ?_)
    have hs37 := gz BK311 0 rfl
    have hfs37 := blk_frozen BK311.out 0
    have hns37_0 := NB310_311.out
    have hns37_2 := NB312_311.out
    have hms37_0 := NB311_310.out
    have hms37_2 := NB311_312.out
    have hs39 := gz BK311 1 rfl
    have hfs39 := blk_frozen BK311.out 1
    have hns39_0 := NB310_311.out
    have hns39_2 := NB312_311.out
    have hms39_0 := NB311_310.out
    have hms39_2 := NB311_312.out
    refine skip_ (w1 := ?_) (by rfl) rfl ?_ ?_; rotate_left
    ·go_simp; rfl
    refine hK.out _ _ ?_; clear hK K
    refine done_ (by kernel_rfl) ?_
    go_upto_if 34 with (fail)
    go_cut [34] (fun v34 wc => ∃ (kq : Nat) (x34_27 : Bool), v34 = .bool x34_27 ∧ Aside0 (pick_Dy.j1 kq a0 a0 x34_27 t319 t322 t325 t328 = some (r1, r2, r3)) ∧ Aside0 (kq ≤ k1) ∧ Aside0 (Kd.R (Kd.int .i64) 3 wc w.heap.size (fun k_ => (w.heap.size ≤ k_) ∧ some k_ ≠ ((.slice Ao36 t325.length co36) : Value).ownBlock) (.slice Ao32 t319.length co32) t319) ∧ Aside0 (Kd.N k45 45 wc w.heap.size (fun k_ => ((P1_0_ k_ ∨ P1_1_ k_ ∨ P2_0_ k_ ∨ P2_1_ k_) ∨ w.heap.size ≤ k_) ∧ some k_ ≠ ((.slice Ao32 t319.length co32) : Value).ownBlock ∧ some k_ ≠ ((.slice Ao36 t325.length co36) : Value).ownBlock ∧ some k_ ≠ ((.slice Ao38 t328.length co38) : Value).ownBlock ∧ k_ ≠ gb310 ∧ k_ ≠ gb311 ∧ k_ ≠ gb312) (.slice Ao34 t322.length co34) t322) ∧ Aside0 (Kd.R (Kd.int .i64) 3 wc w.heap.size (fun k_ => (w.heap.size ≤ k_) ∧ some k_ ≠ ((.slice Ao32 t319.length co32) : Value).ownBlock) (.slice Ao36 t325.length co36) t325) ∧ Aside0 (Kd.N k45 45 wc w.heap.size (fun k_ => ((P1_0_ k_ ∨ P1_1_ k_ ∨ P2_0_ k_ ∨ P2_1_ k_) ∨ w.heap.size ≤ k_) ∧ some k_ ≠ ((.slice Ao32 t319.length co32) : Value).ownBlock ∧ some k_ ≠ ((.slice Ao34 t322.length co34) : Value).ownBlock ∧ some k_ ≠ ((.slice Ao36 t325.length co36) : Value).ownBlock ∧ k_ ≠ gb310 ∧ k_ ≠ gb311 ∧ k_ ≠ gb312) (.slice Ao38 t328.length co38) t328) ∧ Aside0 (wc.heap[gb310]? = some (.cells #[(.slice Ao32 t319.length co32), (.slice Ao34 t322.length co34)] 25 (0, 0))) ∧ Aside0 (wc.heap[gb311]? = some (.cells #[(.slice Ao36 t325.length co36), (.slice Ao38 t328.length co38)] 25 (0, 0))) ∧ Aside0 (wc.heap[gb312]? = some (.cells #[(.slice none 0 0), (.slice none 0 0)] 25 (0, 0))) ∧ Aside0 (Below w.heap.size w wc))
    case first =>
     have H := HC28.out; clear HC28
     by_cases c40 : a0 = 46
     ·rw [if_pos c40] at H
      have c40b0 : (a0 == 46) = true := beq_iff_eq.mpr c40
      have c40b1 : (a0 != 46) = false := bne_eq_false_iff_eq.mpr c40
      clear c40
      (first | rw [c40b0] | rw [c40b1] | (simp only [i64_w, i32_w]; rw [c40b0]) | skip)
      have H' := gA H
      clear H
      go_wp2
      all_goals (go_meet; (case rel => exact ⟨_, ((a0 == 46)), (by first | rfl | (simp; done) | (simp [*]; done) | (exfalso; simp_all; done) | (exfalso; simp_all; omega)), H', ⟨by have := HK1.out; first | omega | exact Nat.le_refl _⟩, ⟨Kd.R_mono (Kd.R_far (p := ⟨gb311, 1, none⟩) (Kd.R_far (p := ⟨gb311, 0, none⟩) (Kd.R_far (p := ⟨gb310, 1, none⟩) (Kd.R_far (p := ⟨gb310, 0, none⟩) (Kd.R_types (Kd.R_types HO321.out BK310.out (by decide)) BK311.out (by decide)) (fun _ hk => hk.1.2) (.slice Ao32 t319.length co32)) (fun _ hk => hk.1.2) (.slice Ao34 t322.length co34)) (fun _ hk => hk.2) (.slice Ao36 t325.length co36)) (fun _ hk => hk.2) (.slice Ao38 t328.length co38)) (fun _ hk => by first | exact ⟨hk.1.1.1.1, hk.1.1.2⟩ | (simp_all; done))⟩, ⟨Kd.N_mono (Kd.N_far (p := ⟨gb311, 1, none⟩) (Kd.N_far (p := ⟨gb311, 0, none⟩) (Kd.N_far (p := ⟨gb310, 1, none⟩) (Kd.N_far (p := ⟨gb310, 0, none⟩) (Kd.N_mono (Kd.N_mono HO324.out (fun k_ hk => (⟨hk, hk.1.1.2.2.2.1⟩ : _ ∧ k_ ≠ gb310))) (fun k_ hk => (⟨hk, hk.1.1.1.2.2.2.2.1⟩ : _ ∧ k_ ≠ gb311))) (fun _ hk => hk.1.2) (.slice Ao32 t319.length co32)) (fun _ hk => hk.1.2) (.slice Ao34 t322.length co34)) (fun _ hk => hk.2) (.slice Ao36 t325.length co36)) (fun _ hk => hk.2) (.slice Ao38 t328.length co38)) (fun _ hk => by first | exact ⟨hk.1.1.1.1.1, ⟨hk.1.1.1.1.2.1, ⟨hk.1.1.1.2, ⟨hk.1.1.2, ⟨hk.1.1.1.1.2.2.2.1, ⟨hk.1.1.1.1.2.2.2.2.1, hk.1.1.1.1.2.2.2.2.2⟩⟩⟩⟩⟩⟩ | (simp_all; done))⟩, ⟨Kd.R_mono (Kd.R_far (p := ⟨gb311, 1, none⟩) (Kd.R_far (p := ⟨gb311, 0, none⟩) (Kd.R_far (p := ⟨gb310, 1, none⟩) (Kd.R_far (p := ⟨gb310, 0, none⟩) (Kd.R_types (Kd.R_types HO327.out BK310.out (by decide)) BK311.out (by decide)) (fun _ hk => hk.1.2) (.slice Ao32 t319.length co32)) (fun _ hk => hk.1.2) (.slice Ao34 t322.length co34)) (fun _ hk => hk.2) (.slice Ao36 t325.length co36)) (fun _ hk => hk.2) (.slice Ao38 t328.length co38)) (fun _ hk => by first | exact ⟨hk.1.1.1.1, hk.1.1.2⟩ | (simp_all; done))⟩, ⟨Kd.N_mono (Kd.N_far (p := ⟨gb311, 1, none⟩) (Kd.N_far (p := ⟨gb311, 0, none⟩) (Kd.N_far (p := ⟨gb310, 1, none⟩) (Kd.N_far (p := ⟨gb310, 0, none⟩) (Kd.N_mono (Kd.N_mono HO330.out (fun k_ hk => (⟨hk, hk.2.2.2.2.2.1⟩ : _ ∧ k_ ≠ gb310))) (fun k_ hk => (⟨hk, hk.1.2.2.2.2.2.2.1⟩ : _ ∧ k_ ≠ gb311))) (fun _ hk => hk.1.2) (.slice Ao32 t319.length co32)) (fun _ hk => hk.1.2) (.slice Ao34 t322.length co34)) (fun _ hk => hk.2) (.slice Ao36 t325.length co36)) (fun _ hk => hk.2) (.slice Ao38 t328.length co38)) (fun _ hk => by first | exact ⟨hk.1.1.1, ⟨hk.1.1.2.2.2.1, ⟨hk.1.1.2.2.2.2.1, ⟨hk.1.1.2.1, ⟨hk.1.1.2.2.2.2.2.1, ⟨hk.1.1.2.2.2.2.2.2.1, hk.1.1.2.2.2.2.2.2.2⟩⟩⟩⟩⟩⟩ | (simp_all; done))⟩, ⟨by (with_reducible repeat (first | refine blk_drewN ?_ _ | refine blk_drew ?_ | refine blk_alloc ?_ _)); refine blk_far ?_ NB310_311.out _; (with_reducible repeat (first | refine blk_drewN ?_ _ | refine blk_drew ?_ | refine blk_alloc ?_ _)); refine blk_far ?_ NB310_311.out _; (with_reducible repeat (first | refine blk_drewN ?_ _ | refine blk_drew ?_ | refine blk_alloc ?_ _)); refine blk_put (cs := #[.slice Ao32 t319.length co32, .slice A1_1 l1_1.length c1_1]) ?_ 1 _ rfl; (with_reducible repeat (first | refine blk_drewN ?_ _ | refine blk_drew ?_ | refine blk_alloc ?_ _)); refine blk_put (cs := #[.slice A1_0 l1_0.length c1_0, .slice A1_1 l1_1.length c1_1]) ?_ 0 _ rfl; exact gK BK310⟩, ⟨by (with_reducible repeat (first | refine blk_drewN ?_ _ | refine blk_drew ?_ | refine blk_alloc ?_ _)); refine blk_put (cs := #[.slice Ao36 t325.length co36, .slice A2_1 l2_1.length c2_1]) ?_ 1 _ rfl; (with_reducible repeat (first | refine blk_drewN ?_ _ | refine blk_drew ?_ | refine blk_alloc ?_ _)); refine blk_put (cs := #[.slice A2_0 l2_0.length c2_0, .slice A2_1 l2_1.length c2_1]) ?_ 0 _ rfl; (with_reducible repeat (first | refine blk_drewN ?_ _ | refine blk_drew ?_ | refine blk_alloc ?_ _)); refine blk_far ?_ NB311_310.out _; (with_reducible repeat (first | refine blk_drewN ?_ _ | refine blk_drew ?_ | refine blk_alloc ?_ _)); refine blk_far ?_ NB311_310.out _; exact gK BK311⟩, ⟨by (with_reducible repeat (first | refine blk_drewN ?_ _ | refine blk_drew ?_ | refine blk_alloc ?_ _)); refine blk_far ?_ NB312_311.out _; (with_reducible repeat (first | refine blk_drewN ?_ _ | refine blk_drew ?_ | refine blk_alloc ?_ _)); refine blk_far ?_ NB312_311.out _; (with_reducible repeat (first | refine blk_drewN ?_ _ | refine blk_drew ?_ | refine blk_alloc ?_ _)); refine blk_far ?_ NB312_310.out _; (with_reducible repeat (first | refine blk_drewN ?_ _ | refine blk_drew ?_ | refine blk_alloc ?_ _)); refine blk_far ?_ NB312_310.out _; exact gK BK312⟩, ⟨by repeat first | exact gB HB | refine below_set ?_ GE310.out | refine below_set ?_ GE311.out | refine below_set ?_ GE312.out⟩⟩))
     ·rw [if_neg c40] at H
      have c40b0 : (a0 == 46) = false := beq_eq_false_iff_ne.mpr c40
      have c40b1 : (a0 != 46) = true := bne_iff_ne.mpr c40
      (first | rw [c40b0] | rw [c40b1] | (simp only [i64_w, i32_w]; rw [c40b0]) | skip)
      have H' := gA H
      clear H
      go_wp2
      all_goals (go_meet; (case rel => exact ⟨_, ((a0 == 47)), (by first | rfl | (simp; done) | (simp [*]; done) | (exfalso; simp_all; done) | (exfalso; simp_all; omega)), H', ⟨by have := HK1.out; first | omega | exact Nat.le_refl _⟩, ⟨Kd.R_mono (Kd.R_far (p := ⟨gb311, 1, none⟩) (Kd.R_far (p := ⟨gb311, 0, none⟩) (Kd.R_far (p := ⟨gb310, 1, none⟩) (Kd.R_far (p := ⟨gb310, 0, none⟩) (Kd.R_types (Kd.R_types HO321.out BK310.out (by decide)) BK311.out (by decide)) (fun _ hk => hk.1.2) (.slice Ao32 t319.length co32)) (fun _ hk => hk.1.2) (.slice Ao34 t322.length co34)) (fun _ hk => hk.2) (.slice Ao36 t325.length co36)) (fun _ hk => hk.2) (.slice Ao38 t328.length co38)) (fun _ hk => by first | exact ⟨hk.1.1.1.1, hk.1.1.2⟩ | (simp_all; done))⟩, ⟨Kd.N_mono (Kd.N_far (p := ⟨gb311, 1, none⟩) (Kd.N_far (p := ⟨gb311, 0, none⟩) (Kd.N_far (p := ⟨gb310, 1, none⟩) (Kd.N_far (p := ⟨gb310, 0, none⟩) (Kd.N_mono (Kd.N_mono HO324.out (fun k_ hk => (⟨hk, hk.1.1.2.2.2.1⟩ : _ ∧ k_ ≠ gb310))) (fun k_ hk => (⟨hk, hk.1.1.1.2.2.2.2.1⟩ : _ ∧ k_ ≠ gb311))) (fun _ hk => hk.1.2) (.slice Ao32 t319.length co32)) (fun _ hk => hk.1.2) (.slice Ao34 t322.length co34)) (fun _ hk => hk.2) (.slice Ao36 t325.length co36)) (fun _ hk => hk.2) (.slice Ao38 t328.length co38)) (fun _ hk => by first | exact ⟨hk.1.1.1.1.1, ⟨hk.1.1.1.1.2.1, ⟨hk.1.1.1.2, ⟨hk.1.1.2, ⟨hk.1.1.1.1.2.2.2.1, ⟨hk.1.1.1.1.2.2.2.2.1, hk.1.1.1.1.2.2.2.2.2⟩⟩⟩⟩⟩⟩ | (simp_all; done))⟩, ⟨Kd.R_mono (Kd.R_far (p := ⟨gb311, 1, none⟩) (Kd.R_far (p := ⟨gb311, 0, none⟩) (Kd.R_far (p := ⟨gb310, 1, none⟩) (Kd.R_far (p := ⟨gb310, 0, none⟩) (Kd.R_types (Kd.R_types HO327.out BK310.out (by decide)) BK311.out (by decide)) (fun _ hk => hk.1.2) (.slice Ao32 t319.length co32)) (fun _ hk => hk.1.2) (.slice Ao34 t322.length co34)) (fun _ hk => hk.2) (.slice Ao36 t325.length co36)) (fun _ hk => hk.2) (.slice Ao38 t328.length co38)) (fun _ hk => by first | exact ⟨hk.1.1.1.1, hk.1.1.2⟩ | (simp_all; done))⟩, ⟨Kd.N_mono (Kd.N_far (p := ⟨gb311, 1, none⟩) (Kd.N_far (p := ⟨gb311, 0, none⟩) (Kd.N_far (p := ⟨gb310, 1, none⟩) (Kd.N_far (p := ⟨gb310, 0, none⟩) (Kd.N_mono (Kd.N_mono HO330.out (fun k_ hk => (⟨hk, hk.2.2.2.2.2.1⟩ : _ ∧ k_ ≠ gb310))) (fun k_ hk => (⟨hk, hk.1.2.2.2.2.2.2.1⟩ : _ ∧ k_ ≠ gb311))) (fun _ hk => hk.1.2) (.slice Ao32 t319.length co32)) (fun _ hk => hk.1.2) (.slice Ao34 t322.length co34)) (fun _ hk => hk.2) (.slice Ao36 t325.length co36)) (fun _ hk => hk.2) (.slice Ao38 t328.length co38)) (fun _ hk => by first | exact ⟨hk.1.1.1, ⟨hk.1.1.2.2.2.1, ⟨hk.1.1.2.2.2.2.1, ⟨hk.1.1.2.1, ⟨hk.1.1.2.2.2.2.2.1, ⟨hk.1.1.2.2.2.2.2.2.1, hk.1.1.2.2.2.2.2.2.2⟩⟩⟩⟩⟩⟩ | (simp_all; done))⟩, ⟨by (with_reducible repeat (first | refine blk_drewN ?_ _ | refine blk_drew ?_ | refine blk_alloc ?_ _)); refine blk_far ?_ NB310_311.out _; (with_reducible repeat (first | refine blk_drewN ?_ _ | refine blk_drew ?_ | refine blk_alloc ?_ _)); refine blk_far ?_ NB310_311.out _; (with_reducible repeat (first | refine blk_drewN ?_ _ | refine blk_drew ?_ | refine blk_alloc ?_ _)); refine blk_put (cs := #[.slice Ao32 t319.length co32, .slice A1_1 l1_1.length c1_1]) ?_ 1 _ rfl; (with_reducible repeat (first | refine blk_drewN ?_ _ | refine blk_drew ?_ | refine blk_alloc ?_ _)); refine blk_put (cs := #[.slice A1_0 l1_0.length c1_0, .slice A1_1 l1_1.length c1_1]) ?_ 0 _ rfl; exact gK BK310⟩, ⟨by (with_reducible repeat (first | refine blk_drewN ?_ _ | refine blk_drew ?_ | refine blk_alloc ?_ _)); refine blk_put (cs := #[.slice Ao36 t325.length co36, .slice A2_1 l2_1.length c2_1]) ?_ 1 _ rfl; (with_reducible repeat (first | refine blk_drewN ?_ _ | refine blk_drew ?_ | refine blk_alloc ?_ _)); refine blk_put (cs := #[.slice A2_0 l2_0.length c2_0, .slice A2_1 l2_1.length c2_1]) ?_ 0 _ rfl; (with_reducible repeat (first | refine blk_drewN ?_ _ | refine blk_drew ?_ | refine blk_alloc ?_ _)); refine blk_far ?_ NB311_310.out _; (with_reducible repeat (first | refine blk_drewN ?_ _ | refine blk_drew ?_ | refine blk_alloc ?_ _)); refine blk_far ?_ NB311_310.out _; exact gK BK311⟩, ⟨by (with_reducible repeat (first | refine blk_drewN ?_ _ | refine blk_drew ?_ | refine blk_alloc ?_ _)); refine blk_far ?_ NB312_311.out _; (with_reducible repeat (first | refine blk_drewN ?_ _ | refine blk_drew ?_ | refine blk_alloc ?_ _)); refine blk_far ?_ NB312_311.out _; (with_reducible repeat (first | refine blk_drewN ?_ _ | refine blk_drew ?_ | refine blk_alloc ?_ _)); refine blk_far ?_ NB312_310.out _; (with_reducible repeat (first | refine blk_drewN ?_ _ | refine blk_drew ?_ | refine blk_alloc ?_ _)); refine blk_far ?_ NB312_310.out _; exact gK BK312⟩, ⟨by repeat first | exact gB HB | refine below_set ?_ GE310.out | refine below_set ?_ GE311.out | refine below_set ?_ GE312.out⟩⟩))
    case rest =>
     clear HC28
     try clear c1
     try clear c2
     try clear p2
     try clear c3
     try clear p3
     try clear q3
     try clear hx3
     try clear c4
     try clear p6
     try clear c7
     try clear c8
     try clear c10
     try clear c11
     try clear c15
     try clear c15b0
     try clear c16
     try clear c16b0
     try clear c17
     try clear c17b0
     try clear c19
     try clear c19b0
     try clear c19b1
     try clear c20
     try clear c21
     try clear c22
     try clear c23
     try clear c31
     try clear p31
     try clear q31
     try clear hx31
     try clear c40
     try clear c40b0
     try clear c40b1
     try clear hcz11_0
     try clear hcz11_1
     try clear hcz24_0
     try clear hcz24_1
     try clear hcz9_0
     try clear hcz9_1
     try clear hfz11_0
     try clear hfz11_1
     try clear hfz24_0
     try clear hfz24_1
     try clear hfz9_0
     try clear hfz9_1
     try clear hx316_0
     try clear hx316_1
     try clear p2
     try clear p316
     try clear q316
     obtain ⟨kq, x34_27, rfl, HA, HJ27, HO_311000, HO_311001, HO_312000, HO_312001, BK310, BK311, BK312, HB⟩ := hcut
     cases kq with
     | zero => exact absurd HA.out (by simp [pick_Dy.j1])
     | succ kj27 =>
      have H := HA.out; clear HA
      simp only [pick_Dy.j1] at H
      by_cases c41 : x34_27 = true
      ·subst c41
       have H1 : (none) = some (r1, r2, r3) := by rw [if_pos rfl] at H; exact H
       clear H; have H := H1; clear H1
       exact absurd H (by simp)
      ·replace c41 := Bool.eq_false_iff.mpr c41
       subst c41
       have H1 : (if a0 = 52 then ((pick_from.f kj27 t319 t322 t325 t328).bind fun bt331 => (some (bt331.1, bt331.2.1, bt331.2.2))) else (if a0 = 53 then ((pick_from.f kj27 t325 t328 t319 t322).bind fun bt338 => (some (bt338.1, bt338.2.1, bt338.2.2))) else (if a0 = 50 then (pick_Dy.j2 kj27 a0 a0 (a0 == 50) t319 t322 t325 t328) else (pick_Dy.j2 kj27 a0 a0 (a0 == 51) t319 t322 t325 t328)))) = some (r1, r2, r3) := by rw [if_neg (show ¬ (false = true) by decide)] at H; exact H
       clear H; have H := H1; clear H1
       by_cases c42 : a0 = 52
       ·rw [if_pos c42] at H
        have c42b0 : (a0 == 52) = true := beq_iff_eq.mpr c42
        have c42b1 : (a0 != 52) = false := bne_eq_false_iff_eq.mpr c42
        clear c42
        replace H := Option.bind_eq_some_iff.mp H
        obtain ⟨⟨t331, t334, t337⟩, A430, H⟩ := H
        replace H : (some (t331, t334, t337)) = some (r1, r2, r3) := H
        have A43 := gA A430
        clear A430
        simp only [Option.some.injEq, Prod.mk.injEq] at H
        obtain ⟨rfl, rfl, rfl⟩ := H
        have hnb44 := NB310_311.out
        have hnc44 := NB311_310.out
        have hnb45 := NB310_312.out
        have hnc45 := NB312_310.out
        obtain ⟨hcz46_0, hcz46_1, hfz46_0, hfz46_1⟩ := gz2 BK310
        have hnb47 := NB311_312.out
        have hnc47 := NB312_311.out
        obtain ⟨hcz48_0, hcz48_1, hfz48_0, hfz48_1⟩ := gz2 BK311
        go_wp2_with (first | ((with_reducible refine gate_callee (f := 22) rfl ?_); refine goesL_ (some 48) rfl rfl Try.func22 (by kernel_rfl) rfl #[.agg #[.slice Ao32 t319.length co32, .slice Ao34 t322.length co34], .agg #[.slice Ao36 t325.length co36, .slice Ao38 t328.length co38]] rfl (by (try simp only [List.map_toArray, List.map_cons, List.map_nil]); first | done | rfl | (simp only [List.length_drop, List.length_take]; rfl)) ?_; (with_reducible refine (pick_from.calls kj27 _ _ t319 _ _ t322 _ _ t325 (fun k_ => (((P1_0_ k_ ∨ P1_1_ k_ ∨ P2_0_ k_ ∨ P2_1_ k_) ∨ w.heap.size ≤ k_) ∧ (some k_ ≠ (.slice Ao32 t319.length co32 : Value).ownBlock ∧ (some k_ ≠ (.slice Ao34 t322.length co34 : Value).ownBlock ∧ (some k_ ≠ (.slice Ao36 t325.length co36 : Value).ownBlock ∧ (k_ ≠ gb310 ∧ (k_ ≠ gb311 ∧ k_ ≠ gb312))))))) _ _ t328 t331 t334 t337 _ ?side1 ?side2 ?side3 ?side4 ?side5 ?side6 ?side7 A43.out).mono ?_); (case side1 => repeat (first | exact (Kd.R_reads' HO_311000.out).2.2 | (with_reducible refine Kd.C_alloc ?_ _) | (with_reducible refine Kd.C_drewN ?_ _) | (with_reducible refine Kd.C_drew ?_))); (case side2 => exact (Kd.R_reads' HO_311000.out).2.1); (case side3 => repeat (first | exact (Kd.N_reads' HO_311001.out).2.2 | (with_reducible refine Kd.C_alloc ?_ _) | (with_reducible refine Kd.C_drewN ?_ _) | (with_reducible refine Kd.C_drew ?_))); (case side4 => exact (Kd.N_reads' HO_311001.out).2.1); (case side5 => repeat (first | exact (Kd.R_reads' HO_312000.out).2.2 | (with_reducible refine Kd.C_alloc ?_ _) | (with_reducible refine Kd.C_drewN ?_ _) | (with_reducible refine Kd.C_drew ?_))); (case side6 => exact (Kd.R_reads' HO_312000.out).2.1); (case side7 => exact Kd.N_V (HO_312001.out)); rintro e w49 ⟨v332, v335, rfl, ho0, ho1, hb⟩; refine ⟨_, rfl, ?_⟩; replace HO_312001 := gA (Kd.N_mono (Kd.N_told (Kd.N_told (Kd.N_old (gN HO_312001) hb) (Kd.R_base ho0)) (by first | exact Kd.N_base ho1 | exact Kd.R_base ho1)) (fun _ h_ => h_.1)); have HO333 := gA (Kd.R_lower (Kd.R_new' (Kd.R_new' (Kd.R_newM (M := fun k_ => (w.heap.size ≤ k_)) (Kd.R_mono (ok' := fun k_ => True) ho0 (fun _ hk_ => trivial)) (below_size (gB HB)) (fun k_ h_ => h_)) (Kd.R_lt (gR HO_311000))) (Kd.R_lt (gR HO_312000))) (below_size (gB HB))); have HO336 := gA (Kd.N_lower (Kd.N_mono (ok' := fun k_ => ((P1_0_ k_ ∨ P1_1_ k_ ∨ P2_0_ k_ ∨ P2_1_ k_) ∨ w.heap.size ≤ k_) ∧ some k_ ≠ (v332 : Value).ownBlock ∧ some k_ ≠ (.slice Ao32 t319.length co32 : Value).ownBlock ∧ some k_ ≠ (.slice Ao34 t322.length co34 : Value).ownBlock ∧ some k_ ≠ (.slice Ao36 t325.length co36 : Value).ownBlock ∧ k_ ≠ gb310 ∧ k_ ≠ gb311 ∧ k_ ≠ gb312) ho1 (fun k_ hk_ => ⟨Or.elim hk_.1 (fun hs_ => hs_.1) (fun hn_ => (.inr (Nat.le_trans (below_size (gB HB)) hn_))), hk_.2, Or.elim hk_.1 (fun hs_ => hs_.2.1) (fun hn_ => (Kd.fresh' (Kd.R_lt (gR HO_311000)) k_ hn_)), Or.elim hk_.1 (fun hs_ => hs_.2.2.1) (fun hn_ => (Kd.fresh' (Kd.N_lt (gN HO_311001)) k_ hn_)), Or.elim hk_.1 (fun hs_ => hs_.2.2.2.1) (fun hn_ => (Kd.fresh' (Kd.R_lt (gR HO_312000)) k_ hn_)), Or.elim hk_.1 (fun hs_ => hs_.2.2.2.2.1) (fun hn_ => (Kd.freshB (gK BK310) k_ hn_)), Or.elim hk_.1 (fun hs_ => hs_.2.2.2.2.2.1) (fun hn_ => (Kd.freshB (gK BK311) k_ hn_)), Or.elim hk_.1 (fun hs_ => hs_.2.2.2.2.2.2) (fun hn_ => (Kd.freshB (gK BK312) k_ hn_))⟩)) (below_size (gB HB))); replace HO_311000 := gA (Kd.R_elder' (gR HO_311000) (Kd.R_base ho0) hb); replace HO_311001 := gA (Kd.N_mono (Kd.N_told (Kd.N_told (Kd.N_old (gN HO_311001) hb) (Kd.R_base ho0)) (by first | exact Kd.N_base ho1 | exact Kd.R_base ho1)) (fun _ h_ => h_.1)); replace HO_312000 := gA (Kd.R_elder' (gR HO_312000) (Kd.R_base ho0) hb); replace BK310 := gA (blk_below (gK BK310) hb); replace BK311 := gA (blk_below (gK BK311) hb); replace BK312 := gA (blk_below (gK BK312) hb); replace HB := gA (below_step (gB HB) hb); (try clear hb); (try clear ho0); (try clear ho1); obtain ⟨Ao50, co50, eo50⟩ := Kd.R_slice HO333.out; subst eo50; obtain ⟨hcz51_0, hcz51_1, hfz51_0, hfz51_1⟩ := gz2 BK312; obtain ⟨Ao52, co52, eo52⟩ := Kd.N_slice HO336.out; subst eo52))
        refine bodyPost_ret (results_ct rfl _ _ gb312 25 #[.slice Ao50 t331.length co50, .slice Ao52 t334.length co52] (0, 0) _ rfl (by refine blk_put (cs := #[.slice Ao50 t331.length co50, .slice none 0 0]) ?_ 1 _ rfl; refine blk_put (cs := #[.slice none 0 0, .slice none 0 0]) ?_ 0 _ rfl; exact gK BK312) Try.underlying25 rfl (by kernel_rfl)) rfl ?_
        exact ⟨_, _, rfl, Kd.R_mono (Kd.R_far (p := ⟨gb312, 1, none⟩) (Kd.R_far (p := ⟨gb312, 0, none⟩) (Kd.R_types HO333.out BK312.out (by decide)) (fun _ hk => hk.2) (.slice Ao50 t331.length co50)) (fun _ hk => hk.2) (.slice Ao52 t334.length co52)) (fun _ hk => hk.1.1.1.1), Kd.N_mono (Kd.N_far (p := ⟨gb312, 1, none⟩) (Kd.N_far (p := ⟨gb312, 0, none⟩) (Kd.N_mono HO336.out (fun k_ hk => (⟨hk, hk.2.2.2.2.2.2.2⟩ : _ ∧ k_ ≠ gb312))) (fun _ hk => hk.2) (.slice Ao50 t331.length co50)) (fun _ hk => hk.2) (.slice Ao52 t334.length co52)) (fun _ hk => ⟨hk.1.1, hk.1.2.1⟩), by repeat first | exact gB HB | refine below_set ?_ GE310.out | refine below_set ?_ GE311.out | refine below_set ?_ GE312.out⟩
       ·rw [if_neg c42] at H
        have c42b0 : (a0 == 52) = false := beq_eq_false_iff_ne.mpr c42
        have c42b1 : (a0 != 52) = true := bne_iff_ne.mpr c42
        by_cases c53 : a0 = 53
        ·rw [if_pos c53] at H
         have c53b0 : (a0 == 53) = true := beq_iff_eq.mpr c53
         have c53b1 : (a0 != 53) = false := bne_eq_false_iff_eq.mpr c53
         clear c53
         replace H := Option.bind_eq_some_iff.mp H
         obtain ⟨⟨t338, t341, t344⟩, A540, H⟩ := H
         replace H : (some (t338, t341, t344)) = some (r1, r2, r3) := H
         have A54 := gA A540
         clear A540
         simp only [Option.some.injEq, Prod.mk.injEq] at H
         obtain ⟨rfl, rfl, rfl⟩ := H
         have hnb55 := NB311_310.out
         have hnc55 := NB310_311.out
         have hnb56 := NB311_312.out
         have hnc56 := NB312_311.out
         obtain ⟨hcz57_0, hcz57_1, hfz57_0, hfz57_1⟩ := gz2 BK311
         have hnb58 := NB310_312.out
         have hnc58 := NB312_310.out
         obtain ⟨hcz59_0, hcz59_1, hfz59_0, hfz59_1⟩ := gz2 BK310
         go_wp2_with (first | ((with_reducible refine gate_callee (f := 22) rfl ?_); refine goesL_ (some 55) rfl rfl Try.func22 (by kernel_rfl) rfl #[.agg #[.slice Ao36 t325.length co36, .slice Ao38 t328.length co38], .agg #[.slice Ao32 t319.length co32, .slice Ao34 t322.length co34]] rfl (by (try simp only [List.map_toArray, List.map_cons, List.map_nil]); first | done | rfl | (simp only [List.length_drop, List.length_take]; rfl)) ?_; (with_reducible refine (pick_from.calls kj27 _ _ t325 _ _ t328 _ _ t319 (fun k_ => (((P1_0_ k_ ∨ P1_1_ k_ ∨ P2_0_ k_ ∨ P2_1_ k_) ∨ w.heap.size ≤ k_) ∧ (some k_ ≠ (.slice Ao32 t319.length co32 : Value).ownBlock ∧ (some k_ ≠ (.slice Ao36 t325.length co36 : Value).ownBlock ∧ (some k_ ≠ (.slice Ao38 t328.length co38 : Value).ownBlock ∧ (k_ ≠ gb310 ∧ (k_ ≠ gb311 ∧ k_ ≠ gb312))))))) _ _ t322 t338 t341 t344 _ ?side1 ?side2 ?side3 ?side4 ?side5 ?side6 ?side7 A54.out).mono ?_); (case side1 => repeat (first | exact (Kd.R_reads' HO_312000.out).2.2 | (with_reducible refine Kd.C_alloc ?_ _) | (with_reducible refine Kd.C_drewN ?_ _) | (with_reducible refine Kd.C_drew ?_))); (case side2 => exact (Kd.R_reads' HO_312000.out).2.1); (case side3 => repeat (first | exact (Kd.N_reads' HO_312001.out).2.2 | (with_reducible refine Kd.C_alloc ?_ _) | (with_reducible refine Kd.C_drewN ?_ _) | (with_reducible refine Kd.C_drew ?_))); (case side4 => exact (Kd.N_reads' HO_312001.out).2.1); (case side5 => repeat (first | exact (Kd.R_reads' HO_311000.out).2.2 | (with_reducible refine Kd.C_alloc ?_ _) | (with_reducible refine Kd.C_drewN ?_ _) | (with_reducible refine Kd.C_drew ?_))); (case side6 => exact (Kd.R_reads' HO_311000.out).2.1); (case side7 => exact Kd.N_V (HO_311001.out)); rintro e w60 ⟨v339, v342, rfl, ho0, ho1, hb⟩; refine ⟨_, rfl, ?_⟩; replace HO_311001 := gA (Kd.N_mono (Kd.N_told (Kd.N_told (Kd.N_old (gN HO_311001) hb) (Kd.R_base ho0)) (by first | exact Kd.N_base ho1 | exact Kd.R_base ho1)) (fun _ h_ => h_.1)); have HO340 := gA (Kd.R_lower (Kd.R_new' (Kd.R_new' (Kd.R_newM (M := fun k_ => (w.heap.size ≤ k_)) (Kd.R_mono (ok' := fun k_ => True) ho0 (fun _ hk_ => trivial)) (below_size (gB HB)) (fun k_ h_ => h_)) (Kd.R_lt (gR HO_311000))) (Kd.R_lt (gR HO_312000))) (below_size (gB HB))); have HO343 := gA (Kd.N_lower (Kd.N_mono (ok' := fun k_ => ((P1_0_ k_ ∨ P1_1_ k_ ∨ P2_0_ k_ ∨ P2_1_ k_) ∨ w.heap.size ≤ k_) ∧ some k_ ≠ (v339 : Value).ownBlock ∧ some k_ ≠ (.slice Ao32 t319.length co32 : Value).ownBlock ∧ some k_ ≠ (.slice Ao36 t325.length co36 : Value).ownBlock ∧ some k_ ≠ (.slice Ao38 t328.length co38 : Value).ownBlock ∧ k_ ≠ gb310 ∧ k_ ≠ gb311 ∧ k_ ≠ gb312) ho1 (fun k_ hk_ => ⟨Or.elim hk_.1 (fun hs_ => hs_.1) (fun hn_ => (.inr (Nat.le_trans (below_size (gB HB)) hn_))), hk_.2, Or.elim hk_.1 (fun hs_ => hs_.2.1) (fun hn_ => (Kd.fresh' (Kd.R_lt (gR HO_311000)) k_ hn_)), Or.elim hk_.1 (fun hs_ => hs_.2.2.1) (fun hn_ => (Kd.fresh' (Kd.R_lt (gR HO_312000)) k_ hn_)), Or.elim hk_.1 (fun hs_ => hs_.2.2.2.1) (fun hn_ => (Kd.fresh' (Kd.N_lt (gN HO_312001)) k_ hn_)), Or.elim hk_.1 (fun hs_ => hs_.2.2.2.2.1) (fun hn_ => (Kd.freshB (gK BK310) k_ hn_)), Or.elim hk_.1 (fun hs_ => hs_.2.2.2.2.2.1) (fun hn_ => (Kd.freshB (gK BK311) k_ hn_)), Or.elim hk_.1 (fun hs_ => hs_.2.2.2.2.2.2) (fun hn_ => (Kd.freshB (gK BK312) k_ hn_))⟩)) (below_size (gB HB))); replace HO_311000 := gA (Kd.R_elder' (gR HO_311000) (Kd.R_base ho0) hb); replace HO_312000 := gA (Kd.R_elder' (gR HO_312000) (Kd.R_base ho0) hb); replace HO_312001 := gA (Kd.N_mono (Kd.N_told (Kd.N_told (Kd.N_old (gN HO_312001) hb) (Kd.R_base ho0)) (by first | exact Kd.N_base ho1 | exact Kd.R_base ho1)) (fun _ h_ => h_.1)); replace BK310 := gA (blk_below (gK BK310) hb); replace BK311 := gA (blk_below (gK BK311) hb); replace BK312 := gA (blk_below (gK BK312) hb); replace HB := gA (below_step (gB HB) hb); (try clear hb); (try clear ho0); (try clear ho1); obtain ⟨Ao61, co61, eo61⟩ := Kd.R_slice HO340.out; subst eo61; obtain ⟨hcz62_0, hcz62_1, hfz62_0, hfz62_1⟩ := gz2 BK312; obtain ⟨Ao63, co63, eo63⟩ := Kd.N_slice HO343.out; subst eo63))
         refine bodyPost_ret (results_ct rfl _ _ gb312 25 #[.slice Ao61 t338.length co61, .slice Ao63 t341.length co63] (0, 0) _ rfl (by refine blk_put (cs := #[.slice Ao61 t338.length co61, .slice none 0 0]) ?_ 1 _ rfl; refine blk_put (cs := #[.slice none 0 0, .slice none 0 0]) ?_ 0 _ rfl; exact gK BK312) Try.underlying25 rfl (by kernel_rfl)) rfl ?_
         exact ⟨_, _, rfl, Kd.R_mono (Kd.R_far (p := ⟨gb312, 1, none⟩) (Kd.R_far (p := ⟨gb312, 0, none⟩) (Kd.R_types HO340.out BK312.out (by decide)) (fun _ hk => hk.2) (.slice Ao61 t338.length co61)) (fun _ hk => hk.2) (.slice Ao63 t341.length co63)) (fun _ hk => hk.1.1.1.1), Kd.N_mono (Kd.N_far (p := ⟨gb312, 1, none⟩) (Kd.N_far (p := ⟨gb312, 0, none⟩) (Kd.N_mono HO343.out (fun k_ hk => (⟨hk, hk.2.2.2.2.2.2.2⟩ : _ ∧ k_ ≠ gb312))) (fun _ hk => hk.2) (.slice Ao61 t338.length co61)) (fun _ hk => hk.2) (.slice Ao63 t341.length co63)) (fun _ hk => ⟨hk.1.1, hk.1.2.1⟩), by repeat first | exact gB HB | refine below_set ?_ GE310.out | refine below_set ?_ GE311.out | refine below_set ?_ GE312.out⟩
        ·rw [if_neg c53] at H
         have c53b0 : (a0 == 53) = false := beq_eq_false_iff_ne.mpr c53
         have c53b1 : (a0 != 53) = true := bne_iff_ne.mpr c53
         have HC64 := gA H
         clear H
         go_upto_if 58 with (fail)
         go_cut [58] (fun v58 wc => ∃ (kq : Nat) (x58_63 : Bool), v58 = .bool x58_63 ∧ Aside0 (pick_Dy.j2 kq a0 a0 x58_63 t319 t322 t325 t328 = some (r1, r2, r3)) ∧ Aside0 (kq ≤ kj27) ∧ Aside0 (Kd.R (Kd.int .i64) 3 wc w.heap.size (fun k_ => (w.heap.size ≤ k_) ∧ some k_ ≠ ((.slice Ao36 t325.length co36) : Value).ownBlock) (.slice Ao32 t319.length co32) t319) ∧ Aside0 (Kd.N k45 45 wc w.heap.size (fun k_ => ((P1_0_ k_ ∨ P1_1_ k_ ∨ P2_0_ k_ ∨ P2_1_ k_) ∨ w.heap.size ≤ k_) ∧ some k_ ≠ ((.slice Ao32 t319.length co32) : Value).ownBlock ∧ some k_ ≠ ((.slice Ao36 t325.length co36) : Value).ownBlock ∧ some k_ ≠ ((.slice Ao38 t328.length co38) : Value).ownBlock ∧ k_ ≠ gb310 ∧ k_ ≠ gb311 ∧ k_ ≠ gb312) (.slice Ao34 t322.length co34) t322) ∧ Aside0 (Kd.R (Kd.int .i64) 3 wc w.heap.size (fun k_ => (w.heap.size ≤ k_) ∧ some k_ ≠ ((.slice Ao32 t319.length co32) : Value).ownBlock) (.slice Ao36 t325.length co36) t325) ∧ Aside0 (Kd.N k45 45 wc w.heap.size (fun k_ => ((P1_0_ k_ ∨ P1_1_ k_ ∨ P2_0_ k_ ∨ P2_1_ k_) ∨ w.heap.size ≤ k_) ∧ some k_ ≠ ((.slice Ao32 t319.length co32) : Value).ownBlock ∧ some k_ ≠ ((.slice Ao34 t322.length co34) : Value).ownBlock ∧ some k_ ≠ ((.slice Ao36 t325.length co36) : Value).ownBlock ∧ k_ ≠ gb310 ∧ k_ ≠ gb311 ∧ k_ ≠ gb312) (.slice Ao38 t328.length co38) t328) ∧ Aside0 (wc.heap[gb310]? = some (.cells #[(.slice Ao32 t319.length co32), (.slice Ao34 t322.length co34)] 25 (0, 0))) ∧ Aside0 (wc.heap[gb311]? = some (.cells #[(.slice Ao36 t325.length co36), (.slice Ao38 t328.length co38)] 25 (0, 0))) ∧ Aside0 (wc.heap[gb312]? = some (.cells #[(.slice none 0 0), (.slice none 0 0)] 25 (0, 0))) ∧ Aside0 (Below w.heap.size w wc))
         case first =>
          have H := HC64.out; clear HC64
          by_cases c65 : a0 = 50
          ·rw [if_pos c65] at H
           have c65b0 : (a0 == 50) = true := beq_iff_eq.mpr c65
           have c65b1 : (a0 != 50) = false := bne_eq_false_iff_eq.mpr c65
           clear c65
           (first | rw [c65b0] | rw [c65b1] | (simp only [i64_w, i32_w]; rw [c65b0]) | skip)
           have H' := gA H
           clear H
           go_wp2
           all_goals (go_meet; (case rel => exact ⟨_, ((a0 == 50)), (by first | rfl | (simp; done) | (simp [*]; done) | (exfalso; simp_all; done) | (exfalso; simp_all; omega)), H', ⟨by have := HK1.out; have := HJ27.out; first | omega | exact Nat.le_refl _⟩, ⟨gR HO_311000⟩, ⟨gN HO_311001⟩, ⟨gR HO_312000⟩, ⟨gN HO_312001⟩, ⟨gK BK310⟩, ⟨gK BK311⟩, ⟨gK BK312⟩, ⟨gB HB⟩⟩))
          ·rw [if_neg c65] at H
           have c65b0 : (a0 == 50) = false := beq_eq_false_iff_ne.mpr c65
           have c65b1 : (a0 != 50) = true := bne_iff_ne.mpr c65
           (first | rw [c65b0] | rw [c65b1] | (simp only [i64_w, i32_w]; rw [c65b0]) | skip)
           have H' := gA H
           clear H
           go_wp2
           all_goals (go_meet; (case rel => exact ⟨_, ((a0 == 51)), (by first | rfl | (simp; done) | (simp [*]; done) | (exfalso; simp_all; done) | (exfalso; simp_all; omega)), H', ⟨by have := HK1.out; have := HJ27.out; first | omega | exact Nat.le_refl _⟩, ⟨gR HO_311000⟩, ⟨gN HO_311001⟩, ⟨gR HO_312000⟩, ⟨gN HO_312001⟩, ⟨gK BK310⟩, ⟨gK BK311⟩, ⟨gK BK312⟩, ⟨gB HB⟩⟩))
         case rest =>
          clear HC64
          try clear c1
          try clear c2
          try clear p2
          try clear c3
          try clear p3
          try clear q3
          try clear hx3
          try clear c4
          try clear c5
          try clear c6
          try clear p6
          try clear c7
          try clear c8
          try clear c10
          try clear c11
          try clear c15
          try clear c15b0
          try clear c16
          try clear c16b0
          try clear c17
          try clear c17b0
          try clear c19
          try clear c19b0
          try clear c19b1
          try clear c20
          try clear c21
          try clear c22
          try clear c23
          try clear c31
          try clear p31
          try clear q31
          try clear hx31
          try clear c40
          try clear c40b0
          try clear c40b1
          try clear c41
          try clear c42
          try clear c42b0
          try clear c42b1
          try clear c44
          try clear c45
          try clear c47
          try clear c53
          try clear c53b0
          try clear c53b1
          try clear c55
          try clear c56
          try clear c58
          try clear p64
          try clear c65
          try clear c65b0
          try clear c65b1
          try clear hcz11_0
          try clear hcz11_1
          try clear hcz24_0
          try clear hcz24_1
          try clear hcz46_0
          try clear hcz46_1
          try clear hcz48_0
          try clear hcz48_1
          try clear hcz51_0
          try clear hcz51_1
          try clear hcz57_0
          try clear hcz57_1
          try clear hcz59_0
          try clear hcz59_1
          try clear hcz62_0
          try clear hcz62_1
          try clear hcz9_0
          try clear hcz9_1
          try clear hfz11_0
          try clear hfz11_1
          try clear hfz24_0
          try clear hfz24_1
          try clear hfz46_0
          try clear hfz46_1
          try clear hfz48_0
          try clear hfz48_1
          try clear hfz51_0
          try clear hfz51_1
          try clear hfz57_0
          try clear hfz57_1
          try clear hfz59_0
          try clear hfz59_1
          try clear hfz62_0
          try clear hfz62_1
          try clear hfz9_0
          try clear hfz9_1
          try clear hx316_0
          try clear hx316_1
          try clear p2
          try clear p3
          try clear p31
          try clear p316
          try clear p6
          try clear q3
          try clear q31
          try clear q316
          obtain ⟨kq, x58_63, rfl, HA, HJ63, HO_311000, HO_311001, HO_312000, HO_312001, BK310, BK311, BK312, HB⟩ := hcut
          cases kq with
          | zero => exact absurd HA.out (by simp [pick_Dy.j2])
          | succ kj63 =>
           have H := HA.out; clear HA
           simp only [pick_Dy.j2] at H
           by_cases c66 : x58_63 = true
           ·subst c66
            have H1 : ((pick_repeated.f kj63 t319 t322 t325 t328 (a0 == 51)).bind fun bt345 => (some (bt345.1, bt345.2.1, bt345.2.2))) = some (r1, r2, r3) := by rw [if_pos rfl] at H; exact H
            clear H; have H := H1; clear H1
            replace H := Option.bind_eq_some_iff.mp H
            obtain ⟨⟨t345, t348, t351⟩, A670, H⟩ := H
            replace H : (some (t345, t348, t351)) = some (r1, r2, r3) := H
            have A67 := gA A670
            clear A670
            simp only [Option.some.injEq, Prod.mk.injEq] at H
            obtain ⟨rfl, rfl, rfl⟩ := H
            have hnb68 := NB310_311.out
            have hnc68 := NB311_310.out
            have hnb69 := NB310_312.out
            have hnc69 := NB312_310.out
            obtain ⟨hcz70_0, hcz70_1, hfz70_0, hfz70_1⟩ := gz2 BK310
            have hnb71 := NB311_312.out
            have hnc71 := NB312_311.out
            obtain ⟨hcz72_0, hcz72_1, hfz72_0, hfz72_1⟩ := gz2 BK311
            go_wp2_with (first | ((with_reducible refine gate_callee (f := 23) rfl ?_); refine goesL_ (some 65) rfl rfl Try.func23 (by kernel_rfl) rfl #[.agg #[.slice Ao32 t319.length co32, .slice Ao34 t322.length co34], .agg #[.slice Ao36 t325.length co36, .slice Ao38 t328.length co38], .bool (a0 == 51)] rfl (by (try simp only [List.map_toArray, List.map_cons, List.map_nil]); first | done | rfl | (simp only [List.length_drop, List.length_take]; rfl)) ?_; (with_reducible refine (pick_repeated.calls kj63 _ _ t319 _ _ t322 (fun k_ => some k_ = (.slice Ao36 t325.length co36 : Value).ownBlock) _ _ t325 (fun k_ => (((P1_0_ k_ ∨ P1_1_ k_ ∨ P2_0_ k_ ∨ P2_1_ k_) ∨ w.heap.size ≤ k_) ∧ (some k_ ≠ (.slice Ao32 t319.length co32 : Value).ownBlock ∧ (some k_ ≠ (.slice Ao34 t322.length co34 : Value).ownBlock ∧ (some k_ ≠ (.slice Ao36 t325.length co36 : Value).ownBlock ∧ (k_ ≠ gb310 ∧ (k_ ≠ gb311 ∧ k_ ≠ gb312))))))) _ _ t328 (a0 == 51) t345 t348 t351 _ ?side1 ?side2 ?side3 ?side4 ?side5 ?side6 A67.out).mono ?_); (case side1 => repeat (first | exact (Kd.R_reads' HO_311000.out).2.2 | (with_reducible refine Kd.C_alloc ?_ _) | (with_reducible refine Kd.C_drewN ?_ _) | (with_reducible refine Kd.C_drew ?_))); (case side2 => exact (Kd.R_reads' HO_311000.out).2.1); (case side3 => repeat (first | exact (Kd.N_reads' HO_311001.out).2.2 | (with_reducible refine Kd.C_alloc ?_ _) | (with_reducible refine Kd.C_drewN ?_ _) | (with_reducible refine Kd.C_drew ?_))); (case side4 => exact (Kd.N_reads' HO_311001.out).2.1); (case side5 => exact Kd.R_V (Kd.R_tight rfl (Kd.R_types (Kd.R_types (Kd.R_types (Kd.R_apart' (Kd.R_apart' (HO_312000.out) (Kd.N_typed HO_311001.out) (by decide)) (Kd.N_typed HO_312001.out) (by decide)) BK310.out (by decide)) BK311.out (by decide)) BK312.out (by decide)))); (case side6 => exact Kd.N_V (HO_312001.out)); rintro e w73 ⟨v346, v349, rfl, ho0, ho1, hb⟩; refine ⟨_, rfl, ?_⟩; have HO347 := gA (Kd.R_lower (Kd.R_new' (Kd.R_new' (Kd.R_newM (M := fun k_ => (w.heap.size ≤ k_)) (Kd.R_mono (ok' := fun k_ => True) ho0 (fun _ hk_ => trivial)) (below_size (gB HB)) (fun k_ h_ => h_)) (Kd.R_lt (gR HO_311000))) (Kd.R_lt (gR HO_312000))) (below_size (gB HB))); have HO350 := gA (Kd.N_lower (Kd.N_mono (ok' := fun k_ => ((P1_0_ k_ ∨ P1_1_ k_ ∨ P2_0_ k_ ∨ P2_1_ k_) ∨ w.heap.size ≤ k_) ∧ some k_ ≠ (v346 : Value).ownBlock ∧ some k_ ≠ (.slice Ao32 t319.length co32 : Value).ownBlock ∧ some k_ ≠ (.slice Ao34 t322.length co34 : Value).ownBlock ∧ k_ ≠ gb310 ∧ k_ ≠ gb311 ∧ k_ ≠ gb312) ho1 (fun k_ hk_ => have y1_ := (Kd.R_types (Kd.R_types (Kd.R_types (Kd.R_apart' (Kd.R_apart' (HO_312000.out) (Kd.N_typed HO_311001.out) (by decide)) (Kd.N_typed HO_312001.out) (by decide)) BK310.out (by decide)) BK311.out (by decide)) BK312.out (by decide)).1 k_; ⟨Or.elim hk_.1 (fun hs_ => Or.elim hs_ (fun hs_ => (.inr ((y1_ hs_.symm).1.1.1.1.1.1))) (fun hs_ => hs_.1)) (fun hn_ => (.inr (Nat.le_trans (below_size (gB HB)) hn_))), hk_.2, Or.elim hk_.1 (fun hs_ => Or.elim hs_ (fun hs_ => (y1_ hs_.symm).1.1.1.1.1.2) (fun hs_ => hs_.2.1)) (fun hn_ => (Kd.fresh' (Kd.R_lt (gR HO_311000)) k_ hn_)), Or.elim hk_.1 (fun hs_ => Or.elim hs_ (fun hs_ => (y1_ hs_.symm).1.1.1.1.2) (fun hs_ => hs_.2.2.1)) (fun hn_ => (Kd.fresh' (Kd.N_lt (gN HO_311001)) k_ hn_)), Or.elim hk_.1 (fun hs_ => Or.elim hs_ (fun hs_ => (y1_ hs_.symm).1.1.2) (fun hs_ => hs_.2.2.2.2.1)) (fun hn_ => (Kd.freshB (gK BK310) k_ hn_)), Or.elim hk_.1 (fun hs_ => Or.elim hs_ (fun hs_ => (y1_ hs_.symm).1.2) (fun hs_ => hs_.2.2.2.2.2.1)) (fun hn_ => (Kd.freshB (gK BK311) k_ hn_)), Or.elim hk_.1 (fun hs_ => Or.elim hs_ (fun hs_ => (y1_ hs_.symm).2) (fun hs_ => hs_.2.2.2.2.2.2)) (fun hn_ => (Kd.freshB (gK BK312) k_ hn_))⟩)) (below_size (gB HB))); replace HO_311000 := gA (Kd.R_elder' (gR HO_311000) (Kd.R_base ho0) hb); replace HO_311001 := gA (Kd.N_mono (Kd.N_told (Kd.N_told (Kd.N_old (gN HO_311001) hb) (Kd.R_base ho0)) (by first | exact Kd.N_base ho1 | exact Kd.R_base ho1)) (fun _ h_ => h_.1)); replace HO_312000 := gA (Kd.R_elder' (gR HO_312000) (Kd.R_base ho0) hb); replace HO_312001 := gA (Kd.N_mono (Kd.N_told (Kd.N_told (Kd.N_old (gN HO_312001) hb) (Kd.R_base ho0)) (by first | exact Kd.N_base ho1 | exact Kd.R_base ho1)) (fun _ h_ => h_.1)); replace BK310 := gA (blk_below (gK BK310) hb); replace BK311 := gA (blk_below (gK BK311) hb); replace BK312 := gA (blk_below (gK BK312) hb); replace HB := gA (below_step (gB HB) hb); (try clear hb); (try clear ho0); (try clear ho1); obtain ⟨Ao74, co74, eo74⟩ := Kd.R_slice HO347.out; subst eo74; obtain ⟨hcz75_0, hcz75_1, hfz75_0, hfz75_1⟩ := gz2 BK312; obtain ⟨Ao76, co76, eo76⟩ := Kd.N_slice HO350.out; subst eo76))
            refine bodyPost_ret (results_ct rfl _ _ gb312 25 #[.slice Ao74 t345.length co74, .slice Ao76 t348.length co76] (0, 0) _ rfl (by refine blk_put (cs := #[.slice Ao74 t345.length co74, .slice none 0 0]) ?_ 1 _ rfl; refine blk_put (cs := #[.slice none 0 0, .slice none 0 0]) ?_ 0 _ rfl; exact gK BK312) Try.underlying25 rfl (by kernel_rfl)) rfl ?_
            exact ⟨_, _, rfl, Kd.R_mono (Kd.R_far (p := ⟨gb312, 1, none⟩) (Kd.R_far (p := ⟨gb312, 0, none⟩) (Kd.R_types HO347.out BK312.out (by decide)) (fun _ hk => hk.2) (.slice Ao74 t345.length co74)) (fun _ hk => hk.2) (.slice Ao76 t348.length co76)) (fun _ hk => hk.1.1.1.1), Kd.N_mono (Kd.N_far (p := ⟨gb312, 1, none⟩) (Kd.N_far (p := ⟨gb312, 0, none⟩) (Kd.N_mono HO350.out (fun k_ hk => (⟨hk, hk.2.2.2.2.2.2⟩ : _ ∧ k_ ≠ gb312))) (fun _ hk => hk.2) (.slice Ao74 t345.length co74)) (fun _ hk => hk.2) (.slice Ao76 t348.length co76)) (fun _ hk => ⟨hk.1.1, hk.1.2.1⟩), by repeat first | exact gB HB | refine below_set ?_ GE310.out | refine below_set ?_ GE311.out | refine below_set ?_ GE312.out⟩
           ·replace c66 := Bool.eq_false_iff.mpr c66
            subst c66
            have H1 : (if a0 = 42 then ((pick_number.f t319 t322).bind fun bt352 => (if bt352.2 = 0 then (if a0 = 42 then ((pick_take.f kj63 bt352.1 t325 t328).bind fun bt354 => (some (bt354.1, bt354.2.1, bt354.2.2))) else (if a0 = 43 then (none) else (if a0 = 44 then (none) else (none)))) else (none))) else (if a0 = 43 then (none) else (if a0 = 44 then (none) else (none)))) = some (r1, r2, r3) := by rw [if_neg (show ¬ (false = true) by decide)] at H; exact H
            clear H; have H := H1; clear H1
            by_cases c77 : a0 = 42
            ·rw [if_pos c77] at H
             have c77b0 : (a0 == 42) = true := beq_iff_eq.mpr c77
             have c77b1 : (a0 != 42) = false := bne_eq_false_iff_eq.mpr c77
             clear c77
             replace H := Option.bind_eq_some_iff.mp H
             obtain ⟨⟨t352, t353⟩, A780, H⟩ := H
             replace H : (if t353 = 0 then (if a0 = 42 then ((pick_take.f kj63 t352 t325 t328).bind fun bt354 => (some (bt354.1, bt354.2.1, bt354.2.2))) else (if a0 = 43 then (none) else (if a0 = 44 then (none) else (none)))) else (none)) = some (r1, r2, r3) := H
             have A78 := gA A780
             clear A780
             obtain ⟨c79, H⟩ := iS H
             have c79b0 : (t353 == 0) = true := beq_iff_eq.mpr c79
             have c79b1 : (t353 != 0) = false := bne_eq_false_iff_eq.mpr c79
             clear c79
             by_cases c80 : a0 = 42
             ·rw [if_pos c80] at H
              have c80b0 : (a0 == 42) = true := beq_iff_eq.mpr c80
              have c80b1 : (a0 != 42) = false := bne_eq_false_iff_eq.mpr c80
              clear c80
              replace H := Option.bind_eq_some_iff.mp H
              obtain ⟨⟨t354, t357, t360⟩, A810, H⟩ := H
              replace H : (some (t354, t357, t360)) = some (r1, r2, r3) := H
              have A81 := gA A810
              clear A810
              simp only [Option.some.injEq, Prod.mk.injEq] at H
              obtain ⟨rfl, rfl, rfl⟩ := H
              have hnb82 := NB310_311.out
              have hnc82 := NB311_310.out
              have hnb83 := NB310_312.out
              have hnc83 := NB312_310.out
              obtain ⟨hcz84_0, hcz84_1, hfz84_0, hfz84_1⟩ := gz2 BK310
              go_wp2_with (first | ((with_reducible refine gate_callee (f := 24) rfl ?_); refine goesL_ (some 75) rfl rfl Try.func24 (by kernel_rfl) rfl #[.agg #[.slice Ao32 t319.length co32, .slice Ao34 t322.length co34]] rfl (by (try simp only [List.map_toArray, List.map_cons, List.map_nil]); first | done | rfl | (simp only [List.length_drop, List.length_take]; rfl)) ?_; (with_reducible refine (pick_number.calls _ _ t319 _ _ t322 t352 t353 _ ?side1 ?side2 ?side3 ?side4 A78.out).mono ?_); (case side1 => repeat (first | exact (Kd.R_reads' HO_311000.out).2.2 | (with_reducible refine Kd.C_alloc ?_ _) | (with_reducible refine Kd.C_drewN ?_ _) | (with_reducible refine Kd.C_drew ?_))); (case side2 => exact (Kd.R_reads' HO_311000.out).2.1); (case side3 => repeat (first | exact (Kd.N_reads' HO_311001.out).2.2 | (with_reducible refine Kd.C_alloc ?_ _) | (with_reducible refine Kd.C_drewN ?_ _) | (with_reducible refine Kd.C_drew ?_))); (case side4 => exact (Kd.N_reads' HO_311001.out).2.1); rintro e w85 ⟨rfl, hb⟩; refine ⟨_, rfl, ?_⟩; replace HO_311000 := gA (Kd.R_below (gR HO_311000) hb); replace HO_311001 := gA (Kd.N_below (gN HO_311001) hb); replace HO_312000 := gA (Kd.R_below (gR HO_312000) hb); replace HO_312001 := gA (Kd.N_below (gN HO_312001) hb); replace BK310 := gA (blk_below (gK BK310) hb); replace BK311 := gA (blk_below (gK BK311) hb); replace BK312 := gA (blk_below (gK BK312) hb); replace HB := gA (below_step (gB HB) hb); (try clear hb); have hnb86 := NB311_312.out; have hnc86 := NB312_311.out; obtain ⟨hcz87_0, hcz87_1, hfz87_0, hfz87_1⟩ := gz2 BK311) | ((with_reducible refine gate_callee (f := 25) rfl ?_); refine goesL_ (some 88) rfl rfl Try.func25 (by kernel_rfl) rfl #[.int .i64 t352, .agg #[.slice Ao36 t325.length co36, .slice Ao38 t328.length co38]] rfl (by (try simp only [List.map_toArray, List.map_cons, List.map_nil]); first | done | rfl | (simp only [List.length_drop, List.length_take]; rfl)) ?_; (with_reducible refine (pick_take.calls kj63 t352 (fun k_ => some k_ = (.slice Ao36 t325.length co36 : Value).ownBlock) _ _ t325 (fun k_ => (((P1_0_ k_ ∨ P1_1_ k_ ∨ P2_0_ k_ ∨ P2_1_ k_) ∨ w.heap.size ≤ k_) ∧ (some k_ ≠ (.slice Ao32 t319.length co32 : Value).ownBlock ∧ (some k_ ≠ (.slice Ao34 t322.length co34 : Value).ownBlock ∧ (some k_ ≠ (.slice Ao36 t325.length co36 : Value).ownBlock ∧ (k_ ≠ gb310 ∧ (k_ ≠ gb311 ∧ k_ ≠ gb312))))))) _ _ t328 t354 t357 t360 _ ?side1 ?side2 A81.out).mono ?_); (case side1 => exact Kd.R_V (Kd.R_tight rfl (Kd.R_types (Kd.R_types (Kd.R_types (Kd.R_apart' (Kd.R_apart' (HO_312000.out) (Kd.N_typed HO_311001.out) (by decide)) (Kd.N_typed HO_312001.out) (by decide)) BK310.out (by decide)) BK311.out (by decide)) BK312.out (by decide)))); (case side2 => exact Kd.N_V (HO_312001.out)); rintro e w88 ⟨v355, v358, rfl, ho0, ho1, hb⟩; refine ⟨_, rfl, ?_⟩; have HO356 := gA (Kd.R_lower (Kd.R_new' (Kd.R_new' (Kd.R_newM (M := fun k_ => (w.heap.size ≤ k_)) (Kd.R_mono (ok' := fun k_ => True) ho0 (fun _ hk_ => trivial)) (below_size (gB HB)) (fun k_ h_ => h_)) (Kd.R_lt (gR HO_311000))) (Kd.R_lt (gR HO_312000))) (below_size (gB HB))); have HO359 := gA (Kd.N_lower (Kd.N_mono (ok' := fun k_ => ((P1_0_ k_ ∨ P1_1_ k_ ∨ P2_0_ k_ ∨ P2_1_ k_) ∨ w.heap.size ≤ k_) ∧ some k_ ≠ (v355 : Value).ownBlock ∧ some k_ ≠ (.slice Ao32 t319.length co32 : Value).ownBlock ∧ some k_ ≠ (.slice Ao34 t322.length co34 : Value).ownBlock ∧ k_ ≠ gb310 ∧ k_ ≠ gb311 ∧ k_ ≠ gb312) ho1 (fun k_ hk_ => have y1_ := (Kd.R_types (Kd.R_types (Kd.R_types (Kd.R_apart' (Kd.R_apart' (HO_312000.out) (Kd.N_typed HO_311001.out) (by decide)) (Kd.N_typed HO_312001.out) (by decide)) BK310.out (by decide)) BK311.out (by decide)) BK312.out (by decide)).1 k_; ⟨Or.elim hk_.1 (fun hs_ => Or.elim hs_ (fun hs_ => (.inr ((y1_ hs_.symm).1.1.1.1.1.1))) (fun hs_ => hs_.1)) (fun hn_ => (.inr (Nat.le_trans (below_size (gB HB)) hn_))), hk_.2, Or.elim hk_.1 (fun hs_ => Or.elim hs_ (fun hs_ => (y1_ hs_.symm).1.1.1.1.1.2) (fun hs_ => hs_.2.1)) (fun hn_ => (Kd.fresh' (Kd.R_lt (gR HO_311000)) k_ hn_)), Or.elim hk_.1 (fun hs_ => Or.elim hs_ (fun hs_ => (y1_ hs_.symm).1.1.1.1.2) (fun hs_ => hs_.2.2.1)) (fun hn_ => (Kd.fresh' (Kd.N_lt (gN HO_311001)) k_ hn_)), Or.elim hk_.1 (fun hs_ => Or.elim hs_ (fun hs_ => (y1_ hs_.symm).1.1.2) (fun hs_ => hs_.2.2.2.2.1)) (fun hn_ => (Kd.freshB (gK BK310) k_ hn_)), Or.elim hk_.1 (fun hs_ => Or.elim hs_ (fun hs_ => (y1_ hs_.symm).1.2) (fun hs_ => hs_.2.2.2.2.2.1)) (fun hn_ => (Kd.freshB (gK BK311) k_ hn_)), Or.elim hk_.1 (fun hs_ => Or.elim hs_ (fun hs_ => (y1_ hs_.symm).2) (fun hs_ => hs_.2.2.2.2.2.2)) (fun hn_ => (Kd.freshB (gK BK312) k_ hn_))⟩)) (below_size (gB HB))); replace HO_311000 := gA (Kd.R_elder' (gR HO_311000) (Kd.R_base ho0) hb); replace HO_311001 := gA (Kd.N_mono (Kd.N_told (Kd.N_told (Kd.N_old (gN HO_311001) hb) (Kd.R_base ho0)) (by first | exact Kd.N_base ho1 | exact Kd.R_base ho1)) (fun _ h_ => h_.1)); replace HO_312000 := gA (Kd.R_elder' (gR HO_312000) (Kd.R_base ho0) hb); replace HO_312001 := gA (Kd.N_mono (Kd.N_told (Kd.N_told (Kd.N_old (gN HO_312001) hb) (Kd.R_base ho0)) (by first | exact Kd.N_base ho1 | exact Kd.R_base ho1)) (fun _ h_ => h_.1)); replace BK310 := gA (blk_below (gK BK310) hb); replace BK311 := gA (blk_below (gK BK311) hb); replace BK312 := gA (blk_below (gK BK312) hb); replace HB := gA (below_step (gB HB) hb); (try clear hb); (try clear ho0); (try clear ho1); obtain ⟨Ao89, co89, eo89⟩ := Kd.R_slice HO356.out; subst eo89; obtain ⟨hcz90_0, hcz90_1, hfz90_0, hfz90_1⟩ := gz2 BK312; obtain ⟨Ao91, co91, eo91⟩ := Kd.N_slice HO359.out; subst eo91))
              refine bodyPost_ret (results_ct rfl _ _ gb312 25 #[.slice Ao89 t354.length co89, .slice Ao91 t357.length co91] (0, 0) _ rfl (by refine blk_put (cs := #[.slice Ao89 t354.length co89, .slice none 0 0]) ?_ 1 _ rfl; refine blk_put (cs := #[.slice none 0 0, .slice none 0 0]) ?_ 0 _ rfl; exact gK BK312) Try.underlying25 rfl (by kernel_rfl)) rfl ?_
              exact ⟨_, _, rfl, Kd.R_mono (Kd.R_far (p := ⟨gb312, 1, none⟩) (Kd.R_far (p := ⟨gb312, 0, none⟩) (Kd.R_types HO356.out BK312.out (by decide)) (fun _ hk => hk.2) (.slice Ao89 t354.length co89)) (fun _ hk => hk.2) (.slice Ao91 t357.length co91)) (fun _ hk => hk.1.1.1.1), Kd.N_mono (Kd.N_far (p := ⟨gb312, 1, none⟩) (Kd.N_far (p := ⟨gb312, 0, none⟩) (Kd.N_mono HO359.out (fun k_ hk => (⟨hk, hk.2.2.2.2.2.2⟩ : _ ∧ k_ ≠ gb312))) (fun _ hk => hk.2) (.slice Ao89 t354.length co89)) (fun _ hk => hk.2) (.slice Ao91 t357.length co91)) (fun _ hk => ⟨hk.1.1, hk.1.2.1⟩), by repeat first | exact gB HB | refine below_set ?_ GE310.out | refine below_set ?_ GE311.out | refine below_set ?_ GE312.out⟩
             ·rw [if_neg c80] at H
              have c80b0 : (a0 == 42) = false := beq_eq_false_iff_ne.mpr c80
              have c80b1 : (a0 != 42) = true := bne_iff_ne.mpr c80
              obtain ⟨c92, H⟩ := iN H
              have c92b0 : (a0 == 43) = false := beq_eq_false_iff_ne.mpr c92
              have c92b1 : (a0 != 43) = true := bne_iff_ne.mpr c92
              obtain ⟨c93, H⟩ := iN H
              exact absurd H (by simp)
            ·rw [if_neg c77] at H
             have c77b0 : (a0 == 42) = false := beq_eq_false_iff_ne.mpr c77
             have c77b1 : (a0 != 42) = true := bne_iff_ne.mpr c77
             obtain ⟨c94, H⟩ := iN H
             have c94b0 : (a0 == 43) = false := beq_eq_false_iff_ne.mpr c94
             have c94b1 : (a0 != 43) = true := bne_iff_ne.mpr c94
             obtain ⟨c95, H⟩ := iN H
             exact absurd H (by simp)
def triglyphref03_Atom.f (a0 : Int) : Option (List Int × (List (S45))) := some (([] : List Int), (([(⟨0, a0, ([] : List (S25))⟩ : S45)] : List (S45))))
set_option maxHeartbeats 8000000 in
set_option maxRecDepth 100000 in
theorem triglyphref03_Atom.calls (a0 : Int) (r1 : List Int) (r2 : List (S45)) (w : World) (h : triglyphref03_Atom.f a0 = some (r1, r2)) :
  Calls Try.prog 16 #[.int .i64 a0] w fun e w' => ∃ v0_ v1_ : Value, e = .returned (.agg #[v0_, v1_]) ∧ Kd.R (Kd.int .i64) 3 w' w.heap.size (fun _ => True) v0_ r1 ∧ Kd.R k45 45 w' w.heap.size (fun k_ => some k_ ≠ (v0_ : Value).ownBlock) v1_ r2 ∧ Below w.heap.size w w' := by
 have hu25 := Try.underlying25
 have hu45 := Try.underlying45
 have HB := gA (Below.refl w.heap.size w)
 have H : (some (([] : List Int), (([(⟨0, a0, ([] : List (S25))⟩ : S45)] : List (S45))))) = some (r1, r2) := h
 clear h
 obtain ⟨y362, hy362⟩ : ∃ y_ : List (S45), y_ = (([(⟨0, a0, ([] : List (S25))⟩ : S45)] : List (S45))) := ⟨_, rfl⟩
 replace H : (some (([] : List Int), y362)) = some (r1, r2) := by first | (rw [hy362]; with_reducible exact H) | (have H2_ := (Option.bind_some _ _).symm.trans H; rw [hy362]; with_reducible exact H2_) | (have H2_ := (Option.bind_some _ _).symm.trans H; with_reducible exact H2_) | with_reducible exact H | (rw [hy362]; exact H) | exact H
 have Ny362 := gA hy362
 clear hy362
 simp only [Option.some.injEq, Prod.mk.injEq] at H
 obtain ⟨rfl, rfl⟩ := H
 go_enter Try.func16, Try.ntmps16
 go_wp2_with (first | ((with_reducible refine gate_dst (N := 2) rfl ?_); refine box_event ?hg (N := 2) ?hd (cs := #[.slice none 0 0, .slice none 0 0]) (t := 25) ?hr ?_; (case hd => rfl); (case hg => rfl); (case hr => first | (go_simp; done) | (go_simp; rfl)); intro gb361 hg w2 hbox hb; have BK361 := gA (hbox); have GW361 := gA ((by rw [hg]; exact (below_size (gB HB)) : w.heap.size ≤ gb361)); have GE361 := gA ((by rw [hg]; exact (below_size (gB HB)) : w.heap.size ≤ gb361)); replace HB := gA (below_step (gB HB) hb); clear hb hbox hg) | ((with_reducible refine gate_dst (N := 5) rfl ?_); refine Kd.R_lit k45 _ 45 ?hg (N := 5) ?hd (xs := ([(⟨0, a0, ([] : List (S25))⟩ : S45)] : List (S45))) (inner := [.int .i64 0, .int .i64 a0, .slice none 0 0]) (ok := fun _ => True) (okp := fun _ => True) ?hr ?hp (fun _ hk => hk) trivial (Below.refl _ _) (Nat.le_refl _) (by simp) ?_; (case hd => rfl); (case hg => rfl); (case hr => first | (go_simp; done) | (go_simp; rfl)); (case hp => exact (Reps.c3 (show Kd.M k45 _ _ _ (⟨0, a0, ([] : List (S25))⟩ : S45) [.int .i64 0, .int .i64 a0, .slice none 0 0] from (k45_mkM _ _ _ (⟨0, a0, ([] : List (S25))⟩ : S45) (Kd.R_nil _ _ _ _ _))) (Reps.none _ _))); intro v363 w3 ho4 hb hg_ hnew_; clear hg_ hnew_; (first | rw [← Ny362.out] at ho4 | (simp only [Int.reduceToNat] at ho4; rw [← Ny362.out] at ho4)); have HO364 := gA (Kd.R_lower (Kd.R_newB ho4 (gK BK361)) (below_size (gB HB))); replace BK361 := gA (blk_below (gK BK361) hb); replace HB := gA (below_step (gB HB) hb); clear hb ho4; obtain ⟨Ao5, co5, eo5⟩ := Kd.R_slice HO364.out; subst eo5; obtain ⟨hcz6_0, hcz6_1, hfz6_0, hfz6_1⟩ := gz2 BK361))
 refine bodyPost_ret (results_cell_row rfl _ _ gb361 25 #[.slice none 0 0, .slice Ao5 y362.length co5] (0, 0) _ rfl (by refine blk_put (cs := #[.slice none 0 0, .slice none 0 0]) ?_ 1 _ rfl; refine blk_put (cs := #[.slice none 0 0, .slice none 0 0]) ?_ 0 _ rfl; exact gK BK361) Try.underlying25 rfl (by kernel_rfl)) rfl ?_
 exact ⟨_, _, rfl, by first | exact Kd.R_nil _ _ _ _ _ | exact Kd.N_nil _ _ _ _ _ | exact Kd.V_nil _ _ _ _ _ | exact Kd.Q_nil _ _ _ _ _ | exact Kd.S_nil _ _ _ _ _, Kd.R_mono (Kd.R_far (p := ⟨gb361, 1, none⟩) (Kd.R_far (p := ⟨gb361, 0, none⟩) (Kd.R_mono HO364.out (fun k_ hk => (⟨hk, hk.2⟩ : _ ∧ k_ ≠ gb361))) (fun _ hk => hk.2) (.slice none 0 0)) (fun _ hk => hk.2) (.slice Ao5 y362.length co5)) (fun _ hk => (by simp [Value.ownBlock])), by repeat first | exact gB HB | refine below_set ?_ GE361.out⟩
def triglyphref03_Nums.l0 : Nat → List Int → Int → List Int → List (S45) → Option (List Int × (List (S45)))
 | 0, _, _, _, _ => none
 | k + 1, x0, x4, x370000, x370001 => if x4 < (x0.length : Int) then (if 0 ≤ x4 then (if x370001.length < 3518437208883 then (triglyphref03_Nums.l0 k x0 (wrap64 (x4 + 1)) x370000 (x370001 ++ [(⟨0, rd x0 x4, ([] : List (S25))⟩ : S45)])) else (none)) else (none)) else (some (x370000, x370001))
def triglyphref03_Nums.f (k : Nat) (l0 : List Int) : Option (List Int × (List (S45))) := triglyphref03_Nums.l0 k l0 0 (([(l0.length : Int)] : List Int)) ([] : List (S45))
theorem triglyphref03_Nums.mono_l : ∀ k, (∀ y0 y1 y2 y3, LeO (triglyphref03_Nums.l0 k y0 y1 y2 y3) (triglyphref03_Nums.l0 (k + 1) y0 y1 y2 y3))
 | 0 => fun _ _ _ _ r h => by simp [triglyphref03_Nums.l0] at h
 | k + 1 => by
  have ih0 := triglyphref03_Nums.mono_l k
  ·intro y0 y1 y2 y3
   unfold triglyphref03_Nums.l0
   repeat' first
   | (with_reducible exact ih0 _ _ _ _)
   | (with_reducible exact LeO.refl _)
   | (with_reducible exact LeO.none _)
   | (with_reducible refine LeO.ite ?_ ?_)
   | (with_reducible refine LeO.bind ?_ (fun _ => ?_))
theorem triglyphref03_Nums.mono : ∀ a0 k, LeO (triglyphref03_Nums.f k a0) (triglyphref03_Nums.f (k + 1) a0) := by
 intro a0 k
 have ih0 := triglyphref03_Nums.mono_l k
 unfold triglyphref03_Nums.f
 repeat' first
   | (with_reducible exact ih0 _ _ _ _)
   | (with_reducible exact LeO.refl _)
   | (with_reducible exact LeO.none _)
   | (with_reducible refine LeO.ite ?_ ?_)
   | (with_reducible refine LeO.bind ?_ (fun _ => ?_))
def triglyphref03_Nums.T5 : Bool × List (List Nat × List Nat) := (true, [([], []), ([0], [0]), ([], []), ([], []), ([2, 3], [2, 3]), ([4], [4]), ([5], [5]), ([6], [6]), ([1, 7], [1, 7]), ([0, 1, 2, 3, 4, 5, 6, 7, 8], []), ([9, 8, 8, 0, 1, 2, 3, 4, 5, 6, 7, 8], [8, 9])])
def triglyphref03_Nums.B5 : List Nat := [0, 1, 0, 0, 12, 28, 60, 124, 255, 511, 1023]
theorem triglyphref03_Nums.tab5 : rtab .any (opsOf Try.f18 5) = triglyphref03_Nums.T5 := by kernel_rfl
theorem triglyphref03_Nums.bits5 : waitsOk triglyphref03_Nums.T5.2 triglyphref03_Nums.B5 = true := by kernel_rfl
set_option maxHeartbeats 8000000 in
set_option maxRecDepth 100000 in
theorem triglyphref03_Nums.calls (k : Nat) (A0 : Option Addr) (c0 : Nat) (l0 : List Int) (r1 : List Int) (r2 : List (S45)) (w : World) (hr0 : Kd.C (Kd.int .i64) w A0 l0.length l0) (hc0 : l0.length ≤ c0) (h : triglyphref03_Nums.f k l0 = some (r1, r2)) :
  Calls Try.prog 18 #[.slice A0 l0.length c0] w fun e w' => ∃ v0_ v1_ : Value, e = .returned (.agg #[v0_, v1_]) ∧ Kd.R (Kd.int .i64) 3 w' w.heap.size (fun _ => True) v0_ r1 ∧ Kd.R k45 45 w' w.heap.size (fun k_ => some k_ ≠ (v0_ : Value).ownBlock) v1_ r2 ∧ Below w.heap.size w w' := by
 have hu25 := Try.underlying25
 have hu45 := Try.underlying45
 have HR0 := gA hr0
 have HC0 := gA hc0
 clear hr0 hc0
 have HB := gA (Below.refl w.heap.size w)
 have H : (triglyphref03_Nums.l0 k l0 0 (([(l0.length : Int)] : List Int)) ([] : List (S45))) = some (r1, r2) := h
 clear h
 obtain ⟨y366, hy366⟩ : ∃ y_ : List Int, y_ = (([(l0.length : Int)] : List Int)) := ⟨_, rfl⟩
 replace H : (triglyphref03_Nums.l0 k l0 0 y366 ([] : List (S45))) = some (r1, r2) := by first | (rw [hy366]; with_reducible exact H) | (have H2_ := (Option.bind_some _ _).symm.trans H; rw [hy366]; with_reducible exact H2_) | (have H2_ := (Option.bind_some _ _).symm.trans H; with_reducible exact H2_) | with_reducible exact H | (rw [hy366]; exact H) | exact H
 have Ny366 := gA hy366
 clear hy366
 have H' := gA H
 clear H
 go_enter Try.func18, Try.ntmps18
 go_wp2_with (first | ((with_reducible refine gate_dst (N := 2) rfl ?_); refine box_event ?hg (N := 2) ?hd (cs := #[.slice none 0 0, .slice none 0 0]) (t := 25) ?hr ?_; (case hd => rfl); (case hg => rfl); (case hr => first | (go_simp; done) | (go_simp; rfl)); intro gb365 hg w2 hbox hb; have BK365 := gA (hbox); have GW365 := gA ((by rw [hg]; exact (below_size (gB HB)) : w.heap.size ≤ gb365)); have GE365 := gA ((by rw [hg]; exact (below_size (gB HB)) : w.heap.size ≤ gb365)); replace HB := gA (below_step (gB HB) hb); clear hb hbox hg) | ((with_reducible refine gate_dst (N := 7) rfl ?_); refine Kd.R_lit (Kd.int .i64) _ 3 ?hg (N := 7) ?hd (xs := ([(l0.length : Int)] : List Int)) (inner := [.int .i64 (l0.length : Int)]) (ok := fun _ => True) (okp := fun _ => True) ?hr ?hp (fun _ hk => hk) trivial (Below.refl _ _) (Nat.le_refl _) (by simp) ?_; (case hd => rfl); (case hg => rfl); (case hr => first | (go_simp; done) | (go_simp; rfl)); (case hp => exact (Reps.one (show Kd.M (Kd.int .i64) _ _ _ (l0.length : Int) [.int .i64 (l0.length : Int)] from rfl) (Reps.none _ _))); intro v367 w3 ho4 hb hg_ hnew_; clear hg_ hnew_; (first | rw [← Ny366.out] at ho4 | (simp only [Int.reduceToNat] at ho4; rw [← Ny366.out] at ho4)); have HO368 := gA (Kd.R_lower ho4 (below_size (gB HB))); replace BK365 := gA (blk_below (gK BK365) hb); replace HB := gA (below_step (gB HB) hb); clear hb ho4; obtain ⟨Ao5, co5, eo5⟩ := Kd.R_slice HO368.out; subst eo5) | ((with_reducible refine gate_dst (N := 3) rfl ?_); refine box_event ?hg (N := 3) ?hd (cs := #[.slice none 0 0, .slice none 0 0]) (t := 25) ?hr ?_; (case hd => rfl); (case hg => rfl); (case hr => first | (go_simp; done) | (go_simp; rfl)); intro gb369 hg w6 hbox hb; replace HO368 := gA (Kd.R_below (gR HO368) hb); have BK369 := gA (hbox); have GW369 := gA ((by rw [hg]; exact (below_size (gB HB)) : w.heap.size ≤ gb369)); have GE369 := gA ((by rw [hg]; exact (below_size (gB HB)) : w.heap.size ≤ gb369)); replace HB := gA (below_step (gB HB) hb); have NB365_369 := gA ((by rw [hg]; exact Nat.ne_of_lt (blk_lt (gK BK365)) : gb365 ≠ gb369)); have NB369_365 := gA ((by rw [hg]; exact Nat.ne_of_gt (blk_lt (gK BK365)) : gb369 ≠ gb365)); replace BK365 := gA (blk_below (gK BK365) hb); clear hb hbox hg; have hnb7 := NB369_365.out; have hnc7 := NB365_369.out; obtain ⟨hcz8_0, hcz8_1, hfz8_0, hfz8_1⟩ := gz2 BK369))
 go_loopg [4] k (fun kq v4 w' => ∃ (x4_1 : Int) (x370001_1 : List (S45)) (u370001 : Value), v4 = .int .i64 x4_1 ∧ Aside0 (triglyphref03_Nums.l0 kq l0 x4_1 y366 x370001_1 = some (r1, r2)) ∧ Aside0 (kq ≤ k) ∧ Aside0 (Kd.R (Kd.int .i64) 3 w' w.heap.size (fun _ => True) (.slice Ao5 y366.length co5) y366) ∧ Aside0 (Kd.R k45 45 w' w.heap.size (fun k_ => some k_ ≠ ((.slice Ao5 y366.length co5) : Value).ownBlock ∧ k_ ≠ gb365 ∧ k_ ≠ gb369) u370001 x370001_1) ∧ Aside0 (w'.heap[gb365]? = some (.cells #[(.slice none 0 0), (.slice none 0 0)] 25 (0, 0))) ∧ Aside0 (w'.heap[gb369]? = some (.cells #[(.slice Ao5 y366.length co5), u370001] 25 (0, 0))) ∧ Aside0 (Below w.heap.size w w'))
 case atStart => exact ⟨(0), (([] : List (S45))), (.slice none 0 0), (rfl), H', ⟨Nat.le_refl _⟩, ⟨Kd.R_mono (Kd.R_far (p := ⟨gb369, 1, none⟩) (Kd.R_far (p := ⟨gb369, 0, none⟩) (Kd.R_types HO368.out BK369.out (by decide)) (fun _ hk => hk.2) (.slice Ao5 y366.length co5)) (fun _ hk => hk.2) (.slice none 0 0)) (fun _ hk => trivial)⟩, ⟨by first | exact Kd.R_nil _ _ _ _ _ | exact Kd.N_nil _ _ _ _ _ | exact Kd.V_nil _ _ _ _ _ | exact Kd.Q_nil _ _ _ _ _ | exact Kd.S_nil _ _ _ _ _⟩, ⟨by refine blk_far ?_ NB365_369.out _; refine blk_far ?_ NB365_369.out _; exact gK BK365⟩, ⟨by refine blk_put (cs := #[.slice Ao5 y366.length co5, .slice none 0 0]) ?_ 1 _ rfl; refine blk_put (cs := #[.slice none 0 0, .slice none 0 0]) ?_ 0 _ rfl; exact gK BK369⟩, ⟨by repeat first | exact gB HB | refine below_set ?_ GE365.out | refine below_set ?_ GE369.out⟩⟩
 case round =>
  clear H'
  try clear c1
  try clear p2
  try clear c7
  try clear hcz8_0
  try clear hcz8_1
  try clear hfz8_0
  try clear hfz8_1
  obtain ⟨x4_1, x370001_1, u370001, rfl, HA, HK1, HO_370000, HO_370001, BK365, BK369, HB⟩ := hrel
  cases gk with
  | zero => exact absurd HA.out (by simp [triglyphref03_Nums.l0])
  | succ k1 =>
   have H := HA.out; clear HA
   simp only [triglyphref03_Nums.l0] at H
   by_cases c9 : x4_1 < (l0.length : Int)
   ·rw [if_pos c9] at H
    have c9b0 := decide_eq_true c9
    clear c9
    obtain ⟨c10, H⟩ := iS H
    have c10b0 := decide_eq_true c10
    clear c10
    obtain ⟨c11, H⟩ := iS H
    have LMc11 := gA c11
    clear c11
    obtain ⟨y371, hy371⟩ : ∃ y_ : List (S45), y_ = (x370001_1 ++ [(⟨0, rd l0 x4_1, ([] : List (S25))⟩ : S45)]) := ⟨_, rfl⟩
    replace H : (triglyphref03_Nums.l0 k1 l0 (wrap64 (x4_1 + 1)) y366 y371) = some (r1, r2) := by first | (rw [hy371]; with_reducible exact H) | (have H2_ := (Option.bind_some _ _).symm.trans H; rw [hy371]; with_reducible exact H2_) | (have H2_ := (Option.bind_some _ _).symm.trans H; with_reducible exact H2_) | with_reducible exact H | (rw [hy371]; exact H) | exact H
    have Ny371 := gA hy371
    clear hy371
    have H' := gA H
    clear H
    try go_wp2
    replace HO_370000 := gA (Kd.R_drew HO_370000.out); replace HO_370001 := gA (Kd.R_drew HO_370001.out); replace BK365 := gA (blk_drew BK365.out); replace BK369 := gA (blk_drew BK369.out); replace HB := gA (below_drew1 HB.out)
    have p370 : 0 ≤ (x4_1 : Int) := of_decide_eq_true (by assumption)
    have q370 : x4_1 < (l0.length : Int) := of_decide_eq_true (by assumption)
    obtain ⟨ad370, e370, hx370_0⟩ := Kd.at_int HR0.out x4_1 p370 q370
    have hw370_0 := hx370_0
    cases e370
    replace hx370_0 := (HB.out.cell (World.block_lt_of_cell? w _ hx370_0)).trans hx370_0
    replace p370 := eq_true p370
    replace q370 := eq_true q370
    refine start_ (n := 11) (S := fun w' => w'.cell? ⟨gb369, 0, none⟩ = some (.slice Ao5 y366.length co5) ∧ w'.cell? ⟨gb369, 1, none⟩ = some (u370001) ∧ w'.cell? (ad370.add (x4_1).toNat) = some (.int .i64 (rd l0 x4_1))) (ds := [10]) #[false, false, false, false, false, false, false, false, false, false, false] (by kernel_rfl) rfl rfl ⟨(blk_cell BK369.out 0).trans rfl, (blk_cell BK369.out 1).trans rfl, ((HB.out.cell (World.block_lt_of_cell? w _ hw370_0)).trans hw370_0)⟩ (fun hHeld => ?_); refine with_tabW triglyphref03_Nums.tab5 triglyphref03_Nums.bits5 (fun HT_ HW_ => ?_)
    generalize wr.drew = w12 at HO_370000 HO_370001 BK365 BK369 HB hx370_0 hHeld ⊢
    refine pure_ (i := 0) (N := some 15) (v := ?_) (a' := ?_) #[true, false, false, false, false, false, false, false, false, false, false] rfl rfl (any_of HT_.out (by kernel_rfl)) (fun _ _ _ h => h) (Or.inl ⟨by rfl, ?_⟩) ?_ ?_; rotate_left
    ·intro w'; go_simp; with_reducible rfl
    rotate_left
    ·simp only [Act.put, List.setIfInBounds_toArray, List.set_cons_zero, List.set_cons_succ, i64_w, i32_w]; rfl
    refine pure_ (i := 2) (N := some 17) (v := ?_) (a' := ?_) #[true, false, true, false, false, false, false, false, false, false, false] rfl rfl (any_of HT_.out (by kernel_rfl)) (fun _ _ _ h => h) (Or.inl ⟨by rfl, ?_⟩) ?_ ?_; rotate_left
    ·intro w'; go_simp; with_reducible rfl
    rotate_left
    ·simp only [Act.put, List.setIfInBounds_toArray, List.set_cons_zero, List.set_cons_succ, i64_w, i32_w]; rfl
    refine pure_ (i := 3) (N := some 18) (v := ?_) (a' := ?_) #[true, false, true, true, false, false, false, false, false, false, false] rfl rfl (any_of HT_.out (by kernel_rfl)) (fun _ _ _ h => h) (Or.inl ⟨by rfl, ?_⟩) ?_ ?_; rotate_left
    ·intro w'; go_simp; with_reducible rfl
    rotate_left
    ·simp only [Act.put, List.setIfInBounds_toArray, List.set_cons_zero, List.set_cons_succ, i64_w, i32_w]; rfl
    refine pure_ (i := 4) (N := some 19) (v := ?_) (a' := ?_) #[true, false, true, true, true, false, false, false, false, false, false] rfl rfl (any_of HT_.out (by kernel_rfl)) (fun _ _ _ h => h) (Or.inl ⟨by rfl, ?_⟩) ?_ ?_; rotate_left
    ·intro w'; go_simp; with_reducible rfl
    rotate_left
    ·simp only [Act.put, List.setIfInBounds_toArray, List.set_cons_zero, List.set_cons_succ, i64_w, i32_w]; rfl
    refine take_ (i := 1) (N := some 16) (v := ?_) (a' := ?_) #[true, true, true, true, true, false, false, false, false, false, false] rfl rfl (take_ofW HT_.out HW_.out (by kernel_rfl)) (fun _ _ _ h => h) (Or.inl ⟨by rfl, ?_⟩) hHeld ?_ ?_; rotate_left
    ·rintro w' ⟨s0, s1, s2⟩; go_simp; with_reducible rfl
    rotate_left
    ·simp only [Act.put, List.setIfInBounds_toArray, List.set_cons_zero, List.set_cons_succ, i64_w, i32_w]; rfl
    refine take_ (i := 5) (N := some 20) (v := ?_) (a' := ?_) #[true, true, true, true, true, true, false, false, false, false, false] rfl rfl (take_ofW HT_.out HW_.out (by kernel_rfl)) (fun _ _ _ h => h) (Or.inl ⟨by rfl, ?_⟩) hHeld ?_ ?_; rotate_left
    ·rintro w' ⟨s0, s1, s2⟩; go_simp; with_reducible rfl
    rotate_left
    ·simp only [Act.put, List.setIfInBounds_toArray, List.set_cons_zero, List.set_cons_succ, i64_w, i32_w]; rfl
    refine pure_ (i := 6) (N := some 21) (v := ?_) (a' := ?_) #[true, true, true, true, true, true, true, false, false, false, false] rfl rfl (any_of HT_.out (by kernel_rfl)) (fun _ _ _ h => h) (Or.inl ⟨by rfl, ?_⟩) ?_ ?_; rotate_left
    ·intro w'; go_simp; with_reducible rfl
    rotate_left
    ·simp only [Act.put, List.setIfInBounds_toArray, List.set_cons_zero, List.set_cons_succ, i64_w, i32_w]; rfl
    refine one_ (i := 7) (N := some 22) #[true, true, true, true, true, true, true, true, false, false, false] rfl rfl (one_of HT_.out (by kernel_rfl)) (by decide) (fun K hK => ?_)
    refine value_ (w1 := ?_) (v := ?_) (by rfl) rfl ?_ ?_
    rotate_left 2
    ·go_simp
     constructor
     ·rfl
     ·rfl
    refine hK.out _ _ ⟨(blk_cell (blk_alloc BK369.out _) 0).trans rfl, (blk_cell (blk_alloc BK369.out _) 1).trans rfl, (World.cell?_alloc_lt _ _ _ (World.block_lt_of_cell? _ _ (((HB.out.cell (World.block_lt_of_cell? w _ hw370_0)).trans hw370_0)))).trans (((HB.out.cell (World.block_lt_of_cell? w _ hw370_0)).trans hw370_0))⟩ (fun hHeld => ?_); clear hK K
    refine norm_ (a' := ?_) ?_ ?_; rotate_left
    ·show Act.put _ (some 22) _ = _
     simp only [Act.put, List.setIfInBounds_toArray, List.set_cons_zero, List.set_cons_succ, i64_w, i32_w]; rfl
    refine one_ (i := 8) (N := some 23) #[true, true, true, true, true, true, true, true, true, false, false] rfl rfl (one_of HT_.out (by kernel_rfl)) (by decide) (fun K hK => ?_)
    refine Kd.R_append_step k45 (w0 := w) w.heap.size (by rfl) (.tmp 16) (.tmp 22) 23 45 (.agg #[(.int .i64 0), (.int .i64 0), (.slice none 0 0)]) 40 rfl Try.underlying23 info45 rfl (by decide) (by omega) u370001 x370001_1 (⟨0, rd l0 x4_1, ([] : List (S25))⟩ : S45) [.int .i64 0, .int .i64 (rd l0 x4_1), .slice none 0 0] (fun k_ => some k_ ≠ (.slice Ao5 y366.length co5 : Value).ownBlock ∧ k_ ≠ gb365 ∧ k_ ≠ gb369) (fun k_ => ((fun k_ => some k_ ≠ (.slice Ao5 y366.length co5 : Value).ownBlock ∧ k_ ≠ gb365 ∧ k_ ≠ gb369)) k_ ∧ some k_ ≠ (u370001 : Value).ownBlock) rfl rfl ?aP (fun _ hk => hk) ?aF ?aO ?aB ?aS ?aL ?_
    (case aP => exact k45_mkM _ _ _ (⟨0, rd l0 x4_1, ([] : List (S25))⟩ : S45) (Kd.R_nil _ _ _ _ _))
    (case aB => exact (gB HB))
    (case aF => exact (fun k_ hk => ⟨Kd.fresh' (Kd.R_lt (gR HO_370000)) k_ hk, Kd.freshB (gK BK365) k_ hk, Kd.freshB (gK BK369) k_ hk⟩))
    (case aO => exact (gR HO_370001))
    (case aS => exact (below_size (gB HB)))
    (case aL => have := LMc11.out; omega)
    intro v372 w13 ho hb hg hat
    rw [← Ny371.out] at ho
    replace HO_370000 := gA (Kd.R_over' (gR HO_370000) (Kd.R_typed (gR HO_370001)) (by decide) hg); replace BK365 := gA (blk_grown (gK BK365) hg (Kd.R_ne HO_370001.out BK365.out (by decide))); replace BK369 := gA (blk_grown (gK BK369) hg (Kd.R_ne HO_370001.out BK369.out (by decide))); replace HB := gA (hb); have HO373 := gA (ho); clear HO_370001 ho hb hg hat
    obtain ⟨Ao14, co14, eo14⟩ := Kd.R_slice HO373.out
    (first | subst eo14 | (injection eo14 with f1_ f2_ f3_; have f4_ := f1_.symm; have f5_ := f3_.symm; clear f1_ f2_ f3_; subst f4_; subst f5_))
    refine hK.out _ _ ⟨(blk_cell BK369.out 0).trans rfl, (blk_cell BK369.out 1).trans rfl, ((HB.out.cell (World.block_lt_of_cell? w _ hw370_0)).trans hw370_0)⟩ (fun hHeld => ?_); clear hK K
    refine norm_ (a' := ?_) ?_ ?_; rotate_left
    ·show Act.put _ (some 23) _ = _
     simp only [Act.put, List.setIfInBounds_toArray, List.set_cons_zero, List.set_cons_succ, i64_w, i32_w]; rfl
    refine pure_ (i := 9) (N := some 24) (v := ?_) (a' := ?_) #[true, true, true, true, true, true, true, true, true, true, false] rfl rfl (any_of HT_.out (by kernel_rfl)) (fun _ _ _ h => h) (Or.inl ⟨by rfl, ?_⟩) ?_ ?_; rotate_left
    ·intro w'; go_simp; with_reducible rfl
    rotate_left
    ·simp only [Act.put, List.setIfInBounds_toArray, List.set_cons_zero, List.set_cons_succ, i64_w, i32_w]; rfl
    refine last_ (i := 10) (N := none) #[true, true, true, true, true, true, true, true, true, true, true] rfl rfl (one_of HT_.out (by kernel_rfl)) (by decide) (fun K hK => ?_)
    have hs15 := gz BK369 1 rfl
    have hfs15 := blk_frozen BK369.out 1
    have hns15_0 := NB365_369.out
    have hms15_0 := NB369_365.out
    refine skip_ (w1 := ?_) (by rfl) rfl ?_ ?_; rotate_left
    ·go_simp; rfl
    refine hK.out _ _ ?_; clear hK K
    refine done_ (done_of HT_.out (by kernel_rfl)) ?_
    try go_wp2
    go_roundg k1
    case measure => have := HK1.out; omega
    case rel => exact ⟨(wrap64 (x4_1 + 1)), (y371), (.slice Ao14 y371.length co14), (rfl), H', ⟨by have := HK1.out; omega⟩, ⟨Kd.R_mono (Kd.R_far (p := ⟨gb369, 1, none⟩) (Kd.R_types HO_370000.out BK369.out (by decide)) (fun _ hk => hk.2) (.slice Ao14 y371.length co14)) (fun _ hk => trivial)⟩, ⟨Kd.R_mono (Kd.R_far (p := ⟨gb369, 1, none⟩) (Kd.R_mono HO373.out (fun k_ hk => (⟨hk, hk.2.2⟩ : _ ∧ k_ ≠ gb369))) (fun _ hk => hk.2) (.slice Ao14 y371.length co14)) (fun _ hk => ⟨hk.1.1, ⟨hk.1.2.1, hk.1.2.2⟩⟩)⟩, ⟨by refine blk_far ?_ NB365_369.out _; exact gK BK365⟩, ⟨by refine blk_put (cs := #[.slice Ao5 y366.length co5, u370001]) ?_ 1 _ rfl; exact gK BK369⟩, ⟨by repeat first | exact gB HB | refine below_set ?_ GE365.out | refine below_set ?_ GE369.out⟩⟩
   ·rw [if_neg c9] at H
    have c9b0 := decide_eq_false c9
    clear c9
    simp only [Option.some.injEq, Prod.mk.injEq] at H
    obtain ⟨rfl, rfl⟩ := H
    have hnb16 := NB369_365.out
    have hnc16 := NB365_369.out
    obtain ⟨hcz17_0, hcz17_1, hfz17_0, hfz17_1⟩ := gz2 BK369
    obtain ⟨hcz18_0, hcz18_1, hfz18_0, hfz18_1⟩ := gz2 BK365
    obtain ⟨Ao19, co19, eo19⟩ := Kd.R_slice HO_370001.out
    subst eo19
    go_wp2
    refine bodyPost_ret (results_cell_row rfl _ _ gb365 25 #[.slice Ao5 y366.length co5, .slice Ao19 x370001_1.length co19] (0, 0) _ rfl (by refine blk_put (cs := #[.slice Ao5 y366.length co5, .slice none 0 0]) ?_ 1 _ rfl; refine blk_put (cs := #[.slice none 0 0, .slice none 0 0]) ?_ 0 _ rfl; exact gK BK365) Try.underlying25 rfl (by kernel_rfl)) rfl ?_
    exact ⟨_, _, rfl, Kd.R_mono (Kd.R_far (p := ⟨gb365, 1, none⟩) (Kd.R_far (p := ⟨gb365, 0, none⟩) (Kd.R_types HO_370000.out BK365.out (by decide)) (fun _ hk => hk.2) (.slice Ao5 y366.length co5)) (fun _ hk => hk.2) (.slice Ao19 x370001_1.length co19)) (fun _ hk => trivial), Kd.R_mono (Kd.R_far (p := ⟨gb365, 1, none⟩) (Kd.R_far (p := ⟨gb365, 0, none⟩) (Kd.R_mono HO_370001.out (fun k_ hk => (⟨hk, hk.2.1⟩ : _ ∧ k_ ≠ gb365))) (fun _ hk => hk.2) (.slice Ao5 y366.length co5)) (fun _ hk => hk.2) (.slice Ao19 x370001_1.length co19)) (fun _ hk => hk.1.1), by repeat first | exact gB HB | refine below_set ?_ GE365.out | refine below_set ?_ GE369.out⟩
end Go.Proofs.Ytdihmempaonfjaa.P
