/- Written by a program of this session: the functions that the laws reach, what each comes to, and each law as it is stated, for every input. No condition. -/
import Derived.Test.YtiegcghapchimaaPx0
import Derived.Test.YtiegcghapchimaaPx4
namespace Go.Proofs.Ytiegcghapchimaa.P
open Go.RowKit Go.Proofs.YtiegcghapchimaaW.PrintWords Go.Proofs.YtiegcghapchimaaW.PrintLast Go.Proofs.YtiegcghapchimaaW.PrintMore
attribute [local go_sem] max2_int min2_int max_two min_two max_three min_three max_four min_four   -- for this text's walks alone
set_option linter.unusedVariables false
set_option linter.unusedSimpArgs false
mutual
def layout_flipped.l0 : Nat → List Int → Int → Int → List Int → List (S39) → List Int → List (S39) → Option (List Int × (List (S39)))
 | 0, _, _, _, _, _, _, _ => none
 | k + 1, x4, x21, x22, x221000, x221001, x226000, x226001 => if x22 < x21 then (layout_flipped.l1 k x4 0 x21 x22 (x4.length : Int) 0 x221000 x221001 x226000 x226001) else (some (x226000, x226001))
def layout_flipped.l1 : Nat → List Int → Int → Int → Int → Int → Int → List Int → List (S39) → List Int → List (S39) → Option (List Int × (List (S39)))
 | 0, _, _, _, _, _, _, _, _, _, _ => none
 | k + 1, x4, x5, x21, x22, x25, x26, x221000, x221001, x226000, x226001 => if x26 < x25 then (if 0 ≤ x26 then (if x26 < (x221000.length : Int) then (if 0 ≤ (wrap64 ((wrap64 ((x4.length : Int) - 1)) - x26)) then (if (wrap64 ((wrap64 ((x4.length : Int) - 1)) - x26)) < (x4.length : Int) then (layout_flipped.l1 k x4 (wrap64 ((wrap64 (x5 * (rd x221000 x26))) + (rd x4 (wrap64 ((wrap64 ((x4.length : Int) - 1)) - x26))))) x21 x22 x25 (wrap64 (x26 + 1)) x221000 x221001 x226000 x226001) else (none)) else (none)) else (none)) else (none)) else (if 0 ≤ x5 then (if x5 < (x221001.length : Int) then (if x226001.length < 3518437208883 then (layout_flipped.l2 k x4 (wrap64 ((x4.length : Int) - 1)) x21 x22 x221000 x221001 x226000 (x226001 ++ [(⟨(rd_T39 x221001 x5).f0, (rd_T39 x221001 x5).f1, (rd_T39 x221001 x5).f2⟩ : S39)])) else (none)) else (none)) else (none))
def layout_flipped.l2 : Nat → List Int → Int → Int → Int → List Int → List (S39) → List Int → List (S39) → Option (List Int × (List (S39)))
 | 0, _, _, _, _, _, _, _, _ => none
 | k + 1, x4, x7, x21, x22, x221000, x221001, x226000, x226001 => if x7 ≥ 0 then (if 0 ≤ x7 then (if x7 < (x4.length : Int) then ((some (x4.set (x7 : Int).toNat (wrap64 ((rd x4 x7) + 1)) : List Int)).bind fun y237 => (if x7 < (x226000.length : Int) then (if (rd y237 x7) < (rd x226000 x7) then (layout_flipped.l0 k y237 x21 (wrap64 (x22 + 1)) x221000 x221001 x226000 x226001) else (layout_flipped.l2 k (y237.set (x7 : Int).toNat 0) (wrap64 (x7 - 1)) x21 x22 x221000 x221001 x226000 x226001)) else (none))) else (none)) else (none)) else (layout_flipped.l0 k x4 x21 (wrap64 (x22 + 1)) x221000 x221001 x226000 x226001)
end
def layout_flipped.f (k : Nat) (l0_0 : List Int) (l0_1 : List (S39)) : Option (List Int × (List (S39))) := (slices_Clone_int_int.f l0_0).bind fun t222 => ((slices_Reverse_int_int.f k t222).bind fun t226 => (if 0 ≤ (t222.length : Int) then (if ((t222.length : Int) : Int).toNat ≤ 35184372088832 then (layout_flipped.l0 k (List.replicate ((t222.length : Int) : Int).toNat 0) (l0_1.length : Int) 0 l0_0 l0_1 t226 ([] : List (S39))) else (none)) else (none)))
theorem layout_flipped.mono_l : ∀ k, (∀ y0 y1 y2 y3 y4 y5 y6, LeO (layout_flipped.l0 k y0 y1 y2 y3 y4 y5 y6) (layout_flipped.l0 (k + 1) y0 y1 y2 y3 y4 y5 y6)) ∧ (∀ y0 y1 y2 y3 y4 y5 y6 y7 y8 y9, LeO (layout_flipped.l1 k y0 y1 y2 y3 y4 y5 y6 y7 y8 y9) (layout_flipped.l1 (k + 1) y0 y1 y2 y3 y4 y5 y6 y7 y8 y9)) ∧ (∀ y0 y1 y2 y3 y4 y5 y6 y7, LeO (layout_flipped.l2 k y0 y1 y2 y3 y4 y5 y6 y7) (layout_flipped.l2 (k + 1) y0 y1 y2 y3 y4 y5 y6 y7))
 | 0 => ⟨fun _ _ _ _ _ _ _ r h => by simp [layout_flipped.l0] at h, fun _ _ _ _ _ _ _ _ _ _ r h => by simp [layout_flipped.l1] at h, fun _ _ _ _ _ _ _ _ r h => by simp [layout_flipped.l2] at h⟩
 | k + 1 => by
  obtain ⟨ih0, ih1, ih2⟩ := layout_flipped.mono_l k
  refine ⟨?_, ?_, ?_⟩
  ·intro y0 y1 y2 y3 y4 y5 y6
   unfold layout_flipped.l0
   repeat' first
   | (with_reducible exact ih0 _ _ _ _ _ _ _)
   | (with_reducible exact ih1 _ _ _ _ _ _ _ _ _ _)
   | (with_reducible exact ih2 _ _ _ _ _ _ _ _)
   | (with_reducible exact slices_Reverse_int_int.mono _ _)
   | (with_reducible exact LeO.refl _)
   | (with_reducible exact LeO.none _)
   | (with_reducible refine LeO.ite ?_ ?_)
   | (with_reducible refine LeO.bind ?_ (fun _ => ?_))



   | exact slices_Reverse_int_int.mono _ _



  ·intro y0 y1 y2 y3 y4 y5 y6 y7 y8 y9
   unfold layout_flipped.l1
   repeat' first
   | (with_reducible exact ih0 _ _ _ _ _ _ _)
   | (with_reducible exact ih1 _ _ _ _ _ _ _ _ _ _)
   | (with_reducible exact ih2 _ _ _ _ _ _ _ _)
   | (with_reducible exact slices_Reverse_int_int.mono _ _)
   | (with_reducible exact LeO.refl _)
   | (with_reducible exact LeO.none _)
   | (with_reducible refine LeO.ite ?_ ?_)
   | (with_reducible refine LeO.bind ?_ (fun _ => ?_))



   | exact slices_Reverse_int_int.mono _ _



  ·intro y0 y1 y2 y3 y4 y5 y6 y7
   unfold layout_flipped.l2
   repeat' first
   | (with_reducible exact ih0 _ _ _ _ _ _ _)
   | (with_reducible exact ih1 _ _ _ _ _ _ _ _ _ _)
   | (with_reducible exact ih2 _ _ _ _ _ _ _ _)
   | (with_reducible exact slices_Reverse_int_int.mono _ _)
   | (with_reducible exact LeO.refl _)
   | (with_reducible exact LeO.none _)
   | (with_reducible refine LeO.ite ?_ ?_)
   | (with_reducible refine LeO.bind ?_ (fun _ => ?_))



   | exact slices_Reverse_int_int.mono _ _
theorem layout_flipped.mono : ∀ a0 a1 k, LeO (layout_flipped.f k a0 a1) (layout_flipped.f (k + 1) a0 a1) := by
 intro a0 a1 k
 obtain ⟨ih0, ih1, ih2⟩ := layout_flipped.mono_l k
 unfold layout_flipped.f
 repeat' first
   | (with_reducible exact ih0 _ _ _ _ _ _ _)
   | (with_reducible exact ih1 _ _ _ _ _ _ _ _ _ _)
   | (with_reducible exact ih2 _ _ _ _ _ _ _ _)
   | (with_reducible exact slices_Reverse_int_int.mono _ _)
   | (with_reducible exact LeO.refl _)
   | (with_reducible exact LeO.none _)
   | (with_reducible refine LeO.ite ?_ ?_)
   | (with_reducible refine LeO.bind ?_ (fun _ => ?_))



   | exact slices_Reverse_int_int.mono _ _
def layout_flipped.T10 : Bool × List (List Nat × List Nat) := (true, [([], []), ([], []), ([1], [1]), ([], []), ([2, 3], [2, 3]), ([4], [4]), ([0, 5], [0, 5]), ([], []), ([], []), ([8], [8]), ([9], [9]), ([], []), ([10, 11], [10, 11]), ([7, 12], [7, 12]), ([13], [13]), ([6, 14], [6, 14]), ([15, 0, 1, 2, 3, 4, 5, 6, 7, 8, 9, 10, 11, 12, 13, 14, 15], [0, 15])])
def layout_flipped.B10 : List Nat := [0, 0, 2, 0, 14, 30, 63, 0, 0, 256, 768, 0, 3840, 8064, 16256, 32767, 65535]
theorem layout_flipped.tab10 : rtab .any (opsOf Try.f27 10) = layout_flipped.T10 := by kernel_rfl
theorem layout_flipped.bits10 : waitsOk layout_flipped.T10.2 layout_flipped.B10 = true := by kernel_rfl
def layout_flipped.T12 : Bool × List (List Nat × List Nat) := (true, [([], []), ([0], [0]), ([], []), ([2], [2]), ([], []), ([3, 4], [3, 4]), ([5], [5]), ([6], [6]), ([1, 7], [1, 7]), ([0, 1, 2, 3, 4, 5, 6, 7, 8], []), ([9, 8, 8, 0, 1, 2, 3, 4, 5, 6, 7, 8], [8, 9])])
def layout_flipped.B12 : List Nat := [0, 1, 0, 4, 0, 28, 60, 124, 255, 511, 1023]
theorem layout_flipped.tab12 : rtab .any (opsOf Try.f27 12) = layout_flipped.T12 := by kernel_rfl
theorem layout_flipped.bits12 : waitsOk layout_flipped.T12.2 layout_flipped.B12 = true := by kernel_rfl
def layout_flipped.T17 : Bool × List (List Nat × List Nat) := (true, [([], []), ([], []), ([0, 1], [0, 1]), ([2], [2]), ([], []), ([4], [4]), ([], []), ([5, 6], [5, 6]), ([7], [7]), ([3, 8], [3, 8])])
def layout_flipped.B17 : List Nat := [0, 0, 3, 7, 0, 16, 0, 112, 240, 511]
theorem layout_flipped.tab17 : rtab .any (opsOf Try.f27 17) = layout_flipped.T17 := by kernel_rfl
theorem layout_flipped.bits17 : waitsOk layout_flipped.T17.2 layout_flipped.B17 = true := by kernel_rfl
set_option maxHeartbeats 8000000 in
set_option maxRecDepth 100000 in
theorem layout_flipped.calls (k : Nat) (A0_0 : Option Addr) (c0_0 : Nat) (l0_0 : List Int) (P0_1_ : Nat → Prop) (A0_1 : Option Addr) (c0_1 : Nat) (l0_1 : List (S39)) (r1 : List Int) (r2 : List (S39)) (w : World) (hr0_0 : Kd.C (Kd.int .i64) w A0_0 l0_0.length l0_0) (hc0_0 : l0_0.length ≤ c0_0) (hs0_1 : Kd.V k39 39 w w.heap.size (fun k_ => P0_1_ k_) (.slice A0_1 l0_1.length c0_1) l0_1) (h : layout_flipped.f k l0_0 l0_1 = some (r1, r2)) :
  Calls Try.prog 27 #[.agg #[.slice A0_0 l0_0.length c0_0, .slice A0_1 l0_1.length c0_1]] w fun e w' => ∃ v0_ v1_ : Value, e = .returned (.agg #[v0_, v1_]) ∧ Kd.R (Kd.int .i64) 3 w' w.heap.size (fun k_ => (w.heap.size ≤ k_)) v0_ r1 ∧ Kd.N k39 39 w' w.heap.size (fun k_ => (P0_1_ k_ ∨ w.heap.size ≤ k_) ∧ some k_ ≠ (v0_ : Value).ownBlock) v1_ r2 ∧ Below w.heap.size w w' := by
 have hu25 := Try.underlying25
 have hu39 := Try.underlying39
 have HR0_0 := gA hr0_0
 have HC0_0 := gA hc0_0
 clear hr0_0 hc0_0
 have HO0_1 := gA (show Kd.V k39 39 w w.heap.size (fun k_ => (P0_1_ k_ ∨ w.heap.size ≤ k_)) (.slice A0_1 l0_1.length c0_1) l0_1 from Kd.V_mono hs0_1 (fun k_ hk => .inl hk))
 have HB := gA (Below.refl w.heap.size w)
 have H : ((slices_Clone_int_int.f l0_0).bind fun t222 => ((slices_Reverse_int_int.f k t222).bind fun t226 => (if 0 ≤ (t222.length : Int) then (if ((t222.length : Int) : Int).toNat ≤ 35184372088832 then (layout_flipped.l0 k (List.replicate ((t222.length : Int) : Int).toNat 0) (l0_1.length : Int) 0 l0_0 l0_1 t226 ([] : List (S39))) else (none)) else (none)))) = some (r1, r2) := h
 clear h
 replace H := Option.bind_eq_some_iff.mp H
 obtain ⟨t222, A20, H⟩ := H
 replace H : ((slices_Reverse_int_int.f k t222).bind fun t226 => (if 0 ≤ (t222.length : Int) then (if ((t222.length : Int) : Int).toNat ≤ 35184372088832 then (layout_flipped.l0 k (List.replicate ((t222.length : Int) : Int).toNat 0) (l0_1.length : Int) 0 l0_0 l0_1 t226 ([] : List (S39))) else (none)) else (none))) = some (r1, r2) := H
 have A2 := gA A20
 clear A20
 replace H := Option.bind_eq_some_iff.mp H
 obtain ⟨t226, A30, H⟩ := H
 replace H : (if 0 ≤ (t222.length : Int) then (if ((t222.length : Int) : Int).toNat ≤ 35184372088832 then (layout_flipped.l0 k (List.replicate ((t222.length : Int) : Int).toNat 0) (l0_1.length : Int) 0 l0_0 l0_1 t226 ([] : List (S39))) else (none)) else (none)) = some (r1, r2) := H
 have A3 := gA A30
 clear A30
 obtain ⟨c4, H⟩ := iS H
 have c4b0 := eq_true c4
 have c4b1 := decide_eq_true c4
 clear c4
 obtain ⟨c5, H⟩ := iS H
 have c5b0 := eq_true c5
 have c5b1 := decide_eq_true c5
 clear c5
 obtain ⟨y227, hy227⟩ : ∃ y_ : List Int, y_ = (List.replicate ((t222.length : Int) : Int).toNat 0) := ⟨_, rfl⟩
 replace H : (layout_flipped.l0 k y227 (l0_1.length : Int) 0 l0_0 l0_1 t226 ([] : List (S39))) = some (r1, r2) := by first | (rw [hy227]; with_reducible exact H) | (have H2_ := (Option.bind_some _ _).symm.trans H; rw [hy227]; with_reducible exact H2_) | (have H2_ := (Option.bind_some _ _).symm.trans H; with_reducible exact H2_) | with_reducible exact H | (rw [hy227]; exact H) | exact H
 have Ny227 := gA hy227
 clear hy227
 have H' := gA H
 clear H
 go_enter Try.func27, Try.ntmps27
 try go_step3
 go_wp2_with (first | ((with_reducible refine gate_dst (N := 1) rfl ?_); refine box_event ?hg (N := 1) ?hd (cs := #[.slice A0_0 l0_0.length c0_0, .slice A0_1 l0_1.length c0_1]) (t := 25) ?hr ?_; (case hd => rfl); (case hg => rfl); (case hr => first | (go_simp; done) | (go_simp; rfl)); intro gb220 hg w6 hbox hb; replace HO0_1 := gA (Kd.V_below (Kd.V_elderB (gV HO0_1) gb220 (Nat.le_of_eq hg.symm)) hb); have BK220 := gA (hbox); have GW220 := gA ((by rw [hg]; exact (below_size (gB HB)) : w.heap.size ≤ gb220)); have GE220 := gA ((by rw [hg]; exact (below_size (gB HB)) : w.heap.size ≤ gb220)); replace HB := gA (below_step (gB HB) hb); clear hb hbox hg) | ((with_reducible refine gate_dst (N := 2) rfl ?_); refine box_event ?hg (N := 2) ?hd (cs := #[.slice none 0 0, .slice none 0 0]) (t := 25) ?hr ?_; (case hd => rfl); (case hg => rfl); (case hr => first | (go_simp; done) | (go_simp; rfl)); intro gb221 hg w7 hbox hb; replace HO0_1 := gA (Kd.V_below (Kd.V_elderB (gV HO0_1) gb221 (Nat.le_of_eq hg.symm)) hb); have BK221 := gA (hbox); have GW221 := gA ((by rw [hg]; exact (below_size (gB HB)) : w.heap.size ≤ gb221)); have GE221 := gA ((by rw [hg]; exact (below_size (gB HB)) : w.heap.size ≤ gb221)); replace HB := gA (below_step (gB HB) hb); have NB220_221 := gA ((by rw [hg]; exact Nat.ne_of_lt (blk_lt (gK BK220)) : gb220 ≠ gb221)); have NB221_220 := gA ((by rw [hg]; exact Nat.ne_of_gt (blk_lt (gK BK220)) : gb221 ≠ gb220)); replace BK220 := gA (blk_below (gK BK220) hb); clear hb hbox hg; have hnb8 := NB220_221.out; have hnc8 := NB221_220.out; obtain ⟨hcz9_0, hcz9_1, hfz9_0, hfz9_1⟩ := gz2 BK220) | ((with_reducible refine gate_callee (f := 45) rfl ?_); refine goesL_ (some 10) rfl rfl Try.func45 (by kernel_rfl) rfl #[.slice A0_0 l0_0.length c0_0] rfl (by (try simp only [List.map_toArray, List.map_cons, List.map_nil]); first | done | rfl | (simp only [List.length_drop, List.length_take]; rfl)) ?_; (with_reducible refine (slices_Clone_int_int.calls _ _ l0_0 t222 _ ?side1 ?side2 A2.out).mono ?_); (case side1 => exact gC HR0_0 HB); (case side2 => exact HC0_0.out); rintro e w10 ⟨v223, rfl, ho0, hb⟩; refine ⟨_, rfl, ?_⟩; replace HO0_1 := gA (Kd.V_elder' (gV HO0_1) (Kd.R_base ho0) hb); have HO224 := gA (Kd.R_lower (Kd.R_newM (M := fun k_ => (w.heap.size ≤ k_)) ho0 (below_size (gB HB)) (fun k_ h_ => h_)) (below_size (gB HB))); replace BK220 := gA (blk_below (gK BK220) hb); replace BK221 := gA (blk_below (gK BK221) hb); replace HB := gA (below_step (gB HB) hb); (try clear hb); (try clear ho0); obtain ⟨Ao11, co11, eo11⟩ := Kd.R_slice HO224.out; subst eo11) | ((with_reducible refine gate_dst (N := 3) rfl ?_); refine box_event ?hg (N := 3) ?hd (cs := #[.slice none 0 0, .slice none 0 0]) (t := 25) ?hr ?_; (case hd => rfl); (case hg => rfl); (case hr => first | (go_simp; done) | (go_simp; rfl)); intro gb225 hg w12 hbox hb; replace HO0_1 := gA (Kd.V_below (Kd.V_elderB (gV HO0_1) gb225 (Nat.le_of_eq hg.symm)) hb); replace HO224 := gA (Kd.R_below (gR HO224) hb); have BK225 := gA (hbox); have GW225 := gA ((by rw [hg]; exact (below_size (gB HB)) : w.heap.size ≤ gb225)); have GE225 := gA ((by rw [hg]; exact (below_size (gB HB)) : w.heap.size ≤ gb225)); replace HB := gA (below_step (gB HB) hb); have NB220_225 := gA ((by rw [hg]; exact Nat.ne_of_lt (blk_lt (gK BK220)) : gb220 ≠ gb225)); have NB225_220 := gA ((by rw [hg]; exact Nat.ne_of_gt (blk_lt (gK BK220)) : gb225 ≠ gb220)); replace BK220 := gA (blk_below (gK BK220) hb); have NB221_225 := gA ((by rw [hg]; exact Nat.ne_of_lt (blk_lt (gK BK221)) : gb221 ≠ gb225)); have NB225_221 := gA ((by rw [hg]; exact Nat.ne_of_gt (blk_lt (gK BK221)) : gb225 ≠ gb221)); replace BK221 := gA (blk_below (gK BK221) hb); clear hb hbox hg; have hnb13 := NB225_220.out; have hnc13 := NB220_225.out; have hnb14 := NB225_221.out; have hnc14 := NB221_225.out; obtain ⟨hcz15_0, hcz15_1, hfz15_0, hfz15_1⟩ := gz2 BK225) | ((with_reducible refine gate_store (t := 25) (p := 3) rfl ?_); refine store_event (t := 25) (p := 3) (v := ?vo_w16) (w1 := ((w12.setCell ⟨gb225, 0, none⟩ (.slice Ao11 t222.length co11)).setCell ⟨gb225, 1, none⟩ (.slice none 0 0))) ?hg ?ho ?hn ?hr ?_; (case ho => rfl); (case hg => rfl); (case hn => rfl); (case hr => first | (go_simp; done) | (go_simp; rfl)); intro w16 hw; have n0_ : Aside0 (Kd.V k39 39 w16 w.heap.size (fun k_ => (P0_1_ k_ ∨ w.heap.size ≤ k_) ∧ some k_ ≠ (.slice Ao11 t222.length co11 : Value).ownBlock ∧ k_ ≠ gb220 ∧ k_ ≠ gb221 ∧ k_ ≠ gb225) (.slice A0_1 l0_1.length c0_1) l0_1) := ⟨(by rw [hw]; exact (Kd.V_mono (Kd.V_far (p := ⟨gb225, 1, none⟩) (Kd.V_far (p := ⟨gb225, 0, none⟩) (Kd.V_mono HO0_1.out (fun k_ hk => (⟨hk, hk.2⟩ : _ ∧ k_ ≠ gb225))) (fun _ hk => hk.2) (.slice Ao11 t222.length co11)) (fun _ hk => hk.2) (.slice none 0 0)) (fun _ hk => by first | exact ⟨hk.1.1.1.1.1, ⟨hk.1.1.2, ⟨hk.1.1.1.1.2, ⟨hk.1.1.1.2, hk.1.2⟩⟩⟩⟩ | (simp_all; done))))⟩; have n1_ : Aside0 (Kd.R (Kd.int .i64) 3 w16 w.heap.size (fun k_ => (w.heap.size ≤ k_)) (.slice Ao11 t222.length co11) t222) := ⟨(by rw [hw]; exact (Kd.R_mono (Kd.R_far (p := ⟨gb225, 1, none⟩) (Kd.R_far (p := ⟨gb225, 0, none⟩) (Kd.R_types HO224.out BK225.out (by decide)) (fun _ hk => hk.2) (.slice Ao11 t222.length co11)) (fun _ hk => hk.2) (.slice none 0 0)) (fun _ hk => hk.1.1)))⟩; have n2_ : Aside0 (w16.heap[gb220]? = some (.cells #[.slice A0_0 l0_0.length c0_0, .slice A0_1 l0_1.length c0_1] 25 (0, 0))) := ⟨(by rw [hw]; exact (by refine blk_far ?_ NB220_225.out _; refine blk_far ?_ NB220_225.out _; exact gK BK220))⟩; have n3_ : Aside0 (w16.heap[gb221]? = some (.cells #[.slice none 0 0, .slice none 0 0] 25 (0, 0))) := ⟨(by rw [hw]; exact (by refine blk_far ?_ NB221_225.out _; refine blk_far ?_ NB221_225.out _; exact gK BK221))⟩; have n4_ : Aside0 (w16.heap[gb225]? = some (.cells #[.slice Ao11 t222.length co11, .slice none 0 0] 25 (0, 0))) := ⟨(by rw [hw]; exact (by refine blk_put (cs := #[.slice Ao11 t222.length co11, .slice none 0 0]) ?_ 1 _ rfl; refine blk_put (cs := #[.slice none 0 0, .slice none 0 0]) ?_ 0 _ rfl; exact gK BK225))⟩; have n5_ : Aside0 (Below w.heap.size w w16) := ⟨(by rw [hw]; exact (by repeat (first | (with_reducible first | exact HB.out | apply below_alloc | apply pw_below_drewN | apply below_drew1 | refine below_set ?_ GE220.out | refine below_set ?_ GE221.out | refine below_set ?_ GE225.out) | exact HB.out)))⟩; clear hw HO0_1 HO224 BK220 BK221 BK225 HB; have HO0_1 := n0_; have HO224 := n1_; have BK220 := n2_; have BK221 := n3_; have BK225 := n4_; have HB := n5_; clear n0_ n1_ n2_ n3_ n4_ n5_; obtain ⟨hcz17_0, hcz17_1, hfz17_0, hfz17_1⟩ := gz2 BK225) | ((with_reducible refine gate_callee (f := 46) rfl ?_); refine goesL_ (some 14) rfl rfl Try.func46 (by kernel_rfl) rfl #[.slice Ao11 t222.length co11] rfl (by (try simp only [List.map_toArray, List.map_cons, List.map_nil]); first | done | rfl | (simp only [List.length_drop, List.length_take]; rfl)) ?_; (with_reducible refine (slices_Reverse_int_int.calls k (fun k_ => some k_ = (.slice Ao11 t222.length co11 : Value).ownBlock) (.slice Ao11 t222.length co11) t222 t226 w _ ?side1 ?side2 A3.out).mono ?_); (case side1 => repeat (first | (with_reducible first | exact HB.out | apply below_alloc | apply pw_below_drewN | apply below_drew1 | refine below_set ?_ GE220.out | refine below_set ?_ GE221.out | refine below_set ?_ GE225.out) | exact HB.out)); (case side2 => exact Kd.R_tight rfl HO224.out); rintro e w18 ⟨rfl, hy0, hb, hkp⟩; refine ⟨_, rfl, ?_⟩; replace HO0_1 := gA (Kd.V_mono (ok' := fun k_ => (P0_1_ k_ ∨ w.heap.size ≤ k_) ∧ some k_ ≠ (.slice Ao11 t222.length co11 : Value).ownBlock ∧ k_ ≠ gb220 ∧ k_ ≠ gb221 ∧ k_ ≠ gb225) (Kd.V_keptB (HO0_1.out) hkp (fun k_ hk_ hs_ => (hk_.2.1) hs_)) (fun k_ hk_ => ⟨hk_.1.1, hk_.1.2.1, hk_.1.2.2.1, hk_.1.2.2.2.1, hk_.1.2.2.2.2⟩)); replace BK220 := gA (blk_kept (gK BK220) hkp (fun hs_ => (fun e_ => (Kd.R_ne HO224.out BK220.out (by decide)) e_) hs_)); replace BK221 := gA (blk_kept (gK BK221) hkp (fun hs_ => (fun e_ => (Kd.R_ne HO224.out BK221.out (by decide)) e_) hs_)); replace BK225 := gA (blk_kept (gK BK225) hkp (fun hs_ => (fun e_ => (Kd.R_ne HO224.out BK225.out (by decide)) e_) hs_)); replace HO224 := gA (Kd.R_reok rfl hy0 (fun k_ e_ => HO224.out.1 k_ e_)); replace HB := gA (hb); (try clear hb); (try clear hkp); (try clear hy0); obtain ⟨hcz19_0, hcz19_1, hfz19_0, hfz19_1⟩ := gz2 BK225) | ((with_reducible refine gate_dst (N := 18) rfl ?_); refine Kd.R_make (Kd.int .i64) _ 3 rfl (N := 18) rfl 22 _ _ rfl (t222.length : Int) rfl rfl Try.underlying22 (.int .i64 0) 8 info3 rfl (by decide) (by omega) 0 (ok := fun _ => True) (okp := fun _ => True) rfl (fun _ hk => hk) trivial (of_decide_eq_true (by assumption)) (Nat.le_trans (Nat.mul_le_mul_right _ (of_decide_eq_true (by assumption) : (t222.length : Int).toNat ≤ 35184372088832)) (by omega)) (Below.refl _ _) (Nat.le_refl _) ?_; intro v228 w20 ho21 hb hg_ hnew_; clear hg_ hnew_; (first | rw [← Ny227.out] at ho21 | (simp only [Int.reduceToNat] at ho21; rw [← Ny227.out] at ho21)); replace HO0_1 := gA (Kd.V_elder' (gV HO0_1) (Kd.R_base ho21) hb); have HO229 := gA (Kd.R_lower (Kd.R_new' (Kd.R_newM (M := fun k_ => (w.heap.size ≤ k_)) ho21 (below_size (gB HB)) (fun k_ h_ => h_)) (Kd.R_lt (gR HO224))) (below_size (gB HB))); replace HO224 := gA (Kd.R_elder' (gR HO224) (Kd.R_base ho21) hb); replace BK220 := gA (blk_below (gK BK220) hb); replace BK221 := gA (blk_below (gK BK221) hb); replace BK225 := gA (blk_below (gK BK225) hb); replace HB := gA (below_step (gB HB) hb); clear hb ho21; obtain ⟨hcz22_0, hcz22_1, hfz22_0, hfz22_1⟩ := gz2 BK220))
 try (go_step3; go_wp2_with (first | ((with_reducible refine gate_dst (N := 1) rfl ?_); refine box_event ?hg (N := 1) ?hd (cs := #[.slice A0_0 l0_0.length c0_0, .slice A0_1 l0_1.length c0_1]) (t := 25) ?hr ?_; (case hd => rfl); (case hg => rfl); (case hr => first | (go_simp; done) | (go_simp; rfl)); intro gb220 hg w6 hbox hb; replace HO0_1 := gA (Kd.V_below (Kd.V_elderB (gV HO0_1) gb220 (Nat.le_of_eq hg.symm)) hb); have BK220 := gA (hbox); have GW220 := gA ((by rw [hg]; exact (below_size (gB HB)) : w.heap.size ≤ gb220)); have GE220 := gA ((by rw [hg]; exact (below_size (gB HB)) : w.heap.size ≤ gb220)); replace HB := gA (below_step (gB HB) hb); clear hb hbox hg) | ((with_reducible refine gate_dst (N := 2) rfl ?_); refine box_event ?hg (N := 2) ?hd (cs := #[.slice none 0 0, .slice none 0 0]) (t := 25) ?hr ?_; (case hd => rfl); (case hg => rfl); (case hr => first | (go_simp; done) | (go_simp; rfl)); intro gb221 hg w7 hbox hb; replace HO0_1 := gA (Kd.V_below (Kd.V_elderB (gV HO0_1) gb221 (Nat.le_of_eq hg.symm)) hb); have BK221 := gA (hbox); have GW221 := gA ((by rw [hg]; exact (below_size (gB HB)) : w.heap.size ≤ gb221)); have GE221 := gA ((by rw [hg]; exact (below_size (gB HB)) : w.heap.size ≤ gb221)); replace HB := gA (below_step (gB HB) hb); have NB220_221 := gA ((by rw [hg]; exact Nat.ne_of_lt (blk_lt (gK BK220)) : gb220 ≠ gb221)); have NB221_220 := gA ((by rw [hg]; exact Nat.ne_of_gt (blk_lt (gK BK220)) : gb221 ≠ gb220)); replace BK220 := gA (blk_below (gK BK220) hb); clear hb hbox hg; have hnb8 := NB220_221.out; have hnc8 := NB221_220.out; obtain ⟨hcz9_0, hcz9_1, hfz9_0, hfz9_1⟩ := gz2 BK220) | ((with_reducible refine gate_callee (f := 45) rfl ?_); refine goesL_ (some 10) rfl rfl Try.func45 (by kernel_rfl) rfl #[.slice A0_0 l0_0.length c0_0] rfl (by (try simp only [List.map_toArray, List.map_cons, List.map_nil]); first | done | rfl | (simp only [List.length_drop, List.length_take]; rfl)) ?_; (with_reducible refine (slices_Clone_int_int.calls _ _ l0_0 t222 _ ?side1 ?side2 A2.out).mono ?_); (case side1 => exact gC HR0_0 HB); (case side2 => exact HC0_0.out); rintro e w10 ⟨v223, rfl, ho0, hb⟩; refine ⟨_, rfl, ?_⟩; replace HO0_1 := gA (Kd.V_elder' (gV HO0_1) (Kd.R_base ho0) hb); have HO224 := gA (Kd.R_lower (Kd.R_newM (M := fun k_ => (w.heap.size ≤ k_)) ho0 (below_size (gB HB)) (fun k_ h_ => h_)) (below_size (gB HB))); replace BK220 := gA (blk_below (gK BK220) hb); replace BK221 := gA (blk_below (gK BK221) hb); replace HB := gA (below_step (gB HB) hb); (try clear hb); (try clear ho0); obtain ⟨Ao11, co11, eo11⟩ := Kd.R_slice HO224.out; subst eo11) | ((with_reducible refine gate_dst (N := 3) rfl ?_); refine box_event ?hg (N := 3) ?hd (cs := #[.slice none 0 0, .slice none 0 0]) (t := 25) ?hr ?_; (case hd => rfl); (case hg => rfl); (case hr => first | (go_simp; done) | (go_simp; rfl)); intro gb225 hg w12 hbox hb; replace HO0_1 := gA (Kd.V_below (Kd.V_elderB (gV HO0_1) gb225 (Nat.le_of_eq hg.symm)) hb); replace HO224 := gA (Kd.R_below (gR HO224) hb); have BK225 := gA (hbox); have GW225 := gA ((by rw [hg]; exact (below_size (gB HB)) : w.heap.size ≤ gb225)); have GE225 := gA ((by rw [hg]; exact (below_size (gB HB)) : w.heap.size ≤ gb225)); replace HB := gA (below_step (gB HB) hb); have NB220_225 := gA ((by rw [hg]; exact Nat.ne_of_lt (blk_lt (gK BK220)) : gb220 ≠ gb225)); have NB225_220 := gA ((by rw [hg]; exact Nat.ne_of_gt (blk_lt (gK BK220)) : gb225 ≠ gb220)); replace BK220 := gA (blk_below (gK BK220) hb); have NB221_225 := gA ((by rw [hg]; exact Nat.ne_of_lt (blk_lt (gK BK221)) : gb221 ≠ gb225)); have NB225_221 := gA ((by rw [hg]; exact Nat.ne_of_gt (blk_lt (gK BK221)) : gb225 ≠ gb221)); replace BK221 := gA (blk_below (gK BK221) hb); clear hb hbox hg; have hnb13 := NB225_220.out; have hnc13 := NB220_225.out; have hnb14 := NB225_221.out; have hnc14 := NB221_225.out; obtain ⟨hcz15_0, hcz15_1, hfz15_0, hfz15_1⟩ := gz2 BK225) | ((with_reducible refine gate_store (t := 25) (p := 3) rfl ?_); refine store_event (t := 25) (p := 3) (v := ?vo_w16) (w1 := ((w12.setCell ⟨gb225, 0, none⟩ (.slice Ao11 t222.length co11)).setCell ⟨gb225, 1, none⟩ (.slice none 0 0))) ?hg ?ho ?hn ?hr ?_; (case ho => rfl); (case hg => rfl); (case hn => rfl); (case hr => first | (go_simp; done) | (go_simp; rfl)); intro w16 hw; have n0_ : Aside0 (Kd.V k39 39 w16 w.heap.size (fun k_ => (P0_1_ k_ ∨ w.heap.size ≤ k_) ∧ some k_ ≠ (.slice Ao11 t222.length co11 : Value).ownBlock ∧ k_ ≠ gb220 ∧ k_ ≠ gb221 ∧ k_ ≠ gb225) (.slice A0_1 l0_1.length c0_1) l0_1) := ⟨(by rw [hw]; exact (Kd.V_mono (Kd.V_far (p := ⟨gb225, 1, none⟩) (Kd.V_far (p := ⟨gb225, 0, none⟩) (Kd.V_mono HO0_1.out (fun k_ hk => (⟨hk, hk.2⟩ : _ ∧ k_ ≠ gb225))) (fun _ hk => hk.2) (.slice Ao11 t222.length co11)) (fun _ hk => hk.2) (.slice none 0 0)) (fun _ hk => by first | exact ⟨hk.1.1.1.1.1, ⟨hk.1.1.2, ⟨hk.1.1.1.1.2, ⟨hk.1.1.1.2, hk.1.2⟩⟩⟩⟩ | (simp_all; done))))⟩; have n1_ : Aside0 (Kd.R (Kd.int .i64) 3 w16 w.heap.size (fun k_ => (w.heap.size ≤ k_)) (.slice Ao11 t222.length co11) t222) := ⟨(by rw [hw]; exact (Kd.R_mono (Kd.R_far (p := ⟨gb225, 1, none⟩) (Kd.R_far (p := ⟨gb225, 0, none⟩) (Kd.R_types HO224.out BK225.out (by decide)) (fun _ hk => hk.2) (.slice Ao11 t222.length co11)) (fun _ hk => hk.2) (.slice none 0 0)) (fun _ hk => hk.1.1)))⟩; have n2_ : Aside0 (w16.heap[gb220]? = some (.cells #[.slice A0_0 l0_0.length c0_0, .slice A0_1 l0_1.length c0_1] 25 (0, 0))) := ⟨(by rw [hw]; exact (by refine blk_far ?_ NB220_225.out _; refine blk_far ?_ NB220_225.out _; exact gK BK220))⟩; have n3_ : Aside0 (w16.heap[gb221]? = some (.cells #[.slice none 0 0, .slice none 0 0] 25 (0, 0))) := ⟨(by rw [hw]; exact (by refine blk_far ?_ NB221_225.out _; refine blk_far ?_ NB221_225.out _; exact gK BK221))⟩; have n4_ : Aside0 (w16.heap[gb225]? = some (.cells #[.slice Ao11 t222.length co11, .slice none 0 0] 25 (0, 0))) := ⟨(by rw [hw]; exact (by refine blk_put (cs := #[.slice Ao11 t222.length co11, .slice none 0 0]) ?_ 1 _ rfl; refine blk_put (cs := #[.slice none 0 0, .slice none 0 0]) ?_ 0 _ rfl; exact gK BK225))⟩; have n5_ : Aside0 (Below w.heap.size w w16) := ⟨(by rw [hw]; exact (by repeat (first | (with_reducible first | exact HB.out | apply below_alloc | apply pw_below_drewN | apply below_drew1 | refine below_set ?_ GE220.out | refine below_set ?_ GE221.out | refine below_set ?_ GE225.out) | exact HB.out)))⟩; clear hw HO0_1 HO224 BK220 BK221 BK225 HB; have HO0_1 := n0_; have HO224 := n1_; have BK220 := n2_; have BK221 := n3_; have BK225 := n4_; have HB := n5_; clear n0_ n1_ n2_ n3_ n4_ n5_; obtain ⟨hcz17_0, hcz17_1, hfz17_0, hfz17_1⟩ := gz2 BK225) | ((with_reducible refine gate_callee (f := 46) rfl ?_); refine goesL_ (some 14) rfl rfl Try.func46 (by kernel_rfl) rfl #[.slice Ao11 t222.length co11] rfl (by (try simp only [List.map_toArray, List.map_cons, List.map_nil]); first | done | rfl | (simp only [List.length_drop, List.length_take]; rfl)) ?_; (with_reducible refine (slices_Reverse_int_int.calls k (fun k_ => some k_ = (.slice Ao11 t222.length co11 : Value).ownBlock) (.slice Ao11 t222.length co11) t222 t226 w _ ?side1 ?side2 A3.out).mono ?_); (case side1 => repeat (first | (with_reducible first | exact HB.out | apply below_alloc | apply pw_below_drewN | apply below_drew1 | refine below_set ?_ GE220.out | refine below_set ?_ GE221.out | refine below_set ?_ GE225.out) | exact HB.out)); (case side2 => exact Kd.R_tight rfl HO224.out); rintro e w18 ⟨rfl, hy0, hb, hkp⟩; refine ⟨_, rfl, ?_⟩; replace HO0_1 := gA (Kd.V_mono (ok' := fun k_ => (P0_1_ k_ ∨ w.heap.size ≤ k_) ∧ some k_ ≠ (.slice Ao11 t222.length co11 : Value).ownBlock ∧ k_ ≠ gb220 ∧ k_ ≠ gb221 ∧ k_ ≠ gb225) (Kd.V_keptB (HO0_1.out) hkp (fun k_ hk_ hs_ => (hk_.2.1) hs_)) (fun k_ hk_ => ⟨hk_.1.1, hk_.1.2.1, hk_.1.2.2.1, hk_.1.2.2.2.1, hk_.1.2.2.2.2⟩)); replace BK220 := gA (blk_kept (gK BK220) hkp (fun hs_ => (fun e_ => (Kd.R_ne HO224.out BK220.out (by decide)) e_) hs_)); replace BK221 := gA (blk_kept (gK BK221) hkp (fun hs_ => (fun e_ => (Kd.R_ne HO224.out BK221.out (by decide)) e_) hs_)); replace BK225 := gA (blk_kept (gK BK225) hkp (fun hs_ => (fun e_ => (Kd.R_ne HO224.out BK225.out (by decide)) e_) hs_)); replace HO224 := gA (Kd.R_reok rfl hy0 (fun k_ e_ => HO224.out.1 k_ e_)); replace HB := gA (hb); (try clear hb); (try clear hkp); (try clear hy0); obtain ⟨hcz19_0, hcz19_1, hfz19_0, hfz19_1⟩ := gz2 BK225) | ((with_reducible refine gate_dst (N := 18) rfl ?_); refine Kd.R_make (Kd.int .i64) _ 3 rfl (N := 18) rfl 22 _ _ rfl (t222.length : Int) rfl rfl Try.underlying22 (.int .i64 0) 8 info3 rfl (by decide) (by omega) 0 (ok := fun _ => True) (okp := fun _ => True) rfl (fun _ hk => hk) trivial (of_decide_eq_true (by assumption)) (Nat.le_trans (Nat.mul_le_mul_right _ (of_decide_eq_true (by assumption) : (t222.length : Int).toNat ≤ 35184372088832)) (by omega)) (Below.refl _ _) (Nat.le_refl _) ?_; intro v228 w20 ho21 hb hg_ hnew_; clear hg_ hnew_; (first | rw [← Ny227.out] at ho21 | (simp only [Int.reduceToNat] at ho21; rw [← Ny227.out] at ho21)); replace HO0_1 := gA (Kd.V_elder' (gV HO0_1) (Kd.R_base ho21) hb); have HO229 := gA (Kd.R_lower (Kd.R_new' (Kd.R_newM (M := fun k_ => (w.heap.size ≤ k_)) ho21 (below_size (gB HB)) (fun k_ h_ => h_)) (Kd.R_lt (gR HO224))) (below_size (gB HB))); replace HO224 := gA (Kd.R_elder' (gR HO224) (Kd.R_base ho21) hb); replace BK220 := gA (blk_below (gK BK220) hb); replace BK221 := gA (blk_below (gK BK221) hb); replace BK225 := gA (blk_below (gK BK225) hb); replace HB := gA (below_step (gB HB) hb); clear hb ho21; obtain ⟨hcz22_0, hcz22_1, hfz22_0, hfz22_1⟩ := gz2 BK220)))
 try (go_step3; go_wp2)
 go_loopg [22] k (fun kq v22 w' => ∃ (x4_1 : List Int) (x22_1 : Int) (x226001_1 : List (S39)) (u226001 : Value), v22 = .int .i64 x22_1 ∧ Aside0 (layout_flipped.l0 kq x4_1 (l0_1.length : Int) x22_1 l0_0 l0_1 t226 x226001_1 = some (r1, r2)) ∧ Aside0 (kq ≤ k) ∧ Aside0 (Kd.R (Kd.int .i64) 3 w' w.heap.size (fun k_ => (w.heap.size ≤ k_) ∧ some k_ ≠ ((.slice Ao11 t222.length co11) : Value).ownBlock) v228 x4_1) ∧ Aside0 (Kd.V k39 39 w' w.heap.size (fun k_ => (P0_1_ k_ ∨ w.heap.size ≤ k_) ∧ some k_ ≠ (v228 : Value).ownBlock ∧ some k_ ≠ ((.slice Ao11 t222.length co11) : Value).ownBlock ∧ some k_ ≠ (u226001 : Value).ownBlock ∧ k_ ≠ gb220 ∧ k_ ≠ gb221 ∧ k_ ≠ gb225) (.slice A0_1 l0_1.length c0_1) l0_1) ∧ Aside0 (Kd.R (Kd.int .i64) 3 w' w.heap.size (fun k_ => (w.heap.size ≤ k_) ∧ some k_ ≠ (v228 : Value).ownBlock) (.slice Ao11 t222.length co11) t226) ∧ Aside0 (Kd.N k39 39 w' w.heap.size (fun k_ => (P0_1_ k_ ∨ w.heap.size ≤ k_) ∧ some k_ ≠ (v228 : Value).ownBlock ∧ some k_ ≠ ((.slice Ao11 t222.length co11) : Value).ownBlock ∧ k_ ≠ gb220 ∧ k_ ≠ gb221 ∧ k_ ≠ gb225) u226001 x226001_1) ∧ Aside0 (w'.heap[gb220]? = some (.cells #[(.slice A0_0 l0_0.length c0_0), (.slice A0_1 l0_1.length c0_1)] 25 (0, 0))) ∧ Aside0 (w'.heap[gb221]? = some (.cells #[(.slice none 0 0), (.slice none 0 0)] 25 (0, 0))) ∧ Aside0 (w'.heap[gb225]? = some (.cells #[(.slice Ao11 t222.length co11), u226001] 25 (0, 0))) ∧ Aside0 (Below w.heap.size w w'))
 case atStart => exact ⟨(y227), (0), (([] : List (S39))), (.slice none 0 0), (rfl), H', ⟨Nat.le_refl _⟩, ⟨Kd.R_mono HO229.out (fun _ hk => ⟨hk.1.1, hk.2⟩)⟩, ⟨Kd.V_mono HO0_1.out (fun _ hk => ⟨hk.1.1, ⟨hk.2, ⟨hk.1.2.1, ⟨(by simp [Value.ownBlock]), ⟨hk.1.2.2.1, ⟨hk.1.2.2.2.1, hk.1.2.2.2.2⟩⟩⟩⟩⟩⟩)⟩, ⟨gR HO224⟩, ⟨by first | exact Kd.R_nil _ _ _ _ _ | exact Kd.N_nil _ _ _ _ _ | exact Kd.V_nil _ _ _ _ _ | exact Kd.Q_nil _ _ _ _ _ | exact Kd.S_nil _ _ _ _ _⟩, ⟨gK BK220⟩, ⟨gK BK221⟩, ⟨gK BK225⟩, ⟨by repeat first | exact gB HB | refine below_set ?_ GE220.out | refine below_set ?_ GE221.out | refine below_set ?_ GE225.out⟩⟩
 case round =>
  clear H'
  try clear c1
  try clear c2
  try clear p2
  try clear c4
  try clear c4b0
  try clear c4b1
  try clear c5
  try clear c5b0
  try clear c5b1
  try clear c8
  try clear c13
  try clear c14
  try clear hcz15_0
  try clear hcz15_1
  try clear hcz17_0
  try clear hcz17_1
  try clear hcz19_0
  try clear hcz19_1
  try clear hcz22_0
  try clear hcz22_1
  try clear hcz9_0
  try clear hcz9_1
  try clear hfz15_0
  try clear hfz15_1
  try clear hfz17_0
  try clear hfz17_1
  try clear hfz19_0
  try clear hfz19_1
  try clear hfz22_0
  try clear hfz22_1
  try clear hfz9_0
  try clear hfz9_1
  obtain ⟨x4_1, x22_1, x226001_1, u226001, rfl, HA, HK1, HO_4, HO_221001, HO_226000, HO_226001, BK220, BK221, BK225, HB⟩ := hrel
  have hl226000_1 := (Kd.R_reads' HO_226000.out).1
  rw [hl226000_1] at HO_226000
  (try simp only [hl226000_1])
  (try simp only [hl226000_1] at BK220)
  (try simp only [hl226000_1] at BK221)
  (try simp only [hl226000_1] at BK225)
  (try simp only [hl226000_1] at HO_4)
  (try simp only [hl226000_1] at HO_221001)
  (try simp only [hl226000_1] at HO_226001)
  cases gk with
  | zero => exact absurd HA.out (by simp [layout_flipped.l0])
  | succ k1 =>
   have H := HA.out; clear HA
   simp only [layout_flipped.l0] at H
   by_cases c23 : x22_1 < (l0_1.length : Int)
   ·rw [if_pos c23] at H
    have c23b0 := decide_eq_true c23
    clear c23
    have H' := gA H
    clear H
    obtain ⟨Ao24, co24, eo24⟩ := Kd.R_slice HO_4.out
    subst eo24
    go_wp2
    try (go_step3; go_wp2)
    try (go_step3; go_wp2)
    go_loopg [5, 26] k1 (fun kq v5 v26 w' => ∃ (x5_2 : Int) (x26_2 : Int), v5 = .int .i64 x5_2 ∧ v26 = .int .i64 x26_2 ∧ Aside0 (layout_flipped.l1 kq x4_1 x5_2 (l0_1.length : Int) x22_1 (x4_1.length : Int) x26_2 l0_0 l0_1 t226 x226001_1 = some (r1, r2)) ∧ Aside0 (kq ≤ k1) ∧ Aside0 (Kd.R (Kd.int .i64) 3 w' w.heap.size (fun k_ => (w.heap.size ≤ k_) ∧ some k_ ≠ ((.slice Ao11 t226.length co11) : Value).ownBlock) (.slice Ao24 x4_1.length co24) x4_1) ∧ Aside0 (Kd.V k39 39 w' w.heap.size (fun k_ => (P0_1_ k_ ∨ w.heap.size ≤ k_) ∧ some k_ ≠ ((.slice Ao24 x4_1.length co24) : Value).ownBlock ∧ some k_ ≠ ((.slice Ao11 t226.length co11) : Value).ownBlock ∧ some k_ ≠ (u226001 : Value).ownBlock ∧ k_ ≠ gb220 ∧ k_ ≠ gb221 ∧ k_ ≠ gb225) (.slice A0_1 l0_1.length c0_1) l0_1) ∧ Aside0 (Kd.R (Kd.int .i64) 3 w' w.heap.size (fun k_ => (w.heap.size ≤ k_) ∧ some k_ ≠ ((.slice Ao24 x4_1.length co24) : Value).ownBlock) (.slice Ao11 t226.length co11) t226) ∧ Aside0 (Kd.N k39 39 w' w.heap.size (fun k_ => (P0_1_ k_ ∨ w.heap.size ≤ k_) ∧ some k_ ≠ ((.slice Ao24 x4_1.length co24) : Value).ownBlock ∧ some k_ ≠ ((.slice Ao11 t226.length co11) : Value).ownBlock ∧ k_ ≠ gb220 ∧ k_ ≠ gb221 ∧ k_ ≠ gb225) u226001 x226001_1) ∧ Aside0 (w'.heap[gb220]? = some (.cells #[(.slice A0_0 l0_0.length c0_0), (.slice A0_1 l0_1.length c0_1)] 25 (0, 0))) ∧ Aside0 (w'.heap[gb221]? = some (.cells #[(.slice none 0 0), (.slice none 0 0)] 25 (0, 0))) ∧ Aside0 (w'.heap[gb225]? = some (.cells #[(.slice Ao11 t226.length co11), u226001] 25 (0, 0))) ∧ Aside0 (Below w.heap.size w w'))
    case atStart => exact ⟨(0), (0), (rfl), (rfl), H', ⟨Nat.le_refl _⟩, ⟨by (try simp only [hl226000_1]); (with_reducible repeat (first | apply Kd.R_alloc | apply Kd.R_drewN | apply Kd.R_drew)); exact HO_4.out⟩, ⟨by (try simp only [hl226000_1]); (with_reducible repeat (first | apply Kd.V_alloc | apply Kd.V_drewN | apply Kd.V_drew)); exact HO_221001.out⟩, ⟨by (try simp only [hl226000_1]); (with_reducible repeat (first | apply Kd.R_alloc | apply Kd.R_drewN | apply Kd.R_drew)); exact HO_226000.out⟩, ⟨by (try simp only [hl226000_1]); (with_reducible repeat (first | apply Kd.N_alloc | apply Kd.N_drewN | apply Kd.N_drew)); exact HO_226001.out⟩, ⟨by (try simp only [hl226000_1]); exact gK BK220⟩, ⟨by (try simp only [hl226000_1]); exact gK BK221⟩, ⟨by (try simp only [hl226000_1]); exact gK BK225⟩, ⟨by repeat first | exact gB HB | refine below_set ?_ GE220.out | refine below_set ?_ GE221.out | refine below_set ?_ GE225.out⟩⟩
    case round =>
     clear H'
     try clear c1
     try clear c2
     try clear p2
     try clear c4
     try clear c4b0
     try clear c4b1
     try clear c5
     try clear c5b0
     try clear c5b1
     try clear c8
     try clear c13
     try clear c14
     try clear c23
     try clear c23b0
     try clear hcz15_0
     try clear hcz15_1
     try clear hcz17_0
     try clear hcz17_1
     try clear hcz19_0
     try clear hcz19_1
     try clear hcz22_0
     try clear hcz22_1
     try clear hcz9_0
     try clear hcz9_1
     try clear hfz15_0
     try clear hfz15_1
     try clear hfz17_0
     try clear hfz17_1
     try clear hfz19_0
     try clear hfz19_1
     try clear hfz22_0
     try clear hfz22_1
     try clear hfz9_0
     try clear hfz9_1
     try clear p2
     obtain ⟨x5_2, x26_2, rfl, rfl, HA, HK2, HO_4, HO_221001, HO_226000, HO_226001, BK220, BK221, BK225, HB⟩ := hrel
     cases gk with
     | zero => exact absurd HA.out (by simp [layout_flipped.l1])
     | succ k2 =>
      have H := HA.out; clear HA
      simp only [layout_flipped.l1] at H
      by_cases c25 : x26_2 < (x4_1.length : Int)
      ·rw [if_pos c25] at H
       have c25b0 := decide_eq_true c25
       clear c25
       obtain ⟨c26, H⟩ := iS H
       have c26b0 := decide_eq_true c26
       clear c26
       obtain ⟨c27, H⟩ := iS H
       have c27b0 := decide_eq_true c27
       clear c27
       obtain ⟨ji28, hji28⟩ : ∃ j_ : Int, (wrap64 ((wrap64 ((x4_1.length : Int) - 1)) - x26_2)) = j_ := ⟨_, rfl⟩
       replace H : (if 0 ≤ (ji28) then (if (ji28) < (x4_1.length : Int) then (layout_flipped.l1 k2 x4_1 (wrap64 ((wrap64 (x5_2 * (rd l0_0 x26_2))) + (rd x4_1 (ji28)))) (l0_1.length : Int) x22_1 (x4_1.length : Int) (wrap64 (x26_2 + 1)) l0_0 l0_1 t226 x226001_1) else (none)) else (none)) = some (r1, r2) := by first | (rw [hji28] at H; exact H) | (simp only [hji28] at H ⊢; exact H)
       have hji28w : (IntKind.i64.wrap ((wrap64 ((x4_1.length : Int) - 1)) - x26_2)) = ji28 := (i64_w _).trans hji28
       obtain ⟨c29, H⟩ := iS H
       have c29b0 := decide_eq_true c29
       clear c29
       obtain ⟨c30, H⟩ := iS H
       have c30b0 := decide_eq_true c30
       clear c30
       have H' := gA H
       clear H
       try go_wp2
       replace HO_4 := gA (Kd.R_drew HO_4.out); replace HO_221001 := gA (Kd.V_drew HO_221001.out); replace HO_226000 := gA (Kd.R_drew HO_226000.out); replace HO_226001 := gA (Kd.N_drew HO_226001.out); replace BK220 := gA (blk_drew BK220.out); replace BK221 := gA (blk_drew BK221.out); replace BK225 := gA (blk_drew BK225.out); replace HB := gA (below_drew1 HB.out)
       have p230 : 0 ≤ (x26_2 : Int) := of_decide_eq_true (by assumption)
       have q230 : x26_2 < (l0_0.length : Int) := of_decide_eq_true (by assumption)
       obtain ⟨ad230, e230, hx230_0⟩ := Kd.at_int HR0_0.out x26_2 p230 q230
       have hw230_0 := hx230_0
       cases e230
       replace hx230_0 := (HB.out.cell (World.block_lt_of_cell? w _ hx230_0)).trans hx230_0
       replace p230 := eq_true p230
       replace q230 := eq_true q230
       have p231 : 0 ≤ ((ji28) : Int) := of_decide_eq_true (by assumption)
       have q231 : (ji28) < (x4_1.length : Int) := of_decide_eq_true (by assumption)
       obtain ⟨ad231, e231, hx231_0⟩ := Kd.at_int (Kd.R_reads' HO_4.out).2.2 (ji28) p231 q231
       cases e231
       replace p231 := eq_true p231
       replace q231 := eq_true q231
       refine start_ (n := 17) (S := fun w' => w'.cell? ⟨gb220, 0, none⟩ = some (.slice (some ad230) l0_0.length c0_0) ∧ w'.cell? ⟨gb220, 1, none⟩ = some (.slice A0_1 l0_1.length c0_1) ∧ w'.cell? (ad230.add (x26_2).toNat) = some (.int .i64 (rd l0_0 x26_2)) ∧ w'.cell? (ad231.add ((ji28)).toNat) = some (.int .i64 (rd x4_1 (ji28)))) (ds := []) #[false, false, false, false, false, false, false, false, false, false, false, false, false, false, false, false, false] (by kernel_rfl) rfl rfl ⟨(blk_cell BK220.out 0).trans rfl, (blk_cell BK220.out 1).trans rfl, ((HB.out.cell (World.block_lt_of_cell? w _ hw230_0)).trans hw230_0), hx231_0⟩ (fun hHeld => ?_); refine with_tabW layout_flipped.tab10 layout_flipped.bits10 (fun HT_ HW_ => ?_)
       generalize wr.drew = w31 at HO_4 HO_221001 HO_226000 HO_226001 BK220 BK221 BK225 HB hx230_0 hx231_0 hHeld ⊢
       refine pure_ (i := 0) (N := some 29) (v := ?_) (a' := ?_) #[true, false, false, false, false, false, false, false, false, false, false, false, false, false, false, false, false] rfl rfl (any_of HT_.out (by kernel_rfl)) (fun _ _ _ h => h) (Or.inl ⟨by rfl, ?_⟩) ?_ ?_; rotate_left
       ·intro w'; go_simp; with_reducible rfl
       rotate_left
       ·simp only [Act.put, List.setIfInBounds_toArray, List.set_cons_zero, List.set_cons_succ, i64_w, i32_w]; rfl
       refine pure_ (i := 1) (N := some 30) (v := ?_) (a' := ?_) #[true, true, false, false, false, false, false, false, false, false, false, false, false, false, false, false, false] rfl rfl (any_of HT_.out (by kernel_rfl)) (fun _ _ _ h => h) (Or.inl ⟨by rfl, ?_⟩) ?_ ?_; rotate_left
       ·intro w'; go_simp; with_reducible rfl
       rotate_left
       ·simp only [Act.put, List.setIfInBounds_toArray, List.set_cons_zero, List.set_cons_succ, i64_w, i32_w]; rfl
       refine pure_ (i := 3) (N := some 32) (v := ?_) (a' := ?_) #[true, true, false, true, false, false, false, false, false, false, false, false, false, false, false, false, false] rfl rfl (any_of HT_.out (by kernel_rfl)) (fun _ _ _ h => h) (Or.inl ⟨by rfl, ?_⟩) ?_ ?_; rotate_left
       ·intro w'; go_simp; with_reducible rfl
       rotate_left
       ·simp only [Act.put, List.setIfInBounds_toArray, List.set_cons_zero, List.set_cons_succ, i64_w, i32_w]; rfl
       refine pure_ (i := 7) (N := some 36) (v := ?_) (a' := ?_) #[true, true, false, true, false, false, false, true, false, false, false, false, false, false, false, false, false] rfl rfl (any_of HT_.out (by kernel_rfl)) (fun _ _ _ h => h) (Or.inl ⟨by rfl, ?_⟩) ?_ ?_; rotate_left
       ·intro w'; go_simp; with_reducible rfl
       rotate_left
       ·simp only [Act.put, List.setIfInBounds_toArray, List.set_cons_zero, List.set_cons_succ, i64_w, i32_w]; rfl
       refine pure_ (i := 8) (N := some 37) (v := ?_) (a' := ?_) #[true, true, false, true, false, false, false, true, true, false, false, false, false, false, false, false, false] rfl rfl (any_of HT_.out (by kernel_rfl)) (fun _ _ _ h => h) (Or.inl ⟨by rfl, ?_⟩) ?_ ?_; rotate_left
       ·intro w'; go_simp; with_reducible rfl
       rotate_left
       ·simp only [Act.put, List.setIfInBounds_toArray, List.set_cons_zero, List.set_cons_succ, i64_w, i32_w]; rfl
       refine pure_ (i := 9) (N := some 38) (v := ?_) (a' := ?_) #[true, true, false, true, false, false, false, true, true, true, false, false, false, false, false, false, false] rfl rfl (any_of HT_.out (by kernel_rfl)) (fun _ _ _ h => h) (Or.inl ⟨by rfl, ?_⟩) ?_ ?_; rotate_left
       ·intro w'; go_simp; with_reducible rfl
       rotate_left
       ·simp only [Act.put, List.setIfInBounds_toArray, List.set_cons_zero, List.set_cons_succ, i64_w, i32_w]; rfl
       refine pure_ (i := 10) (N := some 39) (v := ?_) (a' := ?_) #[true, true, false, true, false, false, false, true, true, true, true, false, false, false, false, false, false] rfl rfl (any_of HT_.out (by kernel_rfl)) (fun _ _ _ h => h) (Or.inl ⟨by rfl, ?_⟩) ?_ ?_; rotate_left
       ·intro w'; go_simp; with_reducible rfl
       rotate_left
       ·simp only [Act.put, List.setIfInBounds_toArray, List.set_cons_zero, List.set_cons_succ, i64_w, i32_w]; rfl
       refine pure_ (i := 11) (N := some 40) (v := ?_) (a' := ?_) #[true, true, false, true, false, false, false, true, true, true, true, true, false, false, false, false, false] rfl rfl (any_of HT_.out (by kernel_rfl)) (fun _ _ _ h => h) (Or.inl ⟨by rfl, ?_⟩) ?_ ?_; rotate_left
       ·intro w'; go_simp; with_reducible rfl
       rotate_left
       ·simp only [Act.put, List.setIfInBounds_toArray, List.set_cons_zero, List.set_cons_succ, i64_w, i32_w]; rfl
       refine pure_ (i := 12) (N := some 41) (v := ?_) (a' := ?_) #[true, true, false, true, false, false, false, true, true, true, true, true, true, false, false, false, false] rfl rfl (any_of HT_.out (by kernel_rfl)) (fun _ _ _ h => h) (Or.inl ⟨by rfl, ?_⟩) ?_ ?_; rotate_left
       ·intro w'; go_simp; with_reducible rfl
       rotate_left
       ·simp only [Act.put, List.setIfInBounds_toArray, List.set_cons_zero, List.set_cons_succ, i64_w, i32_w]; rfl
       refine pure_ (i := 13) (N := some 42) (v := ?_) (a' := ?_) #[true, true, false, true, false, false, false, true, true, true, true, true, true, true, false, false, false] rfl rfl (any_of HT_.out (by kernel_rfl)) (fun _ _ _ h => h) (Or.inl ⟨by rfl, ?_⟩) ?_ ?_; rotate_left
       ·intro w'; go_simp; with_reducible rfl
       rotate_left
       ·simp only [Act.put, List.setIfInBounds_toArray, List.set_cons_zero, List.set_cons_succ, i64_w, i32_w]; rfl
       refine take_ (i := 2) (N := some 31) (v := ?_) (a' := ?_) #[true, true, true, true, false, false, false, true, true, true, true, true, true, true, false, false, false] rfl rfl (take_ofW HT_.out HW_.out (by kernel_rfl)) (fun _ _ _ h => h) (Or.inl ⟨by rfl, ?_⟩) hHeld ?_ ?_; rotate_left
       ·rintro w' ⟨s0, s1, s2, s3⟩; go_simp; with_reducible rfl
       rotate_left
       ·simp only [Act.put, List.setIfInBounds_toArray, List.set_cons_zero, List.set_cons_succ, i64_w, i32_w]; rfl
       refine pure_ (i := 4) (N := some 33) (v := ?_) (a' := ?_) #[true, true, true, true, true, false, false, true, true, true, true, true, true, true, false, false, false] rfl rfl (any_of HT_.out (by kernel_rfl)) (fun _ _ _ h => h) (Or.inl ⟨by rfl, ?_⟩) ?_ ?_; rotate_left
       ·intro w'; go_simp; with_reducible rfl
       rotate_left
       ·simp only [Act.put, List.setIfInBounds_toArray, List.set_cons_zero, List.set_cons_succ, i64_w, i32_w]; rfl
       refine take_ (i := 5) (N := some 34) (v := ?_) (a' := ?_) #[true, true, true, true, true, true, false, true, true, true, true, true, true, true, false, false, false] rfl rfl (take_ofW HT_.out HW_.out (by kernel_rfl)) (fun _ _ _ h => h) (Or.inl ⟨by rfl, ?_⟩) hHeld ?_ ?_; rotate_left
       ·rintro w' ⟨s0, s1, s2, s3⟩; go_simp; with_reducible rfl
       rotate_left
       ·simp only [Act.put, List.setIfInBounds_toArray, List.set_cons_zero, List.set_cons_succ, i64_w, i32_w]; rfl
       refine pure_ (i := 6) (N := some 35) (v := ?_) (a' := ?_) #[true, true, true, true, true, true, true, true, true, true, true, true, true, true, false, false, false] rfl rfl (any_of HT_.out (by kernel_rfl)) (fun _ _ _ h => h) (Or.inl ⟨by rfl, ?_⟩) ?_ ?_; rotate_left
       ·intro w'; go_simp; with_reducible rfl
       rotate_left
       ·simp only [Act.put, List.setIfInBounds_toArray, List.set_cons_zero, List.set_cons_succ, i64_w, i32_w]; rfl
       refine take_ (i := 14) (N := some 43) (v := ?_) (a' := ?_) #[true, true, true, true, true, true, true, true, true, true, true, true, true, true, true, false, false] rfl rfl (take_ofW HT_.out HW_.out (by kernel_rfl)) (fun _ _ _ h => h) (Or.inl ⟨by rfl, ?_⟩) hHeld ?_ ?_; rotate_left
       ·rintro w' ⟨s0, s1, s2, s3⟩; go_simp; with_reducible rfl
       rotate_left
       ·simp only [Act.put, List.setIfInBounds_toArray, List.set_cons_zero, List.set_cons_succ, i64_w, i32_w]; rfl
       refine pure_ (i := 15) (N := some 44) (v := ?_) (a' := ?_) #[true, true, true, true, true, true, true, true, true, true, true, true, true, true, true, true, false] rfl rfl (any_of HT_.out (by kernel_rfl)) (fun _ _ _ h => h) (Or.inl ⟨by rfl, ?_⟩) ?_ ?_; rotate_left
       ·intro w'; go_simp; with_reducible rfl
       rotate_left
       ·simp only [Act.put, List.setIfInBounds_toArray, List.set_cons_zero, List.set_cons_succ, i64_w, i32_w]; rfl
       refine pure_ (i := 16) (N := some 5) (v := ?_) (a' := ?_) #[true, true, true, true, true, true, true, true, true, true, true, true, true, true, true, true, true] rfl rfl (any_of HT_.out (by kernel_rfl)) (fun _ _ _ h => h) (Or.inl ⟨by rfl, ?_⟩) ?_ ?_; rotate_left
       ·intro w'; go_simp; with_reducible rfl
       rotate_left
       ·simp only [Act.put, List.setIfInBounds_toArray, List.set_cons_zero, List.set_cons_succ, i64_w, i32_w]; rfl
       refine done_ (done_of HT_.out (by kernel_rfl)) ?_
       try go_wp2
       go_roundg k2
       case measure => have := HK1.out; have := HK2.out; omega
       case rel => exact ⟨(wrap64 ((wrap64 (x5_2 * (rd l0_0 x26_2))) + (rd x4_1 (ji28)))), (wrap64 (x26_2 + 1)), (by first | rfl | (simp; done) | (simp only [← hji28] <;> (first | rfl | simp)) | (simp [*]; done)), (rfl), H', ⟨by have := HK1.out; have := HK2.out; omega⟩, ⟨by (try simp only [hl226000_1]); (with_reducible repeat (first | apply Kd.R_alloc | apply Kd.R_drewN | apply Kd.R_drew)); exact HO_4.out⟩, ⟨by (try simp only [hl226000_1]); (with_reducible repeat (first | apply Kd.V_alloc | apply Kd.V_drewN | apply Kd.V_drew)); exact HO_221001.out⟩, ⟨by (try simp only [hl226000_1]); (with_reducible repeat (first | apply Kd.R_alloc | apply Kd.R_drewN | apply Kd.R_drew)); exact HO_226000.out⟩, ⟨by (try simp only [hl226000_1]); (with_reducible repeat (first | apply Kd.N_alloc | apply Kd.N_drewN | apply Kd.N_drew)); exact HO_226001.out⟩, ⟨by (try simp only [hl226000_1]); exact gK BK220⟩, ⟨by (try simp only [hl226000_1]); exact gK BK221⟩, ⟨by (try simp only [hl226000_1]); exact gK BK225⟩, ⟨gB HB⟩⟩
      ·rw [if_neg c25] at H
       have c25b0 := decide_eq_false c25
       clear c25
       obtain ⟨c32, H⟩ := iS H
       have c32b0 := decide_eq_true c32
       clear c32
       obtain ⟨c33, H⟩ := iS H
       have c33b0 := decide_eq_true c33
       clear c33
       obtain ⟨c34, H⟩ := iS H
       have LMc34 := gA c34
       clear c34
       obtain ⟨y233, hy233⟩ : ∃ y_ : List (S39), y_ = (x226001_1 ++ [(⟨(rd_T39 l0_1 x5_2).f0, (rd_T39 l0_1 x5_2).f1, (rd_T39 l0_1 x5_2).f2⟩ : S39)]) := ⟨_, rfl⟩
       replace H : (layout_flipped.l2 k2 x4_1 (wrap64 ((x4_1.length : Int) - 1)) (l0_1.length : Int) x22_1 l0_0 l0_1 t226 y233) = some (r1, r2) := by first | (rw [hy233]; with_reducible exact H) | (have H2_ := (Option.bind_some _ _).symm.trans H; rw [hy233]; with_reducible exact H2_) | (have H2_ := (Option.bind_some _ _).symm.trans H; with_reducible exact H2_) | with_reducible exact H | (rw [hy233]; exact H) | exact H
       have Ny233 := gA hy233
       clear hy233
       have H' := gA H
       clear H
       try go_wp2
       replace HO_4 := gA (Kd.R_drew HO_4.out); replace HO_221001 := gA (Kd.V_drew HO_221001.out); replace HO_226000 := gA (Kd.R_drew HO_226000.out); replace HO_226001 := gA (Kd.N_drew HO_226001.out); replace BK220 := gA (blk_drew BK220.out); replace BK221 := gA (blk_drew BK221.out); replace BK225 := gA (blk_drew BK225.out); replace HB := gA (below_drew1 HB.out)
       have p232 : 0 ≤ (x5_2 : Int) := of_decide_eq_true (by assumption)
       have q232 : x5_2 < (l0_1.length : Int) := of_decide_eq_true (by assumption)
       obtain ⟨ad232, A232_2, c232_2, e232, hx232_0, hx232_1, hx232_2, hl232_2, hi232_2⟩ := at_T39 (Kd.V_reads' HO_221001.out).2.2 x5_2 p232 q232
       cases e232
       obtain ⟨ce232, hce232, hMe232, hcc232⟩ := Kd.V_get HO_221001.out z39 x5_2 p232 (by first | exact q232 | exact of_decide_eq_true (by assumption) | (have e_ := (Kd.V_reads' HO_221001.out).1; omega))
       obtain ⟨ua232_2, uc232_2, rfl, ul232_2, ge232_2⟩ := k39_openF hMe232
       have hv232_2 := hcc232 2 _ rfl
       rw [add_field _ _ 2 (by omega)] at hv232_2
       replace hv232_2 := Option.some.inj (hv232_2.symm.trans hx232_2)
       injection hv232_2 with hva_ hvn_ hvc_
       rw [hva_] at ge232_2
       rw [hvc_] at ul232_2
       have HL232_2 := gA (show Kd.V k25 25 _ w.heap.size _ _ ((rd_T39 l0_1 x5_2).f2) from Kd.V_mk ul232_2 ge232_2)
       clear hva_ hvn_ hvc_ ge232_2 ul232_2 hcc232 hce232
       have HR232_2 := gA hi232_2
       have HC232_2 := gA hl232_2
       clear hi232_2 hl232_2
       replace p232 := eq_true p232
       replace q232 := eq_true q232
       refine start_ (n := 11) (S := fun w' => w'.cell? ⟨gb225, 0, none⟩ = some (.slice Ao11 t226.length co11) ∧ w'.cell? ⟨gb225, 1, none⟩ = some (u226001) ∧ w'.cell? ⟨gb220, 0, none⟩ = some (.slice A0_0 l0_0.length c0_0) ∧ w'.cell? ⟨gb220, 1, none⟩ = some (.slice (some ad232) l0_1.length c0_1) ∧ w'.cell? (ad232.add ((x5_2).toNat * 3)) = some (.int .i64 ((rd_T39 l0_1 x5_2).f0)) ∧ w'.cell? ⟨(ad232.add ((x5_2).toNat * 3)).block, (ad232.add ((x5_2).toNat * 3)).off + 1, none⟩ = some (.int .i64 ((rd_T39 l0_1 x5_2).f1)) ∧ w'.cell? ⟨(ad232.add ((x5_2).toNat * 3)).block, (ad232.add ((x5_2).toNat * 3)).off + 2, none⟩ = some (.slice A232_2 ((rd_T39 l0_1 x5_2).f2).length c232_2)) (ds := [8, 10]) #[false, false, false, false, false, false, false, false, false, false, false] (by kernel_rfl) rfl rfl ⟨(blk_cell BK225.out 0).trans rfl, (blk_cell BK225.out 1).trans rfl, (blk_cell BK220.out 0).trans rfl, (blk_cell BK220.out 1).trans rfl, hx232_0, hx232_1, hx232_2⟩ (fun hHeld => ?_); refine with_tabW layout_flipped.tab12 layout_flipped.bits12 (fun HT_ HW_ => ?_)
       generalize wr.drew = w35 at HO_4 HO_221001 HO_226000 HO_226001 BK220 BK221 BK225 HB HL232_2 HR232_2 hx232_0 hx232_1 hx232_2 hHeld ⊢
       refine pure_ (i := 0) (N := some 46) (v := ?_) (a' := ?_) #[true, false, false, false, false, false, false, false, false, false, false] rfl rfl (any_of HT_.out (by kernel_rfl)) (fun _ _ _ h => h) (Or.inl ⟨by rfl, ?_⟩) ?_ ?_; rotate_left
       ·intro w'; go_simp; with_reducible rfl
       rotate_left
       ·simp only [Act.put, List.setIfInBounds_toArray, List.set_cons_zero, List.set_cons_succ, i64_w, i32_w]; rfl
       refine pure_ (i := 2) (N := some 48) (v := ?_) (a' := ?_) #[true, false, true, false, false, false, false, false, false, false, false] rfl rfl (any_of HT_.out (by kernel_rfl)) (fun _ _ _ h => h) (Or.inl ⟨by rfl, ?_⟩) ?_ ?_; rotate_left
       ·intro w'; go_simp; with_reducible rfl
       rotate_left
       ·simp only [Act.put, List.setIfInBounds_toArray, List.set_cons_zero, List.set_cons_succ, i64_w, i32_w]; rfl
       refine pure_ (i := 4) (N := some 50) (v := ?_) (a' := ?_) #[true, false, true, false, true, false, false, false, false, false, false] rfl rfl (any_of HT_.out (by kernel_rfl)) (fun _ _ _ h => h) (Or.inl ⟨by rfl, ?_⟩) ?_ ?_; rotate_left
       ·intro w'; go_simp; with_reducible rfl
       rotate_left
       ·simp only [Act.put, List.setIfInBounds_toArray, List.set_cons_zero, List.set_cons_succ, i64_w, i32_w]; rfl
       refine take_ (i := 1) (N := some 47) (v := ?_) (a' := ?_) #[true, true, true, false, true, false, false, false, false, false, false] rfl rfl (take_ofW HT_.out HW_.out (by kernel_rfl)) (fun _ _ _ h => h) (Or.inl ⟨by rfl, ?_⟩) hHeld ?_ ?_; rotate_left
       ·rintro w' ⟨s0, s1, s2, s3, s4, s5, s6⟩; go_simp; with_reducible rfl
       rotate_left
       ·simp only [Act.put, List.setIfInBounds_toArray, List.set_cons_zero, List.set_cons_succ, i64_w, i32_w]; rfl
       refine take_ (i := 3) (N := some 49) (v := ?_) (a' := ?_) #[true, true, true, true, true, false, false, false, false, false, false] rfl rfl (take_ofW HT_.out HW_.out (by kernel_rfl)) (fun _ _ _ h => h) (Or.inl ⟨by rfl, ?_⟩) hHeld ?_ ?_; rotate_left
       ·rintro w' ⟨s0, s1, s2, s3, s4, s5, s6⟩; go_simp; with_reducible rfl
       rotate_left
       ·simp only [Act.put, List.setIfInBounds_toArray, List.set_cons_zero, List.set_cons_succ, i64_w, i32_w]; rfl
       refine pure_ (i := 5) (N := some 51) (v := ?_) (a' := ?_) #[true, true, true, true, true, true, false, false, false, false, false] rfl rfl (any_of HT_.out (by kernel_rfl)) (fun _ _ _ h => h) (Or.inl ⟨by rfl, ?_⟩) ?_ ?_; rotate_left
       ·intro w'; go_simp; with_reducible rfl
       rotate_left
       ·simp only [Act.put, List.setIfInBounds_toArray, List.set_cons_zero, List.set_cons_succ, i64_w, i32_w]; rfl
       refine take_ (i := 6) (N := some 52) (v := ?_) (a' := ?_) #[true, true, true, true, true, true, true, false, false, false, false] rfl rfl (take_ofW HT_.out HW_.out (by kernel_rfl)) (fun _ _ _ h => h) (Or.inl ⟨by rfl, ?_⟩) hHeld ?_ ?_; rotate_left
       ·rintro w' ⟨s0, s1, s2, s3, s4, s5, s6⟩; go_simp; with_reducible rfl
       rotate_left
       ·simp only [Act.put, List.setIfInBounds_toArray, List.set_cons_zero, List.set_cons_succ, i64_w, i32_w]; rfl
       refine one_ (i := 7) (N := some 53) #[true, true, true, true, true, true, true, true, false, false, false] rfl rfl (one_of HT_.out (by kernel_rfl)) (by decide) (fun K hK => ?_)
       refine value_ (w1 := ?_) (v := ?_) (by rfl) rfl ?_ ?_
       rotate_left 2
       ·go_simp
        constructor
        ·rfl
        ·rfl
       refine hK.out _ _ ⟨(blk_cell (blk_alloc BK225.out _) 0).trans rfl, (blk_cell (blk_alloc BK225.out _) 1).trans rfl, (blk_cell (blk_alloc BK220.out _) 0).trans rfl, (blk_cell (blk_alloc BK220.out _) 1).trans rfl, (World.cell?_alloc_lt _ _ _ (World.block_lt_of_cell? _ _ (hHeld.2.2.2.2.1))).trans (hHeld.2.2.2.2.1), (World.cell?_alloc_lt _ _ _ (World.block_lt_of_cell? _ _ (hHeld.2.2.2.2.2.1))).trans (hHeld.2.2.2.2.2.1), (World.cell?_alloc_lt _ _ _ (World.block_lt_of_cell? _ _ (hHeld.2.2.2.2.2.2))).trans (hHeld.2.2.2.2.2.2)⟩ (fun hHeld => ?_); clear hK K
       refine norm_ (a' := ?_) ?_ ?_; rotate_left
       ·show Act.put _ (some 53) _ = _
        simp only [Act.put, List.setIfInBounds_toArray, List.set_cons_zero, List.set_cons_succ, i64_w, i32_w]; rfl
       refine last_ (i := 8) (N := some 54) #[true, true, true, true, true, true, true, true, true, false, false] rfl rfl (one_of HT_.out (by kernel_rfl)) (by decide) (fun K hK => ?_)
       refine Kd.N_append_step k39 (w0 := w) w.heap.size (by rfl) (.tmp 47) (.tmp 53) 23 39 (.agg #[(.int .i64 0), (.int .i64 0), (.slice none 0 0)]) 40 rfl Try.underlying23 info39 rfl (by decide) (by omega) u226001 x226001_1 (⟨(rd_T39 l0_1 x5_2).f0, (rd_T39 l0_1 x5_2).f1, (rd_T39 l0_1 x5_2).f2⟩ : S39) [.int .i64 ((rd_T39 l0_1 x5_2).f0), .int .i64 ((rd_T39 l0_1 x5_2).f1), .slice A232_2 ((rd_T39 l0_1 x5_2).f2).length c232_2] (fun k_ => (P0_1_ k_ ∨ w.heap.size ≤ k_) ∧ some k_ ≠ (.slice Ao24 x4_1.length co24 : Value).ownBlock ∧ some k_ ≠ (.slice Ao11 t226.length co11 : Value).ownBlock ∧ k_ ≠ gb220 ∧ k_ ≠ gb221 ∧ k_ ≠ gb225) (fun k_ => ((fun k_ => (P0_1_ k_ ∨ w.heap.size ≤ k_) ∧ some k_ ≠ (.slice Ao24 x4_1.length co24 : Value).ownBlock ∧ some k_ ≠ (.slice Ao11 t226.length co11 : Value).ownBlock ∧ k_ ≠ gb220 ∧ k_ ≠ gb221 ∧ k_ ≠ gb225)) k_ ∧ some k_ ≠ (u226001 : Value).ownBlock) rfl rfl ?aP (fun _ hk => hk) ?aF ?aO ?aB ?aS ?aL ?_
       (case aP => exact (k39_mkF _ _ (⟨(rd_T39 l0_1 x5_2).f0, (rd_T39 l0_1 x5_2).f1, (rd_T39 l0_1 x5_2).f2⟩ : S39) (Kd.V_reads' (Kd.V_mono (ok' := (fun k_ => ((fun k_ => (P0_1_ k_ ∨ w.heap.size ≤ k_) ∧ some k_ ≠ (.slice Ao24 x4_1.length co24 : Value).ownBlock ∧ some k_ ≠ (.slice Ao11 t226.length co11 : Value).ownBlock ∧ k_ ≠ gb220 ∧ k_ ≠ gb221 ∧ k_ ≠ gb225)) k_ ∧ some k_ ≠ (u226001 : Value).ownBlock)) (HL232_2.out) (fun k_ hk => ⟨⟨hk.1, ⟨hk.2.1, ⟨hk.2.2.1, ⟨hk.2.2.2.2.1, ⟨hk.2.2.2.2.2.1, hk.2.2.2.2.2.2⟩⟩⟩⟩⟩, hk.2.2.2.1⟩))).2.1 (Kd.V_F (Kd.V_mono (ok' := (fun k_ => ((fun k_ => (P0_1_ k_ ∨ w.heap.size ≤ k_) ∧ some k_ ≠ (.slice Ao24 x4_1.length co24 : Value).ownBlock ∧ some k_ ≠ (.slice Ao11 t226.length co11 : Value).ownBlock ∧ k_ ≠ gb220 ∧ k_ ≠ gb221 ∧ k_ ≠ gb225)) k_ ∧ some k_ ≠ (u226001 : Value).ownBlock)) (HL232_2.out) (fun k_ hk => ⟨⟨hk.1, ⟨hk.2.1, ⟨hk.2.2.1, ⟨hk.2.2.2.2.1, ⟨hk.2.2.2.2.2.1, hk.2.2.2.2.2.2⟩⟩⟩⟩⟩, hk.2.2.2.1⟩)))))
       (case aB => exact (gB HB))
       (case aF => exact (fun k_ hk => ⟨(.inr (Nat.le_trans (below_size (gB HB)) hk)), Kd.fresh' (Kd.R_lt (gR HO_4)) k_ hk, Kd.fresh' (Kd.R_lt (gR HO_226000)) k_ hk, Kd.freshB (gK BK220) k_ hk, Kd.freshB (gK BK221) k_ hk, Kd.freshB (gK BK225) k_ hk⟩))
       (case aO => exact (gN HO_226001))
       (case aS => exact (below_size (gB HB)))
       (case aL => have := LMc34.out; omega)
       intro v234 w36 ho hb hg hat
       rw [← Ny233.out] at ho
       replace HO_4 := gA (Kd.R_over' (gR HO_4) (Kd.N_typed (gN HO_226001)) (by decide) hg); replace HO_221001 := gA (Kd.V_afterv (ok := (fun k_ => (P0_1_ k_ ∨ w.heap.size ≤ k_) ∧ some k_ ≠ (.slice Ao24 x4_1.length co24 : Value).ownBlock ∧ some k_ ≠ (.slice Ao11 t226.length co11 : Value).ownBlock ∧ k_ ≠ gb220 ∧ k_ ≠ gb221 ∧ k_ ≠ gb225)) (Kd.V_mono HO_221001.out (fun _ hk => ⟨⟨hk.1, ⟨hk.2.1, ⟨hk.2.2.1, ⟨hk.2.2.2.2.1, ⟨hk.2.2.2.2.2.1, hk.2.2.2.2.2.2⟩⟩⟩⟩⟩, hk.2.2.2.1⟩)) hg hat); replace HO_226000 := gA (Kd.R_over' (gR HO_226000) (Kd.N_typed (gN HO_226001)) (by decide) hg); replace BK220 := gA (blk_grown (gK BK220) hg (Kd.N_ne HO_226001.out BK220.out (by decide))); replace BK221 := gA (blk_grown (gK BK221) hg (Kd.N_ne HO_226001.out BK221.out (by decide))); replace BK225 := gA (blk_grown (gK BK225) hg (Kd.N_ne HO_226001.out BK225.out (by decide))); replace HL232_2 := gA (Kd.V_afterv (ok := (fun k_ => (P0_1_ k_ ∨ w.heap.size ≤ k_) ∧ some k_ ≠ (.slice Ao24 x4_1.length co24 : Value).ownBlock ∧ some k_ ≠ (.slice Ao11 t226.length co11 : Value).ownBlock ∧ k_ ≠ gb220 ∧ k_ ≠ gb221 ∧ k_ ≠ gb225)) (Kd.V_mono HL232_2.out (fun _ hk => ⟨⟨hk.1, ⟨hk.2.1, ⟨hk.2.2.1, ⟨hk.2.2.2.2.1, ⟨hk.2.2.2.2.2.1, hk.2.2.2.2.2.2⟩⟩⟩⟩⟩, hk.2.2.2.1⟩)) hg hat); replace HB := gA (hb); have HO235 := gA (ho); clear HO_226001 ho hb hg hat
       obtain ⟨Ao37, co37, eo37⟩ := Kd.N_slice HO235.out
       (first | subst eo37 | (injection eo37 with f1_ f2_ f3_; have f4_ := f1_.symm; have f5_ := f3_.symm; clear f1_ f2_ f3_; subst f4_; subst f5_))
       refine hK.out _ _ ?_; clear hK K
       refine norm_ (a' := ?_) ?_ ?_; rotate_left
       ·show Act.put _ (some 54) _ = _
        simp only [Act.put, List.setIfInBounds_toArray, List.set_cons_zero, List.set_cons_succ, i64_w, i32_w]; rfl
       refine pure_ (i := 9) (N := some 55) (v := ?_) (a' := ?_) #[true, true, true, true, true, true, true, true, true, true, false] rfl rfl (any_of HT_.out (by kernel_rfl)) (fun _ _ _ h => h) (Or.inl ⟨by rfl, ?_⟩) ?_ ?_; rotate_left
       ·intro w'; go_simp; with_reducible rfl
       rotate_left
       ·simp only [Act.put, List.setIfInBounds_toArray, List.set_cons_zero, List.set_cons_succ, i64_w, i32_w]; rfl
       refine last_ (i := 10) (N := none) #[true, true, true, true, true, true, true, true, true, true, true] rfl rfl (one_of HT_.out (by kernel_rfl)) (by decide) (fun K hK => ?_)
       have hs38 := gz BK225 1 rfl
       have hfs38 := blk_frozen BK225.out 1
       have hns38_0 := NB220_225.out
       have hns38_1 := NB221_225.out
       have hms38_0 := NB225_220.out
       have hms38_1 := NB225_221.out
       refine skip_ (w1 := ?_) (by rfl) rfl ?_ ?_; rotate_left
       ·go_simp; rfl
       refine hK.out _ _ ?_; clear hK K
       refine done_ (done_of HT_.out (by kernel_rfl)) ?_
       try go_wp2
       go_loopg [7] k2 (fun kq v7 w' => ∃ (x4_3 : List Int) (x7_3 : Int), v7 = .int .i64 x7_3 ∧ Aside0 (layout_flipped.l2 kq x4_3 x7_3 (l0_1.length : Int) x22_1 l0_0 l0_1 t226 y233 = some (r1, r2)) ∧ Aside0 (kq ≤ k2) ∧ Aside0 (Kd.R (Kd.int .i64) 3 w' w.heap.size (fun k_ => (w.heap.size ≤ k_) ∧ some k_ ≠ ((.slice Ao11 t226.length co11) : Value).ownBlock) (.slice Ao24 x4_1.length co24) x4_3) ∧ Aside0 (Kd.V k39 39 w' w.heap.size (fun k_ => (P0_1_ k_ ∨ w.heap.size ≤ k_) ∧ some k_ ≠ ((.slice Ao24 x4_1.length co24) : Value).ownBlock ∧ some k_ ≠ ((.slice Ao11 t226.length co11) : Value).ownBlock ∧ some k_ ≠ ((.slice Ao37 y233.length co37) : Value).ownBlock ∧ k_ ≠ gb220 ∧ k_ ≠ gb221 ∧ k_ ≠ gb225) (.slice (some ad232) l0_1.length c0_1) l0_1) ∧ Aside0 (Kd.R (Kd.int .i64) 3 w' w.heap.size (fun k_ => (w.heap.size ≤ k_) ∧ some k_ ≠ ((.slice Ao24 x4_1.length co24) : Value).ownBlock) (.slice Ao11 t226.length co11) t226) ∧ Aside0 (Kd.N k39 39 w' w.heap.size (fun k_ => (P0_1_ k_ ∨ w.heap.size ≤ k_) ∧ some k_ ≠ ((.slice Ao24 x4_1.length co24) : Value).ownBlock ∧ some k_ ≠ ((.slice Ao11 t226.length co11) : Value).ownBlock ∧ k_ ≠ gb220 ∧ k_ ≠ gb221 ∧ k_ ≠ gb225) (.slice Ao37 y233.length co37) y233) ∧ Aside0 (w'.heap[gb220]? = some (.cells #[(.slice A0_0 l0_0.length c0_0), (.slice (some ad232) l0_1.length c0_1)] 25 (0, 0))) ∧ Aside0 (w'.heap[gb221]? = some (.cells #[(.slice none 0 0), (.slice none 0 0)] 25 (0, 0))) ∧ Aside0 (w'.heap[gb225]? = some (.cells #[(.slice Ao11 t226.length co11), (.slice Ao37 y233.length co37)] 25 (0, 0))) ∧ Aside0 (Below w.heap.size w w'))
       case atStart => exact ⟨(x4_1), (wrap64 ((x4_1.length : Int) - 1)), (rfl), H', ⟨Nat.le_refl _⟩, ⟨by (try simp only [hl226000_1]); (with_reducible repeat (first | apply Kd.R_alloc | apply Kd.R_drewN | apply Kd.R_drew)); exact Kd.R_mono (Kd.R_far (p := ⟨gb225, 1, none⟩) (Kd.R_types HO_4.out BK225.out (by decide)) (fun _ hk => hk.2) (.slice Ao37 y233.length co37)) (fun _ hk => ⟨hk.1.1, hk.1.2⟩)⟩, ⟨by (try simp only [hl226000_1]); (with_reducible repeat (first | apply Kd.V_alloc | apply Kd.V_drewN | apply Kd.V_drew)); exact Kd.V_mono (Kd.V_far (p := ⟨gb225, 1, none⟩) (Kd.V_mono HO_221001.out (fun k_ hk => (⟨hk, hk.1.2.2.2.2.2⟩ : _ ∧ k_ ≠ gb225))) (fun _ hk => hk.2) (.slice Ao37 y233.length co37)) (fun _ hk => by first | exact ⟨hk.1.1.1, ⟨hk.1.1.2.1, ⟨hk.1.1.2.2.1, ⟨hk.1.2, ⟨hk.1.1.2.2.2.1, ⟨hk.1.1.2.2.2.2.1, hk.1.1.2.2.2.2.2⟩⟩⟩⟩⟩⟩ | (simp_all; done))⟩, ⟨by (try simp only [hl226000_1]); (with_reducible repeat (first | apply Kd.R_alloc | apply Kd.R_drewN | apply Kd.R_drew)); exact Kd.R_mono (Kd.R_far (p := ⟨gb225, 1, none⟩) (Kd.R_types HO_226000.out BK225.out (by decide)) (fun _ hk => hk.2) (.slice Ao37 y233.length co37)) (fun _ hk => ⟨hk.1.1, hk.1.2⟩)⟩, ⟨by (try simp only [hl226000_1]); (with_reducible repeat (first | apply Kd.N_alloc | apply Kd.N_drewN | apply Kd.N_drew)); exact Kd.N_mono (Kd.N_far (p := ⟨gb225, 1, none⟩) (Kd.N_mono HO235.out (fun k_ hk => (⟨hk, hk.2.2.2.2.2⟩ : _ ∧ k_ ≠ gb225))) (fun _ hk => hk.2) (.slice Ao37 y233.length co37)) (fun _ hk => ⟨hk.1.1, ⟨hk.1.2.1, ⟨hk.1.2.2.1, ⟨hk.1.2.2.2.1, ⟨hk.1.2.2.2.2.1, hk.1.2.2.2.2.2⟩⟩⟩⟩⟩)⟩, ⟨by (try simp only [hl226000_1]); refine blk_far ?_ NB220_225.out _; exact gK BK220⟩, ⟨by (try simp only [hl226000_1]); refine blk_far ?_ NB221_225.out _; exact gK BK221⟩, ⟨by (try simp only [hl226000_1]); refine blk_put (cs := #[.slice Ao11 t226.length co11, u226001]) ?_ 1 _ rfl; exact gK BK225⟩, ⟨by repeat first | exact gB HB | refine below_set ?_ GE220.out | refine below_set ?_ GE221.out | refine below_set ?_ GE225.out⟩⟩
       case round =>
        clear H'
        try clear c1
        try clear c2
        try clear p2
        try clear q2
        try clear hx2
        try clear c3
        try clear c4
        try clear c4b0
        try clear c4b1
        try clear c5
        try clear c5b0
        try clear c5b1
        try clear p6
        try clear c8
        try clear c13
        try clear c14
        try clear c23
        try clear c23b0
        try clear p23
        try clear q23
        try clear hx23
        try clear c25
        try clear c25b0
        try clear c26
        try clear c26b0
        try clear c27
        try clear c27b0
        try clear c29
        try clear c29b0
        try clear c30
        try clear c30b0
        try clear c32
        try clear c32b0
        try clear c33
        try clear c33b0
        try clear c34
        try clear hcz15_0
        try clear hcz15_1
        try clear hcz17_0
        try clear hcz17_1
        try clear hcz19_0
        try clear hcz19_1
        try clear hcz22_0
        try clear hcz22_1
        try clear hcz9_0
        try clear hcz9_1
        try clear hfz15_0
        try clear hfz15_1
        try clear hfz17_0
        try clear hfz17_1
        try clear hfz19_0
        try clear hfz19_1
        try clear hfz22_0
        try clear hfz22_1
        try clear hfz9_0
        try clear hfz9_1
        try clear hx230_0
        try clear hx231_0
        try clear hx232_0
        try clear hx232_1
        try clear hx232_2
        try clear p2
        try clear p230
        try clear p231
        try clear p232
        try clear q230
        try clear q231
        try clear q232
        obtain ⟨x4_3, x7_3, rfl, HA, HK3, HO_4, HO_221001, HO_226000, HO_226001, BK220, BK221, BK225, HB⟩ := hrel
        have hl4_3 := (Kd.R_reads' HO_4.out).1
        rw [hl4_3] at HO_4
        (try simp only [hl4_3])
        (try simp only [hl4_3] at BK220)
        (try simp only [hl4_3] at BK221)
        (try simp only [hl4_3] at BK225)
        (try simp only [hl4_3] at HO_221001)
        (try simp only [hl4_3] at HO_226000)
        (try simp only [hl4_3] at HO_226001)
        cases gk with
        | zero => exact absurd HA.out (by simp [layout_flipped.l2])
        | succ k3 =>
         have H := HA.out; clear HA
         simp only [layout_flipped.l2] at H
         by_cases c39 : x7_3 ≥ 0
         ·rw [if_pos c39] at H
          have c39b0 : decide (0 ≤ x7_3) = true := decide_eq_true c39
          clear c39
          obtain ⟨c40, H⟩ := iS H
          have c40b0 := decide_eq_true c40
          clear c40
          obtain ⟨c41, H⟩ := iS H
          have c41b0 := decide_eq_true c41
          clear c41
          obtain ⟨y237, hy237⟩ : ∃ y_ : List Int, y_ = (x4_3.set (x7_3 : Int).toNat (wrap64 ((rd x4_3 x7_3) + 1))) := ⟨_, rfl⟩
          replace H : (if x7_3 < (t226.length : Int) then (if (rd y237 x7_3) < (rd t226 x7_3) then (layout_flipped.l0 k3 y237 (l0_1.length : Int) (wrap64 (x22_1 + 1)) l0_0 l0_1 t226 y233) else (layout_flipped.l2 k3 (y237.set (x7_3 : Int).toNat 0) (wrap64 (x7_3 - 1)) (l0_1.length : Int) x22_1 l0_0 l0_1 t226 y233)) else (none)) = some (r1, r2) := by first | (rw [hy237]; with_reducible exact H) | (have H2_ := (Option.bind_some _ _).symm.trans H; rw [hy237]; with_reducible exact H2_) | (have H2_ := (Option.bind_some _ _).symm.trans H; with_reducible exact H2_) | with_reducible exact H | (rw [hy237]; exact H) | exact H
          have Ny237 := gA hy237
          clear hy237
          obtain ⟨c43, H⟩ := iS H
          have c43b0 := decide_eq_true c43
          clear c43
          by_cases c44 : (rd y237 x7_3) < (rd t226 x7_3)
          ·rw [if_pos c44] at H
           have c44b0 := decide_eq_true c44
           clear c44
           have H' := gA H
           clear H
           have p236 : 0 ≤ (x7_3 : Int) := of_decide_eq_true (by assumption)
           have q236 : x7_3 < (x4_3.length : Int) := of_decide_eq_true (by assumption)
           obtain ⟨ad236, e236, hx236_0⟩ := Kd.at_int (Kd.R_reads' HO_4.out).2.2 x7_3 p236 q236
           cases e236
           replace p236 := eq_true p236
           replace q236 := eq_true q236
           have p42 : 0 ≤ (x7_3 : Int) := of_decide_eq_true (by assumption)
           have q42 : (x7_3 : Int) < ((x4_3.length : Int) : Int) := of_decide_eq_true (by assumption)
           obtain ⟨go42, co42, eo42, gb42, gl42, cl42, HG42⟩ := Kd.R_form HO_4.out (by omega)
           (first | cases eo42 | (injection eo42 with ea_ en_ ec_; (first | subst ea_ | (injection ea_ with ea_; subst ea_)); subst ec_; clear en_))
           have GB42 := gA gb42
           have GG42 := gA HG42
           clear gb42 gl42 HG42
           (first | simp only [add_plain] at hx236_0 | skip)
           obtain ⟨hx42_0, hf42_0⟩ := Kd.R_celln 0 HO_4.out (x7_3 : Int) p42 q42
           replace p42 := eq_true p42
           replace q42 := eq_true q42
           have HP45 := Kd.R_putg HO_4.out (x7_3 : Int) (wrap64 ((rd x4_3 x7_3) + 1))
           try go_wp2_with (first | ((with_reducible refine gate_store (t := 3) (p := 68) rfl ?_); refine store_event (t := 3) (p := 68) (v := ?vo_w46) (w1 := (wr.setCell ⟨go42, (x7_3 : Int).toNat, none⟩ (.int .i64 (wrap64 ((rd x4_3 x7_3) + 1))))) ?hg ?ho ?hn ?hr ?_; (case ho => rfl); (case hg => rfl); (case hn => rfl); (case hr => first | (go_simp; done) | (go_simp; rfl)); intro w46 hw; have hg : wr.grownBy w46 (some go42) := (by rw [hw]; exact HP45.2); have hp_ : Kd.R (Kd.int .i64) 3 w46 w.heap.size (fun k_ => (w.heap.size ≤ k_) ∧ some k_ ≠ (.slice Ao11 t226.length co11 : Value).ownBlock) (.slice (some ⟨go42, 0, none⟩) x4_3.length co24) y237 := (by rw [hw, Ny237.out]; exact HP45.1); clear HP45; replace HO_221001 := gA (Kd.V_afterv (v := (.slice (some ⟨go42, 0, none⟩) x4_3.length co24)) (v1 := (.slice (some ⟨go42, 0, none⟩) x4_3.length co24)) (ok := (fun k_ => (P0_1_ k_ ∨ w.heap.size ≤ k_) ∧ some k_ ≠ (.slice Ao11 t226.length co11 : Value).ownBlock ∧ some k_ ≠ (.slice Ao37 y233.length co37 : Value).ownBlock ∧ k_ ≠ gb220 ∧ k_ ≠ gb221 ∧ k_ ≠ gb225)) (Kd.V_mono HO_221001.out (fun _ hk => ⟨⟨hk.1, ⟨hk.2.2.1, ⟨hk.2.2.2.1, ⟨hk.2.2.2.2.1, ⟨hk.2.2.2.2.2.1, hk.2.2.2.2.2.2⟩⟩⟩⟩⟩, hk.2.1⟩)) hg (.inl rfl)); replace HO_226000 := gA (Kd.R_after (v := (.slice (some ⟨go42, 0, none⟩) x4_3.length co24)) (v1 := (.slice (some ⟨go42, 0, none⟩) x4_3.length co24)) (ok := (fun k_ => (w.heap.size ≤ k_))) (gR HO_226000) hg (.inl rfl)); replace HO_226001 := gA (Kd.N_afterv (v := (.slice (some ⟨go42, 0, none⟩) x4_3.length co24)) (v1 := (.slice (some ⟨go42, 0, none⟩) x4_3.length co24)) (ok := (fun k_ => (P0_1_ k_ ∨ w.heap.size ≤ k_) ∧ some k_ ≠ (.slice Ao11 t226.length co11 : Value).ownBlock ∧ k_ ≠ gb220 ∧ k_ ≠ gb221 ∧ k_ ≠ gb225)) (Kd.N_mono HO_226001.out (fun _ hk => ⟨⟨hk.1, ⟨hk.2.2.1, ⟨hk.2.2.2.1, ⟨hk.2.2.2.2.1, hk.2.2.2.2.2⟩⟩⟩⟩, hk.2.1⟩)) hg (.inl rfl)); replace BK220 := gA (blk_grown (gK BK220) hg (Kd.R_ne HO_4.out BK220.out (by decide))); replace BK221 := gA (blk_grown (gK BK221) hg (Kd.R_ne HO_4.out BK221.out (by decide))); replace BK225 := gA (blk_grown (gK BK225) hg (Kd.R_ne HO_4.out BK225.out (by decide))); replace HO_4 := gA (hp_); replace HB := gA ((by rw [hw]; exact below_set (HB.out) GB42.out : Below w.heap.size w w46)); clear hg hw hp_))
           replace HO_4 := gA (Kd.R_drew HO_4.out); replace HO_221001 := gA (Kd.V_drew HO_221001.out); replace HO_226000 := gA (Kd.R_drew HO_226000.out); replace HO_226001 := gA (Kd.N_drew HO_226001.out); replace BK220 := gA (blk_drew BK220.out); replace BK221 := gA (blk_drew BK221.out); replace BK225 := gA (blk_drew BK225.out); replace HB := gA (below_drew1 HB.out)
           have p238 : 0 ≤ (x7_3 : Int) := of_decide_eq_true (by assumption)
           have q238 : x7_3 < (y237.length : Int) := (by have h_ : (x7_3 : Int) < ((x4_3.length : Int) : Int) := of_decide_eq_true (by assumption); first | (have e_ := (Kd.R_reads' HO_4.out).1; omega) | simpa only [Ny237.out, List.length_set] using h_)
           have ql238 : ((x7_3 : Int) < ((x4_3.length : Int) : Int)) = True := eq_true (of_decide_eq_true (by assumption))
           obtain ⟨ad238, e238, hx238_0⟩ := Kd.at_int (Kd.R_reads' HO_4.out).2.2 x7_3 p238 q238
           obtain rfl : (⟨go42, 0, none⟩ : Addr) = ad238 := (by injection e238)
           (first | simp only [add_plain] at hx238_0 | simp only [add_at] at hx238_0 | simp only [Addr.add, Nat.zero_add] at hx238_0 | skip)
           replace p238 := eq_true p238
           replace q238 := eq_true q238
           have p239 : 0 ≤ (x7_3 : Int) := of_decide_eq_true (by assumption)
           have q239 : x7_3 < (t226.length : Int) := of_decide_eq_true (by assumption)
           obtain ⟨ad239, e239, hx239_0⟩ := Kd.at_int (Kd.R_reads' HO_226000.out).2.2 x7_3 p239 q239
           cases e239
           replace p239 := eq_true p239
           replace q239 := eq_true q239
           refine start_ (n := 10) (S := fun w' => w'.cell? ⟨gb225, 0, none⟩ = some (.slice (some ad239) t226.length co11) ∧ w'.cell? ⟨gb225, 1, none⟩ = some (.slice Ao37 y233.length co37) ∧ w'.cell? ⟨go42, (x7_3).toNat, none⟩ = some (.int .i64 (rd y237 x7_3)) ∧ w'.cell? (ad239.add (x7_3).toNat) = some (.int .i64 (rd t226 x7_3))) (ds := []) #[false, false, false, false, false, false, false, false, false, false] (by kernel_rfl) rfl rfl ⟨(blk_cell BK225.out 0).trans rfl, (blk_cell BK225.out 1).trans rfl, hx238_0, hx239_0⟩ (fun hHeld => ?_); refine with_tabW layout_flipped.tab17 layout_flipped.bits17 (fun HT_ HW_ => ?_)
           generalize w46.drew = w47 at HO_4 HO_221001 HO_226000 HO_226001 BK220 BK221 BK225 HB hx238_0 hx239_0 hHeld ⊢
           refine pure_ (i := 0) (N := some 69) (v := ?_) (a' := ?_) #[true, false, false, false, false, false, false, false, false, false] rfl rfl (any_of HT_.out (by kernel_rfl)) (fun _ _ _ h => h) (Or.inl ⟨by rfl, ?_⟩) ?_ ?_; rotate_left
           ·intro w'; go_simp; with_reducible rfl
           rotate_left
           ·simp only [Act.put, List.setIfInBounds_toArray, List.set_cons_zero, List.set_cons_succ, i64_w, i32_w]; rfl
           refine pure_ (i := 1) (N := some 70) (v := ?_) (a' := ?_) #[true, true, false, false, false, false, false, false, false, false] rfl rfl (any_of HT_.out (by kernel_rfl)) (fun _ _ _ h => h) (Or.inl ⟨by rfl, ?_⟩) ?_ ?_; rotate_left
           ·intro w'; go_simp; with_reducible rfl
           rotate_left
           ·simp only [Act.put, List.setIfInBounds_toArray, List.set_cons_zero, List.set_cons_succ, i64_w, i32_w]; rfl
           refine pure_ (i := 2) (N := some 71) (v := ?_) (a' := ?_) #[true, true, true, false, false, false, false, false, false, false] rfl rfl (any_of HT_.out (by kernel_rfl)) (fun _ _ _ h => h) (Or.inl ⟨by rfl, ?_⟩) ?_ ?_; rotate_left
           ·intro w'; go_simp; with_reducible rfl
           rotate_left
           ·simp only [Act.put, List.setIfInBounds_toArray, List.set_cons_zero, List.set_cons_succ, i64_w, i32_w]; rfl
           refine pure_ (i := 4) (N := some 73) (v := ?_) (a' := ?_) #[true, true, true, false, true, false, false, false, false, false] rfl rfl (any_of HT_.out (by kernel_rfl)) (fun _ _ _ h => h) (Or.inl ⟨by rfl, ?_⟩) ?_ ?_; rotate_left
           ·intro w'; go_simp; with_reducible rfl
           rotate_left
           ·simp only [Act.put, List.setIfInBounds_toArray, List.set_cons_zero, List.set_cons_succ, i64_w, i32_w]; rfl
           refine pure_ (i := 6) (N := some 75) (v := ?_) (a' := ?_) #[true, true, true, false, true, false, true, false, false, false] rfl rfl (any_of HT_.out (by kernel_rfl)) (fun _ _ _ h => h) (Or.inl ⟨by rfl, ?_⟩) ?_ ?_; rotate_left
           ·intro w'; go_simp; with_reducible rfl
           rotate_left
           ·simp only [Act.put, List.setIfInBounds_toArray, List.set_cons_zero, List.set_cons_succ, i64_w, i32_w]; rfl
           refine take_ (i := 3) (N := some 72) (v := ?_) (a' := ?_) #[true, true, true, true, true, false, true, false, false, false] rfl rfl (take_ofW HT_.out HW_.out (by kernel_rfl)) (fun _ _ _ h => h) (Or.inl ⟨by rfl, ?_⟩) hHeld ?_ ?_; rotate_left
           ·rintro w' ⟨s0, s1, s2, s3⟩; go_simp; with_reducible rfl
           rotate_left
           ·simp only [Act.put, List.setIfInBounds_toArray, List.set_cons_zero, List.set_cons_succ, i64_w, i32_w]; rfl
           refine take_ (i := 5) (N := some 74) (v := ?_) (a' := ?_) #[true, true, true, true, true, true, true, false, false, false] rfl rfl (take_ofW HT_.out HW_.out (by kernel_rfl)) (fun _ _ _ h => h) (Or.inl ⟨by rfl, ?_⟩) hHeld ?_ ?_; rotate_left
           ·rintro w' ⟨s0, s1, s2, s3⟩; go_simp; with_reducible rfl
           rotate_left
           ·simp only [Act.put, List.setIfInBounds_toArray, List.set_cons_zero, List.set_cons_succ, i64_w, i32_w]; rfl
           refine pure_ (i := 7) (N := some 76) (v := ?_) (a' := ?_) #[true, true, true, true, true, true, true, true, false, false] rfl rfl (any_of HT_.out (by kernel_rfl)) (fun _ _ _ h => h) (Or.inl ⟨by rfl, ?_⟩) ?_ ?_; rotate_left
           ·intro w'; go_simp; with_reducible rfl
           rotate_left
           ·simp only [Act.put, List.setIfInBounds_toArray, List.set_cons_zero, List.set_cons_succ, i64_w, i32_w]; rfl
           refine take_ (i := 8) (N := some 77) (v := ?_) (a' := ?_) #[true, true, true, true, true, true, true, true, true, false] rfl rfl (take_ofW HT_.out HW_.out (by kernel_rfl)) (fun _ _ _ h => h) (Or.inl ⟨by rfl, ?_⟩) hHeld ?_ ?_; rotate_left
           ·rintro w' ⟨s0, s1, s2, s3⟩; go_simp; with_reducible rfl
           rotate_left
           ·simp only [Act.put, List.setIfInBounds_toArray, List.set_cons_zero, List.set_cons_succ, i64_w, i32_w]; rfl
           refine pure_ (i := 9) (N := some 78) (v := ?_) (a' := ?_) #[true, true, true, true, true, true, true, true, true, true] rfl rfl (any_of HT_.out (by kernel_rfl)) (fun _ _ _ h => h) (Or.inl ⟨by rfl, ?_⟩) ?_ ?_; rotate_left
           ·intro w'; go_simp; with_reducible rfl
           rotate_left
           ·simp only [Act.put, List.setIfInBounds_toArray, List.set_cons_zero, List.set_cons_succ, i64_w, i32_w]; rfl
           refine done_ (done_of HT_.out (by kernel_rfl)) ?_
           try go_wp2
           (try simp only [← hl226000_1, ← hl4_3])
           go_roundg k3
           case measure => have := HK1.out; have := HK2.out; have := HK3.out; omega
           case rel => exact ⟨(y237), (wrap64 (x22_1 + 1)), (y233), (.slice Ao37 y233.length co37), (rfl), H', ⟨by have := HK1.out; have := HK2.out; have := HK3.out; omega⟩, ⟨by (try simp only [hl226000_1]); (try simp only [hl4_3]); (with_reducible repeat (first | apply Kd.R_alloc | apply Kd.R_drewN | apply Kd.R_drew)); exact HO_4.out⟩, ⟨by (try simp only [hl226000_1]); (try simp only [hl4_3]); (with_reducible repeat (first | apply Kd.V_alloc | apply Kd.V_drewN | apply Kd.V_drew)); exact Kd.V_mono HO_221001.out (fun _ hk => ⟨hk.1.1, ⟨hk.2, ⟨hk.1.2.1, ⟨hk.1.2.2.1, ⟨hk.1.2.2.2.1, ⟨hk.1.2.2.2.2.1, hk.1.2.2.2.2.2⟩⟩⟩⟩⟩⟩)⟩, ⟨by (try simp only [hl226000_1]); (try simp only [hl4_3]); (with_reducible repeat (first | apply Kd.R_alloc | apply Kd.R_drewN | apply Kd.R_drew)); exact HO_226000.out⟩, ⟨by (try simp only [hl226000_1]); (try simp only [hl4_3]); (with_reducible repeat (first | apply Kd.N_alloc | apply Kd.N_drewN | apply Kd.N_drew)); exact Kd.N_mono HO_226001.out (fun _ hk => ⟨hk.1.1, ⟨hk.2, ⟨hk.1.2.1, ⟨hk.1.2.2.1, ⟨hk.1.2.2.2.1, hk.1.2.2.2.2⟩⟩⟩⟩⟩)⟩, ⟨by (try simp only [hl226000_1]); (try simp only [hl4_3]); exact gK BK220⟩, ⟨by (try simp only [hl226000_1]); (try simp only [hl4_3]); exact gK BK221⟩, ⟨by (try simp only [hl226000_1]); (try simp only [hl4_3]); exact gK BK225⟩, ⟨gB HB⟩⟩
          ·rw [if_neg c44] at H
           have c44b0 := decide_eq_false c44
           clear c44
           obtain ⟨y240, hy240⟩ : ∃ y_ : List Int, y_ = (y237.set (x7_3 : Int).toNat 0) := ⟨_, rfl⟩
           replace H : (layout_flipped.l2 k3 y240 (wrap64 (x7_3 - 1)) (l0_1.length : Int) x22_1 l0_0 l0_1 t226 y233) = some (r1, r2) := by first | (rw [hy240]; with_reducible exact H) | (have H2_ := (Option.bind_some _ _).symm.trans H; rw [hy240]; with_reducible exact H2_) | (have H2_ := (Option.bind_some _ _).symm.trans H; with_reducible exact H2_) | with_reducible exact H | (rw [hy240]; exact H) | exact H
           have Ny240 := gA hy240
           clear hy240
           have H' := gA H
           clear H
           have p236 : 0 ≤ (x7_3 : Int) := of_decide_eq_true (by assumption)
           have q236 : x7_3 < (x4_3.length : Int) := of_decide_eq_true (by assumption)
           obtain ⟨ad236, e236, hx236_0⟩ := Kd.at_int (Kd.R_reads' HO_4.out).2.2 x7_3 p236 q236
           cases e236
           replace p236 := eq_true p236
           replace q236 := eq_true q236
           have p42 : 0 ≤ (x7_3 : Int) := of_decide_eq_true (by assumption)
           have q42 : (x7_3 : Int) < ((x4_3.length : Int) : Int) := of_decide_eq_true (by assumption)
           obtain ⟨go42, co42, eo42, gb42, gl42, cl42, HG42⟩ := Kd.R_form HO_4.out (by omega)
           (first | cases eo42 | (injection eo42 with ea_ en_ ec_; (first | subst ea_ | (injection ea_ with ea_; subst ea_)); subst ec_; clear en_))
           have GB42 := gA gb42
           have GG42 := gA HG42
           clear gb42 gl42 HG42
           (first | simp only [add_plain] at hx236_0 | skip)
           obtain ⟨hx42_0, hf42_0⟩ := Kd.R_celln 0 HO_4.out (x7_3 : Int) p42 q42
           replace p42 := eq_true p42
           replace q42 := eq_true q42
           have HP49 := Kd.R_putg HO_4.out (x7_3 : Int) (wrap64 ((rd x4_3 x7_3) + 1))
           try go_wp2_with (first | ((with_reducible refine gate_store (t := 3) (p := 68) rfl ?_); refine store_event (t := 3) (p := 68) (v := ?vo_w50) (w1 := (wr.setCell ⟨go42, (x7_3 : Int).toNat, none⟩ (.int .i64 (wrap64 ((rd x4_3 x7_3) + 1))))) ?hg ?ho ?hn ?hr ?_; (case ho => rfl); (case hg => rfl); (case hn => rfl); (case hr => first | (go_simp; done) | (go_simp; rfl)); intro w50 hw; have hg : wr.grownBy w50 (some go42) := (by rw [hw]; exact HP49.2); have hp_ : Kd.R (Kd.int .i64) 3 w50 w.heap.size (fun k_ => (w.heap.size ≤ k_) ∧ some k_ ≠ (.slice Ao11 t226.length co11 : Value).ownBlock) (.slice (some ⟨go42, 0, none⟩) x4_3.length co24) y237 := (by rw [hw, Ny237.out]; exact HP49.1); clear HP49; replace HO_221001 := gA (Kd.V_afterv (v := (.slice (some ⟨go42, 0, none⟩) x4_3.length co24)) (v1 := (.slice (some ⟨go42, 0, none⟩) x4_3.length co24)) (ok := (fun k_ => (P0_1_ k_ ∨ w.heap.size ≤ k_) ∧ some k_ ≠ (.slice Ao11 t226.length co11 : Value).ownBlock ∧ some k_ ≠ (.slice Ao37 y233.length co37 : Value).ownBlock ∧ k_ ≠ gb220 ∧ k_ ≠ gb221 ∧ k_ ≠ gb225)) (Kd.V_mono HO_221001.out (fun _ hk => ⟨⟨hk.1, ⟨hk.2.2.1, ⟨hk.2.2.2.1, ⟨hk.2.2.2.2.1, ⟨hk.2.2.2.2.2.1, hk.2.2.2.2.2.2⟩⟩⟩⟩⟩, hk.2.1⟩)) hg (.inl rfl)); replace HO_226000 := gA (Kd.R_after (v := (.slice (some ⟨go42, 0, none⟩) x4_3.length co24)) (v1 := (.slice (some ⟨go42, 0, none⟩) x4_3.length co24)) (ok := (fun k_ => (w.heap.size ≤ k_))) (gR HO_226000) hg (.inl rfl)); replace HO_226001 := gA (Kd.N_afterv (v := (.slice (some ⟨go42, 0, none⟩) x4_3.length co24)) (v1 := (.slice (some ⟨go42, 0, none⟩) x4_3.length co24)) (ok := (fun k_ => (P0_1_ k_ ∨ w.heap.size ≤ k_) ∧ some k_ ≠ (.slice Ao11 t226.length co11 : Value).ownBlock ∧ k_ ≠ gb220 ∧ k_ ≠ gb221 ∧ k_ ≠ gb225)) (Kd.N_mono HO_226001.out (fun _ hk => ⟨⟨hk.1, ⟨hk.2.2.1, ⟨hk.2.2.2.1, ⟨hk.2.2.2.2.1, hk.2.2.2.2.2⟩⟩⟩⟩, hk.2.1⟩)) hg (.inl rfl)); replace BK220 := gA (blk_grown (gK BK220) hg (Kd.R_ne HO_4.out BK220.out (by decide))); replace BK221 := gA (blk_grown (gK BK221) hg (Kd.R_ne HO_4.out BK221.out (by decide))); replace BK225 := gA (blk_grown (gK BK225) hg (Kd.R_ne HO_4.out BK225.out (by decide))); replace HO_4 := gA (hp_); replace HB := gA ((by rw [hw]; exact below_set (HB.out) GB42.out : Below w.heap.size w w50)); clear hg hw hp_))
           replace HO_4 := gA (Kd.R_drew HO_4.out); replace HO_221001 := gA (Kd.V_drew HO_221001.out); replace HO_226000 := gA (Kd.R_drew HO_226000.out); replace HO_226001 := gA (Kd.N_drew HO_226001.out); replace BK220 := gA (blk_drew BK220.out); replace BK221 := gA (blk_drew BK221.out); replace BK225 := gA (blk_drew BK225.out); replace HB := gA (below_drew1 HB.out)
           have p238 : 0 ≤ (x7_3 : Int) := of_decide_eq_true (by assumption)
           have q238 : x7_3 < (y237.length : Int) := (by have h_ : (x7_3 : Int) < ((x4_3.length : Int) : Int) := of_decide_eq_true (by assumption); first | (have e_ := (Kd.R_reads' HO_4.out).1; omega) | simpa only [Ny237.out, List.length_set] using h_)
           have ql238 : ((x7_3 : Int) < ((x4_3.length : Int) : Int)) = True := eq_true (of_decide_eq_true (by assumption))
           obtain ⟨ad238, e238, hx238_0⟩ := Kd.at_int (Kd.R_reads' HO_4.out).2.2 x7_3 p238 q238
           obtain rfl : (⟨go42, 0, none⟩ : Addr) = ad238 := (by injection e238)
           (first | simp only [add_plain] at hx238_0 | simp only [add_at] at hx238_0 | simp only [Addr.add, Nat.zero_add] at hx238_0 | skip)
           replace p238 := eq_true p238
           replace q238 := eq_true q238
           have p239 : 0 ≤ (x7_3 : Int) := of_decide_eq_true (by assumption)
           have q239 : x7_3 < (t226.length : Int) := of_decide_eq_true (by assumption)
           obtain ⟨ad239, e239, hx239_0⟩ := Kd.at_int (Kd.R_reads' HO_226000.out).2.2 x7_3 p239 q239
           cases e239
           replace p239 := eq_true p239
           replace q239 := eq_true q239
           refine start_ (n := 10) (S := fun w' => w'.cell? ⟨gb225, 0, none⟩ = some (.slice (some ad239) t226.length co11) ∧ w'.cell? ⟨gb225, 1, none⟩ = some (.slice Ao37 y233.length co37) ∧ w'.cell? ⟨go42, (x7_3).toNat, none⟩ = some (.int .i64 (rd y237 x7_3)) ∧ w'.cell? (ad239.add (x7_3).toNat) = some (.int .i64 (rd t226 x7_3))) (ds := []) #[false, false, false, false, false, false, false, false, false, false] (by kernel_rfl) rfl rfl ⟨(blk_cell BK225.out 0).trans rfl, (blk_cell BK225.out 1).trans rfl, hx238_0, hx239_0⟩ (fun hHeld => ?_); refine with_tabW layout_flipped.tab17 layout_flipped.bits17 (fun HT_ HW_ => ?_)
           generalize w50.drew = w51 at HO_4 HO_221001 HO_226000 HO_226001 BK220 BK221 BK225 HB hx238_0 hx239_0 hHeld ⊢
           refine pure_ (i := 0) (N := some 69) (v := ?_) (a' := ?_) #[true, false, false, false, false, false, false, false, false, false] rfl rfl (any_of HT_.out (by kernel_rfl)) (fun _ _ _ h => h) (Or.inl ⟨by rfl, ?_⟩) ?_ ?_; rotate_left
           ·intro w'; go_simp; with_reducible rfl
           rotate_left
           ·simp only [Act.put, List.setIfInBounds_toArray, List.set_cons_zero, List.set_cons_succ, i64_w, i32_w]; rfl
           refine pure_ (i := 1) (N := some 70) (v := ?_) (a' := ?_) #[true, true, false, false, false, false, false, false, false, false] rfl rfl (any_of HT_.out (by kernel_rfl)) (fun _ _ _ h => h) (Or.inl ⟨by rfl, ?_⟩) ?_ ?_; rotate_left
           ·intro w'; go_simp; with_reducible rfl
           rotate_left
           ·simp only [Act.put, List.setIfInBounds_toArray, List.set_cons_zero, List.set_cons_succ, i64_w, i32_w]; rfl
           refine pure_ (i := 2) (N := some 71) (v := ?_) (a' := ?_) #[true, true, true, false, false, false, false, false, false, false] rfl rfl (any_of HT_.out (by kernel_rfl)) (fun _ _ _ h => h) (Or.inl ⟨by rfl, ?_⟩) ?_ ?_; rotate_left
           ·intro w'; go_simp; with_reducible rfl
           rotate_left
           ·simp only [Act.put, List.setIfInBounds_toArray, List.set_cons_zero, List.set_cons_succ, i64_w, i32_w]; rfl
           refine pure_ (i := 4) (N := some 73) (v := ?_) (a' := ?_) #[true, true, true, false, true, false, false, false, false, false] rfl rfl (any_of HT_.out (by kernel_rfl)) (fun _ _ _ h => h) (Or.inl ⟨by rfl, ?_⟩) ?_ ?_; rotate_left
           ·intro w'; go_simp; with_reducible rfl
           rotate_left
           ·simp only [Act.put, List.setIfInBounds_toArray, List.set_cons_zero, List.set_cons_succ, i64_w, i32_w]; rfl
           refine pure_ (i := 6) (N := some 75) (v := ?_) (a' := ?_) #[true, true, true, false, true, false, true, false, false, false] rfl rfl (any_of HT_.out (by kernel_rfl)) (fun _ _ _ h => h) (Or.inl ⟨by rfl, ?_⟩) ?_ ?_; rotate_left
           ·intro w'; go_simp; with_reducible rfl
           rotate_left
           ·simp only [Act.put, List.setIfInBounds_toArray, List.set_cons_zero, List.set_cons_succ, i64_w, i32_w]; rfl
           refine take_ (i := 3) (N := some 72) (v := ?_) (a' := ?_) #[true, true, true, true, true, false, true, false, false, false] rfl rfl (take_ofW HT_.out HW_.out (by kernel_rfl)) (fun _ _ _ h => h) (Or.inl ⟨by rfl, ?_⟩) hHeld ?_ ?_; rotate_left
           ·rintro w' ⟨s0, s1, s2, s3⟩; go_simp; with_reducible rfl
           rotate_left
           ·simp only [Act.put, List.setIfInBounds_toArray, List.set_cons_zero, List.set_cons_succ, i64_w, i32_w]; rfl
           refine take_ (i := 5) (N := some 74) (v := ?_) (a' := ?_) #[true, true, true, true, true, true, true, false, false, false] rfl rfl (take_ofW HT_.out HW_.out (by kernel_rfl)) (fun _ _ _ h => h) (Or.inl ⟨by rfl, ?_⟩) hHeld ?_ ?_; rotate_left
           ·rintro w' ⟨s0, s1, s2, s3⟩; go_simp; with_reducible rfl
           rotate_left
           ·simp only [Act.put, List.setIfInBounds_toArray, List.set_cons_zero, List.set_cons_succ, i64_w, i32_w]; rfl
           refine pure_ (i := 7) (N := some 76) (v := ?_) (a' := ?_) #[true, true, true, true, true, true, true, true, false, false] rfl rfl (any_of HT_.out (by kernel_rfl)) (fun _ _ _ h => h) (Or.inl ⟨by rfl, ?_⟩) ?_ ?_; rotate_left
           ·intro w'; go_simp; with_reducible rfl
           rotate_left
           ·simp only [Act.put, List.setIfInBounds_toArray, List.set_cons_zero, List.set_cons_succ, i64_w, i32_w]; rfl
           refine take_ (i := 8) (N := some 77) (v := ?_) (a' := ?_) #[true, true, true, true, true, true, true, true, true, false] rfl rfl (take_ofW HT_.out HW_.out (by kernel_rfl)) (fun _ _ _ h => h) (Or.inl ⟨by rfl, ?_⟩) hHeld ?_ ?_; rotate_left
           ·rintro w' ⟨s0, s1, s2, s3⟩; go_simp; with_reducible rfl
           rotate_left
           ·simp only [Act.put, List.setIfInBounds_toArray, List.set_cons_zero, List.set_cons_succ, i64_w, i32_w]; rfl
           refine pure_ (i := 9) (N := some 78) (v := ?_) (a' := ?_) #[true, true, true, true, true, true, true, true, true, true] rfl rfl (any_of HT_.out (by kernel_rfl)) (fun _ _ _ h => h) (Or.inl ⟨by rfl, ?_⟩) ?_ ?_; rotate_left
           ·intro w'; go_simp; with_reducible rfl
           rotate_left
           ·simp only [Act.put, List.setIfInBounds_toArray, List.set_cons_zero, List.set_cons_succ, i64_w, i32_w]; rfl
           refine done_ (done_of HT_.out (by kernel_rfl)) ?_
           have p48 : 0 ≤ (x7_3 : Int) := of_decide_eq_true (by assumption)
           have q48 : (x7_3 : Int) < ((x4_3.length : Int) : Int) := of_decide_eq_true (by assumption)
           obtain ⟨hx48_0, hf48_0⟩ := Kd.R_celln 0 HO_4.out (x7_3 : Int) p48 q48
           replace p48 := eq_true p48
           replace q48 := eq_true q48
           obtain ⟨hy52_, hz52_⟩ := Kd.R_celln 0 HO_4.out (x7_3 : Int) (of_decide_eq_true (by assumption)) (of_decide_eq_true (by assumption))
           have HP52 := Kd.R_putg HO_4.out (x7_3 : Int) 0
           try go_wp2_with (first | ((with_reducible refine gate_store (t := 3) (p := 81) rfl ?_); refine store_event (t := 3) (p := 81) (v := ?vo_w53) (w1 := (w51.setCell ⟨go42, (x7_3 : Int).toNat, none⟩ (.int .i64 0))) ?hg ?ho ?hn ?hr ?_; (case ho => rfl); (case hg => rfl); (case hn => rfl); (case hr => first | (go_simp; done) | (go_simp; rfl)); intro w53 hw; have hg : w51.grownBy w53 (some go42) := (by rw [hw]; exact HP52.2); have hp_ : Kd.R (Kd.int .i64) 3 w53 w.heap.size (fun k_ => (w.heap.size ≤ k_) ∧ some k_ ≠ (.slice (some ad239) t226.length co11 : Value).ownBlock) (.slice (some ⟨go42, 0, none⟩) x4_3.length co24) y240 := (by rw [hw, Ny240.out]; exact HP52.1); clear HP52; replace HO_221001 := gA (Kd.V_afterv (v := (.slice (some ⟨go42, 0, none⟩) x4_3.length co24)) (v1 := (.slice (some ⟨go42, 0, none⟩) x4_3.length co24)) (ok := (fun k_ => (P0_1_ k_ ∨ w.heap.size ≤ k_) ∧ some k_ ≠ (.slice (some ad239) t226.length co11 : Value).ownBlock ∧ some k_ ≠ (.slice Ao37 y233.length co37 : Value).ownBlock ∧ k_ ≠ gb220 ∧ k_ ≠ gb221 ∧ k_ ≠ gb225)) (gV HO_221001) hg (.inl rfl)); replace HO_226000 := gA (Kd.R_after (v := (.slice (some ⟨go42, 0, none⟩) x4_3.length co24)) (v1 := (.slice (some ⟨go42, 0, none⟩) x4_3.length co24)) (ok := (fun k_ => (w.heap.size ≤ k_))) (gR HO_226000) hg (.inl rfl)); replace HO_226001 := gA (Kd.N_afterv (v := (.slice (some ⟨go42, 0, none⟩) x4_3.length co24)) (v1 := (.slice (some ⟨go42, 0, none⟩) x4_3.length co24)) (ok := (fun k_ => (P0_1_ k_ ∨ w.heap.size ≤ k_) ∧ some k_ ≠ (.slice (some ad239) t226.length co11 : Value).ownBlock ∧ k_ ≠ gb220 ∧ k_ ≠ gb221 ∧ k_ ≠ gb225)) (gN HO_226001) hg (.inl rfl)); replace BK220 := gA (blk_grown (gK BK220) hg (Kd.R_ne HO_4.out BK220.out (by decide))); replace BK221 := gA (blk_grown (gK BK221) hg (Kd.R_ne HO_4.out BK221.out (by decide))); replace BK225 := gA (blk_grown (gK BK225) hg (Kd.R_ne HO_4.out BK225.out (by decide))); replace HO_4 := gA (hp_); replace HB := gA ((by rw [hw]; exact below_set (HB.out) GB42.out : Below w.heap.size w w53)); clear hg hw hp_))
           (try simp only [← hl4_3])
           go_roundg k3
           case measure => have := HK1.out; have := HK2.out; have := HK3.out; omega
           case rel => exact ⟨(y240), (wrap64 (x7_3 - 1)), (rfl), H', ⟨by have := HK1.out; have := HK2.out; have := HK3.out; omega⟩, ⟨by (try simp only [hl226000_1]); (try simp only [hl4_3]); (with_reducible repeat (first | apply Kd.R_alloc | apply Kd.R_drewN | apply Kd.R_drew)); exact HO_4.out⟩, ⟨by (try simp only [hl226000_1]); (try simp only [hl4_3]); (with_reducible repeat (first | apply Kd.V_alloc | apply Kd.V_drewN | apply Kd.V_drew)); exact Kd.V_mono HO_221001.out (fun _ hk => ⟨hk.1.1, ⟨hk.2, ⟨hk.1.2.1, ⟨hk.1.2.2.1, ⟨hk.1.2.2.2.1, ⟨hk.1.2.2.2.2.1, hk.1.2.2.2.2.2⟩⟩⟩⟩⟩⟩)⟩, ⟨by (try simp only [hl226000_1]); (try simp only [hl4_3]); (with_reducible repeat (first | apply Kd.R_alloc | apply Kd.R_drewN | apply Kd.R_drew)); exact HO_226000.out⟩, ⟨by (try simp only [hl226000_1]); (try simp only [hl4_3]); (with_reducible repeat (first | apply Kd.N_alloc | apply Kd.N_drewN | apply Kd.N_drew)); exact Kd.N_mono HO_226001.out (fun _ hk => ⟨hk.1.1, ⟨hk.2, ⟨hk.1.2.1, ⟨hk.1.2.2.1, ⟨hk.1.2.2.2.1, hk.1.2.2.2.2⟩⟩⟩⟩⟩)⟩, ⟨by (try simp only [hl226000_1]); (try simp only [hl4_3]); exact gK BK220⟩, ⟨by (try simp only [hl226000_1]); (try simp only [hl4_3]); exact gK BK221⟩, ⟨by (try simp only [hl226000_1]); (try simp only [hl4_3]); exact gK BK225⟩, ⟨gB HB⟩⟩
         ·rw [if_neg c39] at H
          have c39b0 : decide (0 ≤ x7_3) = false := decide_eq_false c39
          clear c39
          have H' := gA H
          clear H
          go_wp2
          try (go_step3; go_wp2)
          try (go_step3; go_wp2)
          (try simp only [← hl226000_1, ← hl4_3])
          go_roundg k3
          case measure => have := HK1.out; have := HK2.out; have := HK3.out; omega
          case rel => exact ⟨(x4_3), (wrap64 (x22_1 + 1)), (y233), (.slice Ao37 y233.length co37), (rfl), H', ⟨by have := HK1.out; have := HK2.out; have := HK3.out; omega⟩, ⟨by (try simp only [hl226000_1]); (try simp only [hl4_3]); (with_reducible repeat (first | apply Kd.R_alloc | apply Kd.R_drewN | apply Kd.R_drew)); exact HO_4.out⟩, ⟨by (try simp only [hl226000_1]); (try simp only [hl4_3]); (with_reducible repeat (first | apply Kd.V_alloc | apply Kd.V_drewN | apply Kd.V_drew)); exact HO_221001.out⟩, ⟨by (try simp only [hl226000_1]); (try simp only [hl4_3]); (with_reducible repeat (first | apply Kd.R_alloc | apply Kd.R_drewN | apply Kd.R_drew)); exact HO_226000.out⟩, ⟨by (try simp only [hl226000_1]); (try simp only [hl4_3]); (with_reducible repeat (first | apply Kd.N_alloc | apply Kd.N_drewN | apply Kd.N_drew)); exact HO_226001.out⟩, ⟨by (try simp only [hl226000_1]); (try simp only [hl4_3]); exact gK BK220⟩, ⟨by (try simp only [hl226000_1]); (try simp only [hl4_3]); exact gK BK221⟩, ⟨by (try simp only [hl226000_1]); (try simp only [hl4_3]); exact gK BK225⟩, ⟨gB HB⟩⟩
   ·rw [if_neg c23] at H
    have c23b0 := decide_eq_false c23
    clear c23
    simp only [Option.some.injEq, Prod.mk.injEq] at H
    obtain ⟨rfl, rfl⟩ := H
    have hnb54 := NB225_220.out
    have hnc54 := NB220_225.out
    have hnb55 := NB225_221.out
    have hnc55 := NB221_225.out
    obtain ⟨hcz56_0, hcz56_1, hfz56_0, hfz56_1⟩ := gz2 BK225
    have hnb57 := NB221_220.out
    have hnc57 := NB220_221.out
    obtain ⟨hcz58_0, hcz58_1, hfz58_0, hfz58_1⟩ := gz2 BK221
    obtain ⟨Ao59, co59, eo59⟩ := Kd.N_slice HO_226001.out
    subst eo59
    go_wp2
    try (go_step3; go_wp2)
    try (go_step3; go_wp2)
    (try rw [Exit.noGoto_ret])
    refine bodyPost_ret (results_cell_row rfl _ _ gb221 25 #[.slice Ao11 t226.length co11, .slice Ao59 x226001_1.length co59] (0, 0) _ rfl (by refine blk_put (cs := #[.slice Ao11 t226.length co11, .slice none 0 0]) ?_ 1 _ rfl; refine blk_put (cs := #[.slice none 0 0, .slice none 0 0]) ?_ 0 _ rfl; exact gK BK221) Try.underlying25 rfl (by kernel_rfl)) rfl ?_
    exact ⟨_, _, rfl, Kd.R_mono (Kd.R_far (p := ⟨gb221, 1, none⟩) (Kd.R_far (p := ⟨gb221, 0, none⟩) (Kd.R_types HO_226000.out BK221.out (by decide)) (fun _ hk => hk.2) (.slice Ao11 t226.length co11)) (fun _ hk => hk.2) (.slice Ao59 x226001_1.length co59)) (fun _ hk => hk.1.1), Kd.N_mono (Kd.N_far (p := ⟨gb221, 1, none⟩) (Kd.N_far (p := ⟨gb221, 0, none⟩) (Kd.N_mono HO_226001.out (fun k_ hk => (⟨hk, hk.2.2.2.2.1⟩ : _ ∧ k_ ≠ gb221))) (fun _ hk => hk.2) (.slice Ao11 t226.length co11)) (fun _ hk => hk.2) (.slice Ao59 x226001_1.length co59)) (fun _ hk => ⟨hk.1.1, hk.1.2.2.1⟩), by repeat first | exact gB HB | refine below_set ?_ GE220.out | refine below_set ?_ GE221.out | refine below_set ?_ GE225.out⟩
end Go.Proofs.Ytiegcghapchimaa.P
