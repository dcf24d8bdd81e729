/- Written by a program of this session: the functions that the laws reach, what each comes to, and each law as it is stated, for every input. No condition. -/
import Derived.Test.YtiegcghapchimaaPx0
namespace Go.Proofs.Ytiegcghapchimaa.P
open Go.RowKit Go.Proofs.YtiegcghapchimaaW.PrintWords Go.Proofs.YtiegcghapchimaaW.PrintLast Go.Proofs.YtiegcghapchimaaW.PrintMore
attribute [local go_sem] max2_int min2_int max_two min_two max_three min_three max_four min_four   -- for this text's walks alone
set_option linter.unusedVariables false
set_option linter.unusedSimpArgs false
def arr_Atom.f (a0 : Int) : Option (List Int × (List (S39))) := some (([] : List Int), (([(⟨0, a0, ([] : List (S25))⟩ : S39)] : List (S39))))
set_option maxHeartbeats 8000000 in
set_option maxRecDepth 100000 in
theorem arr_Atom.calls (a0 : Int) (r1 : List Int) (r2 : List (S39)) (w : World) (h : arr_Atom.f a0 = some (r1, r2)) :
  Calls Try.prog 24 #[.int .i64 a0] w fun e w' => ∃ v0_ v1_ : Value, e = .returned (.agg #[v0_, v1_]) ∧ Kd.R (Kd.int .i64) 3 w' w.heap.size (fun _ => True) v0_ r1 ∧ Kd.R k39 39 w' w.heap.size (fun k_ => some k_ ≠ (v0_ : Value).ownBlock) v1_ r2 ∧ Below w.heap.size w w' := by
 have hu25 := Try.underlying25
 have hu39 := Try.underlying39
 have HB := gA (Below.refl w.heap.size w)
 have H : (some (([] : List Int), (([(⟨0, a0, ([] : List (S25))⟩ : S39)] : List (S39))))) = some (r1, r2) := h
 clear h
 obtain ⟨y194, hy194⟩ : ∃ y_ : List (S39), y_ = (([(⟨0, a0, ([] : List (S25))⟩ : S39)] : List (S39))) := ⟨_, rfl⟩
 replace H : (some (([] : List Int), y194)) = some (r1, r2) := by first | (rw [hy194]; with_reducible exact H) | (have H2_ := (Option.bind_some _ _).symm.trans H; rw [hy194]; with_reducible exact H2_) | (have H2_ := (Option.bind_some _ _).symm.trans H; with_reducible exact H2_) | with_reducible exact H | (rw [hy194]; exact H) | exact H
 have Ny194 := gA hy194
 clear hy194
 simp only [Option.some.injEq, Prod.mk.injEq] at H
 obtain ⟨rfl, rfl⟩ := H
 go_enter Try.func24, Try.ntmps24
 go_wp2_with (first | ((with_reducible refine gate_dst (N := 2) rfl ?_); refine box_event ?hg (N := 2) ?hd (cs := #[.slice none 0 0, .slice none 0 0]) (t := 25) ?hr ?_; (case hd => rfl); (case hg => rfl); (case hr => first | (go_simp; done) | (go_simp; rfl)); intro gb193 hg w2 hbox hb; have BK193 := gA (hbox); have GW193 := gA ((by rw [hg]; exact (below_size (gB HB)) : w.heap.size ≤ gb193)); have GE193 := gA ((by rw [hg]; exact (below_size (gB HB)) : w.heap.size ≤ gb193)); replace HB := gA (below_step (gB HB) hb); clear hb hbox hg) | ((with_reducible refine gate_dst (N := 5) rfl ?_); refine Kd.R_lit k39 _ 39 ?hg (N := 5) ?hd (xs := ([(⟨0, a0, ([] : List (S25))⟩ : S39)] : List (S39))) (inner := [.int .i64 0, .int .i64 a0, .slice none 0 0]) (ok := fun _ => True) (okp := fun _ => True) ?hr ?hp (fun _ hk => hk) trivial (Below.refl _ _) (Nat.le_refl _) (by simp) ?_; (case hd => rfl); (case hg => rfl); (case hr => first | (go_simp; done) | (go_simp; rfl)); (case hp => exact (Reps.c3 (show Kd.M k39 _ _ _ (⟨0, a0, ([] : List (S25))⟩ : S39) [.int .i64 0, .int .i64 a0, .slice none 0 0] from (k39_mkM _ _ _ (⟨0, a0, ([] : List (S25))⟩ : S39) (Kd.R_nil _ _ _ _ _))) (Reps.none _ _))); intro v195 w3 ho4 hb hg_ hnew_; clear hg_ hnew_; (first | rw [← Ny194.out] at ho4 | (simp only [Int.reduceToNat] at ho4; rw [← Ny194.out] at ho4)); have HO196 := gA (Kd.R_lower (Kd.R_newB ho4 (gK BK193)) (below_size (gB HB))); replace BK193 := gA (blk_below (gK BK193) hb); replace HB := gA (below_step (gB HB) hb); clear hb ho4; obtain ⟨Ao5, co5, eo5⟩ := Kd.R_slice HO196.out; subst eo5; obtain ⟨hcz6_0, hcz6_1, hfz6_0, hfz6_1⟩ := gz2 BK193))
 refine bodyPost_ret (results_cell_row rfl _ _ gb193 25 #[.slice none 0 0, .slice Ao5 y194.length co5] (0, 0) _ rfl (by refine blk_put (cs := #[.slice none 0 0, .slice none 0 0]) ?_ 1 _ rfl; refine blk_put (cs := #[.slice none 0 0, .slice none 0 0]) ?_ 0 _ rfl; exact gK BK193) Try.underlying25 rfl (by kernel_rfl)) rfl ?_
 exact ⟨_, _, rfl, by first | exact Kd.R_nil _ _ _ _ _ | exact Kd.N_nil _ _ _ _ _ | exact Kd.V_nil _ _ _ _ _ | exact Kd.Q_nil _ _ _ _ _ | exact Kd.S_nil _ _ _ _ _, Kd.R_mono (Kd.R_far (p := ⟨gb193, 1, none⟩) (Kd.R_far (p := ⟨gb193, 0, none⟩) (Kd.R_mono HO196.out (fun k_ hk => (⟨hk, hk.2⟩ : _ ∧ k_ ≠ gb193))) (fun _ hk => hk.2) (.slice none 0 0)) (fun _ hk => hk.2) (.slice Ao5 y194.length co5)) (fun _ hk => (by simp [Value.ownBlock])), by repeat first | exact gB HB | refine below_set ?_ GE193.out⟩
def layout_tally.f (l0_0 : List Int) (l0_1 : List (S39)) : Option (Int) := if (l0_0.length : Int) = 0 then (some 1) else (if 0 < (l0_0.length : Int) then (some (rd l0_0 0)) else (none))
set_option maxHeartbeats 8000000 in
set_option maxRecDepth 100000 in
theorem layout_tally.calls (A0_0 : Option Addr) (c0_0 : Nat) (l0_0 : List Int) (A0_1 : Option Addr) (c0_1 : Nat) (l0_1 : List (S39)) (r : Int) (w : World) (hr0_0 : Kd.C (Kd.int .i64) w A0_0 l0_0.length l0_0) (hc0_0 : l0_0.length ≤ c0_0) (hr0_1 : Kd.C k39 w A0_1 l0_1.length l0_1) (hc0_1 : l0_1.length ≤ c0_1) (h : layout_tally.f l0_0 l0_1 = some r) :
  Calls Try.prog 25 #[.agg #[.slice A0_0 l0_0.length c0_0, .slice A0_1 l0_1.length c0_1]] w fun e w' => e = .returned (.int .i64 r) ∧ Below w.heap.size w w' := by
 have hu25 := Try.underlying25
 have HR0_0 := gA hr0_0
 have HC0_0 := gA hc0_0
 clear hr0_0 hc0_0
 have HR0_1 := gA hr0_1
 have HC0_1 := gA hc0_1
 clear hr0_1 hc0_1
 have HB := gA (Below.refl w.heap.size w)
 have H : (if (l0_0.length : Int) = 0 then (some 1) else (if 0 < (l0_0.length : Int) then (some (rd l0_0 0)) else (none))) = some r := h
 clear h
 by_cases c2 : (l0_0.length : Int) = 0
 ·rw [if_pos c2] at H
  have c2b0 : ((l0_0.length : Int) == 0) = true := beq_iff_eq.mpr c2
  have c2b1 : ((l0_0.length : Int) != 0) = false := bne_eq_false_iff_eq.mpr c2
  clear c2
  obtain rfl := Option.some.inj H
  go_enter Try.func25, Try.ntmps25
  go_wp2_with (first | ((with_reducible refine gate_dst (N := 1) rfl ?_); refine box_event ?hg (N := 1) ?hd (cs := #[.slice A0_0 l0_0.length c0_0, .slice A0_1 l0_1.length c0_1]) (t := 25) ?hr ?_; (case hd => rfl); (case hg => rfl); (case hr => first | (go_simp; done) | (go_simp; rfl)); intro gb197 hg w3 hbox hb; have BK197 := gA (hbox); have GW197 := gA ((by rw [hg]; exact (below_size (gB HB)) : w.heap.size ≤ gb197)); have GE197 := gA ((by rw [hg]; exact (below_size (gB HB)) : w.heap.size ≤ gb197)); replace HB := gA (below_step (gB HB) hb); clear hb hbox hg; obtain ⟨hcz4_0, hcz4_1, hfz4_0, hfz4_1⟩ := gz2 BK197))
  go_ret
  exact ⟨rfl, by repeat first | exact gB HB | refine below_set ?_ GE197.out⟩
 ·rw [if_neg c2] at H
  have c2b0 : ((l0_0.length : Int) == 0) = false := beq_eq_false_iff_ne.mpr c2
  have c2b1 : ((l0_0.length : Int) != 0) = true := bne_iff_ne.mpr c2
  have c2b2 : ¬ (l0_0 = []) := fun h_ => c2 (by rw [h_]; rfl)
  obtain ⟨c5, H⟩ := iS H
  have c5b0 := decide_eq_true c5
  have c5b1 : decide (0 < l0_0.length) = true := decide_eq_true (by omega)
  clear c5
  obtain rfl := Option.some.inj H
  go_enter Try.func25, Try.ntmps25
  go_wp2_with (first | ((with_reducible refine gate_dst (N := 1) rfl ?_); refine box_event ?hg (N := 1) ?hd (cs := #[.slice A0_0 l0_0.length c0_0, .slice A0_1 l0_1.length c0_1]) (t := 25) ?hr ?_; (case hd => rfl); (case hg => rfl); (case hr => first | (go_simp; done) | (go_simp; rfl)); intro gb197 hg w6 hbox hb; have BK197 := gA (hbox); have GW197 := gA ((by rw [hg]; exact (below_size (gB HB)) : w.heap.size ≤ gb197)); have GE197 := gA ((by rw [hg]; exact (below_size (gB HB)) : w.heap.size ≤ gb197)); replace HB := gA (below_step (gB HB) hb); clear hb hbox hg; obtain ⟨hcz7_0, hcz7_1, hfz7_0, hfz7_1⟩ := gz2 BK197; have p198 : 0 ≤ (0 : Int) := (by omega); have q198 : 0 < (l0_0.length : Int) := of_decide_eq_true (by assumption); obtain ⟨ad198, e198, hx198_0⟩ := Kd.at_int HR0_0.out 0 p198 q198; cases e198; have qi198 : (0 < l0_0.length) = True := eq_true (by omega); (try rw [show ((0 : Int)).toNat = 0 from rfl] at hx198_0); (try rw [Addr.add_zero'] at hx198_0); replace hx198_0 := (HB.out.cell (World.block_lt_of_cell? w _ hx198_0)).trans hx198_0; replace p198 := eq_true p198; replace q198 := eq_true q198))
  go_ret
  exact ⟨rfl, by repeat first | exact gB HB | refine below_set ?_ GE197.out⟩
mutual
def layout_turned.l0 : Nat → Int → Int → List Int → Int → Int → List Int → List (S39) → Option (List Int × (List (S39)))
 | 0, _, _, _, _, _, _, _ => none
 | k + 1, x1, x5, x21, x22, x23, x200000, x200001 => if x23 < x22 then (if 0 ≤ x23 then (if x23 < (x21.length : Int) then (layout_turned.l0 k x1 (wrap64 (x5 * (rd x21 x23))) x21 x22 (wrap64 (x23 + 1)) x200000 x200001) else (none)) else (none)) else (if 0 ≤ x1 then (if x1 < (x200000.length : Int) then (layout_turned.l1 k x5 (rd x200000 x1) ([] : List (S39)) 0 x200000 x200001) else (none)) else (none))
def layout_turned.l1 : Nat → Int → Int → List (S39) → Int → List Int → List (S39) → Option (List Int × (List (S39)))
 | 0, _, _, _, _, _, _ => none
 | k + 1, x5, x8, x9, x10, x200000, x200001 => if x10 < (x200001.length : Int) then (layout_turned.l2 k x5 x8 x9 x10 (wrap64 (x8 - 1)) x200000 x200001) else (some (x200000, x9))
def layout_turned.l2 : Nat → Int → Int → List (S39) → Int → Int → List Int → List (S39) → Option (List Int × (List (S39)))
 | 0, _, _, _, _, _, _, _ => none
 | k + 1, x5, x8, x9, x10, x11, x200000, x200001 => if x11 ≥ 0 then (if 0 ≤ (wrap64 (x10 + (wrap64 (x11 * x5)))) then (if (wrap64 (x10 + (wrap64 (x11 * x5)))) ≤ (wrap64 (x10 + (wrap64 ((wrap64 (x11 + 1)) * x5)))) then (if (wrap64 (x10 + (wrap64 ((wrap64 (x11 + 1)) * x5)))) ≤ (x200001.length : Int) then ((some ((x200001.take ((wrap64 (x10 + (wrap64 ((wrap64 (x11 + 1)) * x5)))) : Int).toNat).drop ((wrap64 (x10 + (wrap64 (x11 * x5)))) : Int).toNat : List (S39))).bind fun y208 => (if x9.length + y208.length < 3518437208883 then (layout_turned.l2 k x5 x8 (x9 ++ y208) x10 (wrap64 (x11 - 1)) x200000 x200001) else (none))) else (none)) else (none)) else (none)) else (layout_turned.l1 k x5 x8 x9 (wrap64 (x10 + (wrap64 (x8 * x5)))) x200000 x200001)
end
def layout_turned.f (k : Nat) (l0_0 : List Int) (l0_1 : List (S39)) (a1 : Int) : Option (List Int × (List (S39))) := if (l0_0.length : Int) = 0 then (some (l0_0, l0_1)) else (if 0 ≤ (wrap64 (a1 + 1)) then (if (wrap64 (a1 + 1)) ≤ (l0_0.length : Int) then ((some (l0_0.drop ((wrap64 (a1 + 1)) : Int).toNat : List Int)).bind fun y201 => (layout_turned.l0 k a1 1 y201 (y201.length : Int) 0 l0_0 l0_1)) else (none)) else (none))
theorem layout_turned.mono_l : ∀ k, (∀ y0 y1 y2 y3 y4 y5 y6, LeO (layout_turned.l0 k y0 y1 y2 y3 y4 y5 y6) (layout_turned.l0 (k + 1) y0 y1 y2 y3 y4 y5 y6)) ∧ (∀ y0 y1 y2 y3 y4 y5, LeO (layout_turned.l1 k y0 y1 y2 y3 y4 y5) (layout_turned.l1 (k + 1) y0 y1 y2 y3 y4 y5)) ∧ (∀ y0 y1 y2 y3 y4 y5 y6, LeO (layout_turned.l2 k y0 y1 y2 y3 y4 y5 y6) (layout_turned.l2 (k + 1) y0 y1 y2 y3 y4 y5 y6))
 | 0 => ⟨fun _ _ _ _ _ _ _ r h => by simp [layout_turned.l0] at h, fun _ _ _ _ _ _ r h => by simp [layout_turned.l1] at h, fun _ _ _ _ _ _ _ r h => by simp [layout_turned.l2] at h⟩
 | k + 1 => by
  obtain ⟨ih0, ih1, ih2⟩ := layout_turned.mono_l k
  refine ⟨?_, ?_, ?_⟩
  ·intro y0 y1 y2 y3 y4 y5 y6
   unfold layout_turned.l0
   repeat' first
   | (with_reducible exact ih0 _ _ _ _ _ _ _)
   | (with_reducible exact ih1 _ _ _ _ _ _)
   | (with_reducible exact ih2 _ _ _ _ _ _ _)
   | (with_reducible exact LeO.refl _)
   | (with_reducible exact LeO.none _)
   | (with_reducible refine LeO.ite ?_ ?_)
   | (with_reducible refine LeO.bind ?_ (fun _ => ?_))






  ·intro y0 y1 y2 y3 y4 y5
   unfold layout_turned.l1
   repeat' first
   | (with_reducible exact ih0 _ _ _ _ _ _ _)
   | (with_reducible exact ih1 _ _ _ _ _ _)
   | (with_reducible exact ih2 _ _ _ _ _ _ _)
   | (with_reducible exact LeO.refl _)
   | (with_reducible exact LeO.none _)
   | (with_reducible refine LeO.ite ?_ ?_)
   | (with_reducible refine LeO.bind ?_ (fun _ => ?_))






  ·intro y0 y1 y2 y3 y4 y5 y6
   unfold layout_turned.l2
   repeat' first
   | (with_reducible exact ih0 _ _ _ _ _ _ _)
   | (with_reducible exact ih1 _ _ _ _ _ _)
   | (with_reducible exact ih2 _ _ _ _ _ _ _)
   | (with_reducible exact LeO.refl _)
   | (with_reducible exact LeO.none _)
   | (with_reducible refine LeO.ite ?_ ?_)
   | (with_reducible refine LeO.bind ?_ (fun _ => ?_))
theorem layout_turned.mono : ∀ a0 a1 a2 k, LeO (layout_turned.f k a0 a1 a2) (layout_turned.f (k + 1) a0 a1 a2) := by
 intro a0 a1 a2 k
 obtain ⟨ih0, ih1, ih2⟩ := layout_turned.mono_l k
 unfold layout_turned.f
 repeat' first
   | (with_reducible exact ih0 _ _ _ _ _ _ _)
   | (with_reducible exact ih1 _ _ _ _ _ _)
   | (with_reducible exact ih2 _ _ _ _ _ _ _)
   | (with_reducible exact LeO.refl _)
   | (with_reducible exact LeO.none _)
   | (with_reducible refine LeO.ite ?_ ?_)
   | (with_reducible refine LeO.bind ?_ (fun _ => ?_))
set_option maxHeartbeats 8000000 in
set_option maxRecDepth 100000 in
theorem layout_turned.calls (k : Nat) (P0_0_ : Nat → Prop) (u9000_ : Value) (l0_0 : List Int) (P0_1_ : Nat → Prop) (A0_1 : Option Addr) (c0_1 : Nat) (l0_1 : List (S39)) (a1 : Int) (r1 : List Int) (r2 : List (S39)) (w0 w : World) (hB : Below w0.heap.size w0 w) (ho0_0 : Kd.R (Kd.int .i64) 3 w w0.heap.size P0_0_ u9000_ l0_0) (hs0_1 : Kd.V k39 39 w w0.heap.size (fun k_ => P0_1_ k_ ∧ some k_ ≠ (u9000_ : Value).ownBlock) (.slice A0_1 l0_1.length c0_1) l0_1) (h : layout_turned.f k l0_0 l0_1 a1 = some (r1, r2)) :
  Calls Try.prog 26 #[.agg #[u9000_, .slice A0_1 l0_1.length c0_1], .int .i64 a1] w fun e w' => ∃ v0_ v1_ : Value, e = .returned (.agg #[v0_, v1_]) ∧ Kd.R (Kd.int .i64) 3 w' w0.heap.size (fun k_ => (P0_0_ k_ ∨ w.heap.size ≤ k_)) v0_ r1 ∧ Kd.V k39 39 w' w0.heap.size (fun k_ => ((P0_0_ k_ ∨ P0_1_ k_) ∨ w.heap.size ≤ k_) ∧ some k_ ≠ (v0_ : Value).ownBlock) v1_ r2 ∧ Below w0.heap.size w0 w' ∧ Kept w w' (fun k_ => P0_0_ k_) := by
 have hu25 := Try.underlying25
 have HO0_0 := gA (show Kd.R (Kd.int .i64) 3 w w0.heap.size (fun k_ => (P0_0_ k_ ∨ w.heap.size ≤ k_)) u9000_ l0_0 from Kd.R_mono ho0_0 (fun k_ hk => (.inl hk)))
 have HO0_1 := gA (show Kd.V k39 39 w w0.heap.size (fun k_ => ((P0_0_ k_ ∨ P0_1_ k_) ∨ w.heap.size ≤ k_) ∧ some k_ ≠ (u9000_ : Value).ownBlock) (.slice A0_1 l0_1.length c0_1) l0_1 from Kd.V_mono hs0_1 (fun k_ hk => ⟨.inl (.inr hk.1), hk.2⟩))
 have HK := gA (Kept.refl w (fun k_ => P0_0_ k_))
 have HW0 := gA hB.size
 have HB := gA hB
 clear hB
 have H : (if (l0_0.length : Int) = 0 then (some (l0_0, l0_1)) else (if 0 ≤ (wrap64 (a1 + 1)) then (if (wrap64 (a1 + 1)) ≤ (l0_0.length : Int) then ((some (l0_0.drop ((wrap64 (a1 + 1)) : Int).toNat : List Int)).bind fun y201 => (layout_turned.l0 k a1 1 y201 (y201.length : Int) 0 l0_0 l0_1)) else (none)) else (none))) = some (r1, r2) := h
 clear h
 by_cases c3 : (l0_0.length : Int) = 0
 ·rw [if_pos c3] at H
  have c3b0 : ((l0_0.length : Int) == 0) = true := beq_iff_eq.mpr c3
  have c3b1 : ((l0_0.length : Int) != 0) = false := bne_eq_false_iff_eq.mpr c3
  clear c3
  simp only [Option.some.injEq, Prod.mk.injEq] at H
  obtain ⟨rfl, rfl⟩ := H
  obtain ⟨Ao4, co4, eo4⟩ := Kd.R_slice HO0_0.out
  subst eo4
  go_enter Try.func26, Try.ntmps26
  go_wp2_with (first | ((with_reducible refine gate_dst (N := 2) rfl ?_); refine box_event ?hg (N := 2) ?hd (cs := #[.slice Ao4 l0_0.length co4, .slice A0_1 l0_1.length c0_1]) (t := 25) ?hr ?_; (case hd => rfl); (case hg => rfl); (case hr => first | (go_simp; done) | (go_simp; rfl)); intro gb199 hg w5 hbox hb; replace HO0_0 := gA (Kd.R_below (gR HO0_0) hb); replace HO0_1 := gA (Kd.V_below (Kd.V_elderB (gV HO0_1) gb199 (Nat.le_of_eq hg.symm)) hb); have BK199 := gA (hbox); have GW199 := gA ((by rw [hg]; exact (by first | exact HK.out.1 | exact (show Kept w _ (fun k_ => P0_0_ k_) from by repeat (first | (with_reducible first | exact HK.out | apply Kept.alloc | apply Kept.drewN | apply Kept.drew) | exact HK.out)).1) : w.heap.size ≤ gb199)); replace HK := gA (Kept.below (S := (fun k_ => P0_0_ k_)) (by repeat (first | (with_reducible first | exact HK.out | apply Kept.alloc | apply Kept.drewN | apply Kept.drew) | exact HK.out)) hb); have GE199 := gA ((by rw [hg]; exact (below_size (gB HB)) : w0.heap.size ≤ gb199)); replace HB := gA (below_step (gB HB) hb); clear hb hbox hg) | ((with_reducible refine gate_dst (N := 4) rfl ?_); refine box_event ?hg (N := 4) ?hd (cs := #[.slice none 0 0, .slice none 0 0]) (t := 25) ?hr ?_; (case hd => rfl); (case hg => rfl); (case hr => first | (go_simp; done) | (go_simp; rfl)); intro gb200 hg w6 hbox hb; replace HO0_0 := gA (Kd.R_below (gR HO0_0) hb); replace HO0_1 := gA (Kd.V_below (Kd.V_elderB (gV HO0_1) gb200 (Nat.le_of_eq hg.symm)) hb); have BK200 := gA (hbox); have GW200 := gA ((by rw [hg]; exact (by first | exact HK.out.1 | exact (show Kept w _ (fun k_ => P0_0_ k_) from by repeat (first | (with_reducible first | exact HK.out | apply Kept.alloc | apply Kept.drewN | apply Kept.drew | refine Kept.setCell ?_ (.inr GW199.out) _) | exact HK.out)).1) : w.heap.size ≤ gb200)); replace HK := gA (Kept.below (S := (fun k_ => P0_0_ k_)) (by repeat (first | (with_reducible first | exact HK.out | apply Kept.alloc | apply Kept.drewN | apply Kept.drew | refine Kept.setCell ?_ (.inr GW199.out) _) | exact HK.out)) hb); have GE200 := gA ((by rw [hg]; exact (below_size (gB HB)) : w0.heap.size ≤ gb200)); replace HB := gA (below_step (gB HB) hb); have NB199_200 := gA ((by rw [hg]; exact Nat.ne_of_lt (blk_lt (gK BK199)) : gb199 ≠ gb200)); have NB200_199 := gA ((by rw [hg]; exact Nat.ne_of_gt (blk_lt (gK BK199)) : gb200 ≠ gb199)); replace BK199 := gA (blk_below (gK BK199) hb); clear hb hbox hg; have hnb7 := NB199_200.out; have hnc7 := NB200_199.out; obtain ⟨hcz8_0, hcz8_1, hfz8_0, hfz8_1⟩ := gz2 BK199; obtain ⟨hcz9_0, hcz9_1, hfz9_0, hfz9_1⟩ := gz2 BK200))
  refine bodyPost_ret (results_cell_row rfl _ _ gb200 25 #[.slice Ao4 l0_0.length co4, .slice A0_1 l0_1.length c0_1] (0, 0) _ rfl (by refine blk_put (cs := #[.slice Ao4 l0_0.length co4, .slice none 0 0]) ?_ 1 _ rfl; refine blk_put (cs := #[.slice none 0 0, .slice none 0 0]) ?_ 0 _ rfl; exact gK BK200) Try.underlying25 rfl (by kernel_rfl)) rfl ?_
  exact ⟨_, _, rfl, Kd.R_mono (Kd.R_far (p := ⟨gb200, 1, none⟩) (Kd.R_far (p := ⟨gb200, 0, none⟩) (Kd.R_types HO0_0.out BK200.out (by decide)) (fun _ hk => hk.2) (.slice Ao4 l0_0.length co4)) (fun _ hk => hk.2) (.slice A0_1 l0_1.length c0_1)) (fun _ hk => hk.1), Kd.V_mono (Kd.V_far (p := ⟨gb200, 1, none⟩) (Kd.V_far (p := ⟨gb200, 0, none⟩) (Kd.V_mono HO0_1.out (fun k_ hk => (⟨hk, hk.2⟩ : _ ∧ k_ ≠ gb200))) (fun _ hk => hk.2) (.slice Ao4 l0_0.length co4)) (fun _ hk => hk.2) (.slice A0_1 l0_1.length c0_1)) (fun _ hk => by first | exact ⟨hk.1.1.1.1, hk.1.1.1.2⟩ | (simp_all; done)), by repeat first | exact gB HB | refine below_set ?_ GE199.out | refine below_set ?_ GE200.out, by repeat (first | (with_reducible first | exact HK.out | apply Kept.alloc | apply Kept.drewN | apply Kept.drew | refine Kept.setCell ?_ (.inr GW199.out) _ | refine Kept.setCell ?_ (.inr GW200.out) _) | exact HK.out)⟩
 ·rw [if_neg c3] at H
  have c3b0 : ((l0_0.length : Int) == 0) = false := beq_eq_false_iff_ne.mpr c3
  have c3b1 : ((l0_0.length : Int) != 0) = true := bne_iff_ne.mpr c3
  have c3b2 : ¬ (l0_0 = []) := fun h_ => c3 (by rw [h_]; rfl)
  obtain ⟨ji10, hji10⟩ : ∃ j_ : Int, (wrap64 (a1 + 1)) = j_ := ⟨_, rfl⟩
  replace H : (if 0 ≤ (ji10) then (if (ji10) ≤ (l0_0.length : Int) then ((some (l0_0.drop ((ji10) : Int).toNat : List Int)).bind fun y201 => (layout_turned.l0 k a1 1 y201 (y201.length : Int) 0 l0_0 l0_1)) else (none)) else (none)) = some (r1, r2) := by first | (rw [hji10] at H; exact H) | (simp only [hji10] at H ⊢; exact H)
  have hji10w : (IntKind.i64.wrap (a1 + 1)) = ji10 := (i64_w _).trans hji10
  obtain ⟨c11, H⟩ := iS H
  have c11b0 := eq_true c11
  have c11b1 := decide_eq_true c11
  clear c11
  obtain ⟨c12, H⟩ := iS H
  have c12b0 := eq_true c12
  have c12b1 := decide_eq_true c12
  clear c12
  obtain ⟨y201, hy201⟩ : ∃ y_ : List Int, y_ = (l0_0.drop ((ji10) : Int).toNat) := ⟨_, rfl⟩
  replace H : (layout_turned.l0 k a1 1 y201 (y201.length : Int) 0 l0_0 l0_1) = some (r1, r2) := by first | (rw [hy201]; with_reducible exact H) | (have H2_ := (Option.bind_some _ _).symm.trans H; rw [hy201]; with_reducible exact H2_) | (have H2_ := (Option.bind_some _ _).symm.trans H; with_reducible exact H2_) | with_reducible exact H | (rw [hy201]; exact H) | exact H
  have Ny201 := gA hy201
  clear hy201
  have H' := gA H
  clear H
  obtain ⟨Ao13, co13, eo13⟩ := Kd.R_slice HO0_0.out
  subst eo13
  go_enter Try.func26, Try.ntmps26
  go_wp2_with (first | ((with_reducible refine gate_dst (N := 2) rfl ?_); refine box_event ?hg (N := 2) ?hd (cs := #[.slice Ao13 l0_0.length co13, .slice A0_1 l0_1.length c0_1]) (t := 25) ?hr ?_; (case hd => rfl); (case hg => rfl); (case hr => first | (go_simp; done) | (go_simp; rfl)); intro gb199 hg w14 hbox hb; replace HO0_0 := gA (Kd.R_below (gR HO0_0) hb); replace HO0_1 := gA (Kd.V_below (Kd.V_elderB (gV HO0_1) gb199 (Nat.le_of_eq hg.symm)) hb); have BK199 := gA (hbox); have GW199 := gA ((by rw [hg]; exact (by first | exact HK.out.1 | exact (show Kept w _ (fun k_ => P0_0_ k_) from by repeat (first | (with_reducible first | exact HK.out | apply Kept.alloc | apply Kept.drewN | apply Kept.drew) | exact HK.out)).1) : w.heap.size ≤ gb199)); replace HK := gA (Kept.below (S := (fun k_ => P0_0_ k_)) (by repeat (first | (with_reducible first | exact HK.out | apply Kept.alloc | apply Kept.drewN | apply Kept.drew) | exact HK.out)) hb); have GE199 := gA ((by rw [hg]; exact (below_size (gB HB)) : w0.heap.size ≤ gb199)); replace HB := gA (below_step (gB HB) hb); clear hb hbox hg) | ((with_reducible refine gate_dst (N := 4) rfl ?_); refine box_event ?hg (N := 4) ?hd (cs := #[.slice none 0 0, .slice none 0 0]) (t := 25) ?hr ?_; (case hd => rfl); (case hg => rfl); (case hr => first | (go_simp; done) | (go_simp; rfl)); intro gb200 hg w15 hbox hb; replace HO0_0 := gA (Kd.R_below (gR HO0_0) hb); replace HO0_1 := gA (Kd.V_below (Kd.V_elderB (gV HO0_1) gb200 (Nat.le_of_eq hg.symm)) hb); have BK200 := gA (hbox); have GW200 := gA ((by rw [hg]; exact (by first | exact HK.out.1 | exact (show Kept w _ (fun k_ => P0_0_ k_) from by repeat (first | (with_reducible first | exact HK.out | apply Kept.alloc | apply Kept.drewN | apply Kept.drew | refine Kept.setCell ?_ (.inr GW199.out) _) | exact HK.out)).1) : w.heap.size ≤ gb200)); replace HK := gA (Kept.below (S := (fun k_ => P0_0_ k_)) (by repeat (first | (with_reducible first | exact HK.out | apply Kept.alloc | apply Kept.drewN | apply Kept.drew | refine Kept.setCell ?_ (.inr GW199.out) _) | exact HK.out)) hb); have GE200 := gA ((by rw [hg]; exact (below_size (gB HB)) : w0.heap.size ≤ gb200)); replace HB := gA (below_step (gB HB) hb); have NB199_200 := gA ((by rw [hg]; exact Nat.ne_of_lt (blk_lt (gK BK199)) : gb199 ≠ gb200)); have NB200_199 := gA ((by rw [hg]; exact Nat.ne_of_gt (blk_lt (gK BK199)) : gb200 ≠ gb199)); replace BK199 := gA (blk_below (gK BK199) hb); clear hb hbox hg; have hnb16 := NB199_200.out; have hnc16 := NB200_199.out; obtain ⟨hcz17_0, hcz17_1, hfz17_0, hfz17_1⟩ := gz2 BK199; have q18 : ((ji10) : Int) ≤ ((l0_0.length : Int) : Int) := of_decide_eq_true (by assumption); obtain ⟨i018, hi018, _, hsz18, _⟩ := info_parts info3; have hroom18 : l0_0.length ≤ co13 := (Kd.R_reads' HO0_0.out).2.1; have hC18 : Kd.F (Kd.int .i64) _ _ Ao13 l0_0.length l0_0 := (Kd.V_at (base := w0.heap.size) (Kd.V_mono (ok' := (fun k_ => ((((P0_0_ k_ ∨ P0_1_ k_) ∨ w.heap.size ≤ k_) ∧ k_ ≠ gb199) ∧ k_ ≠ gb200))) (Kd.R_V (Kd.R_types (Kd.R_types (HO0_0.out) BK199.out (by decide)) BK200.out (by decide))) (fun k_ hk => ⟨⟨(Or.imp_left (fun h_ => (.inl h_)) (hk.1.1)), hk.1.2⟩, hk.2⟩))).2.2; have q018 : (0 : Int) ≤ ((ji10) : Int) := of_decide_eq_true (by assumption); have hcut18 := cut_from (P := Try.prog) 22 3 .i64 Try.underlying22 hi018 1 hsz18 Ao13 l0_0.length co13 (ji10) q018 q18; have hr18 := Kd.F_cut (m := ((ji10) : Int).toNat) (c := co13) hC18 (by omega) hroom18; obtain ⟨A18, hA18⟩ : ∃ A1, A1 = (if co13 = ((ji10) : Int).toNat then Ao13 else (Ao13 : Option Addr).map (·.add (((ji10) : Int).toNat * 1))) := ⟨_, rfl⟩; obtain ⟨c18, hc18⟩ : ∃ c1, c1 = co13 - ((ji10) : Int).toNat := ⟨_, rfl⟩; have hy18 : y201.length = l0_0.length - ((ji10) : Int).toNat := (by rw [Ny201.out, List.length_drop] <;> omega); rw [show (l0_0).drop ((ji10) : Int).toNat = y201 from Ny201.out.symm] at hr18; replace hr18 : Kd.F (Kd.int .i64) _ _ A18 y201.length y201 := (by rw [hA18]; exact hr18); rw [← hy18, ← hA18, ← hc18] at hcut18; have HO205 := gA (show Kd.V (Kd.int .i64) 3 _ w0.heap.size _ (.slice A18 y201.length c18) y201 from Kd.V_mk (by rw [hy18, hc18]; exact Nat.sub_le_sub_right hroom18 _) hr18); have HC205 := gA (show y201.length ≤ c18 from by rw [hy18, hc18]; exact Nat.sub_le_sub_right hroom18 _); clear hr18 hC18 hroom18 hi018 hsz18 hc18; have KY18 := gA hy18; have KA18 := gA hA18; clear hy18 hA18; replace q18 := eq_true q18))
  go_loopg [5, 23] k (fun kq v5 v23 w' => ∃ (x5_1 : Int) (x23_1 : Int), v5 = .int .i64 x5_1 ∧ v23 = .int .i64 x23_1 ∧ Aside0 (layout_turned.l0 kq a1 x5_1 y201 (y201.length : Int) x23_1 l0_0 l0_1 = some (r1, r2)) ∧ Aside0 (kq ≤ k) ∧ Aside0 (Kd.V (Kd.int .i64) 3 w' w0.heap.size (fun k_ => ((P0_0_ k_ ∨ P0_1_ k_) ∨ w.heap.size ≤ k_) ∧ k_ ≠ gb199 ∧ k_ ≠ gb200) (.slice A18 y201.length c18) y201) ∧ Aside0 (Kd.R (Kd.int .i64) 3 w' w0.heap.size (fun k_ => (P0_0_ k_ ∨ w.heap.size ≤ k_)) (.slice Ao13 l0_0.length co13) l0_0) ∧ Aside0 (Kd.V k39 39 w' w0.heap.size (fun k_ => ((P0_0_ k_ ∨ P0_1_ k_) ∨ w.heap.size ≤ k_) ∧ some k_ ≠ ((.slice Ao13 l0_0.length co13) : Value).ownBlock ∧ k_ ≠ gb199 ∧ k_ ≠ gb200) (.slice A0_1 l0_1.length c0_1) l0_1) ∧ Aside0 (w'.heap[gb199]? = some (.cells #[(.slice Ao13 l0_0.length co13), (.slice A0_1 l0_1.length c0_1)] 25 (0, 0))) ∧ Aside0 (w'.heap[gb200]? = some (.cells #[(.slice none 0 0), (.slice none 0 0)] 25 (0, 0))) ∧ Aside0 (Kept w w' (fun k_ => P0_0_ k_)) ∧ Aside0 (Below w0.heap.size w0 w'))
  case atStart => exact ⟨(1), (0), (rfl), (rfl), H', ⟨Nat.le_refl _⟩, ⟨Kd.V_mono HO205.out (fun _ hk => ⟨hk.1.1, ⟨hk.1.2, hk.2⟩⟩)⟩, ⟨gR HO0_0⟩, ⟨Kd.V_mono HO0_1.out (fun _ hk => by first | exact ⟨hk.1.1.1, ⟨hk.1.1.2, ⟨hk.1.2, hk.2⟩⟩⟩ | (simp_all; done))⟩, ⟨gK BK199⟩, ⟨gK BK200⟩, ⟨by repeat (first | (with_reducible first | exact HK.out | apply Kept.alloc | apply Kept.drewN | apply Kept.drew | refine Kept.setCell ?_ (.inr GW199.out) _ | refine Kept.setCell ?_ (.inr GW200.out) _) | exact HK.out)⟩, ⟨by repeat first | exact gB HB | refine below_set ?_ GE199.out | refine below_set ?_ GE200.out⟩⟩
  case round =>
   clear H'
   try clear c1
   try clear q1
   try clear c2
   try clear p2
   try clear c3
   try clear c3b0
   try clear c3b1
   try clear c3b2
   try clear p6
   try clear c7
   try clear c11
   try clear c11b0
   try clear c11b1
   try clear c12
   try clear c12b0
   try clear c12b1
   try clear c16
   try clear c18
   try clear q18
   try clear hcz17_0
   try clear hcz17_1
   try clear hcz8_0
   try clear hcz8_1
   try clear hcz9_0
   try clear hcz9_1
   try clear hfz17_0
   try clear hfz17_1
   try clear hfz8_0
   try clear hfz8_1
   try clear hfz9_0
   try clear hfz9_1
   try clear q018
   try clear q18
   obtain ⟨x5_1, x23_1, rfl, rfl, HA, HK1, HO_21, HO_200000, HO_200001, BK199, BK200, HK, HB⟩ := hrel
   cases gk with
   | zero => exact absurd HA.out (by simp [layout_turned.l0])
   | succ k1 =>
    have H := HA.out; clear HA
    simp only [layout_turned.l0] at H
    by_cases c19 : x23_1 < (y201.length : Int)
    ·rw [if_pos c19] at H
     have c19b0 := decide_eq_true c19
     clear c19
     obtain ⟨c20, H⟩ := iS H
     have c20b0 := decide_eq_true c20
     clear c20
     obtain ⟨c21, H⟩ := iS H
     have c21b0 := decide_eq_true c21
     clear c21
     have H' := gA H
     clear H
     have p206 : 0 ≤ (x23_1 : Int) := of_decide_eq_true (by assumption)
     have q206 : x23_1 < (y201.length : Int) := of_decide_eq_true (by assumption)
     obtain ⟨ad206, e206, hx206_0⟩ := Kd.at_int (Kd.V_reads' HO_21.out).2.2 x23_1 p206 q206
     cases e206
     replace p206 := eq_true p206
     replace q206 := eq_true q206
     go_wp2
     go_roundg k1
     case measure => have := HK1.out; omega
     case rel => exact ⟨(wrap64 (x5_1 * (rd y201 x23_1))), (wrap64 (x23_1 + 1)), (rfl), (rfl), H', ⟨by have := HK1.out; omega⟩, ⟨gV HO_21⟩, ⟨gR HO_200000⟩, ⟨gV HO_200001⟩, ⟨gK BK199⟩, ⟨gK BK200⟩, ⟨by repeat (first | (with_reducible first | exact HK.out | apply Kept.alloc | apply Kept.drewN | apply Kept.drew | refine Kept.setCell ?_ (.inr GW199.out) _ | refine Kept.setCell ?_ (.inr GW200.out) _) | exact HK.out)⟩, ⟨by repeat first | exact gB HB | refine below_set ?_ GE199.out | refine below_set ?_ GE200.out⟩⟩
    ·rw [if_neg c19] at H
     have c19b0 := decide_eq_false c19
     clear c19
     obtain ⟨c22, H⟩ := iS H
     have c22b0 := decide_eq_true c22
     clear c22
     obtain ⟨c23, H⟩ := iS H
     have c23b0 := decide_eq_true c23
     clear c23
     have H' := gA H
     clear H
     have hnb24 := NB199_200.out
     have hnc24 := NB200_199.out
     obtain ⟨hcz25_0, hcz25_1, hfz25_0, hfz25_1⟩ := gz2 BK199
     have p207 : 0 ≤ (a1 : Int) := of_decide_eq_true (by assumption)
     have q207 : a1 < (l0_0.length : Int) := of_decide_eq_true (by assumption)
     obtain ⟨ad207, e207, hx207_0⟩ := Kd.at_int (Kd.R_reads' HO_200000.out).2.2 a1 p207 q207
     cases e207
     replace p207 := eq_true p207
     replace q207 := eq_true q207
     go_wp2
     go_loopg [9, 10] k1 (fun kq v9 v10 w' => ∃ (x9_2 : List (S39)) (x10_2 : Int), v10 = .int .i64 x10_2 ∧ Aside0 (layout_turned.l1 kq x5_1 (rd l0_0 a1) x9_2 x10_2 l0_0 l0_1 = some (r1, r2)) ∧ Aside0 (kq ≤ k1) ∧ Aside0 (Kd.N k39 39 w' w.heap.size (fun k_ => ((P0_0_ k_ ∨ P0_1_ k_) ∨ w.heap.size ≤ k_) ∧ some k_ ≠ ((.slice (some ad207) l0_0.length co13) : Value).ownBlock ∧ k_ ≠ gb199 ∧ k_ ≠ gb200) v9 x9_2) ∧ Aside0 (Kd.R (Kd.int .i64) 3 w' w0.heap.size (fun k_ => (P0_0_ k_ ∨ w.heap.size ≤ k_)) (.slice (some ad207) l0_0.length co13) l0_0) ∧ Aside0 (Kd.V k39 39 w' w0.heap.size (fun k_ => ((P0_0_ k_ ∨ P0_1_ k_) ∨ w.heap.size ≤ k_) ∧ some k_ ≠ (v9 : Value).ownBlock ∧ some k_ ≠ ((.slice (some ad207) l0_0.length co13) : Value).ownBlock ∧ k_ ≠ gb199 ∧ k_ ≠ gb200) (.slice A0_1 l0_1.length c0_1) l0_1) ∧ Aside0 (w'.heap[gb199]? = some (.cells #[(.slice (some ad207) l0_0.length co13), (.slice A0_1 l0_1.length c0_1)] 25 (0, 0))) ∧ Aside0 (w'.heap[gb200]? = some (.cells #[(.slice none 0 0), (.slice none 0 0)] 25 (0, 0))) ∧ Aside0 (Kept w w' (fun k_ => P0_0_ k_)) ∧ Aside0 (Below w0.heap.size w0 w'))
     case atStart => exact ⟨(([] : List (S39))), (0), (rfl), H', ⟨Nat.le_refl _⟩, ⟨by first | exact Kd.R_nil _ _ _ _ _ | exact Kd.N_nil _ _ _ _ _ | exact Kd.V_nil _ _ _ _ _ | exact Kd.Q_nil _ _ _ _ _ | exact Kd.S_nil _ _ _ _ _⟩, ⟨gR HO_200000⟩, ⟨Kd.V_mono HO_200001.out (fun _ hk => ⟨hk.1, ⟨(by simp [Value.ownBlock]), ⟨hk.2.1, ⟨hk.2.2.1, hk.2.2.2⟩⟩⟩⟩)⟩, ⟨gK BK199⟩, ⟨gK BK200⟩, ⟨by repeat (first | (with_reducible first | exact HK.out | apply Kept.alloc | apply Kept.drewN | apply Kept.drew | refine Kept.setCell ?_ (.inr GW199.out) _ | refine Kept.setCell ?_ (.inr GW200.out) _) | exact HK.out)⟩, ⟨by repeat first | exact gB HB | refine below_set ?_ GE199.out | refine below_set ?_ GE200.out⟩⟩
     case round =>
      clear H'
      try clear c1
      try clear q1
      try clear c2
      try clear p2
      try clear q2
      try clear hx2
      try clear c3
      try clear c3b0
      try clear c3b1
      try clear c3b2
      try clear p6
      try clear c7
      try clear c11
      try clear c11b0
      try clear c11b1
      try clear c12
      try clear c12b0
      try clear c12b1
      try clear c16
      try clear c18
      try clear q18
      try clear c19
      try clear c19b0
      try clear c20
      try clear c20b0
      try clear p20
      try clear q20
      try clear hx20
      try clear c21
      try clear c21b0
      try clear c22
      try clear c22b0
      try clear c23
      try clear c23b0
      try clear c24
      try clear hcz17_0
      try clear hcz17_1
      try clear hcz25_0
      try clear hcz25_1
      try clear hcz8_0
      try clear hcz8_1
      try clear hcz9_0
      try clear hcz9_1
      try clear hfz17_0
      try clear hfz17_1
      try clear hfz25_0
      try clear hfz25_1
      try clear hfz8_0
      try clear hfz8_1
      try clear hfz9_0
      try clear hfz9_1
      try clear hx206_0
      try clear hx207_0
      try clear p2
      try clear p206
      try clear p207
      try clear p6
      try clear q018
      try clear q1
      try clear q18
      try clear q206
      try clear q207
      obtain ⟨x9_2, x10_2, rfl, HA, HK2, HO_9, HO_200000, HO_200001, BK199, BK200, HK, HB⟩ := hrel
      cases gk with
      | zero => exact absurd HA.out (by simp [layout_turned.l1])
      | succ k2 =>
       have H := HA.out; clear HA
       simp only [layout_turned.l1] at H
       by_cases c26 : x10_2 < (l0_1.length : Int)
       ·rw [if_pos c26] at H
        have c26b0 := decide_eq_true c26
        clear c26
        have H' := gA H
        clear H
        have hnb27 := NB199_200.out
        have hnc27 := NB200_199.out
        obtain ⟨hcz28_0, hcz28_1, hfz28_0, hfz28_1⟩ := gz2 BK199
        go_wp2
        go_loopg [9, 11] k2 (fun kq v9 v11 w' => ∃ (x9_3 : List (S39)) (x11_3 : Int), v11 = .int .i64 x11_3 ∧ Aside0 (layout_turned.l2 kq x5_1 (rd l0_0 a1) x9_3 x10_2 x11_3 l0_0 l0_1 = some (r1, r2)) ∧ Aside0 (kq ≤ k2) ∧ Aside0 (Kd.N k39 39 w' w.heap.size (fun k_ => ((P0_0_ k_ ∨ P0_1_ k_) ∨ w.heap.size ≤ k_) ∧ some k_ ≠ ((.slice (some ad207) l0_0.length co13) : Value).ownBlock ∧ k_ ≠ gb199 ∧ k_ ≠ gb200) v9 x9_3) ∧ Aside0 (Kd.R (Kd.int .i64) 3 w' w0.heap.size (fun k_ => (P0_0_ k_ ∨ w.heap.size ≤ k_)) (.slice (some ad207) l0_0.length co13) l0_0) ∧ Aside0 (Kd.V k39 39 w' w0.heap.size (fun k_ => ((P0_0_ k_ ∨ P0_1_ k_) ∨ w.heap.size ≤ k_) ∧ some k_ ≠ (v9 : Value).ownBlock ∧ some k_ ≠ ((.slice (some ad207) l0_0.length co13) : Value).ownBlock ∧ k_ ≠ gb199 ∧ k_ ≠ gb200) (.slice A0_1 l0_1.length c0_1) l0_1) ∧ Aside0 (w'.heap[gb199]? = some (.cells #[(.slice (some ad207) l0_0.length co13), (.slice A0_1 l0_1.length c0_1)] 25 (0, 0))) ∧ Aside0 (w'.heap[gb200]? = some (.cells #[(.slice none 0 0), (.slice none 0 0)] 25 (0, 0))) ∧ Aside0 (Kept w w' (fun k_ => P0_0_ k_)) ∧ Aside0 (Below w0.heap.size w0 w'))
        case atStart => exact ⟨(x9_2), (wrap64 ((rd l0_0 a1) - 1)), (rfl), H', ⟨Nat.le_refl _⟩, ⟨gN HO_9⟩, ⟨gR HO_200000⟩, ⟨gV HO_200001⟩, ⟨gK BK199⟩, ⟨gK BK200⟩, ⟨by repeat (first | (with_reducible first | exact HK.out | apply Kept.alloc | apply Kept.drewN | apply Kept.drew | refine Kept.setCell ?_ (.inr GW199.out) _ | refine Kept.setCell ?_ (.inr GW200.out) _) | exact HK.out)⟩, ⟨by repeat first | exact gB HB | refine below_set ?_ GE199.out | refine below_set ?_ GE200.out⟩⟩
        case round =>
         clear H'
         try clear c1
         try clear q1
         try clear c2
         try clear p2
         try clear q2
         try clear hx2
         try clear c3
         try clear c3b0
         try clear c3b1
         try clear c3b2
         try clear p6
         try clear c7
         try clear c11
         try clear c11b0
         try clear c11b1
         try clear c12
         try clear c12b0
         try clear c12b1
         try clear c16
         try clear c18
         try clear q18
         try clear c19
         try clear c19b0
         try clear c20
         try clear c20b0
         try clear p20
         try clear q20
         try clear hx20
         try clear c21
         try clear c21b0
         try clear c22
         try clear c22b0
         try clear c23
         try clear c23b0
         try clear c24
         try clear c26
         try clear c26b0
         try clear c27
         try clear hcz17_0
         try clear hcz17_1
         try clear hcz25_0
         try clear hcz25_1
         try clear hcz28_0
         try clear hcz28_1
         try clear hcz8_0
         try clear hcz8_1
         try clear hcz9_0
         try clear hcz9_1
         try clear hfz17_0
         try clear hfz17_1
         try clear hfz25_0
         try clear hfz25_1
         try clear hfz28_0
         try clear hfz28_1
         try clear hfz8_0
         try clear hfz8_1
         try clear hfz9_0
         try clear hfz9_1
         try clear hx206_0
         try clear hx207_0
         try clear p2
         try clear p20
         try clear p206
         try clear p207
         try clear p6
         try clear q018
         try clear q1
         try clear q18
         try clear q2
         try clear q20
         try clear q206
         try clear q207
         obtain ⟨x9_3, x11_3, rfl, HA, HK3, HO_9, HO_200000, HO_200001, BK199, BK200, HK, HB⟩ := hrel
         cases gk with
         | zero => exact absurd HA.out (by simp [layout_turned.l2])
         | succ k3 =>
          have H := HA.out; clear HA
          simp only [layout_turned.l2] at H
          by_cases c29 : x11_3 ≥ 0
          ·rw [if_pos c29] at H
           have c29b0 : decide (0 ≤ x11_3) = true := decide_eq_true c29
           clear c29
           obtain ⟨ji30, hji30⟩ : ∃ j_ : Int, (wrap64 (x10_2 + (wrap64 (x11_3 * x5_1)))) = j_ := ⟨_, rfl⟩
           replace H : (if 0 ≤ (ji30) then (if (ji30) ≤ (wrap64 (x10_2 + (wrap64 ((wrap64 (x11_3 + 1)) * x5_1)))) then (if (wrap64 (x10_2 + (wrap64 ((wrap64 (x11_3 + 1)) * x5_1)))) ≤ (l0_1.length : Int) then ((some ((l0_1.take ((wrap64 (x10_2 + (wrap64 ((wrap64 (x11_3 + 1)) * x5_1)))) : Int).toNat).drop ((ji30) : Int).toNat : List (S39))).bind fun y208 => (if x9_3.length + y208.length < 3518437208883 then (layout_turned.l2 k3 x5_1 (rd l0_0 a1) (x9_3 ++ y208) x10_2 (wrap64 (x11_3 - 1)) l0_0 l0_1) else (none))) else (none)) else (none)) else (none)) = some (r1, r2) := by first | (rw [hji30] at H; exact H) | (simp only [hji30] at H ⊢; exact H)
           have hji30w : (IntKind.i64.wrap (x10_2 + (wrap64 (x11_3 * x5_1)))) = ji30 := (i64_w _).trans hji30
           obtain ⟨c31, H⟩ := iS H
           have c31b0 := eq_true c31
           have c31b1 := decide_eq_true c31
           clear c31
           obtain ⟨c32, H⟩ := iS H
           have c32b0 := eq_true c32
           have c32b1 := decide_eq_true c32
           obtain ⟨c33, H⟩ := iS H
           have c33b0 := eq_true c33
           have c33b1 := decide_eq_true c33
           obtain ⟨y208, hy208⟩ : ∃ y_ : List (S39), y_ = ((l0_1.take ((wrap64 (x10_2 + (wrap64 ((wrap64 (x11_3 + 1)) * x5_1)))) : Int).toNat).drop ((ji30) : Int).toNat) := ⟨_, rfl⟩
           replace H : (if x9_3.length + y208.length < 3518437208883 then (layout_turned.l2 k3 x5_1 (rd l0_0 a1) (x9_3 ++ y208) x10_2 (wrap64 (x11_3 - 1)) l0_0 l0_1) else (none)) = some (r1, r2) := by first | (rw [hy208]; with_reducible exact H) | (have H2_ := (Option.bind_some _ _).symm.trans H; rw [hy208]; with_reducible exact H2_) | (have H2_ := (Option.bind_some _ _).symm.trans H; with_reducible exact H2_) | with_reducible exact H | (rw [hy208]; exact H) | exact H
           have Ny208 := gA hy208
           clear hy208
           obtain ⟨c34, H⟩ := iS H
           have LMc34 := gA c34
           clear c34
           obtain ⟨y213, hy213⟩ : ∃ y_ : List (S39), y_ = (x9_3 ++ y208) := ⟨_, rfl⟩
           replace H : (layout_turned.l2 k3 x5_1 (rd l0_0 a1) y213 x10_2 (wrap64 (x11_3 - 1)) l0_0 l0_1) = some (r1, r2) := by first | (rw [hy213]; with_reducible exact H) | (have H2_ := (Option.bind_some _ _).symm.trans H; rw [hy213]; with_reducible exact H2_) | (have H2_ := (Option.bind_some _ _).symm.trans H; with_reducible exact H2_) | with_reducible exact H | (rw [hy213]; exact H) | exact H
           have Ny213 := gA hy213
           clear hy213
           have H' := gA H
           clear H
           have hnb35 := NB199_200.out
           have hnc35 := NB200_199.out
           obtain ⟨hcz36_0, hcz36_1, hfz36_0, hfz36_1⟩ := gz2 BK199
           have q37 : ((wrap64 (x10_2 + (wrap64 ((wrap64 (x11_3 + 1)) * x5_1)))) : Int) ≤ ((l0_1.length : Int) : Int) := of_decide_eq_true (by assumption)
           obtain ⟨i037, hi037, _, hsz37, _⟩ := info_parts info39
           have hroom37 : l0_1.length ≤ c0_1 := (Kd.V_reads' HO_200001.out).2.1
           have hC37 : Kd.F k39 _ _ A0_1 l0_1.length l0_1 := (Kd.V_at (base := w0.heap.size) HO_200001.out).2.2
           have ql37 : ((ji30) : Int) ≤ ((wrap64 (x10_2 + (wrap64 ((wrap64 (x11_3 + 1)) * x5_1)))) : Int) := of_decide_eq_true (by assumption)
           have q037 : (0 : Int) ≤ ((ji30) : Int) := of_decide_eq_true (by assumption)
           have hcut37 := cut_mid (P := Try.prog) 23 39 .i64 .i64 Try.underlying23 hi037 3 hsz37 A0_1 l0_1.length c0_1 (ji30) (wrap64 (x10_2 + (wrap64 ((wrap64 (x11_3 + 1)) * x5_1)))) q037 ql37 q37 hroom37
           have hr37 := Kd.F_mid (lo := ((ji30) : Int).toNat) (hi := ((wrap64 (x10_2 + (wrap64 ((wrap64 (x11_3 + 1)) * x5_1)))) : Int).toNat) (c := c0_1) hC37 (by omega) (by omega) hroom37
           obtain ⟨A37, hA37⟩ : ∃ A1, A1 = (if c0_1 = ((ji30) : Int).toNat then A0_1 else (A0_1 : Option Addr).map (·.add (((ji30) : Int).toNat * 3))) := ⟨_, rfl⟩
           obtain ⟨c37, hc37⟩ : ∃ c1, c1 = c0_1 - ((ji30) : Int).toNat := ⟨_, rfl⟩
           have hy37 : y208.length = ((wrap64 (x10_2 + (wrap64 ((wrap64 (x11_3 + 1)) * x5_1)))) : Int).toNat - ((ji30) : Int).toNat := (by rw [Ny208.out, List.length_drop, List.length_take] <;> omega)
           rw [show ((l0_1).take ((wrap64 (x10_2 + (wrap64 ((wrap64 (x11_3 + 1)) * x5_1)))) : Int).toNat).drop ((ji30) : Int).toNat = y208 from Ny208.out.symm] at hr37
           replace hr37 : Kd.F k39 _ _ A37 y208.length y208 := (by rw [hA37]; exact hr37)
           rw [← hy37, ← hA37, ← hc37] at hcut37
           have HO212 := gA (show Kd.V k39 39 _ w0.heap.size _ (.slice A37 y208.length c37) y208 from Kd.V_mk (by rw [hy37, hc37]; exact Nat.sub_le_sub_right (Nat.le_trans (by omega) hroom37) _) hr37)
           have HC212 := gA (show y208.length ≤ c37 from by rw [hy37, hc37]; exact Nat.sub_le_sub_right (Nat.le_trans (by omega) hroom37) _)
           clear hr37 hC37 hroom37 hi037 hsz37 hc37
           have KY37 := gA hy37
           have KA37 := gA hA37
           clear hy37 hA37
           replace q37 := eq_true q37
           go_wp2_with (first | ((with_reducible refine gate_builtin (b := .append) (xs := #[.tmp 52, .tmp 66]) rfl ?_); at_builtin; refine Kd.N_append_rows k39 w.heap.size rfl (.tmp 52) (.tmp 66) 23 39 (.agg #[(.int .i64 0), (.int .i64 0), (.slice none 0 0)]) 40 rfl Try.underlying23 info39 rfl (by decide) (by omega) u9 x9_3 y208 _ _ _ (fun k_ => ((P0_0_ k_ ∨ P0_1_ k_) ∨ w.heap.size ≤ k_) ∧ some k_ ≠ (.slice (some ad207) l0_0.length co13 : Value).ownBlock ∧ k_ ≠ gb199 ∧ k_ ≠ gb200) (fun k_ => ((fun k_ => ((P0_0_ k_ ∨ P0_1_ k_) ∨ w.heap.size ≤ k_) ∧ some k_ ≠ (.slice (some ad207) l0_0.length co13 : Value).ownBlock ∧ k_ ≠ gb199 ∧ k_ ≠ gb200)) k_ ∧ some k_ ≠ (u9 : Value).ownBlock) rfl rfl ?aO ?aR (fun _ hk => hk) ?aF (Below.refl _ _) ?aS ?aL ?_; (case aR => exact (by skip; exact Kd.V_F (Kd.V_mono (ok' := (fun k_ => ((fun k_ => ((P0_0_ k_ ∨ P0_1_ k_) ∨ w.heap.size ≤ k_) ∧ some k_ ≠ (.slice (some ad207) l0_0.length co13 : Value).ownBlock ∧ k_ ≠ gb199 ∧ k_ ≠ gb200)) k_ ∧ some k_ ≠ (u9 : Value).ownBlock)) (HO212.out) (fun k_ hk => ⟨⟨hk.1, ⟨hk.2.2.1, ⟨hk.2.2.2.1, hk.2.2.2.2⟩⟩⟩, hk.2.1⟩)))); (case aF => exact (fun k_ hk => ⟨(.inr (Nat.le_trans (by first | exact HK.out.1 | exact (show Kept w _ (fun k_ => P0_0_ k_) from by repeat (first | (with_reducible first | exact HK.out | apply Kept.alloc | apply Kept.drewN | apply Kept.drew | refine Kept.setCell ?_ (.inr GW199.out) _ | refine Kept.setCell ?_ (.inr GW200.out) _) | exact HK.out)).1) hk)), Kd.fresh' (Kd.R_lt (gR HO_200000)) k_ hk, Kd.freshB (gK BK199) k_ hk, Kd.freshB (gK BK200) k_ hk⟩)); (case aO => exact (gN HO_9)); (case aS => exact (by first | exact HK.out.1 | exact (show Kept w _ (fun k_ => P0_0_ k_) from by repeat (first | (with_reducible first | exact HK.out | apply Kept.alloc | apply Kept.drewN | apply Kept.drew | refine Kept.setCell ?_ (.inr GW199.out) _ | refine Kept.setCell ?_ (.inr GW200.out) _) | exact HK.out)).1)); (case aL => have := LMc34.out; omega); intro v214 w38 ho hb hg hat; rw [← Ny213.out] at ho; replace HO_200000 := gA (Kd.R_over' (gR HO_200000) (Kd.N_typed (gN HO_9)) (by decide) hg); replace HO_200001 := gA (Kd.V_afterv (ok := (fun k_ => ((P0_0_ k_ ∨ P0_1_ k_) ∨ w.heap.size ≤ k_) ∧ some k_ ≠ (.slice (some ad207) l0_0.length co13 : Value).ownBlock ∧ k_ ≠ gb199 ∧ k_ ≠ gb200)) (Kd.V_mono HO_200001.out (fun _ hk => ⟨⟨hk.1, ⟨hk.2.2.1, ⟨hk.2.2.2.1, hk.2.2.2.2⟩⟩⟩, hk.2.1⟩)) hg hat); replace BK199 := gA (blk_grown (gK BK199) hg (Kd.N_ne HO_9.out BK199.out (by decide))); replace BK200 := gA (blk_grown (gK BK200) hg (Kd.N_ne HO_9.out BK200.out (by decide))); replace HO212 := gA (Kd.V_afterv (ok := (fun k_ => ((P0_0_ k_ ∨ P0_1_ k_) ∨ w.heap.size ≤ k_) ∧ some k_ ≠ (.slice (some ad207) l0_0.length co13 : Value).ownBlock ∧ k_ ≠ gb199 ∧ k_ ≠ gb200)) (Kd.V_mono HO212.out (fun _ hk => ⟨⟨hk.1, ⟨hk.2.2.1, ⟨hk.2.2.2.1, hk.2.2.2.2⟩⟩⟩, hk.2.1⟩)) hg hat); replace HB := gA (below_weaken (gB HB) HW0.out hb); replace HK := gA (Kept.of_grown (S := (fun k_ => P0_0_ k_)) hg (by repeat (first | (with_reducible first | exact HK.out | apply Kept.alloc | apply Kept.drewN | apply Kept.drew | refine Kept.setCell ?_ (.inr GW199.out) _ | refine Kept.setCell ?_ (.inr GW200.out) _) | exact HK.out)) (fun k_ e_ => .inr (Kd.N_base HO_9.out k_ e_))); have HO215 := gA (ho); clear HO_9 ho hb hg hat))
           go_roundg k3
           case measure => have := HK1.out; have := HK2.out; have := HK3.out; omega
           case rel => exact ⟨(y213), (wrap64 (x11_3 - 1)), (rfl), H', ⟨by have := HK1.out; have := HK2.out; have := HK3.out; omega⟩, ⟨gN HO215⟩, ⟨gR HO_200000⟩, ⟨Kd.V_mono HO_200001.out (fun _ hk => ⟨hk.1.1, ⟨hk.2, ⟨hk.1.2.1, ⟨hk.1.2.2.1, hk.1.2.2.2⟩⟩⟩⟩)⟩, ⟨gK BK199⟩, ⟨gK BK200⟩, ⟨by repeat (first | (with_reducible first | exact HK.out | apply Kept.alloc | apply Kept.drewN | apply Kept.drew | refine Kept.setCell ?_ (.inr GW199.out) _ | refine Kept.setCell ?_ (.inr GW200.out) _) | exact HK.out)⟩, ⟨gB HB⟩⟩
          ·rw [if_neg c29] at H
           have c29b0 : decide (0 ≤ x11_3) = false := decide_eq_false c29
           clear c29
           have H' := gA H
           clear H
           go_wp2
           go_roundg k3
           case measure => have := HK1.out; have := HK2.out; have := HK3.out; omega
           case rel => exact ⟨(x9_3), (wrap64 (x10_2 + (wrap64 ((rd l0_0 a1) * x5_1)))), (rfl), H', ⟨by have := HK1.out; have := HK2.out; have := HK3.out; omega⟩, ⟨gN HO_9⟩, ⟨gR HO_200000⟩, ⟨gV HO_200001⟩, ⟨gK BK199⟩, ⟨gK BK200⟩, ⟨by repeat (first | (with_reducible first | exact HK.out | apply Kept.alloc | apply Kept.drewN | apply Kept.drew | refine Kept.setCell ?_ (.inr GW199.out) _ | refine Kept.setCell ?_ (.inr GW200.out) _) | exact HK.out)⟩, ⟨gB HB⟩⟩
       ·rw [if_neg c26] at H
        have c26b0 := decide_eq_false c26
        clear c26
        simp only [Option.some.injEq, Prod.mk.injEq] at H
        obtain ⟨rfl, rfl⟩ := H
        have hnb39 := NB199_200.out
        have hnc39 := NB200_199.out
        obtain ⟨hcz40_0, hcz40_1, hfz40_0, hfz40_1⟩ := gz2 BK199
        obtain ⟨Ao41, co41, eo41⟩ := Kd.N_slice HO_9.out
        subst eo41
        obtain ⟨hcz42_0, hcz42_1, hfz42_0, hfz42_1⟩ := gz2 BK200
        go_wp2
        refine bodyPost_ret (results_cell_row rfl _ _ gb200 25 #[.slice (some ad207) l0_0.length co13, .slice Ao41 x9_2.length co41] (0, 0) _ rfl (by refine blk_put (cs := #[.slice (some ad207) l0_0.length co13, .slice none 0 0]) ?_ 1 _ rfl; refine blk_put (cs := #[.slice none 0 0, .slice none 0 0]) ?_ 0 _ rfl; exact gK BK200) Try.underlying25 rfl (by kernel_rfl)) rfl ?_
        exact ⟨_, _, by first | rfl | (simp [errW_none, errW_some] <;> rfl) | (simp only [← hji10]; first | rfl | (simp [errW_none, errW_some] <;> rfl)) | (simp [*, errW_none, errW_some] <;> rfl), Kd.R_mono (Kd.R_far (p := ⟨gb200, 1, none⟩) (Kd.R_far (p := ⟨gb200, 0, none⟩) (Kd.R_types HO_200000.out BK200.out (by decide)) (fun _ hk => hk.2) (.slice (some ad207) l0_0.length co13)) (fun _ hk => hk.2) (.slice Ao41 x9_2.length co41)) (fun _ hk => hk.1), Kd.N_V (Kd.N_mono (Kd.N_far (p := ⟨gb200, 1, none⟩) (Kd.N_far (p := ⟨gb200, 0, none⟩) (Kd.N_mono HO_9.out (fun k_ hk => (⟨hk, hk.2.2.2⟩ : _ ∧ k_ ≠ gb200))) (fun _ hk => hk.2) (.slice (some ad207) l0_0.length co13)) (fun _ hk => hk.2) (.slice Ao41 x9_2.length co41)) (fun _ hk => ⟨hk.1.1, hk.1.2.1⟩)), by repeat first | exact gB HB | refine below_set ?_ GE199.out | refine below_set ?_ GE200.out, by repeat (first | (with_reducible first | exact HK.out | apply Kept.alloc | apply Kept.drewN | apply Kept.drew | refine Kept.setCell ?_ (.inr GW199.out) _ | refine Kept.setCell ?_ (.inr GW200.out) _) | exact HK.out)⟩
def slices_Clone_int_int.f (l0 : List Int) : Option (List Int) := if l0.length < 17592186044416 then some l0 else none
theorem slices_Clone_int_int.calls (A0 : Option Addr) (c0 : Nat) (l0 : List Int) (r : List Int) (w : World) (hr0 : Kd.C (Kd.int .i64) w A0 l0.length l0) (hc0 : l0.length ≤ c0) (h : slices_Clone_int_int.f l0 = some r) :
  Calls Try.prog 45 #[.slice A0 l0.length c0] w fun e w' => ∃ v0_ : Value, e = .returned (v0_) ∧ Kd.R (Kd.int .i64) 3 w' w.heap.size (fun _ => True) v0_ r ∧ Below w.heap.size w w' := by
 unfold slices_Clone_int_int.f at h
 by_cases hl : l0.length < 17592186044416
 ·rw [if_pos hl] at h
  obtain rfl := Option.some.inj h
  have HL := Aside0.mk hl
  have HR := Aside0.mk hr0
  have HC := Aside0.mk hc0
  clear hl h hr0 hc0
  cases A0 with
  | none =>
   obtain rfl : l0 = [] := by
    rcases Nat.eq_zero_or_pos l0.length with hz | hz
    ·exact List.eq_nil_of_length_eq_zero hz
    ·obtain ⟨ad, ha, _⟩ := HR.out.2.2 hz
     cases ha
   show Calls Try.prog 45 #[.slice none 0 c0] w _
   have hb : ∀ W : World, Sem.run Try.prog (binOp BinOp.eql 22 (.slice none 0 c0) (.slice none 0 0)) W = Result.ok (Value.bool true) W := fun _ => rfl
   go_enter Try.func45, Try.ntmps45
   go_wp2
   go_ret
   exact ⟨_, rfl, Kd.R_nil _ _ _ _ _, Below.refl _ _⟩
  | some ad =>
   have hb : ∀ W : World, Sem.run Try.prog (binOp BinOp.eql 22 (.slice (some ad) l0.length c0) (.slice none 0 0)) W = Result.ok (Value.bool false) W := fun _ => rfl
   go_enter Try.func45, Try.ntmps45
   go_wp2_with (first | ((with_reducible refine gate_dst (N := 5) rfl ?_); refine Kd.R_lit (Kd.int .i64) (w0 := w) w.heap.size 3 rfl (N := 5) rfl (xs := []) (inner := []) (ok := fun _ => True) (okp := fun _ => False) (by first | (go_simp; done) | (go_simp; rfl)) (Reps.none _ _) (fun _ h => h.elim) trivial (Below.refl _ _) (Nat.le_refl _) (by decide) ?_; intro v1 w1 ho hb1 hg hat; have HO := Aside0.mk ho; have HB := Aside0.mk hb1; clear ho hb1 hg hat) | ((with_reducible refine gate_builtin (b := .append) (xs := #[.tmp 5, .tmp 6]) rfl ?_); at_builtin; refine Kd.R_append_rows (Kd.int .i64) (w0 := w) w.heap.size rfl (.tmp 5) (.tmp 6) 22 3 (.int .i64 0) 8 rfl Try.underlying22 info3 rfl (by decide) (by omega) v1 ([] : List Int) l0 _ _ _ (fun _ => True) (fun _ => False) rfl rfl HO.out (Kd.C_below HR.out HB.out) (fun _ _ h => h) (fun _ h => h.elim) (fun _ _ => trivial) HB.out HB.out.size (by have := HL.out; simp; omega) ?_; intro v2 w2 ho hb2 hg hat; rw [List.nil_append] at ho; have HO2 := Aside0.mk ho; have HB2 := Aside0.mk hb2; clear ho hb2 hg hat))
   go_ret
   exact ⟨_, rfl, HO2.out, HB2.out⟩
 ·rw [if_neg hl] at h
  cases h
def slices_Reverse_int_int.l0 : Nat → List Int → Int → Int → Option (List Int)
 | 0, _, _, _ => none
 | k + 1, x0, x2, x3 => if x2 < x3 then (if 0 ≤ x3 then (if x3 < (x0.length : Int) then (if 0 ≤ x2 then (if x2 < (x0.length : Int) then (slices_Reverse_int_int.l0 k ((x0.set (x2 : Int).toNat (rd x0 x3)).set (x3 : Int).toNat (rd x0 x2)) (wrap64 (x2 + 1)) (wrap64 (x3 - 1))) else (none)) else (none)) else (none)) else (none)) else (some x0)
def slices_Reverse_int_int.f (k : Nat) (l0 : List Int) : Option (List Int) := slices_Reverse_int_int.l0 k l0 0 (wrap64 ((l0.length : Int) - 1))
theorem slices_Reverse_int_int.mono_l : ∀ k, (∀ y0 y1 y2, LeO (slices_Reverse_int_int.l0 k y0 y1 y2) (slices_Reverse_int_int.l0 (k + 1) y0 y1 y2))
 | 0 => fun _ _ _ r h => by simp [slices_Reverse_int_int.l0] at h
 | k + 1 => by
  have ih0 := slices_Reverse_int_int.mono_l k
  ·intro y0 y1 y2
   unfold slices_Reverse_int_int.l0
   repeat' first
   | (with_reducible exact ih0 _ _ _)
   | (with_reducible exact LeO.refl _)
   | (with_reducible exact LeO.none _)
   | (with_reducible refine LeO.ite ?_ ?_)
   | (with_reducible refine LeO.bind ?_ (fun _ => ?_))
theorem slices_Reverse_int_int.mono : ∀ a0 k, LeO (slices_Reverse_int_int.f k a0) (slices_Reverse_int_int.f (k + 1) a0) := by
 intro a0 k
 have ih0 := slices_Reverse_int_int.mono_l k
 unfold slices_Reverse_int_int.f
 repeat' first
   | (with_reducible exact ih0 _ _ _)
   | (with_reducible exact LeO.refl _)
   | (with_reducible exact LeO.none _)
   | (with_reducible refine LeO.ite ?_ ?_)
   | (with_reducible refine LeO.bind ?_ (fun _ => ?_))
def slices_Reverse_int_int.T3 : Bool × List (List Nat × List Nat) := (true, [([], []), ([], []), ([], []), ([], []), ([], []), ([], []), ([4, 5], [4, 5]), ([6], [6]), ([], []), ([], []), ([8, 9], [8, 9]), ([10], [10]), ([0, 1, 0, 1, 4, 5, 6, 7, 11], [0, 1]), ([12, 7, 0, 1, 4, 5, 6, 7, 11], [7, 12]), ([2, 3, 0, 1, 2, 3, 4, 5, 6, 7, 8, 9, 10, 11, 12, 13], [2, 3]), ([14, 11, 13, 0, 1, 2, 3, 4, 5, 6, 7, 8, 9, 10, 11, 12, 13], [11, 14])])
def slices_Reverse_int_int.B3 : List Nat := [0, 0, 0, 0, 0, 0, 48, 112, 0, 0, 768, 1792, 4083, 8179, 16383, 32767]
theorem slices_Reverse_int_int.tab3 : rtab .any (opsOf Try.f46 3) = slices_Reverse_int_int.T3 := by kernel_rfl
theorem slices_Reverse_int_int.bits3 : waitsOk slices_Reverse_int_int.T3.2 slices_Reverse_int_int.B3 = true := by kernel_rfl
set_option maxHeartbeats 8000000 in
set_option maxRecDepth 100000 in
theorem slices_Reverse_int_int.calls (k : Nat) (P0_ : Nat → Prop) (u9000_ : Value) (l0 : List Int) (r : List Int) (w0 w : World) (hB : Below w0.heap.size w0 w) (ho0 : Kd.R (Kd.int .i64) 3 w w0.heap.size P0_ u9000_ l0) (h : slices_Reverse_int_int.f k l0 = some r) :
  Calls Try.prog 46 #[u9000_] w fun e w' => e = .returned (.tuple #[]) ∧ Kd.R (Kd.int .i64) 3 w' w0.heap.size (fun k_ => (P0_ k_ ∨ w.heap.size ≤ k_)) u9000_ r ∧ Below w0.heap.size w0 w' ∧ Kept w w' (fun k_ => P0_ k_) := by
 have HO0 := gA (show Kd.R (Kd.int .i64) 3 w w0.heap.size (fun k_ => (P0_ k_ ∨ w.heap.size ≤ k_)) u9000_ l0 from Kd.R_mono ho0 (fun k_ hk => (.inl hk)))
 have HK := gA (Kept.refl w (fun k_ => P0_ k_))
 have HW0 := gA hB.size
 have HB := gA hB
 clear hB
 have H : (slices_Reverse_int_int.l0 k l0 0 (wrap64 ((l0.length : Int) - 1))) = some r := h
 clear h
 have H' := gA H
 clear H
 obtain ⟨Ao2, co2, eo2⟩ := Kd.R_slice HO0.out
 subst eo2
 go_enter Try.func46, Try.ntmps46
 go_wp2
 go_loopg [2, 3] k (fun kq v2 v3 w' => ∃ (x0_1 : List Int) (x2_1 : Int) (x3_1 : Int), v2 = .int .i64 x2_1 ∧ v3 = .int .i64 x3_1 ∧ Aside0 (slices_Reverse_int_int.l0 kq x0_1 x2_1 x3_1 = some r) ∧ Aside0 (kq ≤ k) ∧ Aside0 (Kd.R (Kd.int .i64) 3 w' w0.heap.size (fun k_ => (P0_ k_ ∨ w.heap.size ≤ k_)) (.slice Ao2 l0.length co2) x0_1) ∧ Aside0 (Kept w w' (fun k_ => P0_ k_)) ∧ Aside0 (Below w0.heap.size w0 w'))
 case atStart => exact ⟨(l0), (0), (wrap64 ((l0.length : Int) - 1)), (rfl), (rfl), H', ⟨Nat.le_refl _⟩, ⟨gR HO0⟩, ⟨by repeat (first | (with_reducible first | exact HK.out | apply Kept.alloc | apply Kept.drewN | apply Kept.drew) | exact HK.out)⟩, ⟨gB HB⟩⟩
 case round =>
  clear H'
  try clear p2
  obtain ⟨x0_1, x2_1, x3_1, rfl, rfl, HA, HK1, HO_0, HK, HB⟩ := hrel
  have hl0_1 := (Kd.R_reads' HO_0.out).1
  rw [hl0_1] at HO_0
  (try simp only [hl0_1])
  cases gk with
  | zero => exact absurd HA.out (by simp [slices_Reverse_int_int.l0])
  | succ k1 =>
   have H := HA.out; clear HA
   simp only [slices_Reverse_int_int.l0] at H
   by_cases c3 : x2_1 < x3_1
   ·rw [if_pos c3] at H
    have c3b0 := decide_eq_true c3
    clear c3
    obtain ⟨c4, H⟩ := iS H
    have c4b0 := decide_eq_true c4
    clear c4
    obtain ⟨c5, H⟩ := iS H
    have c5b0 := decide_eq_true c5
    clear c5
    obtain ⟨c6, H⟩ := iS H
    have c6b0 := decide_eq_true c6
    clear c6
    obtain ⟨c7, H⟩ := iS H
    have c7b0 := decide_eq_true c7
    clear c7
    obtain ⟨y218, hy218⟩ : ∃ y_ : List Int, y_ = (x0_1.set (x2_1 : Int).toNat (rd x0_1 x3_1)) := ⟨_, rfl⟩
    replace H : (slices_Reverse_int_int.l0 k1 (y218.set (x3_1 : Int).toNat (rd x0_1 x2_1)) (wrap64 (x2_1 + 1)) (wrap64 (x3_1 - 1))) = some r := by first | (rw [hy218]; with_reducible exact H) | (have H2_ := (Option.bind_some _ _).symm.trans H; rw [hy218]; with_reducible exact H2_) | (have H2_ := (Option.bind_some _ _).symm.trans H; with_reducible exact H2_) | with_reducible exact H | (rw [hy218]; exact H) | exact H
    have Ny218 := gA hy218
    clear hy218
    obtain ⟨y219, hy219⟩ : ∃ y_ : List Int, y_ = (y218.set (x3_1 : Int).toNat (rd x0_1 x2_1)) := ⟨_, rfl⟩
    replace H : (slices_Reverse_int_int.l0 k1 y219 (wrap64 (x2_1 + 1)) (wrap64 (x3_1 - 1))) = some r := by first | (rw [hy219]; with_reducible exact H) | (have H2_ := (Option.bind_some _ _).symm.trans H; rw [hy219]; with_reducible exact H2_) | (have H2_ := (Option.bind_some _ _).symm.trans H; with_reducible exact H2_) | with_reducible exact H | (rw [hy219]; exact H) | exact H
    have Ny219 := gA hy219
    clear hy219
    have H' := gA H
    clear H
    try go_wp2
    replace HO_0 := gA (Kd.R_drew HO_0.out); replace HK := gA (Kept.drew HK.out); replace HB := gA (below_drew1 HB.out)
    have p216 : 0 ≤ (x3_1 : Int) := of_decide_eq_true (by assumption)
    have q216 : x3_1 < (x0_1.length : Int) := of_decide_eq_true (by assumption)
    obtain ⟨ad216, e216, hx216_0⟩ := Kd.at_int (Kd.R_reads' HO_0.out).2.2 x3_1 p216 q216
    cases e216
    replace p216 := eq_true p216
    replace q216 := eq_true q216
    have p217 : 0 ≤ (x2_1 : Int) := of_decide_eq_true (by assumption)
    have q217 : x2_1 < (x0_1.length : Int) := of_decide_eq_true (by assumption)
    obtain ⟨ad217, e217, hx217_0⟩ := Kd.at_int (Kd.R_reads' HO_0.out).2.2 x2_1 p217 q217
    obtain rfl : ad216 = ad217 := (by injection e217)
    replace p217 := eq_true p217
    replace q217 := eq_true q217
    have p8 : 0 ≤ (x2_1 : Int) := of_decide_eq_true (by assumption)
    have q8 : (x2_1 : Int) < ((x0_1.length : Int) : Int) := of_decide_eq_true (by assumption)
    obtain ⟨go8, co8, eo8, gb8, gl8, cl8, HG8⟩ := Kd.R_form HO_0.out (by omega)
    (first | cases eo8 | (injection eo8 with ea_ en_ ec_; (first | subst ea_ | (injection ea_ with ea_; subst ea_)); subst ec_; clear en_))
    have GB8 := gA gb8
    have GG8 := gA HG8
    clear gb8 gl8 HG8
    have HMgo8 := gA (show (P0_ go8 ∨ w.heap.size ≤ go8) from (HO_0.out.1 _ rfl))
    (first | simp only [add_plain] at hx216_0 | skip)
    (first | simp only [add_plain] at hx217_0 | skip)
    obtain ⟨hx8_0, hf8_0⟩ := Kd.R_celln 0 HO_0.out (x2_1 : Int) p8 q8
    replace p8 := eq_true p8
    replace q8 := eq_true q8
    have HP11 := Kd.R_putn HO_0.out (x2_1 : Int) (rd x0_1 x3_1)
    rw [← Ny218.out] at HP11
    have HQ11 := gA HP11
    clear HP11
    have p9 : 0 ≤ (x3_1 : Int) := of_decide_eq_true (by assumption)
    have q9 : (x3_1 : Int) < ((x0_1.length : Int) : Int) := of_decide_eq_true (by assumption)
    obtain ⟨hx9_0, hf9_0⟩ := Kd.R_celln 0 HQ11.out (x3_1 : Int) p9 q9
    replace p9 := eq_true p9
    replace q9 := eq_true q9
    have HP12 := Kd.R_putn HQ11.out (x3_1 : Int) (rd x0_1 x2_1)
    rw [← Ny219.out] at HP12
    have HQ12 := gA HP12
    clear HP12
    refine start_ (n := 16) (S := fun w' => w'.cell? ⟨go8, (x3_1).toNat, none⟩ = some (.int .i64 (rd x0_1 x3_1)) ∧ w'.cell? ⟨go8, (x2_1).toNat, none⟩ = some (.int .i64 (rd x0_1 x2_1))) (ds := [13, 15]) #[false, false, false, false, false, false, false, false, false, false, false, false, false, false, false, false] (by kernel_rfl) rfl rfl ⟨hx216_0, hx217_0⟩ (fun hHeld => ?_); refine with_tabW slices_Reverse_int_int.tab3 slices_Reverse_int_int.bits3 (fun HT_ HW_ => ?_)
    generalize wr.drew = w10 at HO_0 HK HB GG8 HQ11 HQ12 hf8_0 hf9_0 hx216_0 hx217_0 hx8_0 hx9_0 hHeld ⊢
    refine pure_ (i := 0) (N := some 14) (v := ?_) (a' := ?_) #[true, false, false, false, false, false, false, false, false, false, false, false, false, false, false, false] rfl rfl (any_of HT_.out (by kernel_rfl)) (fun _ _ _ h => h) (Or.inl ⟨by rfl, ?_⟩) ?_ ?_; rotate_left
    ·intro w'; go_simp; with_reducible rfl
    rotate_left
    ·simp only [Act.put, List.setIfInBounds_toArray, List.set_cons_zero, List.set_cons_succ, i64_w, i32_w]; rfl
    refine pure_ (i := 1) (N := some 15) (v := ?_) (a' := ?_) #[true, true, false, false, false, false, false, false, false, false, false, false, false, false, false, false] rfl rfl (any_of HT_.out (by kernel_rfl)) (fun _ _ _ h => h) (Or.inl ⟨by rfl, ?_⟩) ?_ ?_; rotate_left
    ·intro w'; go_simp; with_reducible rfl
    rotate_left
    ·simp only [Act.put, List.setIfInBounds_toArray, List.set_cons_zero, List.set_cons_succ, i64_w, i32_w]; rfl
    refine pure_ (i := 2) (N := some 16) (v := ?_) (a' := ?_) #[true, true, true, false, false, false, false, false, false, false, false, false, false, false, false, false] rfl rfl (any_of HT_.out (by kernel_rfl)) (fun _ _ _ h => h) (Or.inl ⟨by rfl, ?_⟩) ?_ ?_; rotate_left
    ·intro w'; go_simp; with_reducible rfl
    rotate_left
    ·simp only [Act.put, List.setIfInBounds_toArray, List.set_cons_zero, List.set_cons_succ, i64_w, i32_w]; rfl
    refine pure_ (i := 3) (N := some 17) (v := ?_) (a' := ?_) #[true, true, true, true, false, false, false, false, false, false, false, false, false, false, false, false] rfl rfl (any_of HT_.out (by kernel_rfl)) (fun _ _ _ h => h) (Or.inl ⟨by rfl, ?_⟩) ?_ ?_; rotate_left
    ·intro w'; go_simp; with_reducible rfl
    rotate_left
    ·simp only [Act.put, List.setIfInBounds_toArray, List.set_cons_zero, List.set_cons_succ, i64_w, i32_w]; rfl
    refine pure_ (i := 4) (N := some 18) (v := ?_) (a' := ?_) #[true, true, true, true, true, false, false, false, false, false, false, false, false, false, false, false] rfl rfl (any_of HT_.out (by kernel_rfl)) (fun _ _ _ h => h) (Or.inl ⟨by rfl, ?_⟩) ?_ ?_; rotate_left
    ·intro w'; go_simp; with_reducible rfl
    rotate_left
    ·simp only [Act.put, List.setIfInBounds_toArray, List.set_cons_zero, List.set_cons_succ, i64_w, i32_w]; rfl
    refine pure_ (i := 5) (N := some 19) (v := ?_) (a' := ?_) #[true, true, true, true, true, true, false, false, false, false, false, false, false, false, false, false] rfl rfl (any_of HT_.out (by kernel_rfl)) (fun _ _ _ h => h) (Or.inl ⟨by rfl, ?_⟩) ?_ ?_; rotate_left
    ·intro w'; go_simp; with_reducible rfl
    rotate_left
    ·simp only [Act.put, List.setIfInBounds_toArray, List.set_cons_zero, List.set_cons_succ, i64_w, i32_w]; rfl
    refine pure_ (i := 6) (N := some 20) (v := ?_) (a' := ?_) #[true, true, true, true, true, true, true, false, false, false, false, false, false, false, false, false] rfl rfl (any_of HT_.out (by kernel_rfl)) (fun _ _ _ h => h) (Or.inl ⟨by rfl, ?_⟩) ?_ ?_; rotate_left
    ·intro w'; go_simp; with_reducible rfl
    rotate_left
    ·simp only [Act.put, List.setIfInBounds_toArray, List.set_cons_zero, List.set_cons_succ, i64_w, i32_w]; rfl
    refine pure_ (i := 8) (N := some 22) (v := ?_) (a' := ?_) #[true, true, true, true, true, true, true, false, true, false, false, false, false, false, false, false] rfl rfl (any_of HT_.out (by kernel_rfl)) (fun _ _ _ h => h) (Or.inl ⟨by rfl, ?_⟩) ?_ ?_; rotate_left
    ·intro w'; go_simp; with_reducible rfl
    rotate_left
    ·simp only [Act.put, List.setIfInBounds_toArray, List.set_cons_zero, List.set_cons_succ, i64_w, i32_w]; rfl
    refine pure_ (i := 9) (N := some 23) (v := ?_) (a' := ?_) #[true, true, true, true, true, true, true, false, true, true, false, false, false, false, false, false] rfl rfl (any_of HT_.out (by kernel_rfl)) (fun _ _ _ h => h) (Or.inl ⟨by rfl, ?_⟩) ?_ ?_; rotate_left
    ·intro w'; go_simp; with_reducible rfl
    rotate_left
    ·simp only [Act.put, List.setIfInBounds_toArray, List.set_cons_zero, List.set_cons_succ, i64_w, i32_w]; rfl
    refine pure_ (i := 10) (N := some 24) (v := ?_) (a' := ?_) #[true, true, true, true, true, true, true, false, true, true, true, false, false, false, false, false] rfl rfl (any_of HT_.out (by kernel_rfl)) (fun _ _ _ h => h) (Or.inl ⟨by rfl, ?_⟩) ?_ ?_; rotate_left
    ·intro w'; go_simp; with_reducible rfl
    rotate_left
    ·simp only [Act.put, List.setIfInBounds_toArray, List.set_cons_zero, List.set_cons_succ, i64_w, i32_w]; rfl
    refine take_ (i := 7) (N := some 21) (v := ?_) (a' := ?_) #[true, true, true, true, true, true, true, true, true, true, true, false, false, false, false, false] rfl rfl (take_ofW HT_.out HW_.out (by kernel_rfl)) (fun _ _ _ h => h) (Or.inl ⟨by rfl, ?_⟩) hHeld ?_ ?_; rotate_left
    ·rintro w' ⟨s0, s1⟩; go_simp; with_reducible rfl
    rotate_left
    ·simp only [Act.put, List.setIfInBounds_toArray, List.set_cons_zero, List.set_cons_succ, i64_w, i32_w]; rfl
    refine take_ (i := 11) (N := some 25) (v := ?_) (a' := ?_) #[true, true, true, true, true, true, true, true, true, true, true, true, false, false, false, false] rfl rfl (take_ofW HT_.out HW_.out (by kernel_rfl)) (fun _ _ _ h => h) (Or.inl ⟨by rfl, ?_⟩) hHeld ?_ ?_; rotate_left
    ·rintro w' ⟨s0, s1⟩; go_simp; with_reducible rfl
    rotate_left
    ·simp only [Act.put, List.setIfInBounds_toArray, List.set_cons_zero, List.set_cons_succ, i64_w, i32_w]; rfl
    refine pure_ (i := 12) (N := some 26) (v := ?_) (a' := ?_) #[true, true, true, true, true, true, true, true, true, true, true, true, true, false, false, false] rfl rfl (any_of HT_.out (by kernel_rfl)) (fun _ _ _ h => h) (Or.inl ⟨by rfl, ?_⟩) ?_ ?_; rotate_left
    ·intro w'; go_simp; with_reducible rfl
    rotate_left
    ·simp only [Act.put, List.setIfInBounds_toArray, List.set_cons_zero, List.set_cons_succ, i64_w, i32_w]; rfl
    refine last_ (i := 13) (N := none) #[true, true, true, true, true, true, true, true, true, true, true, true, true, true, false, false] rfl rfl (one_of HT_.out (by kernel_rfl)) (by decide) (fun K hK => ?_)
    refine skip_ (w1 := ?_) (by rfl) rfl ?_ ?_; rotate_left
    ·go_simp; rfl
    refine hK.out _ _ ?_; clear hK K
    refine pure_ (i := 14) (N := some 27) (v := ?_) (a' := ?_) #[true, true, true, true, true, true, true, true, true, true, true, true, true, true, true, false] rfl rfl (any_of HT_.out (by kernel_rfl)) (fun _ _ _ h => h) (Or.inl ⟨by rfl, ?_⟩) ?_ ?_; rotate_left
    ·intro w'; go_simp; with_reducible rfl
    rotate_left
    ·simp only [Act.put, List.setIfInBounds_toArray, List.set_cons_zero, List.set_cons_succ, i64_w, i32_w]; rfl
    refine last_ (i := 15) (N := none) #[true, true, true, true, true, true, true, true, true, true, true, true, true, true, true, true] rfl rfl (one_of HT_.out (by kernel_rfl)) (by decide) (fun K hK => ?_)
    refine skip_ (w1 := ?_) (by rfl) rfl ?_ ?_; rotate_left
    ·go_simp; rfl
    refine hK.out _ _ ?_; clear hK K
    refine done_ (done_of HT_.out (by kernel_rfl)) ?_
    try go_wp2
    (try simp only [← hl0_1])
    go_roundg k1
    case measure => have := HK1.out; omega
    case rel => exact ⟨(y219), (wrap64 (x2_1 + 1)), (wrap64 (x3_1 - 1)), (rfl), (rfl), H', ⟨by have := HK1.out; omega⟩, ⟨by (try simp only [hl0_1]); (with_reducible repeat (first | apply Kd.R_alloc | apply Kd.R_drewN | apply Kd.R_drew)); exact HQ12.out⟩, ⟨by repeat (first | (with_reducible first | exact HK.out | apply Kept.alloc | apply Kept.drewN | apply Kept.drew | refine Kept.setCell ?_ HMgo8.out _ | refine Kept.setCell ?_ HMgo8.out _) | exact HK.out)⟩, ⟨by repeat first | exact gB HB | refine below_set ?_ GB8.out | refine below_set ?_ GB8.out⟩⟩
   ·rw [if_neg c3] at H
    have c3b0 := decide_eq_false c3
    clear c3
    obtain rfl := Option.some.inj H
    go_wp2
    first | go_end0 | ((try simp only [Exit.inBlock, Exit.then]); refine bodyPost_ret (results_none rfl _ _ _) rfl ?_)
    exact ⟨rfl, (by first | exact (gR HO_0) | (simp only [hl0_1]; exact (gR HO_0))), gB HB, by repeat (first | (with_reducible first | exact HK.out | apply Kept.alloc | apply Kept.drewN | apply Kept.drew) | exact HK.out)⟩
end Go.Proofs.Ytiegcghapchimaa.P
