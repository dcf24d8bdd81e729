/- Written by a program of this session: the functions that the laws reach, what each comes to, and each law as it is stated, for every input. No condition. -/
import Derived.Test.YtdihmempaonfjaaPx0
import Derived.Test.YtdihmempaonfjaaPx1
import Derived.Test.YtdihmempaonfjaaPx3
namespace Go.Proofs.Ytdihmempaonfjaa.P
open Go.RowKit Go.Proofs.YtdihmempaonfjaaW.PrintWords Go.Proofs.YtdihmempaonfjaaW.PrintLast Go.Proofs.YtdihmempaonfjaaW.PrintMore
attribute [local go_sem] max2_int min2_int max_two min_two max_three min_three max_four min_four   -- for this text's walks alone
set_option linter.unusedVariables false
set_option linter.unusedSimpArgs false
def pick_number.f (l0_0 : List Int) (l0_1 : List (S45)) : Option (Int × Int) := if (l0_0.length : Int) > 0 then (none) else (if 0 < (l0_1.length : Int) then (if ((rd_T45 l0_1 0).f0) = 0 then (some ((rd_T45 l0_1 0).f1, 0)) else (none)) else (none))
set_option maxHeartbeats 8000000 in
set_option maxRecDepth 100000 in
theorem pick_number.calls (A0_0 : Option Addr) (c0_0 : Nat) (l0_0 : List Int) (A0_1 : Option Addr) (c0_1 : Nat) (l0_1 : List (S45)) (r1 : Int) (r2 : Int) (w : World) (hr0_0 : Kd.C (Kd.int .i64) w A0_0 l0_0.length l0_0) (hc0_0 : l0_0.length ≤ c0_0) (hr0_1 : Kd.C k45 w A0_1 l0_1.length l0_1) (hc0_1 : l0_1.length ≤ c0_1) (h : pick_number.f l0_0 l0_1 = some (r1, r2)) :
  Calls Try.prog 24 #[.agg #[.slice A0_0 l0_0.length c0_0, .slice A0_1 l0_1.length c0_1]] w fun e w' => e = .returned (.tuple #[.int .i64 r1, .int .i64 r2]) ∧ Below w.heap.size w w' := by
 have hu25 := Try.underlying25
 have HR0_0 := gA hr0_0
 have HC0_0 := gA hc0_0
 clear hr0_0 hc0_0
 have HR0_1 := gA hr0_1
 have HC0_1 := gA hc0_1
 clear hr0_1 hc0_1
 have HB := gA (Below.refl w.heap.size w)
 have H : (if (l0_0.length : Int) > 0 then (none) else (if 0 < (l0_1.length : Int) then (if ((rd_T45 l0_1 0).f0) = 0 then (some ((rd_T45 l0_1 0).f1, 0)) else (none)) else (none))) = some (r1, r2) := h
 clear h
 obtain ⟨c2, H⟩ := iN H
 have c2b0 : decide (0 < (l0_0.length : Int)) = false := decide_eq_false c2
 have c2b1 : decide (0 < l0_0.length) = false := decide_eq_false (by omega)
 clear c2
 obtain ⟨c3, H⟩ := iS H
 have c3b0 := decide_eq_true c3
 have c3b1 : decide (0 < l0_1.length) = true := decide_eq_true (by omega)
 clear c3
 obtain ⟨c4, H⟩ := iS H
 have c4b0 : (((rd_T45 l0_1 0).f0) == 0) = true := beq_iff_eq.mpr c4
 have c4b1 : (((rd_T45 l0_1 0).f0) != 0) = false := bne_eq_false_iff_eq.mpr c4
 clear c4
 simp only [Option.some.injEq, Prod.mk.injEq] at H
 obtain ⟨rfl, rfl⟩ := H
 go_enter Try.func24, Try.ntmps24
 go_wp2_with (first | ((with_reducible refine gate_dst (N := 1) rfl ?_); refine box_event ?hg (N := 1) ?hd (cs := #[.slice A0_0 l0_0.length c0_0, .slice A0_1 l0_1.length c0_1]) (t := 25) ?hr ?_; (case hd => rfl); (case hg => rfl); (case hr => first | (go_simp; done) | (go_simp; rfl)); intro gb214 hg w5 hbox hb; have BK214 := gA (hbox); have GW214 := gA ((by rw [hg]; exact (below_size (gB HB)) : w.heap.size ≤ gb214)); have GE214 := gA ((by rw [hg]; exact (below_size (gB HB)) : w.heap.size ≤ gb214)); replace HB := gA (below_step (gB HB) hb); clear hb hbox hg; obtain ⟨hcz6_0, hcz6_1, hfz6_0, hfz6_1⟩ := gz2 BK214; have p215 : 0 ≤ (0 : Int) := (by omega); have q215 : 0 < (l0_1.length : Int) := of_decide_eq_true (by assumption); obtain ⟨ad215, A215_2, c215_2, e215, hx215_0, hx215_1, hx215_2, hl215_2, hi215_2⟩ := at_T45 HR0_1.out 0 p215 q215; cases e215; have qi215 : (0 < l0_1.length) = True := eq_true (by omega); (try rw [show ((0 : Int)).toNat = 0 from rfl] at hx215_0); (try rw [show 0 * 3 = 0 from rfl] at hx215_0); (try rw [Addr.add_zero'] at hx215_0); (try rw [show ((0 : Int)).toNat = 0 from rfl] at hx215_1); (try rw [show 0 * 3 = 0 from rfl] at hx215_1); (try rw [Addr.add_zero'] at hx215_1); (try rw [show ((0 : Int)).toNat = 0 from rfl] at hx215_2); (try rw [show 0 * 3 = 0 from rfl] at hx215_2); (try rw [Addr.add_zero'] at hx215_2); replace hx215_0 := (HB.out.cell (World.block_lt_of_cell? w _ hx215_0)).trans hx215_0; replace hx215_1 := (HB.out.cell (World.block_lt_of_cell? w _ hx215_1)).trans hx215_1; replace hx215_2 := (HB.out.cell (World.block_lt_of_cell? w _ hx215_2)).trans hx215_2; have HR215_2 := gA hi215_2; have HC215_2 := gA hl215_2; clear hi215_2 hl215_2; replace p215 := eq_true p215; replace q215 := eq_true q215; have p216 : 0 ≤ (0 : Int) := (by omega); have q216 : 0 < (l0_1.length : Int) := of_decide_eq_true (by assumption); obtain ⟨ad216, A216_2, c216_2, e216, hx216_0, hx216_1, hx216_2, hl216_2, hi216_2⟩ := at_T45 HR0_1.out 0 p216 q216; obtain rfl : ad215 = ad216 := (by injection e216); have qi216 : (0 < l0_1.length) = True := eq_true (by omega); (try rw [show ((0 : Int)).toNat = 0 from rfl] at hx216_0); (try rw [show 0 * 3 = 0 from rfl] at hx216_0); (try rw [Addr.add_zero'] at hx216_0); (try rw [show ((0 : Int)).toNat = 0 from rfl] at hx216_1); (try rw [show 0 * 3 = 0 from rfl] at hx216_1); (try rw [Addr.add_zero'] at hx216_1); (try rw [show ((0 : Int)).toNat = 0 from rfl] at hx216_2); (try rw [show 0 * 3 = 0 from rfl] at hx216_2); (try rw [Addr.add_zero'] at hx216_2); replace hx216_0 := (HB.out.cell (World.block_lt_of_cell? w _ hx216_0)).trans hx216_0; replace hx216_1 := (HB.out.cell (World.block_lt_of_cell? w _ hx216_1)).trans hx216_1; replace hx216_2 := (HB.out.cell (World.block_lt_of_cell? w _ hx216_2)).trans hx216_2; have HR216_2 := gA hi216_2; have HC216_2 := gA hl216_2; clear hi216_2 hl216_2; replace p216 := eq_true p216; replace q216 := eq_true q216; have ea_ := Option.some.inj (hx215_2.symm.trans hx216_2); injection ea_ with ea_ en_ ec_; subst ea_; subst ec_; clear en_))
 go_ret2
 exact ⟨rfl, by repeat first | exact gB HB | refine below_set ?_ GE214.out⟩
def pick_filler.f (l0_0 : List Int) (l0_1 : List (S45)) : Option (Int × Int × (List (S25)) × Int) := if (l0_1.length : Int) = 0 then (none) else (if 0 < (l0_1.length : Int) then (if ((rd_T45 l0_1 0).f0) = 0 then (some (0, 0, ([] : List (S25)), 0)) else (if ((rd_T45 l0_1 0).f0) = 1 then (none) else (none))) else (none))
set_option maxHeartbeats 8000000 in
set_option maxRecDepth 100000 in
theorem pick_filler.calls (A0_0 : Option Addr) (c0_0 : Nat) (l0_0 : List Int) (A0_1 : Option Addr) (c0_1 : Nat) (l0_1 : List (S45)) (r1 : Int) (r2 : Int) (r3 : List (S25)) (r4 : Int) (w : World) (hr0_0 : Kd.C (Kd.int .i64) w A0_0 l0_0.length l0_0) (hc0_0 : l0_0.length ≤ c0_0) (hr0_1 : Kd.C k45 w A0_1 l0_1.length l0_1) (hc0_1 : l0_1.length ≤ c0_1) (h : pick_filler.f l0_0 l0_1 = some (r1, r2, r3, r4)) :
  Calls Try.prog 46 #[.agg #[.slice A0_0 l0_0.length c0_0, .slice A0_1 l0_1.length c0_1]] w fun e w' => ∃ v2_ : Value, e = .returned (.tuple #[.agg #[.int .i64 r1, .int .i64 r2, v2_], .int .i64 r4]) ∧ Kd.V k25 25 w' w.heap.size (fun k_ => (w.heap.size ≤ k_)) v2_ r3 ∧ Below w.heap.size w w' := by
 have hu25 := Try.underlying25
 have hu45 := Try.underlying45
 have HR0_0 := gA hr0_0
 have HC0_0 := gA hc0_0
 clear hr0_0 hc0_0
 have HR0_1 := gA hr0_1
 have HC0_1 := gA hc0_1
 clear hr0_1 hc0_1
 have HB := gA (Below.refl w.heap.size w)
 have H : (if (l0_1.length : Int) = 0 then (none) else (if 0 < (l0_1.length : Int) then (if ((rd_T45 l0_1 0).f0) = 0 then (some (0, 0, ([] : List (S25)), 0)) else (if ((rd_T45 l0_1 0).f0) = 1 then (none) else (none))) else (none))) = some (r1, r2, r3, r4) := h
 clear h
 obtain ⟨c2, H⟩ := iN H
 have c2b0 : ((l0_1.length : Int) == 0) = false := beq_eq_false_iff_ne.mpr c2
 have c2b1 : ((l0_1.length : Int) != 0) = true := bne_iff_ne.mpr c2
 have c2b2 : ¬ (l0_1 = []) := fun h_ => c2 (by rw [h_]; rfl)
 obtain ⟨c3, H⟩ := iS H
 have c3b0 := decide_eq_true c3
 have c3b1 : decide (0 < l0_1.length) = true := decide_eq_true (by omega)
 clear c3
 by_cases c4 : ((rd_T45 l0_1 0).f0) = 0
 ·rw [if_pos c4] at H
  have c4b0 : (((rd_T45 l0_1 0).f0) == 0) = true := beq_iff_eq.mpr c4
  have c4b1 : (((rd_T45 l0_1 0).f0) != 0) = false := bne_eq_false_iff_eq.mpr c4
  clear c4
  simp only [Option.some.injEq, Prod.mk.injEq] at H
  obtain ⟨rfl, rfl, rfl, rfl⟩ := H
  go_enter Try.func46, Try.ntmps46
  go_wp2_with (first | ((with_reducible refine gate_dst (N := 1) rfl ?_); refine box_event ?hg (N := 1) ?hd (cs := #[.slice A0_0 l0_0.length c0_0, .slice A0_1 l0_1.length c0_1]) (t := 25) ?hr ?_; (case hd => rfl); (case hg => rfl); (case hr => first | (go_simp; done) | (go_simp; rfl)); intro gb217 hg w5 hbox hb; have BK217 := gA (hbox); have GW217 := gA ((by rw [hg]; exact (below_size (gB HB)) : w.heap.size ≤ gb217)); have GE217 := gA ((by rw [hg]; exact (below_size (gB HB)) : w.heap.size ≤ gb217)); replace HB := gA (below_step (gB HB) hb); clear hb hbox hg) | ((with_reducible refine gate_dst (N := 2) rfl ?_); refine box_event ?hg (N := 2) ?hd (cs := #[.int .i64 0, .int .i64 0, .slice none 0 0]) (t := 45) ?hr ?_; (case hd => rfl); (case hg => rfl); (case hr => first | (go_simp; done) | (go_simp; rfl)); intro gb218 hg w6 hbox hb; have BK218 := gA (hbox); have GW218 := gA ((by rw [hg]; exact (below_size (gB HB)) : w.heap.size ≤ gb218)); have GE218 := gA ((by rw [hg]; exact (below_size (gB HB)) : w.heap.size ≤ gb218)); replace HB := gA (below_step (gB HB) hb); have NB217_218 := gA ((by rw [hg]; exact Nat.ne_of_lt (blk_lt (gK BK217)) : gb217 ≠ gb218)); have NB218_217 := gA ((by rw [hg]; exact Nat.ne_of_gt (blk_lt (gK BK217)) : gb218 ≠ gb217)); replace BK217 := gA (blk_below (gK BK217) hb); clear hb hbox hg; have hnb7 := NB217_218.out; have hnc7 := NB218_217.out; obtain ⟨hcz8_0, hcz8_1, hfz8_0, hfz8_1⟩ := gz2 BK217; have p219 : 0 ≤ (0 : Int) := (by omega); have q219 : 0 < (l0_1.length : Int) := of_decide_eq_true (by assumption); obtain ⟨ad219, A219_2, c219_2, e219, hx219_0, hx219_1, hx219_2, hl219_2, hi219_2⟩ := at_T45 HR0_1.out 0 p219 q219; cases e219; have qi219 : (0 < l0_1.length) = True := eq_true (by omega); (try rw [show ((0 : Int)).toNat = 0 from rfl] at hx219_0); (try rw [show 0 * 3 = 0 from rfl] at hx219_0); (try rw [Addr.add_zero'] at hx219_0); (try rw [show ((0 : Int)).toNat = 0 from rfl] at hx219_1); (try rw [show 0 * 3 = 0 from rfl] at hx219_1); (try rw [Addr.add_zero'] at hx219_1); (try rw [show ((0 : Int)).toNat = 0 from rfl] at hx219_2); (try rw [show 0 * 3 = 0 from rfl] at hx219_2); (try rw [Addr.add_zero'] at hx219_2); replace hx219_0 := (HB.out.cell (World.block_lt_of_cell? w _ hx219_0)).trans hx219_0; replace hx219_1 := (HB.out.cell (World.block_lt_of_cell? w _ hx219_1)).trans hx219_1; replace hx219_2 := (HB.out.cell (World.block_lt_of_cell? w _ hx219_2)).trans hx219_2; have HR219_2 := gA hi219_2; have HC219_2 := gA hl219_2; clear hi219_2 hl219_2; replace p219 := eq_true p219; replace q219 := eq_true q219; obtain ⟨hcz9_0, hcz9_1, hcz9_2, hfz9_0, hfz9_1, hfz9_2⟩ := gz3 BK218))
  refine bodyPost_ret (results_ct rfl _ _ gb218 45 #[.int .i64 0, .int .i64 0, .slice none 0 0] (0, 0) _ rfl (by refine blk_put (cs := #[.int .i64 0, .int .i64 0, .slice none 0 0]) ?_ 2 _ rfl; refine blk_put (cs := #[.int .i64 0, .int .i64 0, .slice none 0 0]) ?_ 1 _ rfl; refine blk_put (cs := #[.int .i64 0, .int .i64 0, .slice none 0 0]) ?_ 0 _ rfl; exact gK BK218) Try.underlying45 rfl (by kernel_rfl)) rfl ?_
  exact ⟨_, rfl, by first | exact Kd.R_nil _ _ _ _ _ | exact Kd.N_nil _ _ _ _ _ | exact Kd.V_nil _ _ _ _ _ | exact Kd.Q_nil _ _ _ _ _ | exact Kd.S_nil _ _ _ _ _, by repeat first | exact gB HB | refine below_set ?_ GE217.out | refine below_set ?_ GE218.out⟩
 ·rw [if_neg c4] at H
  have c4b0 : (((rd_T45 l0_1 0).f0) == 0) = false := beq_eq_false_iff_ne.mpr c4
  have c4b1 : (((rd_T45 l0_1 0).f0) != 0) = true := bne_iff_ne.mpr c4
  obtain ⟨c10, H⟩ := iN H
  exact absurd H (by simp)
mutual
def pick_take.j0 : Nat → Int → Bool → List Int → List (S45) → Option (List Int × (List (S45)) × Int)
 | 0, _, _, _, _ => none
 | k + 1, x0, x22, x222000, x222001 => if x22 = true then (none) else (if 0 < (x222000.length : Int) then ((some (([mx x0 (wrap64 (-x0))] : List Int) : List Int)).bind fun y230 => (if 1 ≤ (x222000.length : Int) then ((some (x222000.drop 1 : List Int)).bind fun y233 => (if y230.length + y233.length < 17592186044416 then ((some (y230 ++ y233 : List Int)).bind fun y238 => ((arr_Size.f k y238).bind fun bt241 => (if bt241.2 = 0 then (if (mx x0 (wrap64 (-x0))) ≤ (rd x222000 0) then (none) else ((pick_filler.f x222000 x222001).bind fun bt243 => (if bt243.2.2.2 = 0 then ((pick_inner.f k x222000 x222001).bind fun t250 => (if 0 ≤ (wrap64 ((wrap64 ((mx x0 (wrap64 (-x0))) - (rd x222000 0))) * t250)) then (if (wrap64 ((wrap64 ((mx x0 (wrap64 (-x0))) - (rd x222000 0))) * t250) : Int).toNat ≤ 7036874417766 then ((some (List.replicate (wrap64 ((wrap64 ((mx x0 (wrap64 (-x0))) - (rd x222000 0))) * t250) : Int).toNat z45 : List (S45))).bind fun y251 => (pick_take.l0 k x0 y238 y251 (y251.length : Int) 0 x222000 x222001 bt243.1 bt243.2.1 bt243.2.2.1)) else (none)) else (none))) else (none)))) else (none)))) else (none))) else (none))) else (none))
def pick_take.l0 : Nat → Int → List Int → List (S45) → Int → Int → List Int → List (S45) → Int → Int → List (S25) → Option (List Int × (List (S45)) × Int)
 | 0, _, _, _, _, _, _, _, _, _, _ => none
 | k + 1, x0, x8, x13, x78, x79, x222000, x222001, x250000, x250001, x250002 => if x79 < x78 then (if 0 ≤ x79 then (if x79 < (x13.length : Int) then (pick_take.l0 k x0 x8 (x13.set (x79 : Int).toNat (⟨x250000, x250001, x250002⟩ : S45)) x78 (wrap64 (x79 + 1)) x222000 x222001 x250000 x250001 x250002) else (none)) else (none)) else (if x0 < 0 then (if x13.length + x222001.length < 3518437208883 then (some (x8, (x13 ++ x222001), 0)) else (none)) else (none))
end
def pick_take.f (k : Nat) (a0 : Int) (l1_0 : List Int) (l1_1 : List (S45)) : Option (List Int × (List (S45)) × Int) := (pick_listed.f l1_0 l1_1).bind fun bt223 => (if a0 > 16384 then (pick_take.j0 k a0 true bt223.1 bt223.2) else (pick_take.j0 k a0 (decide (a0 < (-16384))) bt223.1 bt223.2))
theorem pick_take.mono_l : ∀ k, (∀ y0 y1 y2 y3, LeO (pick_take.j0 k y0 y1 y2 y3) (pick_take.j0 (k + 1) y0 y1 y2 y3)) ∧ (∀ y0 y1 y2 y3 y4 y5 y6 y7 y8 y9, LeO (pick_take.l0 k y0 y1 y2 y3 y4 y5 y6 y7 y8 y9) (pick_take.l0 (k + 1) y0 y1 y2 y3 y4 y5 y6 y7 y8 y9))
 | 0 => ⟨fun _ _ _ _ r h => by simp [pick_take.j0] at h, fun _ _ _ _ _ _ _ _ _ _ r h => by simp [pick_take.l0] at h⟩
 | k + 1 => by
  obtain ⟨ih0, ih1⟩ := pick_take.mono_l k
  refine ⟨?_, ?_⟩
  ·intro y0 y1 y2 y3
   unfold pick_take.j0
   repeat' first
   | (with_reducible exact ih0 _ _ _ _)
   | (with_reducible exact ih1 _ _ _ _ _ _ _ _ _ _)
   | (with_reducible exact arr_Size.mono _ _)
   | (with_reducible exact pick_inner.mono _ _ _)
   | (with_reducible exact LeO.refl _)
   | (with_reducible exact LeO.none _)
   | (with_reducible refine LeO.ite ?_ ?_)
   | (with_reducible refine LeO.bind ?_ (fun _ => ?_))


   | exact arr_Size.mono _ _
   | exact pick_inner.mono _ _ _



  ·intro y0 y1 y2 y3 y4 y5 y6 y7 y8 y9
   unfold pick_take.l0
   repeat' first
   | (with_reducible exact ih0 _ _ _ _)
   | (with_reducible exact ih1 _ _ _ _ _ _ _ _ _ _)
   | (with_reducible exact arr_Size.mono _ _)
   | (with_reducible exact pick_inner.mono _ _ _)
   | (with_reducible exact LeO.refl _)
   | (with_reducible exact LeO.none _)
   | (with_reducible refine LeO.ite ?_ ?_)
   | (with_reducible refine LeO.bind ?_ (fun _ => ?_))


   | exact arr_Size.mono _ _
   | exact pick_inner.mono _ _ _
theorem pick_take.mono : ∀ a0 a1 a2 k, LeO (pick_take.f k a0 a1 a2) (pick_take.f (k + 1) a0 a1 a2) := by
 intro a0 a1 a2 k
 obtain ⟨ih0, ih1⟩ := pick_take.mono_l k
 unfold pick_take.f
 repeat' first
   | (with_reducible exact ih0 _ _ _ _)
   | (with_reducible exact ih1 _ _ _ _ _ _ _ _ _ _)
   | (with_reducible exact arr_Size.mono _ _)
   | (with_reducible exact pick_inner.mono _ _ _)
   | (with_reducible exact LeO.refl _)
   | (with_reducible exact LeO.none _)
   | (with_reducible refine LeO.ite ?_ ?_)
   | (with_reducible refine LeO.bind ?_ (fun _ => ?_))


   | exact arr_Size.mono _ _
   | exact pick_inner.mono _ _ _
set_option maxHeartbeats 8000000 in
set_option maxRecDepth 100000 in
theorem pick_take.calls (k : Nat) (a0 : Int) (P1_0_ : Nat → Prop) (A1_0 : Option Addr) (c1_0 : Nat) (l1_0 : List Int) (P1_1_ : Nat → Prop) (A1_1 : Option Addr) (c1_1 : Nat) (l1_1 : List (S45)) (r1 : List Int) (r2 : List (S45)) (r3 : Int) (w : World) (hs1_0 : Kd.V (Kd.int .i64) 3 w w.heap.size (fun k_ => P1_0_ k_) (.slice A1_0 l1_0.length c1_0) l1_0) (hs1_1 : Kd.V k45 45 w w.heap.size (fun k_ => P1_1_ k_) (.slice A1_1 l1_1.length c1_1) l1_1) (h : pick_take.f k a0 l1_0 l1_1 = some (r1, r2, r3)) :
  Calls Try.prog 25 #[.int .i64 a0, .agg #[.slice A1_0 l1_0.length c1_0, .slice A1_1 l1_1.length c1_1]] w fun e w' => ∃ v0_ v1_ : Value, e = .returned (.tuple #[.agg #[v0_, v1_], .int .i64 r3]) ∧ Kd.R (Kd.int .i64) 3 w' w.heap.size (fun k_ => (w.heap.size ≤ k_)) v0_ r1 ∧ Kd.N k45 45 w' w.heap.size (fun k_ => ((P1_0_ k_ ∨ P1_1_ k_) ∨ w.heap.size ≤ k_) ∧ some k_ ≠ (v0_ : Value).ownBlock) v1_ r2 ∧ Below w.heap.size w w' := by
 have hu25 := Try.underlying25
 have hu45 := Try.underlying45
 have HO1_0 := gA (show Kd.V (Kd.int .i64) 3 w w.heap.size (fun k_ => ((P1_0_ k_ ∨ P1_1_ k_) ∨ w.heap.size ≤ k_)) (.slice A1_0 l1_0.length c1_0) l1_0 from Kd.V_mono hs1_0 (fun k_ hk => .inl (.inl hk)))
 have HO1_1 := gA (show Kd.V k45 45 w w.heap.size (fun k_ => ((P1_0_ k_ ∨ P1_1_ k_) ∨ w.heap.size ≤ k_)) (.slice A1_1 l1_1.length c1_1) l1_1 from Kd.V_mono hs1_1 (fun k_ hk => .inl (.inr hk)))
 have HB := gA (Below.refl w.heap.size w)
 have H : ((pick_listed.f l1_0 l1_1).bind fun bt223 => (if a0 > 16384 then (pick_take.j0 k a0 true bt223.1 bt223.2) else (pick_take.j0 k a0 (decide (a0 < (-16384))) bt223.1 bt223.2))) = some (r1, r2, r3) := h
 clear h
 replace H := Option.bind_eq_some_iff.mp H
 obtain ⟨⟨t223, t226⟩, A30, H⟩ := H
 replace H : (if a0 > 16384 then (pick_take.j0 k a0 true t223 t226) else (pick_take.j0 k a0 (decide (a0 < (-16384))) t223 t226)) = some (r1, r2, r3) := H
 have A3 := gA A30
 clear A30
 have HC4 := gA H
 clear H
 go_enter Try.func25, Try.ntmps25
 iterate 6 ((try go_quiet (fail)); (try go_upto_region 2 with (first | ((with_reducible refine gate_dst (N := 3) rfl ?_); refine box_event ?hg (N := 3) ?hd (cs := #[.slice A1_0 l1_0.length c1_0, .slice A1_1 l1_1.length c1_1]) (t := 25) ?hr ?_; (case hd => rfl); (case hg => rfl); (case hr => first | (go_simp; done) | (go_simp; rfl)); intro gb221 hg w5 hbox hb; replace HO1_0 := gA (Kd.V_below (Kd.V_elderB (gV HO1_0) gb221 (Nat.le_of_eq hg.symm)) hb); replace HO1_1 := gA (Kd.V_below (Kd.V_elderB (gV HO1_1) gb221 (Nat.le_of_eq hg.symm)) hb); have BK221 := gA (hbox); have GW221 := gA ((by rw [hg]; exact (below_size (gB HB)) : w.heap.size ≤ gb221)); have GE221 := gA ((by rw [hg]; exact (below_size (gB HB)) : w.heap.size ≤ gb221)); replace HB := gA (below_step (gB HB) hb); clear hb hbox hg) | ((with_reducible refine gate_dst (N := 4) rfl ?_); refine box_event ?hg (N := 4) ?hd (cs := #[.slice none 0 0, .slice none 0 0]) (t := 25) ?hr ?_; (case hd => rfl); (case hg => rfl); (case hr => first | (go_simp; done) | (go_simp; rfl)); intro gb222 hg w6 hbox hb; replace HO1_0 := gA (Kd.V_below (Kd.V_elderB (gV HO1_0) gb222 (Nat.le_of_eq hg.symm)) hb); replace HO1_1 := gA (Kd.V_below (Kd.V_elderB (gV HO1_1) gb222 (Nat.le_of_eq hg.symm)) hb); have BK222 := gA (hbox); have GW222 := gA ((by rw [hg]; exact (below_size (gB HB)) : w.heap.size ≤ gb222)); have GE222 := gA ((by rw [hg]; exact (below_size (gB HB)) : w.heap.size ≤ gb222)); replace HB := gA (below_step (gB HB) hb); have NB221_222 := gA ((by rw [hg]; exact Nat.ne_of_lt (blk_lt (gK BK221)) : gb221 ≠ gb222)); have NB222_221 := gA ((by rw [hg]; exact Nat.ne_of_gt (blk_lt (gK BK221)) : gb222 ≠ gb221)); replace BK221 := gA (blk_below (gK BK221) hb); clear hb hbox hg; have hnb7 := NB221_222.out; have hnc7 := NB222_221.out; obtain ⟨hcz8_0, hcz8_1, hfz8_0, hfz8_1⟩ := gz2 BK221) | (go_at_call 43; (with_reducible refine (pick_listed.calls (fun k_ => ((((P1_0_ k_ ∨ P1_1_ k_) ∨ w.heap.size ≤ k_) ∧ k_ ≠ gb221) ∧ k_ ≠ gb222)) _ _ l1_0 (fun k_ => ((((P1_0_ k_ ∨ P1_1_ k_) ∨ w.heap.size ≤ k_) ∧ k_ ≠ gb221) ∧ k_ ≠ gb222)) _ _ l1_1 t223 t226 _ ?side1 ?side2 A3.out).mono ?_); (case side1 => exact HO1_0.out); (case side2 => exact HO1_1.out); rintro e w9 ⟨v224, v227, rfl, ho0, ho1, hb⟩; replace HO1_0 := gA (Kd.V_below (gV HO1_0) hb); replace HO1_1 := gA (Kd.V_below (gV HO1_1) hb); have HO225 := gA (Kd.V_lower (Kd.V_mono (ok' := fun k_ => ((P1_0_ k_ ∨ P1_1_ k_) ∨ w.heap.size ≤ k_) ∧ k_ ≠ gb221 ∧ k_ ≠ gb222) ho0 (fun k_ hk_ => ⟨Or.elim hk_ (fun hs_ => Or.elim hs_ (fun hs_ => hs_.1.1) (fun hs_ => hs_.1.1)) (fun hn_ => (.inr (Nat.le_trans (below_size (gB HB)) hn_))), Or.elim hk_ (fun hs_ => Or.elim hs_ (fun hs_ => hs_.1.2) (fun hs_ => hs_.1.2)) (fun hn_ => (Kd.freshB (gK BK221) k_ hn_)), Or.elim hk_ (fun hs_ => Or.elim hs_ (fun hs_ => hs_.2) (fun hs_ => hs_.2)) (fun hn_ => (Kd.freshB (gK BK222) k_ hn_))⟩)) (below_size (gB HB))); have HO228 := gA (Kd.V_lower (Kd.V_mono (ok' := fun k_ => ((P1_0_ k_ ∨ P1_1_ k_) ∨ w.heap.size ≤ k_) ∧ k_ ≠ gb221 ∧ k_ ≠ gb222) ho1 (fun k_ hk_ => ⟨Or.elim hk_ (fun hs_ => Or.elim hs_ (fun hs_ => hs_.1.1) (fun hs_ => hs_.1.1)) (fun hn_ => (.inr (Nat.le_trans (below_size (gB HB)) hn_))), Or.elim hk_ (fun hs_ => Or.elim hs_ (fun hs_ => hs_.1.2) (fun hs_ => hs_.1.2)) (fun hn_ => (Kd.freshB (gK BK221) k_ hn_)), Or.elim hk_ (fun hs_ => Or.elim hs_ (fun hs_ => hs_.2) (fun hs_ => hs_.2)) (fun hn_ => (Kd.freshB (gK BK222) k_ hn_))⟩)) (below_size (gB HB))); replace BK221 := gA (blk_below (gK BK221) hb); replace BK222 := gA (blk_below (gK BK222) hb); replace HB := gA (below_step (gB HB) hb); (try clear hb); (try clear ho0); (try clear ho1); obtain ⟨Ao10, co10, eo10⟩ := Kd.V_slice HO225.out; subst eo10; obtain ⟨hcz11_0, hcz11_1, hfz11_0, hfz11_1⟩ := gz2 BK221; obtain ⟨Ao12, co12, eo12⟩ := Kd.V_slice HO228.out; subst eo12))))
 skip
 (try simp only [Act.put, List.setIfInBounds_toArray, List.set_cons_zero, List.set_cons_succ])
 go_cut [22] (fun v22 wc => ∃ (kq : Nat) (x22_3 : Bool), v22 = .bool x22_3 ∧ Aside0 (pick_take.j0 kq a0 x22_3 t223 t226 = some (r1, r2, r3)) ∧ Aside0 (kq ≤ k) ∧ Aside0 (Kd.V (Kd.int .i64) 3 wc w.heap.size (fun k_ => ((P1_0_ k_ ∨ P1_1_ k_) ∨ w.heap.size ≤ k_) ∧ k_ ≠ gb221 ∧ k_ ≠ gb222) (.slice Ao10 t223.length co10) t223) ∧ Aside0 (Kd.V k45 45 wc w.heap.size (fun k_ => ((P1_0_ k_ ∨ P1_1_ k_) ∨ w.heap.size ≤ k_) ∧ k_ ≠ gb221 ∧ k_ ≠ gb222) (.slice Ao12 t226.length co12) t226) ∧ Aside0 (wc.heap[gb221]? = some (.cells #[(.slice Ao10 t223.length co10), (.slice Ao12 t226.length co12)] 25 (0, 0))) ∧ Aside0 (wc.heap[gb222]? = some (.cells #[(.slice none 0 0), (.slice none 0 0)] 25 (0, 0))) ∧ Aside0 (Below w.heap.size w wc))
 case first =>
  have H := HC4.out; clear HC4
  by_cases c13 : a0 > 16384
  ·rw [if_pos c13] at H
   have c13b0 : decide (16384 < a0) = true := decide_eq_true c13
   clear c13
   (first | rw [c13b0] | (simp only [i64_w, i32_w]; rw [c13b0]) | skip)
   have H' := gA H
   clear H
   go_wp2
   repeat (go_quiet (fail); try go_wp2)
   all_goals (go_meet; (case rel => exact ⟨_, (true), (by first | rfl | (simp; done) | (simp [*]; done) | (exfalso; simp_all; done) | (exfalso; simp_all; omega)), H', ⟨by first | omega | exact Nat.le_refl _⟩, ⟨Kd.V_mono (Kd.V_far (p := ⟨gb221, 1, none⟩) (Kd.V_far (p := ⟨gb221, 0, none⟩) (Kd.V_mono HO225.out (fun k_ hk => (⟨hk, hk.2.1⟩ : _ ∧ k_ ≠ gb221))) (fun _ hk => hk.2) (.slice Ao10 t223.length co10)) (fun _ hk => hk.2) (.slice Ao12 t226.length co12)) (fun _ hk => ⟨hk.1.1, ⟨hk.1.2.1, hk.1.2.2⟩⟩)⟩, ⟨Kd.V_mono (Kd.V_far (p := ⟨gb221, 1, none⟩) (Kd.V_far (p := ⟨gb221, 0, none⟩) (Kd.V_mono HO228.out (fun k_ hk => (⟨hk, hk.2.1⟩ : _ ∧ k_ ≠ gb221))) (fun _ hk => hk.2) (.slice Ao10 t223.length co10)) (fun _ hk => hk.2) (.slice Ao12 t226.length co12)) (fun _ hk => ⟨hk.1.1, ⟨hk.1.2.1, hk.1.2.2⟩⟩)⟩, ⟨by (with_reducible repeat (first | refine blk_drewN ?_ _ | refine blk_drew ?_ | refine blk_alloc ?_ _)); refine blk_put (cs := #[.slice Ao10 t223.length co10, .slice A1_1 l1_1.length c1_1]) ?_ 1 _ rfl; (with_reducible repeat (first | refine blk_drewN ?_ _ | refine blk_drew ?_ | refine blk_alloc ?_ _)); refine blk_put (cs := #[.slice A1_0 l1_0.length c1_0, .slice A1_1 l1_1.length c1_1]) ?_ 0 _ rfl; exact gK BK221⟩, ⟨by (with_reducible repeat (first | refine blk_drewN ?_ _ | refine blk_drew ?_ | refine blk_alloc ?_ _)); refine blk_far ?_ NB222_221.out _; (with_reducible repeat (first | refine blk_drewN ?_ _ | refine blk_drew ?_ | refine blk_alloc ?_ _)); refine blk_far ?_ NB222_221.out _; exact gK BK222⟩, ⟨by repeat first | exact gB HB | refine below_set ?_ GE221.out | refine below_set ?_ GE222.out⟩⟩))
  ·rw [if_neg c13] at H
   have c13b0 : decide (16384 < a0) = false := decide_eq_false c13
   clear c13
   (first | rw [c13b0] | (simp only [i64_w, i32_w]; rw [c13b0]) | skip)
   have H' := gA H
   clear H
   go_wp2
   repeat (go_quiet (fail); try go_wp2)
   all_goals (go_meet; (case rel => exact ⟨_, (decide (a0 < (-16384))), (by first | rfl | (simp; done) | (simp [*]; done) | (exfalso; simp_all; done) | (exfalso; simp_all; omega)), H', ⟨by first | omega | exact Nat.le_refl _⟩, ⟨Kd.V_mono (Kd.V_far (p := ⟨gb221, 1, none⟩) (Kd.V_far (p := ⟨gb221, 0, none⟩) (Kd.V_mono HO225.out (fun k_ hk => (⟨hk, hk.2.1⟩ : _ ∧ k_ ≠ gb221))) (fun _ hk => hk.2) (.slice Ao10 t223.length co10)) (fun _ hk => hk.2) (.slice Ao12 t226.length co12)) (fun _ hk => ⟨hk.1.1, ⟨hk.1.2.1, hk.1.2.2⟩⟩)⟩, ⟨Kd.V_mono (Kd.V_far (p := ⟨gb221, 1, none⟩) (Kd.V_far (p := ⟨gb221, 0, none⟩) (Kd.V_mono HO228.out (fun k_ hk => (⟨hk, hk.2.1⟩ : _ ∧ k_ ≠ gb221))) (fun _ hk => hk.2) (.slice Ao10 t223.length co10)) (fun _ hk => hk.2) (.slice Ao12 t226.length co12)) (fun _ hk => ⟨hk.1.1, ⟨hk.1.2.1, hk.1.2.2⟩⟩)⟩, ⟨by (with_reducible repeat (first | refine blk_drewN ?_ _ | refine blk_drew ?_ | refine blk_alloc ?_ _)); refine blk_put (cs := #[.slice Ao10 t223.length co10, .slice A1_1 l1_1.length c1_1]) ?_ 1 _ rfl; (with_reducible repeat (first | refine blk_drewN ?_ _ | refine blk_drew ?_ | refine blk_alloc ?_ _)); refine blk_put (cs := #[.slice A1_0 l1_0.length c1_0, .slice A1_1 l1_1.length c1_1]) ?_ 0 _ rfl; exact gK BK221⟩, ⟨by (with_reducible repeat (first | refine blk_drewN ?_ _ | refine blk_drew ?_ | refine blk_alloc ?_ _)); refine blk_far ?_ NB222_221.out _; (with_reducible repeat (first | refine blk_drewN ?_ _ | refine blk_drew ?_ | refine blk_alloc ?_ _)); refine blk_far ?_ NB222_221.out _; exact gK BK222⟩, ⟨by repeat first | exact gB HB | refine below_set ?_ GE221.out | refine below_set ?_ GE222.out⟩⟩))
 case rest =>
  clear HC4
  try clear c1
  try clear c2
  try clear p2
  try clear c7
  try clear c13
  try clear c13b0
  try clear hcz11_0
  try clear hcz11_1
  try clear hcz8_0
  try clear hcz8_1
  try clear hfz11_0
  try clear hfz11_1
  try clear hfz8_0
  try clear hfz8_1
  obtain ⟨kq, x22_3, rfl, HA, HJ3, HO_222000, HO_222001, BK221, BK222, HB⟩ := hcut
  cases kq with
  | zero => exact absurd HA.out (by simp [pick_take.j0])
  | succ kj3 =>
   have H := HA.out; clear HA
   simp only [pick_take.j0] at H
   by_cases c14 : x22_3 = true
   ·subst c14
    have H1 : (none) = some (r1, r2, r3) := by rw [if_pos rfl] at H; exact H
    clear H; have H := H1; clear H1
    exact absurd H (by simp)
   ·replace c14 := Bool.eq_false_iff.mpr c14
    subst c14
    have H1 : (if 0 < (t223.length : Int) then ((some (([mx a0 (wrap64 (-a0))] : List Int) : List Int)).bind fun y230 => (if 1 ≤ (t223.length : Int) then ((some (t223.drop 1 : List Int)).bind fun y233 => (if y230.length + y233.length < 17592186044416 then ((some (y230 ++ y233 : List Int)).bind fun y238 => ((arr_Size.f kj3 y238).bind fun bt241 => (if bt241.2 = 0 then (if (mx a0 (wrap64 (-a0))) ≤ (rd t223 0) then (none) else ((pick_filler.f t223 t226).bind fun bt243 => (if bt243.2.2.2 = 0 then ((pick_inner.f kj3 t223 t226).bind fun t250 => (if 0 ≤ (wrap64 ((wrap64 ((mx a0 (wrap64 (-a0))) - (rd t223 0))) * t250)) then (if (wrap64 ((wrap64 ((mx a0 (wrap64 (-a0))) - (rd t223 0))) * t250) : Int).toNat ≤ 7036874417766 then ((some (List.replicate (wrap64 ((wrap64 ((mx a0 (wrap64 (-a0))) - (rd t223 0))) * t250) : Int).toNat z45 : List (S45))).bind fun y251 => (pick_take.l0 kj3 a0 y238 y251 (y251.length : Int) 0 t223 t226 bt243.1 bt243.2.1 bt243.2.2.1)) else (none)) else (none))) else (none)))) else (none)))) else (none))) else (none))) else (none)) = some (r1, r2, r3) := by rw [if_neg (show ¬ (false = true) by decide)] at H; exact H
    clear H; have H := H1; clear H1
    obtain ⟨ji15, hji15⟩ : ∃ j_ : Int, (mx a0 (wrap64 (-a0))) = j_ := ⟨_, rfl⟩
    replace H : (if 0 < (t223.length : Int) then ((some (([ji15] : List Int) : List Int)).bind fun y230 => (if 1 ≤ (t223.length : Int) then ((some (t223.drop 1 : List Int)).bind fun y233 => (if y230.length + y233.length < 17592186044416 then ((some (y230 ++ y233 : List Int)).bind fun y238 => ((arr_Size.f kj3 y238).bind fun bt241 => (if bt241.2 = 0 then (if (ji15) ≤ (rd t223 0) then (none) else ((pick_filler.f t223 t226).bind fun bt243 => (if bt243.2.2.2 = 0 then ((pick_inner.f kj3 t223 t226).bind fun t250 => (if 0 ≤ (wrap64 ((wrap64 ((ji15) - (rd t223 0))) * t250)) then (if (wrap64 ((wrap64 ((ji15) - (rd t223 0))) * t250) : Int).toNat ≤ 7036874417766 then ((some (List.replicate (wrap64 ((wrap64 ((ji15) - (rd t223 0))) * t250) : Int).toNat z45 : List (S45))).bind fun y251 => (pick_take.l0 kj3 a0 y238 y251 (y251.length : Int) 0 t223 t226 bt243.1 bt243.2.1 bt243.2.2.1)) else (none)) else (none))) else (none)))) else (none)))) else (none))) else (none))) else (none)) = some (r1, r2, r3) := by first | (rw [hji15] at H; exact H) | (simp only [hji15] at H ⊢; exact H)
    have hji15_ : (if a0 < (wrap64 (-a0)) then (wrap64 (-a0)) else a0) = ji15 := hji15
    obtain ⟨c16, H⟩ := iS H
    have c16b0 := decide_eq_true c16; have c16b0z := c16b0; (try rw [hl13_2] at c16b0z)
    have c16b1 : decide (0 < t223.length) = true := decide_eq_true (by omega)
    clear c16
    obtain ⟨y230, hy230⟩ : ∃ y_ : List Int, y_ = (([ji15] : List Int)) := ⟨_, rfl⟩
    replace H : (if 1 ≤ (t223.length : Int) then ((some (t223.drop 1 : List Int)).bind fun y233 => (if y230.length + y233.length < 17592186044416 then ((some (y230 ++ y233 : List Int)).bind fun y238 => ((arr_Size.f kj3 y238).bind fun bt241 => (if bt241.2 = 0 then (if (ji15) ≤ (rd t223 0) then (none) else ((pick_filler.f t223 t226).bind fun bt243 => (if bt243.2.2.2 = 0 then ((pick_inner.f kj3 t223 t226).bind fun t250 => (if 0 ≤ (wrap64 ((wrap64 ((ji15) - (rd t223 0))) * t250)) then (if (wrap64 ((wrap64 ((ji15) - (rd t223 0))) * t250) : Int).toNat ≤ 7036874417766 then ((some (List.replicate (wrap64 ((wrap64 ((ji15) - (rd t223 0))) * t250) : Int).toNat z45 : List (S45))).bind fun y251 => (pick_take.l0 kj3 a0 y238 y251 (y251.length : Int) 0 t223 t226 bt243.1 bt243.2.1 bt243.2.2.1)) else (none)) else (none))) else (none)))) else (none)))) else (none))) else (none)) = some (r1, r2, r3) := by first | (rw [hy230]; with_reducible exact H) | (have H2_ := (Option.bind_some _ _).symm.trans H; rw [hy230]; with_reducible exact H2_) | (have H2_ := (Option.bind_some _ _).symm.trans H; with_reducible exact H2_) | with_reducible exact H | (rw [hy230]; exact H) | exact H
    have Ny230 := gA hy230
    clear hy230
    obtain ⟨c17, H⟩ := iS H
    have c17b0 := eq_true c17
    have c17b1 := decide_eq_true c17
    clear c17
    obtain ⟨y233, hy233⟩ : ∃ y_ : List Int, y_ = (t223.drop 1) := ⟨_, rfl⟩
    replace H : (if y230.length + y233.length < 17592186044416 then ((some (y230 ++ y233 : List Int)).bind fun y238 => ((arr_Size.f kj3 y238).bind fun bt241 => (if bt241.2 = 0 then (if (ji15) ≤ (rd t223 0) then (none) else ((pick_filler.f t223 t226).bind fun bt243 => (if bt243.2.2.2 = 0 then ((pick_inner.f kj3 t223 t226).bind fun t250 => (if 0 ≤ (wrap64 ((wrap64 ((ji15) - (rd t223 0))) * t250)) then (if (wrap64 ((wrap64 ((ji15) - (rd t223 0))) * t250) : Int).toNat ≤ 7036874417766 then ((some (List.replicate (wrap64 ((wrap64 ((ji15) - (rd t223 0))) * t250) : Int).toNat z45 : List (S45))).bind fun y251 => (pick_take.l0 kj3 a0 y238 y251 (y251.length : Int) 0 t223 t226 bt243.1 bt243.2.1 bt243.2.2.1)) else (none)) else (none))) else (none)))) else (none)))) else (none)) = some (r1, r2, r3) := by first | (rw [hy233]; with_reducible exact H) | (have H2_ := (Option.bind_some _ _).symm.trans H; rw [hy233]; with_reducible exact H2_) | (have H2_ := (Option.bind_some _ _).symm.trans H; with_reducible exact H2_) | with_reducible exact H | (rw [hy233]; exact H) | exact H
    have Ny233 := gA hy233
    clear hy233
    obtain ⟨c18, H⟩ := iS H
    have LMc18 := gA c18
    clear c18
    obtain ⟨y238, hy238⟩ : ∃ y_ : List Int, y_ = (y230 ++ y233) := ⟨_, rfl⟩
    replace H : ((arr_Size.f kj3 y238).bind fun bt241 => (if bt241.2 = 0 then (if (ji15) ≤ (rd t223 0) then (none) else ((pick_filler.f t223 t226).bind fun bt243 => (if bt243.2.2.2 = 0 then ((pick_inner.f kj3 t223 t226).bind fun t250 => (if 0 ≤ (wrap64 ((wrap64 ((ji15) - (rd t223 0))) * t250)) then (if (wrap64 ((wrap64 ((ji15) - (rd t223 0))) * t250) : Int).toNat ≤ 7036874417766 then ((some (List.replicate (wrap64 ((wrap64 ((ji15) - (rd t223 0))) * t250) : Int).toNat z45 : List (S45))).bind fun y251 => (pick_take.l0 kj3 a0 y238 y251 (y251.length : Int) 0 t223 t226 bt243.1 bt243.2.1 bt243.2.2.1)) else (none)) else (none))) else (none)))) else (none))) = some (r1, r2, r3) := by first | (rw [hy238]; with_reducible exact H) | (have H2_ := (Option.bind_some _ _).symm.trans H; rw [hy238]; with_reducible exact H2_) | (have H2_ := (Option.bind_some _ _).symm.trans H; with_reducible exact H2_) | with_reducible exact H | (rw [hy238]; exact H) | exact H
    have Ny238 := gA hy238
    clear hy238
    replace H := Option.bind_eq_some_iff.mp H
    obtain ⟨⟨t241, t242⟩, A190, H⟩ := H
    replace H : (if t242 = 0 then (if (ji15) ≤ (rd t223 0) then (none) else ((pick_filler.f t223 t226).bind fun bt243 => (if bt243.2.2.2 = 0 then ((pick_inner.f kj3 t223 t226).bind fun t250 => (if 0 ≤ (wrap64 ((wrap64 ((ji15) - (rd t223 0))) * t250)) then (if (wrap64 ((wrap64 ((ji15) - (rd t223 0))) * t250) : Int).toNat ≤ 7036874417766 then ((some (List.replicate (wrap64 ((wrap64 ((ji15) - (rd t223 0))) * t250) : Int).toNat z45 : List (S45))).bind fun y251 => (pick_take.l0 kj3 a0 y238 y251 (y251.length : Int) 0 t223 t226 bt243.1 bt243.2.1 bt243.2.2.1)) else (none)) else (none))) else (none)))) else (none)) = some (r1, r2, r3) := H
    have A19 := gA A190
    clear A190
    obtain ⟨c20, H⟩ := iS H
    have c20b0 : (t242 == 0) = true := beq_iff_eq.mpr c20
    have c20b1 : (t242 != 0) = false := bne_eq_false_iff_eq.mpr c20
    clear c20
    obtain ⟨c21, H⟩ := iN H
    have c21b0 := decide_eq_false c21; have c21b0z := c21b0; (try rw [hl13_2] at c21b0z)
    clear c21
    replace H := Option.bind_eq_some_iff.mp H
    obtain ⟨⟨t243, t244, t245, t248⟩, A220, H⟩ := H
    replace H : (if t248 = 0 then ((pick_inner.f kj3 t223 t226).bind fun t250 => (if 0 ≤ (wrap64 ((wrap64 ((ji15) - (rd t223 0))) * t250)) then (if (wrap64 ((wrap64 ((ji15) - (rd t223 0))) * t250) : Int).toNat ≤ 7036874417766 then ((some (List.replicate (wrap64 ((wrap64 ((ji15) - (rd t223 0))) * t250) : Int).toNat z45 : List (S45))).bind fun y251 => (pick_take.l0 kj3 a0 y238 y251 (y251.length : Int) 0 t223 t226 t243 t244 t245)) else (none)) else (none))) else (none)) = some (r1, r2, r3) := H
    have A22 := gA A220
    clear A220
    obtain ⟨c23, H⟩ := iS H
    have c23b0 : (t248 == 0) = true := beq_iff_eq.mpr c23
    have c23b1 : (t248 != 0) = false := bne_eq_false_iff_eq.mpr c23
    clear c23
    replace H := Option.bind_eq_some_iff.mp H
    obtain ⟨t250, A240, H⟩ := H
    replace H : (if 0 ≤ (wrap64 ((wrap64 ((ji15) - (rd t223 0))) * t250)) then (if (wrap64 ((wrap64 ((ji15) - (rd t223 0))) * t250) : Int).toNat ≤ 7036874417766 then ((some (List.replicate (wrap64 ((wrap64 ((ji15) - (rd t223 0))) * t250) : Int).toNat z45 : List (S45))).bind fun y251 => (pick_take.l0 kj3 a0 y238 y251 (y251.length : Int) 0 t223 t226 t243 t244 t245)) else (none)) else (none)) = some (r1, r2, r3) := H
    have A24 := gA A240
    clear A240
    obtain ⟨ji25, hji25⟩ : ∃ j_ : Int, (wrap64 ((wrap64 ((ji15) - (rd t223 0))) * t250)) = j_ := ⟨_, rfl⟩
    replace H : (if 0 ≤ (ji25) then (if (ji25 : Int).toNat ≤ 7036874417766 then ((some (List.replicate (ji25 : Int).toNat z45 : List (S45))).bind fun y251 => (pick_take.l0 kj3 a0 y238 y251 (y251.length : Int) 0 t223 t226 t243 t244 t245)) else (none)) else (none)) = some (r1, r2, r3) := by first | (rw [hji25] at H; exact H) | (simp only [hji25] at H ⊢; exact H)
    (try rw [hji25] at A19)
    (try rw [hji25] at A22)
    (try rw [hji25] at A24)
    have hji25w : (IntKind.i64.wrap ((wrap64 ((ji15) - (rd t223 0))) * t250)) = ji25 := (i64_w _).trans hji25
    obtain ⟨c26, H⟩ := iS H
    have c26b0 := eq_true c26
    have c26b1 := decide_eq_true c26
    clear c26
    obtain ⟨c27, H⟩ := iS H
    have c27b0 := eq_true c27
    have c27b1 := decide_eq_true c27
    clear c27
    obtain ⟨y251, hy251⟩ : ∃ y_ : List (S45), y_ = (List.replicate (ji25 : Int).toNat z45) := ⟨_, rfl⟩
    replace H : (pick_take.l0 kj3 a0 y238 y251 (y251.length : Int) 0 t223 t226 t243 t244 t245) = some (r1, r2, r3) := by first | (rw [hy251]; with_reducible exact H) | (have H2_ := (Option.bind_some _ _).symm.trans H; rw [hy251]; with_reducible exact H2_) | (have H2_ := (Option.bind_some _ _).symm.trans H; with_reducible exact H2_) | with_reducible exact H | (rw [hy251]; exact H) | exact H
    have Ny251 := gA hy251
    clear hy251
    have H' := gA H
    clear H
    have hnb28 := NB221_222.out
    have hnc28 := NB222_221.out
    obtain ⟨hcz29_0, hcz29_1, hfz29_0, hfz29_1⟩ := gz2 BK221
    have p229 : 0 ≤ (0 : Int) := (by omega)
    have q229 : 0 < (t223.length : Int) := of_decide_eq_true (by assumption)
    obtain ⟨ad229, e229, hx229_0⟩ := Kd.at_int (Kd.V_reads' HO_222000.out).2.2 0 p229 q229
    cases e229
    have qi229 : (0 < t223.length) = True := eq_true (by omega)
    (try rw [show ((0 : Int)).toNat = 0 from rfl] at hx229_0)
    (try rw [Addr.add_zero'] at hx229_0)
    replace p229 := eq_true p229
    replace q229 := eq_true q229
    iterate 6 ((try go_quiet (fail)); go_wp2_with (first | ((with_reducible refine gate_dst (N := 33) rfl ?_); refine Kd.R_lit (Kd.int .i64) _ 3 ?hg (N := 33) ?hd (xs := ([ji15] : List Int)) (inner := [.int .i64 ji15]) (ok := fun _ => True) (okp := fun _ => True) ?hr ?hp (fun _ hk => hk) trivial (Below.refl _ _) (Nat.le_refl _) (by simp) ?_; (case hd => rfl); (case hg => rfl); (case hr => first | (go_simp; done) | (go_simp; rfl)); (case hp => exact (Reps.one (show Kd.M (Kd.int .i64) _ _ _ ji15 [.int .i64 ji15] from rfl) (Reps.none _ _))); intro v231 w30 ho31 hb hg_ hnew_; clear hg_ hnew_; (first | rw [← Ny230.out] at ho31 | (simp only [Int.reduceToNat] at ho31; rw [← Ny230.out] at ho31)); replace HO_222000 := gA (Kd.V_elder' (gV HO_222000) (Kd.R_base ho31) hb); replace HO_222001 := gA (Kd.V_elder' (gV HO_222001) (Kd.R_base ho31) hb); have HO232 := gA (Kd.R_lower (Kd.R_newM (M := fun k_ => (w.heap.size ≤ k_)) ho31 (below_size (gB HB)) (fun k_ h_ => h_)) (below_size (gB HB))); replace BK221 := gA (blk_below (gK BK221) hb); replace BK222 := gA (blk_below (gK BK222) hb); replace HB := gA (below_step (gB HB) hb); clear hb ho31; obtain ⟨hcz32_0, hcz32_1, hfz32_0, hfz32_1⟩ := gz2 BK221; have q33 : (1 : Int) ≤ ((t223.length : Int) : Int) := of_decide_eq_true (by assumption); obtain ⟨i033, hi033, _, hsz33, _⟩ := info_parts info3; have hroom33 : t223.length ≤ co10 := (Kd.V_reads' HO_222000.out).2.1; have hC33 : Kd.F (Kd.int .i64) _ _ (some ad229) t223.length t223 := (Kd.V_at (base := w.heap.size) HO_222000.out).2.2; have hcut33 := cut_from (P := Try.prog) 22 3 .i64 Try.underlying22 hi033 1 hsz33 (some ad229) t223.length co10 1 (by omega) q33; have hr33 := Kd.F_cut (m := (1 : Int).toNat) (c := co10) hC33 (by omega) hroom33; obtain ⟨A33, hA33⟩ : ∃ A1, A1 = (if co10 = (1 : Int).toNat then (some ad229) else ((some ad229) : Option Addr).map (·.add ((1 : Int).toNat * 1))) := ⟨_, rfl⟩; obtain ⟨c33, hc33⟩ : ∃ c1, c1 = co10 - (1 : Int).toNat := ⟨_, rfl⟩; have hy33 : y233.length = t223.length - (1 : Int).toNat := (by rw [Ny233.out, List.length_drop] <;> omega); rw [show (t223).drop (1 : Int).toNat = y233 from Ny233.out.symm] at hr33; replace hr33 : Kd.F (Kd.int .i64) _ _ A33 y233.length y233 := (by rw [hA33]; exact hr33); rw [← hy33, ← hA33, ← hc33] at hcut33; have HO237 := gA (show Kd.V (Kd.int .i64) 3 _ w.heap.size _ (.slice A33 y233.length c33) y233 from Kd.V_mk (by rw [hy33, hc33]; exact Nat.sub_le_sub_right hroom33 _) hr33); have HC237 := gA (show y233.length ≤ c33 from by rw [hy33, hc33]; exact Nat.sub_le_sub_right hroom33 _); clear hr33 hC33 hroom33 hi033 hsz33 hc33; have KY33 := gA hy33; have KA33 := gA hA33; clear hy33 hA33; replace q33 := eq_true q33) | ((with_reducible refine gate_builtin (b := .append) (xs := #[.tmp 33, .tmp 36]) rfl ?_); at_builtin; refine Kd.R_append_rows (Kd.int .i64) (w0 := w) w.heap.size rfl (.tmp 33) (.tmp 36) 22 3 (.int .i64 0) 8 rfl Try.underlying22 info3 rfl (by decide) (by omega) v231 y230 y233 _ _ _ (fun k_ => (w.heap.size ≤ k_)) (fun _ => False) rfl rfl ?aO ?aR (fun _ _ h => h) (fun _ h => h.elim) ?aF ?aB ?aS ?aL ?_; (case aR => repeat (first | exact (Kd.V_reads' HO237.out).2.2 | (with_reducible refine Kd.C_alloc ?_ _) | (with_reducible refine Kd.C_drewN ?_ _) | (with_reducible refine Kd.C_drew ?_))); (case aB => exact (gB HB)); (case aF => exact (fun k_ hk => (Nat.le_trans (below_size (gB HB)) hk))); (case aO => exact (Kd.R_mono HO232.out (fun _ hk => hk.1))); (case aS => exact (below_size (gB HB))); (case aL => have := LMc18.out; omega); intro v239 w34 ho hb hg hat; rw [← Ny238.out] at ho; replace HO_222000 := gA (Kd.V_afterv (ok := (fun k_ => ((P1_0_ k_ ∨ P1_1_ k_) ∨ w.heap.size ≤ k_) ∧ k_ ≠ gb221 ∧ k_ ≠ gb222)) (gV HO_222000) hg hat); replace HO_222001 := gA (Kd.V_afterv (ok := (fun k_ => ((P1_0_ k_ ∨ P1_1_ k_) ∨ w.heap.size ≤ k_) ∧ k_ ≠ gb221 ∧ k_ ≠ gb222)) (gV HO_222001) hg hat); replace BK221 := gA (blk_grown (gK BK221) hg (Kd.R_ne HO232.out BK221.out (by decide))); replace BK222 := gA (blk_grown (gK BK222) hg (Kd.R_ne HO232.out BK222.out (by decide))); replace HO237 := gA (Kd.V_afterv (ok := (fun k_ => ((P1_0_ k_ ∨ P1_1_ k_) ∨ w.heap.size ≤ k_) ∧ k_ ≠ gb221 ∧ k_ ≠ gb222)) (gV HO237) hg hat); replace HB := gA (hb); have HO240 := gA (ho); clear HO232 ho hb hg hat; obtain ⟨Ao35, co35, eo35⟩ := Kd.R_slice HO240.out; subst eo35) | (go_at_call 41; (with_reducible refine (arr_Size.calls kj3 _ _ y238 t241 t242 _ ?side1 ?side2 A19.out).mono ?_); (case side1 => repeat (first | exact (Kd.R_reads' HO240.out).2.2 | (with_reducible refine Kd.C_alloc ?_ _) | (with_reducible refine Kd.C_drewN ?_ _) | (with_reducible refine Kd.C_drew ?_))); (case side2 => exact (Kd.R_reads' HO240.out).2.1); rintro e w' ⟨rfl, ⟨nd, rfl⟩⟩; (try first | exact ⟨rfl, _, World.drewN_drewN _ _ _⟩ | exact ⟨rfl, _, Eq.trans (World.drewN_drewN _ _ _) (congrArg (World.drewN _) (Nat.add_assoc _ _ _))⟩); obtain ⟨hcz36_0, hcz36_1, hfz36_0, hfz36_1⟩ := gz2 BK221) | (go_at_call 46; (with_reducible refine (pick_filler.calls _ _ t223 _ _ t226 t243 t244 t245 t248 _ ?side1 ?side2 ?side3 ?side4 A22.out).mono ?_); (case side1 => repeat (first | exact (Kd.V_reads' HO_222000.out).2.2 | (with_reducible refine Kd.C_alloc ?_ _) | (with_reducible refine Kd.C_drewN ?_ _) | (with_reducible refine Kd.C_drew ?_))); (case side2 => exact (Kd.V_reads' HO_222000.out).2.1); (case side3 => repeat (first | exact (Kd.V_reads' HO_222001.out).2.2 | (with_reducible refine Kd.C_alloc ?_ _) | (with_reducible refine Kd.C_drewN ?_ _) | (with_reducible refine Kd.C_drew ?_))); (case side4 => exact (Kd.V_reads' HO_222001.out).2.1); rintro e w37 ⟨v246, rfl, ho0, hb⟩; replace HO_222000 := gA (Kd.V_below (gV HO_222000) hb); replace HO_222001 := gA (Kd.V_below (gV HO_222001) hb); replace HO237 := gA (Kd.V_below (gV HO237) hb); have HO247 := gA (Kd.V_lower (Kd.V_mono (ok' := fun k_ => ((P1_0_ k_ ∨ P1_1_ k_) ∨ w.heap.size ≤ k_) ∧ some k_ ≠ (.slice Ao35 y238.length co35 : Value).ownBlock ∧ k_ ≠ gb221 ∧ k_ ≠ gb222) ho0 (fun k_ hk_ => ⟨(.inr (Nat.le_trans (below_size (gB HB)) hk_)), (Kd.fresh' (Kd.R_lt (gR HO240)) k_ hk_), (Kd.freshB (gK BK221) k_ hk_), (Kd.freshB (gK BK222) k_ hk_)⟩)) (below_size (gB HB))); replace HO240 := gA (Kd.R_below (gR HO240) hb); replace BK221 := gA (blk_below (gK BK221) hb); replace BK222 := gA (blk_below (gK BK222) hb); replace HB := gA (below_step (gB HB) hb); (try clear hb); (try clear hk); (try clear ho0)) | ((with_reducible refine gate_dst (N := 11) rfl ?_); refine box_event ?hg (N := 11) ?hd (cs := #[.int .i64 0, .int .i64 0, .slice none 0 0]) (t := 45) ?hr ?_; (case hd => rfl); (case hg => rfl); (case hr => first | (go_simp; done) | (go_simp; rfl)); intro gb249 hg w38 hbox hb; replace HO_222000 := gA (Kd.V_below (Kd.V_elderB (gV HO_222000) gb249 (Nat.le_of_eq hg.symm)) hb); replace HO_222001 := gA (Kd.V_below (Kd.V_elderB (gV HO_222001) gb249 (Nat.le_of_eq hg.symm)) hb); replace HO237 := gA (Kd.V_below (Kd.V_elderB (gV HO237) gb249 (Nat.le_of_eq hg.symm)) hb); replace HO240 := gA (Kd.R_below (gR HO240) hb); replace HO247 := gA (Kd.V_below (Kd.V_elderB (gV HO247) gb249 (Nat.le_of_eq hg.symm)) hb); have BK249 := gA (hbox); have GW249 := gA ((by rw [hg]; exact (below_size (gB HB)) : w.heap.size ≤ gb249)); have GE249 := gA ((by rw [hg]; exact (below_size (gB HB)) : w.heap.size ≤ gb249)); replace HB := gA (below_step (gB HB) hb); have NB221_249 := gA ((by rw [hg]; exact Nat.ne_of_lt (blk_lt (gK BK221)) : gb221 ≠ gb249)); have NB249_221 := gA ((by rw [hg]; exact Nat.ne_of_gt (blk_lt (gK BK221)) : gb249 ≠ gb221)); replace BK221 := gA (blk_below (gK BK221) hb); have NB222_249 := gA ((by rw [hg]; exact Nat.ne_of_lt (blk_lt (gK BK222)) : gb222 ≠ gb249)); have NB249_222 := gA ((by rw [hg]; exact Nat.ne_of_gt (blk_lt (gK BK222)) : gb249 ≠ gb222)); replace BK222 := gA (blk_below (gK BK222) hb); clear hb hbox hg; have hnb39 := NB249_221.out; have hnc39 := NB221_249.out; have hnb40 := NB249_222.out; have hnc40 := NB222_249.out; obtain ⟨hcz41_0, hcz41_1, hcz41_2, hfz41_0, hfz41_1, hfz41_2⟩ := gz3 BK249; obtain ⟨Ao42, co42, eo42⟩ := Kd.V_slice HO247.out; subst eo42; obtain ⟨hcz43_0, hcz43_1, hfz43_0, hfz43_1⟩ := gz2 BK221) | (go_at_call 42; (with_reducible refine (pick_inner.calls kj3 _ _ t223 _ _ t226 t250 _ ?side1 ?side2 ?side3 ?side4 A24.out).mono ?_); (case side1 => refine (Kd.V_reads' (e := 3) (base := w.heap.size) (ok := fun k_ => (((((P1_0_ k_ ∨ P1_1_ k_) ∨ w.heap.size ≤ k_) ∧ (k_ ≠ gb221 ∧ k_ ≠ gb222)) ∧ some k_ ≠ (.slice Ao35 y238.length co35 : Value).ownBlock) ∧ k_ ≠ gb249)) (n := t223.length) (c := co10) ?_).2.2; exact (by (with_reducible repeat (first | apply Kd.V_alloc | apply Kd.V_drewN | apply Kd.V_drew)); exact (Kd.V_mono (Kd.V_far (p := ⟨gb249, 2, none⟩) (Kd.V_far (p := ⟨gb249, 1, none⟩) (Kd.V_far (p := ⟨gb249, 0, none⟩) (Kd.V_mono HO_222000.out (fun k_ hk => (⟨hk, hk.2⟩ : _ ∧ k_ ≠ gb249))) (fun _ hk => hk.2) (.int .i64 t243)) (fun _ hk => hk.2) (.int .i64 t244)) (fun _ hk => hk.2) (.slice Ao42 t245.length co42)) (fun _ h_ => h_.1)))); (case side2 => exact (Kd.V_reads' HO_222000.out).2.1); (case side3 => refine (Kd.V_reads' (e := 45) (base := w.heap.size) (ok := fun k_ => (((((P1_0_ k_ ∨ P1_1_ k_) ∨ w.heap.size ≤ k_) ∧ (k_ ≠ gb221 ∧ k_ ≠ gb222)) ∧ some k_ ≠ (.slice Ao35 y238.length co35 : Value).ownBlock) ∧ k_ ≠ gb249)) (n := t226.length) (c := co12) ?_).2.2; exact (by (with_reducible repeat (first | apply Kd.V_alloc | apply Kd.V_drewN | apply Kd.V_drew)); exact (Kd.V_mono (Kd.V_far (p := ⟨gb249, 2, none⟩) (Kd.V_far (p := ⟨gb249, 1, none⟩) (Kd.V_far (p := ⟨gb249, 0, none⟩) (Kd.V_mono HO_222001.out (fun k_ hk => (⟨hk, hk.2⟩ : _ ∧ k_ ≠ gb249))) (fun _ hk => hk.2) (.int .i64 t243)) (fun _ hk => hk.2) (.int .i64 t244)) (fun _ hk => hk.2) (.slice Ao42 t245.length co42)) (fun _ h_ => h_.1)))); (case side4 => exact (Kd.V_reads' HO_222001.out).2.1); rintro e w44 ⟨rfl, hb⟩; replace HO_222000 := gA (Kd.V_below (by (with_reducible repeat (first | apply Kd.V_alloc | apply Kd.V_drewN | apply Kd.V_drew)); exact (Kd.V_mono (Kd.V_far (p := ⟨gb249, 2, none⟩) (Kd.V_far (p := ⟨gb249, 1, none⟩) (Kd.V_far (p := ⟨gb249, 0, none⟩) (Kd.V_mono HO_222000.out (fun k_ hk => (⟨hk, hk.2⟩ : _ ∧ k_ ≠ gb249))) (fun _ hk => hk.2) (.int .i64 t243)) (fun _ hk => hk.2) (.int .i64 t244)) (fun _ hk => hk.2) (.slice Ao42 t245.length co42)) (fun _ h_ => h_.1))) hb); replace HO_222001 := gA (Kd.V_below (by (with_reducible repeat (first | apply Kd.V_alloc | apply Kd.V_drewN | apply Kd.V_drew)); exact (Kd.V_mono (Kd.V_far (p := ⟨gb249, 2, none⟩) (Kd.V_far (p := ⟨gb249, 1, none⟩) (Kd.V_far (p := ⟨gb249, 0, none⟩) (Kd.V_mono HO_222001.out (fun k_ hk => (⟨hk, hk.2⟩ : _ ∧ k_ ≠ gb249))) (fun _ hk => hk.2) (.int .i64 t243)) (fun _ hk => hk.2) (.int .i64 t244)) (fun _ hk => hk.2) (.slice Ao42 t245.length co42)) (fun _ h_ => h_.1))) hb); replace HO237 := gA (Kd.V_below (by (with_reducible repeat (first | apply Kd.V_alloc | apply Kd.V_drewN | apply Kd.V_drew)); exact (Kd.V_mono (Kd.V_far (p := ⟨gb249, 2, none⟩) (Kd.V_far (p := ⟨gb249, 1, none⟩) (Kd.V_far (p := ⟨gb249, 0, none⟩) (Kd.V_mono HO237.out (fun k_ hk => (⟨hk, hk.2⟩ : _ ∧ k_ ≠ gb249))) (fun _ hk => hk.2) (.int .i64 t243)) (fun _ hk => hk.2) (.int .i64 t244)) (fun _ hk => hk.2) (.slice Ao42 t245.length co42)) (fun _ h_ => h_.1))) hb); replace HO240 := gA (Kd.R_below (by (with_reducible repeat (first | apply Kd.R_alloc | apply Kd.R_drewN | apply Kd.R_drew)); exact (Kd.R_mono (Kd.R_far (p := ⟨gb249, 2, none⟩) (Kd.R_far (p := ⟨gb249, 1, none⟩) (Kd.R_far (p := ⟨gb249, 0, none⟩) (Kd.R_types HO240.out BK249.out (by decide)) (fun _ hk => hk.2) (.int .i64 t243)) (fun _ hk => hk.2) (.int .i64 t244)) (fun _ hk => hk.2) (.slice Ao42 t245.length co42)) (fun _ h_ => h_.1))) hb); replace HO247 := gA (Kd.V_below (by (with_reducible repeat (first | apply Kd.V_alloc | apply Kd.V_drewN | apply Kd.V_drew)); exact (Kd.V_mono (Kd.V_far (p := ⟨gb249, 2, none⟩) (Kd.V_far (p := ⟨gb249, 1, none⟩) (Kd.V_far (p := ⟨gb249, 0, none⟩) (Kd.V_mono HO247.out (fun k_ hk => (⟨hk, hk.2⟩ : _ ∧ k_ ≠ gb249))) (fun _ hk => hk.2) (.int .i64 t243)) (fun _ hk => hk.2) (.int .i64 t244)) (fun _ hk => hk.2) (.slice Ao42 t245.length co42)) (fun _ h_ => h_.1))) hb); replace BK221 := gA (blk_below (g := gb221) (o := .cells #[.slice (some ad229) t223.length co10, .slice Ao12 t226.length co12] 25 (0, 0)) (by refine blk_far ?_ NB221_249.out _; refine blk_far ?_ NB221_249.out _; refine blk_far ?_ NB221_249.out _; exact gK BK221) hb); replace BK222 := gA (blk_below (g := gb222) (o := .cells #[.slice none 0 0, .slice none 0 0] 25 (0, 0)) (by refine blk_far ?_ NB222_249.out _; refine blk_far ?_ NB222_249.out _; refine blk_far ?_ NB222_249.out _; exact gK BK222) hb); replace BK249 := gA (blk_below (g := gb249) (o := .cells #[.int .i64 t243, .int .i64 t244, .slice Ao42 t245.length co42] 45 (0, 0)) (by refine blk_put (cs := #[.int .i64 t243, .int .i64 t244, .slice none 0 0]) ?_ 2 _ rfl; refine blk_put (cs := #[.int .i64 t243, .int .i64 0, .slice none 0 0]) ?_ 1 _ rfl; refine blk_put (cs := #[.int .i64 0, .int .i64 0, .slice none 0 0]) ?_ 0 _ rfl; exact gK BK249) hb); replace HB := gA (below_step (by repeat first | exact gB HB | refine below_set ?_ GE221.out | refine below_set ?_ GE222.out | refine below_set ?_ GE249.out) hb); (try clear hb); (try clear hk)) | ((with_reducible refine gate_dst (N := 76) rfl ?_); refine Kd.N_make k45 _ 45 rfl (N' := 76) rfl 23 _ _ rfl ji25 rfl rfl Try.underlying23 (.agg #[(.int .i64 0), (.int .i64 0), (.slice none 0 0)]) 40 info45 rfl (by decide) (by omega) z45 (ok := fun k_ => w44.heap.size ≤ k_) (okp := fun _ => False) (k45_mkF _ _ z45 (Nat.le_refl _) (Kd.F_nil _ _ _)) (fun _ hk => hk.elim) (Nat.le_refl _) (of_decide_eq_true (by assumption)) (Nat.le_trans (Nat.mul_le_mul_right _ (of_decide_eq_true (by assumption) : ji25.toNat ≤ 7036874417766)) (by omega)) (Below.refl _ _) (Nat.le_refl _) ?_; intro v252 w45 ho46 hb hg_ hnew_; clear hg_ hnew_; (first | rw [← Ny251.out] at ho46 | (simp only [Int.reduceToNat] at ho46; rw [← Ny251.out] at ho46)); replace HO_222000 := gA (Kd.V_elder' (gV HO_222000) (Kd.N_base ho46) hb); replace HO_222001 := gA (Kd.V_elder' (gV HO_222001) (Kd.N_base ho46) hb); replace HO237 := gA (Kd.V_elder' (gV HO237) (Kd.N_base ho46) hb); replace HO247 := gA (Kd.V_elder' (gV HO247) (Kd.N_base ho46) hb); have HO253 := gA (Kd.N_lower (Kd.N_mono (ok' := fun k_ => ((P1_0_ k_ ∨ P1_1_ k_) ∨ w.heap.size ≤ k_) ∧ some k_ ≠ (.slice Ao35 y238.length co35 : Value).ownBlock ∧ k_ ≠ gb221 ∧ k_ ≠ gb222 ∧ k_ ≠ gb249) ho46 (fun k_ hk_ => ⟨(.inr (Nat.le_trans (below_size (gB HB)) hk_)), (Kd.fresh' (Kd.R_lt (gR HO240)) k_ hk_), (Kd.freshB (gK BK221) k_ hk_), (Kd.freshB (gK BK222) k_ hk_), (Kd.freshB (gK BK249) k_ hk_)⟩)) (below_size (gB HB))); replace HO240 := gA (Kd.R_below (gR HO240) hb); replace BK221 := gA (blk_below (gK BK221) hb); replace BK222 := gA (blk_below (gK BK222) hb); replace BK249 := gA (blk_below (gK BK249) hb); replace HB := gA (below_step (gB HB) hb); clear hb ho46; obtain ⟨Ao47, co47, eo47⟩ := Kd.N_slice HO253.out; subst eo47)))
    skip
    go_loopg [79] kj3 (fun kq v79 w' => ∃ (x13_2 : List (S45)) (x79_2 : Int) (x250000_2 : Int) (x250001_2 : Int) (x250002_2 : List (S25)) (u250002 : Value), v79 = .int .i64 x79_2 ∧ Aside0 (pick_take.l0 kq a0 y238 x13_2 (y251.length : Int) x79_2 t223 t226 x250000_2 x250001_2 x250002_2 = some (r1, r2, r3)) ∧ Aside0 (kq ≤ kj3) ∧ Aside0 (Kd.R (Kd.int .i64) 3 w' w.heap.size (fun k_ => (w.heap.size ≤ k_)) (.slice Ao35 y238.length co35) y238) ∧ Aside0 (Kd.N k45 45 w' w.heap.size (fun k_ => ((P1_0_ k_ ∨ P1_1_ k_) ∨ w.heap.size ≤ k_) ∧ some k_ ≠ ((.slice Ao35 y238.length co35) : Value).ownBlock ∧ k_ ≠ gb221 ∧ k_ ≠ gb222 ∧ k_ ≠ gb249) (.slice Ao47 y251.length co47) x13_2) ∧ Aside0 (Kd.V (Kd.int .i64) 3 w' w.heap.size (fun k_ => ((P1_0_ k_ ∨ P1_1_ k_) ∨ w.heap.size ≤ k_) ∧ some k_ ≠ ((.slice Ao35 y238.length co35) : Value).ownBlock ∧ some k_ ≠ ((.slice Ao47 y251.length co47) : Value).ownBlock ∧ k_ ≠ gb221 ∧ k_ ≠ gb222 ∧ k_ ≠ gb249) (.slice (some ad229) t223.length co10) t223) ∧ Aside0 (Kd.V k45 45 w' w.heap.size (fun k_ => ((P1_0_ k_ ∨ P1_1_ k_) ∨ w.heap.size ≤ k_) ∧ some k_ ≠ ((.slice Ao35 y238.length co35) : Value).ownBlock ∧ some k_ ≠ ((.slice Ao47 y251.length co47) : Value).ownBlock ∧ k_ ≠ gb221 ∧ k_ ≠ gb222 ∧ k_ ≠ gb249) (.slice Ao12 t226.length co12) t226) ∧ Aside0 (Kd.V k25 25 w' w.heap.size (fun k_ => ((P1_0_ k_ ∨ P1_1_ k_) ∨ w.heap.size ≤ k_) ∧ some k_ ≠ ((.slice Ao35 y238.length co35) : Value).ownBlock ∧ some k_ ≠ ((.slice Ao47 y251.length co47) : Value).ownBlock ∧ k_ ≠ gb221 ∧ k_ ≠ gb222 ∧ k_ ≠ gb249) u250002 x250002_2) ∧ Aside0 (w'.heap[gb221]? = some (.cells #[(.slice (some ad229) t223.length co10), (.slice Ao12 t226.length co12)] 25 (0, 0))) ∧ Aside0 (w'.heap[gb222]? = some (.cells #[(.slice none 0 0), (.slice none 0 0)] 25 (0, 0))) ∧ Aside0 (w'.heap[gb249]? = some (.cells #[.int .i64 x250000_2, .int .i64 x250001_2, u250002] 45 (0, 0))) ∧ Aside0 (Below w.heap.size w w'))
    case atStart => exact ⟨(y251), (0), (t243), (t244), (t245), (.slice Ao42 t245.length co42), (rfl), H', ⟨Nat.le_refl _⟩, ⟨gR HO240⟩, ⟨gN HO253⟩, ⟨Kd.V_mono HO_222000.out (fun _ hk => by first | exact ⟨hk.1.1.1.1, ⟨hk.1.1.2, ⟨hk.2, ⟨hk.1.1.1.2.1, ⟨hk.1.1.1.2.2, hk.1.2⟩⟩⟩⟩⟩ | (simp_all; done))⟩, ⟨Kd.V_mono HO_222001.out (fun _ hk => by first | exact ⟨hk.1.1.1.1, ⟨hk.1.1.2, ⟨hk.2, ⟨hk.1.1.1.2.1, ⟨hk.1.1.1.2.2, hk.1.2⟩⟩⟩⟩⟩ | (simp_all; done))⟩, ⟨Kd.V_mono HO247.out (fun _ hk => by first | exact ⟨hk.1.1.1, ⟨hk.1.1.2.1, ⟨hk.2, ⟨hk.1.1.2.2.1, ⟨hk.1.1.2.2.2, hk.1.2⟩⟩⟩⟩⟩ | (simp_all; done))⟩, ⟨gK BK221⟩, ⟨gK BK222⟩, ⟨gK BK249⟩, ⟨by repeat first | exact gB HB | refine below_set ?_ GE221.out | refine below_set ?_ GE222.out | refine below_set ?_ GE249.out⟩⟩
    case round =>
     clear H'
     try clear c1
     try clear c2
     try clear p2
     try clear q2
     try clear hx2
     try clear qi2
     try clear c3
     try clear q3
     try clear c4
     try clear p6
     try clear c7
     try clear c13
     try clear c13b0
     try clear c14
     try clear c16
     try clear c16b0
     try clear c16b1
     try clear c17
     try clear c17b0
     try clear c17b1
     try clear c18
     try clear c20
     try clear c20b0
     try clear c20b1
     try clear c21
     try clear c21b0
     try clear p22
     try clear q22
     try clear hx22
     try clear qi22
     try clear c23
     try clear c23b0
     try clear c23b1
     try clear c25
     try clear c26
     try clear c26b0
     try clear c26b1
     try clear c27
     try clear c27b0
     try clear c27b1
     try clear c28
     try clear c33
     try clear q33
     try clear c39
     try clear c40
     try clear hcz11_0
     try clear hcz11_1
     try clear hcz29_0
     try clear hcz29_1
     try clear hcz32_0
     try clear hcz32_1
     try clear hcz36_0
     try clear hcz36_1
     try clear hcz41_0
     try clear hcz41_1
     try clear hcz41_2
     try clear hcz43_0
     try clear hcz43_1
     try clear hcz8_0
     try clear hcz8_1
     try clear hfz11_0
     try clear hfz11_1
     try clear hfz29_0
     try clear hfz29_1
     try clear hfz32_0
     try clear hfz32_1
     try clear hfz36_0
     try clear hfz36_1
     try clear hfz41_0
     try clear hfz41_1
     try clear hfz41_2
     try clear hfz43_0
     try clear hfz43_1
     try clear hfz8_0
     try clear hfz8_1
     try clear hx229_0
     try clear p2
     try clear p229
     try clear q229
     try clear q33
     obtain ⟨x13_2, x79_2, x250000_2, x250001_2, x250002_2, u250002, rfl, HA, HK2, HO_8, HO_13, HO_222000, HO_222001, HO_250002, BK221, BK222, BK249, HB⟩ := hrel
     have hl13_2 := (Kd.N_reads' HO_13.out).1
     rw [hl13_2] at HO_13
     (try simp only [hl13_2])
     (try simp only [hl13_2] at BK221)
     (try simp only [hl13_2] at BK222)
     (try simp only [hl13_2] at BK249)
     (try simp only [hl13_2] at HO_8)
     (try simp only [hl13_2] at HO_222000)
     (try simp only [hl13_2] at HO_222001)
     (try simp only [hl13_2] at HO_250002)
     cases gk with
     | zero => exact absurd HA.out (by simp [pick_take.l0])
     | succ k2 =>
      have H := HA.out; clear HA
      simp only [pick_take.l0] at H
      by_cases c48 : x79_2 < (y251.length : Int)
      ·rw [if_pos c48] at H
       have c48b0 := decide_eq_true c48; have c48b0z := c48b0; (try rw [hl13_2] at c48b0z)
       clear c48
       obtain ⟨c49, H⟩ := iS H
       have c49b0 := decide_eq_true c49; have c49b0z := c49b0; (try rw [hl13_2] at c49b0z)
       clear c49
       obtain ⟨c50, H⟩ := iS H
       have c50b0 := decide_eq_true c50; have c50b0z := c50b0; (try rw [hl13_2] at c50b0z)
       clear c50
       obtain ⟨y254, hy254⟩ : ∃ y_ : List (S45), y_ = (x13_2.set (x79_2 : Int).toNat (⟨x250000_2, x250001_2, x250002_2⟩ : S45)) := ⟨_, rfl⟩
       replace H : (pick_take.l0 k2 a0 y238 y254 (y251.length : Int) (wrap64 (x79_2 + 1)) t223 t226 x250000_2 x250001_2 x250002_2) = some (r1, r2, r3) := by first | (rw [hy254]; with_reducible exact H) | (have H2_ := (Option.bind_some _ _).symm.trans H; rw [hy254]; with_reducible exact H2_) | (have H2_ := (Option.bind_some _ _).symm.trans H; with_reducible exact H2_) | with_reducible exact H | (rw [hy254]; exact H) | exact H
       have Ny254 := gA hy254
       clear hy254
       have H' := gA H
       clear H
       have hnb52 := NB249_221.out
       have hnc52 := NB221_249.out
       have hnb53 := NB249_222.out
       have hnc53 := NB222_249.out
       obtain ⟨hcz54_0, hcz54_1, hcz54_2, hfz54_0, hfz54_1, hfz54_2⟩ := gz3 BK249
       have p51 : 0 ≤ (x79_2 : Int) := of_decide_eq_true (by assumption)
       have q51 : (x79_2 : Int) < ((x13_2.length : Int) : Int) := of_decide_eq_true (by assumption)
       obtain ⟨go51, co51, eo51, gb51, gl51, cl51, HG51⟩ := Kd.N_form HO_13.out (by omega)
       (first | cases eo51 | (injection eo51 with ea_ en_ ec_; (first | subst ea_ | (injection ea_ with ea_; subst ea_)); subst ec_; clear en_))
       have GB51 := gA gb51
       have GG51 := gA HG51
       clear gb51 gl51 HG51
       obtain ⟨ce51, hcl51, hM51, hcc51, hfr51⟩ := Kd.N_elem HO_13.out z45 (x79_2 : Int) p51 q51
       obtain ⟨ua51_2, uc51_2, rfl, ul51_2, ge51_2⟩ := k45_openF hM51
       have hx51_0 : wr.cell? ⟨go51, (x79_2 : Int).toNat * 3, none⟩ = some (.int .i64 ((rd_T45 x13_2 x79_2).f0)) := hcc51 0 _ rfl
       have hx51_1 : wr.cell? ⟨go51, (x79_2 : Int).toNat * 3 + 1, none⟩ = some (.int .i64 ((rd_T45 x13_2 x79_2).f1)) := hcc51 1 _ rfl
       have hx51_2 : wr.cell? ⟨go51, (x79_2 : Int).toNat * 3 + 2, none⟩ = some (.slice ua51_2 ((rd_T45 x13_2 x79_2).f2).length uc51_2) := hcc51 2 _ rfl
       have hf51_0 : wr.frozen? ⟨go51, (x79_2 : Int).toNat * 3, none⟩ = false := hfr51 0
       have hf51_1 : wr.frozen? ⟨go51, (x79_2 : Int).toNat * 3 + 1, none⟩ = false := hfr51 1
       have hf51_2 : wr.frozen? ⟨go51, (x79_2 : Int).toNat * 3 + 2, none⟩ = false := hfr51 2
       clear hcl51 hcc51 hfr51 hM51
       replace p51 := eq_true p51
       replace q51 := eq_true q51
       obtain ⟨uA250002, uc250002, ue250002⟩ := Kd.V_slice HO_250002.out
       subst ue250002
       have HX55 := gA (show Kd.N k45 45 wr w.heap.size (fun k_ => ((P1_0_ k_ ∨ P1_1_ k_) ∨ w.heap.size ≤ k_) ∧ some k_ ≠ (.slice Ao35 y238.length co35 : Value).ownBlock ∧ k_ ≠ gb221 ∧ k_ ≠ gb222 ∧ k_ ≠ gb249) (.slice (some ⟨go51, 0, none⟩) x13_2.length co47) x13_2 from (gN HO_13))
       obtain ⟨ce55, hcl55, hM55, hcc55, hfr55⟩ := Kd.N_elem HX55.out z45 (x79_2 : Int) (of_decide_eq_true (by assumption)) (by have h_ : (x79_2 : Int) < ((x13_2.length : Int) : Int) := of_decide_eq_true (by assumption); first | exact h_ | (have e_ := (Kd.N_reads' HO_13.out).1; omega) | simpa using h_)
       obtain ⟨ua55_2, uc55_2, rfl, ul55_2, ge55_2⟩ := k45_openF hM55
       have HP55 := Kd.N_seg HX55.out (x79_2 : Int) (of_decide_eq_true (by assumption)) (by have h_ : (x79_2 : Int) < ((x13_2.length : Int) : Int) := of_decide_eq_true (by assumption); first | exact h_ | (have e_ := (Kd.N_reads' HO_13.out).1; omega) | simpa using h_) (seg := [.int .i64 x250000_2, .int .i64 x250001_2, (.slice uA250002 x250002_2.length uc250002)]) (j := 0) hcl55 hcc55 (show 3 ≤ 3 from by decide) (x' := (⟨x250000_2, x250001_2, x250002_2⟩ : S45)) (k45_mkF _ _ (⟨x250000_2, x250001_2, x250002_2⟩ : S45) (Kd.V_reads' (Kd.V_mono (ok' := (fun k_ => ((fun k_ => ((P1_0_ k_ ∨ P1_1_ k_) ∨ w.heap.size ≤ k_) ∧ some k_ ≠ (.slice Ao35 y238.length co35 : Value).ownBlock ∧ k_ ≠ gb221 ∧ k_ ≠ gb222 ∧ k_ ≠ gb249)) k_ ∧ k_ ≠ go51)) (HO_250002.out) (fun k_ hk => ⟨⟨hk.1, ⟨hk.2.1, ⟨hk.2.2.2.1, ⟨hk.2.2.2.2.1, hk.2.2.2.2.2⟩⟩⟩⟩, fun e_ => (hk.2.2.1) (by rw [e_]; rfl)⟩))).2.1 (Kd.V_F (Kd.V_mono (ok' := (fun k_ => ((fun k_ => ((P1_0_ k_ ∨ P1_1_ k_) ∨ w.heap.size ≤ k_) ∧ some k_ ≠ (.slice Ao35 y238.length co35 : Value).ownBlock ∧ k_ ≠ gb221 ∧ k_ ≠ gb222 ∧ k_ ≠ gb249)) k_ ∧ k_ ≠ go51)) (HO_250002.out) (fun k_ hk => ⟨⟨hk.1, ⟨hk.2.1, ⟨hk.2.2.2.1, ⟨hk.2.2.2.2.1, hk.2.2.2.2.2⟩⟩⟩⟩, fun e_ => (hk.2.2.1) (by rw [e_]; rfl)⟩)))) (fun _ hk => hk)
       have hx55_0 := hcc55 0 _ rfl
       (try simp only [show (k45).sz = 3 from rfl, Nat.mul_one, Nat.add_zero] at hx55_0)
       have hf55_0 := hfr55 0
       (try simp only [show (k45).sz = 3 from rfl, Nat.mul_one, Nat.add_zero] at hf55_0)
       have hx55_1 := hcc55 1 _ rfl
       (try simp only [show (k45).sz = 3 from rfl, Nat.mul_one, Nat.add_zero] at hx55_1)
       have hf55_1 := hfr55 1
       (try simp only [show (k45).sz = 3 from rfl, Nat.mul_one, Nat.add_zero] at hf55_1)
       have hx55_2 := hcc55 2 _ rfl
       (try simp only [show (k45).sz = 3 from rfl, Nat.mul_one, Nat.add_zero] at hx55_2)
       have hf55_2 := hfr55 2
       (try simp only [show (k45).sz = 3 from rfl, Nat.mul_one, Nat.add_zero] at hf55_2)
       clear hcl55 hcc55 hfr55 hM55
       iterate 6 ((try go_quiet (fail)); go_wp2_with (first | ((with_reducible refine gate_store (t := 45) (p := 85) rfl ?_); (try (rw [drewN_self wr]; generalize hq_ : World.drewN wr _ = wr; replace HO_8 := gA (Kd.R_at hq_ HO_8.out); replace HO_13 := gA (Kd.N_at hq_ HO_13.out); replace HO_222000 := gA (Kd.V_at hq_ HO_222000.out); replace HO_222001 := gA (Kd.V_at hq_ HO_222001.out); replace HO_250002 := gA (Kd.V_at hq_ HO_250002.out); replace BK221 := gA (blk_at hq_ BK221.out); replace BK222 := gA (blk_at hq_ BK222.out); replace BK249 := gA (blk_at hq_ BK249.out); replace HB := gA (below_at hq_ HB.out); clear hq_; (try (have HX55 := gA (show Kd.N k45 45 wr w.heap.size (fun k_ => ((P1_0_ k_ ∨ P1_1_ k_) ∨ w.heap.size ≤ k_) ∧ some k_ ≠ (.slice Ao35 y238.length co35 : Value).ownBlock ∧ k_ ≠ gb221 ∧ k_ ≠ gb222 ∧ k_ ≠ gb249) (.slice (some ⟨go51, 0, none⟩) x13_2.length co47) x13_2 from (gN HO_13)))); (try (obtain ⟨ce55, hcl55, hM55, hcc55, hfr55⟩ := Kd.N_elem HX55.out z45 (x79_2 : Int) (of_decide_eq_true (by assumption)) (by have h_ : (x79_2 : Int) < ((x13_2.length : Int) : Int) := of_decide_eq_true (by assumption); first | exact h_ | (have e_ := (Kd.N_reads' HO_13.out).1; omega) | simpa using h_))); (try (obtain ⟨ua55_2, uc55_2, rfl, ul55_2, ge55_2⟩ := k45_openF hM55)); (try (have HP55 := Kd.N_seg HX55.out (x79_2 : Int) (of_decide_eq_true (by assumption)) (by have h_ : (x79_2 : Int) < ((x13_2.length : Int) : Int) := of_decide_eq_true (by assumption); first | exact h_ | (have e_ := (Kd.N_reads' HO_13.out).1; omega) | simpa using h_) (seg := [.int .i64 x250000_2, .int .i64 x250001_2, (.slice uA250002 x250002_2.length uc250002)]) (j := 0) hcl55 hcc55 (show 3 ≤ 3 from by decide) (x' := (⟨x250000_2, x250001_2, x250002_2⟩ : S45)) (k45_mkF _ _ (⟨x250000_2, x250001_2, x250002_2⟩ : S45) (Kd.V_reads' (Kd.V_mono (ok' := (fun k_ => ((fun k_ => ((P1_0_ k_ ∨ P1_1_ k_) ∨ w.heap.size ≤ k_) ∧ some k_ ≠ (.slice Ao35 y238.length co35 : Value).ownBlock ∧ k_ ≠ gb221 ∧ k_ ≠ gb222 ∧ k_ ≠ gb249)) k_ ∧ k_ ≠ go51)) (HO_250002.out) (fun k_ hk => ⟨⟨hk.1, ⟨hk.2.1, ⟨hk.2.2.2.1, ⟨hk.2.2.2.2.1, hk.2.2.2.2.2⟩⟩⟩⟩, fun e_ => (hk.2.2.1) (by rw [e_]; rfl)⟩))).2.1 (Kd.V_F (Kd.V_mono (ok' := (fun k_ => ((fun k_ => ((P1_0_ k_ ∨ P1_1_ k_) ∨ w.heap.size ≤ k_) ∧ some k_ ≠ (.slice Ao35 y238.length co35 : Value).ownBlock ∧ k_ ≠ gb221 ∧ k_ ≠ gb222 ∧ k_ ≠ gb249)) k_ ∧ k_ ≠ go51)) (HO_250002.out) (fun k_ hk => ⟨⟨hk.1, ⟨hk.2.1, ⟨hk.2.2.2.1, ⟨hk.2.2.2.2.1, hk.2.2.2.2.2⟩⟩⟩⟩, fun e_ => (hk.2.2.1) (by rw [e_]; rfl)⟩)))) (fun _ hk => hk))); (try (have hx55_0 := hcc55 0 _ rfl)); (try (try simp only [show (k45).sz = 3 from rfl, Nat.mul_one, Nat.add_zero] at hx55_0)); (try (have hf55_0 := hfr55 0)); (try (try simp only [show (k45).sz = 3 from rfl, Nat.mul_one, Nat.add_zero] at hf55_0)); (try (have hx55_1 := hcc55 1 _ rfl)); (try (try simp only [show (k45).sz = 3 from rfl, Nat.mul_one, Nat.add_zero] at hx55_1)); (try (have hf55_1 := hfr55 1)); (try (try simp only [show (k45).sz = 3 from rfl, Nat.mul_one, Nat.add_zero] at hf55_1)); (try (have hx55_2 := hcc55 2 _ rfl)); (try (try simp only [show (k45).sz = 3 from rfl, Nat.mul_one, Nat.add_zero] at hx55_2)); (try (have hf55_2 := hfr55 2)); (try (try simp only [show (k45).sz = 3 from rfl, Nat.mul_one, Nat.add_zero] at hf55_2)); (try (clear hcl55 hcc55 hfr55 hM55)))); refine store_event (t := 45) (p := 85) (v := ?vo_w56) (w1 := (((wr.setCell ⟨go51, (x79_2 : Int).toNat * 3, none⟩ (.int .i64 x250000_2)).setCell ⟨go51, (x79_2 : Int).toNat * 3 + 1, none⟩ (.int .i64 x250001_2)).setCell ⟨go51, (x79_2 : Int).toNat * 3 + 2, none⟩ ((.slice uA250002 x250002_2.length uc250002)))) ?hg ?ho ?hn ?hr ?_; (case ho => rfl); (case hg => rfl); (case hn => rfl); (case hr => first | (go_simp; done) | (go_simp; rfl)); intro w56 hw; have hg : wr.grownBy w56 (some go51) := (by rw [hw]; exact HP55.2); have hp_ : Kd.N k45 45 w56 w.heap.size (fun k_ => ((P1_0_ k_ ∨ P1_1_ k_) ∨ w.heap.size ≤ k_) ∧ some k_ ≠ (.slice Ao35 y238.length co35 : Value).ownBlock ∧ k_ ≠ gb221 ∧ k_ ≠ gb222 ∧ k_ ≠ gb249) (.slice (some ⟨go51, 0, none⟩) x13_2.length co47) y254 := (by rw [hw, Ny254.out]; exact HP55.1); clear HP55; replace HO_8 := gA (Kd.R_over' (v := (.slice (some ⟨go51, 0, none⟩) x13_2.length co47)) (gR HO_8) (Kd.N_typed HO_13.out) (by decide) hg); replace HO_222000 := gA (Kd.V_afterv (v := (.slice (some ⟨go51, 0, none⟩) x13_2.length co47)) (v1 := (.slice (some ⟨go51, 0, none⟩) x13_2.length co47)) (ok := (fun k_ => ((P1_0_ k_ ∨ P1_1_ k_) ∨ w.heap.size ≤ k_) ∧ some k_ ≠ (.slice Ao35 y238.length co35 : Value).ownBlock ∧ k_ ≠ gb221 ∧ k_ ≠ gb222 ∧ k_ ≠ gb249)) (Kd.V_mono HO_222000.out (fun _ hk => ⟨⟨hk.1, ⟨hk.2.1, ⟨hk.2.2.2.1, ⟨hk.2.2.2.2.1, hk.2.2.2.2.2⟩⟩⟩⟩, hk.2.2.1⟩)) hg (.inl rfl)); replace HO_222001 := gA (Kd.V_afterv (v := (.slice (some ⟨go51, 0, none⟩) x13_2.length co47)) (v1 := (.slice (some ⟨go51, 0, none⟩) x13_2.length co47)) (ok := (fun k_ => ((P1_0_ k_ ∨ P1_1_ k_) ∨ w.heap.size ≤ k_) ∧ some k_ ≠ (.slice Ao35 y238.length co35 : Value).ownBlock ∧ k_ ≠ gb221 ∧ k_ ≠ gb222 ∧ k_ ≠ gb249)) (Kd.V_mono HO_222001.out (fun _ hk => ⟨⟨hk.1, ⟨hk.2.1, ⟨hk.2.2.2.1, ⟨hk.2.2.2.2.1, hk.2.2.2.2.2⟩⟩⟩⟩, hk.2.2.1⟩)) hg (.inl rfl)); replace HO_250002 := gA (Kd.V_afterv (v := (.slice (some ⟨go51, 0, none⟩) x13_2.length co47)) (v1 := (.slice (some ⟨go51, 0, none⟩) x13_2.length co47)) (ok := (fun k_ => ((P1_0_ k_ ∨ P1_1_ k_) ∨ w.heap.size ≤ k_) ∧ some k_ ≠ (.slice Ao35 y238.length co35 : Value).ownBlock ∧ k_ ≠ gb221 ∧ k_ ≠ gb222 ∧ k_ ≠ gb249)) (Kd.V_mono HO_250002.out (fun _ hk => ⟨⟨hk.1, ⟨hk.2.1, ⟨hk.2.2.2.1, ⟨hk.2.2.2.2.1, hk.2.2.2.2.2⟩⟩⟩⟩, hk.2.2.1⟩)) hg (.inl rfl)); replace BK221 := gA (blk_grown (gK BK221) hg (Kd.N_ne HO_13.out BK221.out (by decide))); replace BK222 := gA (blk_grown (gK BK222) hg (Kd.N_ne HO_13.out BK222.out (by decide))); replace BK249 := gA (blk_grown (gK BK249) hg (Kd.N_away HO_13.out (fun _ hk => hk.2.2.2.2))); replace HO_13 := gA (hp_); replace HB := gA ((by rw [hw]; exact below_set (below_set (below_set (HB.out) GB51.out) GB51.out) GB51.out : Below w.heap.size w w56)); clear hg hw hp_)))
       skip
       (try simp only [← hl13_2])
       go_roundg k2
       case measure => have := HJ3.out; have := HK2.out; omega
       case rel => exact ⟨(y254), (wrap64 (x79_2 + 1)), (x250000_2), (x250001_2), (x250002_2), ((.slice uA250002 x250002_2.length uc250002)), (rfl), H', ⟨by have := HJ3.out; have := HK2.out; omega⟩, ⟨by (try simp only [hl13_2]); (with_reducible repeat (first | apply Kd.R_alloc | apply Kd.R_drewN | apply Kd.R_drew)); exact HO_8.out⟩, ⟨by (try simp only [hl13_2]); (with_reducible repeat (first | apply Kd.N_alloc | apply Kd.N_drewN | apply Kd.N_drew)); exact HO_13.out⟩, ⟨by (try simp only [hl13_2]); (with_reducible repeat (first | apply Kd.V_alloc | apply Kd.V_drewN | apply Kd.V_drew)); exact Kd.V_mono HO_222000.out (fun _ hk => ⟨hk.1.1, ⟨hk.1.2.1, ⟨hk.2, ⟨hk.1.2.2.1, ⟨hk.1.2.2.2.1, hk.1.2.2.2.2⟩⟩⟩⟩⟩)⟩, ⟨by (try simp only [hl13_2]); (with_reducible repeat (first | apply Kd.V_alloc | apply Kd.V_drewN | apply Kd.V_drew)); exact Kd.V_mono HO_222001.out (fun _ hk => ⟨hk.1.1, ⟨hk.1.2.1, ⟨hk.2, ⟨hk.1.2.2.1, ⟨hk.1.2.2.2.1, hk.1.2.2.2.2⟩⟩⟩⟩⟩)⟩, ⟨by (try simp only [hl13_2]); (with_reducible repeat (first | apply Kd.V_alloc | apply Kd.V_drewN | apply Kd.V_drew)); exact Kd.V_mono HO_250002.out (fun _ hk => ⟨hk.1.1, ⟨hk.1.2.1, ⟨hk.2, ⟨hk.1.2.2.1, ⟨hk.1.2.2.2.1, hk.1.2.2.2.2⟩⟩⟩⟩⟩)⟩, ⟨by (try simp only [hl13_2]); exact gK BK221⟩, ⟨by (try simp only [hl13_2]); exact gK BK222⟩, ⟨by (try simp only [hl13_2]); exact gK BK249⟩, ⟨gB HB⟩⟩
      ·rw [if_neg c48] at H
       have c48b0 := decide_eq_false c48; have c48b0z := c48b0; (try rw [hl13_2] at c48b0z)
       clear c48
       obtain ⟨c57, H⟩ := iS H
       have c57b0 := decide_eq_true c57; have c57b0z := c57b0; (try rw [hl13_2] at c57b0z)
       clear c57
       obtain ⟨c58, H⟩ := iS H
       have LMc58 := gA c58
       clear c58
       obtain ⟨y255, hy255⟩ : ∃ y_ : List (S45), y_ = (x13_2 ++ t226) := ⟨_, rfl⟩
       replace H : (some (y238, y255, 0)) = some (r1, r2, r3) := by first | (rw [hy255]; with_reducible exact H) | (have H2_ := (Option.bind_some _ _).symm.trans H; rw [hy255]; with_reducible exact H2_) | (have H2_ := (Option.bind_some _ _).symm.trans H; with_reducible exact H2_) | with_reducible exact H | (rw [hy255]; exact H) | exact H
       have Ny255 := gA hy255
       clear hy255
       simp only [Option.some.injEq, Prod.mk.injEq] at H
       obtain ⟨rfl, rfl, rfl⟩ := H
       have hnb59 := NB221_222.out
       have hnc59 := NB222_221.out
       have hnb60 := NB221_249.out
       have hnc60 := NB249_221.out
       obtain ⟨hcz61_0, hcz61_1, hfz61_0, hfz61_1⟩ := gz2 BK221
       iterate 6 ((try go_quiet (fail)); go_wp2_with (first | ((with_reducible refine gate_builtin (b := .append) (xs := #[.tmp 90, .tmp 92]) rfl ?_); at_builtin; refine Kd.N_append_rows k45 (w0 := w) w.heap.size rfl (.tmp 90) (.tmp 92) 23 45 (.agg #[(.int .i64 0), (.int .i64 0), (.slice none 0 0)]) 40 rfl Try.underlying23 info45 rfl (by decide) (by omega) (.slice Ao47 x13_2.length co47) x13_2 t226 _ _ _ (fun k_ => ((P1_0_ k_ ∨ P1_1_ k_) ∨ w.heap.size ≤ k_) ∧ some k_ ≠ (.slice Ao35 y238.length co35 : Value).ownBlock ∧ k_ ≠ gb221 ∧ k_ ≠ gb222 ∧ k_ ≠ gb249) (fun k_ => ((fun k_ => ((P1_0_ k_ ∨ P1_1_ k_) ∨ w.heap.size ≤ k_) ∧ some k_ ≠ (.slice Ao35 y238.length co35 : Value).ownBlock ∧ k_ ≠ gb221 ∧ k_ ≠ gb222 ∧ k_ ≠ gb249)) k_ ∧ some k_ ≠ (.slice Ao47 x13_2.length co47 : Value).ownBlock) rfl rfl ?aO ?aR (fun _ hk => hk) ?aF ?aB ?aS ?aL ?_; (case aR => exact (by skip; exact Kd.V_F (Kd.V_mono (ok' := (fun k_ => ((fun k_ => ((P1_0_ k_ ∨ P1_1_ k_) ∨ w.heap.size ≤ k_) ∧ some k_ ≠ (.slice Ao35 y238.length co35 : Value).ownBlock ∧ k_ ≠ gb221 ∧ k_ ≠ gb222 ∧ k_ ≠ gb249)) k_ ∧ some k_ ≠ (.slice Ao47 x13_2.length co47 : Value).ownBlock)) (HO_222001.out) (fun k_ hk => ⟨⟨hk.1, ⟨hk.2.1, ⟨hk.2.2.2.1, ⟨hk.2.2.2.2.1, hk.2.2.2.2.2⟩⟩⟩⟩, hk.2.2.1⟩)))); (case aB => exact (gB HB)); (case aF => exact (fun k_ hk => ⟨(.inr (Nat.le_trans (below_size (gB HB)) hk)), Kd.fresh' (Kd.R_lt (gR HO_8)) k_ hk, Kd.freshB (gK BK221) k_ hk, Kd.freshB (gK BK222) k_ hk, Kd.freshB (gK BK249) k_ hk⟩)); (case aO => exact (gN HO_13)); (case aS => exact (below_size (gB HB))); (case aL => have := LMc58.out; omega); intro v256 w62 ho hb hg hat; rw [← Ny255.out] at ho; replace HO_8 := gA (Kd.R_over' (gR HO_8) (Kd.N_typed (gN HO_13)) (by decide) hg); replace HO_222000 := gA (Kd.V_afterv (ok := (fun k_ => ((P1_0_ k_ ∨ P1_1_ k_) ∨ w.heap.size ≤ k_) ∧ some k_ ≠ (.slice Ao35 y238.length co35 : Value).ownBlock ∧ k_ ≠ gb221 ∧ k_ ≠ gb222 ∧ k_ ≠ gb249)) (Kd.V_mono HO_222000.out (fun _ hk => ⟨⟨hk.1, ⟨hk.2.1, ⟨hk.2.2.2.1, ⟨hk.2.2.2.2.1, hk.2.2.2.2.2⟩⟩⟩⟩, hk.2.2.1⟩)) hg hat); replace HO_222001 := gA (Kd.V_afterv (ok := (fun k_ => ((P1_0_ k_ ∨ P1_1_ k_) ∨ w.heap.size ≤ k_) ∧ some k_ ≠ (.slice Ao35 y238.length co35 : Value).ownBlock ∧ k_ ≠ gb221 ∧ k_ ≠ gb222 ∧ k_ ≠ gb249)) (Kd.V_mono HO_222001.out (fun _ hk => ⟨⟨hk.1, ⟨hk.2.1, ⟨hk.2.2.2.1, ⟨hk.2.2.2.2.1, hk.2.2.2.2.2⟩⟩⟩⟩, hk.2.2.1⟩)) hg hat); replace HO_250002 := gA (Kd.V_afterv (ok := (fun k_ => ((P1_0_ k_ ∨ P1_1_ k_) ∨ w.heap.size ≤ k_) ∧ some k_ ≠ (.slice Ao35 y238.length co35 : Value).ownBlock ∧ k_ ≠ gb221 ∧ k_ ≠ gb222 ∧ k_ ≠ gb249)) (Kd.V_mono HO_250002.out (fun _ hk => ⟨⟨hk.1, ⟨hk.2.1, ⟨hk.2.2.2.1, ⟨hk.2.2.2.2.1, hk.2.2.2.2.2⟩⟩⟩⟩, hk.2.2.1⟩)) hg hat); replace BK221 := gA (blk_grown (gK BK221) hg (Kd.N_ne HO_13.out BK221.out (by decide))); replace BK222 := gA (blk_grown (gK BK222) hg (Kd.N_ne HO_13.out BK222.out (by decide))); replace BK249 := gA (blk_grown (gK BK249) hg (Kd.N_away HO_13.out (fun _ hk => hk.2.2.2.2))); replace HB := gA (hb); have HO257 := gA (ho); clear HO_13 ho hb hg hat; obtain ⟨Ao63, co63, eo63⟩ := Kd.N_slice HO257.out; subst eo63; have hnb64 := NB222_249.out; have hnc64 := NB249_222.out; obtain ⟨hcz65_0, hcz65_1, hfz65_0, hfz65_1⟩ := gz2 BK222)))
       skip
       refine bodyPost_ret (results_ct rfl _ _ gb222 25 #[.slice Ao35 y238.length co35, .slice Ao63 y255.length co63] (0, 0) _ rfl (by refine blk_put (cs := #[.slice Ao35 y238.length co35, .slice none 0 0]) ?_ 1 _ rfl; refine blk_put (cs := #[.slice none 0 0, .slice none 0 0]) ?_ 0 _ rfl; exact gK BK222) Try.underlying25 rfl (by kernel_rfl)) rfl ?_
       exact ⟨_, _, by first | rfl | (simp [errW_none, errW_some] <;> rfl) | (simp only [← hji15, ← hji25]; first | rfl | (simp [errW_none, errW_some] <;> rfl)) | (simp [*, errW_none, errW_some] <;> rfl), Kd.R_mono (Kd.R_far (p := ⟨gb222, 1, none⟩) (Kd.R_far (p := ⟨gb222, 0, none⟩) (Kd.R_types HO_8.out BK222.out (by decide)) (fun _ hk => hk.2) (.slice Ao35 y238.length co35)) (fun _ hk => hk.2) (.slice Ao63 y255.length co63)) (fun _ hk => hk.1), Kd.N_mono (Kd.N_far (p := ⟨gb222, 1, none⟩) (Kd.N_far (p := ⟨gb222, 0, none⟩) (Kd.N_mono HO257.out (fun k_ hk => (⟨hk, hk.2.2.2.1⟩ : _ ∧ k_ ≠ gb222))) (fun _ hk => hk.2) (.slice Ao35 y238.length co35)) (fun _ hk => hk.2) (.slice Ao63 y255.length co63)) (fun _ hk => ⟨hk.1.1, hk.1.2.1⟩), by repeat first | exact gB HB | refine below_set ?_ GE221.out | refine below_set ?_ GE222.out | refine below_set ?_ GE249.out⟩
end Go.Proofs.Ytdihmempaonfjaa.P
