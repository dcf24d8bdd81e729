/- Written by a program of this session: the functions that the laws reach, what each comes to, and each law as it is stated, for every input. No condition. -/
import Derived.Test.YtdihmempaonfjaaPx0
import Derived.Test.YtdihmempaonfjaaPx1
import Derived.Test.YtdihmempaonfjaaPx3
namespace Go.Proofs.Ytdihmempaonfjaa.P
open Go.RowKit Go.Proofs.YtdihmempaonfjaaW.PrintWords Go.Proofs.YtdihmempaonfjaaW.PrintLast Go.Proofs.YtdihmempaonfjaaW.PrintMore
attribute [local go_sem] max2_int min2_int max_two min_two max_three min_three max_four min_four   -- for this text's walks alone
set_option linter.unusedVariables false
set_option linter.unusedSimpArgs false
def pick_number.f (l0_0 : List Int) (l0_1 : List (S45)) : Option (Int × Int) := if (l0_0.length : Int) > 0 then (none) else (if 0 < (l0_1.length : Int) then (if ((rd_T45 l0_1 0).f0) = 0 then (some ((rd_T45 l0_1 0).f1, 0)) else (none)) else (none))
set_option maxHeartbeats 8000000 in
set_option maxRecDepth 100000 in
theorem pick_number.calls (A0_0 : Option Addr) (c0_0 : Nat) (l0_0 : List Int) (A0_1 : Option Addr) (c0_1 : Nat) (l0_1 : List (S45)) (r1 : Int) (r2 : Int) (w : World) (hr0_0 : Kd.C (Kd.int .i64) w A0_0 l0_0.length l0_0) (hc0_0 : l0_0.length ≤ c0_0) (hr0_1 : Kd.C k45 w A0_1 l0_1.length l0_1) (hc0_1 : l0_1.length ≤ c0_1) (h : pick_number.f l0_0 l0_1 = some (r1, r2)) :
  Calls Try.prog 24 #[.agg #[.slice A0_0 l0_0.length c0_0, .slice A0_1 l0_1.length c0_1]] w fun e w' => e = .returned (.tuple #[.int .i64 r1, .int .i64 r2]) ∧ Below w.heap.size w w' := by
 have hu25 := Try.underlying25
 have HR0_0 := gA hr0_0
 have HC0_0 := gA hc0_0
 clear hr0_0 hc0_0
 have HR0_1 := gA hr0_1
 have HC0_1 := gA hc0_1
 clear hr0_1 hc0_1
 have HB := gA (Below.refl w.heap.size w)
 have H : (if (l0_0.length : Int) > 0 then (none) else (if 0 < (l0_1.length : Int) then (if ((rd_T45 l0_1 0).f0) = 0 then (some ((rd_T45 l0_1 0).f1, 0)) else (none)) else (none))) = some (r1, r2) := h
 clear h
 obtain ⟨c2, H⟩ := iN H
 have c2b0 : decide (0 < (l0_0.length : Int)) = false := decide_eq_false c2
 have c2b1 : decide (0 < l0_0.length) = false := decide_eq_false (by omega)
 clear c2
 obtain ⟨c3, H⟩ := iS H
 have c3b0 := decide_eq_true c3
 have c3b1 : decide (0 < l0_1.length) = true := decide_eq_true (by omega)
 clear c3
 obtain ⟨c4, H⟩ := iS H
 have c4b0 : (((rd_T45 l0_1 0).f0) == 0) = true := beq_iff_eq.mpr c4
 have c4b1 : (((rd_T45 l0_1 0).f0) != 0) = false := bne_eq_false_iff_eq.mpr c4
 clear c4
 simp only [Option.some.injEq, Prod.mk.injEq] at H
 obtain ⟨rfl, rfl⟩ := H
 go_enter Try.func24, Try.ntmps24
 go_wp2_with (first | ((with_reducible refine gate_dst (N := 1) rfl ?_); refine box_event ?hg (N := 1) ?hd (cs := #[.slice A0_0 l0_0.length c0_0, .slice A0_1 l0_1.length c0_1]) (t := 25) ?hr ?_; (case hd => rfl); (case hg => rfl); (case hr => first | (go_simp; done) | (go_simp; rfl)); intro gb266 hg w5 hbox hb; have BK266 := gA (hbox); have GW266 := gA ((by rw [hg]; exact (below_size (gB HB)) : w.heap.size ≤ gb266)); have GE266 := gA ((by rw [hg]; exact (below_size (gB HB)) : w.heap.size ≤ gb266)); replace HB := gA (below_step (gB HB) hb); clear hb hbox hg; obtain ⟨hcz6_0, hcz6_1, hfz6_0, hfz6_1⟩ := gz2 BK266; have p267 : 0 ≤ (0 : Int) := (by omega); have q267 : 0 < (l0_1.length : Int) := of_decide_eq_true (by assumption); obtain ⟨ad267, A267_2, c267_2, e267, hx267_0, hx267_1, hx267_2, hl267_2, hi267_2⟩ := at_T45 HR0_1.out 0 p267 q267; cases e267; have qi267 : (0 < l0_1.length) = True := eq_true (by omega); (try rw [show ((0 : Int)).toNat = 0 from rfl] at hx267_0); (try rw [show 0 * 3 = 0 from rfl] at hx267_0); (try rw [Addr.add_zero'] at hx267_0); (try rw [show ((0 : Int)).toNat = 0 from rfl] at hx267_1); (try rw [show 0 * 3 = 0 from rfl] at hx267_1); (try rw [Addr.add_zero'] at hx267_1); (try rw [show ((0 : Int)).toNat = 0 from rfl] at hx267_2); (try rw [show 0 * 3 = 0 from rfl] at hx267_2); (try rw [Addr.add_zero'] at hx267_2); replace hx267_0 := (HB.out.cell (World.block_lt_of_cell? w _ hx267_0)).trans hx267_0; replace hx267_1 := (HB.out.cell (World.block_lt_of_cell? w _ hx267_1)).trans hx267_1; replace hx267_2 := (HB.out.cell (World.block_lt_of_cell? w _ hx267_2)).trans hx267_2; have HR267_2 := gA hi267_2; have HC267_2 := gA hl267_2; clear hi267_2 hl267_2; replace p267 := eq_true p267; replace q267 := eq_true q267; have p268 : 0 ≤ (0 : Int) := (by omega); have q268 : 0 < (l0_1.length : Int) := of_decide_eq_true (by assumption); obtain ⟨ad268, A268_2, c268_2, e268, hx268_0, hx268_1, hx268_2, hl268_2, hi268_2⟩ := at_T45 HR0_1.out 0 p268 q268; obtain rfl : ad267 = ad268 := (by injection e268); have qi268 : (0 < l0_1.length) = True := eq_true (by omega); (try rw [show ((0 : Int)).toNat = 0 from rfl] at hx268_0); (try rw [show 0 * 3 = 0 from rfl] at hx268_0); (try rw [Addr.add_zero'] at hx268_0); (try rw [show ((0 : Int)).toNat = 0 from rfl] at hx268_1); (try rw [show 0 * 3 = 0 from rfl] at hx268_1); (try rw [Addr.add_zero'] at hx268_1); (try rw [show ((0 : Int)).toNat = 0 from rfl] at hx268_2); (try rw [show 0 * 3 = 0 from rfl] at hx268_2); (try rw [Addr.add_zero'] at hx268_2); replace hx268_0 := (HB.out.cell (World.block_lt_of_cell? w _ hx268_0)).trans hx268_0; replace hx268_1 := (HB.out.cell (World.block_lt_of_cell? w _ hx268_1)).trans hx268_1; replace hx268_2 := (HB.out.cell (World.block_lt_of_cell? w _ hx268_2)).trans hx268_2; have HR268_2 := gA hi268_2; have HC268_2 := gA hl268_2; clear hi268_2 hl268_2; replace p268 := eq_true p268; replace q268 := eq_true q268; have ea_ := Option.some.inj (hx267_2.symm.trans hx268_2); injection ea_ with ea_ en_ ec_; subst ea_; subst ec_; clear en_))
 go_ret2
 exact ⟨rfl, by repeat first | exact gB HB | refine below_set ?_ GE266.out⟩
def pick_filler.f (l0_0 : List Int) (l0_1 : List (S45)) : Option (Int × Int × (List (S25)) × Int) := if (l0_1.length : Int) = 0 then (none) else (if 0 < (l0_1.length : Int) then (if ((rd_T45 l0_1 0).f0) = 0 then (some (0, 0, ([] : List (S25)), 0)) else (if ((rd_T45 l0_1 0).f0) = 1 then (none) else (none))) else (none))
set_option maxHeartbeats 8000000 in
set_option maxRecDepth 100000 in
theorem pick_filler.calls (A0_0 : Option Addr) (c0_0 : Nat) (l0_0 : List Int) (A0_1 : Option Addr) (c0_1 : Nat) (l0_1 : List (S45)) (r1 : Int) (r2 : Int) (r3 : List (S25)) (r4 : Int) (w : World) (hr0_0 : Kd.C (Kd.int .i64) w A0_0 l0_0.length l0_0) (hc0_0 : l0_0.length ≤ c0_0) (hr0_1 : Kd.C k45 w A0_1 l0_1.length l0_1) (hc0_1 : l0_1.length ≤ c0_1) (h : pick_filler.f l0_0 l0_1 = some (r1, r2, r3, r4)) :
  Calls Try.prog 46 #[.agg #[.slice A0_0 l0_0.length c0_0, .slice A0_1 l0_1.length c0_1]] w fun e w' => ∃ v2_ : Value, e = .returned (.tuple #[.agg #[.int .i64 r1, .int .i64 r2, v2_], .int .i64 r4]) ∧ Kd.V k25 25 w' w.heap.size (fun k_ => (w.heap.size ≤ k_)) v2_ r3 ∧ Below w.heap.size w w' := by
 have hu25 := Try.underlying25
 have hu45 := Try.underlying45
 have HR0_0 := gA hr0_0
 have HC0_0 := gA hc0_0
 clear hr0_0 hc0_0
 have HR0_1 := gA hr0_1
 have HC0_1 := gA hc0_1
 clear hr0_1 hc0_1
 have HB := gA (Below.refl w.heap.size w)
 have H : (if (l0_1.length : Int) = 0 then (none) else (if 0 < (l0_1.length : Int) then (if ((rd_T45 l0_1 0).f0) = 0 then (some (0, 0, ([] : List (S25)), 0)) else (if ((rd_T45 l0_1 0).f0) = 1 then (none) else (none))) else (none))) = some (r1, r2, r3, r4) := h
 clear h
 obtain ⟨c2, H⟩ := iN H
 have c2b0 : ((l0_1.length : Int) == 0) = false := beq_eq_false_iff_ne.mpr c2
 have c2b1 : ((l0_1.length : Int) != 0) = true := bne_iff_ne.mpr c2
 have c2b2 : ¬ (l0_1 = []) := fun h_ => c2 (by rw [h_]; rfl)
 obtain ⟨c3, H⟩ := iS H
 have c3b0 := decide_eq_true c3
 have c3b1 : decide (0 < l0_1.length) = true := decide_eq_true (by omega)
 clear c3
 by_cases c4 : ((rd_T45 l0_1 0).f0) = 0
 ·rw [if_pos c4] at H
  have c4b0 : (((rd_T45 l0_1 0).f0) == 0) = true := beq_iff_eq.mpr c4
  have c4b1 : (((rd_T45 l0_1 0).f0) != 0) = false := bne_eq_false_iff_eq.mpr c4
  clear c4
  simp only [Option.some.injEq, Prod.mk.injEq] at H
  obtain ⟨rfl, rfl, rfl, rfl⟩ := H
  go_enter Try.func46, Try.ntmps46
  go_wp2_with (first | ((with_reducible refine gate_dst (N := 1) rfl ?_); refine box_event ?hg (N := 1) ?hd (cs := #[.slice A0_0 l0_0.length c0_0, .slice A0_1 l0_1.length c0_1]) (t := 25) ?hr ?_; (case hd => rfl); (case hg => rfl); (case hr => first | (go_simp; done) | (go_simp; rfl)); intro gb269 hg w5 hbox hb; have BK269 := gA (hbox); have GW269 := gA ((by rw [hg]; exact (below_size (gB HB)) : w.heap.size ≤ gb269)); have GE269 := gA ((by rw [hg]; exact (below_size (gB HB)) : w.heap.size ≤ gb269)); replace HB := gA (below_step (gB HB) hb); clear hb hbox hg) | ((with_reducible refine gate_dst (N := 2) rfl ?_); refine box_event ?hg (N := 2) ?hd (cs := #[.int .i64 0, .int .i64 0, .slice none 0 0]) (t := 45) ?hr ?_; (case hd => rfl); (case hg => rfl); (case hr => first | (go_simp; done) | (go_simp; rfl)); intro gb270 hg w6 hbox hb; have BK270 := gA (hbox); have GW270 := gA ((by rw [hg]; exact (below_size (gB HB)) : w.heap.size ≤ gb270)); have GE270 := gA ((by rw [hg]; exact (below_size (gB HB)) : w.heap.size ≤ gb270)); replace HB := gA (below_step (gB HB) hb); have NB269_270 := gA ((by rw [hg]; exact Nat.ne_of_lt (blk_lt (gK BK269)) : gb269 ≠ gb270)); have NB270_269 := gA ((by rw [hg]; exact Nat.ne_of_gt (blk_lt (gK BK269)) : gb270 ≠ gb269)); replace BK269 := gA (blk_below (gK BK269) hb); clear hb hbox hg; have hnb7 := NB269_270.out; have hnc7 := NB270_269.out; obtain ⟨hcz8_0, hcz8_1, hfz8_0, hfz8_1⟩ := gz2 BK269; have p271 : 0 ≤ (0 : Int) := (by omega); have q271 : 0 < (l0_1.length : Int) := of_decide_eq_true (by assumption); obtain ⟨ad271, A271_2, c271_2, e271, hx271_0, hx271_1, hx271_2, hl271_2, hi271_2⟩ := at_T45 HR0_1.out 0 p271 q271; cases e271; have qi271 : (0 < l0_1.length) = True := eq_true (by omega); (try rw [show ((0 : Int)).toNat = 0 from rfl] at hx271_0); (try rw [show 0 * 3 = 0 from rfl] at hx271_0); (try rw [Addr.add_zero'] at hx271_0); (try rw [show ((0 : Int)).toNat = 0 from rfl] at hx271_1); (try rw [show 0 * 3 = 0 from rfl] at hx271_1); (try rw [Addr.add_zero'] at hx271_1); (try rw [show ((0 : Int)).toNat = 0 from rfl] at hx271_2); (try rw [show 0 * 3 = 0 from rfl] at hx271_2); (try rw [Addr.add_zero'] at hx271_2); replace hx271_0 := (HB.out.cell (World.block_lt_of_cell? w _ hx271_0)).trans hx271_0; replace hx271_1 := (HB.out.cell (World.block_lt_of_cell? w _ hx271_1)).trans hx271_1; replace hx271_2 := (HB.out.cell (World.block_lt_of_cell? w _ hx271_2)).trans hx271_2; have HR271_2 := gA hi271_2; have HC271_2 := gA hl271_2; clear hi271_2 hl271_2; replace p271 := eq_true p271; replace q271 := eq_true q271; obtain ⟨hcz9_0, hcz9_1, hcz9_2, hfz9_0, hfz9_1, hfz9_2⟩ := gz3 BK270))
  refine bodyPost_ret (results_ct rfl _ _ gb270 45 #[.int .i64 0, .int .i64 0, .slice none 0 0] (0, 0) _ rfl (by refine blk_put (cs := #[.int .i64 0, .int .i64 0, .slice none 0 0]) ?_ 2 _ rfl; refine blk_put (cs := #[.int .i64 0, .int .i64 0, .slice none 0 0]) ?_ 1 _ rfl; refine blk_put (cs := #[.int .i64 0, .int .i64 0, .slice none 0 0]) ?_ 0 _ rfl; exact gK BK270) Try.underlying45 rfl (by kernel_rfl)) rfl ?_
  exact ⟨_, rfl, by first | exact Kd.R_nil _ _ _ _ _ | exact Kd.N_nil _ _ _ _ _ | exact Kd.V_nil _ _ _ _ _ | exact Kd.Q_nil _ _ _ _ _ | exact Kd.S_nil _ _ _ _ _, by repeat first | exact gB HB | refine below_set ?_ GE269.out | refine below_set ?_ GE270.out⟩
 ·rw [if_neg c4] at H
  have c4b0 : (((rd_T45 l0_1 0).f0) == 0) = false := beq_eq_false_iff_ne.mpr c4
  have c4b1 : (((rd_T45 l0_1 0).f0) != 0) = true := bne_iff_ne.mpr c4
  obtain ⟨c10, H⟩ := iN H
  exact absurd H (by simp)
mutual
def pick_take.j0 : Nat → Int → Bool → List Int → List (S45) → Option (List Int × (List (S45)) × Int)
 | 0, _, _, _, _ => none
 | k + 1, x0, x22, x274000, x274001 => if x22 = true then (none) else (if 0 < (x274000.length : Int) then ((some (([mx x0 (wrap64 (-x0))] : List Int) : List Int)).bind fun y282 => (if 1 ≤ (x274000.length : Int) then ((some (x274000.drop 1 : List Int)).bind fun y285 => (if y282.length + y285.length < 17592186044416 then ((some (y282 ++ y285 : List Int)).bind fun y290 => ((arr_Size.f k y290).bind fun bt293 => (if bt293.2 = 0 then (if (mx x0 (wrap64 (-x0))) ≤ (rd x274000 0) then (none) else ((pick_filler.f x274000 x274001).bind fun bt295 => (if bt295.2.2.2 = 0 then ((pick_inner.f k x274000 x274001).bind fun t302 => (if 0 ≤ (wrap64 ((wrap64 ((mx x0 (wrap64 (-x0))) - (rd x274000 0))) * t302)) then (if (wrap64 ((wrap64 ((mx x0 (wrap64 (-x0))) - (rd x274000 0))) * t302) : Int).toNat ≤ 7036874417766 then ((some (List.replicate (wrap64 ((wrap64 ((mx x0 (wrap64 (-x0))) - (rd x274000 0))) * t302) : Int).toNat z45 : List (S45))).bind fun y303 => (pick_take.l0 k x0 y290 y303 (y303.length : Int) 0 x274000 x274001 bt295.1 bt295.2.1 bt295.2.2.1)) else (none)) else (none))) else (none)))) else (none)))) else (none))) else (none))) else (none))
def pick_take.l0 : Nat → Int → List Int → List (S45) → Int → Int → List Int → List (S45) → Int → Int → List (S25) → Option (List Int × (List (S45)) × Int)
 | 0, _, _, _, _, _, _, _, _, _, _ => none
 | k + 1, x0, x8, x13, x78, x79, x274000, x274001, x302000, x302001, x302002 => if x79 < x78 then (if 0 ≤ x79 then (if x79 < (x13.length : Int) then (pick_take.l0 k x0 x8 (x13.set (x79 : Int).toNat (⟨x302000, x302001, x302002⟩ : S45)) x78 (wrap64 (x79 + 1)) x274000 x274001 x302000 x302001 x302002) else (none)) else (none)) else (if x0 < 0 then (if x13.length + x274001.length < 3518437208883 then (some (x8, (x13 ++ x274001), 0)) else (none)) else (none))
end
def pick_take.f (k : Nat) (a0 : Int) (l1_0 : List Int) (l1_1 : List (S45)) : Option (List Int × (List (S45)) × Int) := (pick_listed.f l1_0 l1_1).bind fun bt275 => (if a0 > 16384 then (pick_take.j0 k a0 true bt275.1 bt275.2) else (pick_take.j0 k a0 (decide (a0 < (-16384))) bt275.1 bt275.2))
theorem pick_take.mono_l : ∀ k, (∀ y0 y1 y2 y3, LeO (pick_take.j0 k y0 y1 y2 y3) (pick_take.j0 (k + 1) y0 y1 y2 y3)) ∧ (∀ y0 y1 y2 y3 y4 y5 y6 y7 y8 y9, LeO (pick_take.l0 k y0 y1 y2 y3 y4 y5 y6 y7 y8 y9) (pick_take.l0 (k + 1) y0 y1 y2 y3 y4 y5 y6 y7 y8 y9))
 | 0 => ⟨fun _ _ _ _ r h => by simp [pick_take.j0] at h, fun _ _ _ _ _ _ _ _ _ _ r h => by simp [pick_take.l0] at h⟩
 | k + 1 => by
  obtain ⟨ih0, ih1⟩ := pick_take.mono_l k
  refine ⟨?_, ?_⟩
  ·intro y0 y1 y2 y3
   unfold pick_take.j0
   repeat' first
   | (with_reducible exact ih0 _ _ _ _)
   | (with_reducible exact ih1 _ _ _ _ _ _ _ _ _ _)
   | (with_reducible exact arr_Size.mono _ _)
   | (with_reducible exact pick_inner.mono _ _ _)
   | (with_reducible exact LeO.refl _)
   | (with_reducible exact LeO.none _)
   | (with_reducible refine LeO.ite ?_ ?_)
   | (with_reducible refine LeO.bind ?_ (fun _ => ?_))


   | exact arr_Size.mono _ _
   | exact pick_inner.mono _ _ _



  ·intro y0 y1 y2 y3 y4 y5 y6 y7 y8 y9
   unfold pick_take.l0
   repeat' first
   | (with_reducible exact ih0 _ _ _ _)
   | (with_reducible exact ih1 _ _ _ _ _ _ _ _ _ _)
   | (with_reducible exact arr_Size.mono _ _)
   | (with_reducible exact pick_inner.mono _ _ _)
   | (with_reducible exact LeO.refl _)
   | (with_reducible exact LeO.none _)
   | (with_reducible refine LeO.ite ?_ ?_)
   | (with_reducible refine LeO.bind ?_ (fun _ => ?_))


   | exact arr_Size.mono _ _
   | exact pick_inner.mono _ _ _
theorem pick_take.mono : ∀ a0 a1 a2 k, LeO (pick_take.f k a0 a1 a2) (pick_take.f (k + 1) a0 a1 a2) := by
 intro a0 a1 a2 k
 obtain ⟨ih0, ih1⟩ := pick_take.mono_l k
 unfold pick_take.f
 repeat' first
   | (with_reducible exact ih0 _ _ _ _)
   | (with_reducible exact ih1 _ _ _ _ _ _ _ _ _ _)
   | (with_reducible exact arr_Size.mono _ _)
   | (with_reducible exact pick_inner.mono _ _ _)
   | (with_reducible exact LeO.refl _)
   | (with_reducible exact LeO.none _)
   | (with_reducible refine LeO.ite ?_ ?_)
   | (with_reducible refine LeO.bind ?_ (fun _ => ?_))


   | exact arr_Size.mono _ _
   | exact pick_inner.mono _ _ _
set_option maxHeartbeats 8000000 in
set_option maxRecDepth 100000 in
theorem pick_take.calls (k : Nat) (a0 : Int) (P1_0_ : Nat → Prop) (A1_0 : Option Addr) (c1_0 : Nat) (l1_0 : List Int) (P1_1_ : Nat → Prop) (A1_1 : Option Addr) (c1_1 : Nat) (l1_1 : List (S45)) (r1 : List Int) (r2 : List (S45)) (r3 : Int) (w : World) (hs1_0 : Kd.V (Kd.int .i64) 3 w w.heap.size (fun k_ => P1_0_ k_) (.slice A1_0 l1_0.length c1_0) l1_0) (hs1_1 : Kd.V k45 45 w w.heap.size (fun k_ => P1_1_ k_) (.slice A1_1 l1_1.length c1_1) l1_1) (h : pick_take.f k a0 l1_0 l1_1 = some (r1, r2, r3)) :
  Calls Try.prog 25 #[.int .i64 a0, .agg #[.slice A1_0 l1_0.length c1_0, .slice A1_1 l1_1.length c1_1]] w fun e w' => ∃ v0_ v1_ : Value, e = .returned (.tuple #[.agg #[v0_, v1_], .int .i64 r3]) ∧ Kd.R (Kd.int .i64) 3 w' w.heap.size (fun k_ => (w.heap.size ≤ k_)) v0_ r1 ∧ Kd.N k45 45 w' w.heap.size (fun k_ => ((P1_0_ k_ ∨ P1_1_ k_) ∨ w.heap.size ≤ k_) ∧ some k_ ≠ (v0_ : Value).ownBlock) v1_ r2 ∧ Below w.heap.size w w' := by
 have hu25 := Try.underlying25
 have hu45 := Try.underlying45
 have HO1_0 := gA (show Kd.V (Kd.int .i64) 3 w w.heap.size (fun k_ => ((P1_0_ k_ ∨ P1_1_ k_) ∨ w.heap.size ≤ k_)) (.slice A1_0 l1_0.length c1_0) l1_0 from Kd.V_mono hs1_0 (fun k_ hk => .inl (.inl hk)))
 have HO1_1 := gA (show Kd.V k45 45 w w.heap.size (fun k_ => ((P1_0_ k_ ∨ P1_1_ k_) ∨ w.heap.size ≤ k_)) (.slice A1_1 l1_1.length c1_1) l1_1 from Kd.V_mono hs1_1 (fun k_ hk => .inl (.inr hk)))
 have HB := gA (Below.refl w.heap.size w)
 have H : ((pick_listed.f l1_0 l1_1).bind fun bt275 => (if a0 > 16384 then (pick_take.j0 k a0 true bt275.1 bt275.2) else (pick_take.j0 k a0 (decide (a0 < (-16384))) bt275.1 bt275.2))) = some (r1, r2, r3) := h
 clear h
 replace H := Option.bind_eq_some_iff.mp H
 obtain ⟨⟨t275, t278⟩, A30, H⟩ := H
 replace H : (if a0 > 16384 then (pick_take.j0 k a0 true t275 t278) else (pick_take.j0 k a0 (decide (a0 < (-16384))) t275 t278)) = some (r1, r2, r3) := H
 have A3 := gA A30
 clear A30
 have HC4 := gA H
 clear H
 go_enter Try.func25, Try.ntmps25
 iterate 6 ((try go_quiet (fail)); (try go_upto_region 2 with (first | ((with_reducible refine gate_dst (N := 3) rfl ?_); refine box_event ?hg (N := 3) ?hd (cs := #[.slice A1_0 l1_0.length c1_0, .slice A1_1 l1_1.length c1_1]) (t := 25) ?hr ?_; (case hd => rfl); (case hg => rfl); (case hr => first | (go_simp; done) | (go_simp; rfl)); intro gb273 hg w5 hbox hb; replace HO1_0 := gA (Kd.V_below (Kd.V_elderB (gV HO1_0) gb273 (Nat.le_of_eq hg.symm)) hb); replace HO1_1 := gA (Kd.V_below (Kd.V_elderB (gV HO1_1) gb273 (Nat.le_of_eq hg.symm)) hb); have BK273 := gA (hbox); have GW273 := gA ((by rw [hg]; exact (below_size (gB HB)) : w.heap.size ≤ gb273)); have GE273 := gA ((by rw [hg]; exact (below_size (gB HB)) : w.heap.size ≤ gb273)); replace HB := gA (below_step (gB HB) hb); clear hb hbox hg) | ((with_reducible refine gate_dst (N := 4) rfl ?_); refine box_event ?hg (N := 4) ?hd (cs := #[.slice none 0 0, .slice none 0 0]) (t := 25) ?hr ?_; (case hd => rfl); (case hg => rfl); (case hr => first | (go_simp; done) | (go_simp; rfl)); intro gb274 hg w6 hbox hb; replace HO1_0 := gA (Kd.V_below (Kd.V_elderB (gV HO1_0) gb274 (Nat.le_of_eq hg.symm)) hb); replace HO1_1 := gA (Kd.V_below (Kd.V_elderB (gV HO1_1) gb274 (Nat.le_of_eq hg.symm)) hb); have BK274 := gA (hbox); have GW274 := gA ((by rw [hg]; exact (below_size (gB HB)) : w.heap.size ≤ gb274)); have GE274 := gA ((by rw [hg]; exact (below_size (gB HB)) : w.heap.size ≤ gb274)); replace HB := gA (below_step (gB HB) hb); have NB273_274 := gA ((by rw [hg]; exact Nat.ne_of_lt (blk_lt (gK BK273)) : gb273 ≠ gb274)); have NB274_273 := gA ((by rw [hg]; exact Nat.ne_of_gt (blk_lt (gK BK273)) : gb274 ≠ gb273)); replace BK273 := gA (blk_below (gK BK273) hb); clear hb hbox hg; have hnb7 := NB273_274.out; have hnc7 := NB274_273.out; obtain ⟨hcz8_0, hcz8_1, hfz8_0, hfz8_1⟩ := gz2 BK273) | (go_at_call 43; (with_reducible refine (pick_listed.calls (fun k_ => ((((P1_0_ k_ ∨ P1_1_ k_) ∨ w.heap.size ≤ k_) ∧ k_ ≠ gb273) ∧ k_ ≠ gb274)) _ _ l1_0 (fun k_ => ((((P1_0_ k_ ∨ P1_1_ k_) ∨ w.heap.size ≤ k_) ∧ k_ ≠ gb273) ∧ k_ ≠ gb274)) _ _ l1_1 t275 t278 _ ?side1 ?side2 A3.out).mono ?_); (case side1 => exact HO1_0.out); (case side2 => exact HO1_1.out); rintro e w9 ⟨v276, v279, rfl, ho0, ho1, hb⟩; replace HO1_0 := gA (Kd.V_below (gV HO1_0) hb); replace HO1_1 := gA (Kd.V_below (gV HO1_1) hb); have HO277 := gA (Kd.V_lower (Kd.V_mono (ok' := fun k_ => ((P1_0_ k_ ∨ P1_1_ k_) ∨ w.heap.size ≤ k_) ∧ k_ ≠ gb273 ∧ k_ ≠ gb274) ho0 (fun k_ hk_ => ⟨Or.elim hk_ (fun hs_ => Or.elim hs_ (fun hs_ => hs_.1.1) (fun hs_ => hs_.1.1)) (fun hn_ => (.inr (Nat.le_trans (below_size (gB HB)) hn_))), Or.elim hk_ (fun hs_ => Or.elim hs_ (fun hs_ => hs_.1.2) (fun hs_ => hs_.1.2)) (fun hn_ => (Kd.freshB (gK BK273) k_ hn_)), Or.elim hk_ (fun hs_ => Or.elim hs_ (fun hs_ => hs_.2) (fun hs_ => hs_.2)) (fun hn_ => (Kd.freshB (gK BK274) k_ hn_))⟩)) (below_size (gB HB))); have HO280 := gA (Kd.V_lower (Kd.V_mono (ok' := fun k_ => ((P1_0_ k_ ∨ P1_1_ k_) ∨ w.heap.size ≤ k_) ∧ k_ ≠ gb273 ∧ k_ ≠ gb274) ho1 (fun k_ hk_ => ⟨Or.elim hk_ (fun hs_ => Or.elim hs_ (fun hs_ => hs_.1.1) (fun hs_ => hs_.1.1)) (fun hn_ => (.inr (Nat.le_trans (below_size (gB HB)) hn_))), Or.elim hk_ (fun hs_ => Or.elim hs_ (fun hs_ => hs_.1.2) (fun hs_ => hs_.1.2)) (fun hn_ => (Kd.freshB (gK BK273) k_ hn_)), Or.elim hk_ (fun hs_ => Or.elim hs_ (fun hs_ => hs_.2) (fun hs_ => hs_.2)) (fun hn_ => (Kd.freshB (gK BK274) k_ hn_))⟩)) (below_size (gB HB))); replace BK273 := gA (blk_below (gK BK273) hb); replace BK274 := gA (blk_below (gK BK274) hb); replace HB := gA (below_step (gB HB) hb); (try clear hb); (try clear ho0); (try clear ho1); obtain ⟨Ao10, co10, eo10⟩ := Kd.V_slice HO277.out; subst eo10; obtain ⟨hcz11_0, hcz11_1, hfz11_0, hfz11_1⟩ := gz2 BK273; obtain ⟨Ao12, co12, eo12⟩ := Kd.V_slice HO280.out; subst eo12))))
 skip
 (try simp only [Act.put, List.setIfInBounds_toArray, List.set_cons_zero, List.set_cons_succ])
 go_cut [22] (fun v22 wc => ∃ (kq : Nat) (x22_3 : Bool), v22 = .bool x22_3 ∧ Aside0 (pick_take.j0 kq a0 x22_3 t275 t278 = some (r1, r2, r3)) ∧ Aside0 (kq ≤ k) ∧ Aside0 (Kd.V (Kd.int .i64) 3 wc w.heap.size (fun k_ => ((P1_0_ k_ ∨ P1_1_ k_) ∨ w.heap.size ≤ k_) ∧ k_ ≠ gb273 ∧ k_ ≠ gb274) (.slice Ao10 t275.length co10) t275) ∧ Aside0 (Kd.V k45 45 wc w.heap.size (fun k_ => ((P1_0_ k_ ∨ P1_1_ k_) ∨ w.heap.size ≤ k_) ∧ k_ ≠ gb273 ∧ k_ ≠ gb274) (.slice Ao12 t278.length co12) t278) ∧ Aside0 (wc.heap[gb273]? = some (.cells #[(.slice Ao10 t275.length co10), (.slice Ao12 t278.length co12)] 25 (0, 0))) ∧ Aside0 (wc.heap[gb274]? = some (.cells #[(.slice none 0 0), (.slice none 0 0)] 25 (0, 0))) ∧ Aside0 (Below w.heap.size w wc))
 case first =>
  have H := HC4.out; clear HC4
  by_cases c13 : a0 > 16384
  ·rw [if_pos c13] at H
   have c13b0 : decide (16384 < a0) = true := decide_eq_true c13
   clear c13
   (first | rw [c13b0] | (simp only [i64_w, i32_w]; rw [c13b0]) | skip)
   have H' := gA H
   clear H
   go_wp2
   repeat (go_quiet (fail); try go_wp2)
   all_goals (go_meet; (case rel => exact ⟨_, (true), (by first | rfl | (simp; done) | (simp [*]; done) | (exfalso; simp_all; done) | (exfalso; simp_all; omega)), H', ⟨by first | omega | exact Nat.le_refl _⟩, ⟨Kd.V_mono (Kd.V_far (p := ⟨gb273, 1, none⟩) (Kd.V_far (p := ⟨gb273, 0, none⟩) (Kd.V_mono HO277.out (fun k_ hk => (⟨hk, hk.2.1⟩ : _ ∧ k_ ≠ gb273))) (fun _ hk => hk.2) (.slice Ao10 t275.length co10)) (fun _ hk => hk.2) (.slice Ao12 t278.length co12)) (fun _ hk => ⟨hk.1.1, ⟨hk.1.2.1, hk.1.2.2⟩⟩)⟩, ⟨Kd.V_mono (Kd.V_far (p := ⟨gb273, 1, none⟩) (Kd.V_far (p := ⟨gb273, 0, none⟩) (Kd.V_mono HO280.out (fun k_ hk => (⟨hk, hk.2.1⟩ : _ ∧ k_ ≠ gb273))) (fun _ hk => hk.2) (.slice Ao10 t275.length co10)) (fun _ hk => hk.2) (.slice Ao12 t278.length co12)) (fun _ hk => ⟨hk.1.1, ⟨hk.1.2.1, hk.1.2.2⟩⟩)⟩, ⟨by (with_reducible repeat (first | refine blk_drewN ?_ _ | refine blk_drew ?_ | refine blk_alloc ?_ _)); refine blk_put (cs := #[.slice Ao10 t275.length co10, .slice A1_1 l1_1.length c1_1]) ?_ 1 _ rfl; (with_reducible repeat (first | refine blk_drewN ?_ _ | refine blk_drew ?_ | refine blk_alloc ?_ _)); refine blk_put (cs := #[.slice A1_0 l1_0.length c1_0, .slice A1_1 l1_1.length c1_1]) ?_ 0 _ rfl; exact gK BK273⟩, ⟨by (with_reducible repeat (first | refine blk_drewN ?_ _ | refine blk_drew ?_ | refine blk_alloc ?_ _)); refine blk_far ?_ NB274_273.out _; (with_reducible repeat (first | refine blk_drewN ?_ _ | refine blk_drew ?_ | refine blk_alloc ?_ _)); refine blk_far ?_ NB274_273.out _; exact gK BK274⟩, ⟨by repeat first | exact gB HB | refine below_set ?_ GE273.out | refine below_set ?_ GE274.out⟩⟩))
  ·rw [if_neg c13] at H
   have c13b0 : decide (16384 < a0) = false := decide_eq_false c13
   clear c13
   (first | rw [c13b0] | (simp only [i64_w, i32_w]; rw [c13b0]) | skip)
   have H' := gA H
   clear H
   go_wp2
   repeat (go_quiet (fail); try go_wp2)
   all_goals (go_meet; (case rel => exact ⟨_, (decide (a0 < (-16384))), (by first | rfl | (simp; done) | (simp [*]; done) | (exfalso; simp_all; done) | (exfalso; simp_all; omega)), H', ⟨by first | omega | exact Nat.le_refl _⟩, ⟨Kd.V_mono (Kd.V_far (p := ⟨gb273, 1, none⟩) (Kd.V_far (p := ⟨gb273, 0, none⟩) (Kd.V_mono HO277.out (fun k_ hk => (⟨hk, hk.2.1⟩ : _ ∧ k_ ≠ gb273))) (fun _ hk => hk.2) (.slice Ao10 t275.length co10)) (fun _ hk => hk.2) (.slice Ao12 t278.length co12)) (fun _ hk => ⟨hk.1.1, ⟨hk.1.2.1, hk.1.2.2⟩⟩)⟩, ⟨Kd.V_mono (Kd.V_far (p := ⟨gb273, 1, none⟩) (Kd.V_far (p := ⟨gb273, 0, none⟩) (Kd.V_mono HO280.out (fun k_ hk => (⟨hk, hk.2.1⟩ : _ ∧ k_ ≠ gb273))) (fun _ hk => hk.2) (.slice Ao10 t275.length co10)) (fun _ hk => hk.2) (.slice Ao12 t278.length co12)) (fun _ hk => ⟨hk.1.1, ⟨hk.1.2.1, hk.1.2.2⟩⟩)⟩, ⟨by (with_reducible repeat (first | refine blk_drewN ?_ _ | refine blk_drew ?_ | refine blk_alloc ?_ _)); refine blk_put (cs := #[.slice Ao10 t275.length co10, .slice A1_1 l1_1.length c1_1]) ?_ 1 _ rfl; (with_reducible repeat (first | refine blk_drewN ?_ _ | refine blk_drew ?_ | refine blk_alloc ?_ _)); refine blk_put (cs := #[.slice A1_0 l1_0.length c1_0, .slice A1_1 l1_1.length c1_1]) ?_ 0 _ rfl; exact gK BK273⟩, ⟨by (with_reducible repeat (first | refine blk_drewN ?_ _ | refine blk_drew ?_ | refine blk_alloc ?_ _)); refine blk_far ?_ NB274_273.out _; (with_reducible repeat (first | refine blk_drewN ?_ _ | refine blk_drew ?_ | refine blk_alloc ?_ _)); refine blk_far ?_ NB274_273.out _; exact gK BK274⟩, ⟨by repeat first | exact gB HB | refine below_set ?_ GE273.out | refine below_set ?_ GE274.out⟩⟩))
 case rest =>
  clear HC4
  try clear c1
  try clear c2
  try clear p2
  try clear c7
  try clear c13
  try clear c13b0
  try clear hcz11_0
  try clear hcz11_1
  try clear hcz8_0
  try clear hcz8_1
  try clear hfz11_0
  try clear hfz11_1
  try clear hfz8_0
  try clear hfz8_1
  obtain ⟨kq, x22_3, rfl, HA, HJ3, HO_274000, HO_274001, BK273, BK274, HB⟩ := hcut
  cases kq with
  | zero => exact absurd HA.out (by simp [pick_take.j0])
  | succ kj3 =>
   have H := HA.out; clear HA
   simp only [pick_take.j0] at H
   by_cases c14 : x22_3 = true
   ·subst c14
    have H1 : (none) = some (r1, r2, r3) := by rw [if_pos rfl] at H; exact H
    clear H; have H := H1; clear H1
    exact absurd H (by simp)
   ·replace c14 := Bool.eq_false_iff.mpr c14
    subst c14
    have H1 : (if 0 < (t275.length : Int) then ((some (([mx a0 (wrap64 (-a0))] : List Int) : List Int)).bind fun y282 => (if 1 ≤ (t275.length : Int) then ((some (t275.drop 1 : List Int)).bind fun y285 => (if y282.length + y285.length < 17592186044416 then ((some (y282 ++ y285 : List Int)).bind fun y290 => ((arr_Size.f kj3 y290).bind fun bt293 => (if bt293.2 = 0 then (if (mx a0 (wrap64 (-a0))) ≤ (rd t275 0) then (none) else ((pick_filler.f t275 t278).bind fun bt295 => (if bt295.2.2.2 = 0 then ((pick_inner.f kj3 t275 t278).bind fun t302 => (if 0 ≤ (wrap64 ((wrap64 ((mx a0 (wrap64 (-a0))) - (rd t275 0))) * t302)) then (if (wrap64 ((wrap64 ((mx a0 (wrap64 (-a0))) - (rd t275 0))) * t302) : Int).toNat ≤ 7036874417766 then ((some (List.replicate (wrap64 ((wrap64 ((mx a0 (wrap64 (-a0))) - (rd t275 0))) * t302) : Int).toNat z45 : List (S45))).bind fun y303 => (pick_take.l0 kj3 a0 y290 y303 (y303.length : Int) 0 t275 t278 bt295.1 bt295.2.1 bt295.2.2.1)) else (none)) else (none))) else (none)))) else (none)))) else (none))) else (none))) else (none)) = some (r1, r2, r3) := by rw [if_neg (show ¬ (false = true) by decide)] at H; exact H
    clear H; have H := H1; clear H1
    obtain ⟨ji15, hji15⟩ : ∃ j_ : Int, (mx a0 (wrap64 (-a0))) = j_ := ⟨_, rfl⟩
    replace H : (if 0 < (t275.length : Int) then ((some (([ji15] : List Int) : List Int)).bind fun y282 => (if 1 ≤ (t275.length : Int) then ((some (t275.drop 1 : List Int)).bind fun y285 => (if y282.length + y285.length < 17592186044416 then ((some (y282 ++ y285 : List Int)).bind fun y290 => ((arr_Size.f kj3 y290).bind fun bt293 => (if bt293.2 = 0 then (if (ji15) ≤ (rd t275 0) then (none) else ((pick_filler.f t275 t278).bind fun bt295 => (if bt295.2.2.2 = 0 then ((pick_inner.f kj3 t275 t278).bind fun t302 => (if 0 ≤ (wrap64 ((wrap64 ((ji15) - (rd t275 0))) * t302)) then (if (wrap64 ((wrap64 ((ji15) - (rd t275 0))) * t302) : Int).toNat ≤ 7036874417766 then ((some (List.replicate (wrap64 ((wrap64 ((ji15) - (rd t275 0))) * t302) : Int).toNat z45 : List (S45))).bind fun y303 => (pick_take.l0 kj3 a0 y290 y303 (y303.length : Int) 0 t275 t278 bt295.1 bt295.2.1 bt295.2.2.1)) else (none)) else (none))) else (none)))) else (none)))) else (none))) else (none))) else (none)) = some (r1, r2, r3) := by first | (rw [hji15] at H; exact H) | (simp only [hji15] at H ⊢; exact H)
    have hji15_ : (if a0 < (wrap64 (-a0)) then (wrap64 (-a0)) else a0) = ji15 := hji15
    obtain ⟨c16, H⟩ := iS H
    have c16b0 := decide_eq_true c16; have c16b0z := c16b0; (try rw [hl13_2] at c16b0z)
    have c16b1 : decide (0 < t275.length) = true := decide_eq_true (by omega)
    clear c16
    obtain ⟨y282, hy282⟩ : ∃ y_ : List Int, y_ = (([ji15] : List Int)) := ⟨_, rfl⟩
    replace H : (if 1 ≤ (t275.length : Int) then ((some (t275.drop 1 : List Int)).bind fun y285 => (if y282.length + y285.length < 17592186044416 then ((some (y282 ++ y285 : List Int)).bind fun y290 => ((arr_Size.f kj3 y290).bind fun bt293 => (if bt293.2 = 0 then (if (ji15) ≤ (rd t275 0) then (none) else ((pick_filler.f t275 t278).bind fun bt295 => (if bt295.2.2.2 = 0 then ((pick_inner.f kj3 t275 t278).bind fun t302 => (if 0 ≤ (wrap64 ((wrap64 ((ji15) - (rd t275 0))) * t302)) then (if (wrap64 ((wrap64 ((ji15) - (rd t275 0))) * t302) : Int).toNat ≤ 7036874417766 then ((some (List.replicate (wrap64 ((wrap64 ((ji15) - (rd t275 0))) * t302) : Int).toNat z45 : List (S45))).bind fun y303 => (pick_take.l0 kj3 a0 y290 y303 (y303.length : Int) 0 t275 t278 bt295.1 bt295.2.1 bt295.2.2.1)) else (none)) else (none))) else (none)))) else (none)))) else (none))) else (none)) = some (r1, r2, r3) := by first | (rw [hy282]; with_reducible exact H) | (have H2_ := (Option.bind_some _ _).symm.trans H; rw [hy282]; with_reducible exact H2_) | (have H2_ := (Option.bind_some _ _).symm.trans H; with_reducible exact H2_) | with_reducible exact H | (rw [hy282]; exact H) | exact H
    have Ny282 := gA hy282
    clear hy282
    obtain ⟨c17, H⟩ := iS H
    have c17b0 := eq_true c17
    have c17b1 := decide_eq_true c17
    clear c17
    obtain ⟨y285, hy285⟩ : ∃ y_ : List Int, y_ = (t275.drop 1) := ⟨_, rfl⟩
    replace H : (if y282.length + y285.length < 17592186044416 then ((some (y282 ++ y285 : List Int)).bind fun y290 => ((arr_Size.f kj3 y290).bind fun bt293 => (if bt293.2 = 0 then (if (ji15) ≤ (rd t275 0) then (none) else ((pick_filler.f t275 t278).bind fun bt295 => (if bt295.2.2.2 = 0 then ((pick_inner.f kj3 t275 t278).bind fun t302 => (if 0 ≤ (wrap64 ((wrap64 ((ji15) - (rd t275 0))) * t302)) then (if (wrap64 ((wrap64 ((ji15) - (rd t275 0))) * t302) : Int).toNat ≤ 7036874417766 then ((some (List.replicate (wrap64 ((wrap64 ((ji15) - (rd t275 0))) * t302) : Int).toNat z45 : List (S45))).bind fun y303 => (pick_take.l0 kj3 a0 y290 y303 (y303.length : Int) 0 t275 t278 bt295.1 bt295.2.1 bt295.2.2.1)) else (none)) else (none))) else (none)))) else (none)))) else (none)) = some (r1, r2, r3) := by first | (rw [hy285]; with_reducible exact H) | (have H2_ := (Option.bind_some _ _).symm.trans H; rw [hy285]; with_reducible exact H2_) | (have H2_ := (Option.bind_some _ _).symm.trans H; with_reducible exact H2_) | with_reducible exact H | (rw [hy285]; exact H) | exact H
    have Ny285 := gA hy285
    clear hy285
    obtain ⟨c18, H⟩ := iS H
    have LMc18 := gA c18
    clear c18
    obtain ⟨y290, hy290⟩ : ∃ y_ : List Int, y_ = (y282 ++ y285) := ⟨_, rfl⟩
    replace H : ((arr_Size.f kj3 y290).bind fun bt293 => (if bt293.2 = 0 then (if (ji15) ≤ (rd t275 0) then (none) else ((pick_filler.f t275 t278).bind fun bt295 => (if bt295.2.2.2 = 0 then ((pick_inner.f kj3 t275 t278).bind fun t302 => (if 0 ≤ (wrap64 ((wrap64 ((ji15) - (rd t275 0))) * t302)) then (if (wrap64 ((wrap64 ((ji15) - (rd t275 0))) * t302) : Int).toNat ≤ 7036874417766 then ((some (List.replicate (wrap64 ((wrap64 ((ji15) - (rd t275 0))) * t302) : Int).toNat z45 : List (S45))).bind fun y303 => (pick_take.l0 kj3 a0 y290 y303 (y303.length : Int) 0 t275 t278 bt295.1 bt295.2.1 bt295.2.2.1)) else (none)) else (none))) else (none)))) else (none))) = some (r1, r2, r3) := by first | (rw [hy290]; with_reducible exact H) | (have H2_ := (Option.bind_some _ _).symm.trans H; rw [hy290]; with_reducible exact H2_) | (have H2_ := (Option.bind_some _ _).symm.trans H; with_reducible exact H2_) | with_reducible exact H | (rw [hy290]; exact H) | exact H
    have Ny290 := gA hy290
    clear hy290
    replace H := Option.bind_eq_some_iff.mp H
    obtain ⟨⟨t293, t294⟩, A190, H⟩ := H
    replace H : (if t294 = 0 then (if (ji15) ≤ (rd t275 0) then (none) else ((pick_filler.f t275 t278).bind fun bt295 => (if bt295.2.2.2 = 0 then ((pick_inner.f kj3 t275 t278).bind fun t302 => (if 0 ≤ (wrap64 ((wrap64 ((ji15) - (rd t275 0))) * t302)) then (if (wrap64 ((wrap64 ((ji15) - (rd t275 0))) * t302) : Int).toNat ≤ 7036874417766 then ((some (List.replicate (wrap64 ((wrap64 ((ji15) - (rd t275 0))) * t302) : Int).toNat z45 : List (S45))).bind fun y303 => (pick_take.l0 kj3 a0 y290 y303 (y303.length : Int) 0 t275 t278 bt295.1 bt295.2.1 bt295.2.2.1)) else (none)) else (none))) else (none)))) else (none)) = some (r1, r2, r3) := H
    have A19 := gA A190
    clear A190
    obtain ⟨c20, H⟩ := iS H
    have c20b0 : (t294 == 0) = true := beq_iff_eq.mpr c20
    have c20b1 : (t294 != 0) = false := bne_eq_false_iff_eq.mpr c20
    clear c20
    obtain ⟨c21, H⟩ := iN H
    have c21b0 := decide_eq_false c21; have c21b0z := c21b0; (try rw [hl13_2] at c21b0z)
    clear c21
    replace H := Option.bind_eq_some_iff.mp H
    obtain ⟨⟨t295, t296, t297, t300⟩, A220, H⟩ := H
    replace H : (if t300 = 0 then ((pick_inner.f kj3 t275 t278).bind fun t302 => (if 0 ≤ (wrap64 ((wrap64 ((ji15) - (rd t275 0))) * t302)) then (if (wrap64 ((wrap64 ((ji15) - (rd t275 0))) * t302) : Int).toNat ≤ 7036874417766 then ((some (List.replicate (wrap64 ((wrap64 ((ji15) - (rd t275 0))) * t302) : Int).toNat z45 : List (S45))).bind fun y303 => (pick_take.l0 kj3 a0 y290 y303 (y303.length : Int) 0 t275 t278 t295 t296 t297)) else (none)) else (none))) else (none)) = some (r1, r2, r3) := H
    have A22 := gA A220
    clear A220
    obtain ⟨c23, H⟩ := iS H
    have c23b0 : (t300 == 0) = true := beq_iff_eq.mpr c23
    have c23b1 : (t300 != 0) = false := bne_eq_false_iff_eq.mpr c23
    clear c23
    replace H := Option.bind_eq_some_iff.mp H
    obtain ⟨t302, A240, H⟩ := H
    replace H : (if 0 ≤ (wrap64 ((wrap64 ((ji15) - (rd t275 0))) * t302)) then (if (wrap64 ((wrap64 ((ji15) - (rd t275 0))) * t302) : Int).toNat ≤ 7036874417766 then ((some (List.replicate (wrap64 ((wrap64 ((ji15) - (rd t275 0))) * t302) : Int).toNat z45 : List (S45))).bind fun y303 => (pick_take.l0 kj3 a0 y290 y303 (y303.length : Int) 0 t275 t278 t295 t296 t297)) else (none)) else (none)) = some (r1, r2, r3) := H
    have A24 := gA A240
    clear A240
    obtain ⟨ji25, hji25⟩ : ∃ j_ : Int, (wrap64 ((wrap64 ((ji15) - (rd t275 0))) * t302)) = j_ := ⟨_, rfl⟩
    replace H : (if 0 ≤ (ji25) then (if (ji25 : Int).toNat ≤ 7036874417766 then ((some (List.replicate (ji25 : Int).toNat z45 : List (S45))).bind fun y303 => (pick_take.l0 kj3 a0 y290 y303 (y303.length : Int) 0 t275 t278 t295 t296 t297)) else (none)) else (none)) = some (r1, r2, r3) := by first | (rw [hji25] at H; exact H) | (simp only [hji25] at H ⊢; exact H)
    (try rw [hji25] at A19)
    (try rw [hji25] at A22)
    (try rw [hji25] at A24)
    have hji25w : (IntKind.i64.wrap ((wrap64 ((ji15) - (rd t275 0))) * t302)) = ji25 := (i64_w _).trans hji25
    obtain ⟨c26, H⟩ := iS H
    have c26b0 := eq_true c26
    have c26b1 := decide_eq_true c26
    clear c26
    obtain ⟨c27, H⟩ := iS H
    have c27b0 := eq_true c27
    have c27b1 := decide_eq_true c27
    clear c27
    obtain ⟨y303, hy303⟩ : ∃ y_ : List (S45), y_ = (List.replicate (ji25 : Int).toNat z45) := ⟨_, rfl⟩
    replace H : (pick_take.l0 kj3 a0 y290 y303 (y303.length : Int) 0 t275 t278 t295 t296 t297) = some (r1, r2, r3) := by first | (rw [hy303]; with_reducible exact H) | (have H2_ := (Option.bind_some _ _).symm.trans H; rw [hy303]; with_reducible exact H2_) | (have H2_ := (Option.bind_some _ _).symm.trans H; with_reducible exact H2_) | with_reducible exact H | (rw [hy303]; exact H) | exact H
    have Ny303 := gA hy303
    clear hy303
    have H' := gA H
    clear H
    have hnb28 := NB273_274.out
    have hnc28 := NB274_273.out
    obtain ⟨hcz29_0, hcz29_1, hfz29_0, hfz29_1⟩ := gz2 BK273
    have p281 : 0 ≤ (0 : Int) := (by omega)
    have q281 : 0 < (t275.length : Int) := of_decide_eq_true (by assumption)
    obtain ⟨ad281, e281, hx281_0⟩ := Kd.at_int (Kd.V_reads' HO_274000.out).2.2 0 p281 q281
    cases e281
    have qi281 : (0 < t275.length) = True := eq_true (by omega)
    (try rw [show ((0 : Int)).toNat = 0 from rfl] at hx281_0)
    (try rw [Addr.add_zero'] at hx281_0)
    replace p281 := eq_true p281
    replace q281 := eq_true q281
    iterate 6 ((try go_quiet (fail)); go_wp2_with (first | ((with_reducible refine gate_dst (N := 33) rfl ?_); refine Kd.R_lit (Kd.int .i64) _ 3 ?hg (N := 33) ?hd (xs := ([ji15] : List Int)) (inner := [.int .i64 ji15]) (ok := fun _ => True) (okp := fun _ => True) ?hr ?hp (fun _ hk => hk) trivial (Below.refl _ _) (Nat.le_refl _) (by simp) ?_; (case hd => rfl); (case hg => rfl); (case hr => first | (go_simp; done) | (go_simp; rfl)); (case hp => exact (Reps.one (show Kd.M (Kd.int .i64) _ _ _ ji15 [.int .i64 ji15] from rfl) (Reps.none _ _))); intro v283 w30 ho31 hb hg_ hnew_; clear hg_ hnew_; (first | rw [← Ny282.out] at ho31 | (simp only [Int.reduceToNat] at ho31; rw [← Ny282.out] at ho31)); replace HO_274000 := gA (Kd.V_elder' (gV HO_274000) (Kd.R_base ho31) hb); replace HO_274001 := gA (Kd.V_elder' (gV HO_274001) (Kd.R_base ho31) hb); have HO284 := gA (Kd.R_lower (Kd.R_newM (M := fun k_ => (w.heap.size ≤ k_)) ho31 (below_size (gB HB)) (fun k_ h_ => h_)) (below_size (gB HB))); replace BK273 := gA (blk_below (gK BK273) hb); replace BK274 := gA (blk_below (gK BK274) hb); replace HB := gA (below_step (gB HB) hb); clear hb ho31; obtain ⟨hcz32_0, hcz32_1, hfz32_0, hfz32_1⟩ := gz2 BK273; have q33 : (1 : Int) ≤ ((t275.length : Int) : Int) := of_decide_eq_true (by assumption); obtain ⟨i033, hi033, _, hsz33, _⟩ := info_parts info3; have hroom33 : t275.length ≤ co10 := (Kd.V_reads' HO_274000.out).2.1; have hC33 : Kd.F (Kd.int .i64) _ _ (some ad281) t275.length t275 := (Kd.V_at (base := w.heap.size) HO_274000.out).2.2; have hcut33 := cut_from (P := Try.prog) 22 3 .i64 Try.underlying22 hi033 1 hsz33 (some ad281) t275.length co10 1 (by omega) q33; have hr33 := Kd.F_cut (m := (1 : Int).toNat) (c := co10) hC33 (by omega) hroom33; obtain ⟨A33, hA33⟩ : ∃ A1, A1 = (if co10 = (1 : Int).toNat then (some ad281) else ((some ad281) : Option Addr).map (·.add ((1 : Int).toNat * 1))) := ⟨_, rfl⟩; obtain ⟨c33, hc33⟩ : ∃ c1, c1 = co10 - (1 : Int).toNat := ⟨_, rfl⟩; have hy33 : y285.length = t275.length - (1 : Int).toNat := (by rw [Ny285.out, List.length_drop] <;> omega); rw [show (t275).drop (1 : Int).toNat = y285 from Ny285.out.symm] at hr33; replace hr33 : Kd.F (Kd.int .i64) _ _ A33 y285.length y285 := (by rw [hA33]; exact hr33); rw [← hy33, ← hA33, ← hc33] at hcut33; have HO289 := gA (show Kd.V (Kd.int .i64) 3 _ w.heap.size _ (.slice A33 y285.length c33) y285 from Kd.V_mk (by rw [hy33, hc33]; exact Nat.sub_le_sub_right hroom33 _) hr33); have HC289 := gA (show y285.length ≤ c33 from by rw [hy33, hc33]; exact Nat.sub_le_sub_right hroom33 _); clear hr33 hC33 hroom33 hi033 hsz33 hc33; have KY33 := gA hy33; have KA33 := gA hA33; clear hy33 hA33; replace q33 := eq_true q33) | ((with_reducible refine gate_builtin (b := .append) (xs := #[.tmp 33, .tmp 36]) rfl ?_); at_builtin; refine Kd.R_append_rows (Kd.int .i64) (w0 := w) w.heap.size rfl (.tmp 33) (.tmp 36) 22 3 (.int .i64 0) 8 rfl Try.underlying22 info3 rfl (by decide) (by omega) v283 y282 y285 _ _ _ (fun k_ => (w.heap.size ≤ k_)) (fun _ => False) rfl rfl ?aO ?aR (fun _ _ h => h) (fun _ h => h.elim) ?aF ?aB ?aS ?aL ?_; (case aR => repeat (first | exact (Kd.V_reads' HO289.out).2.2 | (with_reducible refine Kd.C_alloc ?_ _) | (with_reducible refine Kd.C_drewN ?_ _) | (with_reducible refine Kd.C_drew ?_))); (case aB => exact (gB HB)); (case aF => exact (fun k_ hk => (Nat.le_trans (below_size (gB HB)) hk))); (case aO => exact (Kd.R_mono HO284.out (fun _ hk => hk.1))); (case aS => exact (below_size (gB HB))); (case aL => have := LMc18.out; omega); intro v291 w34 ho hb hg hat; rw [← Ny290.out] at ho; replace HO_274000 := gA (Kd.V_afterv (ok := (fun k_ => ((P1_0_ k_ ∨ P1_1_ k_) ∨ w.heap.size ≤ k_) ∧ k_ ≠ gb273 ∧ k_ ≠ gb274)) (gV HO_274000) hg hat); replace HO_274001 := gA (Kd.V_afterv (ok := (fun k_ => ((P1_0_ k_ ∨ P1_1_ k_) ∨ w.heap.size ≤ k_) ∧ k_ ≠ gb273 ∧ k_ ≠ gb274)) (gV HO_274001) hg hat); replace BK273 := gA (blk_grown (gK BK273) hg (Kd.R_ne HO284.out BK273.out (by decide))); replace BK274 := gA (blk_grown (gK BK274) hg (Kd.R_ne HO284.out BK274.out (by decide))); replace HO289 := gA (Kd.V_afterv (ok := (fun k_ => ((P1_0_ k_ ∨ P1_1_ k_) ∨ w.heap.size ≤ k_) ∧ k_ ≠ gb273 ∧ k_ ≠ gb274)) (gV HO289) hg hat); replace HB := gA (hb); have HO292 := gA (ho); clear HO284 ho hb hg hat; obtain ⟨Ao35, co35, eo35⟩ := Kd.R_slice HO292.out; subst eo35) | (go_at_call 41; (with_reducible refine (arr_Size.calls kj3 _ _ y290 t293 t294 _ ?side1 ?side2 A19.out).mono ?_); (case side1 => repeat (first | exact (Kd.R_reads' HO292.out).2.2 | (with_reducible refine Kd.C_alloc ?_ _) | (with_reducible refine Kd.C_drewN ?_ _) | (with_reducible refine Kd.C_drew ?_))); (case side2 => exact (Kd.R_reads' HO292.out).2.1); rintro e w' ⟨rfl, ⟨nd, rfl⟩⟩; (try first | exact ⟨rfl, _, World.drewN_drewN _ _ _⟩ | exact ⟨rfl, _, Eq.trans (World.drewN_drewN _ _ _) (congrArg (World.drewN _) (Nat.add_assoc _ _ _))⟩); obtain ⟨hcz36_0, hcz36_1, hfz36_0, hfz36_1⟩ := gz2 BK273) | (go_at_call 46; (with_reducible refine (pick_filler.calls _ _ t275 _ _ t278 t295 t296 t297 t300 _ ?side1 ?side2 ?side3 ?side4 A22.out).mono ?_); (case side1 => repeat (first | exact (Kd.V_reads' HO_274000.out).2.2 | (with_reducible refine Kd.C_alloc ?_ _) | (with_reducible refine Kd.C_drewN ?_ _) | (with_reducible refine Kd.C_drew ?_))); (case side2 => exact (Kd.V_reads' HO_274000.out).2.1); (case side3 => repeat (first | exact (Kd.V_reads' HO_274001.out).2.2 | (with_reducible refine Kd.C_alloc ?_ _) | (with_reducible refine Kd.C_drewN ?_ _) | (with_reducible refine Kd.C_drew ?_))); (case side4 => exact (Kd.V_reads' HO_274001.out).2.1); rintro e w37 ⟨v298, rfl, ho0, hb⟩; replace HO_274000 := gA (Kd.V_below (gV HO_274000) hb); replace HO_274001 := gA (Kd.V_below (gV HO_274001) hb); replace HO289 := gA (Kd.V_below (gV HO289) hb); have HO299 := gA (Kd.V_lower (Kd.V_mono (ok' := fun k_ => ((P1_0_ k_ ∨ P1_1_ k_) ∨ w.heap.size ≤ k_) ∧ some k_ ≠ (.slice Ao35 y290.length co35 : Value).ownBlock ∧ k_ ≠ gb273 ∧ k_ ≠ gb274) ho0 (fun k_ hk_ => ⟨(.inr (Nat.le_trans (below_size (gB HB)) hk_)), (Kd.fresh' (Kd.R_lt (gR HO292)) k_ hk_), (Kd.freshB (gK BK273) k_ hk_), (Kd.freshB (gK BK274) k_ hk_)⟩)) (below_size (gB HB))); replace HO292 := gA (Kd.R_below (gR HO292) hb); replace BK273 := gA (blk_below (gK BK273) hb); replace BK274 := gA (blk_below (gK BK274) hb); replace HB := gA (below_step (gB HB) hb); (try clear hb); (try clear hk); (try clear ho0)) | ((with_reducible refine gate_dst (N := 11) rfl ?_); refine box_event ?hg (N := 11) ?hd (cs := #[.int .i64 0, .int .i64 0, .slice none 0 0]) (t := 45) ?hr ?_; (case hd => rfl); (case hg => rfl); (case hr => first | (go_simp; done) | (go_simp; rfl)); intro gb301 hg w38 hbox hb; replace HO_274000 := gA (Kd.V_below (Kd.V_elderB (gV HO_274000) gb301 (Nat.le_of_eq hg.symm)) hb); replace HO_274001 := gA (Kd.V_below (Kd.V_elderB (gV HO_274001) gb301 (Nat.le_of_eq hg.symm)) hb); replace HO289 := gA (Kd.V_below (Kd.V_elderB (gV HO289) gb301 (Nat.le_of_eq hg.symm)) hb); replace HO292 := gA (Kd.R_below (gR HO292) hb); replace HO299 := gA (Kd.V_below (Kd.V_elderB (gV HO299) gb301 (Nat.le_of_eq hg.symm)) hb); have BK301 := gA (hbox); have GW301 := gA ((by rw [hg]; exact (below_size (gB HB)) : w.heap.size ≤ gb301)); have GE301 := gA ((by rw [hg]; exact (below_size (gB HB)) : w.heap.size ≤ gb301)); replace HB := gA (below_step (gB HB) hb); have NB273_301 := gA ((by rw [hg]; exact Nat.ne_of_lt (blk_lt (gK BK273)) : gb273 ≠ gb301)); have NB301_273 := gA ((by rw [hg]; exact Nat.ne_of_gt (blk_lt (gK BK273)) : gb301 ≠ gb273)); replace BK273 := gA (blk_below (gK BK273) hb); have NB274_301 := gA ((by rw [hg]; exact Nat.ne_of_lt (blk_lt (gK BK274)) : gb274 ≠ gb301)); have NB301_274 := gA ((by rw [hg]; exact Nat.ne_of_gt (blk_lt (gK BK274)) : gb301 ≠ gb274)); replace BK274 := gA (blk_below (gK BK274) hb); clear hb hbox hg; have hnb39 := NB301_273.out; have hnc39 := NB273_301.out; have hnb40 := NB301_274.out; have hnc40 := NB274_301.out; obtain ⟨hcz41_0, hcz41_1, hcz41_2, hfz41_0, hfz41_1, hfz41_2⟩ := gz3 BK301; obtain ⟨Ao42, co42, eo42⟩ := Kd.V_slice HO299.out; subst eo42; obtain ⟨hcz43_0, hcz43_1, hfz43_0, hfz43_1⟩ := gz2 BK273) | (go_at_call 42; (with_reducible refine (pick_inner.calls kj3 _ _ t275 _ _ t278 t302 _ ?side1 ?side2 ?side3 ?side4 A24.out).mono ?_); (case side1 => refine (Kd.V_reads' (e := 3) (base := w.heap.size) (ok := fun k_ => (((((P1_0_ k_ ∨ P1_1_ k_) ∨ w.heap.size ≤ k_) ∧ (k_ ≠ gb273 ∧ k_ ≠ gb274)) ∧ some k_ ≠ (.slice Ao35 y290.length co35 : Value).ownBlock) ∧ k_ ≠ gb301)) (n := t275.length) (c := co10) ?_).2.2; exact (by (with_reducible repeat (first | apply Kd.V_alloc | apply Kd.V_drewN | apply Kd.V_drew)); exact (Kd.V_mono (Kd.V_far (p := ⟨gb301, 2, none⟩) (Kd.V_far (p := ⟨gb301, 1, none⟩) (Kd.V_far (p := ⟨gb301, 0, none⟩) (Kd.V_mono HO_274000.out (fun k_ hk => (⟨hk, hk.2⟩ : _ ∧ k_ ≠ gb301))) (fun _ hk => hk.2) (.int .i64 t295)) (fun _ hk => hk.2) (.int .i64 t296)) (fun _ hk => hk.2) (.slice Ao42 t297.length co42)) (fun _ h_ => h_.1)))); (case side2 => exact (Kd.V_reads' HO_274000.out).2.1); (case side3 => refine (Kd.V_reads' (e := 45) (base := w.heap.size) (ok := fun k_ => (((((P1_0_ k_ ∨ P1_1_ k_) ∨ w.heap.size ≤ k_) ∧ (k_ ≠ gb273 ∧ k_ ≠ gb274)) ∧ some k_ ≠ (.slice Ao35 y290.length co35 : Value).ownBlock) ∧ k_ ≠ gb301)) (n := t278.length) (c := co12) ?_).2.2; exact (by (with_reducible repeat (first | apply Kd.V_alloc | apply Kd.V_drewN | apply Kd.V_drew)); exact (Kd.V_mono (Kd.V_far (p := ⟨gb301, 2, none⟩) (Kd.V_far (p := ⟨gb301, 1, none⟩) (Kd.V_far (p := ⟨gb301, 0, none⟩) (Kd.V_mono HO_274001.out (fun k_ hk => (⟨hk, hk.2⟩ : _ ∧ k_ ≠ gb301))) (fun _ hk => hk.2) (.int .i64 t295)) (fun _ hk => hk.2) (.int .i64 t296)) (fun _ hk => hk.2) (.slice Ao42 t297.length co42)) (fun _ h_ => h_.1)))); (case side4 => exact (Kd.V_reads' HO_274001.out).2.1); rintro e w44 ⟨rfl, hb⟩; replace HO_274000 := gA (Kd.V_below (by (with_reducible repeat (first | apply Kd.V_alloc | apply Kd.V_drewN | apply Kd.V_drew)); exact (Kd.V_mono (Kd.V_far (p := ⟨gb301, 2, none⟩) (Kd.V_far (p := ⟨gb301, 1, none⟩) (Kd.V_far (p := ⟨gb301, 0, none⟩) (Kd.V_mono HO_274000.out (fun k_ hk => (⟨hk, hk.2⟩ : _ ∧ k_ ≠ gb301))) (fun _ hk => hk.2) (.int .i64 t295)) (fun _ hk => hk.2) (.int .i64 t296)) (fun _ hk => hk.2) (.slice Ao42 t297.length co42)) (fun _ h_ => h_.1))) hb); replace HO_274001 := gA (Kd.V_below (by (with_reducible repeat (first | apply Kd.V_alloc | apply Kd.V_drewN | apply Kd.V_drew)); exact (Kd.V_mono (Kd.V_far (p := ⟨gb301, 2, none⟩) (Kd.V_far (p := ⟨gb301, 1, none⟩) (Kd.V_far (p := ⟨gb301, 0, none⟩) (Kd.V_mono HO_274001.out (fun k_ hk => (⟨hk, hk.2⟩ : _ ∧ k_ ≠ gb301))) (fun _ hk => hk.2) (.int .i64 t295)) (fun _ hk => hk.2) (.int .i64 t296)) (fun _ hk => hk.2) (.slice Ao42 t297.length co42)) (fun _ h_ => h_.1))) hb); replace HO289 := gA (Kd.V_below (by (with_reducible repeat (first | apply Kd.V_alloc | apply Kd.V_drewN | apply Kd.V_drew)); exact (Kd.V_mono (Kd.V_far (p := ⟨gb301, 2, none⟩) (Kd.V_far (p := ⟨gb301, 1, none⟩) (Kd.V_far (p := ⟨gb301, 0, none⟩) (Kd.V_mono HO289.out (fun k_ hk => (⟨hk, hk.2⟩ : _ ∧ k_ ≠ gb301))) (fun _ hk => hk.2) (.int .i64 t295)) (fun _ hk => hk.2) (.int .i64 t296)) (fun _ hk => hk.2) (.slice Ao42 t297.length co42)) (fun _ h_ => h_.1))) hb); replace HO292 := gA (Kd.R_below (by (with_reducible repeat (first | apply Kd.R_alloc | apply Kd.R_drewN | apply Kd.R_drew)); exact (Kd.R_mono (Kd.R_far (p := ⟨gb301, 2, none⟩) (Kd.R_far (p := ⟨gb301, 1, none⟩) (Kd.R_far (p := ⟨gb301, 0, none⟩) (Kd.R_types HO292.out BK301.out (by decide)) (fun _ hk => hk.2) (.int .i64 t295)) (fun _ hk => hk.2) (.int .i64 t296)) (fun _ hk => hk.2) (.slice Ao42 t297.length co42)) (fun _ h_ => h_.1))) hb); replace HO299 := gA (Kd.V_below (by (with_reducible repeat (first | apply Kd.V_alloc | apply Kd.V_drewN | apply Kd.V_drew)); exact (Kd.V_mono (Kd.V_far (p := ⟨gb301, 2, none⟩) (Kd.V_far (p := ⟨gb301, 1, none⟩) (Kd.V_far (p := ⟨gb301, 0, none⟩) (Kd.V_mono HO299.out (fun k_ hk => (⟨hk, hk.2⟩ : _ ∧ k_ ≠ gb301))) (fun _ hk => hk.2) (.int .i64 t295)) (fun _ hk => hk.2) (.int .i64 t296)) (fun _ hk => hk.2) (.slice Ao42 t297.length co42)) (fun _ h_ => h_.1))) hb); replace BK273 := gA (blk_below (g := gb273) (o := .cells #[.slice (some ad281) t275.length co10, .slice Ao12 t278.length co12] 25 (0, 0)) (by refine blk_far ?_ NB273_301.out _; refine blk_far ?_ NB273_301.out _; refine blk_far ?_ NB273_301.out _; exact gK BK273) hb); replace BK274 := gA (blk_below (g := gb274) (o := .cells #[.slice none 0 0, .slice none 0 0] 25 (0, 0)) (by refine blk_far ?_ NB274_301.out _; refine blk_far ?_ NB274_301.out _; refine blk_far ?_ NB274_301.out _; exact gK BK274) hb); replace BK301 := gA (blk_below (g := gb301) (o := .cells #[.int .i64 t295, .int .i64 t296, .slice Ao42 t297.length co42] 45 (0, 0)) (by refine blk_put (cs := #[.int .i64 t295, .int .i64 t296, .slice none 0 0]) ?_ 2 _ rfl; refine blk_put (cs := #[.int .i64 t295, .int .i64 0, .slice none 0 0]) ?_ 1 _ rfl; refine blk_put (cs := #[.int .i64 0, .int .i64 0, .slice none 0 0]) ?_ 0 _ rfl; exact gK BK301) hb); replace HB := gA (below_step (by repeat first | exact gB HB | refine below_set ?_ GE273.out | refine below_set ?_ GE274.out | refine below_set ?_ GE301.out) hb); (try clear hb); (try clear hk)) | ((with_reducible refine gate_dst (N := 76) rfl ?_); refine Kd.N_make k45 _ 45 rfl (N' := 76) rfl 23 _ _ rfl ji25 rfl rfl Try.underlying23 (.agg #[(.int .i64 0), (.int .i64 0), (.slice none 0 0)]) 40 info45 rfl (by decide) (by omega) z45 (ok := fun k_ => w44.heap.size ≤ k_) (okp := fun _ => False) (k45_mkF _ _ z45 (Nat.le_refl _) (Kd.F_nil _ _ _)) (fun _ hk => hk.elim) (Nat.le_refl _) (of_decide_eq_true (by assumption)) (Nat.le_trans (Nat.mul_le_mul_right _ (of_decide_eq_true (by assumption) : ji25.toNat ≤ 7036874417766)) (by omega)) (Below.refl _ _) (Nat.le_refl _) ?_; intro v304 w45 ho46 hb hg_ hnew_; clear hg_ hnew_; (first | rw [← Ny303.out] at ho46 | (simp only [Int.reduceToNat] at ho46; rw [← Ny303.out] at ho46)); replace HO_274000 := gA (Kd.V_elder' (gV HO_274000) (Kd.N_base ho46) hb); replace HO_274001 := gA (Kd.V_elder' (gV HO_274001) (Kd.N_base ho46) hb); replace HO289 := gA (Kd.V_elder' (gV HO289) (Kd.N_base ho46) hb); replace HO299 := gA (Kd.V_elder' (gV HO299) (Kd.N_base ho46) hb); have HO305 := gA (Kd.N_lower (Kd.N_mono (ok' := fun k_ => ((P1_0_ k_ ∨ P1_1_ k_) ∨ w.heap.size ≤ k_) ∧ some k_ ≠ (.slice Ao35 y290.length co35 : Value).ownBlock ∧ k_ ≠ gb273 ∧ k_ ≠ gb274 ∧ k_ ≠ gb301) ho46 (fun k_ hk_ => ⟨(.inr (Nat.le_trans (below_size (gB HB)) hk_)), (Kd.fresh' (Kd.R_lt (gR HO292)) k_ hk_), (Kd.freshB (gK BK273) k_ hk_), (Kd.freshB (gK BK274) k_ hk_), (Kd.freshB (gK BK301) k_ hk_)⟩)) (below_size (gB HB))); replace HO292 := gA (Kd.R_below (gR HO292) hb); replace BK273 := gA (blk_below (gK BK273) hb); replace BK274 := gA (blk_below (gK BK274) hb); replace BK301 := gA (blk_below (gK BK301) hb); replace HB := gA (below_step (gB HB) hb); clear hb ho46; obtain ⟨Ao47, co47, eo47⟩ := Kd.N_slice HO305.out; subst eo47)))
    skip
    go_loopg [79] kj3 (fun kq v79 w' => ∃ (x13_2 : List (S45)) (x79_2 : Int) (x302000_2 : Int) (x302001_2 : Int) (x302002_2 : List (S25)) (u302002 : Value), v79 = .int .i64 x79_2 ∧ Aside0 (pick_take.l0 kq a0 y290 x13_2 (y303.length : Int) x79_2 t275 t278 x302000_2 x302001_2 x302002_2 = some (r1, r2, r3)) ∧ Aside0 (kq ≤ kj3) ∧ Aside0 (Kd.R (Kd.int .i64) 3 w' w.heap.size (fun k_ => (w.heap.size ≤ k_)) (.slice Ao35 y290.length co35) y290) ∧ Aside0 (Kd.N k45 45 w' w.heap.size (fun k_ => ((P1_0_ k_ ∨ P1_1_ k_) ∨ w.heap.size ≤ k_) ∧ some k_ ≠ ((.slice Ao35 y290.length co35) : Value).ownBlock ∧ k_ ≠ gb273 ∧ k_ ≠ gb274 ∧ k_ ≠ gb301) (.slice Ao47 y303.length co47) x13_2) ∧ Aside0 (Kd.V (Kd.int .i64) 3 w' w.heap.size (fun k_ => ((P1_0_ k_ ∨ P1_1_ k_) ∨ w.heap.size ≤ k_) ∧ some k_ ≠ ((.slice Ao35 y290.length co35) : Value).ownBlock ∧ some k_ ≠ ((.slice Ao47 y303.length co47) : Value).ownBlock ∧ k_ ≠ gb273 ∧ k_ ≠ gb274 ∧ k_ ≠ gb301) (.slice (some ad281) t275.length co10) t275) ∧ Aside0 (Kd.V k45 45 w' w.heap.size (fun k_ => ((P1_0_ k_ ∨ P1_1_ k_) ∨ w.heap.size ≤ k_) ∧ some k_ ≠ ((.slice Ao35 y290.length co35) : Value).ownBlock ∧ some k_ ≠ ((.slice Ao47 y303.length co47) : Value).ownBlock ∧ k_ ≠ gb273 ∧ k_ ≠ gb274 ∧ k_ ≠ gb301) (.slice Ao12 t278.length co12) t278) ∧ Aside0 (Kd.V k25 25 w' w.heap.size (fun k_ => ((P1_0_ k_ ∨ P1_1_ k_) ∨ w.heap.size ≤ k_) ∧ some k_ ≠ ((.slice Ao35 y290.length co35) : Value).ownBlock ∧ some k_ ≠ ((.slice Ao47 y303.length co47) : Value).ownBlock ∧ k_ ≠ gb273 ∧ k_ ≠ gb274 ∧ k_ ≠ gb301) u302002 x302002_2) ∧ Aside0 (w'.heap[gb273]? = some (.cells #[(.slice (some ad281) t275.length co10), (.slice Ao12 t278.length co12)] 25 (0, 0))) ∧ Aside0 (w'.heap[gb274]? = some (.cells #[(.slice none 0 0), (.slice none 0 0)] 25 (0, 0))) ∧ Aside0 (w'.heap[gb301]? = some (.cells #[.int .i64 x302000_2, .int .i64 x302001_2, u302002] 45 (0, 0))) ∧ Aside0 (Below w.heap.size w w'))
    case atStart => exact ⟨(y303), (0), (t295), (t296), (t297), (.slice Ao42 t297.length co42), (rfl), H', ⟨Nat.le_refl _⟩, ⟨gR HO292⟩, ⟨gN HO305⟩, ⟨Kd.V_mono HO_274000.out (fun _ hk => by first | exact ⟨hk.1.1.1.1, ⟨hk.1.1.2, ⟨hk.2, ⟨hk.1.1.1.2.1, ⟨hk.1.1.1.2.2, hk.1.2⟩⟩⟩⟩⟩ | (simp_all; done))⟩, ⟨Kd.V_mono HO_274001.out (fun _ hk => by first | exact ⟨hk.1.1.1.1, ⟨hk.1.1.2, ⟨hk.2, ⟨hk.1.1.1.2.1, ⟨hk.1.1.1.2.2, hk.1.2⟩⟩⟩⟩⟩ | (simp_all; done))⟩, ⟨Kd.V_mono HO299.out (fun _ hk => by first | exact ⟨hk.1.1.1, ⟨hk.1.1.2.1, ⟨hk.2, ⟨hk.1.1.2.2.1, ⟨hk.1.1.2.2.2, hk.1.2⟩⟩⟩⟩⟩ | (simp_all; done))⟩, ⟨gK BK273⟩, ⟨gK BK274⟩, ⟨gK BK301⟩, ⟨by repeat first | exact gB HB | refine below_set ?_ GE273.out | refine below_set ?_ GE274.out | refine below_set ?_ GE301.out⟩⟩
    case round =>
     clear H'
     try clear c1
     try clear c2
     try clear p2
     try clear q2
     try clear hx2
     try clear qi2
     try clear c3
     try clear q3
     try clear c4
     try clear p6
     try clear c7
     try clear c13
     try clear c13b0
     try clear c14
     try clear c16
     try clear c16b0
     try clear c16b1
     try clear c17
     try clear c17b0
     try clear c17b1
     try clear c18
     try clear c20
     try clear c20b0
     try clear c20b1
     try clear c21
     try clear c21b0
     try clear c23
     try clear c23b0
     try clear c23b1
     try clear c25
     try clear c26
     try clear c26b0
     try clear c26b1
     try clear c27
     try clear c27b0
     try clear c27b1
     try clear c28
     try clear p28
     try clear q28
     try clear hx28
     try clear qi28
     try clear c33
     try clear q33
     try clear c39
     try clear c40
     try clear hcz11_0
     try clear hcz11_1
     try clear hcz29_0
     try clear hcz29_1
     try clear hcz32_0
     try clear hcz32_1
     try clear hcz36_0
     try clear hcz36_1
     try clear hcz41_0
     try clear hcz41_1
     try clear hcz41_2
     try clear hcz43_0
     try clear hcz43_1
     try clear hcz8_0
     try clear hcz8_1
     try clear hfz11_0
     try clear hfz11_1
     try clear hfz29_0
     try clear hfz29_1
     try clear hfz32_0
     try clear hfz32_1
     try clear hfz36_0
     try clear hfz36_1
     try clear hfz41_0
     try clear hfz41_1
     try clear hfz41_2
     try clear hfz43_0
     try clear hfz43_1
     try clear hfz8_0
     try clear hfz8_1
     try clear hx281_0
     try clear p2
     try clear p281
     try clear q281
     try clear q33
     obtain ⟨x13_2, x79_2, x302000_2, x302001_2, x302002_2, u302002, rfl, HA, HK2, HO_8, HO_13, HO_274000, HO_274001, HO_302002, BK273, BK274, BK301, HB⟩ := hrel
     have hl13_2 := (Kd.N_reads' HO_13.out).1
     rw [hl13_2] at HO_13
     (try simp only [hl13_2])
     (try simp only [hl13_2] at BK273)
     (try simp only [hl13_2] at BK274)
     (try simp only [hl13_2] at BK301)
     (try simp only [hl13_2] at HO_8)
     (try simp only [hl13_2] at HO_274000)
     (try simp only [hl13_2] at HO_274001)
     (try simp only [hl13_2] at HO_302002)
     cases gk with
     | zero => exact absurd HA.out (by simp [pick_take.l0])
     | succ k2 =>
      have H := HA.out; clear HA
      simp only [pick_take.l0] at H
      by_cases c48 : x79_2 < (y303.length : Int)
      ·rw [if_pos c48] at H
       have c48b0 := decide_eq_true c48; have c48b0z := c48b0; (try rw [hl13_2] at c48b0z)
       clear c48
       obtain ⟨c49, H⟩ := iS H
       have c49b0 := decide_eq_true c49; have c49b0z := c49b0; (try rw [hl13_2] at c49b0z)
       clear c49
       obtain ⟨c50, H⟩ := iS H
       have c50b0 := decide_eq_true c50; have c50b0z := c50b0; (try rw [hl13_2] at c50b0z)
       clear c50
       obtain ⟨y306, hy306⟩ : ∃ y_ : List (S45), y_ = (x13_2.set (x79_2 : Int).toNat (⟨x302000_2, x302001_2, x302002_2⟩ : S45)) := ⟨_, rfl⟩
       replace H : (pick_take.l0 k2 a0 y290 y306 (y303.length : Int) (wrap64 (x79_2 + 1)) t275 t278 x302000_2 x302001_2 x302002_2) = some (r1, r2, r3) := by first | (rw [hy306]; with_reducible exact H) | (have H2_ := (Option.bind_some _ _).symm.trans H; rw [hy306]; with_reducible exact H2_) | (have H2_ := (Option.bind_some _ _).symm.trans H; with_reducible exact H2_) | with_reducible exact H | (rw [hy306]; exact H) | exact H
       have Ny306 := gA hy306
       clear hy306
       have H' := gA H
       clear H
       have hnb52 := NB301_273.out
       have hnc52 := NB273_301.out
       have hnb53 := NB301_274.out
       have hnc53 := NB274_301.out
       obtain ⟨hcz54_0, hcz54_1, hcz54_2, hfz54_0, hfz54_1, hfz54_2⟩ := gz3 BK301
       have p51 : 0 ≤ (x79_2 : Int) := of_decide_eq_true (by assumption)
       have q51 : (x79_2 : Int) < ((x13_2.length : Int) : Int) := of_decide_eq_true (by assumption)
       obtain ⟨go51, co51, eo51, gb51, gl51, cl51, HG51⟩ := Kd.N_form HO_13.out (by omega)
       (first | cases eo51 | (injection eo51 with ea_ en_ ec_; (first | subst ea_ | (injection ea_ with ea_; subst ea_)); subst ec_; clear en_))
       have GB51 := gA gb51
       have GG51 := gA HG51
       clear gb51 gl51 HG51
       obtain ⟨ce51, hcl51, hM51, hcc51, hfr51⟩ := Kd.N_elem HO_13.out z45 (x79_2 : Int) p51 q51
       obtain ⟨ua51_2, uc51_2, rfl, ul51_2, ge51_2⟩ := k45_openF hM51
       have hx51_0 : wr.cell? ⟨go51, (x79_2 : Int).toNat * 3, none⟩ = some (.int .i64 ((rd_T45 x13_2 x79_2).f0)) := hcc51 0 _ rfl
       have hx51_1 : wr.cell? ⟨go51, (x79_2 : Int).toNat * 3 + 1, none⟩ = some (.int .i64 ((rd_T45 x13_2 x79_2).f1)) := hcc51 1 _ rfl
       have hx51_2 : wr.cell? ⟨go51, (x79_2 : Int).toNat * 3 + 2, none⟩ = some (.slice ua51_2 ((rd_T45 x13_2 x79_2).f2).length uc51_2) := hcc51 2 _ rfl
       have hf51_0 : wr.frozen? ⟨go51, (x79_2 : Int).toNat * 3, none⟩ = false := hfr51 0
       have hf51_1 : wr.frozen? ⟨go51, (x79_2 : Int).toNat * 3 + 1, none⟩ = false := hfr51 1
       have hf51_2 : wr.frozen? ⟨go51, (x79_2 : Int).toNat * 3 + 2, none⟩ = false := hfr51 2
       clear hcl51 hcc51 hfr51 hM51
       replace p51 := eq_true p51
       replace q51 := eq_true q51
       obtain ⟨uA302002, uc302002, ue302002⟩ := Kd.V_slice HO_302002.out
       subst ue302002
       have HX55 := gA (show Kd.N k45 45 wr w.heap.size (fun k_ => ((P1_0_ k_ ∨ P1_1_ k_) ∨ w.heap.size ≤ k_) ∧ some k_ ≠ (.slice Ao35 y290.length co35 : Value).ownBlock ∧ k_ ≠ gb273 ∧ k_ ≠ gb274 ∧ k_ ≠ gb301) (.slice (some ⟨go51, 0, none⟩) x13_2.length co47) x13_2 from (gN HO_13))
       obtain ⟨ce55, hcl55, hM55, hcc55, hfr55⟩ := Kd.N_elem HX55.out z45 (x79_2 : Int) (of_decide_eq_true (by assumption)) (by have h_ : (x79_2 : Int) < ((x13_2.length : Int) : Int) := of_decide_eq_true (by assumption); first | exact h_ | (have e_ := (Kd.N_reads' HO_13.out).1; omega) | simpa using h_)
       obtain ⟨ua55_2, uc55_2, rfl, ul55_2, ge55_2⟩ := k45_openF hM55
       have HP55 := Kd.N_seg HX55.out (x79_2 : Int) (of_decide_eq_true (by assumption)) (by have h_ : (x79_2 : Int) < ((x13_2.length : Int) : Int) := of_decide_eq_true (by assumption); first | exact h_ | (have e_ := (Kd.N_reads' HO_13.out).1; omega) | simpa using h_) (seg := [.int .i64 x302000_2, .int .i64 x302001_2, (.slice uA302002 x302002_2.length uc302002)]) (j := 0) hcl55 hcc55 (show 3 ≤ 3 from by decide) (x' := (⟨x302000_2, x302001_2, x302002_2⟩ : S45)) (k45_mkF _ _ (⟨x302000_2, x302001_2, x302002_2⟩ : S45) (Kd.V_reads' (Kd.V_mono (ok' := (fun k_ => ((fun k_ => ((P1_0_ k_ ∨ P1_1_ k_) ∨ w.heap.size ≤ k_) ∧ some k_ ≠ (.slice Ao35 y290.length co35 : Value).ownBlock ∧ k_ ≠ gb273 ∧ k_ ≠ gb274 ∧ k_ ≠ gb301)) k_ ∧ k_ ≠ go51)) (HO_302002.out) (fun k_ hk => ⟨⟨hk.1, ⟨hk.2.1, ⟨hk.2.2.2.1, ⟨hk.2.2.2.2.1, hk.2.2.2.2.2⟩⟩⟩⟩, fun e_ => (hk.2.2.1) (by rw [e_]; rfl)⟩))).2.1 (Kd.V_F (Kd.V_mono (ok' := (fun k_ => ((fun k_ => ((P1_0_ k_ ∨ P1_1_ k_) ∨ w.heap.size ≤ k_) ∧ some k_ ≠ (.slice Ao35 y290.length co35 : Value).ownBlock ∧ k_ ≠ gb273 ∧ k_ ≠ gb274 ∧ k_ ≠ gb301)) k_ ∧ k_ ≠ go51)) (HO_302002.out) (fun k_ hk => ⟨⟨hk.1, ⟨hk.2.1, ⟨hk.2.2.2.1, ⟨hk.2.2.2.2.1, hk.2.2.2.2.2⟩⟩⟩⟩, fun e_ => (hk.2.2.1) (by rw [e_]; rfl)⟩)))) (fun _ hk => hk)
       have hx55_0 := hcc55 0 _ rfl
       (try simp only [show (k45).sz = 3 from rfl, Nat.mul_one, Nat.add_zero] at hx55_0)
       have hf55_0 := hfr55 0
       (try simp only [show (k45).sz = 3 from rfl, Nat.mul_one, Nat.add_zero] at hf55_0)
       have hx55_1 := hcc55 1 _ rfl
       (try simp only [show (k45).sz = 3 from rfl, Nat.mul_one, Nat.add_zero] at hx55_1)
       have hf55_1 := hfr55 1
       (try simp only [show (k45).sz = 3 from rfl, Nat.mul_one, Nat.add_zero] at hf55_1)
       have hx55_2 := hcc55 2 _ rfl
       (try simp only [show (k45).sz = 3 from rfl, Nat.mul_one, Nat.add_zero] at hx55_2)
       have hf55_2 := hfr55 2
       (try simp only [show (k45).sz = 3 from rfl, Nat.mul_one, Nat.add_zero] at hf55_2)
       clear hcl55 hcc55 hfr55 hM55
       iterate 6 ((try go_quiet (fail)); go_wp2_with (first | ((with_reducible refine gate_store (t := 45) (p := 85) rfl ?_); (try (rw [drewN_self wr]; generalize hq_ : World.drewN wr _ = wr; replace HO_8 := gA (Kd.R_at hq_ HO_8.out); replace HO_13 := gA (Kd.N_at hq_ HO_13.out); replace HO_274000 := gA (Kd.V_at hq_ HO_274000.out); replace HO_274001 := gA (Kd.V_at hq_ HO_274001.out); replace HO_302002 := gA (Kd.V_at hq_ HO_302002.out); replace BK273 := gA (blk_at hq_ BK273.out); replace BK274 := gA (blk_at hq_ BK274.out); replace BK301 := gA (blk_at hq_ BK301.out); replace HB := gA (below_at hq_ HB.out); clear hq_; (try (have HX55 := gA (show Kd.N k45 45 wr w.heap.size (fun k_ => ((P1_0_ k_ ∨ P1_1_ k_) ∨ w.heap.size ≤ k_) ∧ some k_ ≠ (.slice Ao35 y290.length co35 : Value).ownBlock ∧ k_ ≠ gb273 ∧ k_ ≠ gb274 ∧ k_ ≠ gb301) (.slice (some ⟨go51, 0, none⟩) x13_2.length co47) x13_2 from (gN HO_13)))); (try (obtain ⟨ce55, hcl55, hM55, hcc55, hfr55⟩ := Kd.N_elem HX55.out z45 (x79_2 : Int) (of_decide_eq_true (by assumption)) (by have h_ : (x79_2 : Int) < ((x13_2.length : Int) : Int) := of_decide_eq_true (by assumption); first | exact h_ | (have e_ := (Kd.N_reads' HO_13.out).1; omega) | simpa using h_))); (try (obtain ⟨ua55_2, uc55_2, rfl, ul55_2, ge55_2⟩ := k45_openF hM55)); (try (have HP55 := Kd.N_seg HX55.out (x79_2 : Int) (of_decide_eq_true (by assumption)) (by have h_ : (x79_2 : Int) < ((x13_2.length : Int) : Int) := of_decide_eq_true (by assumption); first | exact h_ | (have e_ := (Kd.N_reads' HO_13.out).1; omega) | simpa using h_) (seg := [.int .i64 x302000_2, .int .i64 x302001_2, (.slice uA302002 x302002_2.length uc302002)]) (j := 0) hcl55 hcc55 (show 3 ≤ 3 from by decide) (x' := (⟨x302000_2, x302001_2, x302002_2⟩ : S45)) (k45_mkF _ _ (⟨x302000_2, x302001_2, x302002_2⟩ : S45) (Kd.V_reads' (Kd.V_mono (ok' := (fun k_ => ((fun k_ => ((P1_0_ k_ ∨ P1_1_ k_) ∨ w.heap.size ≤ k_) ∧ some k_ ≠ (.slice Ao35 y290.length co35 : Value).ownBlock ∧ k_ ≠ gb273 ∧ k_ ≠ gb274 ∧ k_ ≠ gb301)) k_ ∧ k_ ≠ go51)) (HO_302002.out) (fun k_ hk => ⟨⟨hk.1, ⟨hk.2.1, ⟨hk.2.2.2.1, ⟨hk.2.2.2.2.1, hk.2.2.2.2.2⟩⟩⟩⟩, fun e_ => (hk.2.2.1) (by rw [e_]; rfl)⟩))).2.1 (Kd.V_F (Kd.V_mono (ok' := (fun k_ => ((fun k_ => ((P1_0_ k_ ∨ P1_1_ k_) ∨ w.heap.size ≤ k_) ∧ some k_ ≠ (.slice Ao35 y290.length co35 : Value).ownBlock ∧ k_ ≠ gb273 ∧ k_ ≠ gb274 ∧ k_ ≠ gb301)) k_ ∧ k_ ≠ go51)) (HO_302002.out) (fun k_ hk => ⟨⟨hk.1, ⟨hk.2.1, ⟨hk.2.2.2.1, ⟨hk.2.2.2.2.1, hk.2.2.2.2.2⟩⟩⟩⟩, fun e_ => (hk.2.2.1) (by rw [e_]; rfl)⟩)))) (fun _ hk => hk))); (try (have hx55_0 := hcc55 0 _ rfl)); (try (try simp only [show (k45).sz = 3 from rfl, Nat.mul_one, Nat.add_zero] at hx55_0)); (try (have hf55_0 := hfr55 0)); (try (try simp only [show (k45).sz = 3 from rfl, Nat.mul_one, Nat.add_zero] at hf55_0)); (try (have hx55_1 := hcc55 1 _ rfl)); (try (try simp only [show (k45).sz = 3 from rfl, Nat.mul_one, Nat.add_zero] at hx55_1)); (try (have hf55_1 := hfr55 1)); (try (try simp only [show (k45).sz = 3 from rfl, Nat.mul_one, Nat.add_zero] at hf55_1)); (try (have hx55_2 := hcc55 2 _ rfl)); (try (try simp only [show (k45).sz = 3 from rfl, Nat.mul_one, Nat.add_zero] at hx55_2)); (try (have hf55_2 := hfr55 2)); (try (try simp only [show (k45).sz = 3 from rfl, Nat.mul_one, Nat.add_zero] at hf55_2)); (try (clear hcl55 hcc55 hfr55 hM55)))); refine store_event (t := 45) (p := 85) (v := ?vo_w56) (w1 := (((wr.setCell ⟨go51, (x79_2 : Int).toNat * 3, none⟩ (.int .i64 x302000_2)).setCell ⟨go51, (x79_2 : Int).toNat * 3 + 1, none⟩ (.int .i64 x302001_2)).setCell ⟨go51, (x79_2 : Int).toNat * 3 + 2, none⟩ ((.slice uA302002 x302002_2.length uc302002)))) ?hg ?ho ?hn ?hr ?_; (case ho => rfl); (case hg => rfl); (case hn => rfl); (case hr => first | (go_simp; done) | (go_simp; rfl)); intro w56 hw; have hg : wr.grownBy w56 (some go51) := (by rw [hw]; exact HP55.2); have hp_ : Kd.N k45 45 w56 w.heap.size (fun k_ => ((P1_0_ k_ ∨ P1_1_ k_) ∨ w.heap.size ≤ k_) ∧ some k_ ≠ (.slice Ao35 y290.length co35 : Value).ownBlock ∧ k_ ≠ gb273 ∧ k_ ≠ gb274 ∧ k_ ≠ gb301) (.slice (some ⟨go51, 0, none⟩) x13_2.length co47) y306 := (by rw [hw, Ny306.out]; exact HP55.1); clear HP55; replace HO_8 := gA (Kd.R_over' (v := (.slice (some ⟨go51, 0, none⟩) x13_2.length co47)) (gR HO_8) (Kd.N_typed HO_13.out) (by decide) hg); replace HO_274000 := gA (Kd.V_afterv (v := (.slice (some ⟨go51, 0, none⟩) x13_2.length co47)) (v1 := (.slice (some ⟨go51, 0, none⟩) x13_2.length co47)) (ok := (fun k_ => ((P1_0_ k_ ∨ P1_1_ k_) ∨ w.heap.size ≤ k_) ∧ some k_ ≠ (.slice Ao35 y290.length co35 : Value).ownBlock ∧ k_ ≠ gb273 ∧ k_ ≠ gb274 ∧ k_ ≠ gb301)) (Kd.V_mono HO_274000.out (fun _ hk => ⟨⟨hk.1, ⟨hk.2.1, ⟨hk.2.2.2.1, ⟨hk.2.2.2.2.1, hk.2.2.2.2.2⟩⟩⟩⟩, hk.2.2.1⟩)) hg (.inl rfl)); replace HO_274001 := gA (Kd.V_afterv (v := (.slice (some ⟨go51, 0, none⟩) x13_2.length co47)) (v1 := (.slice (some ⟨go51, 0, none⟩) x13_2.length co47)) (ok := (fun k_ => ((P1_0_ k_ ∨ P1_1_ k_) ∨ w.heap.size ≤ k_) ∧ some k_ ≠ (.slice Ao35 y290.length co35 : Value).ownBlock ∧ k_ ≠ gb273 ∧ k_ ≠ gb274 ∧ k_ ≠ gb301)) (Kd.V_mono HO_274001.out (fun _ hk => ⟨⟨hk.1, ⟨hk.2.1, ⟨hk.2.2.2.1, ⟨hk.2.2.2.2.1, hk.2.2.2.2.2⟩⟩⟩⟩, hk.2.2.1⟩)) hg (.inl rfl)); replace HO_302002 := gA (Kd.V_afterv (v := (.slice (some ⟨go51, 0, none⟩) x13_2.length co47)) (v1 := (.slice (some ⟨go51, 0, none⟩) x13_2.length co47)) (ok := (fun k_ => ((P1_0_ k_ ∨ P1_1_ k_) ∨ w.heap.size ≤ k_) ∧ some k_ ≠ (.slice Ao35 y290.length co35 : Value).ownBlock ∧ k_ ≠ gb273 ∧ k_ ≠ gb274 ∧ k_ ≠ gb301)) (Kd.V_mono HO_302002.out (fun _ hk => ⟨⟨hk.1, ⟨hk.2.1, ⟨hk.2.2.2.1, ⟨hk.2.2.2.2.1, hk.2.2.2.2.2⟩⟩⟩⟩, hk.2.2.1⟩)) hg (.inl rfl)); replace BK273 := gA (blk_grown (gK BK273) hg (Kd.N_ne HO_13.out BK273.out (by decide))); replace BK274 := gA (blk_grown (gK BK274) hg (Kd.N_ne HO_13.out BK274.out (by decide))); replace BK301 := gA (blk_grown (gK BK301) hg (Kd.N_away HO_13.out (fun _ hk => hk.2.2.2.2))); replace HO_13 := gA (hp_); replace HB := gA ((by rw [hw]; exact below_set (below_set (below_set (HB.out) GB51.out) GB51.out) GB51.out : Below w.heap.size w w56)); clear hg hw hp_)))
       skip
       (try simp only [← hl13_2])
       go_roundg k2
       case measure => have := HJ3.out; have := HK2.out; omega
       case rel => exact ⟨(y306), (wrap64 (x79_2 + 1)), (x302000_2), (x302001_2), (x302002_2), ((.slice uA302002 x302002_2.length uc302002)), (rfl), H', ⟨by have := HJ3.out; have := HK2.out; omega⟩, ⟨by (try simp only [hl13_2]); (with_reducible repeat (first | apply Kd.R_alloc | apply Kd.R_drewN | apply Kd.R_drew)); exact HO_8.out⟩, ⟨by (try simp only [hl13_2]); (with_reducible repeat (first | apply Kd.N_alloc | apply Kd.N_drewN | apply Kd.N_drew)); exact HO_13.out⟩, ⟨by (try simp only [hl13_2]); (with_reducible repeat (first | apply Kd.V_alloc | apply Kd.V_drewN | apply Kd.V_drew)); exact Kd.V_mono HO_274000.out (fun _ hk => ⟨hk.1.1, ⟨hk.1.2.1, ⟨hk.2, ⟨hk.1.2.2.1, ⟨hk.1.2.2.2.1, hk.1.2.2.2.2⟩⟩⟩⟩⟩)⟩, ⟨by (try simp only [hl13_2]); (with_reducible repeat (first | apply Kd.V_alloc | apply Kd.V_drewN | apply Kd.V_drew)); exact Kd.V_mono HO_274001.out (fun _ hk => ⟨hk.1.1, ⟨hk.1.2.1, ⟨hk.2, ⟨hk.1.2.2.1, ⟨hk.1.2.2.2.1, hk.1.2.2.2.2⟩⟩⟩⟩⟩)⟩, ⟨by (try simp only [hl13_2]); (with_reducible repeat (first | apply Kd.V_alloc | apply Kd.V_drewN | apply Kd.V_drew)); exact Kd.V_mono HO_302002.out (fun _ hk => ⟨hk.1.1, ⟨hk.1.2.1, ⟨hk.2, ⟨hk.1.2.2.1, ⟨hk.1.2.2.2.1, hk.1.2.2.2.2⟩⟩⟩⟩⟩)⟩, ⟨by (try simp only [hl13_2]); exact gK BK273⟩, ⟨by (try simp only [hl13_2]); exact gK BK274⟩, ⟨by (try simp only [hl13_2]); exact gK BK301⟩, ⟨gB HB⟩⟩
      ·rw [if_neg c48] at H
       have c48b0 := decide_eq_false c48; have c48b0z := c48b0; (try rw [hl13_2] at c48b0z)
       clear c48
       obtain ⟨c57, H⟩ := iS H
       have c57b0 := decide_eq_true c57; have c57b0z := c57b0; (try rw [hl13_2] at c57b0z)
       clear c57
       obtain ⟨c58, H⟩ := iS H
       have LMc58 := gA c58
       clear c58
       obtain ⟨y307, hy307⟩ : ∃ y_ : List (S45), y_ = (x13_2 ++ t278) := ⟨_, rfl⟩
       replace H : (some (y290, y307, 0)) = some (r1, r2, r3) := by first | (rw [hy307]; with_reducible exact H) | (have H2_ := (Option.bind_some _ _).symm.trans H; rw [hy307]; with_reducible exact H2_) | (have H2_ := (Option.bind_some _ _).symm.trans H; with_reducible exact H2_) | with_reducible exact H | (rw [hy307]; exact H) | exact H
       have Ny307 := gA hy307
       clear hy307
       simp only [Option.some.injEq, Prod.mk.injEq] at H
       obtain ⟨rfl, rfl, rfl⟩ := H
       have hnb59 := NB273_274.out
       have hnc59 := NB274_273.out
       have hnb60 := NB273_301.out
       have hnc60 := NB301_273.out
       obtain ⟨hcz61_0, hcz61_1, hfz61_0, hfz61_1⟩ := gz2 BK273
       iterate 6 ((try go_quiet (fail)); go_wp2_with (first | ((with_reducible refine gate_builtin (b := .append) (xs := #[.tmp 90, .tmp 92]) rfl ?_); at_builtin; refine Kd.N_append_rows k45 (w0 := w) w.heap.size rfl (.tmp 90) (.tmp 92) 23 45 (.agg #[(.int .i64 0), (.int .i64 0), (.slice none 0 0)]) 40 rfl Try.underlying23 info45 rfl (by decide) (by omega) (.slice Ao47 x13_2.length co47) x13_2 t278 _ _ _ (fun k_ => ((P1_0_ k_ ∨ P1_1_ k_) ∨ w.heap.size ≤ k_) ∧ some k_ ≠ (.slice Ao35 y290.length co35 : Value).ownBlock ∧ k_ ≠ gb273 ∧ k_ ≠ gb274 ∧ k_ ≠ gb301) (fun k_ => ((fun k_ => ((P1_0_ k_ ∨ P1_1_ k_) ∨ w.heap.size ≤ k_) ∧ some k_ ≠ (.slice Ao35 y290.length co35 : Value).ownBlock ∧ k_ ≠ gb273 ∧ k_ ≠ gb274 ∧ k_ ≠ gb301)) k_ ∧ some k_ ≠ (.slice Ao47 x13_2.length co47 : Value).ownBlock) rfl rfl ?aO ?aR (fun _ hk => hk) ?aF ?aB ?aS ?aL ?_; (case aR => exact (by skip; exact Kd.V_F (Kd.V_mono (ok' := (fun k_ => ((fun k_ => ((P1_0_ k_ ∨ P1_1_ k_) ∨ w.heap.size ≤ k_) ∧ some k_ ≠ (.slice Ao35 y290.length co35 : Value).ownBlock ∧ k_ ≠ gb273 ∧ k_ ≠ gb274 ∧ k_ ≠ gb301)) k_ ∧ some k_ ≠ (.slice Ao47 x13_2.length co47 : Value).ownBlock)) (HO_274001.out) (fun k_ hk => ⟨⟨hk.1, ⟨hk.2.1, ⟨hk.2.2.2.1, ⟨hk.2.2.2.2.1, hk.2.2.2.2.2⟩⟩⟩⟩, hk.2.2.1⟩)))); (case aB => exact (by repeat first | exact gB HB | refine below_set ?_ GE273.out | refine below_set ?_ GE274.out | refine below_set ?_ GE301.out)); (case aF => exact (fun k_ hk => ⟨(.inr (Nat.le_trans (below_size (by repeat first | exact gB HB | refine below_set ?_ GE273.out | refine below_set ?_ GE274.out | refine below_set ?_ GE301.out)) hk)), Kd.fresh' (Kd.R_lt (gR HO_8)) k_ hk, Kd.freshB (gK BK273) k_ hk, Kd.freshB (gK BK274) k_ hk, Kd.freshB (gK BK301) k_ hk⟩)); (case aO => exact (gN HO_13)); (case aS => exact (below_size (by repeat first | exact gB HB | refine below_set ?_ GE273.out | refine below_set ?_ GE274.out | refine below_set ?_ GE301.out))); (case aL => have := LMc58.out; omega); intro v308 w62 ho hb hg hat; rw [← Ny307.out] at ho; replace HO_8 := gA (Kd.R_over' (gR HO_8) (Kd.N_typed (gN HO_13)) (by decide) hg); replace HO_274000 := gA (Kd.V_afterv (ok := (fun k_ => ((P1_0_ k_ ∨ P1_1_ k_) ∨ w.heap.size ≤ k_) ∧ some k_ ≠ (.slice Ao35 y290.length co35 : Value).ownBlock ∧ k_ ≠ gb273 ∧ k_ ≠ gb274 ∧ k_ ≠ gb301)) (Kd.V_mono HO_274000.out (fun _ hk => ⟨⟨hk.1, ⟨hk.2.1, ⟨hk.2.2.2.1, ⟨hk.2.2.2.2.1, hk.2.2.2.2.2⟩⟩⟩⟩, hk.2.2.1⟩)) hg hat); replace HO_274001 := gA (Kd.V_afterv (ok := (fun k_ => ((P1_0_ k_ ∨ P1_1_ k_) ∨ w.heap.size ≤ k_) ∧ some k_ ≠ (.slice Ao35 y290.length co35 : Value).ownBlock ∧ k_ ≠ gb273 ∧ k_ ≠ gb274 ∧ k_ ≠ gb301)) (Kd.V_mono HO_274001.out (fun _ hk => ⟨⟨hk.1, ⟨hk.2.1, ⟨hk.2.2.2.1, ⟨hk.2.2.2.2.1, hk.2.2.2.2.2⟩⟩⟩⟩, hk.2.2.1⟩)) hg hat); replace HO_302002 := gA (Kd.V_afterv (ok := (fun k_ => ((P1_0_ k_ ∨ P1_1_ k_) ∨ w.heap.size ≤ k_) ∧ some k_ ≠ (.slice Ao35 y290.length co35 : Value).ownBlock ∧ k_ ≠ gb273 ∧ k_ ≠ gb274 ∧ k_ ≠ gb301)) (Kd.V_mono HO_302002.out (fun _ hk => ⟨⟨hk.1, ⟨hk.2.1, ⟨hk.2.2.2.1, ⟨hk.2.2.2.2.1, hk.2.2.2.2.2⟩⟩⟩⟩, hk.2.2.1⟩)) hg hat); replace BK273 := gA (blk_grown (gK BK273) hg (Kd.N_ne HO_13.out BK273.out (by decide))); replace BK274 := gA (blk_grown (gK BK274) hg (Kd.N_ne HO_13.out BK274.out (by decide))); replace BK301 := gA (blk_grown (gK BK301) hg (Kd.N_away HO_13.out (fun _ hk => hk.2.2.2.2))); replace HB := gA (hb); have HO309 := gA (ho); clear HO_13 ho hb hg hat; obtain ⟨Ao63, co63, eo63⟩ := Kd.N_slice HO309.out; subst eo63; have hnb64 := NB274_301.out; have hnc64 := NB301_274.out; obtain ⟨hcz65_0, hcz65_1, hfz65_0, hfz65_1⟩ := gz2 BK274)))
       skip
       refine bodyPost_ret (results_ct rfl _ _ gb274 25 #[.slice Ao35 y290.length co35, .slice Ao63 y307.length co63] (0, 0) _ rfl (by refine blk_put (cs := #[.slice Ao35 y290.length co35, .slice none 0 0]) ?_ 1 _ rfl; refine blk_put (cs := #[.slice none 0 0, .slice none 0 0]) ?_ 0 _ rfl; exact gK BK274) Try.underlying25 rfl (by kernel_rfl)) rfl ?_
       exact ⟨_, _, by first | rfl | (simp [errW_none, errW_some] <;> rfl) | (simp only [← hji15, ← hji25]; first | rfl | (simp [errW_none, errW_some] <;> rfl)) | (simp [*, errW_none, errW_some] <;> rfl), Kd.R_mono (Kd.R_far (p := ⟨gb274, 1, none⟩) (Kd.R_far (p := ⟨gb274, 0, none⟩) (Kd.R_types HO_8.out BK274.out (by decide)) (fun _ hk => hk.2) (.slice Ao35 y290.length co35)) (fun _ hk => hk.2) (.slice Ao63 y307.length co63)) (fun _ hk => hk.1), Kd.N_mono (Kd.N_far (p := ⟨gb274, 1, none⟩) (Kd.N_far (p := ⟨gb274, 0, none⟩) (Kd.N_mono HO309.out (fun k_ hk => (⟨hk, hk.2.2.2.1⟩ : _ ∧ k_ ≠ gb274))) (fun _ hk => hk.2) (.slice Ao35 y290.length co35)) (fun _ hk => hk.2) (.slice Ao63 y307.length co63)) (fun _ hk => ⟨hk.1.1, hk.1.2.1⟩), by repeat first | exact gB HB | refine below_set ?_ GE273.out | refine below_set ?_ GE274.out | refine below_set ?_ GE301.out⟩
end Go.Proofs.Ytdihmempaonfjaa.P
