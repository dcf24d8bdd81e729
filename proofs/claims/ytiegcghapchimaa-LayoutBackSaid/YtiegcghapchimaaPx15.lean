/- Written by a program of this session: the functions that the laws reach, what each comes to, and each law as it is stated, for every input. No condition. -/
import Derived.Test.YtiegcghapchimaaPx0
import Derived.Test.YtiegcghapchimaaPx1
import Derived.Test.YtiegcghapchimaaPx7
import Derived.Test.YtiegcghapchimaaPx9
import Derived.Test.YtiegcghapchimaaPx10
import Derived.Test.YtiegcghapchimaaPx12
import Derived.Test.YtiegcghapchimaaPx13
import Derived.Test.YtiegcghapchimaaPx14
namespace Go.Proofs.Ytiegcghapchimaa.P
open Go.RowKit Go.Proofs.YtiegcghapchimaaW.PrintWords Go.Proofs.YtiegcghapchimaaW.PrintLast Go.Proofs.YtiegcghapchimaaW.PrintMore
attribute [local go_sem] max2_int min2_int max_two min_two max_three min_three max_four min_four   -- for this text's walks alone
set_option linter.unusedVariables false
set_option linter.unusedSimpArgs false
mutual
def triglyphref03_Deep.l0 : Nat → Int → Int → List Int → List (S39) → Option (Int)
 | 0, _, _, _, _ => none
 | k + 1, x3, x4, x508000, x508001 => if x4 < (x508001.length : Int) then (if 0 ≤ x4 then (if (((rd_T39 x508001 x4).f2).length : Int) = 0 then (triglyphref03_Deep.l0 k x3 (wrap64 (x4 + 1)) x508000 x508001) else (if 0 < (((rd_T39 x508001 x4).f2).length : Int) then ((triglyphref03_Deep.f k ((rd_T25 ((rd_T39 x508001 x4).f2) 0).f0) ((rd_T25 ((rd_T39 x508001 x4).f2) 0).f1)).bind fun t511 => (if (wrap64 (1 + t511)) > x3 then (triglyphref03_Deep.l0 k (wrap64 (1 + t511)) (wrap64 (x4 + 1)) x508000 x508001) else (triglyphref03_Deep.l0 k x3 (wrap64 (x4 + 1)) x508000 x508001))) else (none))) else (none)) else (some x3)
def triglyphref03_Deep.f : Nat → List Int → List (S39) → Option (Int)
 | 0, _, _ => none
 | k + 1, l0_0, l0_1 => triglyphref03_Deep.l0 k 0 0 l0_0 l0_1
end
theorem triglyphref03_Deep.mono_l : ∀ k, (∀ y0 y1, LeO (triglyphref03_Deep.f k y0 y1) (triglyphref03_Deep.f (k + 1) y0 y1)) ∧ (∀ y0 y1 y2 y3, LeO (triglyphref03_Deep.l0 k y0 y1 y2 y3) (triglyphref03_Deep.l0 (k + 1) y0 y1 y2 y3))
 | 0 => ⟨fun _ _ r h => by simp [triglyphref03_Deep.f] at h, fun _ _ _ _ r h => by simp [triglyphref03_Deep.l0] at h⟩
 | k + 1 => by
  obtain ⟨ih0, ih1⟩ := triglyphref03_Deep.mono_l k
  refine ⟨?_, ?_⟩
  ·intro y0 y1
   unfold triglyphref03_Deep.f
   repeat' first
   | (with_reducible exact ih0 _ _)
   | (with_reducible exact ih1 _ _ _ _)
   | (with_reducible exact LeO.refl _)
   | (with_reducible exact LeO.none _)
   | (with_reducible refine LeO.ite ?_ ?_)
   | (with_reducible refine LeO.bind ?_ (fun _ => ?_))





  ·intro y0 y1 y2 y3
   unfold triglyphref03_Deep.l0
   repeat' first
   | (with_reducible exact ih0 _ _)
   | (with_reducible exact ih1 _ _ _ _)
   | (with_reducible exact LeO.refl _)
   | (with_reducible exact LeO.none _)
   | (with_reducible refine LeO.ite ?_ ?_)
   | (with_reducible refine LeO.bind ?_ (fun _ => ?_))
theorem triglyphref03_Deep.mono : ∀ a0 a1 k, LeO (triglyphref03_Deep.f k a0 a1) (triglyphref03_Deep.f (k + 1) a0 a1) := by
 intro a0 a1 k
 obtain ⟨ih0, ih1⟩ := triglyphref03_Deep.mono_l k
 exact ih0 a0 a1
set_option maxHeartbeats 8000000 in
set_option maxRecDepth 100000 in
theorem triglyphref03_Deep.calls (k : Nat) : ∀ (A0_0 : Option Addr) (c0_0 : Nat) (l0_0 : List Int) (A0_1 : Option Addr) (c0_1 : Nat) (l0_1 : List (S39)) (r : Int) (w : World) (hr0_0 : Kd.C (Kd.int .i64) w A0_0 l0_0.length l0_0) (hc0_0 : l0_0.length ≤ c0_0) (hr0_1 : Kd.C k39 w A0_1 l0_1.length l0_1) (hc0_1 : l0_1.length ≤ c0_1) (h : triglyphref03_Deep.f k l0_0 l0_1 = some r),
  Calls Try.prog 17 #[.agg #[.slice A0_0 l0_0.length c0_0, .slice A0_1 l0_1.length c0_1]] w fun e w' => e = .returned (.int .i64 r) ∧ Below w.heap.size w w' := by
 induction k using Nat.strongRecOn with
 | _ k ih =>
 intro A0_0 c0_0 l0_0 A0_1 c0_1 l0_1 r w hr0_0 hc0_0 hr0_1 hc0_1 h
 cases k with
 | zero => exact absurd h (by simp [triglyphref03_Deep.f])
 | succ k =>
 simp only [triglyphref03_Deep.f] at h
 have hu25 := Try.underlying25
 have HR0_0 := gA hr0_0
 have HC0_0 := gA hc0_0
 clear hr0_0 hc0_0
 have HR0_1 := gA hr0_1
 have HC0_1 := gA hc0_1
 clear hr0_1 hc0_1
 have HB := gA (Below.refl w.heap.size w)
 have H : (triglyphref03_Deep.l0 k 0 0 l0_0 l0_1) = some r := h
 clear h
 have H' := gA H
 clear H
 go_enter Try.func17, Try.ntmps17
 go_wp2_with (first | ((with_reducible refine gate_dst (N := 1) rfl ?_); refine box_event ?hg (N := 1) ?hd (cs := #[.slice A0_0 l0_0.length c0_0, .slice A0_1 l0_1.length c0_1]) (t := 25) ?hr ?_; (case hd => rfl); (case hg => rfl); (case hr => first | (go_simp; done) | (go_simp; rfl)); intro gb507 hg w2 hbox hb; have BK507 := gA (hbox); have GW507 := gA ((by rw [hg]; exact (below_size (gB HB)) : w.heap.size ≤ gb507)); have GE507 := gA ((by rw [hg]; exact (below_size (gB HB)) : w.heap.size ≤ gb507)); replace HB := gA (below_step (gB HB) hb); clear hb hbox hg))
 go_loopg [3, 4] k (fun kq v3 v4 w' => ∃ (x3_1 : Int) (x4_1 : Int), v3 = .int .i64 x3_1 ∧ v4 = .int .i64 x4_1 ∧ Aside0 (triglyphref03_Deep.l0 kq x3_1 x4_1 l0_0 l0_1 = some r) ∧ Aside0 (kq ≤ k) ∧ Aside0 (w'.heap[gb507]? = some (.cells #[(.slice A0_0 l0_0.length c0_0), (.slice A0_1 l0_1.length c0_1)] 25 (0, 0))) ∧ Aside0 (Below w.heap.size w w'))
 case atStart => exact ⟨(0), (0), (rfl), (rfl), H', ⟨Nat.le_refl _⟩, ⟨gK BK507⟩, ⟨by repeat first | exact gB HB | refine below_set ?_ GE507.out⟩⟩
 case round =>
  clear H'
  try clear c1
  try clear p2
  obtain ⟨x3_1, x4_1, rfl, rfl, HA, HK1, BK507, HB⟩ := hrel
  cases gk with
  | zero => exact absurd HA.out (by simp [triglyphref03_Deep.l0])
  | succ k1 =>
   have H := HA.out; clear HA
   simp only [triglyphref03_Deep.l0] at H
   by_cases c3 : x4_1 < (l0_1.length : Int)
   ·rw [if_pos c3] at H
    have c3b0 := decide_eq_true c3
    clear c3
    obtain ⟨c4, H⟩ := iS H
    have c4b0 := decide_eq_true c4
    clear c4
    by_cases c5 : (((rd_T39 l0_1 x4_1).f2).length : Int) = 0
    ·rw [if_pos c5] at H
     have c5b0 : ((((rd_T39 l0_1 x4_1).f2).length : Int) == 0) = true := beq_iff_eq.mpr c5
     have c5b1 : ((((rd_T39 l0_1 x4_1).f2).length : Int) != 0) = false := bne_eq_false_iff_eq.mpr c5
     clear c5
     have H' := gA H
     clear H
     obtain ⟨hcz6_0, hcz6_1, hfz6_0, hfz6_1⟩ := gz2 BK507
     have p508 : 0 ≤ (x4_1 : Int) := of_decide_eq_true (by assumption)
     have q508 : x4_1 < (l0_1.length : Int) := of_decide_eq_true (by assumption)
     obtain ⟨ad508, A508_2, c508_2, e508, hx508_0, hx508_1, hx508_2, hl508_2, hi508_2⟩ := at_T39 HR0_1.out x4_1 p508 q508
     cases e508
     replace hx508_0 := (HB.out.cell (World.block_lt_of_cell? w _ hx508_0)).trans hx508_0
     replace hx508_1 := (HB.out.cell (World.block_lt_of_cell? w _ hx508_1)).trans hx508_1
     replace hx508_2 := (HB.out.cell (World.block_lt_of_cell? w _ hx508_2)).trans hx508_2
     have HR508_2 := gA hi508_2
     have HC508_2 := gA hl508_2
     clear hi508_2 hl508_2
     replace p508 := eq_true p508
     replace q508 := eq_true q508
     go_wp2
     go_roundg k1
     case measure => have := HK1.out; omega
     case rel => exact ⟨(x3_1), (wrap64 (x4_1 + 1)), (rfl), (rfl), H', ⟨by have := HK1.out; omega⟩, ⟨gK BK507⟩, ⟨by repeat first | exact gB HB | refine below_set ?_ GE507.out⟩⟩
    ·rw [if_neg c5] at H
     have c5b0 : ((((rd_T39 l0_1 x4_1).f2).length : Int) == 0) = false := beq_eq_false_iff_ne.mpr c5
     have c5b1 : ((((rd_T39 l0_1 x4_1).f2).length : Int) != 0) = true := bne_iff_ne.mpr c5
     have c5b2 : ¬ (((rd_T39 l0_1 x4_1).f2) = []) := fun h_ => c5 (by rw [h_]; rfl)
     obtain ⟨c7, H⟩ := iS H
     have c7b0 := decide_eq_true c7
     have c7b1 : decide (0 < ((rd_T39 l0_1 x4_1).f2).length) = true := decide_eq_true (by omega)
     clear c7
     replace H := Option.bind_eq_some_iff.mp H
     obtain ⟨t511, A80, H⟩ := H
     replace H : (if (wrap64 (1 + t511)) > x3_1 then (triglyphref03_Deep.l0 k1 (wrap64 (1 + t511)) (wrap64 (x4_1 + 1)) l0_0 l0_1) else (triglyphref03_Deep.l0 k1 x3_1 (wrap64 (x4_1 + 1)) l0_0 l0_1)) = some r := H
     have A8 := gA A80
     clear A80
     by_cases c9 : (wrap64 (1 + t511)) > x3_1
     ·rw [if_pos c9] at H
      have c9b0 : decide (x3_1 < (wrap64 (1 + t511))) = true := decide_eq_true c9
      clear c9
      have H' := gA H
      clear H
      obtain ⟨hcz10_0, hcz10_1, hfz10_0, hfz10_1⟩ := gz2 BK507
      have p508 : 0 ≤ (x4_1 : Int) := of_decide_eq_true (by assumption)
      have q508 : x4_1 < (l0_1.length : Int) := of_decide_eq_true (by assumption)
      obtain ⟨ad508, A508_2, c508_2, e508, hx508_0, hx508_1, hx508_2, hl508_2, hi508_2⟩ := at_T39 HR0_1.out x4_1 p508 q508
      cases e508
      replace hx508_0 := (HB.out.cell (World.block_lt_of_cell? w _ hx508_0)).trans hx508_0
      replace hx508_1 := (HB.out.cell (World.block_lt_of_cell? w _ hx508_1)).trans hx508_1
      replace hx508_2 := (HB.out.cell (World.block_lt_of_cell? w _ hx508_2)).trans hx508_2
      have HR508_2 := gA hi508_2
      have HC508_2 := gA hl508_2
      clear hi508_2 hl508_2
      replace p508 := eq_true p508
      replace q508 := eq_true q508
      have p509 : 0 ≤ (x4_1 : Int) := of_decide_eq_true (by assumption)
      have q509 : x4_1 < (l0_1.length : Int) := of_decide_eq_true (by assumption)
      obtain ⟨ad509, A509_2, c509_2, e509, hx509_0, hx509_1, hx509_2, hl509_2, hi509_2⟩ := at_T39 HR0_1.out x4_1 p509 q509
      obtain rfl : ad508 = ad509 := (by injection e509)
      replace hx509_0 := (HB.out.cell (World.block_lt_of_cell? w _ hx509_0)).trans hx509_0
      replace hx509_1 := (HB.out.cell (World.block_lt_of_cell? w _ hx509_1)).trans hx509_1
      replace hx509_2 := (HB.out.cell (World.block_lt_of_cell? w _ hx509_2)).trans hx509_2
      have HR509_2 := gA hi509_2
      have HC509_2 := gA hl509_2
      clear hi509_2 hl509_2
      replace p509 := eq_true p509
      replace q509 := eq_true q509
      have ea_ := Option.some.inj (hx508_2.symm.trans hx509_2)
      injection ea_ with ea_ en_ ec_
      subst ea_
      subst ec_
      clear en_
      have p510 : 0 ≤ (0 : Int) := (by omega)
      have q510 : 0 < (((rd_T39 l0_1 x4_1).f2).length : Int) := of_decide_eq_true (by assumption)
      obtain ⟨ad510, A510_0, c510_0, A510_1, c510_1, e510, hx510_0, hx510_1, hl510_0, hi510_0, hl510_1, hi510_1⟩ := at_T25 HR509_2.out 0 p510 q510
      cases e510
      have qi510 : (0 < ((rd_T39 l0_1 x4_1).f2).length) = True := eq_true (by omega)
      (try rw [show ((0 : Int)).toNat = 0 from rfl] at hx510_0)
      (try rw [show 0 * 2 = 0 from rfl] at hx510_0)
      (try rw [Addr.add_zero'] at hx510_0)
      (try rw [show ((0 : Int)).toNat = 0 from rfl] at hx510_1)
      (try rw [show 0 * 2 = 0 from rfl] at hx510_1)
      (try rw [Addr.add_zero'] at hx510_1)
      replace hx510_0 := (HB.out.cell (World.block_lt_of_cell? w _ hx510_0)).trans hx510_0
      replace hx510_1 := (HB.out.cell (World.block_lt_of_cell? w _ hx510_1)).trans hx510_1
      have HR510_0 := gA hi510_0
      have HC510_0 := gA hl510_0
      clear hi510_0 hl510_0
      have HR510_1 := gA hi510_1
      have HC510_1 := gA hl510_1
      clear hi510_1 hl510_1
      replace p510 := eq_true p510
      replace q510 := eq_true q510
      go_wp2_with (first | ((with_reducible refine gate_callee (f := 17) rfl ?_); refine goesL_ (some 29) rfl rfl Try.func17 (by kernel_rfl) rfl #[.agg #[.slice A510_0 ((rd_T25 ((rd_T39 l0_1 x4_1).f2) 0).f0).length c510_0, .slice A510_1 ((rd_T25 ((rd_T39 l0_1 x4_1).f2) 0).f1).length c510_1]] rfl (by (try simp only [List.map_toArray, List.map_cons, List.map_nil]); first | done | rfl | (simp only [List.length_drop, List.length_take]; rfl)) ?_; (with_reducible refine (ih k1 (by have := HK1.out; omega) _ _ ((rd_T25 ((rd_T39 l0_1 x4_1).f2) 0).f0) _ _ ((rd_T25 ((rd_T39 l0_1 x4_1).f2) 0).f1) t511 _ ?side1 ?side2 ?side3 ?side4 A8.out).mono ?_); (case side1 => exact gC HR510_0 HB); (case side2 => exact HC510_0.out); (case side3 => exact gC HR510_1 HB); (case side4 => exact HC510_1.out); rintro e w11 ⟨rfl, hb⟩; refine ⟨_, rfl, ?_⟩; replace BK507 := gA (blk_below (gK BK507) hb); replace HB := gA (below_step (gB HB) hb); (try clear hb)))
      go_roundg k1
      case measure => have := HK1.out; omega
      case rel => exact ⟨(wrap64 (1 + t511)), (wrap64 (x4_1 + 1)), (rfl), (rfl), H', ⟨by have := HK1.out; omega⟩, ⟨gK BK507⟩, ⟨by repeat first | exact gB HB | refine below_set ?_ GE507.out⟩⟩
     ·rw [if_neg c9] at H
      have c9b0 : decide (x3_1 < (wrap64 (1 + t511))) = false := decide_eq_false c9
      clear c9
      have H' := gA H
      clear H
      obtain ⟨hcz12_0, hcz12_1, hfz12_0, hfz12_1⟩ := gz2 BK507
      have p508 : 0 ≤ (x4_1 : Int) := of_decide_eq_true (by assumption)
      have q508 : x4_1 < (l0_1.length : Int) := of_decide_eq_true (by assumption)
      obtain ⟨ad508, A508_2, c508_2, e508, hx508_0, hx508_1, hx508_2, hl508_2, hi508_2⟩ := at_T39 HR0_1.out x4_1 p508 q508
      cases e508
      replace hx508_0 := (HB.out.cell (World.block_lt_of_cell? w _ hx508_0)).trans hx508_0
      replace hx508_1 := (HB.out.cell (World.block_lt_of_cell? w _ hx508_1)).trans hx508_1
      replace hx508_2 := (HB.out.cell (World.block_lt_of_cell? w _ hx508_2)).trans hx508_2
      have HR508_2 := gA hi508_2
      have HC508_2 := gA hl508_2
      clear hi508_2 hl508_2
      replace p508 := eq_true p508
      replace q508 := eq_true q508
      have p509 : 0 ≤ (x4_1 : Int) := of_decide_eq_true (by assumption)
      have q509 : x4_1 < (l0_1.length : Int) := of_decide_eq_true (by assumption)
      obtain ⟨ad509, A509_2, c509_2, e509, hx509_0, hx509_1, hx509_2, hl509_2, hi509_2⟩ := at_T39 HR0_1.out x4_1 p509 q509
      obtain rfl : ad508 = ad509 := (by injection e509)
      replace hx509_0 := (HB.out.cell (World.block_lt_of_cell? w _ hx509_0)).trans hx509_0
      replace hx509_1 := (HB.out.cell (World.block_lt_of_cell? w _ hx509_1)).trans hx509_1
      replace hx509_2 := (HB.out.cell (World.block_lt_of_cell? w _ hx509_2)).trans hx509_2
      have HR509_2 := gA hi509_2
      have HC509_2 := gA hl509_2
      clear hi509_2 hl509_2
      replace p509 := eq_true p509
      replace q509 := eq_true q509
      have ea_ := Option.some.inj (hx508_2.symm.trans hx509_2)
      injection ea_ with ea_ en_ ec_
      subst ea_
      subst ec_
      clear en_
      have p510 : 0 ≤ (0 : Int) := (by omega)
      have q510 : 0 < (((rd_T39 l0_1 x4_1).f2).length : Int) := of_decide_eq_true (by assumption)
      obtain ⟨ad510, A510_0, c510_0, A510_1, c510_1, e510, hx510_0, hx510_1, hl510_0, hi510_0, hl510_1, hi510_1⟩ := at_T25 HR509_2.out 0 p510 q510
      cases e510
      have qi510 : (0 < ((rd_T39 l0_1 x4_1).f2).length) = True := eq_true (by omega)
      (try rw [show ((0 : Int)).toNat = 0 from rfl] at hx510_0)
      (try rw [show 0 * 2 = 0 from rfl] at hx510_0)
      (try rw [Addr.add_zero'] at hx510_0)
      (try rw [show ((0 : Int)).toNat = 0 from rfl] at hx510_1)
      (try rw [show 0 * 2 = 0 from rfl] at hx510_1)
      (try rw [Addr.add_zero'] at hx510_1)
      replace hx510_0 := (HB.out.cell (World.block_lt_of_cell? w _ hx510_0)).trans hx510_0
      replace hx510_1 := (HB.out.cell (World.block_lt_of_cell? w _ hx510_1)).trans hx510_1
      have HR510_0 := gA hi510_0
      have HC510_0 := gA hl510_0
      clear hi510_0 hl510_0
      have HR510_1 := gA hi510_1
      have HC510_1 := gA hl510_1
      clear hi510_1 hl510_1
      replace p510 := eq_true p510
      replace q510 := eq_true q510
      go_wp2_with (first | ((with_reducible refine gate_callee (f := 17) rfl ?_); refine goesL_ (some 29) rfl rfl Try.func17 (by kernel_rfl) rfl #[.agg #[.slice A510_0 ((rd_T25 ((rd_T39 l0_1 x4_1).f2) 0).f0).length c510_0, .slice A510_1 ((rd_T25 ((rd_T39 l0_1 x4_1).f2) 0).f1).length c510_1]] rfl (by (try simp only [List.map_toArray, List.map_cons, List.map_nil]); first | done | rfl | (simp only [List.length_drop, List.length_take]; rfl)) ?_; (with_reducible refine (ih k1 (by have := HK1.out; omega) _ _ ((rd_T25 ((rd_T39 l0_1 x4_1).f2) 0).f0) _ _ ((rd_T25 ((rd_T39 l0_1 x4_1).f2) 0).f1) t511 _ ?side1 ?side2 ?side3 ?side4 A8.out).mono ?_); (case side1 => exact gC HR510_0 HB); (case side2 => exact HC510_0.out); (case side3 => exact gC HR510_1 HB); (case side4 => exact HC510_1.out); rintro e w13 ⟨rfl, hb⟩; refine ⟨_, rfl, ?_⟩; replace BK507 := gA (blk_below (gK BK507) hb); replace HB := gA (below_step (gB HB) hb); (try clear hb)))
      go_roundg k1
      case measure => have := HK1.out; omega
      case rel => exact ⟨(x3_1), (wrap64 (x4_1 + 1)), (rfl), (rfl), H', ⟨by have := HK1.out; omega⟩, ⟨gK BK507⟩, ⟨by repeat first | exact gB HB | refine below_set ?_ GE507.out⟩⟩
   ·rw [if_neg c3] at H
    have c3b0 := decide_eq_false c3
    clear c3
    obtain rfl := Option.some.inj H
    obtain ⟨hcz14_0, hcz14_1, hfz14_0, hfz14_1⟩ := gz2 BK507
    go_wp2
    go_ret
    exact ⟨rfl, by repeat first | exact gB HB | refine below_set ?_ GE507.out⟩
mutual
def triglyphlaw05_LayoutBack.j0 : Nat → Bool → List Int → List (S39) → Option (Bool)
 | 0, _, _, _ => none
 | k + 1, x20, x513000, x513001 => if x20 = true then ((triglyphlaw05_works.f k).bind fun t515 => (some t515)) else ((some (([9, 10, 11] : List Int) : List Int)).bind fun y516 => (triglyphlaw05_LayoutBack.l0 k y516 (y516.length : Int) 0 x513000 x513001))
def triglyphlaw05_LayoutBack.l0 : Nat → List Int → Int → Int → List Int → List (S39) → Option (Bool)
 | 0, _, _, _, _, _ => none
 | k + 1, x22, x23, x24, x513000, x513001 => if x24 < x23 then (if 0 ≤ x24 then (if x24 < (x22.length : Int) then ((layout_Mo.f k (rd x22 x24) x513000 x513001).bind fun bt520 => ((layout_Mo.f k (rd x22 x24) bt520.1 bt520.2.1).bind fun bt528 => (if bt520.2.2 = 0 then (if bt528.2.2 = 0 then ((triglyphref03_Same.f k x513000 x513001 bt528.1 bt528.2.1).bind fun t536 => (if t536 = true then (triglyphlaw05_LayoutBack.l0 k x22 x23 (wrap64 (x24 + 1)) x513000 x513001) else (none))) else (none)) else (none)))) else (none)) else (none)) else ((layout_Mo.f k 15 x513000 x513001).bind fun bt537 => (if bt537.2.2 = 0 then ((layout_Mo.f k 16 bt537.1 bt537.2.1).bind fun bt545 => (if bt545.2.2 = 0 then ((triglyphref03_Same.f k x513000 x513001 bt545.1 bt545.2.1).bind fun t553 => (if t553 = true then ((triglyphlaw05_works.f k).bind fun t554 => (some t554)) else (none))) else (none))) else (if bt537.2.2 = 15 then ((triglyphref03_Deep.f k x513000 x513001).bind fun t555 => (if t555 = 8 then ((triglyphlaw05_works.f k).bind fun t556 => (some t556)) else (none))) else (none))))
end
def triglyphlaw05_LayoutBack.f (k : Nat) (l0_0 : List Int) (l0_1 : List (S39)) : Option (Bool) := (triglyphlaw05_light.f k l0_0 l0_1).bind fun t513 => (if t513 = true then ((triglyphref03_Check.f k l0_0 l0_1).bind fun t514 => (triglyphlaw05_LayoutBack.j0 k (t514 != 0) l0_0 l0_1)) else (triglyphlaw05_LayoutBack.j0 k true l0_0 l0_1))
theorem triglyphlaw05_LayoutBack.mono_l : ∀ k, (∀ y0 y1 y2, LeO (triglyphlaw05_LayoutBack.j0 k y0 y1 y2) (triglyphlaw05_LayoutBack.j0 (k + 1) y0 y1 y2)) ∧ (∀ y0 y1 y2 y3 y4, LeO (triglyphlaw05_LayoutBack.l0 k y0 y1 y2 y3 y4) (triglyphlaw05_LayoutBack.l0 (k + 1) y0 y1 y2 y3 y4))
 | 0 => ⟨fun _ _ _ r h => by simp [triglyphlaw05_LayoutBack.j0] at h, fun _ _ _ _ _ r h => by simp [triglyphlaw05_LayoutBack.l0] at h⟩
 | k + 1 => by
  obtain ⟨ih0, ih1⟩ := triglyphlaw05_LayoutBack.mono_l k
  refine ⟨?_, ?_⟩
  ·intro y0 y1 y2
   unfold triglyphlaw05_LayoutBack.j0
   repeat' first
   | (with_reducible exact ih0 _ _ _)
   | (with_reducible exact ih1 _ _ _ _ _)
   | (with_reducible exact layout_Mo.mono _ _ _ _)
   | (with_reducible exact triglyphlaw05_light.mono _ _ _)
   | (with_reducible exact triglyphlaw05_works.mono _)
   | (with_reducible exact triglyphref03_Check.mono _ _ _)
   | (with_reducible exact triglyphref03_Deep.mono _ _ _)
   | (with_reducible exact triglyphref03_Same.mono _ _ _ _ _)
   | (with_reducible exact LeO.refl _)
   | (with_reducible exact LeO.none _)
   | (with_reducible refine LeO.ite ?_ ?_)
   | (with_reducible refine LeO.bind ?_ (fun _ => ?_))


   | exact layout_Mo.mono _ _ _ _
   | exact triglyphlaw05_light.mono _ _ _
   | exact triglyphlaw05_works.mono _
   | exact triglyphref03_Check.mono _ _ _
   | exact triglyphref03_Deep.mono _ _ _
   | exact triglyphref03_Same.mono _ _ _ _ _



  ·intro y0 y1 y2 y3 y4
   unfold triglyphlaw05_LayoutBack.l0
   repeat' first
   | (with_reducible exact ih0 _ _ _)
   | (with_reducible exact ih1 _ _ _ _ _)
   | (with_reducible exact layout_Mo.mono _ _ _ _)
   | (with_reducible exact triglyphlaw05_light.mono _ _ _)
   | (with_reducible exact triglyphlaw05_works.mono _)
   | (with_reducible exact triglyphref03_Check.mono _ _ _)
   | (with_reducible exact triglyphref03_Deep.mono _ _ _)
   | (with_reducible exact triglyphref03_Same.mono _ _ _ _ _)
   | (with_reducible exact LeO.refl _)
   | (with_reducible exact LeO.none _)
   | (with_reducible refine LeO.ite ?_ ?_)
   | (with_reducible refine LeO.bind ?_ (fun _ => ?_))


   | exact layout_Mo.mono _ _ _ _
   | exact triglyphlaw05_light.mono _ _ _
   | exact triglyphlaw05_works.mono _
   | exact triglyphref03_Check.mono _ _ _
   | exact triglyphref03_Deep.mono _ _ _
   | exact triglyphref03_Same.mono _ _ _ _ _
theorem triglyphlaw05_LayoutBack.mono : ∀ a0 a1 k, LeO (triglyphlaw05_LayoutBack.f k a0 a1) (triglyphlaw05_LayoutBack.f (k + 1) a0 a1) := by
 intro a0 a1 k
 obtain ⟨ih0, ih1⟩ := triglyphlaw05_LayoutBack.mono_l k
 unfold triglyphlaw05_LayoutBack.f
 repeat' first
   | (with_reducible exact ih0 _ _ _)
   | (with_reducible exact ih1 _ _ _ _ _)
   | (with_reducible exact layout_Mo.mono _ _ _ _)
   | (with_reducible exact triglyphlaw05_light.mono _ _ _)
   | (with_reducible exact triglyphlaw05_works.mono _)
   | (with_reducible exact triglyphref03_Check.mono _ _ _)
   | (with_reducible exact triglyphref03_Deep.mono _ _ _)
   | (with_reducible exact triglyphref03_Same.mono _ _ _ _ _)
   | (with_reducible exact LeO.refl _)
   | (with_reducible exact LeO.none _)
   | (with_reducible refine LeO.ite ?_ ?_)
   | (with_reducible refine LeO.bind ?_ (fun _ => ?_))


   | exact layout_Mo.mono _ _ _ _
   | exact triglyphlaw05_light.mono _ _ _
   | exact triglyphlaw05_works.mono _
   | exact triglyphref03_Check.mono _ _ _
   | exact triglyphref03_Deep.mono _ _ _
   | exact triglyphref03_Same.mono _ _ _ _ _
set_option maxHeartbeats 8000000 in
set_option maxRecDepth 100000 in
theorem triglyphlaw05_LayoutBack.calls (k : Nat) (A0_0 : Option Addr) (c0_0 : Nat) (l0_0 : List Int) (A0_1 : Option Addr) (c0_1 : Nat) (l0_1 : List (S39)) (r : Bool) (w : World) (hr0_0 : Kd.C (Kd.int .i64) w A0_0 l0_0.length l0_0) (hc0_0 : l0_0.length ≤ c0_0) (hr0_1 : Kd.C k39 w A0_1 l0_1.length l0_1) (hc0_1 : l0_1.length ≤ c0_1) (h : triglyphlaw05_LayoutBack.f k l0_0 l0_1 = some r) :
  Calls Try.prog 5 #[.agg #[.slice A0_0 l0_0.length c0_0, .slice A0_1 l0_1.length c0_1]] w fun e w' => e = .returned (.bool r) ∧ Below w.heap.size w w' := by
 have hu25 := Try.underlying25
 have HR0_0 := gA hr0_0
 have HC0_0 := gA hc0_0
 clear hr0_0 hc0_0
 have HR0_1 := gA hr0_1
 have HC0_1 := gA hc0_1
 clear hr0_1 hc0_1
 have HB := gA (Below.refl w.heap.size w)
 have H : ((triglyphlaw05_light.f k l0_0 l0_1).bind fun t513 => (if t513 = true then ((triglyphref03_Check.f k l0_0 l0_1).bind fun t514 => (triglyphlaw05_LayoutBack.j0 k (t514 != 0) l0_0 l0_1)) else (triglyphlaw05_LayoutBack.j0 k true l0_0 l0_1))) = some r := h
 clear h
 have HC2 := gA H
 clear H
 go_enter Try.func5, Try.ntmps5
 go_upto_region 1 with (first | ((with_reducible refine gate_dst (N := 1) rfl ?_); refine box_event ?hg (N := 1) ?hd (cs := #[.slice A0_0 l0_0.length c0_0, .slice A0_1 l0_1.length c0_1]) (t := 25) ?hr ?_; (case hd => rfl); (case hg => rfl); (case hr => first | (go_simp; done) | (go_simp; rfl)); intro gb512 hg w3 hbox hb; have BK512 := gA (hbox); have GW512 := gA ((by rw [hg]; exact (below_size (gB HB)) : w.heap.size ≤ gb512)); have GE512 := gA ((by rw [hg]; exact (below_size (gB HB)) : w.heap.size ≤ gb512)); replace HB := gA (below_step (gB HB) hb); clear hb hbox hg))
 (try simp only [Act.put, List.setIfInBounds_toArray, List.set_cons_zero, List.set_cons_succ])
 go_cut [20] (fun v20 wc => ∃ (kq : Nat) (x20_1 : Bool), v20 = .bool x20_1 ∧ Aside0 (triglyphlaw05_LayoutBack.j0 kq x20_1 l0_0 l0_1 = some r) ∧ Aside0 (kq ≤ k) ∧ Aside0 (wc.heap[gb512]? = some (.cells #[(.slice A0_0 l0_0.length c0_0), (.slice A0_1 l0_1.length c0_1)] 25 (0, 0))) ∧ Aside0 (Below w.heap.size w wc))
 case first =>
  have H := HC2.out; clear HC2
  replace H := Option.bind_eq_some_iff.mp H
  obtain ⟨t513, A40, H⟩ := H
  replace H : (if t513 = true then ((triglyphref03_Check.f k l0_0 l0_1).bind fun t514 => (triglyphlaw05_LayoutBack.j0 k (t514 != 0) l0_0 l0_1)) else (triglyphlaw05_LayoutBack.j0 k true l0_0 l0_1)) = some r := H
  have A4 := gA A40
  clear A40
  by_cases c5 : t513 = true
  ·subst c5
   have H1 : ((triglyphref03_Check.f k l0_0 l0_1).bind fun t514 => (triglyphlaw05_LayoutBack.j0 k (t514 != 0) l0_0 l0_1)) = some r := by rw [if_pos rfl] at H; exact H
   clear H; have H := H1; clear H1
   replace H := Option.bind_eq_some_iff.mp H
   obtain ⟨t514, A60, H⟩ := H
   replace H : (triglyphlaw05_LayoutBack.j0 k (t514 != 0) l0_0 l0_1) = some r := H
   have A6 := gA A60
   clear A60
   have H' := gA H
   clear H
   obtain ⟨hcz7_0, hcz7_1, hfz7_0, hfz7_1⟩ := gz2 BK512
   go_wp2_with (first | ((with_reducible refine gate_callee (f := 9) rfl ?_); refine goesL_ (some 14) rfl rfl Try.func9 (by kernel_rfl) rfl #[.agg #[.slice A0_0 l0_0.length c0_0, .slice A0_1 l0_1.length c0_1]] rfl (by (try simp only [List.map_toArray, List.map_cons, List.map_nil]); first | done | rfl | (simp only [List.length_drop, List.length_take]; rfl)) ?_; (with_reducible refine (triglyphlaw05_light.calls k _ _ l0_0 _ _ l0_1 true _ ?side1 ?side2 ?side3 ?side4 A4.out).mono ?_); (case side1 => exact gC HR0_0 HB); (case side2 => exact HC0_0.out); (case side3 => exact gC HR0_1 HB); (case side4 => exact HC0_1.out); rintro e w8 ⟨rfl, hb⟩; refine ⟨_, rfl, ?_⟩; replace BK512 := gA (blk_below (gK BK512) hb); replace HB := gA (below_step (gB HB) hb); (try clear hb); obtain ⟨hcz9_0, hcz9_1, hfz9_0, hfz9_1⟩ := gz2 BK512) | (go_at_call 16; (with_reducible refine (triglyphref03_Check.calls k _ _ l0_0 _ _ l0_1 t514 _ ?side1 ?side2 ?side3 ?side4 A6.out).mono ?_); (case side1 => exact gC HR0_0 HB); (case side2 => exact HC0_0.out); (case side3 => exact gC HR0_1 HB); (case side4 => exact HC0_1.out); rintro e w10 ⟨rfl, hb⟩; replace BK512 := gA (blk_below (gK BK512) hb); replace HB := gA (below_step (gB HB) hb); (try clear hb)))
   all_goals (go_meet; (case rel => exact ⟨_, ((t514 != 0)), (by first | rfl | (simp; done) | (simp [*]; done) | (exfalso; simp_all; done) | (exfalso; simp_all; omega)), H', ⟨by first | omega | exact Nat.le_refl _⟩, ⟨gK BK512⟩, ⟨gB HB⟩⟩))
  ·replace c5 := Bool.eq_false_iff.mpr c5
   subst c5
   have H1 : (triglyphlaw05_LayoutBack.j0 k true l0_0 l0_1) = some r := by rw [if_neg (show ¬ (false = true) by decide)] at H; exact H
   clear H; have H := H1; clear H1
   have H' := gA H
   clear H
   obtain ⟨hcz11_0, hcz11_1, hfz11_0, hfz11_1⟩ := gz2 BK512
   go_wp2_with (first | ((with_reducible refine gate_callee (f := 9) rfl ?_); refine goesL_ (some 14) rfl rfl Try.func9 (by kernel_rfl) rfl #[.agg #[.slice A0_0 l0_0.length c0_0, .slice A0_1 l0_1.length c0_1]] rfl (by (try simp only [List.map_toArray, List.map_cons, List.map_nil]); first | done | rfl | (simp only [List.length_drop, List.length_take]; rfl)) ?_; (with_reducible refine (triglyphlaw05_light.calls k _ _ l0_0 _ _ l0_1 false _ ?side1 ?side2 ?side3 ?side4 A4.out).mono ?_); (case side1 => exact gC HR0_0 HB); (case side2 => exact HC0_0.out); (case side3 => exact gC HR0_1 HB); (case side4 => exact HC0_1.out); rintro e w12 ⟨rfl, hb⟩; refine ⟨_, rfl, ?_⟩; replace BK512 := gA (blk_below (gK BK512) hb); replace HB := gA (below_step (gB HB) hb); (try clear hb)))
   all_goals (go_meet; (case rel => exact ⟨_, (true), (by first | rfl | (simp; done) | (simp [*]; done) | (exfalso; simp_all; done) | (exfalso; simp_all; omega)), H', ⟨by first | omega | exact Nat.le_refl _⟩, ⟨gK BK512⟩, ⟨gB HB⟩⟩))
 case rest =>
  clear HC2
  try clear p2
  try clear c5
  try clear c9
  try clear hcz11_0
  try clear hcz11_1
  try clear hcz7_0
  try clear hcz7_1
  try clear hcz9_0
  try clear hcz9_1
  try clear hfz11_0
  try clear hfz11_1
  try clear hfz7_0
  try clear hfz7_1
  try clear hfz9_0
  try clear hfz9_1
  obtain ⟨kq, x20_1, rfl, HA, HJ1, BK512, HB⟩ := hcut
  cases kq with
  | zero => exact absurd HA.out (by simp [triglyphlaw05_LayoutBack.j0])
  | succ kj1 =>
   have H := HA.out; clear HA
   simp only [triglyphlaw05_LayoutBack.j0] at H
   by_cases c13 : x20_1 = true
   ·subst c13
    have H1 : ((triglyphlaw05_works.f kj1).bind fun t515 => (some t515)) = some r := by rw [if_pos rfl] at H; exact H
    clear H; have H := H1; clear H1
    replace H := Option.bind_eq_some_iff.mp H
    obtain ⟨t515, A140, H⟩ := H
    replace H : (some t515) = some r := H
    have A14 := gA A140
    clear A140
    obtain rfl := Option.some.inj H
    go_wp2_with (first | ((with_reducible refine gate_callee (f := 10) rfl ?_); refine goesL_ (some 21) rfl rfl Try.func10 (by kernel_rfl) rfl #[] rfl (by (try simp only [List.map_toArray, List.map_cons, List.map_nil]); first | done | rfl | (simp only [List.length_drop, List.length_take]; rfl)) ?_; (with_reducible refine (triglyphlaw05_works.calls kj1  t515 _ A14.out).mono ?_); rintro e w15 ⟨rfl, hb⟩; refine ⟨_, rfl, ?_⟩; replace BK512 := gA (blk_below (gK BK512) hb); replace HB := gA (below_step (gB HB) hb); (try clear hb)))
    go_ret
    exact ⟨rfl, by repeat first | exact gB HB | refine below_set ?_ GE512.out⟩
   ·replace c13 := Bool.eq_false_iff.mpr c13
    subst c13
    have H1 : ((some (([9, 10, 11] : List Int) : List Int)).bind fun y516 => (triglyphlaw05_LayoutBack.l0 kj1 y516 (y516.length : Int) 0 l0_0 l0_1)) = some r := by rw [if_neg (show ¬ (false = true) by decide)] at H; exact H
    clear H; have H := H1; clear H1
    obtain ⟨y516, hy516⟩ : ∃ y_ : List Int, y_ = (([9, 10, 11] : List Int)) := ⟨_, rfl⟩
    replace H : (triglyphlaw05_LayoutBack.l0 kj1 y516 (y516.length : Int) 0 l0_0 l0_1) = some r := by first | (rw [hy516]; with_reducible exact H) | (have H2_ := (Option.bind_some _ _).symm.trans H; rw [hy516]; with_reducible exact H2_) | (have H2_ := (Option.bind_some _ _).symm.trans H; with_reducible exact H2_) | with_reducible exact H | (rw [hy516]; exact H) | exact H
    have Ny516 := gA hy516
    clear hy516
    have H' := gA H
    clear H
    go_wp2_with (first | ((with_reducible refine gate_dst (N := 22) rfl ?_); refine Kd.R_lit (Kd.int .i64) _ 3 ?hg (N := 22) ?hd (xs := ([9, 10, 11] : List Int)) (inner := [.int .i64 9, .int .i64 10, .int .i64 11]) (ok := fun _ => True) (okp := fun _ => True) ?hr ?hp (fun _ hk => hk) trivial (Below.refl _ _) (Nat.le_refl _) (by simp) ?_; (case hd => rfl); (case hg => rfl); (case hr => first | (go_simp; done) | (go_simp; rfl)); (case hp => exact (Reps.one (show Kd.M (Kd.int .i64) _ _ _ 9 [.int .i64 9] from rfl) (Reps.one (show Kd.M (Kd.int .i64) _ _ _ 10 [.int .i64 10] from rfl) (Reps.one (show Kd.M (Kd.int .i64) _ _ _ 11 [.int .i64 11] from rfl) (Reps.none _ _))))); intro v517 w16 ho17 hb hg_ hnew_; clear hg_ hnew_; (first | rw [← Ny516.out] at ho17 | (simp only [Int.reduceToNat] at ho17; rw [← Ny516.out] at ho17)); have HO518 := gA (Kd.R_lower ho17 (below_size (gB HB))); replace BK512 := gA (blk_below (gK BK512) hb); replace HB := gA (below_step (gB HB) hb); clear hb ho17; obtain ⟨Ao18, co18, eo18⟩ := Kd.R_slice HO518.out; subst eo18))
    go_loopg [24] kj1 (fun kq v24 w' => ∃ (x24_2 : Int), v24 = .int .i64 x24_2 ∧ Aside0 (triglyphlaw05_LayoutBack.l0 kq y516 (y516.length : Int) x24_2 l0_0 l0_1 = some r) ∧ Aside0 (kq ≤ kj1) ∧ Aside0 (Kd.R (Kd.int .i64) 3 w' w.heap.size (fun _ => True) (.slice Ao18 y516.length co18) y516) ∧ Aside0 (w'.heap[gb512]? = some (.cells #[(.slice A0_0 l0_0.length c0_0), (.slice A0_1 l0_1.length c0_1)] 25 (0, 0))) ∧ Aside0 (Below w.heap.size w w'))
    case atStart => exact ⟨(0), (rfl), H', ⟨Nat.le_refl _⟩, ⟨gR HO518⟩, ⟨gK BK512⟩, ⟨by repeat first | exact gB HB | refine below_set ?_ GE512.out⟩⟩
    case round =>
     clear H'
     try clear c1
     try clear p2
     try clear c5
     try clear c9
     try clear c10
     try clear c13
     try clear hcz11_0
     try clear hcz11_1
     try clear hcz7_0
     try clear hcz7_1
     try clear hcz9_0
     try clear hcz9_1
     try clear hfz11_0
     try clear hfz11_1
     try clear hfz7_0
     try clear hfz7_1
     try clear hfz9_0
     try clear hfz9_1
     try clear p2
     obtain ⟨x24_2, rfl, HA, HK2, HO_22, BK512, HB⟩ := hrel
     cases gk with
     | zero => exact absurd HA.out (by simp [triglyphlaw05_LayoutBack.l0])
     | succ k2 =>
      have H := HA.out; clear HA
      simp only [triglyphlaw05_LayoutBack.l0] at H
      by_cases c19 : x24_2 < (y516.length : Int)
      ·rw [if_pos c19] at H
       have c19b0 := decide_eq_true c19
       clear c19
       obtain ⟨c20, H⟩ := iS H
       have c20b0 := decide_eq_true c20
       clear c20
       obtain ⟨c21, H⟩ := iS H
       have c21b0 := decide_eq_true c21
       clear c21
       replace H := Option.bind_eq_some_iff.mp H
       obtain ⟨⟨t520, t523, t526⟩, A220, H⟩ := H
       replace H : ((layout_Mo.f k2 (rd y516 x24_2) t520 t523).bind fun bt528 => (if t526 = 0 then (if bt528.2.2 = 0 then ((triglyphref03_Same.f k2 l0_0 l0_1 bt528.1 bt528.2.1).bind fun t536 => (if t536 = true then (triglyphlaw05_LayoutBack.l0 k2 y516 (y516.length : Int) (wrap64 (x24_2 + 1)) l0_0 l0_1) else (none))) else (none)) else (none))) = some r := H
       have A22 := gA A220
       clear A220
       replace H := Option.bind_eq_some_iff.mp H
       obtain ⟨⟨t528, t531, t534⟩, A230, H⟩ := H
       replace H : (if t526 = 0 then (if t534 = 0 then ((triglyphref03_Same.f k2 l0_0 l0_1 t528 t531).bind fun t536 => (if t536 = true then (triglyphlaw05_LayoutBack.l0 k2 y516 (y516.length : Int) (wrap64 (x24_2 + 1)) l0_0 l0_1) else (none))) else (none)) else (none)) = some r := H
       have A23 := gA A230
       clear A230
       obtain ⟨c24, H⟩ := iS H
       have c24b0 : (t526 == 0) = true := beq_iff_eq.mpr c24
       have c24b1 : (t526 != 0) = false := bne_eq_false_iff_eq.mpr c24
       clear c24
       obtain ⟨c25, H⟩ := iS H
       have c25b0 : (t534 == 0) = true := beq_iff_eq.mpr c25
       have c25b1 : (t534 != 0) = false := bne_eq_false_iff_eq.mpr c25
       clear c25
       replace H := Option.bind_eq_some_iff.mp H
       obtain ⟨t536, A260, H⟩ := H
       replace H : (if t536 = true then (triglyphlaw05_LayoutBack.l0 k2 y516 (y516.length : Int) (wrap64 (x24_2 + 1)) l0_0 l0_1) else (none)) = some r := H
       have A26 := gA A260
       clear A260
       by_cases c27 : t536 = true
       ·subst c27
        have H1 : (triglyphlaw05_LayoutBack.l0 k2 y516 (y516.length : Int) (wrap64 (x24_2 + 1)) l0_0 l0_1) = some r := by rw [if_pos rfl] at H; exact H
        clear H; have H := H1; clear H1
        have H' := gA H
        clear H
        have p519 : 0 ≤ (x24_2 : Int) := of_decide_eq_true (by assumption)
        have q519 : x24_2 < (y516.length : Int) := of_decide_eq_true (by assumption)
        obtain ⟨ad519, e519, hx519_0⟩ := Kd.at_int (Kd.R_reads' HO_22.out).2.2 x24_2 p519 q519
        cases e519
        replace p519 := eq_true p519
        replace q519 := eq_true q519
        obtain ⟨hcz28_0, hcz28_1, hfz28_0, hfz28_1⟩ := gz2 BK512
        go_wp2_with (first | ((with_reducible refine gate_callee (f := 11) rfl ?_); refine goesL_ (some 31) rfl rfl Try.func11 (by kernel_rfl) rfl #[.int .i64 (rd y516 x24_2), .agg #[.slice A0_0 l0_0.length c0_0, .slice A0_1 l0_1.length c0_1]] rfl (by (try simp only [List.map_toArray, List.map_cons, List.map_nil]); first | done | rfl | (simp only [List.length_drop, List.length_take]; rfl)) ?_; (with_reducible refine (layout_Mo.calls k2 (rd y516 x24_2) _ _ l0_0 (fun k_ => k_ < w.heap.size) _ _ l0_1 t520 t523 t526 _ ?side1 ?side2 ?side3 A22.out).mono ?_); (case side1 => exact gC HR0_0 HB); (case side2 => exact HC0_0.out); (case side3 => exact Kd.V_mk HC0_1.out (Kd.F_below (Kd.C_F k39_heap HR0_1.out) (by repeat first | exact gB HB | refine below_set ?_ GE512.out))); rintro e w29 ⟨v521, v524, rfl, ho0, ho1, hb⟩; refine ⟨_, rfl, ?_⟩; have HO522 := gA (Kd.V_lower (Kd.V_mono (ok' := fun k_ => some k_ ≠ (.slice (some ad519) y516.length co18 : Value).ownBlock ∧ k_ ≠ gb512) ho0 (fun k_ hk_ => ⟨Or.elim hk_ (fun hs_ => fun e_ => Nat.not_le.2 hs_ (Kd.R_base HO_22.out k_ e_.symm)) (fun hn_ => (Kd.fresh' (Kd.R_lt (gR HO_22)) k_ hn_)), Or.elim hk_ (fun hs_ => fun e_ => Nat.not_le.2 hs_ (by rw [e_]; exact GW512.out)) (fun hn_ => (Kd.freshB (gK BK512) k_ hn_))⟩)) (below_size (by repeat first | exact gB HB | refine below_set ?_ GE512.out))); have HO525 := gA (Kd.V_lower (Kd.V_mono (ok' := fun k_ => some k_ ≠ (.slice (some ad519) y516.length co18 : Value).ownBlock ∧ k_ ≠ gb512) ho1 (fun k_ hk_ => ⟨Or.elim hk_ (fun hs_ => fun e_ => Nat.not_le.2 hs_ (Kd.R_base HO_22.out k_ e_.symm)) (fun hn_ => (Kd.fresh' (Kd.R_lt (gR HO_22)) k_ hn_)), Or.elim hk_ (fun hs_ => fun e_ => Nat.not_le.2 hs_ (by rw [e_]; exact GW512.out)) (fun hn_ => (Kd.freshB (gK BK512) k_ hn_))⟩)) (below_size (by repeat first | exact gB HB | refine below_set ?_ GE512.out))); replace HO_22 := gA (Kd.R_below (gR HO_22) hb); replace BK512 := gA (blk_below (gK BK512) hb); replace HB := gA (below_step (by repeat first | exact gB HB | refine below_set ?_ GE512.out) hb); (try clear hb); (try clear ho0); (try clear ho1)) | ((with_reducible refine gate_dst (N := 5) rfl ?_); refine box_event ?hg (N := 5) ?hd (cs := #[.slice none 0 0, .slice none 0 0]) (t := 25) ?hr ?_; (case hd => rfl); (case hg => rfl); (case hr => first | (go_simp; done) | (go_simp; rfl)); intro gb527 hg w30 hbox hb; replace HO_22 := gA (Kd.R_below (gR HO_22) hb); replace HO522 := gA (Kd.V_below (Kd.V_elderB (gV HO522) gb527 (Nat.le_of_eq hg.symm)) hb); replace HO525 := gA (Kd.V_below (Kd.V_elderB (gV HO525) gb527 (Nat.le_of_eq hg.symm)) hb); have BK527 := gA (hbox); have GW527 := gA ((by rw [hg]; exact (below_size (by repeat first | exact gB HB | refine below_set ?_ GE512.out)) : w.heap.size ≤ gb527)); have GE527 := gA ((by rw [hg]; exact (below_size (by repeat first | exact gB HB | refine below_set ?_ GE512.out)) : w.heap.size ≤ gb527)); replace HB := gA (below_step (by repeat first | exact gB HB | refine below_set ?_ GE512.out) hb); have NB512_527 := gA ((by rw [hg]; exact Nat.ne_of_lt (blk_lt (gK BK512)) : gb512 ≠ gb527)); have NB527_512 := gA ((by rw [hg]; exact Nat.ne_of_gt (blk_lt (gK BK512)) : gb527 ≠ gb512)); replace BK512 := gA (blk_below (gK BK512) hb); clear hb hbox hg; obtain ⟨Ao31, co31, eo31⟩ := Kd.V_slice HO522.out; subst eo31; have hnb32 := NB527_512.out; have hnc32 := NB512_527.out; obtain ⟨hcz33_0, hcz33_1, hfz33_0, hfz33_1⟩ := gz2 BK527; obtain ⟨Ao34, co34, eo34⟩ := Kd.V_slice HO525.out; subst eo34) | ((with_reducible refine gate_store (t := 25) (p := 5) rfl ?_); refine store_event (t := 25) (p := 5) (v := ?vo_w35) (w1 := ((w30.setCell ⟨gb527, 0, none⟩ (.slice Ao31 t520.length co31)).setCell ⟨gb527, 1, none⟩ (.slice Ao34 t523.length co34))) ?hg ?ho ?hn ?hr ?_; (case ho => rfl); (case hg => rfl); (case hn => rfl); (case hr => first | (go_simp; done) | (go_simp; rfl)); intro w35 hw; have n0_ : Aside0 (Kd.R (Kd.int .i64) 3 w35 w.heap.size (fun _ => True) (.slice (some ad519) y516.length co18) y516) := ⟨(by rw [hw]; exact (Kd.R_mono (Kd.R_far (p := ⟨gb527, 1, none⟩) (Kd.R_far (p := ⟨gb527, 0, none⟩) (Kd.R_types HO_22.out BK527.out (by decide)) (fun _ hk => hk.2) (.slice Ao31 t520.length co31)) (fun _ hk => hk.2) (.slice Ao34 t523.length co34)) (fun _ hk => trivial)))⟩; have n1_ : Aside0 (Kd.V (Kd.int .i64) 3 w35 w.heap.size (fun k_ => some k_ ≠ (.slice (some ad519) y516.length co18 : Value).ownBlock ∧ k_ ≠ gb512 ∧ k_ ≠ gb527) (.slice Ao31 t520.length co31) t520) := ⟨(by rw [hw]; exact (Kd.V_mono (Kd.V_far (p := ⟨gb527, 1, none⟩) (Kd.V_far (p := ⟨gb527, 0, none⟩) (Kd.V_mono HO522.out (fun k_ hk => (⟨hk, hk.2⟩ : _ ∧ k_ ≠ gb527))) (fun _ hk => hk.2) (.slice Ao31 t520.length co31)) (fun _ hk => hk.2) (.slice Ao34 t523.length co34)) (fun _ hk => by first | exact ⟨hk.1.1.1, ⟨hk.1.1.2, hk.1.2⟩⟩ | (simp_all; done))))⟩; have n2_ : Aside0 (Kd.V k39 39 w35 w.heap.size (fun k_ => some k_ ≠ (.slice (some ad519) y516.length co18 : Value).ownBlock ∧ k_ ≠ gb512 ∧ k_ ≠ gb527) (.slice Ao34 t523.length co34) t523) := ⟨(by rw [hw]; exact (Kd.V_mono (Kd.V_far (p := ⟨gb527, 1, none⟩) (Kd.V_far (p := ⟨gb527, 0, none⟩) (Kd.V_mono HO525.out (fun k_ hk => (⟨hk, hk.2⟩ : _ ∧ k_ ≠ gb527))) (fun _ hk => hk.2) (.slice Ao31 t520.length co31)) (fun _ hk => hk.2) (.slice Ao34 t523.length co34)) (fun _ hk => by first | exact ⟨hk.1.1.1, ⟨hk.1.1.2, hk.1.2⟩⟩ | (simp_all; done))))⟩; have n3_ : Aside0 (w35.heap[gb512]? = some (.cells #[.slice A0_0 l0_0.length c0_0, .slice A0_1 l0_1.length c0_1] 25 (0, 0))) := ⟨(by rw [hw]; exact (by refine blk_far ?_ NB512_527.out _; refine blk_far ?_ NB512_527.out _; exact gK BK512))⟩; have n4_ : Aside0 (w35.heap[gb527]? = some (.cells #[.slice Ao31 t520.length co31, .slice Ao34 t523.length co34] 25 (0, 0))) := ⟨(by rw [hw]; exact (by refine blk_put (cs := #[.slice Ao31 t520.length co31, .slice none 0 0]) ?_ 1 _ rfl; refine blk_put (cs := #[.slice none 0 0, .slice none 0 0]) ?_ 0 _ rfl; exact gK BK527))⟩; have n5_ : Aside0 (Below w.heap.size w w35) := ⟨(by rw [hw]; exact (by repeat first | exact gB HB | refine below_set ?_ GE512.out | refine below_set ?_ GE527.out))⟩; clear hw HO_22 HO522 HO525 BK512 BK527 HB; have HO_22 := n0_; have HO522 := n1_; have HO525 := n2_; have BK512 := n3_; have BK527 := n4_; have HB := n5_; clear n0_ n1_ n2_ n3_ n4_ n5_; obtain ⟨hcz36_0, hcz36_1, hfz36_0, hfz36_1⟩ := gz2 BK527) | ((with_reducible refine gate_callee (f := 11) rfl ?_); refine goesL_ (some 37) rfl rfl Try.func11 (by kernel_rfl) rfl #[.int .i64 (rd y516 x24_2), .agg #[.slice Ao31 t520.length co31, .slice Ao34 t523.length co34]] rfl (by (try simp only [List.map_toArray, List.map_cons, List.map_nil]); first | done | rfl | (simp only [List.length_drop, List.length_take]; rfl)) ?_; (with_reducible refine (layout_Mo.calls k2 (rd y516 x24_2) _ _ t520 (fun k_ => (some k_ ≠ (.slice (some ad519) y516.length co18 : Value).ownBlock ∧ (k_ ≠ gb512 ∧ k_ ≠ gb527))) _ _ t523 t528 t531 t534 _ ?side1 ?side2 ?side3 A23.out).mono ?_); (case side1 => repeat (first | exact (Kd.V_reads' HO522.out).2.2 | (with_reducible refine Kd.C_alloc ?_ _) | (with_reducible refine Kd.C_drewN ?_ _) | (with_reducible refine Kd.C_drew ?_))); (case side2 => exact (Kd.V_reads' HO522.out).2.1); (case side3 => exact HO525.out); rintro e w37 ⟨v529, v532, rfl, ho0, ho1, hb⟩; refine ⟨_, rfl, ?_⟩; replace HO522 := gA (Kd.V_below (gV HO522) hb); replace HO525 := gA (Kd.V_below (gV HO525) hb); have HO530 := gA (Kd.V_lower (Kd.V_mono (ok' := fun k_ => some k_ ≠ (.slice (some ad519) y516.length co18 : Value).ownBlock ∧ k_ ≠ gb512 ∧ k_ ≠ gb527) ho0 (fun k_ hk_ => ⟨Or.elim hk_ (fun hs_ => hs_.1) (fun hn_ => (Kd.fresh' (Kd.R_lt (gR HO_22)) k_ hn_)), Or.elim hk_ (fun hs_ => hs_.2.1) (fun hn_ => (Kd.freshB (gK BK512) k_ hn_)), Or.elim hk_ (fun hs_ => hs_.2.2) (fun hn_ => (Kd.freshB (gK BK527) k_ hn_))⟩)) (below_size (by repeat first | exact gB HB | refine below_set ?_ GE512.out | refine below_set ?_ GE527.out))); have HO533 := gA (Kd.V_lower (Kd.V_mono (ok' := fun k_ => some k_ ≠ (.slice (some ad519) y516.length co18 : Value).ownBlock ∧ k_ ≠ gb512 ∧ k_ ≠ gb527) ho1 (fun k_ hk_ => ⟨Or.elim hk_ (fun hs_ => hs_.1) (fun hn_ => (Kd.fresh' (Kd.R_lt (gR HO_22)) k_ hn_)), Or.elim hk_ (fun hs_ => hs_.2.1) (fun hn_ => (Kd.freshB (gK BK512) k_ hn_)), Or.elim hk_ (fun hs_ => hs_.2.2) (fun hn_ => (Kd.freshB (gK BK527) k_ hn_))⟩)) (below_size (by repeat first | exact gB HB | refine below_set ?_ GE512.out | refine below_set ?_ GE527.out))); replace HO_22 := gA (Kd.R_below (gR HO_22) hb); replace BK512 := gA (blk_below (gK BK512) hb); replace BK527 := gA (blk_below (gK BK527) hb); replace HB := gA (below_step (by repeat first | exact gB HB | refine below_set ?_ GE512.out | refine below_set ?_ GE527.out) hb); (try clear hb); (try clear ho0); (try clear ho1)) | ((with_reducible refine gate_dst (N := 7) rfl ?_); refine box_event ?hg (N := 7) ?hd (cs := #[.slice none 0 0, .slice none 0 0]) (t := 25) ?hr ?_; (case hd => rfl); (case hg => rfl); (case hr => first | (go_simp; done) | (go_simp; rfl)); intro gb535 hg w38 hbox hb; replace HO_22 := gA (Kd.R_below (gR HO_22) hb); replace HO522 := gA (Kd.V_below (Kd.V_elderB (gV HO522) gb535 (Nat.le_of_eq hg.symm)) hb); replace HO525 := gA (Kd.V_below (Kd.V_elderB (gV HO525) gb535 (Nat.le_of_eq hg.symm)) hb); replace HO530 := gA (Kd.V_below (Kd.V_elderB (gV HO530) gb535 (Nat.le_of_eq hg.symm)) hb); replace HO533 := gA (Kd.V_below (Kd.V_elderB (gV HO533) gb535 (Nat.le_of_eq hg.symm)) hb); have BK535 := gA (hbox); have GW535 := gA ((by rw [hg]; exact (below_size (by repeat first | exact gB HB | refine below_set ?_ GE512.out | refine below_set ?_ GE527.out)) : w.heap.size ≤ gb535)); have GE535 := gA ((by rw [hg]; exact (below_size (by repeat first | exact gB HB | refine below_set ?_ GE512.out | refine below_set ?_ GE527.out)) : w.heap.size ≤ gb535)); replace HB := gA (below_step (by repeat first | exact gB HB | refine below_set ?_ GE512.out | refine below_set ?_ GE527.out) hb); have NB512_535 := gA ((by rw [hg]; exact Nat.ne_of_lt (blk_lt (gK BK512)) : gb512 ≠ gb535)); have NB535_512 := gA ((by rw [hg]; exact Nat.ne_of_gt (blk_lt (gK BK512)) : gb535 ≠ gb512)); replace BK512 := gA (blk_below (gK BK512) hb); have NB527_535 := gA ((by rw [hg]; exact Nat.ne_of_lt (blk_lt (gK BK527)) : gb527 ≠ gb535)); have NB535_527 := gA ((by rw [hg]; exact Nat.ne_of_gt (blk_lt (gK BK527)) : gb535 ≠ gb527)); replace BK527 := gA (blk_below (gK BK527) hb); clear hb hbox hg; obtain ⟨Ao39, co39, eo39⟩ := Kd.V_slice HO530.out; subst eo39; have hnb40 := NB535_512.out; have hnc40 := NB512_535.out; have hnb41 := NB535_527.out; have hnc41 := NB527_535.out; obtain ⟨hcz42_0, hcz42_1, hfz42_0, hfz42_1⟩ := gz2 BK535; obtain ⟨Ao43, co43, eo43⟩ := Kd.V_slice HO533.out; subst eo43; obtain ⟨hcz44_0, hcz44_1, hfz44_0, hfz44_1⟩ := gz2 BK512) | (go_at_call 13; (with_reducible refine (triglyphref03_Same.calls k2 _ _ l0_0 _ _ l0_1 _ _ t528 _ _ t531 true _ ?side1 ?side2 ?side3 ?side4 ?side5 ?side6 ?side7 ?side8 A26.out).mono ?_); (case side1 => exact Kd.C_below HR0_0.out (by repeat first | exact gB HB | refine below_set ?_ GE512.out | refine below_set ?_ GE527.out | refine below_set ?_ GE535.out)); (case side2 => exact HC0_0.out); (case side3 => exact Kd.C_below HR0_1.out (by repeat first | exact gB HB | refine below_set ?_ GE512.out | refine below_set ?_ GE527.out | refine below_set ?_ GE535.out)); (case side4 => exact HC0_1.out); (case side5 => refine (Kd.V_reads' (e := 3) (base := w.heap.size) (ok := fun k_ => ((some k_ ≠ (.slice (some ad519) y516.length co18 : Value).ownBlock ∧ (k_ ≠ gb512 ∧ k_ ≠ gb527)) ∧ k_ ≠ gb535)) (n := t528.length) (c := co39) ?_).2.2; exact (by (with_reducible repeat (first | apply Kd.V_alloc | apply Kd.V_drewN | apply Kd.V_drew)); exact (Kd.V_mono (Kd.V_far (p := ⟨gb535, 1, none⟩) (Kd.V_far (p := ⟨gb535, 0, none⟩) (Kd.V_mono HO530.out (fun k_ hk => (⟨hk, hk.2⟩ : _ ∧ k_ ≠ gb535))) (fun _ hk => hk.2) (.slice Ao39 t528.length co39)) (fun _ hk => hk.2) (.slice Ao43 t531.length co43)) (fun _ h_ => h_.1)))); (case side6 => exact (Kd.V_reads' HO530.out).2.1); (case side7 => refine (Kd.V_reads' (e := 39) (base := w.heap.size) (ok := fun k_ => ((some k_ ≠ (.slice (some ad519) y516.length co18 : Value).ownBlock ∧ (k_ ≠ gb512 ∧ k_ ≠ gb527)) ∧ k_ ≠ gb535)) (n := t531.length) (c := co43) ?_).2.2; exact (by (with_reducible repeat (first | apply Kd.V_alloc | apply Kd.V_drewN | apply Kd.V_drew)); exact (Kd.V_mono (Kd.V_far (p := ⟨gb535, 1, none⟩) (Kd.V_far (p := ⟨gb535, 0, none⟩) (Kd.V_mono HO533.out (fun k_ hk => (⟨hk, hk.2⟩ : _ ∧ k_ ≠ gb535))) (fun _ hk => hk.2) (.slice Ao39 t528.length co39)) (fun _ hk => hk.2) (.slice Ao43 t531.length co43)) (fun _ h_ => h_.1)))); (case side8 => exact (Kd.V_reads' HO533.out).2.1); rintro e w45 ⟨rfl, hb⟩; replace HO_22 := gA (Kd.R_below (by (with_reducible repeat (first | apply Kd.R_alloc | apply Kd.R_drewN | apply Kd.R_drew)); exact (Kd.R_mono (Kd.R_far (p := ⟨gb535, 1, none⟩) (Kd.R_far (p := ⟨gb535, 0, none⟩) (Kd.R_types HO_22.out BK535.out (by decide)) (fun _ hk => hk.2) (.slice Ao39 t528.length co39)) (fun _ hk => hk.2) (.slice Ao43 t531.length co43)) (fun _ h_ => h_.1))) hb); replace HO522 := gA (Kd.V_below (by (with_reducible repeat (first | apply Kd.V_alloc | apply Kd.V_drewN | apply Kd.V_drew)); exact (Kd.V_mono (Kd.V_far (p := ⟨gb535, 1, none⟩) (Kd.V_far (p := ⟨gb535, 0, none⟩) (Kd.V_mono HO522.out (fun k_ hk => (⟨hk, hk.2⟩ : _ ∧ k_ ≠ gb535))) (fun _ hk => hk.2) (.slice Ao39 t528.length co39)) (fun _ hk => hk.2) (.slice Ao43 t531.length co43)) (fun _ h_ => h_.1))) hb); replace HO525 := gA (Kd.V_below (by (with_reducible repeat (first | apply Kd.V_alloc | apply Kd.V_drewN | apply Kd.V_drew)); exact (Kd.V_mono (Kd.V_far (p := ⟨gb535, 1, none⟩) (Kd.V_far (p := ⟨gb535, 0, none⟩) (Kd.V_mono HO525.out (fun k_ hk => (⟨hk, hk.2⟩ : _ ∧ k_ ≠ gb535))) (fun _ hk => hk.2) (.slice Ao39 t528.length co39)) (fun _ hk => hk.2) (.slice Ao43 t531.length co43)) (fun _ h_ => h_.1))) hb); replace HO530 := gA (Kd.V_below (by (with_reducible repeat (first | apply Kd.V_alloc | apply Kd.V_drewN | apply Kd.V_drew)); exact (Kd.V_mono (Kd.V_far (p := ⟨gb535, 1, none⟩) (Kd.V_far (p := ⟨gb535, 0, none⟩) (Kd.V_mono HO530.out (fun k_ hk => (⟨hk, hk.2⟩ : _ ∧ k_ ≠ gb535))) (fun _ hk => hk.2) (.slice Ao39 t528.length co39)) (fun _ hk => hk.2) (.slice Ao43 t531.length co43)) (fun _ h_ => h_.1))) hb); replace HO533 := gA (Kd.V_below (by (with_reducible repeat (first | apply Kd.V_alloc | apply Kd.V_drewN | apply Kd.V_drew)); exact (Kd.V_mono (Kd.V_far (p := ⟨gb535, 1, none⟩) (Kd.V_far (p := ⟨gb535, 0, none⟩) (Kd.V_mono HO533.out (fun k_ hk => (⟨hk, hk.2⟩ : _ ∧ k_ ≠ gb535))) (fun _ hk => hk.2) (.slice Ao39 t528.length co39)) (fun _ hk => hk.2) (.slice Ao43 t531.length co43)) (fun _ h_ => h_.1))) hb); replace BK512 := gA (blk_below (g := gb512) (o := .cells #[.slice A0_0 l0_0.length c0_0, .slice A0_1 l0_1.length c0_1] 25 (0, 0)) (by refine blk_far ?_ NB512_535.out _; refine blk_far ?_ NB512_535.out _; exact gK BK512) hb); replace BK527 := gA (blk_below (g := gb527) (o := .cells #[.slice Ao31 t520.length co31, .slice Ao34 t523.length co34] 25 (0, 0)) (by refine blk_far ?_ NB527_535.out _; refine blk_far ?_ NB527_535.out _; exact gK BK527) hb); replace BK535 := gA (blk_below (g := gb535) (o := .cells #[.slice Ao39 t528.length co39, .slice Ao43 t531.length co43] 25 (0, 0)) (by refine blk_put (cs := #[.slice Ao39 t528.length co39, .slice none 0 0]) ?_ 1 _ rfl; refine blk_put (cs := #[.slice none 0 0, .slice none 0 0]) ?_ 0 _ rfl; exact gK BK535) hb); replace HB := gA (below_step (by repeat first | exact gB HB | refine below_set ?_ GE512.out | refine below_set ?_ GE527.out | refine below_set ?_ GE535.out) hb); (try clear hb); (try clear hk)))
        go_roundg k2
        case measure => have := HJ1.out; have := HK2.out; omega
        case rel => exact ⟨(wrap64 (x24_2 + 1)), (rfl), H', ⟨by have := HJ1.out; have := HK2.out; omega⟩, ⟨gR HO_22⟩, ⟨gK BK512⟩, ⟨gB HB⟩⟩
       ·replace c27 := Bool.eq_false_iff.mpr c27
        subst c27
        have H1 : (none) = some r := by rw [if_neg (show ¬ (false = true) by decide)] at H; exact H
        clear H; have H := H1; clear H1
        exact absurd H (by simp)
      ·rw [if_neg c19] at H
       have c19b0 := decide_eq_false c19
       clear c19
       replace H := Option.bind_eq_some_iff.mp H
       obtain ⟨⟨t537, t540, t543⟩, A460, H⟩ := H
       replace H : (if t543 = 0 then ((layout_Mo.f k2 16 t537 t540).bind fun bt545 => (if bt545.2.2 = 0 then ((triglyphref03_Same.f k2 l0_0 l0_1 bt545.1 bt545.2.1).bind fun t553 => (if t553 = true then ((triglyphlaw05_works.f k2).bind fun t554 => (some t554)) else (none))) else (none))) else (if t543 = 15 then ((triglyphref03_Deep.f k2 l0_0 l0_1).bind fun t555 => (if t555 = 8 then ((triglyphlaw05_works.f k2).bind fun t556 => (some t556)) else (none))) else (none))) = some r := H
       have A46 := gA A460
       clear A460
       by_cases c47 : t543 = 0
       ·rw [if_pos c47] at H
        have c47b0 : (t543 == 0) = true := beq_iff_eq.mpr c47
        have c47b1 : (t543 != 0) = false := bne_eq_false_iff_eq.mpr c47
        clear c47
        replace H := Option.bind_eq_some_iff.mp H
        obtain ⟨⟨t545, t548, t551⟩, A480, H⟩ := H
        replace H : (if t551 = 0 then ((triglyphref03_Same.f k2 l0_0 l0_1 t545 t548).bind fun t553 => (if t553 = true then ((triglyphlaw05_works.f k2).bind fun t554 => (some t554)) else (none))) else (none)) = some r := H
        have A48 := gA A480
        clear A480
        obtain ⟨c49, H⟩ := iS H
        have c49b0 : (t551 == 0) = true := beq_iff_eq.mpr c49
        have c49b1 : (t551 != 0) = false := bne_eq_false_iff_eq.mpr c49
        clear c49
        replace H := Option.bind_eq_some_iff.mp H
        obtain ⟨t553, A500, H⟩ := H
        replace H : (if t553 = true then ((triglyphlaw05_works.f k2).bind fun t554 => (some t554)) else (none)) = some r := H
        have A50 := gA A500
        clear A500
        by_cases c51 : t553 = true
        ·subst c51
         have H1 : ((triglyphlaw05_works.f k2).bind fun t554 => (some t554)) = some r := by rw [if_pos rfl] at H; exact H
         clear H; have H := H1; clear H1
         replace H := Option.bind_eq_some_iff.mp H
         obtain ⟨t554, A520, H⟩ := H
         replace H : (some t554) = some r := H
         have A52 := gA A520
         clear A520
         obtain rfl := Option.some.inj H
         obtain ⟨hcz53_0, hcz53_1, hfz53_0, hfz53_1⟩ := gz2 BK512
         go_wp2_with (first | ((with_reducible refine gate_callee (f := 11) rfl ?_); refine goesL_ (some 55) rfl rfl Try.func11 (by kernel_rfl) rfl #[.int .i64 15, .agg #[.slice A0_0 l0_0.length c0_0, .slice A0_1 l0_1.length c0_1]] rfl (by (try simp only [List.map_toArray, List.map_cons, List.map_nil]); first | done | rfl | (simp only [List.length_drop, List.length_take]; rfl)) ?_; (with_reducible refine (layout_Mo.calls k2 15 _ _ l0_0 (fun k_ => k_ < w.heap.size) _ _ l0_1 t537 t540 t543 _ ?side1 ?side2 ?side3 A46.out).mono ?_); (case side1 => exact gC HR0_0 HB); (case side2 => exact HC0_0.out); (case side3 => exact Kd.V_mk HC0_1.out (Kd.F_below (Kd.C_F k39_heap HR0_1.out) (by repeat first | exact gB HB | refine below_set ?_ GE512.out))); rintro e w54 ⟨v538, v541, rfl, ho0, ho1, hb⟩; refine ⟨_, rfl, ?_⟩; have HO539 := gA (Kd.V_lower (Kd.V_mono (ok' := fun k_ => some k_ ≠ (.slice Ao18 y516.length co18 : Value).ownBlock ∧ k_ ≠ gb512) ho0 (fun k_ hk_ => ⟨Or.elim hk_ (fun hs_ => fun e_ => Nat.not_le.2 hs_ (Kd.R_base HO_22.out k_ e_.symm)) (fun hn_ => (Kd.fresh' (Kd.R_lt (gR HO_22)) k_ hn_)), Or.elim hk_ (fun hs_ => fun e_ => Nat.not_le.2 hs_ (by rw [e_]; exact GW512.out)) (fun hn_ => (Kd.freshB (gK BK512) k_ hn_))⟩)) (below_size (by repeat first | exact gB HB | refine below_set ?_ GE512.out))); have HO542 := gA (Kd.V_lower (Kd.V_mono (ok' := fun k_ => some k_ ≠ (.slice Ao18 y516.length co18 : Value).ownBlock ∧ k_ ≠ gb512) ho1 (fun k_ hk_ => ⟨Or.elim hk_ (fun hs_ => fun e_ => Nat.not_le.2 hs_ (Kd.R_base HO_22.out k_ e_.symm)) (fun hn_ => (Kd.fresh' (Kd.R_lt (gR HO_22)) k_ hn_)), Or.elim hk_ (fun hs_ => fun e_ => Nat.not_le.2 hs_ (by rw [e_]; exact GW512.out)) (fun hn_ => (Kd.freshB (gK BK512) k_ hn_))⟩)) (below_size (by repeat first | exact gB HB | refine below_set ?_ GE512.out))); replace HO_22 := gA (Kd.R_below (gR HO_22) hb); replace BK512 := gA (blk_below (gK BK512) hb); replace HB := gA (below_step (by repeat first | exact gB HB | refine below_set ?_ GE512.out) hb); (try clear hb); (try clear ho0); (try clear ho1)) | ((with_reducible refine gate_dst (N := 9) rfl ?_); refine box_event ?hg (N := 9) ?hd (cs := #[.slice none 0 0, .slice none 0 0]) (t := 25) ?hr ?_; (case hd => rfl); (case hg => rfl); (case hr => first | (go_simp; done) | (go_simp; rfl)); intro gb544 hg w55 hbox hb; replace HO_22 := gA (Kd.R_below (gR HO_22) hb); replace HO539 := gA (Kd.V_below (Kd.V_elderB (gV HO539) gb544 (Nat.le_of_eq hg.symm)) hb); replace HO542 := gA (Kd.V_below (Kd.V_elderB (gV HO542) gb544 (Nat.le_of_eq hg.symm)) hb); have BK544 := gA (hbox); have GW544 := gA ((by rw [hg]; exact (below_size (by repeat first | exact gB HB | refine below_set ?_ GE512.out)) : w.heap.size ≤ gb544)); have GE544 := gA ((by rw [hg]; exact (below_size (by repeat first | exact gB HB | refine below_set ?_ GE512.out)) : w.heap.size ≤ gb544)); replace HB := gA (below_step (by repeat first | exact gB HB | refine below_set ?_ GE512.out) hb); have NB512_544 := gA ((by rw [hg]; exact Nat.ne_of_lt (blk_lt (gK BK512)) : gb512 ≠ gb544)); have NB544_512 := gA ((by rw [hg]; exact Nat.ne_of_gt (blk_lt (gK BK512)) : gb544 ≠ gb512)); replace BK512 := gA (blk_below (gK BK512) hb); clear hb hbox hg; obtain ⟨Ao56, co56, eo56⟩ := Kd.V_slice HO539.out; subst eo56; have hnb57 := NB544_512.out; have hnc57 := NB512_544.out; obtain ⟨hcz58_0, hcz58_1, hfz58_0, hfz58_1⟩ := gz2 BK544; obtain ⟨Ao59, co59, eo59⟩ := Kd.V_slice HO542.out; subst eo59) | ((with_reducible refine gate_store (t := 25) (p := 9) rfl ?_); refine store_event (t := 25) (p := 9) (v := ?vo_w60) (w1 := ((w55.setCell ⟨gb544, 0, none⟩ (.slice Ao56 t537.length co56)).setCell ⟨gb544, 1, none⟩ (.slice Ao59 t540.length co59))) ?hg ?ho ?hn ?hr ?_; (case ho => rfl); (case hg => rfl); (case hn => rfl); (case hr => first | (go_simp; done) | (go_simp; rfl)); intro w60 hw; have n0_ : Aside0 (Kd.R (Kd.int .i64) 3 w60 w.heap.size (fun _ => True) (.slice Ao18 y516.length co18) y516) := ⟨(by rw [hw]; exact (Kd.R_mono (Kd.R_far (p := ⟨gb544, 1, none⟩) (Kd.R_far (p := ⟨gb544, 0, none⟩) (Kd.R_types HO_22.out BK544.out (by decide)) (fun _ hk => hk.2) (.slice Ao56 t537.length co56)) (fun _ hk => hk.2) (.slice Ao59 t540.length co59)) (fun _ hk => trivial)))⟩; have n1_ : Aside0 (Kd.V (Kd.int .i64) 3 w60 w.heap.size (fun k_ => some k_ ≠ (.slice Ao18 y516.length co18 : Value).ownBlock ∧ k_ ≠ gb512 ∧ k_ ≠ gb544) (.slice Ao56 t537.length co56) t537) := ⟨(by rw [hw]; exact (Kd.V_mono (Kd.V_far (p := ⟨gb544, 1, none⟩) (Kd.V_far (p := ⟨gb544, 0, none⟩) (Kd.V_mono HO539.out (fun k_ hk => (⟨hk, hk.2⟩ : _ ∧ k_ ≠ gb544))) (fun _ hk => hk.2) (.slice Ao56 t537.length co56)) (fun _ hk => hk.2) (.slice Ao59 t540.length co59)) (fun _ hk => by first | exact ⟨hk.1.1.1, ⟨hk.1.1.2, hk.1.2⟩⟩ | (simp_all; done))))⟩; have n2_ : Aside0 (Kd.V k39 39 w60 w.heap.size (fun k_ => some k_ ≠ (.slice Ao18 y516.length co18 : Value).ownBlock ∧ k_ ≠ gb512 ∧ k_ ≠ gb544) (.slice Ao59 t540.length co59) t540) := ⟨(by rw [hw]; exact (Kd.V_mono (Kd.V_far (p := ⟨gb544, 1, none⟩) (Kd.V_far (p := ⟨gb544, 0, none⟩) (Kd.V_mono HO542.out (fun k_ hk => (⟨hk, hk.2⟩ : _ ∧ k_ ≠ gb544))) (fun _ hk => hk.2) (.slice Ao56 t537.length co56)) (fun _ hk => hk.2) (.slice Ao59 t540.length co59)) (fun _ hk => by first | exact ⟨hk.1.1.1, ⟨hk.1.1.2, hk.1.2⟩⟩ | (simp_all; done))))⟩; have n3_ : Aside0 (w60.heap[gb512]? = some (.cells #[.slice A0_0 l0_0.length c0_0, .slice A0_1 l0_1.length c0_1] 25 (0, 0))) := ⟨(by rw [hw]; exact (by refine blk_far ?_ NB512_544.out _; refine blk_far ?_ NB512_544.out _; exact gK BK512))⟩; have n4_ : Aside0 (w60.heap[gb544]? = some (.cells #[.slice Ao56 t537.length co56, .slice Ao59 t540.length co59] 25 (0, 0))) := ⟨(by rw [hw]; exact (by refine blk_put (cs := #[.slice Ao56 t537.length co56, .slice none 0 0]) ?_ 1 _ rfl; refine blk_put (cs := #[.slice none 0 0, .slice none 0 0]) ?_ 0 _ rfl; exact gK BK544))⟩; have n5_ : Aside0 (Below w.heap.size w w60) := ⟨(by rw [hw]; exact (by repeat first | exact gB HB | refine below_set ?_ GE512.out | refine below_set ?_ GE544.out))⟩; clear hw HO_22 HO539 HO542 BK512 BK544 HB; have HO_22 := n0_; have HO539 := n1_; have HO542 := n2_; have BK512 := n3_; have BK544 := n4_; have HB := n5_; clear n0_ n1_ n2_ n3_ n4_ n5_; obtain ⟨hcz61_0, hcz61_1, hfz61_0, hfz61_1⟩ := gz2 BK544) | ((with_reducible refine gate_callee (f := 11) rfl ?_); refine goesL_ (some 72) rfl rfl Try.func11 (by kernel_rfl) rfl #[.int .i64 16, .agg #[.slice Ao56 t537.length co56, .slice Ao59 t540.length co59]] rfl (by (try simp only [List.map_toArray, List.map_cons, List.map_nil]); first | done | rfl | (simp only [List.length_drop, List.length_take]; rfl)) ?_; (with_reducible refine (layout_Mo.calls k2 16 _ _ t537 (fun k_ => (some k_ ≠ (.slice Ao18 y516.length co18 : Value).ownBlock ∧ (k_ ≠ gb512 ∧ k_ ≠ gb544))) _ _ t540 t545 t548 t551 _ ?side1 ?side2 ?side3 A48.out).mono ?_); (case side1 => repeat (first | exact (Kd.V_reads' HO539.out).2.2 | (with_reducible refine Kd.C_alloc ?_ _) | (with_reducible refine Kd.C_drewN ?_ _) | (with_reducible refine Kd.C_drew ?_))); (case side2 => exact (Kd.V_reads' HO539.out).2.1); (case side3 => exact HO542.out); rintro e w62 ⟨v546, v549, rfl, ho0, ho1, hb⟩; refine ⟨_, rfl, ?_⟩; replace HO539 := gA (Kd.V_below (gV HO539) hb); replace HO542 := gA (Kd.V_below (gV HO542) hb); have HO547 := gA (Kd.V_lower (Kd.V_mono (ok' := fun k_ => some k_ ≠ (.slice Ao18 y516.length co18 : Value).ownBlock ∧ k_ ≠ gb512 ∧ k_ ≠ gb544) ho0 (fun k_ hk_ => ⟨Or.elim hk_ (fun hs_ => hs_.1) (fun hn_ => (Kd.fresh' (Kd.R_lt (gR HO_22)) k_ hn_)), Or.elim hk_ (fun hs_ => hs_.2.1) (fun hn_ => (Kd.freshB (gK BK512) k_ hn_)), Or.elim hk_ (fun hs_ => hs_.2.2) (fun hn_ => (Kd.freshB (gK BK544) k_ hn_))⟩)) (below_size (by repeat first | exact gB HB | refine below_set ?_ GE512.out | refine below_set ?_ GE544.out))); have HO550 := gA (Kd.V_lower (Kd.V_mono (ok' := fun k_ => some k_ ≠ (.slice Ao18 y516.length co18 : Value).ownBlock ∧ k_ ≠ gb512 ∧ k_ ≠ gb544) ho1 (fun k_ hk_ => ⟨Or.elim hk_ (fun hs_ => hs_.1) (fun hn_ => (Kd.fresh' (Kd.R_lt (gR HO_22)) k_ hn_)), Or.elim hk_ (fun hs_ => hs_.2.1) (fun hn_ => (Kd.freshB (gK BK512) k_ hn_)), Or.elim hk_ (fun hs_ => hs_.2.2) (fun hn_ => (Kd.freshB (gK BK544) k_ hn_))⟩)) (below_size (by repeat first | exact gB HB | refine below_set ?_ GE512.out | refine below_set ?_ GE544.out))); replace HO_22 := gA (Kd.R_below (gR HO_22) hb); replace BK512 := gA (blk_below (gK BK512) hb); replace BK544 := gA (blk_below (gK BK544) hb); replace HB := gA (below_step (by repeat first | exact gB HB | refine below_set ?_ GE512.out | refine below_set ?_ GE544.out) hb); (try clear hb); (try clear ho0); (try clear ho1)) | ((with_reducible refine gate_dst (N := 11) rfl ?_); refine box_event ?hg (N := 11) ?hd (cs := #[.slice none 0 0, .slice none 0 0]) (t := 25) ?hr ?_; (case hd => rfl); (case hg => rfl); (case hr => first | (go_simp; done) | (go_simp; rfl)); intro gb552 hg w63 hbox hb; replace HO_22 := gA (Kd.R_below (gR HO_22) hb); replace HO539 := gA (Kd.V_below (Kd.V_elderB (gV HO539) gb552 (Nat.le_of_eq hg.symm)) hb); replace HO542 := gA (Kd.V_below (Kd.V_elderB (gV HO542) gb552 (Nat.le_of_eq hg.symm)) hb); replace HO547 := gA (Kd.V_below (Kd.V_elderB (gV HO547) gb552 (Nat.le_of_eq hg.symm)) hb); replace HO550 := gA (Kd.V_below (Kd.V_elderB (gV HO550) gb552 (Nat.le_of_eq hg.symm)) hb); have BK552 := gA (hbox); have GW552 := gA ((by rw [hg]; exact (below_size (by repeat first | exact gB HB | refine below_set ?_ GE512.out | refine below_set ?_ GE544.out)) : w.heap.size ≤ gb552)); have GE552 := gA ((by rw [hg]; exact (below_size (by repeat first | exact gB HB | refine below_set ?_ GE512.out | refine below_set ?_ GE544.out)) : w.heap.size ≤ gb552)); replace HB := gA (below_step (by repeat first | exact gB HB | refine below_set ?_ GE512.out | refine below_set ?_ GE544.out) hb); have NB512_552 := gA ((by rw [hg]; exact Nat.ne_of_lt (blk_lt (gK BK512)) : gb512 ≠ gb552)); have NB552_512 := gA ((by rw [hg]; exact Nat.ne_of_gt (blk_lt (gK BK512)) : gb552 ≠ gb512)); replace BK512 := gA (blk_below (gK BK512) hb); have NB544_552 := gA ((by rw [hg]; exact Nat.ne_of_lt (blk_lt (gK BK544)) : gb544 ≠ gb552)); have NB552_544 := gA ((by rw [hg]; exact Nat.ne_of_gt (blk_lt (gK BK544)) : gb552 ≠ gb544)); replace BK544 := gA (blk_below (gK BK544) hb); clear hb hbox hg; obtain ⟨Ao64, co64, eo64⟩ := Kd.V_slice HO547.out; subst eo64; have hnb65 := NB552_512.out; have hnc65 := NB512_552.out; have hnb66 := NB552_544.out; have hnc66 := NB544_552.out; obtain ⟨hcz67_0, hcz67_1, hfz67_0, hfz67_1⟩ := gz2 BK552; obtain ⟨Ao68, co68, eo68⟩ := Kd.V_slice HO550.out; subst eo68; obtain ⟨hcz69_0, hcz69_1, hfz69_0, hfz69_1⟩ := gz2 BK512) | (go_at_call 13; (with_reducible refine (triglyphref03_Same.calls k2 _ _ l0_0 _ _ l0_1 _ _ t545 _ _ t548 true _ ?side1 ?side2 ?side3 ?side4 ?side5 ?side6 ?side7 ?side8 A50.out).mono ?_); (case side1 => exact Kd.C_below HR0_0.out (by repeat first | exact gB HB | refine below_set ?_ GE512.out | refine below_set ?_ GE544.out | refine below_set ?_ GE552.out)); (case side2 => exact HC0_0.out); (case side3 => exact Kd.C_below HR0_1.out (by repeat first | exact gB HB | refine below_set ?_ GE512.out | refine below_set ?_ GE544.out | refine below_set ?_ GE552.out)); (case side4 => exact HC0_1.out); (case side5 => refine (Kd.V_reads' (e := 3) (base := w.heap.size) (ok := fun k_ => ((some k_ ≠ (.slice Ao18 y516.length co18 : Value).ownBlock ∧ (k_ ≠ gb512 ∧ k_ ≠ gb544)) ∧ k_ ≠ gb552)) (n := t545.length) (c := co64) ?_).2.2; exact (by (with_reducible repeat (first | apply Kd.V_alloc | apply Kd.V_drewN | apply Kd.V_drew)); exact (Kd.V_mono (Kd.V_far (p := ⟨gb552, 1, none⟩) (Kd.V_far (p := ⟨gb552, 0, none⟩) (Kd.V_mono HO547.out (fun k_ hk => (⟨hk, hk.2⟩ : _ ∧ k_ ≠ gb552))) (fun _ hk => hk.2) (.slice Ao64 t545.length co64)) (fun _ hk => hk.2) (.slice Ao68 t548.length co68)) (fun _ h_ => h_.1)))); (case side6 => exact (Kd.V_reads' HO547.out).2.1); (case side7 => refine (Kd.V_reads' (e := 39) (base := w.heap.size) (ok := fun k_ => ((some k_ ≠ (.slice Ao18 y516.length co18 : Value).ownBlock ∧ (k_ ≠ gb512 ∧ k_ ≠ gb544)) ∧ k_ ≠ gb552)) (n := t548.length) (c := co68) ?_).2.2; exact (by (with_reducible repeat (first | apply Kd.V_alloc | apply Kd.V_drewN | apply Kd.V_drew)); exact (Kd.V_mono (Kd.V_far (p := ⟨gb552, 1, none⟩) (Kd.V_far (p := ⟨gb552, 0, none⟩) (Kd.V_mono HO550.out (fun k_ hk => (⟨hk, hk.2⟩ : _ ∧ k_ ≠ gb552))) (fun _ hk => hk.2) (.slice Ao64 t545.length co64)) (fun _ hk => hk.2) (.slice Ao68 t548.length co68)) (fun _ h_ => h_.1)))); (case side8 => exact (Kd.V_reads' HO550.out).2.1); rintro e w70 ⟨rfl, hb⟩; replace HO_22 := gA (Kd.R_below (by (with_reducible repeat (first | apply Kd.R_alloc | apply Kd.R_drewN | apply Kd.R_drew)); exact (Kd.R_mono (Kd.R_far (p := ⟨gb552, 1, none⟩) (Kd.R_far (p := ⟨gb552, 0, none⟩) (Kd.R_types HO_22.out BK552.out (by decide)) (fun _ hk => hk.2) (.slice Ao64 t545.length co64)) (fun _ hk => hk.2) (.slice Ao68 t548.length co68)) (fun _ h_ => h_.1))) hb); replace HO539 := gA (Kd.V_below (by (with_reducible repeat (first | apply Kd.V_alloc | apply Kd.V_drewN | apply Kd.V_drew)); exact (Kd.V_mono (Kd.V_far (p := ⟨gb552, 1, none⟩) (Kd.V_far (p := ⟨gb552, 0, none⟩) (Kd.V_mono HO539.out (fun k_ hk => (⟨hk, hk.2⟩ : _ ∧ k_ ≠ gb552))) (fun _ hk => hk.2) (.slice Ao64 t545.length co64)) (fun _ hk => hk.2) (.slice Ao68 t548.length co68)) (fun _ h_ => h_.1))) hb); replace HO542 := gA (Kd.V_below (by (with_reducible repeat (first | apply Kd.V_alloc | apply Kd.V_drewN | apply Kd.V_drew)); exact (Kd.V_mono (Kd.V_far (p := ⟨gb552, 1, none⟩) (Kd.V_far (p := ⟨gb552, 0, none⟩) (Kd.V_mono HO542.out (fun k_ hk => (⟨hk, hk.2⟩ : _ ∧ k_ ≠ gb552))) (fun _ hk => hk.2) (.slice Ao64 t545.length co64)) (fun _ hk => hk.2) (.slice Ao68 t548.length co68)) (fun _ h_ => h_.1))) hb); replace HO547 := gA (Kd.V_below (by (with_reducible repeat (first | apply Kd.V_alloc | apply Kd.V_drewN | apply Kd.V_drew)); exact (Kd.V_mono (Kd.V_far (p := ⟨gb552, 1, none⟩) (Kd.V_far (p := ⟨gb552, 0, none⟩) (Kd.V_mono HO547.out (fun k_ hk => (⟨hk, hk.2⟩ : _ ∧ k_ ≠ gb552))) (fun _ hk => hk.2) (.slice Ao64 t545.length co64)) (fun _ hk => hk.2) (.slice Ao68 t548.length co68)) (fun _ h_ => h_.1))) hb); replace HO550 := gA (Kd.V_below (by (with_reducible repeat (first | apply Kd.V_alloc | apply Kd.V_drewN | apply Kd.V_drew)); exact (Kd.V_mono (Kd.V_far (p := ⟨gb552, 1, none⟩) (Kd.V_far (p := ⟨gb552, 0, none⟩) (Kd.V_mono HO550.out (fun k_ hk => (⟨hk, hk.2⟩ : _ ∧ k_ ≠ gb552))) (fun _ hk => hk.2) (.slice Ao64 t545.length co64)) (fun _ hk => hk.2) (.slice Ao68 t548.length co68)) (fun _ h_ => h_.1))) hb); replace BK512 := gA (blk_below (g := gb512) (o := .cells #[.slice A0_0 l0_0.length c0_0, .slice A0_1 l0_1.length c0_1] 25 (0, 0)) (by refine blk_far ?_ NB512_552.out _; refine blk_far ?_ NB512_552.out _; exact gK BK512) hb); replace BK544 := gA (blk_below (g := gb544) (o := .cells #[.slice Ao56 t537.length co56, .slice Ao59 t540.length co59] 25 (0, 0)) (by refine blk_far ?_ NB544_552.out _; refine blk_far ?_ NB544_552.out _; exact gK BK544) hb); replace BK552 := gA (blk_below (g := gb552) (o := .cells #[.slice Ao64 t545.length co64, .slice Ao68 t548.length co68] 25 (0, 0)) (by refine blk_put (cs := #[.slice Ao64 t545.length co64, .slice none 0 0]) ?_ 1 _ rfl; refine blk_put (cs := #[.slice none 0 0, .slice none 0 0]) ?_ 0 _ rfl; exact gK BK552) hb); replace HB := gA (below_step (by repeat first | exact gB HB | refine below_set ?_ GE512.out | refine below_set ?_ GE544.out | refine below_set ?_ GE552.out) hb); (try clear hb); (try clear hk)) | (go_at_call 10; (with_reducible refine (triglyphlaw05_works.calls k2  t554 _ A52.out).mono ?_); rintro e w71 ⟨rfl, hb⟩; replace HO_22 := gA (Kd.R_below (gR HO_22) hb); replace HO539 := gA (Kd.V_below (gV HO539) hb); replace HO542 := gA (Kd.V_below (gV HO542) hb); replace HO547 := gA (Kd.V_below (gV HO547) hb); replace HO550 := gA (Kd.V_below (gV HO550) hb); replace BK512 := gA (blk_below (gK BK512) hb); replace BK544 := gA (blk_below (gK BK544) hb); replace BK552 := gA (blk_below (gK BK552) hb); replace HB := gA (below_step (by repeat first | exact gB HB | refine below_set ?_ GE512.out | refine below_set ?_ GE544.out | refine below_set ?_ GE552.out) hb); (try clear hb); (try clear hk)))
         go_ret
         exact ⟨rfl, by repeat first | exact gB HB | refine below_set ?_ GE512.out | refine below_set ?_ GE544.out | refine below_set ?_ GE552.out⟩
        ·replace c51 := Bool.eq_false_iff.mpr c51
         subst c51
         have H1 : (none) = some r := by rw [if_neg (show ¬ (false = true) by decide)] at H; exact H
         clear H; have H := H1; clear H1
         exact absurd H (by simp)
       ·rw [if_neg c47] at H
        have c47b0 : (t543 == 0) = false := beq_eq_false_iff_ne.mpr c47
        have c47b1 : (t543 != 0) = true := bne_iff_ne.mpr c47
        obtain ⟨c72, H⟩ := iS H
        have c72b0 : (t543 == 15) = true := beq_iff_eq.mpr c72
        have c72b1 : (t543 != 15) = false := bne_eq_false_iff_eq.mpr c72
        clear c72
        replace H := Option.bind_eq_some_iff.mp H
        obtain ⟨t555, A730, H⟩ := H
        replace H : (if t555 = 8 then ((triglyphlaw05_works.f k2).bind fun t556 => (some t556)) else (none)) = some r := H
        have A73 := gA A730
        clear A730
        obtain ⟨c74, H⟩ := iS H
        have c74b0 : (t555 == 8) = true := beq_iff_eq.mpr c74
        have c74b1 : (t555 != 8) = false := bne_eq_false_iff_eq.mpr c74
        clear c74
        replace H := Option.bind_eq_some_iff.mp H
        obtain ⟨t556, A750, H⟩ := H
        replace H : (some t556) = some r := H
        have A75 := gA A750
        clear A750
        obtain rfl := Option.some.inj H
        obtain ⟨hcz76_0, hcz76_1, hfz76_0, hfz76_1⟩ := gz2 BK512
        go_wp2_with (first | ((with_reducible refine gate_callee (f := 11) rfl ?_); refine goesL_ (some 55) rfl rfl Try.func11 (by kernel_rfl) rfl #[.int .i64 15, .agg #[.slice A0_0 l0_0.length c0_0, .slice A0_1 l0_1.length c0_1]] rfl (by (try simp only [List.map_toArray, List.map_cons, List.map_nil]); first | done | rfl | (simp only [List.length_drop, List.length_take]; rfl)) ?_; (with_reducible refine (layout_Mo.calls k2 15 _ _ l0_0 (fun k_ => k_ < w.heap.size) _ _ l0_1 t537 t540 t543 _ ?side1 ?side2 ?side3 A46.out).mono ?_); (case side1 => exact gC HR0_0 HB); (case side2 => exact HC0_0.out); (case side3 => exact Kd.V_mk HC0_1.out (Kd.F_below (Kd.C_F k39_heap HR0_1.out) (by repeat first | exact gB HB | refine below_set ?_ GE512.out))); rintro e w77 ⟨v538, v541, rfl, ho0, ho1, hb⟩; refine ⟨_, rfl, ?_⟩; have HO539 := gA (Kd.V_lower (Kd.V_mono (ok' := fun k_ => some k_ ≠ (.slice Ao18 y516.length co18 : Value).ownBlock ∧ k_ ≠ gb512) ho0 (fun k_ hk_ => ⟨Or.elim hk_ (fun hs_ => fun e_ => Nat.not_le.2 hs_ (Kd.R_base HO_22.out k_ e_.symm)) (fun hn_ => (Kd.fresh' (Kd.R_lt (gR HO_22)) k_ hn_)), Or.elim hk_ (fun hs_ => fun e_ => Nat.not_le.2 hs_ (by rw [e_]; exact GW512.out)) (fun hn_ => (Kd.freshB (gK BK512) k_ hn_))⟩)) (below_size (by repeat first | exact gB HB | refine below_set ?_ GE512.out))); have HO542 := gA (Kd.V_lower (Kd.V_mono (ok' := fun k_ => some k_ ≠ (.slice Ao18 y516.length co18 : Value).ownBlock ∧ k_ ≠ gb512) ho1 (fun k_ hk_ => ⟨Or.elim hk_ (fun hs_ => fun e_ => Nat.not_le.2 hs_ (Kd.R_base HO_22.out k_ e_.symm)) (fun hn_ => (Kd.fresh' (Kd.R_lt (gR HO_22)) k_ hn_)), Or.elim hk_ (fun hs_ => fun e_ => Nat.not_le.2 hs_ (by rw [e_]; exact GW512.out)) (fun hn_ => (Kd.freshB (gK BK512) k_ hn_))⟩)) (below_size (by repeat first | exact gB HB | refine below_set ?_ GE512.out))); replace HO_22 := gA (Kd.R_below (gR HO_22) hb); replace BK512 := gA (blk_below (gK BK512) hb); replace HB := gA (below_step (by repeat first | exact gB HB | refine below_set ?_ GE512.out) hb); (try clear hb); (try clear ho0); (try clear ho1)) | ((with_reducible refine gate_dst (N := 9) rfl ?_); refine box_event ?hg (N := 9) ?hd (cs := #[.slice none 0 0, .slice none 0 0]) (t := 25) ?hr ?_; (case hd => rfl); (case hg => rfl); (case hr => first | (go_simp; done) | (go_simp; rfl)); intro gb544 hg w78 hbox hb; replace HO_22 := gA (Kd.R_below (gR HO_22) hb); replace HO539 := gA (Kd.V_below (Kd.V_elderB (gV HO539) gb544 (Nat.le_of_eq hg.symm)) hb); replace HO542 := gA (Kd.V_below (Kd.V_elderB (gV HO542) gb544 (Nat.le_of_eq hg.symm)) hb); have BK544 := gA (hbox); have GW544 := gA ((by rw [hg]; exact (below_size (by repeat first | exact gB HB | refine below_set ?_ GE512.out)) : w.heap.size ≤ gb544)); have GE544 := gA ((by rw [hg]; exact (below_size (by repeat first | exact gB HB | refine below_set ?_ GE512.out)) : w.heap.size ≤ gb544)); replace HB := gA (below_step (by repeat first | exact gB HB | refine below_set ?_ GE512.out) hb); have NB512_544 := gA ((by rw [hg]; exact Nat.ne_of_lt (blk_lt (gK BK512)) : gb512 ≠ gb544)); have NB544_512 := gA ((by rw [hg]; exact Nat.ne_of_gt (blk_lt (gK BK512)) : gb544 ≠ gb512)); replace BK512 := gA (blk_below (gK BK512) hb); clear hb hbox hg; obtain ⟨Ao79, co79, eo79⟩ := Kd.V_slice HO539.out; subst eo79; have hnb80 := NB544_512.out; have hnc80 := NB512_544.out; obtain ⟨hcz81_0, hcz81_1, hfz81_0, hfz81_1⟩ := gz2 BK544; obtain ⟨Ao82, co82, eo82⟩ := Kd.V_slice HO542.out; subst eo82; obtain ⟨hcz83_0, hcz83_1, hfz83_0, hfz83_1⟩ := gz2 BK512) | (go_at_call 17; (with_reducible refine (triglyphref03_Deep.calls k2 _ _ l0_0 _ _ l0_1 t555 _ ?side1 ?side2 ?side3 ?side4 A73.out).mono ?_); (case side1 => exact Kd.C_below HR0_0.out (by repeat first | exact gB HB | refine below_set ?_ GE512.out | refine below_set ?_ GE544.out)); (case side2 => exact HC0_0.out); (case side3 => exact Kd.C_below HR0_1.out (by repeat first | exact gB HB | refine below_set ?_ GE512.out | refine below_set ?_ GE544.out)); (case side4 => exact HC0_1.out); rintro e w84 ⟨rfl, hb⟩; replace HO_22 := gA (Kd.R_below (by (with_reducible repeat (first | apply Kd.R_alloc | apply Kd.R_drewN | apply Kd.R_drew)); exact (Kd.R_mono (Kd.R_far (p := ⟨gb544, 1, none⟩) (Kd.R_far (p := ⟨gb544, 0, none⟩) (Kd.R_types HO_22.out BK544.out (by decide)) (fun _ hk => hk.2) (.slice Ao79 t537.length co79)) (fun _ hk => hk.2) (.slice Ao82 t540.length co82)) (fun _ h_ => h_.1))) hb); replace HO539 := gA (Kd.V_below (by (with_reducible repeat (first | apply Kd.V_alloc | apply Kd.V_drewN | apply Kd.V_drew)); exact (Kd.V_mono (Kd.V_far (p := ⟨gb544, 1, none⟩) (Kd.V_far (p := ⟨gb544, 0, none⟩) (Kd.V_mono HO539.out (fun k_ hk => (⟨hk, hk.2⟩ : _ ∧ k_ ≠ gb544))) (fun _ hk => hk.2) (.slice Ao79 t537.length co79)) (fun _ hk => hk.2) (.slice Ao82 t540.length co82)) (fun _ h_ => h_.1))) hb); replace HO542 := gA (Kd.V_below (by (with_reducible repeat (first | apply Kd.V_alloc | apply Kd.V_drewN | apply Kd.V_drew)); exact (Kd.V_mono (Kd.V_far (p := ⟨gb544, 1, none⟩) (Kd.V_far (p := ⟨gb544, 0, none⟩) (Kd.V_mono HO542.out (fun k_ hk => (⟨hk, hk.2⟩ : _ ∧ k_ ≠ gb544))) (fun _ hk => hk.2) (.slice Ao79 t537.length co79)) (fun _ hk => hk.2) (.slice Ao82 t540.length co82)) (fun _ h_ => h_.1))) hb); replace BK512 := gA (blk_below (g := gb512) (o := .cells #[.slice A0_0 l0_0.length c0_0, .slice A0_1 l0_1.length c0_1] 25 (0, 0)) (by refine blk_far ?_ NB512_544.out _; refine blk_far ?_ NB512_544.out _; exact gK BK512) hb); replace BK544 := gA (blk_below (g := gb544) (o := .cells #[.slice Ao79 t537.length co79, .slice Ao82 t540.length co82] 25 (0, 0)) (by refine blk_put (cs := #[.slice Ao79 t537.length co79, .slice none 0 0]) ?_ 1 _ rfl; refine blk_put (cs := #[.slice none 0 0, .slice none 0 0]) ?_ 0 _ rfl; exact gK BK544) hb); replace HB := gA (below_step (by repeat first | exact gB HB | refine below_set ?_ GE512.out | refine below_set ?_ GE544.out) hb); (try clear hb); (try clear hk)) | (go_at_call 10; (with_reducible refine (triglyphlaw05_works.calls k2  t556 _ A75.out).mono ?_); rintro e w85 ⟨rfl, hb⟩; replace HO_22 := gA (Kd.R_below (gR HO_22) hb); replace HO539 := gA (Kd.V_below (gV HO539) hb); replace HO542 := gA (Kd.V_below (gV HO542) hb); replace BK512 := gA (blk_below (gK BK512) hb); replace BK544 := gA (blk_below (gK BK544) hb); replace HB := gA (below_step (by repeat first | exact gB HB | refine below_set ?_ GE512.out | refine below_set ?_ GE544.out) hb); (try clear hb); (try clear hk)))
        go_ret
        exact ⟨rfl, by repeat first | exact gB HB | refine below_set ?_ GE512.out | refine below_set ?_ GE544.out⟩
end Go.Proofs.Ytiegcghapchimaa.P
