/- Written by a program of this session: the functions that the laws reach, what each comes to, and each law as it is stated, for every input. No condition. -/
import Derived.Test.YtahgfebdjjfkhaaPx0
import Derived.Test.YtahgfebdjjfkhaaPx2
namespace Go.Proofs.Ytahgfebdjjfkhaa.P
open Go.RowKit Go.Proofs.YtahgfebdjjfkhaaW.PrintWords Go.Proofs.YtahgfebdjjfkhaaW.PrintLast Go.Proofs.YtahgfebdjjfkhaaW.PrintMore
attribute [local go_sem] max2_int min2_int max_two min_two max_three min_three max_four min_four   -- for this text's walks alone
set_option linter.unusedVariables false
set_option linter.unusedSimpArgs false
mutual
def arr_check.l0 : Nat → Int → List Int → Int → Int → List Int → List (S43) → Option (Int)
 | 0, _, _, _, _, _, _ => none
 | k + 1, x1, x27, x28, x29, x117000, x117001 => if x29 < x28 then (if 0 ≤ x29 then (if x29 < (x27.length : Int) then (if (rd x27 x29) > 16384 then (some 12) else (arr_check.l0 k x1 x27 x28 (wrap64 (x29 + 1)) x117000 x117001)) else (none)) else (none)) else (arr_check.l1 k x1 x117001 (x117001.length : Int) 0)
def arr_check.l1 : Nat → Int → List (S43) → Int → Int → Option (Int)
 | 0, _, _, _, _ => none
 | k + 1, x1, x37, x38, x39 => if x39 < x38 then (if 0 ≤ x39 then (if x39 < (x37.length : Int) then (if ((rd_T43 x37 x39).f0) = 2 then (if ((rd_T43 x37 x39).f1) = 0 then (arr_check.j2 k x1 x37 x38 x39 ((((rd_T43 x37 x39).f2).length : Int) == 1) ((rd_T43 x37 x39).f0) ((rd_T43 x37 x39).f1) ((rd_T43 x37 x39).f2)) else (arr_check.j2 k x1 x37 x38 x39 false ((rd_T43 x37 x39).f0) ((rd_T43 x37 x39).f1) ((rd_T43 x37 x39).f2))) else (arr_check.j2 k x1 x37 x38 x39 false ((rd_T43 x37 x39).f0) ((rd_T43 x37 x39).f1) ((rd_T43 x37 x39).f2))) else (none)) else (none)) else (some 0)
def arr_check.j2 : Nat → Int → List (S43) → Int → Int → Bool → Int → Int → List (S25) → Option (Int)
 | 0, _, _, _, _, _, _, _, _ => none
 | k + 1, x1, x37, x38, x39, x43, x122000, x122001, x122002 => if x43 = true then (if x1 ≥ 8 then (some 15) else (if 0 < (x122002.length : Int) then ((arr_check.f k ((rd_T25 x122002 0).f0) ((rd_T25 x122002 0).f1) (wrap64 (x1 + 1))).bind fun t123 => (if t123 = 0 then (arr_check.l1 k x1 x37 x38 (wrap64 (x39 + 1))) else (some t123))) else (none))) else (if (x122002.length : Int) > 0 then (some 1) else (if x122000 = 0 then (arr_check.l1 k x1 x37 x38 (wrap64 (x39 + 1))) else (if x122000 = 1 then ((arr_good.f x122001).bind fun t124 => (if t124 = true then (arr_check.l1 k x1 x37 x38 (wrap64 (x39 + 1))) else (some 1))) else (some 1))))
def arr_check.f : Nat → List Int → List (S43) → Int → Option (Int)
 | 0, _, _, _ => none
 | k + 1, l0_0, l0_1, a1 => (arr_Size.f k l0_0).bind fun bt117 => (if bt117.2 = 0 then (if bt117.1 = (l0_1.length : Int) then (arr_check.l0 k a1 l0_0 (l0_0.length : Int) 0 l0_0 l0_1) else (some 1)) else (some bt117.2))
end
theorem arr_check.mono_l : ∀ k, (∀ y0 y1 y2, LeO (arr_check.f k y0 y1 y2) (arr_check.f (k + 1) y0 y1 y2)) ∧ (∀ y0 y1 y2 y3 y4 y5, LeO (arr_check.l0 k y0 y1 y2 y3 y4 y5) (arr_check.l0 (k + 1) y0 y1 y2 y3 y4 y5)) ∧ (∀ y0 y1 y2 y3, LeO (arr_check.l1 k y0 y1 y2 y3) (arr_check.l1 (k + 1) y0 y1 y2 y3)) ∧ (∀ y0 y1 y2 y3 y4 y5 y6 y7, LeO (arr_check.j2 k y0 y1 y2 y3 y4 y5 y6 y7) (arr_check.j2 (k + 1) y0 y1 y2 y3 y4 y5 y6 y7))
 | 0 => ⟨fun _ _ _ r h => by simp [arr_check.f] at h, fun _ _ _ _ _ _ r h => by simp [arr_check.l0] at h, fun _ _ _ _ r h => by simp [arr_check.l1] at h, fun _ _ _ _ _ _ _ _ r h => by simp [arr_check.j2] at h⟩
 | k + 1 => by
  obtain ⟨ih0, ih1, ih2, ih3⟩ := arr_check.mono_l k
  refine ⟨?_, ?_, ?_, ?_⟩
  ·intro y0 y1 y2
   unfold arr_check.f
   repeat' first
   | (with_reducible exact ih0 _ _ _)
   | (with_reducible exact ih1 _ _ _ _ _ _)
   | (with_reducible exact ih2 _ _ _ _)
   | (with_reducible exact ih3 _ _ _ _ _ _ _ _)
   | (with_reducible exact arr_Size.mono _ _)
   | (with_reducible exact LeO.refl _)
   | (with_reducible exact LeO.none _)
   | (with_reducible refine LeO.ite ?_ ?_)
   | (with_reducible refine LeO.bind ?_ (fun _ => ?_))




   | exact arr_Size.mono _ _



  ·intro y0 y1 y2 y3 y4 y5
   unfold arr_check.l0
   repeat' first
   | (with_reducible exact ih0 _ _ _)
   | (with_reducible exact ih1 _ _ _ _ _ _)
   | (with_reducible exact ih2 _ _ _ _)
   | (with_reducible exact ih3 _ _ _ _ _ _ _ _)
   | (with_reducible exact arr_Size.mono _ _)
   | (with_reducible exact LeO.refl _)
   | (with_reducible exact LeO.none _)
   | (with_reducible refine LeO.ite ?_ ?_)
   | (with_reducible refine LeO.bind ?_ (fun _ => ?_))




   | exact arr_Size.mono _ _



  ·intro y0 y1 y2 y3
   unfold arr_check.l1
   repeat' first
   | (with_reducible exact ih0 _ _ _)
   | (with_reducible exact ih1 _ _ _ _ _ _)
   | (with_reducible exact ih2 _ _ _ _)
   | (with_reducible exact ih3 _ _ _ _ _ _ _ _)
   | (with_reducible exact arr_Size.mono _ _)
   | (with_reducible exact LeO.refl _)
   | (with_reducible exact LeO.none _)
   | (with_reducible refine LeO.ite ?_ ?_)
   | (with_reducible refine LeO.bind ?_ (fun _ => ?_))




   | exact arr_Size.mono _ _



  ·intro y0 y1 y2 y3 y4 y5 y6 y7
   unfold arr_check.j2
   repeat' first
   | (with_reducible exact ih0 _ _ _)
   | (with_reducible exact ih1 _ _ _ _ _ _)
   | (with_reducible exact ih2 _ _ _ _)
   | (with_reducible exact ih3 _ _ _ _ _ _ _ _)
   | (with_reducible exact arr_Size.mono _ _)
   | (with_reducible exact LeO.refl _)
   | (with_reducible exact LeO.none _)
   | (with_reducible refine LeO.ite ?_ ?_)
   | (with_reducible refine LeO.bind ?_ (fun _ => ?_))




   | exact arr_Size.mono _ _
theorem arr_check.mono : ∀ a0 a1 a2 k, LeO (arr_check.f k a0 a1 a2) (arr_check.f (k + 1) a0 a1 a2) := by
 intro a0 a1 a2 k
 obtain ⟨ih0, ih1, ih2, ih3⟩ := arr_check.mono_l k
 exact ih0 a0 a1 a2
set_option maxHeartbeats 8000000 in
set_option maxRecDepth 100000 in
theorem arr_check.calls (k : Nat) : ∀ (A0_0 : Option Addr) (c0_0 : Nat) (l0_0 : List Int) (A0_1 : Option Addr) (c0_1 : Nat) (l0_1 : List (S43)) (a1 : Int) (r : Int) (w : World) (hr0_0 : Kd.C (Kd.int .i64) w A0_0 l0_0.length l0_0) (hc0_0 : l0_0.length ≤ c0_0) (hr0_1 : Kd.C k43 w A0_1 l0_1.length l0_1) (hc0_1 : l0_1.length ≤ c0_1) (h : arr_check.f k l0_0 l0_1 a1 = some r),
  Calls Try.prog 62 #[.agg #[.slice A0_0 l0_0.length c0_0, .slice A0_1 l0_1.length c0_1], .int .i64 a1] w fun e w' => e = .returned (.int .i64 r) ∧ Below w.heap.size w w' := by
 induction k using Nat.strongRecOn with
 | _ k ih =>
 intro A0_0 c0_0 l0_0 A0_1 c0_1 l0_1 a1 r w hr0_0 hc0_0 hr0_1 hc0_1 h
 cases k with
 | zero => exact absurd h (by simp [arr_check.f])
 | succ k =>
 simp only [arr_check.f] at h
 have hu25 := Try.underlying25
 have hu43 := Try.underlying43
 have HR0_0 := gA hr0_0
 have HC0_0 := gA hc0_0
 clear hr0_0 hc0_0
 have HR0_1 := gA hr0_1
 have HC0_1 := gA hc0_1
 clear hr0_1 hc0_1
 have HB := gA (Below.refl w.heap.size w)
 have H : ((arr_Size.f k l0_0).bind fun bt117 => (if bt117.2 = 0 then (if bt117.1 = (l0_1.length : Int) then (arr_check.l0 k a1 l0_0 (l0_0.length : Int) 0 l0_0 l0_1) else (some 1)) else (some bt117.2))) = some r := h
 clear h
 replace H := Option.bind_eq_some_iff.mp H
 obtain ⟨⟨t117, t118⟩, A30, H⟩ := H
 replace H : (if t118 = 0 then (if t117 = (l0_1.length : Int) then (arr_check.l0 k a1 l0_0 (l0_0.length : Int) 0 l0_0 l0_1) else (some 1)) else (some t118)) = some r := H
 have A3 := gA A30
 clear A30
 by_cases c4 : t118 = 0
 ·rw [if_pos c4] at H
  have c4b0 : (t118 == 0) = true := beq_iff_eq.mpr c4
  have c4b1 : (t118 != 0) = false := bne_eq_false_iff_eq.mpr c4
  clear c4
  by_cases c5 : t117 = (l0_1.length : Int)
  ·rw [if_pos c5] at H
   have c5b0 : (t117 == (l0_1.length : Int)) = true := beq_iff_eq.mpr c5
   have c5b1 : (t117 != (l0_1.length : Int)) = false := bne_eq_false_iff_eq.mpr c5
   clear c5
   have H' := gA H
   clear H
   go_enter Try.func62, Try.ntmps62
   go_wp2_with (first | ((with_reducible refine gate_dst (N := 2) rfl ?_); (try (refine gate_guard (by rfl) ?_; dsimp only)); refine box_event ?hg (N := 2) ?hd (cs := #[.slice A0_0 l0_0.length c0_0, .slice A0_1 l0_1.length c0_1]) (t := 25) ?hr ?_; (case hd => rfl); (case hg => rfl); (case hr => first | (go_simp; done) | (go_simp; rfl)); intro gb116 hg w6 hbox hb; have BK116 := gA (hbox); have GW116 := gA ((by rw [hg]; exact (below_size (gB HB)) : w.heap.size ≤ gb116)); have GE116 := gA ((by rw [hg]; exact (below_size (gB HB)) : w.heap.size ≤ gb116)); replace HB := gA (below_step (gB HB) hb); clear hb hbox hg; obtain ⟨hcz7_0, hcz7_1, hfz7_0, hfz7_1⟩ := gz2 BK116) | ((with_reducible refine gate_callee (f := 30) rfl ?_); refine goesL_ (some 15) rfl rfl Try.func30 (by kernel_rfl) rfl #[.slice A0_0 l0_0.length c0_0] rfl (by (try simp only [List.map_toArray, List.map_cons, List.map_nil]); first | done | rfl | (simp only [List.length_drop, List.length_take]; rfl)) ?_; (with_reducible refine (arr_Size.calls k _ _ l0_0 t117 t118 _ ?side1 ?side2 A3.out).mono ?_); (case side1 => exact gC HR0_0 HB); (case side2 => exact HC0_0.out); rintro e w' ⟨rfl, ⟨nd, rfl⟩⟩; refine ⟨_, rfl, ?_⟩))
   go_loopg [29] k (fun kq v29 w' => ∃ (x29_1 : Int), v29 = .int .i64 x29_1 ∧ Aside0 (arr_check.l0 kq a1 l0_0 (l0_0.length : Int) x29_1 l0_0 l0_1 = some r) ∧ Aside0 (kq ≤ k) ∧ Aside0 (w'.heap[gb116]? = some (.cells #[(.slice A0_0 l0_0.length c0_0), (.slice A0_1 l0_1.length c0_1)] 25 (0, 0))) ∧ Aside0 (Below w.heap.size w w'))
   case atStart => exact ⟨(0), (rfl), H', ⟨Nat.le_refl _⟩, ⟨gK BK116⟩, ⟨by repeat first | exact gB HB | refine below_set ?_ GE116.out⟩⟩
   case round =>
    clear H'
    try clear p2
    try clear c3
    try clear c4
    try clear c4b0
    try clear c4b1
    try clear c5
    try clear c5b0
    try clear c5b1
    try clear c6
    try clear hcz7_0
    try clear hcz7_1
    try clear hfz7_0
    try clear hfz7_1
    obtain ⟨x29_1, rfl, HA, HK1, BK116, HB⟩ := hrel
    cases gk with
    | zero => exact absurd HA.out (by simp [arr_check.l0])
    | succ k1 =>
     have H := HA.out; clear HA
     simp only [arr_check.l0] at H
     by_cases c8 : x29_1 < (l0_0.length : Int)
     ·rw [if_pos c8] at H
      have c8b0 := decide_eq_true c8
      clear c8
      obtain ⟨c9, H⟩ := iS H
      have c9b0 := decide_eq_true c9
      clear c9
      obtain ⟨c10, H⟩ := iS H
      have c10b0 := decide_eq_true c10
      clear c10
      by_cases c11 : (rd l0_0 x29_1) > 16384
      ·rw [if_pos c11] at H
       have c11b0 : decide (16384 < (rd l0_0 x29_1)) = true := decide_eq_true c11
       clear c11
       obtain rfl := Option.some.inj H
       have p119 : 0 ≤ (x29_1 : Int) := of_decide_eq_true (by assumption)
       have q119 : x29_1 < (l0_0.length : Int) := of_decide_eq_true (by assumption)
       obtain ⟨ad119, e119, hx119_0⟩ := Kd.at_int HR0_0.out x29_1 p119 q119
       cases e119
       replace hx119_0 := (HB.out.cell (World.block_lt_of_cell? w _ hx119_0)).trans hx119_0
       replace p119 := eq_true p119
       replace q119 := eq_true q119
       go_wp2
       go_ret
       exact ⟨rfl, by repeat first | exact gB HB | refine below_set ?_ GE116.out⟩
      ·rw [if_neg c11] at H
       have c11b0 : decide (16384 < (rd l0_0 x29_1)) = false := decide_eq_false c11
       clear c11
       have H' := gA H
       clear H
       have p119 : 0 ≤ (x29_1 : Int) := of_decide_eq_true (by assumption)
       have q119 : x29_1 < (l0_0.length : Int) := of_decide_eq_true (by assumption)
       obtain ⟨ad119, e119, hx119_0⟩ := Kd.at_int HR0_0.out x29_1 p119 q119
       cases e119
       replace hx119_0 := (HB.out.cell (World.block_lt_of_cell? w _ hx119_0)).trans hx119_0
       replace p119 := eq_true p119
       replace q119 := eq_true q119
       go_wp2
       go_roundg k1
       case measure => have := HK1.out; omega
       case rel => exact ⟨(wrap64 (x29_1 + 1)), (rfl), H', ⟨by have := HK1.out; omega⟩, ⟨gK BK116⟩, ⟨by repeat first | exact gB HB | refine below_set ?_ GE116.out⟩⟩
     ·rw [if_neg c8] at H
      have c8b0 := decide_eq_false c8
      clear c8
      have H' := gA H
      clear H
      obtain ⟨hcz12_0, hcz12_1, hfz12_0, hfz12_1⟩ := gz2 BK116
      go_wp2
      go_loopg [39] k1 (fun kq v39 w' => ∃ (x39_2 : Int), v39 = .int .i64 x39_2 ∧ Aside0 (arr_check.l1 kq a1 l0_1 (l0_1.length : Int) x39_2 = some r) ∧ Aside0 (kq ≤ k1) ∧ Aside0 (w'.heap[gb116]? = some (.cells #[(.slice A0_0 l0_0.length c0_0), (.slice A0_1 l0_1.length c0_1)] 25 (0, 0))) ∧ Aside0 (Below w.heap.size w w'))
      case atStart => exact ⟨(0), (rfl), H', ⟨Nat.le_refl _⟩, ⟨gK BK116⟩, ⟨by repeat first | exact gB HB | refine below_set ?_ GE116.out⟩⟩
      case round =>
       clear H'
       try clear c1
       try clear p1
       try clear q1
       try clear hx1
       try clear p2
       try clear c3
       try clear c4
       try clear c4b0
       try clear c4b1
       try clear c5
       try clear c5b0
       try clear c5b1
       try clear c6
       try clear p6
       try clear c8
       try clear c8b0
       try clear c9
       try clear c9b0
       try clear c10
       try clear c10b0
       try clear c11
       try clear c11b0
       try clear p11
       try clear q11
       try clear hx11
       try clear hcz12_0
       try clear hcz12_1
       try clear hcz7_0
       try clear hcz7_1
       try clear hfz12_0
       try clear hfz12_1
       try clear hfz7_0
       try clear hfz7_1
       try clear hx119_0
       try clear p119
       try clear p2
       try clear q119
       obtain ⟨x39_2, rfl, HA, HK2, BK116, HB⟩ := hrel
       cases gk with
       | zero => exact absurd HA.out (by simp [arr_check.l1])
       | succ k2 =>
        have H := HA.out; clear HA
        simp only [arr_check.l1] at H
        by_cases c13 : x39_2 < (l0_1.length : Int)
        ·rw [if_pos c13] at H
         have c13b0 := decide_eq_true c13
         clear c13
         obtain ⟨c14, H⟩ := iS H
         have c14b0 := decide_eq_true c14
         clear c14
         obtain ⟨c15, H⟩ := iS H
         have c15b0 := decide_eq_true c15
         clear c15
         have HC16 := gA H
         clear H
         have p120 : 0 ≤ (x39_2 : Int) := of_decide_eq_true (by assumption)
         have q120 : x39_2 < (l0_1.length : Int) := of_decide_eq_true (by assumption)
         obtain ⟨ad120, A120_2, c120_2, e120, hx120_0, hx120_1, hx120_2, hl120_2, hi120_2⟩ := at_T43 HR0_1.out x39_2 p120 q120
         cases e120
         replace hx120_0 := (HB.out.cell (World.block_lt_of_cell? w _ hx120_0)).trans hx120_0
         replace hx120_1 := (HB.out.cell (World.block_lt_of_cell? w _ hx120_1)).trans hx120_1
         replace hx120_2 := (HB.out.cell (World.block_lt_of_cell? w _ hx120_2)).trans hx120_2
         have HR120_2 := gA hi120_2
         have HC120_2 := gA hl120_2
         clear hi120_2 hl120_2
         replace p120 := eq_true p120
         replace q120 := eq_true q120
         go_upto_region 15 with (first | ((with_reducible refine gate_dst (N := 10) rfl ?_); (try (refine gate_guard (by rfl) ?_; dsimp only)); refine box_event ?hg (N := 10) ?hd (cs := #[.int .i64 0, .int .i64 0, .slice none 0 0]) (t := 43) ?hr ?_; (case hd => rfl); (case hg => rfl); (case hr => first | (go_simp; done) | (go_simp; rfl)); intro gb121 hg w17 hbox hb; have BK121 := gA (hbox); have GW121 := gA ((by rw [hg]; exact (below_size (gB HB)) : w.heap.size ≤ gb121)); have GE121 := gA ((by rw [hg]; exact (below_size (gB HB)) : w.heap.size ≤ gb121)); replace HB := gA (below_step (gB HB) hb); have NB116_121 := gA ((by rw [hg]; exact Nat.ne_of_lt (blk_lt (gK BK116)) : gb116 ≠ gb121)); have NB121_116 := gA ((by rw [hg]; exact Nat.ne_of_gt (blk_lt (gK BK116)) : gb121 ≠ gb116)); replace BK116 := gA (blk_below (gK BK116) hb); clear hb hbox hg; have hnb18 := NB121_116.out; have hnc18 := NB116_121.out; obtain ⟨hcz19_0, hcz19_1, hcz19_2, hfz19_0, hfz19_1, hfz19_2⟩ := gz3 BK121))
         (try simp only [Act.put, List.setIfInBounds_toArray, List.set_cons_zero, List.set_cons_succ])
         go_cut [43] (fun v43 wc => ∃ (kq : Nat) (x43_15 : Bool), v43 = .bool x43_15 ∧ Aside0 (arr_check.j2 kq a1 l0_1 (l0_1.length : Int) x39_2 x43_15 ((rd_T43 l0_1 x39_2).f0) ((rd_T43 l0_1 x39_2).f1) ((rd_T43 l0_1 x39_2).f2) = some r) ∧ Aside0 (kq ≤ k2) ∧ Aside0 (wc.heap[gb116]? = some (.cells #[(.slice A0_0 l0_0.length c0_0), (.slice (some ad120) l0_1.length c0_1)] 25 (0, 0))) ∧ Aside0 (wc.heap[gb121]? = some (.cells #[.int .i64 ((rd_T43 l0_1 x39_2).f0), .int .i64 ((rd_T43 l0_1 x39_2).f1), (.slice A120_2 ((rd_T43 l0_1 x39_2).f2).length c120_2)] 43 (0, 0))) ∧ Aside0 (Below w.heap.size w wc))
         case first =>
          have H := HC16.out; clear HC16
          by_cases c20 : ((rd_T43 l0_1 x39_2).f0) = 2
          ·rw [if_pos c20] at H
           have c20b0 : (((rd_T43 l0_1 x39_2).f0) == 2) = true := beq_iff_eq.mpr c20
           have c20b1 : (((rd_T43 l0_1 x39_2).f0) != 2) = false := bne_eq_false_iff_eq.mpr c20
           clear c20
           (first | rw [c20b0] | rw [c20b1] | (simp only [i64_w, i32_w]; rw [c20b0]) | skip)
           by_cases c21 : ((rd_T43 l0_1 x39_2).f1) = 0
           ·rw [if_pos c21] at H
            have c21b0 : (((rd_T43 l0_1 x39_2).f1) == 0) = true := beq_iff_eq.mpr c21
            have c21b1 : (((rd_T43 l0_1 x39_2).f1) != 0) = false := bne_eq_false_iff_eq.mpr c21
            clear c21
            have H' := gA H
            clear H
            have hnb22 := NB121_116.out
            have hnc22 := NB116_121.out
            obtain ⟨hcz23_0, hcz23_1, hcz23_2, hfz23_0, hfz23_1, hfz23_2⟩ := gz3 BK121
            go_wp2
            all_goals (go_meet; (case rel => exact ⟨_, (((((rd_T43 l0_1 x39_2).f2).length : Int) == 1)), (by first | rfl | (simp; done) | (simp [*]; done) | (exfalso; simp_all; done) | (exfalso; simp_all; omega)), H', ⟨by have := HK1.out; have := HK2.out; first | omega | exact Nat.le_refl _⟩, ⟨by (with_reducible repeat (first | refine blk_drewN ?_ _ | refine blk_drew ?_ | refine blk_alloc ?_ _)); refine blk_far ?_ NB116_121.out _; (with_reducible repeat (first | refine blk_drewN ?_ _ | refine blk_drew ?_ | refine blk_alloc ?_ _)); refine blk_far ?_ NB116_121.out _; (with_reducible repeat (first | refine blk_drewN ?_ _ | refine blk_drew ?_ | refine blk_alloc ?_ _)); refine blk_far ?_ NB116_121.out _; exact gK BK116⟩, ⟨by (with_reducible repeat (first | refine blk_drewN ?_ _ | refine blk_drew ?_ | refine blk_alloc ?_ _)); refine blk_put (cs := #[.int .i64 ((rd_T43 l0_1 x39_2).f0), .int .i64 ((rd_T43 l0_1 x39_2).f1), .slice none 0 0]) ?_ 2 _ rfl; (with_reducible repeat (first | refine blk_drewN ?_ _ | refine blk_drew ?_ | refine blk_alloc ?_ _)); refine blk_put (cs := #[.int .i64 ((rd_T43 l0_1 x39_2).f0), .int .i64 0, .slice none 0 0]) ?_ 1 _ rfl; (with_reducible repeat (first | refine blk_drewN ?_ _ | refine blk_drew ?_ | refine blk_alloc ?_ _)); refine blk_put (cs := #[.int .i64 0, .int .i64 0, .slice none 0 0]) ?_ 0 _ rfl; exact gK BK121⟩, ⟨by repeat first | exact gB HB | refine below_set ?_ GE116.out | refine below_set ?_ GE121.out⟩⟩))
           ·rw [if_neg c21] at H
            have c21b0 : (((rd_T43 l0_1 x39_2).f1) == 0) = false := beq_eq_false_iff_ne.mpr c21
            have c21b1 : (((rd_T43 l0_1 x39_2).f1) != 0) = true := bne_iff_ne.mpr c21
            have H' := gA H
            clear H
            have hnb24 := NB121_116.out
            have hnc24 := NB116_121.out
            obtain ⟨hcz25_0, hcz25_1, hcz25_2, hfz25_0, hfz25_1, hfz25_2⟩ := gz3 BK121
            go_wp2
            all_goals (go_meet; (case rel => exact ⟨_, (false), (by first | rfl | (simp; done) | (simp [*]; done) | (exfalso; simp_all; done) | (exfalso; simp_all; omega)), H', ⟨by have := HK1.out; have := HK2.out; first | omega | exact Nat.le_refl _⟩, ⟨by (with_reducible repeat (first | refine blk_drewN ?_ _ | refine blk_drew ?_ | refine blk_alloc ?_ _)); refine blk_far ?_ NB116_121.out _; (with_reducible repeat (first | refine blk_drewN ?_ _ | refine blk_drew ?_ | refine blk_alloc ?_ _)); refine blk_far ?_ NB116_121.out _; (with_reducible repeat (first | refine blk_drewN ?_ _ | refine blk_drew ?_ | refine blk_alloc ?_ _)); refine blk_far ?_ NB116_121.out _; exact gK BK116⟩, ⟨by (with_reducible repeat (first | refine blk_drewN ?_ _ | refine blk_drew ?_ | refine blk_alloc ?_ _)); refine blk_put (cs := #[.int .i64 ((rd_T43 l0_1 x39_2).f0), .int .i64 ((rd_T43 l0_1 x39_2).f1), .slice none 0 0]) ?_ 2 _ rfl; (with_reducible repeat (first | refine blk_drewN ?_ _ | refine blk_drew ?_ | refine blk_alloc ?_ _)); refine blk_put (cs := #[.int .i64 ((rd_T43 l0_1 x39_2).f0), .int .i64 0, .slice none 0 0]) ?_ 1 _ rfl; (with_reducible repeat (first | refine blk_drewN ?_ _ | refine blk_drew ?_ | refine blk_alloc ?_ _)); refine blk_put (cs := #[.int .i64 0, .int .i64 0, .slice none 0 0]) ?_ 0 _ rfl; exact gK BK121⟩, ⟨by repeat first | exact gB HB | refine below_set ?_ GE116.out | refine below_set ?_ GE121.out⟩⟩))
          ·rw [if_neg c20] at H
           have c20b0 : (((rd_T43 l0_1 x39_2).f0) == 2) = false := beq_eq_false_iff_ne.mpr c20
           have c20b1 : (((rd_T43 l0_1 x39_2).f0) != 2) = true := bne_iff_ne.mpr c20
           (first | rw [c20b0] | rw [c20b1] | (simp only [i64_w, i32_w]; rw [c20b0]) | skip)
           have H' := gA H
           clear H
           have hnb26 := NB121_116.out
           have hnc26 := NB116_121.out
           obtain ⟨hcz27_0, hcz27_1, hcz27_2, hfz27_0, hfz27_1, hfz27_2⟩ := gz3 BK121
           go_wp2
           all_goals (go_meet; (case rel => exact ⟨_, (false), (by first | rfl | (simp; done) | (simp [*]; done) | (exfalso; simp_all; done) | (exfalso; simp_all; omega)), H', ⟨by have := HK1.out; have := HK2.out; first | omega | exact Nat.le_refl _⟩, ⟨by (with_reducible repeat (first | refine blk_drewN ?_ _ | refine blk_drew ?_ | refine blk_alloc ?_ _)); refine blk_far ?_ NB116_121.out _; (with_reducible repeat (first | refine blk_drewN ?_ _ | refine blk_drew ?_ | refine blk_alloc ?_ _)); refine blk_far ?_ NB116_121.out _; (with_reducible repeat (first | refine blk_drewN ?_ _ | refine blk_drew ?_ | refine blk_alloc ?_ _)); refine blk_far ?_ NB116_121.out _; exact gK BK116⟩, ⟨by (with_reducible repeat (first | refine blk_drewN ?_ _ | refine blk_drew ?_ | refine blk_alloc ?_ _)); refine blk_put (cs := #[.int .i64 ((rd_T43 l0_1 x39_2).f0), .int .i64 ((rd_T43 l0_1 x39_2).f1), .slice none 0 0]) ?_ 2 _ rfl; (with_reducible repeat (first | refine blk_drewN ?_ _ | refine blk_drew ?_ | refine blk_alloc ?_ _)); refine blk_put (cs := #[.int .i64 ((rd_T43 l0_1 x39_2).f0), .int .i64 0, .slice none 0 0]) ?_ 1 _ rfl; (with_reducible repeat (first | refine blk_drewN ?_ _ | refine blk_drew ?_ | refine blk_alloc ?_ _)); refine blk_put (cs := #[.int .i64 0, .int .i64 0, .slice none 0 0]) ?_ 0 _ rfl; exact gK BK121⟩, ⟨by repeat first | exact gB HB | refine below_set ?_ GE116.out | refine below_set ?_ GE121.out⟩⟩))
         case rest =>
          clear HC16
          try clear c1
          try clear p1
          try clear q1
          try clear hx1
          try clear c2
          try clear p2
          try clear c3
          try clear c4
          try clear c4b0
          try clear c4b1
          try clear c5
          try clear c5b0
          try clear c5b1
          try clear c6
          try clear p6
          try clear c8
          try clear c8b0
          try clear c9
          try clear c9b0
          try clear c10
          try clear c10b0
          try clear c11
          try clear c11b0
          try clear p11
          try clear q11
          try clear hx11
          try clear c12
          try clear p12
          try clear q12
          try clear hx12
          try clear c13
          try clear c13b0
          try clear c14
          try clear c14b0
          try clear c15
          try clear c15b0
          try clear c18
          try clear c20
          try clear c20b0
          try clear c20b1
          try clear c21
          try clear c21b0
          try clear c21b1
          try clear c22
          try clear c24
          try clear c26
          try clear hcz12_0
          try clear hcz12_1
          try clear hcz19_0
          try clear hcz19_1
          try clear hcz19_2
          try clear hcz23_0
          try clear hcz23_1
          try clear hcz23_2
          try clear hcz25_0
          try clear hcz25_1
          try clear hcz25_2
          try clear hcz27_0
          try clear hcz27_1
          try clear hcz27_2
          try clear hcz7_0
          try clear hcz7_1
          try clear hfz12_0
          try clear hfz12_1
          try clear hfz19_0
          try clear hfz19_1
          try clear hfz19_2
          try clear hfz23_0
          try clear hfz23_1
          try clear hfz23_2
          try clear hfz25_0
          try clear hfz25_1
          try clear hfz25_2
          try clear hfz27_0
          try clear hfz27_1
          try clear hfz27_2
          try clear hfz7_0
          try clear hfz7_1
          try clear hx119_0
          try clear hx120_0
          try clear hx120_1
          try clear hx120_2
          try clear p1
          try clear p11
          try clear p119
          try clear p120
          try clear p2
          try clear p6
          try clear q1
          try clear q11
          try clear q119
          try clear q120
          obtain ⟨kq, x43_15, rfl, HA, HJ15, BK116, BK121, HB⟩ := hcut
          cases kq with
          | zero => exact absurd HA.out (by simp [arr_check.j2])
          | succ kj15 =>
           have H := HA.out; clear HA
           simp only [arr_check.j2] at H
           by_cases c28 : x43_15 = true
           ·subst c28
            have H1 : (if a1 ≥ 8 then (some 15) else (if 0 < (((rd_T43 l0_1 x39_2).f2).length : Int) then ((arr_check.f kj15 ((rd_T25 ((rd_T43 l0_1 x39_2).f2) 0).f0) ((rd_T25 ((rd_T43 l0_1 x39_2).f2) 0).f1) (wrap64 (a1 + 1))).bind fun t123 => (if t123 = 0 then (arr_check.l1 kj15 a1 l0_1 (l0_1.length : Int) (wrap64 (x39_2 + 1))) else (some t123))) else (none))) = some r := by rw [if_pos rfl] at H; exact H
            clear H; have H := H1; clear H1
            by_cases c29 : a1 ≥ 8
            ·rw [if_pos c29] at H
             have c29b0 : decide (8 ≤ a1) = true := decide_eq_true c29
             clear c29
             obtain rfl := Option.some.inj H
             go_wp2
             go_ret
             exact ⟨rfl, by repeat first | exact gB HB | refine below_set ?_ GE116.out | refine below_set ?_ GE121.out⟩
            ·rw [if_neg c29] at H
             have c29b0 : decide (8 ≤ a1) = false := decide_eq_false c29
             clear c29
             obtain ⟨c30, H⟩ := iS H
             have c30b0 := decide_eq_true c30
             have c30b1 : decide (0 < ((rd_T43 l0_1 x39_2).f2).length) = true := decide_eq_true (by omega)
             clear c30
             replace H := Option.bind_eq_some_iff.mp H
             obtain ⟨t123, A310, H⟩ := H
             replace H : (if t123 = 0 then (arr_check.l1 kj15 a1 l0_1 (l0_1.length : Int) (wrap64 (x39_2 + 1))) else (some t123)) = some r := H
             have A31 := gA A310
             clear A310
             by_cases c32 : t123 = 0
             ·rw [if_pos c32] at H
              have c32b0 : (t123 == 0) = true := beq_iff_eq.mpr c32
              have c32b1 : (t123 != 0) = false := bne_eq_false_iff_eq.mpr c32
              clear c32
              have H' := gA H
              clear H
              have hnb33 := NB121_116.out
              have hnc33 := NB116_121.out
              obtain ⟨hcz34_0, hcz34_1, hcz34_2, hfz34_0, hfz34_1, hfz34_2⟩ := gz3 BK121
              have p122 : 0 ≤ (0 : Int) := (by omega)
              have q122 : 0 < (((rd_T43 l0_1 x39_2).f2).length : Int) := of_decide_eq_true (by assumption)
              obtain ⟨ad122, A122_0, c122_0, A122_1, c122_1, e122, hx122_0, hx122_1, hl122_0, hi122_0, hl122_1, hi122_1⟩ := at_T25 HR120_2.out 0 p122 q122
              cases e122
              have qi122 : (0 < ((rd_T43 l0_1 x39_2).f2).length) = True := eq_true (by omega)
              (try rw [show ((0 : Int)).toNat = 0 from rfl] at hx122_0)
              (try rw [show 0 * 2 = 0 from rfl] at hx122_0)
              (try rw [Addr.add_zero'] at hx122_0)
              (try rw [show ((0 : Int)).toNat = 0 from rfl] at hx122_1)
              (try rw [show 0 * 2 = 0 from rfl] at hx122_1)
              (try rw [Addr.add_zero'] at hx122_1)
              replace hx122_0 := (HB.out.cell (World.block_lt_of_cell? w _ hx122_0)).trans hx122_0
              replace hx122_1 := (HB.out.cell (World.block_lt_of_cell? w _ hx122_1)).trans hx122_1
              have HR122_0 := gA hi122_0
              have HC122_0 := gA hl122_0
              clear hi122_0 hl122_0
              have HR122_1 := gA hi122_1
              have HC122_1 := gA hl122_1
              clear hi122_1 hl122_1
              replace p122 := eq_true p122
              replace q122 := eq_true q122
              go_wp2_with (first | ((with_reducible refine gate_callee (f := 62) rfl ?_); refine goesL_ (some 66) rfl rfl Try.func62 (by kernel_rfl) rfl #[.agg #[.slice A122_0 ((rd_T25 ((rd_T43 l0_1 x39_2).f2) 0).f0).length c122_0, .slice A122_1 ((rd_T25 ((rd_T43 l0_1 x39_2).f2) 0).f1).length c122_1], .int .i64 (wrap64 (a1 + 1))] rfl (by (try simp only [List.map_toArray, List.map_cons, List.map_nil]); first | done | rfl | (simp only [List.length_drop, List.length_take]; rfl)) ?_; (with_reducible refine (ih kj15 (by have := HK1.out; have := HK2.out; have := HJ15.out; omega) _ _ ((rd_T25 ((rd_T43 l0_1 x39_2).f2) 0).f0) _ _ ((rd_T25 ((rd_T43 l0_1 x39_2).f2) 0).f1) (wrap64 (a1 + 1)) t123 _ ?side1 ?side2 ?side3 ?side4 A31.out).mono ?_); (case side1 => exact gC HR122_0 HB); (case side2 => exact HC122_0.out); (case side3 => exact gC HR122_1 HB); (case side4 => exact HC122_1.out); rintro e w35 ⟨rfl, hb⟩; refine ⟨_, rfl, ?_⟩; replace BK116 := gA (blk_below (gK BK116) hb); replace BK121 := gA (blk_below (gK BK121) hb); replace HB := gA (below_step (gB HB) hb); (try clear hb)))
              go_roundg kj15
              case measure => have := HK1.out; have := HK2.out; have := HJ15.out; omega
              case rel => exact ⟨(wrap64 (x39_2 + 1)), (rfl), H', ⟨by have := HK1.out; have := HK2.out; have := HJ15.out; omega⟩, ⟨gK BK116⟩, ⟨gB HB⟩⟩
             ·rw [if_neg c32] at H
              have c32b0 : (t123 == 0) = false := beq_eq_false_iff_ne.mpr c32
              have c32b1 : (t123 != 0) = true := bne_iff_ne.mpr c32
              obtain rfl := Option.some.inj H
              have hnb36 := NB121_116.out
              have hnc36 := NB116_121.out
              obtain ⟨hcz37_0, hcz37_1, hcz37_2, hfz37_0, hfz37_1, hfz37_2⟩ := gz3 BK121
              have p122 : 0 ≤ (0 : Int) := (by omega)
              have q122 : 0 < (((rd_T43 l0_1 x39_2).f2).length : Int) := of_decide_eq_true (by assumption)
              obtain ⟨ad122, A122_0, c122_0, A122_1, c122_1, e122, hx122_0, hx122_1, hl122_0, hi122_0, hl122_1, hi122_1⟩ := at_T25 HR120_2.out 0 p122 q122
              cases e122
              have qi122 : (0 < ((rd_T43 l0_1 x39_2).f2).length) = True := eq_true (by omega)
              (try rw [show ((0 : Int)).toNat = 0 from rfl] at hx122_0)
              (try rw [show 0 * 2 = 0 from rfl] at hx122_0)
              (try rw [Addr.add_zero'] at hx122_0)
              (try rw [show ((0 : Int)).toNat = 0 from rfl] at hx122_1)
              (try rw [show 0 * 2 = 0 from rfl] at hx122_1)
              (try rw [Addr.add_zero'] at hx122_1)
              replace hx122_0 := (HB.out.cell (World.block_lt_of_cell? w _ hx122_0)).trans hx122_0
              replace hx122_1 := (HB.out.cell (World.block_lt_of_cell? w _ hx122_1)).trans hx122_1
              have HR122_0 := gA hi122_0
              have HC122_0 := gA hl122_0
              clear hi122_0 hl122_0
              have HR122_1 := gA hi122_1
              have HC122_1 := gA hl122_1
              clear hi122_1 hl122_1
              replace p122 := eq_true p122
              replace q122 := eq_true q122
              go_wp2_with (first | ((with_reducible refine gate_callee (f := 62) rfl ?_); refine goesL_ (some 66) rfl rfl Try.func62 (by kernel_rfl) rfl #[.agg #[.slice A122_0 ((rd_T25 ((rd_T43 l0_1 x39_2).f2) 0).f0).length c122_0, .slice A122_1 ((rd_T25 ((rd_T43 l0_1 x39_2).f2) 0).f1).length c122_1], .int .i64 (wrap64 (a1 + 1))] rfl (by (try simp only [List.map_toArray, List.map_cons, List.map_nil]); first | done | rfl | (simp only [List.length_drop, List.length_take]; rfl)) ?_; (with_reducible refine (ih kj15 (by have := HK1.out; have := HK2.out; have := HJ15.out; omega) _ _ ((rd_T25 ((rd_T43 l0_1 x39_2).f2) 0).f0) _ _ ((rd_T25 ((rd_T43 l0_1 x39_2).f2) 0).f1) (wrap64 (a1 + 1)) t123 _ ?side1 ?side2 ?side3 ?side4 A31.out).mono ?_); (case side1 => exact gC HR122_0 HB); (case side2 => exact HC122_0.out); (case side3 => exact gC HR122_1 HB); (case side4 => exact HC122_1.out); rintro e w38 ⟨rfl, hb⟩; refine ⟨_, rfl, ?_⟩; replace BK116 := gA (blk_below (gK BK116) hb); replace BK121 := gA (blk_below (gK BK121) hb); replace HB := gA (below_step (gB HB) hb); (try clear hb)))
              go_ret
              exact ⟨rfl, by repeat first | exact gB HB | refine below_set ?_ GE116.out | refine below_set ?_ GE121.out⟩
           ·replace c28 := Bool.eq_false_iff.mpr c28
            subst c28
            have H1 : (if (((rd_T43 l0_1 x39_2).f2).length : Int) > 0 then (some 1) else (if ((rd_T43 l0_1 x39_2).f0) = 0 then (arr_check.l1 kj15 a1 l0_1 (l0_1.length : Int) (wrap64 (x39_2 + 1))) else (if ((rd_T43 l0_1 x39_2).f0) = 1 then ((arr_good.f ((rd_T43 l0_1 x39_2).f1)).bind fun t124 => (if t124 = true then (arr_check.l1 kj15 a1 l0_1 (l0_1.length : Int) (wrap64 (x39_2 + 1))) else (some 1))) else (some 1)))) = some r := by rw [if_neg (show ¬ (false = true) by decide)] at H; exact H
            clear H; have H := H1; clear H1
            by_cases c39 : (((rd_T43 l0_1 x39_2).f2).length : Int) > 0
            ·rw [if_pos c39] at H
             have c39b0 : decide (0 < (((rd_T43 l0_1 x39_2).f2).length : Int)) = true := decide_eq_true c39
             have c39b1 : decide (0 < ((rd_T43 l0_1 x39_2).f2).length) = true := decide_eq_true (by omega)
             clear c39
             obtain rfl := Option.some.inj H
             have hnb40 := NB121_116.out
             have hnc40 := NB116_121.out
             obtain ⟨hcz41_0, hcz41_1, hcz41_2, hfz41_0, hfz41_1, hfz41_2⟩ := gz3 BK121
             go_wp2
             go_ret
             exact ⟨rfl, by repeat first | exact gB HB | refine below_set ?_ GE116.out | refine below_set ?_ GE121.out⟩
            ·rw [if_neg c39] at H
             have c39b0 : decide (0 < (((rd_T43 l0_1 x39_2).f2).length : Int)) = false := decide_eq_false c39
             have c39b1 : decide (0 < ((rd_T43 l0_1 x39_2).f2).length) = false := decide_eq_false (by omega)
             clear c39
             by_cases c42 : ((rd_T43 l0_1 x39_2).f0) = 0
             ·rw [if_pos c42] at H
              have c42b0 : (((rd_T43 l0_1 x39_2).f0) == 0) = true := beq_iff_eq.mpr c42
              have c42b1 : (((rd_T43 l0_1 x39_2).f0) != 0) = false := bne_eq_false_iff_eq.mpr c42
              clear c42
              have H' := gA H
              clear H
              have hnb43 := NB121_116.out
              have hnc43 := NB116_121.out
              obtain ⟨hcz44_0, hcz44_1, hcz44_2, hfz44_0, hfz44_1, hfz44_2⟩ := gz3 BK121
              go_wp2
              go_roundg kj15
              case measure => have := HK1.out; have := HK2.out; have := HJ15.out; omega
              case rel => exact ⟨(wrap64 (x39_2 + 1)), (rfl), H', ⟨by have := HK1.out; have := HK2.out; have := HJ15.out; omega⟩, ⟨gK BK116⟩, ⟨gB HB⟩⟩
             ·rw [if_neg c42] at H
              have c42b0 : (((rd_T43 l0_1 x39_2).f0) == 0) = false := beq_eq_false_iff_ne.mpr c42
              have c42b1 : (((rd_T43 l0_1 x39_2).f0) != 0) = true := bne_iff_ne.mpr c42
              by_cases c45 : ((rd_T43 l0_1 x39_2).f0) = 1
              ·rw [if_pos c45] at H
               have c45b0 : (((rd_T43 l0_1 x39_2).f0) == 1) = true := beq_iff_eq.mpr c45
               have c45b1 : (((rd_T43 l0_1 x39_2).f0) != 1) = false := bne_eq_false_iff_eq.mpr c45
               clear c45
               replace H := Option.bind_eq_some_iff.mp H
               obtain ⟨t124, A460, H⟩ := H
               replace H : (if t124 = true then (arr_check.l1 kj15 a1 l0_1 (l0_1.length : Int) (wrap64 (x39_2 + 1))) else (some 1)) = some r := H
               have A46 := gA A460
               clear A460
               by_cases c47 : t124 = true
               ·subst c47
                have H1 : (arr_check.l1 kj15 a1 l0_1 (l0_1.length : Int) (wrap64 (x39_2 + 1))) = some r := by rw [if_pos rfl] at H; exact H
                clear H; have H := H1; clear H1
                have H' := gA H
                clear H
                have hnb48 := NB121_116.out
                have hnc48 := NB116_121.out
                obtain ⟨hcz49_0, hcz49_1, hcz49_2, hfz49_0, hfz49_1, hfz49_2⟩ := gz3 BK121
                go_wp2_with (first | (go_at_call 75; (with_reducible refine (arr_good.calls ((rd_T43 l0_1 x39_2).f1) true _ A46.out).mono ?_); rintro e w' ⟨rfl, ⟨nd, rfl⟩⟩))
                go_roundg kj15
                case measure => have := HK1.out; have := HK2.out; have := HJ15.out; omega
                case rel => exact ⟨(wrap64 (x39_2 + 1)), (rfl), H', ⟨by have := HK1.out; have := HK2.out; have := HJ15.out; omega⟩, ⟨gK BK116⟩, ⟨gB HB⟩⟩
               ·replace c47 := Bool.eq_false_iff.mpr c47
                subst c47
                have H1 : (some 1) = some r := by rw [if_neg (show ¬ (false = true) by decide)] at H; exact H
                clear H; have H := H1; clear H1
                obtain rfl := Option.some.inj H
                have hnb50 := NB121_116.out
                have hnc50 := NB116_121.out
                obtain ⟨hcz51_0, hcz51_1, hcz51_2, hfz51_0, hfz51_1, hfz51_2⟩ := gz3 BK121
                go_wp2_with (first | (go_at_call 75; (with_reducible refine (arr_good.calls ((rd_T43 l0_1 x39_2).f1) false _ A46.out).mono ?_); rintro e w' ⟨rfl, ⟨nd, rfl⟩⟩))
                go_ret
                exact ⟨rfl, by repeat first | exact gB HB | refine below_set ?_ GE116.out | refine below_set ?_ GE121.out⟩
              ·rw [if_neg c45] at H
               have c45b0 : (((rd_T43 l0_1 x39_2).f0) == 1) = false := beq_eq_false_iff_ne.mpr c45
               have c45b1 : (((rd_T43 l0_1 x39_2).f0) != 1) = true := bne_iff_ne.mpr c45
               obtain rfl := Option.some.inj H
               have hnb52 := NB121_116.out
               have hnc52 := NB116_121.out
               obtain ⟨hcz53_0, hcz53_1, hcz53_2, hfz53_0, hfz53_1, hfz53_2⟩ := gz3 BK121
               go_wp2
               go_ret
               exact ⟨rfl, by repeat first | exact gB HB | refine below_set ?_ GE116.out | refine below_set ?_ GE121.out⟩
        ·rw [if_neg c13] at H
         have c13b0 := decide_eq_false c13
         clear c13
         obtain rfl := Option.some.inj H
         go_wp2
         go_ret
         exact ⟨rfl, by repeat first | exact gB HB | refine below_set ?_ GE116.out⟩
  ·rw [if_neg c5] at H
   have c5b0 : (t117 == (l0_1.length : Int)) = false := beq_eq_false_iff_ne.mpr c5
   have c5b1 : (t117 != (l0_1.length : Int)) = true := bne_iff_ne.mpr c5
   obtain rfl := Option.some.inj H
   go_enter Try.func62, Try.ntmps62
   go_wp2_with (first | ((with_reducible refine gate_dst (N := 2) rfl ?_); (try (refine gate_guard (by rfl) ?_; dsimp only)); refine box_event ?hg (N := 2) ?hd (cs := #[.slice A0_0 l0_0.length c0_0, .slice A0_1 l0_1.length c0_1]) (t := 25) ?hr ?_; (case hd => rfl); (case hg => rfl); (case hr => first | (go_simp; done) | (go_simp; rfl)); intro gb116 hg w54 hbox hb; have BK116 := gA (hbox); have GW116 := gA ((by rw [hg]; exact (below_size (gB HB)) : w.heap.size ≤ gb116)); have GE116 := gA ((by rw [hg]; exact (below_size (gB HB)) : w.heap.size ≤ gb116)); replace HB := gA (below_step (gB HB) hb); clear hb hbox hg; obtain ⟨hcz55_0, hcz55_1, hfz55_0, hfz55_1⟩ := gz2 BK116) | ((with_reducible refine gate_callee (f := 30) rfl ?_); refine goesL_ (some 15) rfl rfl Try.func30 (by kernel_rfl) rfl #[.slice A0_0 l0_0.length c0_0] rfl (by (try simp only [List.map_toArray, List.map_cons, List.map_nil]); first | done | rfl | (simp only [List.length_drop, List.length_take]; rfl)) ?_; (with_reducible refine (arr_Size.calls k _ _ l0_0 t117 t118 _ ?side1 ?side2 A3.out).mono ?_); (case side1 => exact gC HR0_0 HB); (case side2 => exact HC0_0.out); rintro e w' ⟨rfl, ⟨nd, rfl⟩⟩; refine ⟨_, rfl, ?_⟩))
   go_ret
   exact ⟨rfl, by repeat first | exact gB HB | refine below_set ?_ GE116.out⟩
 ·rw [if_neg c4] at H
  have c4b0 : (t118 == 0) = false := beq_eq_false_iff_ne.mpr c4
  have c4b1 : (t118 != 0) = true := bne_iff_ne.mpr c4
  obtain rfl := Option.some.inj H
  go_enter Try.func62, Try.ntmps62
  go_wp2_with (first | ((with_reducible refine gate_dst (N := 2) rfl ?_); (try (refine gate_guard (by rfl) ?_; dsimp only)); refine box_event ?hg (N := 2) ?hd (cs := #[.slice A0_0 l0_0.length c0_0, .slice A0_1 l0_1.length c0_1]) (t := 25) ?hr ?_; (case hd => rfl); (case hg => rfl); (case hr => first | (go_simp; done) | (go_simp; rfl)); intro gb116 hg w56 hbox hb; have BK116 := gA (hbox); have GW116 := gA ((by rw [hg]; exact (below_size (gB HB)) : w.heap.size ≤ gb116)); have GE116 := gA ((by rw [hg]; exact (below_size (gB HB)) : w.heap.size ≤ gb116)); replace HB := gA (below_step (gB HB) hb); clear hb hbox hg; obtain ⟨hcz57_0, hcz57_1, hfz57_0, hfz57_1⟩ := gz2 BK116) | ((with_reducible refine gate_callee (f := 30) rfl ?_); refine goesL_ (some 15) rfl rfl Try.func30 (by kernel_rfl) rfl #[.slice A0_0 l0_0.length c0_0] rfl (by (try simp only [List.map_toArray, List.map_cons, List.map_nil]); first | done | rfl | (simp only [List.length_drop, List.length_take]; rfl)) ?_; (with_reducible refine (arr_Size.calls k _ _ l0_0 t117 t118 _ ?side1 ?side2 A3.out).mono ?_); (case side1 => exact gC HR0_0 HB); (case side2 => exact HC0_0.out); rintro e w' ⟨rfl, ⟨nd, rfl⟩⟩; refine ⟨_, rfl, ?_⟩))
  go_ret
  exact ⟨rfl, by repeat first | exact gB HB | refine below_set ?_ GE116.out⟩
def arr_Check.f (k : Nat) (l0_0 : List Int) (l0_1 : List (S43)) : Option (Int) := (arr_check.f k l0_0 l0_1 0).bind fun t126 => (some t126)
theorem arr_Check.mono : ∀ a0 a1 k, LeO (arr_Check.f k a0 a1) (arr_Check.f (k + 1) a0 a1) := by
 intro a0 a1 k
 unfold arr_Check.f
 repeat' first
   | (with_reducible exact arr_check.mono _ _ _ _)
   | (with_reducible exact LeO.refl _)
   | (with_reducible exact LeO.none _)
   | (with_reducible refine LeO.ite ?_ ?_)
   | (with_reducible refine LeO.bind ?_ (fun _ => ?_))
   | exact arr_check.mono _ _ _ _
set_option maxHeartbeats 8000000 in
set_option maxRecDepth 100000 in
theorem arr_Check.calls (k : Nat) (A0_0 : Option Addr) (c0_0 : Nat) (l0_0 : List Int) (A0_1 : Option Addr) (c0_1 : Nat) (l0_1 : List (S43)) (r : Int) (w : World) (hr0_0 : Kd.C (Kd.int .i64) w A0_0 l0_0.length l0_0) (hc0_0 : l0_0.length ≤ c0_0) (hr0_1 : Kd.C k43 w A0_1 l0_1.length l0_1) (hc0_1 : l0_1.length ≤ c0_1) (h : arr_Check.f k l0_0 l0_1 = some r) :
  Calls Try.prog 52 #[.agg #[.slice A0_0 l0_0.length c0_0, .slice A0_1 l0_1.length c0_1]] w fun e w' => e = .returned (.int .i64 r) ∧ Below w.heap.size w w' := by
 have hu25 := Try.underlying25
 have HR0_0 := gA hr0_0
 have HC0_0 := gA hc0_0
 clear hr0_0 hc0_0
 have HR0_1 := gA hr0_1
 have HC0_1 := gA hc0_1
 clear hr0_1 hc0_1
 have HB := gA (Below.refl w.heap.size w)
 have H : ((arr_check.f k l0_0 l0_1 0).bind fun t126 => (some t126)) = some r := h
 clear h
 replace H := Option.bind_eq_some_iff.mp H
 obtain ⟨t126, A20, H⟩ := H
 replace H : (some t126) = some r := H
 have A2 := gA A20
 clear A20
 obtain rfl := Option.some.inj H
 go_enter Try.func52, Try.ntmps52
 go_wp2_with (first | ((with_reducible refine gate_dst (N := 1) rfl ?_); refine box_event ?hg (N := 1) ?hd (cs := #[.slice A0_0 l0_0.length c0_0, .slice A0_1 l0_1.length c0_1]) (t := 25) ?hr ?_; (case hd => rfl); (case hg => rfl); (case hr => first | (go_simp; done) | (go_simp; rfl)); intro gb125 hg w3 hbox hb; have BK125 := gA (hbox); have GW125 := gA ((by rw [hg]; exact (below_size (gB HB)) : w.heap.size ≤ gb125)); have GE125 := gA ((by rw [hg]; exact (below_size (gB HB)) : w.heap.size ≤ gb125)); replace HB := gA (below_step (gB HB) hb); clear hb hbox hg; obtain ⟨hcz4_0, hcz4_1, hfz4_0, hfz4_1⟩ := gz2 BK125) | ((with_reducible refine gate_callee (f := 62) rfl ?_); refine goesL_ (some 4) rfl rfl Try.func62 (by kernel_rfl) rfl #[.agg #[.slice A0_0 l0_0.length c0_0, .slice A0_1 l0_1.length c0_1], .int .i64 0] rfl (by (try simp only [List.map_toArray, List.map_cons, List.map_nil]); first | done | rfl | (simp only [List.length_drop, List.length_take]; rfl)) ?_; (with_reducible refine (arr_check.calls k _ _ l0_0 _ _ l0_1 0 t126 _ ?side1 ?side2 ?side3 ?side4 A2.out).mono ?_); (case side1 => exact gC HR0_0 HB); (case side2 => exact HC0_0.out); (case side3 => exact gC HR0_1 HB); (case side4 => exact HC0_1.out); rintro e w5 ⟨rfl, hb⟩; refine ⟨_, rfl, ?_⟩; replace BK125 := gA (blk_below (gK BK125) hb); replace HB := gA (below_step (gB HB) hb); (try clear hb)))
 go_ret
 exact ⟨rfl, by repeat first | exact gB HB | refine below_set ?_ GE125.out⟩
def atomic_Is.f (a0 : Int) : Option (Bool) := if a0 ≥ 21 then (some (decide (a0 ≤ 32))) else (some false)
set_option maxHeartbeats 8000000 in
set_option maxRecDepth 100000 in
theorem atomic_Is.calls (a0 : Int) (r : Bool) (w : World) (h : atomic_Is.f a0 = some r) :
  Calls Try.prog 53 #[.int .i64 a0] w fun e w' => e = .returned (.bool r) ∧ Drawn0 w w' := by
 have H : (if a0 ≥ 21 then (some (decide (a0 ≤ 32))) else (some false)) = some r := h
 clear h
 by_cases c2 : a0 ≥ 21
 ·rw [if_pos c2] at H
  have c2b0 : decide (21 ≤ a0) = true := decide_eq_true c2
  clear c2
  obtain rfl := Option.some.inj H
  go_enter Try.func53, Try.ntmps53
  go_wp2
  go_ret
  exact ⟨rfl, by repeat (first | exact Drawn0.refl _ | apply Drawn0.step)⟩
 ·rw [if_neg c2] at H
  have c2b0 : decide (21 ≤ a0) = false := decide_eq_false c2
  clear c2
  obtain rfl := Option.some.inj H
  go_enter Try.func53, Try.ntmps53
  go_wp2
  go_ret
  exact ⟨rfl, by repeat (first | exact Drawn0.refl _ | apply Drawn0.step)⟩
def fold_F_checked.l0 : Nat → List (S25) → Int → Int → Int → Bool → Option (Int)
 | 0, _, _, _, _, _ => none
 | k + 1, x8, x9, x10, x128000, x128001 => if x10 < x9 then (if 0 ≤ x10 then (if x10 < (x8.length : Int) then ((arr_Check.f k ((rd_T25 x8 x10).f0) ((rd_T25 x8 x10).f1)).bind fun t130 => (if t130 = 0 then (fold_F_checked.l0 k x8 x9 (wrap64 (x10 + 1)) x128000 x128001) else (some t130))) else (none)) else (none)) else ((atomic_Is.f x128000).bind fun t131 => (if t131 = true then (some 0) else (some 1)))
def fold_F_checked.f (k : Nat) (a0_0 : Int) (a0_1 : Bool) (l1 : List (S25)) : Option (Int) := fold_F_checked.l0 k l1 (l1.length : Int) 0 a0_0 a0_1
theorem fold_F_checked.mono_l : ∀ k, (∀ y0 y1 y2 y3 y4, LeO (fold_F_checked.l0 k y0 y1 y2 y3 y4) (fold_F_checked.l0 (k + 1) y0 y1 y2 y3 y4))
 | 0 => fun _ _ _ _ _ r h => by simp [fold_F_checked.l0] at h
 | k + 1 => by
  have ih0 := fold_F_checked.mono_l k
  ·intro y0 y1 y2 y3 y4
   unfold fold_F_checked.l0
   repeat' first
   | (with_reducible exact ih0 _ _ _ _ _)
   | (with_reducible exact arr_Check.mono _ _ _)
   | (with_reducible exact LeO.refl _)
   | (with_reducible exact LeO.none _)
   | (with_reducible refine LeO.ite ?_ ?_)
   | (with_reducible refine LeO.bind ?_ (fun _ => ?_))

   | exact arr_Check.mono _ _ _
theorem fold_F_checked.mono : ∀ a0 a1 a2 k, LeO (fold_F_checked.f k a0 a1 a2) (fold_F_checked.f (k + 1) a0 a1 a2) := by
 intro a0 a1 a2 k
 have ih0 := fold_F_checked.mono_l k
 unfold fold_F_checked.f
 repeat' first
   | (with_reducible exact ih0 _ _ _ _ _)
   | (with_reducible exact arr_Check.mono _ _ _)
   | (with_reducible exact LeO.refl _)
   | (with_reducible exact LeO.none _)
   | (with_reducible refine LeO.ite ?_ ?_)
   | (with_reducible refine LeO.bind ?_ (fun _ => ?_))

   | exact arr_Check.mono _ _ _
set_option maxHeartbeats 8000000 in
set_option maxRecDepth 100000 in
theorem fold_F_checked.calls (k : Nat) (a0_0 : Int) (a0_1 : Bool) (A1 : Option Addr) (c1 : Nat) (l1 : List (S25)) (r : Int) (w : World) (hr1 : Kd.C k25 w A1 l1.length l1) (hc1 : l1.length ≤ c1) (h : fold_F_checked.f k a0_0 a0_1 l1 = some r) :
  Calls Try.prog 25 #[.agg #[.int .i64 a0_0, .bool a0_1], .slice A1 l1.length c1] w fun e w' => e = .returned (.int .i64 r) ∧ Below w.heap.size w w' := by
 have hu32 := Try.underlying32
 have hu25 := Try.underlying25
 have HR1 := gA hr1
 have HC1 := gA hc1
 clear hr1 hc1
 have HB := gA (Below.refl w.heap.size w)
 have H : (fold_F_checked.l0 k l1 (l1.length : Int) 0 a0_0 a0_1) = some r := h
 clear h
 have H' := gA H
 clear H
 go_enter Try.func25, Try.ntmps25
 go_wp2_with (first | ((with_reducible refine gate_dst (N := 2) rfl ?_); refine box_event ?hg (N := 2) ?hd (cs := #[.int .i64 a0_0, .bool a0_1]) (t := 32) ?hr ?_; (case hd => rfl); (case hg => rfl); (case hr => first | (go_simp; done) | (go_simp; rfl)); intro gb127 hg w3 hbox hb; have BK127 := gA (hbox); have GW127 := gA ((by rw [hg]; exact (below_size (gB HB)) : w.heap.size ≤ gb127)); have GE127 := gA ((by rw [hg]; exact (below_size (gB HB)) : w.heap.size ≤ gb127)); replace HB := gA (below_step (gB HB) hb); clear hb hbox hg))
 go_loopg [10] k (fun kq v10 w' => ∃ (x10_1 : Int), v10 = .int .i64 x10_1 ∧ Aside0 (fold_F_checked.l0 kq l1 (l1.length : Int) x10_1 a0_0 a0_1 = some r) ∧ Aside0 (kq ≤ k) ∧ Aside0 (w'.heap[gb127]? = some (.cells #[.int .i64 a0_0, .bool a0_1] 32 (0, 0))) ∧ Aside0 (Below w.heap.size w w'))
 case atStart => exact ⟨(0), (rfl), H', ⟨Nat.le_refl _⟩, ⟨gK BK127⟩, ⟨by repeat first | exact gB HB | refine below_set ?_ GE127.out⟩⟩
 case round =>
  clear H'
  try clear c1
  try clear c2
  try clear p2
  obtain ⟨x10_1, rfl, HA, HK1, BK127, HB⟩ := hrel
  cases gk with
  | zero => exact absurd HA.out (by simp [fold_F_checked.l0])
  | succ k1 =>
   have H := HA.out; clear HA
   simp only [fold_F_checked.l0] at H
   by_cases c4 : x10_1 < (l1.length : Int)
   ·rw [if_pos c4] at H
    have c4b0 := decide_eq_true c4
    clear c4
    obtain ⟨c5, H⟩ := iS H
    have c5b0 := decide_eq_true c5
    clear c5
    obtain ⟨c6, H⟩ := iS H
    have c6b0 := decide_eq_true c6
    clear c6
    replace H := Option.bind_eq_some_iff.mp H
    obtain ⟨t130, A70, H⟩ := H
    replace H : (if t130 = 0 then (fold_F_checked.l0 k1 l1 (l1.length : Int) (wrap64 (x10_1 + 1)) a0_0 a0_1) else (some t130)) = some r := H
    have A7 := gA A70
    clear A70
    by_cases c8 : t130 = 0
    ·rw [if_pos c8] at H
     have c8b0 : (t130 == 0) = true := beq_iff_eq.mpr c8
     have c8b1 : (t130 != 0) = false := bne_eq_false_iff_eq.mpr c8
     clear c8
     have H' := gA H
     clear H
     have p128 : 0 ≤ (x10_1 : Int) := of_decide_eq_true (by assumption)
     have q128 : x10_1 < (l1.length : Int) := of_decide_eq_true (by assumption)
     obtain ⟨ad128, A128_0, c128_0, A128_1, c128_1, e128, hx128_0, hx128_1, hl128_0, hi128_0, hl128_1, hi128_1⟩ := at_T25 HR1.out x10_1 p128 q128
     cases e128
     replace hx128_0 := (HB.out.cell (World.block_lt_of_cell? w _ hx128_0)).trans hx128_0
     replace hx128_1 := (HB.out.cell (World.block_lt_of_cell? w _ hx128_1)).trans hx128_1
     have HR128_0 := gA hi128_0
     have HC128_0 := gA hl128_0
     clear hi128_0 hl128_0
     have HR128_1 := gA hi128_1
     have HC128_1 := gA hl128_1
     clear hi128_1 hl128_1
     replace p128 := eq_true p128
     replace q128 := eq_true q128
     go_wp2_with (first | ((with_reducible refine gate_dst (N := 6) rfl ?_); refine box_event ?hg (N := 6) ?hd (cs := #[.slice none 0 0, .slice none 0 0]) (t := 25) ?hr ?_; (case hd => rfl); (case hg => rfl); (case hr => first | (go_simp; done) | (go_simp; rfl)); intro gb129 hg w9 hbox hb; have BK129 := gA (hbox); have GW129 := gA ((by rw [hg]; exact (below_size (by repeat first | exact gB HB | refine below_set ?_ GE127.out)) : w.heap.size ≤ gb129)); have GE129 := gA ((by rw [hg]; exact (below_size (by repeat first | exact gB HB | refine below_set ?_ GE127.out)) : w.heap.size ≤ gb129)); replace HB := gA (below_step (by repeat first | exact gB HB | refine below_set ?_ GE127.out) hb); have NB127_129 := gA ((by rw [hg]; exact Nat.ne_of_lt (blk_lt (gK BK127)) : gb127 ≠ gb129)); have NB129_127 := gA ((by rw [hg]; exact Nat.ne_of_gt (blk_lt (gK BK127)) : gb129 ≠ gb127)); replace BK127 := gA (blk_below (gK BK127) hb); clear hb hbox hg; have hnb10 := NB129_127.out; have hnc10 := NB127_129.out; obtain ⟨hcz11_0, hcz11_1, hfz11_0, hfz11_1⟩ := gz2 BK129) | ((with_reducible refine gate_callee (f := 52) rfl ?_); refine goesL_ (some 15) rfl rfl Try.func52 (by kernel_rfl) rfl #[.agg #[.slice A128_0 ((rd_T25 l1 x10_1).f0).length c128_0, .slice A128_1 ((rd_T25 l1 x10_1).f1).length c128_1]] rfl (by (try simp only [List.map_toArray, List.map_cons, List.map_nil]); first | done | rfl | (simp only [List.length_drop, List.length_take]; rfl)) ?_; (with_reducible refine (arr_Check.calls k1 _ _ ((rd_T25 l1 x10_1).f0) _ _ ((rd_T25 l1 x10_1).f1) t130 _ ?side1 ?side2 ?side3 ?side4 A7.out).mono ?_); (case side1 => exact Kd.C_below HR128_0.out (by repeat first | exact gB HB | refine below_set ?_ GE127.out | refine below_set ?_ GE129.out)); (case side2 => exact HC128_0.out); (case side3 => exact Kd.C_below HR128_1.out (by repeat first | exact gB HB | refine below_set ?_ GE127.out | refine below_set ?_ GE129.out)); (case side4 => exact HC128_1.out); rintro e w12 ⟨rfl, hb⟩; refine ⟨_, rfl, ?_⟩; replace BK127 := gA (blk_below (g := gb127) (o := .cells #[.int .i64 a0_0, .bool a0_1] 32 (0, 0)) (by refine blk_far ?_ NB127_129.out _; refine blk_far ?_ NB127_129.out _; exact gK BK127) hb); replace BK129 := gA (blk_below (g := gb129) (o := .cells #[.slice A128_0 ((rd_T25 l1 x10_1).f0).length c128_0, .slice A128_1 ((rd_T25 l1 x10_1).f1).length c128_1] 25 (0, 0)) (by refine blk_put (cs := #[.slice A128_0 ((rd_T25 l1 x10_1).f0).length c128_0, .slice none 0 0]) ?_ 1 _ rfl; refine blk_put (cs := #[.slice none 0 0, .slice none 0 0]) ?_ 0 _ rfl; exact gK BK129) hb); replace HB := gA (below_step (by repeat first | exact gB HB | refine below_set ?_ GE127.out | refine below_set ?_ GE129.out) hb); (try clear hb)))
     go_roundg k1
     case measure => have := HK1.out; omega
     case rel => exact ⟨(wrap64 (x10_1 + 1)), (rfl), H', ⟨by have := HK1.out; omega⟩, ⟨gK BK127⟩, ⟨by repeat first | exact gB HB | refine below_set ?_ GE127.out | refine below_set ?_ GE129.out⟩⟩
    ·rw [if_neg c8] at H
     have c8b0 : (t130 == 0) = false := beq_eq_false_iff_ne.mpr c8
     have c8b1 : (t130 != 0) = true := bne_iff_ne.mpr c8
     obtain rfl := Option.some.inj H
     have p128 : 0 ≤ (x10_1 : Int) := of_decide_eq_true (by assumption)
     have q128 : x10_1 < (l1.length : Int) := of_decide_eq_true (by assumption)
     obtain ⟨ad128, A128_0, c128_0, A128_1, c128_1, e128, hx128_0, hx128_1, hl128_0, hi128_0, hl128_1, hi128_1⟩ := at_T25 HR1.out x10_1 p128 q128
     cases e128
     replace hx128_0 := (HB.out.cell (World.block_lt_of_cell? w _ hx128_0)).trans hx128_0
     replace hx128_1 := (HB.out.cell (World.block_lt_of_cell? w _ hx128_1)).trans hx128_1
     have HR128_0 := gA hi128_0
     have HC128_0 := gA hl128_0
     clear hi128_0 hl128_0
     have HR128_1 := gA hi128_1
     have HC128_1 := gA hl128_1
     clear hi128_1 hl128_1
     replace p128 := eq_true p128
     replace q128 := eq_true q128
     go_wp2_with (first | ((with_reducible refine gate_dst (N := 6) rfl ?_); refine box_event ?hg (N := 6) ?hd (cs := #[.slice none 0 0, .slice none 0 0]) (t := 25) ?hr ?_; (case hd => rfl); (case hg => rfl); (case hr => first | (go_simp; done) | (go_simp; rfl)); intro gb129 hg w13 hbox hb; have BK129 := gA (hbox); have GW129 := gA ((by rw [hg]; exact (below_size (by repeat first | exact gB HB | refine below_set ?_ GE127.out)) : w.heap.size ≤ gb129)); have GE129 := gA ((by rw [hg]; exact (below_size (by repeat first | exact gB HB | refine below_set ?_ GE127.out)) : w.heap.size ≤ gb129)); replace HB := gA (below_step (by repeat first | exact gB HB | refine below_set ?_ GE127.out) hb); have NB127_129 := gA ((by rw [hg]; exact Nat.ne_of_lt (blk_lt (gK BK127)) : gb127 ≠ gb129)); have NB129_127 := gA ((by rw [hg]; exact Nat.ne_of_gt (blk_lt (gK BK127)) : gb129 ≠ gb127)); replace BK127 := gA (blk_below (gK BK127) hb); clear hb hbox hg; have hnb14 := NB129_127.out; have hnc14 := NB127_129.out; obtain ⟨hcz15_0, hcz15_1, hfz15_0, hfz15_1⟩ := gz2 BK129) | ((with_reducible refine gate_callee (f := 52) rfl ?_); refine goesL_ (some 15) rfl rfl Try.func52 (by kernel_rfl) rfl #[.agg #[.slice A128_0 ((rd_T25 l1 x10_1).f0).length c128_0, .slice A128_1 ((rd_T25 l1 x10_1).f1).length c128_1]] rfl (by (try simp only [List.map_toArray, List.map_cons, List.map_nil]); first | done | rfl | (simp only [List.length_drop, List.length_take]; rfl)) ?_; (with_reducible refine (arr_Check.calls k1 _ _ ((rd_T25 l1 x10_1).f0) _ _ ((rd_T25 l1 x10_1).f1) t130 _ ?side1 ?side2 ?side3 ?side4 A7.out).mono ?_); (case side1 => exact Kd.C_below HR128_0.out (by repeat first | exact gB HB | refine below_set ?_ GE127.out | refine below_set ?_ GE129.out)); (case side2 => exact HC128_0.out); (case side3 => exact Kd.C_below HR128_1.out (by repeat first | exact gB HB | refine below_set ?_ GE127.out | refine below_set ?_ GE129.out)); (case side4 => exact HC128_1.out); rintro e w16 ⟨rfl, hb⟩; refine ⟨_, rfl, ?_⟩; replace BK127 := gA (blk_below (g := gb127) (o := .cells #[.int .i64 a0_0, .bool a0_1] 32 (0, 0)) (by refine blk_far ?_ NB127_129.out _; refine blk_far ?_ NB127_129.out _; exact gK BK127) hb); replace BK129 := gA (blk_below (g := gb129) (o := .cells #[.slice A128_0 ((rd_T25 l1 x10_1).f0).length c128_0, .slice A128_1 ((rd_T25 l1 x10_1).f1).length c128_1] 25 (0, 0)) (by refine blk_put (cs := #[.slice A128_0 ((rd_T25 l1 x10_1).f0).length c128_0, .slice none 0 0]) ?_ 1 _ rfl; refine blk_put (cs := #[.slice none 0 0, .slice none 0 0]) ?_ 0 _ rfl; exact gK BK129) hb); replace HB := gA (below_step (by repeat first | exact gB HB | refine below_set ?_ GE127.out | refine below_set ?_ GE129.out) hb); (try clear hb)))
     go_ret
     exact ⟨rfl, by repeat first | exact gB HB | refine below_set ?_ GE127.out | refine below_set ?_ GE129.out⟩
   ·rw [if_neg c4] at H
    have c4b0 := decide_eq_false c4
    clear c4
    replace H := Option.bind_eq_some_iff.mp H
    obtain ⟨t131, A170, H⟩ := H
    replace H : (if t131 = true then (some 0) else (some 1)) = some r := H
    have A17 := gA A170
    clear A170
    by_cases c18 : t131 = true
    ·subst c18
     have H1 : (some 0) = some r := by rw [if_pos rfl] at H; exact H
     clear H; have H := H1; clear H1
     obtain rfl := Option.some.inj H
     obtain ⟨hcz19_0, hcz19_1, hfz19_0, hfz19_1⟩ := gz2 BK127
     go_wp2_with (first | ((with_reducible refine gate_callee (f := 53) rfl ?_); refine goesL_ (some 22) rfl rfl Try.func53 (by kernel_rfl) rfl #[.int .i64 a0_0] rfl (by (try simp only [List.map_toArray, List.map_cons, List.map_nil]); first | done | rfl | (simp only [List.length_drop, List.length_take]; rfl)) ?_; (with_reducible refine (atomic_Is.calls a0_0 true _ A17.out).mono ?_); rintro e w' ⟨rfl, ⟨nd, rfl⟩⟩; refine ⟨_, rfl, ?_⟩))
     go_ret
     exact ⟨rfl, by repeat first | exact gB HB | refine below_set ?_ GE127.out⟩
    ·replace c18 := Bool.eq_false_iff.mpr c18
     subst c18
     have H1 : (some 1) = some r := by rw [if_neg (show ¬ (false = true) by decide)] at H; exact H
     clear H; have H := H1; clear H1
     obtain rfl := Option.some.inj H
     obtain ⟨hcz20_0, hcz20_1, hfz20_0, hfz20_1⟩ := gz2 BK127
     go_wp2_with (first | ((with_reducible refine gate_callee (f := 53) rfl ?_); refine goesL_ (some 22) rfl rfl Try.func53 (by kernel_rfl) rfl #[.int .i64 a0_0] rfl (by (try simp only [List.map_toArray, List.map_cons, List.map_nil]); first | done | rfl | (simp only [List.length_drop, List.length_take]; rfl)) ?_; (with_reducible refine (atomic_Is.calls a0_0 false _ A17.out).mono ?_); rintro e w' ⟨rfl, ⟨nd, rfl⟩⟩; refine ⟨_, rfl, ?_⟩))
     go_ret
     exact ⟨rfl, by repeat first | exact gB HB | refine below_set ?_ GE127.out⟩
end Go.Proofs.Ytahgfebdjjfkhaa.P
