/- Written by a program of this session: the functions that the laws reach, what each comes to, and each law as it is stated, for every input. No condition. -/
import Derived.Test.YteamkcgkhcalhaaPx0
import Derived.Test.YteamkcgkhcalhaaPx1
namespace Go.Proofs.Yteamkcgkhcalhaa.P
open Go.RowKit Go.Proofs.YteamkcgkhcalhaaW.PrintWords Go.Proofs.YteamkcgkhcalhaaW.PrintLast Go.Proofs.YteamkcgkhcalhaaW.PrintMore
attribute [local go_sem] max2_int min2_int max_two min_two max_three min_three max_four min_four   -- for this text's walks alone
set_option linter.unusedVariables false
set_option linter.unusedSimpArgs false
mutual
def arr_check.l0 : Nat → Int → List Int → Int → Int → List Int → List (S60) → Option (Int)
 | 0, _, _, _, _, _, _ => none
 | k + 1, x1, x27, x28, x29, x106000, x106001 => if x29 < x28 then (if 0 ≤ x29 then (if x29 < (x27.length : Int) then (if (rd x27 x29) > 16384 then (some 12) else (arr_check.l0 k x1 x27 x28 (wrap64 (x29 + 1)) x106000 x106001)) else (none)) else (none)) else (arr_check.l1 k x1 x106001 (x106001.length : Int) 0)
def arr_check.l1 : Nat → Int → List (S60) → Int → Int → Option (Int)
 | 0, _, _, _, _ => none
 | k + 1, x1, x37, x38, x39 => if x39 < x38 then (if 0 ≤ x39 then (if x39 < (x37.length : Int) then (if ((rd_T60 x37 x39).f0) = 2 then (if ((rd_T60 x37 x39).f1) = 0 then (arr_check.j2 k x1 x37 x38 x39 ((((rd_T60 x37 x39).f2).length : Int) == 1) ((rd_T60 x37 x39).f0) ((rd_T60 x37 x39).f1) ((rd_T60 x37 x39).f2)) else (arr_check.j2 k x1 x37 x38 x39 false ((rd_T60 x37 x39).f0) ((rd_T60 x37 x39).f1) ((rd_T60 x37 x39).f2))) else (arr_check.j2 k x1 x37 x38 x39 false ((rd_T60 x37 x39).f0) ((rd_T60 x37 x39).f1) ((rd_T60 x37 x39).f2))) else (none)) else (none)) else (some 0)
def arr_check.j2 : Nat → Int → List (S60) → Int → Int → Bool → Int → Int → List (S28) → Option (Int)
 | 0, _, _, _, _, _, _, _, _ => none
 | k + 1, x1, x37, x38, x39, x43, x111000, x111001, x111002 => if x43 = true then (if x1 ≥ 8 then (some 15) else (if 0 < (x111002.length : Int) then ((arr_check.f k ((rd_T28 x111002 0).f0) ((rd_T28 x111002 0).f1) (wrap64 (x1 + 1))).bind fun t112 => (if t112 = 0 then (arr_check.l1 k x1 x37 x38 (wrap64 (x39 + 1))) else (some t112))) else (none))) else (if (x111002.length : Int) > 0 then (some 1) else (if x111000 = 0 then (arr_check.l1 k x1 x37 x38 (wrap64 (x39 + 1))) else (if x111000 = 1 then ((arr_good.f x111001).bind fun t113 => (if t113 = true then (arr_check.l1 k x1 x37 x38 (wrap64 (x39 + 1))) else (some 1))) else (some 1))))
def arr_check.f : Nat → List Int → List (S60) → Int → Option (Int)
 | 0, _, _, _ => none
 | k + 1, l0_0, l0_1, a1 => (arr_Size.f k l0_0).bind fun bt106 => (if bt106.2 = 0 then (if bt106.1 = (l0_1.length : Int) then (arr_check.l0 k a1 l0_0 (l0_0.length : Int) 0 l0_0 l0_1) else (some 1)) else (some bt106.2))
end
theorem arr_check.mono_l : ∀ k, (∀ y0 y1 y2, LeO (arr_check.f k y0 y1 y2) (arr_check.f (k + 1) y0 y1 y2)) ∧ (∀ y0 y1 y2 y3 y4 y5, LeO (arr_check.l0 k y0 y1 y2 y3 y4 y5) (arr_check.l0 (k + 1) y0 y1 y2 y3 y4 y5)) ∧ (∀ y0 y1 y2 y3, LeO (arr_check.l1 k y0 y1 y2 y3) (arr_check.l1 (k + 1) y0 y1 y2 y3)) ∧ (∀ y0 y1 y2 y3 y4 y5 y6 y7, LeO (arr_check.j2 k y0 y1 y2 y3 y4 y5 y6 y7) (arr_check.j2 (k + 1) y0 y1 y2 y3 y4 y5 y6 y7))
 | 0 => ⟨fun _ _ _ r h => by simp [arr_check.f] at h, fun _ _ _ _ _ _ r h => by simp [arr_check.l0] at h, fun _ _ _ _ r h => by simp [arr_check.l1] at h, fun _ _ _ _ _ _ _ _ r h => by simp [arr_check.j2] at h⟩
 | k + 1 => by
  obtain ⟨ih0, ih1, ih2, ih3⟩ := arr_check.mono_l k
  refine ⟨?_, ?_, ?_, ?_⟩
  ·intro y0 y1 y2
   unfold arr_check.f
   repeat' first
   | (with_reducible exact ih0 _ _ _)
   | (with_reducible exact ih1 _ _ _ _ _ _)
   | (with_reducible exact ih2 _ _ _ _)
   | (with_reducible exact ih3 _ _ _ _ _ _ _ _)
   | (with_reducible exact arr_Size.mono _ _)
   | (with_reducible exact LeO.refl _)
   | (with_reducible exact LeO.none _)
   | (with_reducible refine LeO.ite ?_ ?_)
   | (with_reducible refine LeO.bind ?_ (fun _ => ?_))




   | exact arr_Size.mono _ _



  ·intro y0 y1 y2 y3 y4 y5
   unfold arr_check.l0
   repeat' first
   | (with_reducible exact ih0 _ _ _)
   | (with_reducible exact ih1 _ _ _ _ _ _)
   | (with_reducible exact ih2 _ _ _ _)
   | (with_reducible exact ih3 _ _ _ _ _ _ _ _)
   | (with_reducible exact arr_Size.mono _ _)
   | (with_reducible exact LeO.refl _)
   | (with_reducible exact LeO.none _)
   | (with_reducible refine LeO.ite ?_ ?_)
   | (with_reducible refine LeO.bind ?_ (fun _ => ?_))




   | exact arr_Size.mono _ _



  ·intro y0 y1 y2 y3
   unfold arr_check.l1
   repeat' first
   | (with_reducible exact ih0 _ _ _)
   | (with_reducible exact ih1 _ _ _ _ _ _)
   | (with_reducible exact ih2 _ _ _ _)
   | (with_reducible exact ih3 _ _ _ _ _ _ _ _)
   | (with_reducible exact arr_Size.mono _ _)
   | (with_reducible exact LeO.refl _)
   | (with_reducible exact LeO.none _)
   | (with_reducible refine LeO.ite ?_ ?_)
   | (with_reducible refine LeO.bind ?_ (fun _ => ?_))




   | exact arr_Size.mono _ _



  ·intro y0 y1 y2 y3 y4 y5 y6 y7
   unfold arr_check.j2
   repeat' first
   | (with_reducible exact ih0 _ _ _)
   | (with_reducible exact ih1 _ _ _ _ _ _)
   | (with_reducible exact ih2 _ _ _ _)
   | (with_reducible exact ih3 _ _ _ _ _ _ _ _)
   | (with_reducible exact arr_Size.mono _ _)
   | (with_reducible exact LeO.refl _)
   | (with_reducible exact LeO.none _)
   | (with_reducible refine LeO.ite ?_ ?_)
   | (with_reducible refine LeO.bind ?_ (fun _ => ?_))




   | exact arr_Size.mono _ _
theorem arr_check.mono : ∀ a0 a1 a2 k, LeO (arr_check.f k a0 a1 a2) (arr_check.f (k + 1) a0 a1 a2) := by
 intro a0 a1 a2 k
 obtain ⟨ih0, ih1, ih2, ih3⟩ := arr_check.mono_l k
 exact ih0 a0 a1 a2
set_option maxHeartbeats 8000000 in
set_option maxRecDepth 100000 in
theorem arr_check.calls (k : Nat) : ∀ (A0_0 : Option Addr) (c0_0 : Nat) (l0_0 : List Int) (A0_1 : Option Addr) (c0_1 : Nat) (l0_1 : List (S60)) (a1 : Int) (r : Int) (w : World) (hr0_0 : Kd.C (Kd.int .i64) w A0_0 l0_0.length l0_0) (hc0_0 : l0_0.length ≤ c0_0) (hr0_1 : Kd.C k60 w A0_1 l0_1.length l0_1) (hc0_1 : l0_1.length ≤ c0_1) (h : arr_check.f k l0_0 l0_1 a1 = some r),
  Calls Try.prog 64 #[.agg #[.slice A0_0 l0_0.length c0_0, .slice A0_1 l0_1.length c0_1], .int .i64 a1] w fun e w' => e = .returned (.int .i64 r) ∧ Below w.heap.size w w' := by
 induction k using Nat.strongRecOn with
 | _ k ih =>
 intro A0_0 c0_0 l0_0 A0_1 c0_1 l0_1 a1 r w hr0_0 hc0_0 hr0_1 hc0_1 h
 cases k with
 | zero => exact absurd h (by simp [arr_check.f])
 | succ k =>
 simp only [arr_check.f] at h
 have hu28 := Try.underlying28
 have hu60 := Try.underlying60
 have HR0_0 := gA hr0_0
 have HC0_0 := gA hc0_0
 clear hr0_0 hc0_0
 have HR0_1 := gA hr0_1
 have HC0_1 := gA hc0_1
 clear hr0_1 hc0_1
 have HB := gA (Below.refl w.heap.size w)
 have H : ((arr_Size.f k l0_0).bind fun bt106 => (if bt106.2 = 0 then (if bt106.1 = (l0_1.length : Int) then (arr_check.l0 k a1 l0_0 (l0_0.length : Int) 0 l0_0 l0_1) else (some 1)) else (some bt106.2))) = some r := h
 clear h
 replace H := Option.bind_eq_some_iff.mp H
 obtain ⟨⟨t106, t107⟩, A30, H⟩ := H
 replace H : (if t107 = 0 then (if t106 = (l0_1.length : Int) then (arr_check.l0 k a1 l0_0 (l0_0.length : Int) 0 l0_0 l0_1) else (some 1)) else (some t107)) = some r := H
 have A3 := gA A30
 clear A30
 by_cases c4 : t107 = 0
 ·rw [if_pos c4] at H
  have c4b0 : (t107 == 0) = true := beq_iff_eq.mpr c4
  have c4b1 : (t107 != 0) = false := bne_eq_false_iff_eq.mpr c4
  clear c4
  by_cases c5 : t106 = (l0_1.length : Int)
  ·rw [if_pos c5] at H
   have c5b0 : (t106 == (l0_1.length : Int)) = true := beq_iff_eq.mpr c5
   have c5b1 : (t106 != (l0_1.length : Int)) = false := bne_eq_false_iff_eq.mpr c5
   clear c5
   have H' := gA H
   clear H
   go_enter Try.func64, Try.ntmps64
   go_wp2_with (first | ((with_reducible refine gate_dst (N := 2) rfl ?_); (try (refine gate_guard (by rfl) ?_; dsimp only)); refine box_event ?hg (N := 2) ?hd (cs := #[.slice A0_0 l0_0.length c0_0, .slice A0_1 l0_1.length c0_1]) (t := 28) ?hr ?_; (case hd => rfl); (case hg => rfl); (case hr => first | (go_simp; done) | (go_simp; rfl)); intro gb105 hg w6 hbox hb; have BK105 := gA (hbox); have GW105 := gA ((by rw [hg]; exact (below_size (gB HB)) : w.heap.size ≤ gb105)); have GE105 := gA ((by rw [hg]; exact (below_size (gB HB)) : w.heap.size ≤ gb105)); replace HB := gA (below_step (gB HB) hb); clear hb hbox hg; obtain ⟨hcz7_0, hcz7_1, hfz7_0, hfz7_1⟩ := gz2 BK105) | ((with_reducible refine gate_callee (f := 77) rfl ?_); refine goesL_ (some 15) rfl rfl Try.func77 (by kernel_rfl) rfl #[.slice A0_0 l0_0.length c0_0] rfl (by (try simp only [List.map_toArray, List.map_cons, List.map_nil]); first | done | rfl | (simp only [List.length_drop, List.length_take]; rfl)) ?_; (with_reducible refine (arr_Size.calls k _ _ l0_0 t106 t107 _ ?side1 ?side2 A3.out).mono ?_); (case side1 => exact gC HR0_0 HB); (case side2 => exact HC0_0.out); rintro e w' ⟨rfl, ⟨nd, rfl⟩⟩; refine ⟨_, rfl, ?_⟩))
   go_loopg [29] k (fun kq v29 w' => ∃ (x29_1 : Int), v29 = .int .i64 x29_1 ∧ Aside0 (arr_check.l0 kq a1 l0_0 (l0_0.length : Int) x29_1 l0_0 l0_1 = some r) ∧ Aside0 (kq ≤ k) ∧ Aside0 (w'.heap[gb105]? = some (.cells #[(.slice A0_0 l0_0.length c0_0), (.slice A0_1 l0_1.length c0_1)] 28 (0, 0))) ∧ Aside0 (Below w.heap.size w w'))
   case atStart => exact ⟨(0), (rfl), H', ⟨Nat.le_refl _⟩, ⟨gK BK105⟩, ⟨by repeat first | exact gB HB | refine below_set ?_ GE105.out⟩⟩
   case round =>
    clear H'
    try clear p2
    try clear c4
    try clear c4b0
    try clear c4b1
    try clear c5
    try clear c5b0
    try clear c5b1
    try clear c6
    try clear c7
    try clear hcz7_0
    try clear hcz7_1
    try clear hfz7_0
    try clear hfz7_1
    obtain ⟨x29_1, rfl, HA, HK1, BK105, HB⟩ := hrel
    cases gk with
    | zero => exact absurd HA.out (by simp [arr_check.l0])
    | succ k1 =>
     have H := HA.out; clear HA
     simp only [arr_check.l0] at H
     by_cases c8 : x29_1 < (l0_0.length : Int)
     ·rw [if_pos c8] at H
      have c8b0 := decide_eq_true c8
      clear c8
      obtain ⟨c9, H⟩ := iS H
      have c9b0 := decide_eq_true c9
      clear c9
      obtain ⟨c10, H⟩ := iS H
      have c10b0 := decide_eq_true c10
      clear c10
      by_cases c11 : (rd l0_0 x29_1) > 16384
      ·rw [if_pos c11] at H
       have c11b0 : decide (16384 < (rd l0_0 x29_1)) = true := decide_eq_true c11
       clear c11
       obtain rfl := Option.some.inj H
       have p108 : 0 ≤ (x29_1 : Int) := of_decide_eq_true (by assumption)
       have q108 : x29_1 < (l0_0.length : Int) := of_decide_eq_true (by assumption)
       obtain ⟨ad108, e108, hx108_0⟩ := Kd.at_int HR0_0.out x29_1 p108 q108
       cases e108
       replace hx108_0 := (HB.out.cell (World.block_lt_of_cell? w _ hx108_0)).trans hx108_0
       replace p108 := eq_true p108
       replace q108 := eq_true q108
       go_wp2
       go_ret
       exact ⟨rfl, by repeat first | exact gB HB | refine below_set ?_ GE105.out⟩
      ·rw [if_neg c11] at H
       have c11b0 : decide (16384 < (rd l0_0 x29_1)) = false := decide_eq_false c11
       clear c11
       have H' := gA H
       clear H
       have p108 : 0 ≤ (x29_1 : Int) := of_decide_eq_true (by assumption)
       have q108 : x29_1 < (l0_0.length : Int) := of_decide_eq_true (by assumption)
       obtain ⟨ad108, e108, hx108_0⟩ := Kd.at_int HR0_0.out x29_1 p108 q108
       cases e108
       replace hx108_0 := (HB.out.cell (World.block_lt_of_cell? w _ hx108_0)).trans hx108_0
       replace p108 := eq_true p108
       replace q108 := eq_true q108
       go_wp2
       go_roundg k1
       case measure => have := HK1.out; omega
       case rel => exact ⟨(wrap64 (x29_1 + 1)), (rfl), H', ⟨by have := HK1.out; omega⟩, ⟨gK BK105⟩, ⟨by repeat first | exact gB HB | refine below_set ?_ GE105.out⟩⟩
     ·rw [if_neg c8] at H
      have c8b0 := decide_eq_false c8
      clear c8
      have H' := gA H
      clear H
      obtain ⟨hcz12_0, hcz12_1, hfz12_0, hfz12_1⟩ := gz2 BK105
      go_wp2
      go_loopg [39] k1 (fun kq v39 w' => ∃ (x39_2 : Int), v39 = .int .i64 x39_2 ∧ Aside0 (arr_check.l1 kq a1 l0_1 (l0_1.length : Int) x39_2 = some r) ∧ Aside0 (kq ≤ k1) ∧ Aside0 (w'.heap[gb105]? = some (.cells #[(.slice A0_0 l0_0.length c0_0), (.slice A0_1 l0_1.length c0_1)] 28 (0, 0))) ∧ Aside0 (Below w.heap.size w w'))
      case atStart => exact ⟨(0), (rfl), H', ⟨Nat.le_refl _⟩, ⟨gK BK105⟩, ⟨by repeat first | exact gB HB | refine below_set ?_ GE105.out⟩⟩
      case round =>
       clear H'
       try clear c1
       try clear p1
       try clear q1
       try clear hx1
       try clear p2
       try clear c4
       try clear c4b0
       try clear c4b1
       try clear c5
       try clear c5b0
       try clear c5b1
       try clear c6
       try clear p6
       try clear c7
       try clear c8
       try clear c8b0
       try clear c9
       try clear c9b0
       try clear c10
       try clear c10b0
       try clear p10
       try clear q10
       try clear hx10
       try clear c11
       try clear c11b0
       try clear hcz12_0
       try clear hcz12_1
       try clear hcz7_0
       try clear hcz7_1
       try clear hfz12_0
       try clear hfz12_1
       try clear hfz7_0
       try clear hfz7_1
       try clear hx108_0
       try clear p108
       try clear p2
       try clear q108
       obtain ⟨x39_2, rfl, HA, HK2, BK105, HB⟩ := hrel
       cases gk with
       | zero => exact absurd HA.out (by simp [arr_check.l1])
       | succ k2 =>
        have H := HA.out; clear HA
        simp only [arr_check.l1] at H
        by_cases c13 : x39_2 < (l0_1.length : Int)
        ·rw [if_pos c13] at H
         have c13b0 := decide_eq_true c13
         clear c13
         obtain ⟨c14, H⟩ := iS H
         have c14b0 := decide_eq_true c14
         clear c14
         obtain ⟨c15, H⟩ := iS H
         have c15b0 := decide_eq_true c15
         clear c15
         have HC16 := gA H
         clear H
         have p109 : 0 ≤ (x39_2 : Int) := of_decide_eq_true (by assumption)
         have q109 : x39_2 < (l0_1.length : Int) := of_decide_eq_true (by assumption)
         obtain ⟨ad109, A109_2, c109_2, e109, hx109_0, hx109_1, hx109_2, hl109_2, hi109_2⟩ := at_T60 HR0_1.out x39_2 p109 q109
         cases e109
         replace hx109_0 := (HB.out.cell (World.block_lt_of_cell? w _ hx109_0)).trans hx109_0
         replace hx109_1 := (HB.out.cell (World.block_lt_of_cell? w _ hx109_1)).trans hx109_1
         replace hx109_2 := (HB.out.cell (World.block_lt_of_cell? w _ hx109_2)).trans hx109_2
         have HR109_2 := gA hi109_2
         have HC109_2 := gA hl109_2
         clear hi109_2 hl109_2
         replace p109 := eq_true p109
         replace q109 := eq_true q109
         go_upto_region 15 with (first | ((with_reducible refine gate_dst (N := 10) rfl ?_); (try (refine gate_guard (by rfl) ?_; dsimp only)); refine box_event ?hg (N := 10) ?hd (cs := #[.int .i64 0, .int .i64 0, .slice none 0 0]) (t := 60) ?hr ?_; (case hd => rfl); (case hg => rfl); (case hr => first | (go_simp; done) | (go_simp; rfl)); intro gb110 hg w17 hbox hb; have BK110 := gA (hbox); have GW110 := gA ((by rw [hg]; exact (below_size (gB HB)) : w.heap.size ≤ gb110)); have GE110 := gA ((by rw [hg]; exact (below_size (gB HB)) : w.heap.size ≤ gb110)); replace HB := gA (below_step (gB HB) hb); have NB105_110 := gA ((by rw [hg]; exact Nat.ne_of_lt (blk_lt (gK BK105)) : gb105 ≠ gb110)); have NB110_105 := gA ((by rw [hg]; exact Nat.ne_of_gt (blk_lt (gK BK105)) : gb110 ≠ gb105)); replace BK105 := gA (blk_below (gK BK105) hb); clear hb hbox hg; have hnb18 := NB110_105.out; have hnc18 := NB105_110.out; obtain ⟨hcz19_0, hcz19_1, hcz19_2, hfz19_0, hfz19_1, hfz19_2⟩ := gz3 BK110))
         (try simp only [Act.put, List.setIfInBounds_toArray, List.set_cons_zero, List.set_cons_succ])
         go_cut [43] (fun v43 wc => ∃ (kq : Nat) (x43_15 : Bool), v43 = .bool x43_15 ∧ Aside0 (arr_check.j2 kq a1 l0_1 (l0_1.length : Int) x39_2 x43_15 ((rd_T60 l0_1 x39_2).f0) ((rd_T60 l0_1 x39_2).f1) ((rd_T60 l0_1 x39_2).f2) = some r) ∧ Aside0 (kq ≤ k2) ∧ Aside0 (wc.heap[gb105]? = some (.cells #[(.slice A0_0 l0_0.length c0_0), (.slice (some ad109) l0_1.length c0_1)] 28 (0, 0))) ∧ Aside0 (wc.heap[gb110]? = some (.cells #[.int .i64 ((rd_T60 l0_1 x39_2).f0), .int .i64 ((rd_T60 l0_1 x39_2).f1), (.slice A109_2 ((rd_T60 l0_1 x39_2).f2).length c109_2)] 60 (0, 0))) ∧ Aside0 (Below w.heap.size w wc))
         case first =>
          have H := HC16.out; clear HC16
          by_cases c20 : ((rd_T60 l0_1 x39_2).f0) = 2
          ·rw [if_pos c20] at H
           have c20b0 : (((rd_T60 l0_1 x39_2).f0) == 2) = true := beq_iff_eq.mpr c20
           have c20b1 : (((rd_T60 l0_1 x39_2).f0) != 2) = false := bne_eq_false_iff_eq.mpr c20
           clear c20
           (first | rw [c20b0] | rw [c20b1] | (simp only [i64_w, i32_w]; rw [c20b0]) | skip)
           by_cases c21 : ((rd_T60 l0_1 x39_2).f1) = 0
           ·rw [if_pos c21] at H
            have c21b0 : (((rd_T60 l0_1 x39_2).f1) == 0) = true := beq_iff_eq.mpr c21
            have c21b1 : (((rd_T60 l0_1 x39_2).f1) != 0) = false := bne_eq_false_iff_eq.mpr c21
            clear c21
            have H' := gA H
            clear H
            have hnb22 := NB110_105.out
            have hnc22 := NB105_110.out
            obtain ⟨hcz23_0, hcz23_1, hcz23_2, hfz23_0, hfz23_1, hfz23_2⟩ := gz3 BK110
            go_wp2
            all_goals (go_meet; (case rel => exact ⟨_, (((((rd_T60 l0_1 x39_2).f2).length : Int) == 1)), (by first | rfl | (simp; done) | (simp [*]; done) | (exfalso; simp_all; done) | (exfalso; simp_all; omega)), H', ⟨by have := HK1.out; have := HK2.out; first | omega | exact Nat.le_refl _⟩, ⟨by (with_reducible repeat (first | refine blk_drewN ?_ _ | refine blk_drew ?_ | refine blk_alloc ?_ _)); refine blk_far ?_ NB105_110.out _; (with_reducible repeat (first | refine blk_drewN ?_ _ | refine blk_drew ?_ | refine blk_alloc ?_ _)); refine blk_far ?_ NB105_110.out _; (with_reducible repeat (first | refine blk_drewN ?_ _ | refine blk_drew ?_ | refine blk_alloc ?_ _)); refine blk_far ?_ NB105_110.out _; exact gK BK105⟩, ⟨by (with_reducible repeat (first | refine blk_drewN ?_ _ | refine blk_drew ?_ | refine blk_alloc ?_ _)); refine blk_put (cs := #[.int .i64 ((rd_T60 l0_1 x39_2).f0), .int .i64 ((rd_T60 l0_1 x39_2).f1), .slice none 0 0]) ?_ 2 _ rfl; (with_reducible repeat (first | refine blk_drewN ?_ _ | refine blk_drew ?_ | refine blk_alloc ?_ _)); refine blk_put (cs := #[.int .i64 ((rd_T60 l0_1 x39_2).f0), .int .i64 0, .slice none 0 0]) ?_ 1 _ rfl; (with_reducible repeat (first | refine blk_drewN ?_ _ | refine blk_drew ?_ | refine blk_alloc ?_ _)); refine blk_put (cs := #[.int .i64 0, .int .i64 0, .slice none 0 0]) ?_ 0 _ rfl; exact gK BK110⟩, ⟨by repeat first | exact gB HB | refine below_set ?_ GE105.out | refine below_set ?_ GE110.out⟩⟩))
           ·rw [if_neg c21] at H
            have c21b0 : (((rd_T60 l0_1 x39_2).f1) == 0) = false := beq_eq_false_iff_ne.mpr c21
            have c21b1 : (((rd_T60 l0_1 x39_2).f1) != 0) = true := bne_iff_ne.mpr c21
            have H' := gA H
            clear H
            have hnb24 := NB110_105.out
            have hnc24 := NB105_110.out
            obtain ⟨hcz25_0, hcz25_1, hcz25_2, hfz25_0, hfz25_1, hfz25_2⟩ := gz3 BK110
            go_wp2
            all_goals (go_meet; (case rel => exact ⟨_, (false), (by first | rfl | (simp; done) | (simp [*]; done) | (exfalso; simp_all; done) | (exfalso; simp_all; omega)), H', ⟨by have := HK1.out; have := HK2.out; first | omega | exact Nat.le_refl _⟩, ⟨by (with_reducible repeat (first | refine blk_drewN ?_ _ | refine blk_drew ?_ | refine blk_alloc ?_ _)); refine blk_far ?_ NB105_110.out _; (with_reducible repeat (first | refine blk_drewN ?_ _ | refine blk_drew ?_ | refine blk_alloc ?_ _)); refine blk_far ?_ NB105_110.out _; (with_reducible repeat (first | refine blk_drewN ?_ _ | refine blk_drew ?_ | refine blk_alloc ?_ _)); refine blk_far ?_ NB105_110.out _; exact gK BK105⟩, ⟨by (with_reducible repeat (first | refine blk_drewN ?_ _ | refine blk_drew ?_ | refine blk_alloc ?_ _)); refine blk_put (cs := #[.int .i64 ((rd_T60 l0_1 x39_2).f0), .int .i64 ((rd_T60 l0_1 x39_2).f1), .slice none 0 0]) ?_ 2 _ rfl; (with_reducible repeat (first | refine blk_drewN ?_ _ | refine blk_drew ?_ | refine blk_alloc ?_ _)); refine blk_put (cs := #[.int .i64 ((rd_T60 l0_1 x39_2).f0), .int .i64 0, .slice none 0 0]) ?_ 1 _ rfl; (with_reducible repeat (first | refine blk_drewN ?_ _ | refine blk_drew ?_ | refine blk_alloc ?_ _)); refine blk_put (cs := #[.int .i64 0, .int .i64 0, .slice none 0 0]) ?_ 0 _ rfl; exact gK BK110⟩, ⟨by repeat first | exact gB HB | refine below_set ?_ GE105.out | refine below_set ?_ GE110.out⟩⟩))
          ·rw [if_neg c20] at H
           have c20b0 : (((rd_T60 l0_1 x39_2).f0) == 2) = false := beq_eq_false_iff_ne.mpr c20
           have c20b1 : (((rd_T60 l0_1 x39_2).f0) != 2) = true := bne_iff_ne.mpr c20
           (first | rw [c20b0] | rw [c20b1] | (simp only [i64_w, i32_w]; rw [c20b0]) | skip)
           have H' := gA H
           clear H
           have hnb26 := NB110_105.out
           have hnc26 := NB105_110.out
           obtain ⟨hcz27_0, hcz27_1, hcz27_2, hfz27_0, hfz27_1, hfz27_2⟩ := gz3 BK110
           go_wp2
           all_goals (go_meet; (case rel => exact ⟨_, (false), (by first | rfl | (simp; done) | (simp [*]; done) | (exfalso; simp_all; done) | (exfalso; simp_all; omega)), H', ⟨by have := HK1.out; have := HK2.out; first | omega | exact Nat.le_refl _⟩, ⟨by (with_reducible repeat (first | refine blk_drewN ?_ _ | refine blk_drew ?_ | refine blk_alloc ?_ _)); refine blk_far ?_ NB105_110.out _; (with_reducible repeat (first | refine blk_drewN ?_ _ | refine blk_drew ?_ | refine blk_alloc ?_ _)); refine blk_far ?_ NB105_110.out _; (with_reducible repeat (first | refine blk_drewN ?_ _ | refine blk_drew ?_ | refine blk_alloc ?_ _)); refine blk_far ?_ NB105_110.out _; exact gK BK105⟩, ⟨by (with_reducible repeat (first | refine blk_drewN ?_ _ | refine blk_drew ?_ | refine blk_alloc ?_ _)); refine blk_put (cs := #[.int .i64 ((rd_T60 l0_1 x39_2).f0), .int .i64 ((rd_T60 l0_1 x39_2).f1), .slice none 0 0]) ?_ 2 _ rfl; (with_reducible repeat (first | refine blk_drewN ?_ _ | refine blk_drew ?_ | refine blk_alloc ?_ _)); refine blk_put (cs := #[.int .i64 ((rd_T60 l0_1 x39_2).f0), .int .i64 0, .slice none 0 0]) ?_ 1 _ rfl; (with_reducible repeat (first | refine blk_drewN ?_ _ | refine blk_drew ?_ | refine blk_alloc ?_ _)); refine blk_put (cs := #[.int .i64 0, .int .i64 0, .slice none 0 0]) ?_ 0 _ rfl; exact gK BK110⟩, ⟨by repeat first | exact gB HB | refine below_set ?_ GE105.out | refine below_set ?_ GE110.out⟩⟩))
         case rest =>
          clear HC16
          try clear c1
          try clear p1
          try clear q1
          try clear hx1
          try clear c2
          try clear p2
          try clear c4
          try clear c4b0
          try clear c4b1
          try clear c5
          try clear c5b0
          try clear c5b1
          try clear c6
          try clear p6
          try clear c7
          try clear c8
          try clear c8b0
          try clear c9
          try clear c9b0
          try clear c10
          try clear c10b0
          try clear p10
          try clear q10
          try clear hx10
          try clear c11
          try clear c11b0
          try clear c13
          try clear c13b0
          try clear c14
          try clear c14b0
          try clear c15
          try clear c15b0
          try clear c18
          try clear c20
          try clear c20b0
          try clear c20b1
          try clear c21
          try clear c21b0
          try clear c21b1
          try clear c22
          try clear c24
          try clear c26
          try clear hcz12_0
          try clear hcz12_1
          try clear hcz19_0
          try clear hcz19_1
          try clear hcz19_2
          try clear hcz23_0
          try clear hcz23_1
          try clear hcz23_2
          try clear hcz25_0
          try clear hcz25_1
          try clear hcz25_2
          try clear hcz27_0
          try clear hcz27_1
          try clear hcz27_2
          try clear hcz7_0
          try clear hcz7_1
          try clear hfz12_0
          try clear hfz12_1
          try clear hfz19_0
          try clear hfz19_1
          try clear hfz19_2
          try clear hfz23_0
          try clear hfz23_1
          try clear hfz23_2
          try clear hfz25_0
          try clear hfz25_1
          try clear hfz25_2
          try clear hfz27_0
          try clear hfz27_1
          try clear hfz27_2
          try clear hfz7_0
          try clear hfz7_1
          try clear hx108_0
          try clear hx109_0
          try clear hx109_1
          try clear hx109_2
          try clear p1
          try clear p10
          try clear p108
          try clear p109
          try clear p2
          try clear p6
          try clear q1
          try clear q10
          try clear q108
          try clear q109
          obtain ⟨kq, x43_15, rfl, HA, HJ15, BK105, BK110, HB⟩ := hcut
          cases kq with
          | zero => exact absurd HA.out (by simp [arr_check.j2])
          | succ kj15 =>
           have H := HA.out; clear HA
           simp only [arr_check.j2] at H
           by_cases c28 : x43_15 = true
           ·subst c28
            have H1 : (if a1 ≥ 8 then (some 15) else (if 0 < (((rd_T60 l0_1 x39_2).f2).length : Int) then ((arr_check.f kj15 ((rd_T28 ((rd_T60 l0_1 x39_2).f2) 0).f0) ((rd_T28 ((rd_T60 l0_1 x39_2).f2) 0).f1) (wrap64 (a1 + 1))).bind fun t112 => (if t112 = 0 then (arr_check.l1 kj15 a1 l0_1 (l0_1.length : Int) (wrap64 (x39_2 + 1))) else (some t112))) else (none))) = some r := by rw [if_pos rfl] at H; exact H
            clear H; have H := H1; clear H1
            by_cases c29 : a1 ≥ 8
            ·rw [if_pos c29] at H
             have c29b0 : decide (8 ≤ a1) = true := decide_eq_true c29
             clear c29
             obtain rfl := Option.some.inj H
             go_wp2
             go_ret
             exact ⟨rfl, by repeat first | exact gB HB | refine below_set ?_ GE105.out | refine below_set ?_ GE110.out⟩
            ·rw [if_neg c29] at H
             have c29b0 : decide (8 ≤ a1) = false := decide_eq_false c29
             clear c29
             obtain ⟨c30, H⟩ := iS H
             have c30b0 := decide_eq_true c30
             have c30b1 : decide (0 < ((rd_T60 l0_1 x39_2).f2).length) = true := decide_eq_true (by omega)
             clear c30
             replace H := Option.bind_eq_some_iff.mp H
             obtain ⟨t112, A310, H⟩ := H
             replace H : (if t112 = 0 then (arr_check.l1 kj15 a1 l0_1 (l0_1.length : Int) (wrap64 (x39_2 + 1))) else (some t112)) = some r := H
             have A31 := gA A310
             clear A310
             by_cases c32 : t112 = 0
             ·rw [if_pos c32] at H
              have c32b0 : (t112 == 0) = true := beq_iff_eq.mpr c32
              have c32b1 : (t112 != 0) = false := bne_eq_false_iff_eq.mpr c32
              clear c32
              have H' := gA H
              clear H
              have hnb33 := NB110_105.out
              have hnc33 := NB105_110.out
              obtain ⟨hcz34_0, hcz34_1, hcz34_2, hfz34_0, hfz34_1, hfz34_2⟩ := gz3 BK110
              have p111 : 0 ≤ (0 : Int) := (by omega)
              have q111 : 0 < (((rd_T60 l0_1 x39_2).f2).length : Int) := of_decide_eq_true (by assumption)
              obtain ⟨ad111, A111_0, c111_0, A111_1, c111_1, e111, hx111_0, hx111_1, hl111_0, hi111_0, hl111_1, hi111_1⟩ := at_T28 HR109_2.out 0 p111 q111
              cases e111
              have qi111 : (0 < ((rd_T60 l0_1 x39_2).f2).length) = True := eq_true (by omega)
              (try rw [show ((0 : Int)).toNat = 0 from rfl] at hx111_0)
              (try rw [show 0 * 2 = 0 from rfl] at hx111_0)
              (try rw [Addr.add_zero'] at hx111_0)
              (try rw [show ((0 : Int)).toNat = 0 from rfl] at hx111_1)
              (try rw [show 0 * 2 = 0 from rfl] at hx111_1)
              (try rw [Addr.add_zero'] at hx111_1)
              replace hx111_0 := (HB.out.cell (World.block_lt_of_cell? w _ hx111_0)).trans hx111_0
              replace hx111_1 := (HB.out.cell (World.block_lt_of_cell? w _ hx111_1)).trans hx111_1
              have HR111_0 := gA hi111_0
              have HC111_0 := gA hl111_0
              clear hi111_0 hl111_0
              have HR111_1 := gA hi111_1
              have HC111_1 := gA hl111_1
              clear hi111_1 hl111_1
              replace p111 := eq_true p111
              replace q111 := eq_true q111
              go_wp2_with (first | ((with_reducible refine gate_callee (f := 64) rfl ?_); refine goesL_ (some 66) rfl rfl Try.func64 (by kernel_rfl) rfl #[.agg #[.slice A111_0 ((rd_T28 ((rd_T60 l0_1 x39_2).f2) 0).f0).length c111_0, .slice A111_1 ((rd_T28 ((rd_T60 l0_1 x39_2).f2) 0).f1).length c111_1], .int .i64 (wrap64 (a1 + 1))] rfl (by (try simp only [List.map_toArray, List.map_cons, List.map_nil]); first | done | rfl | (simp only [List.length_drop, List.length_take]; rfl)) ?_; (with_reducible refine (ih kj15 (by have := HK1.out; have := HK2.out; have := HJ15.out; omega) _ _ ((rd_T28 ((rd_T60 l0_1 x39_2).f2) 0).f0) _ _ ((rd_T28 ((rd_T60 l0_1 x39_2).f2) 0).f1) (wrap64 (a1 + 1)) t112 _ ?side1 ?side2 ?side3 ?side4 A31.out).mono ?_); (case side1 => exact gC HR111_0 HB); (case side2 => exact HC111_0.out); (case side3 => exact gC HR111_1 HB); (case side4 => exact HC111_1.out); rintro e w35 ⟨rfl, hb⟩; refine ⟨_, rfl, ?_⟩; replace BK105 := gA (blk_below (gK BK105) hb); replace BK110 := gA (blk_below (gK BK110) hb); replace HB := gA (below_step (gB HB) hb); (try clear hb)))
              go_roundg kj15
              case measure => have := HK1.out; have := HK2.out; have := HJ15.out; omega
              case rel => exact ⟨(wrap64 (x39_2 + 1)), (rfl), H', ⟨by have := HK1.out; have := HK2.out; have := HJ15.out; omega⟩, ⟨gK BK105⟩, ⟨gB HB⟩⟩
             ·rw [if_neg c32] at H
              have c32b0 : (t112 == 0) = false := beq_eq_false_iff_ne.mpr c32
              have c32b1 : (t112 != 0) = true := bne_iff_ne.mpr c32
              obtain rfl := Option.some.inj H
              have hnb36 := NB110_105.out
              have hnc36 := NB105_110.out
              obtain ⟨hcz37_0, hcz37_1, hcz37_2, hfz37_0, hfz37_1, hfz37_2⟩ := gz3 BK110
              have p111 : 0 ≤ (0 : Int) := (by omega)
              have q111 : 0 < (((rd_T60 l0_1 x39_2).f2).length : Int) := of_decide_eq_true (by assumption)
              obtain ⟨ad111, A111_0, c111_0, A111_1, c111_1, e111, hx111_0, hx111_1, hl111_0, hi111_0, hl111_1, hi111_1⟩ := at_T28 HR109_2.out 0 p111 q111
              cases e111
              have qi111 : (0 < ((rd_T60 l0_1 x39_2).f2).length) = True := eq_true (by omega)
              (try rw [show ((0 : Int)).toNat = 0 from rfl] at hx111_0)
              (try rw [show 0 * 2 = 0 from rfl] at hx111_0)
              (try rw [Addr.add_zero'] at hx111_0)
              (try rw [show ((0 : Int)).toNat = 0 from rfl] at hx111_1)
              (try rw [show 0 * 2 = 0 from rfl] at hx111_1)
              (try rw [Addr.add_zero'] at hx111_1)
              replace hx111_0 := (HB.out.cell (World.block_lt_of_cell? w _ hx111_0)).trans hx111_0
              replace hx111_1 := (HB.out.cell (World.block_lt_of_cell? w _ hx111_1)).trans hx111_1
              have HR111_0 := gA hi111_0
              have HC111_0 := gA hl111_0
              clear hi111_0 hl111_0
              have HR111_1 := gA hi111_1
              have HC111_1 := gA hl111_1
              clear hi111_1 hl111_1
              replace p111 := eq_true p111
              replace q111 := eq_true q111
              go_wp2_with (first | ((with_reducible refine gate_callee (f := 64) rfl ?_); refine goesL_ (some 66) rfl rfl Try.func64 (by kernel_rfl) rfl #[.agg #[.slice A111_0 ((rd_T28 ((rd_T60 l0_1 x39_2).f2) 0).f0).length c111_0, .slice A111_1 ((rd_T28 ((rd_T60 l0_1 x39_2).f2) 0).f1).length c111_1], .int .i64 (wrap64 (a1 + 1))] rfl (by (try simp only [List.map_toArray, List.map_cons, List.map_nil]); first | done | rfl | (simp only [List.length_drop, List.length_take]; rfl)) ?_; (with_reducible refine (ih kj15 (by have := HK1.out; have := HK2.out; have := HJ15.out; omega) _ _ ((rd_T28 ((rd_T60 l0_1 x39_2).f2) 0).f0) _ _ ((rd_T28 ((rd_T60 l0_1 x39_2).f2) 0).f1) (wrap64 (a1 + 1)) t112 _ ?side1 ?side2 ?side3 ?side4 A31.out).mono ?_); (case side1 => exact gC HR111_0 HB); (case side2 => exact HC111_0.out); (case side3 => exact gC HR111_1 HB); (case side4 => exact HC111_1.out); rintro e w38 ⟨rfl, hb⟩; refine ⟨_, rfl, ?_⟩; replace BK105 := gA (blk_below (gK BK105) hb); replace BK110 := gA (blk_below (gK BK110) hb); replace HB := gA (below_step (gB HB) hb); (try clear hb)))
              go_ret
              exact ⟨rfl, by repeat first | exact gB HB | refine below_set ?_ GE105.out | refine below_set ?_ GE110.out⟩
           ·replace c28 := Bool.eq_false_iff.mpr c28
            subst c28
            have H1 : (if (((rd_T60 l0_1 x39_2).f2).length : Int) > 0 then (some 1) else (if ((rd_T60 l0_1 x39_2).f0) = 0 then (arr_check.l1 kj15 a1 l0_1 (l0_1.length : Int) (wrap64 (x39_2 + 1))) else (if ((rd_T60 l0_1 x39_2).f0) = 1 then ((arr_good.f ((rd_T60 l0_1 x39_2).f1)).bind fun t113 => (if t113 = true then (arr_check.l1 kj15 a1 l0_1 (l0_1.length : Int) (wrap64 (x39_2 + 1))) else (some 1))) else (some 1)))) = some r := by rw [if_neg (show ¬ (false = true) by decide)] at H; exact H
            clear H; have H := H1; clear H1
            by_cases c39 : (((rd_T60 l0_1 x39_2).f2).length : Int) > 0
            ·rw [if_pos c39] at H
             have c39b0 : decide (0 < (((rd_T60 l0_1 x39_2).f2).length : Int)) = true := decide_eq_true c39
             have c39b1 : decide (0 < ((rd_T60 l0_1 x39_2).f2).length) = true := decide_eq_true (by omega)
             clear c39
             obtain rfl := Option.some.inj H
             have hnb40 := NB110_105.out
             have hnc40 := NB105_110.out
             obtain ⟨hcz41_0, hcz41_1, hcz41_2, hfz41_0, hfz41_1, hfz41_2⟩ := gz3 BK110
             go_wp2
             go_ret
             exact ⟨rfl, by repeat first | exact gB HB | refine below_set ?_ GE105.out | refine below_set ?_ GE110.out⟩
            ·rw [if_neg c39] at H
             have c39b0 : decide (0 < (((rd_T60 l0_1 x39_2).f2).length : Int)) = false := decide_eq_false c39
             have c39b1 : decide (0 < ((rd_T60 l0_1 x39_2).f2).length) = false := decide_eq_false (by omega)
             clear c39
             by_cases c42 : ((rd_T60 l0_1 x39_2).f0) = 0
             ·rw [if_pos c42] at H
              have c42b0 : (((rd_T60 l0_1 x39_2).f0) == 0) = true := beq_iff_eq.mpr c42
              have c42b1 : (((rd_T60 l0_1 x39_2).f0) != 0) = false := bne_eq_false_iff_eq.mpr c42
              clear c42
              have H' := gA H
              clear H
              have hnb43 := NB110_105.out
              have hnc43 := NB105_110.out
              obtain ⟨hcz44_0, hcz44_1, hcz44_2, hfz44_0, hfz44_1, hfz44_2⟩ := gz3 BK110
              go_wp2
              go_roundg kj15
              case measure => have := HK1.out; have := HK2.out; have := HJ15.out; omega
              case rel => exact ⟨(wrap64 (x39_2 + 1)), (rfl), H', ⟨by have := HK1.out; have := HK2.out; have := HJ15.out; omega⟩, ⟨gK BK105⟩, ⟨gB HB⟩⟩
             ·rw [if_neg c42] at H
              have c42b0 : (((rd_T60 l0_1 x39_2).f0) == 0) = false := beq_eq_false_iff_ne.mpr c42
              have c42b1 : (((rd_T60 l0_1 x39_2).f0) != 0) = true := bne_iff_ne.mpr c42
              by_cases c45 : ((rd_T60 l0_1 x39_2).f0) = 1
              ·rw [if_pos c45] at H
               have c45b0 : (((rd_T60 l0_1 x39_2).f0) == 1) = true := beq_iff_eq.mpr c45
               have c45b1 : (((rd_T60 l0_1 x39_2).f0) != 1) = false := bne_eq_false_iff_eq.mpr c45
               clear c45
               replace H := Option.bind_eq_some_iff.mp H
               obtain ⟨t113, A460, H⟩ := H
               replace H : (if t113 = true then (arr_check.l1 kj15 a1 l0_1 (l0_1.length : Int) (wrap64 (x39_2 + 1))) else (some 1)) = some r := H
               have A46 := gA A460
               clear A460
               by_cases c47 : t113 = true
               ·subst c47
                have H1 : (arr_check.l1 kj15 a1 l0_1 (l0_1.length : Int) (wrap64 (x39_2 + 1))) = some r := by rw [if_pos rfl] at H; exact H
                clear H; have H := H1; clear H1
                have H' := gA H
                clear H
                have hnb48 := NB110_105.out
                have hnc48 := NB105_110.out
                obtain ⟨hcz49_0, hcz49_1, hcz49_2, hfz49_0, hfz49_1, hfz49_2⟩ := gz3 BK110
                go_wp2_with (first | (go_at_call 78; (with_reducible refine (arr_good.calls ((rd_T60 l0_1 x39_2).f1) true _ A46.out).mono ?_); rintro e w' ⟨rfl, ⟨nd, rfl⟩⟩))
                go_roundg kj15
                case measure => have := HK1.out; have := HK2.out; have := HJ15.out; omega
                case rel => exact ⟨(wrap64 (x39_2 + 1)), (rfl), H', ⟨by have := HK1.out; have := HK2.out; have := HJ15.out; omega⟩, ⟨gK BK105⟩, ⟨gB HB⟩⟩
               ·replace c47 := Bool.eq_false_iff.mpr c47
                subst c47
                have H1 : (some 1) = some r := by rw [if_neg (show ¬ (false = true) by decide)] at H; exact H
                clear H; have H := H1; clear H1
                obtain rfl := Option.some.inj H
                have hnb50 := NB110_105.out
                have hnc50 := NB105_110.out
                obtain ⟨hcz51_0, hcz51_1, hcz51_2, hfz51_0, hfz51_1, hfz51_2⟩ := gz3 BK110
                go_wp2_with (first | (go_at_call 78; (with_reducible refine (arr_good.calls ((rd_T60 l0_1 x39_2).f1) false _ A46.out).mono ?_); rintro e w' ⟨rfl, ⟨nd, rfl⟩⟩))
                go_ret
                exact ⟨rfl, by repeat first | exact gB HB | refine below_set ?_ GE105.out | refine below_set ?_ GE110.out⟩
              ·rw [if_neg c45] at H
               have c45b0 : (((rd_T60 l0_1 x39_2).f0) == 1) = false := beq_eq_false_iff_ne.mpr c45
               have c45b1 : (((rd_T60 l0_1 x39_2).f0) != 1) = true := bne_iff_ne.mpr c45
               obtain rfl := Option.some.inj H
               have hnb52 := NB110_105.out
               have hnc52 := NB105_110.out
               obtain ⟨hcz53_0, hcz53_1, hcz53_2, hfz53_0, hfz53_1, hfz53_2⟩ := gz3 BK110
               go_wp2
               go_ret
               exact ⟨rfl, by repeat first | exact gB HB | refine below_set ?_ GE105.out | refine below_set ?_ GE110.out⟩
        ·rw [if_neg c13] at H
         have c13b0 := decide_eq_false c13
         clear c13
         obtain rfl := Option.some.inj H
         go_wp2
         go_ret
         exact ⟨rfl, by repeat first | exact gB HB | refine below_set ?_ GE105.out⟩
  ·rw [if_neg c5] at H
   have c5b0 : (t106 == (l0_1.length : Int)) = false := beq_eq_false_iff_ne.mpr c5
   have c5b1 : (t106 != (l0_1.length : Int)) = true := bne_iff_ne.mpr c5
   obtain rfl := Option.some.inj H
   go_enter Try.func64, Try.ntmps64
   go_wp2_with (first | ((with_reducible refine gate_dst (N := 2) rfl ?_); (try (refine gate_guard (by rfl) ?_; dsimp only)); refine box_event ?hg (N := 2) ?hd (cs := #[.slice A0_0 l0_0.length c0_0, .slice A0_1 l0_1.length c0_1]) (t := 28) ?hr ?_; (case hd => rfl); (case hg => rfl); (case hr => first | (go_simp; done) | (go_simp; rfl)); intro gb105 hg w54 hbox hb; have BK105 := gA (hbox); have GW105 := gA ((by rw [hg]; exact (below_size (gB HB)) : w.heap.size ≤ gb105)); have GE105 := gA ((by rw [hg]; exact (below_size (gB HB)) : w.heap.size ≤ gb105)); replace HB := gA (below_step (gB HB) hb); clear hb hbox hg; obtain ⟨hcz55_0, hcz55_1, hfz55_0, hfz55_1⟩ := gz2 BK105) | ((with_reducible refine gate_callee (f := 77) rfl ?_); refine goesL_ (some 15) rfl rfl Try.func77 (by kernel_rfl) rfl #[.slice A0_0 l0_0.length c0_0] rfl (by (try simp only [List.map_toArray, List.map_cons, List.map_nil]); first | done | rfl | (simp only [List.length_drop, List.length_take]; rfl)) ?_; (with_reducible refine (arr_Size.calls k _ _ l0_0 t106 t107 _ ?side1 ?side2 A3.out).mono ?_); (case side1 => exact gC HR0_0 HB); (case side2 => exact HC0_0.out); rintro e w' ⟨rfl, ⟨nd, rfl⟩⟩; refine ⟨_, rfl, ?_⟩))
   go_ret
   exact ⟨rfl, by repeat first | exact gB HB | refine below_set ?_ GE105.out⟩
 ·rw [if_neg c4] at H
  have c4b0 : (t107 == 0) = false := beq_eq_false_iff_ne.mpr c4
  have c4b1 : (t107 != 0) = true := bne_iff_ne.mpr c4
  obtain rfl := Option.some.inj H
  go_enter Try.func64, Try.ntmps64
  go_wp2_with (first | ((with_reducible refine gate_dst (N := 2) rfl ?_); (try (refine gate_guard (by rfl) ?_; dsimp only)); refine box_event ?hg (N := 2) ?hd (cs := #[.slice A0_0 l0_0.length c0_0, .slice A0_1 l0_1.length c0_1]) (t := 28) ?hr ?_; (case hd => rfl); (case hg => rfl); (case hr => first | (go_simp; done) | (go_simp; rfl)); intro gb105 hg w56 hbox hb; have BK105 := gA (hbox); have GW105 := gA ((by rw [hg]; exact (below_size (gB HB)) : w.heap.size ≤ gb105)); have GE105 := gA ((by rw [hg]; exact (below_size (gB HB)) : w.heap.size ≤ gb105)); replace HB := gA (below_step (gB HB) hb); clear hb hbox hg; obtain ⟨hcz57_0, hcz57_1, hfz57_0, hfz57_1⟩ := gz2 BK105) | ((with_reducible refine gate_callee (f := 77) rfl ?_); refine goesL_ (some 15) rfl rfl Try.func77 (by kernel_rfl) rfl #[.slice A0_0 l0_0.length c0_0] rfl (by (try simp only [List.map_toArray, List.map_cons, List.map_nil]); first | done | rfl | (simp only [List.length_drop, List.length_take]; rfl)) ?_; (with_reducible refine (arr_Size.calls k _ _ l0_0 t106 t107 _ ?side1 ?side2 A3.out).mono ?_); (case side1 => exact gC HR0_0 HB); (case side2 => exact HC0_0.out); rintro e w' ⟨rfl, ⟨nd, rfl⟩⟩; refine ⟨_, rfl, ?_⟩))
  go_ret
  exact ⟨rfl, by repeat first | exact gB HB | refine below_set ?_ GE105.out⟩
def arr_Check.f (k : Nat) (l0_0 : List Int) (l0_1 : List (S60)) : Option (Int) := (arr_check.f k l0_0 l0_1 0).bind fun t115 => (some t115)
theorem arr_Check.mono : ∀ a0 a1 k, LeO (arr_Check.f k a0 a1) (arr_Check.f (k + 1) a0 a1) := by
 intro a0 a1 k
 unfold arr_Check.f
 repeat' first
   | (with_reducible exact arr_check.mono _ _ _ _)
   | (with_reducible exact LeO.refl _)
   | (with_reducible exact LeO.none _)
   | (with_reducible refine LeO.ite ?_ ?_)
   | (with_reducible refine LeO.bind ?_ (fun _ => ?_))
   | exact arr_check.mono _ _ _ _
set_option maxHeartbeats 8000000 in
set_option maxRecDepth 100000 in
theorem arr_Check.calls (k : Nat) (A0_0 : Option Addr) (c0_0 : Nat) (l0_0 : List Int) (A0_1 : Option Addr) (c0_1 : Nat) (l0_1 : List (S60)) (r : Int) (w : World) (hr0_0 : Kd.C (Kd.int .i64) w A0_0 l0_0.length l0_0) (hc0_0 : l0_0.length ≤ c0_0) (hr0_1 : Kd.C k60 w A0_1 l0_1.length l0_1) (hc0_1 : l0_1.length ≤ c0_1) (h : arr_Check.f k l0_0 l0_1 = some r) :
  Calls Try.prog 36 #[.agg #[.slice A0_0 l0_0.length c0_0, .slice A0_1 l0_1.length c0_1]] w fun e w' => e = .returned (.int .i64 r) ∧ Below w.heap.size w w' := by
 have hu28 := Try.underlying28
 have HR0_0 := gA hr0_0
 have HC0_0 := gA hc0_0
 clear hr0_0 hc0_0
 have HR0_1 := gA hr0_1
 have HC0_1 := gA hc0_1
 clear hr0_1 hc0_1
 have HB := gA (Below.refl w.heap.size w)
 have H : ((arr_check.f k l0_0 l0_1 0).bind fun t115 => (some t115)) = some r := h
 clear h
 replace H := Option.bind_eq_some_iff.mp H
 obtain ⟨t115, A20, H⟩ := H
 replace H : (some t115) = some r := H
 have A2 := gA A20
 clear A20
 obtain rfl := Option.some.inj H
 go_enter Try.func36, Try.ntmps36
 go_wp2_with (first | ((with_reducible refine gate_dst (N := 1) rfl ?_); refine box_event ?hg (N := 1) ?hd (cs := #[.slice A0_0 l0_0.length c0_0, .slice A0_1 l0_1.length c0_1]) (t := 28) ?hr ?_; (case hd => rfl); (case hg => rfl); (case hr => first | (go_simp; done) | (go_simp; rfl)); intro gb114 hg w3 hbox hb; have BK114 := gA (hbox); have GW114 := gA ((by rw [hg]; exact (below_size (gB HB)) : w.heap.size ≤ gb114)); have GE114 := gA ((by rw [hg]; exact (below_size (gB HB)) : w.heap.size ≤ gb114)); replace HB := gA (below_step (gB HB) hb); clear hb hbox hg; obtain ⟨hcz4_0, hcz4_1, hfz4_0, hfz4_1⟩ := gz2 BK114) | ((with_reducible refine gate_callee (f := 64) rfl ?_); refine goesL_ (some 4) rfl rfl Try.func64 (by kernel_rfl) rfl #[.agg #[.slice A0_0 l0_0.length c0_0, .slice A0_1 l0_1.length c0_1], .int .i64 0] rfl (by (try simp only [List.map_toArray, List.map_cons, List.map_nil]); first | done | rfl | (simp only [List.length_drop, List.length_take]; rfl)) ?_; (with_reducible refine (arr_check.calls k _ _ l0_0 _ _ l0_1 0 t115 _ ?side1 ?side2 ?side3 ?side4 A2.out).mono ?_); (case side1 => exact gC HR0_0 HB); (case side2 => exact HC0_0.out); (case side3 => exact gC HR0_1 HB); (case side4 => exact HC0_1.out); rintro e w5 ⟨rfl, hb⟩; refine ⟨_, rfl, ?_⟩; replace BK114 := gA (blk_below (gK BK114) hb); replace HB := gA (below_step (gB HB) hb); (try clear hb)))
 go_ret
 exact ⟨rfl, by repeat first | exact gB HB | refine below_set ?_ GE114.out⟩
def core_Literal.litB (k0 : Int) (c : S60) : Bool := (c.f0 == 2) || ((c.f0 != k0) || ((c.f0 == 1) && (decide (c.f1 < 32) || (c.f1 == 127))))
def core_Literal.litV (e : Int) (s : List Int) (c : List S60) : Bool := if e = 0 ∧ ¬ ((s.length : Int) > 1) ∧ ¬ ((s.length : Int) = 1 ∧ (c.length : Int) = 1) then c.all (fun x => !core_Literal.litB (c.getD 0 z60).f0 x) else false
def core_Literal.f (k : Nat) (l0_0 : List Int) (l0_1 : List (S60)) : Option (Bool) := (arr_Check.f k l0_0 l0_1).bind fun e => some (core_Literal.litV e l0_0 l0_1)
theorem core_Literal.mono : ∀ a0 a1 k, LeO (core_Literal.f k a0 a1) (core_Literal.f (k + 1) a0 a1) := by
 intro a0 a1 k
 exact LeO.bind (arr_Check.mono _ _ _) (fun _ => LeO.refl _)
set_option maxHeartbeats 2000000 in
set_option maxRecDepth 100000 in
theorem core_Literal.calls (k : Nat) (A0_0 : Option Addr) (c0_0 : Nat) (l0_0 : List Int) (A0_1 : Option Addr) (c0_1 : Nat) (l0_1 : List (S60)) (r : Bool) (w : World) (hr0_0 : Kd.C (Kd.int .i64) w A0_0 l0_0.length l0_0) (hc0_0 : l0_0.length ≤ c0_0) (hr0_1 : Kd.C k60 w A0_1 l0_1.length l0_1) (hc0_1 : l0_1.length ≤ c0_1) (h : core_Literal.f k l0_0 l0_1 = some r) :
  Calls Try.prog 24 #[.agg #[.slice A0_0 l0_0.length c0_0, .slice A0_1 l0_1.length c0_1]] w fun e w' => e = .returned (.bool r) ∧ Below w.heap.size w w' := by
 have hu_a := Try.underlying28
 have hu_c := Try.underlying60
 obtain ⟨e, he, h⟩ := Option.bind_eq_some_iff.1 h
 obtain rfl := Option.some.inj h
 have HE := Aside0.mk he
 have HR0 := Aside0.mk hr0_0
 have HC0 := Aside0.mk hc0_0
 have HR1 := Aside0.mk hr0_1
 have HC1 := Aside0.mk hc0_1
 have HL := Aside0.mk hr0_1.2.1
 clear he hr0_0 hc0_0 hr0_1 hc0_1 h
 have HB := Aside0.mk (below_alloc (Below.refl w.heap.size w) (.cells #[.slice A0_0 l0_0.length c0_0, .slice A0_1 l0_1.length c0_1] 28 (0, 0)))
 have BK := Aside0.mk (blk_new w (.cells #[.slice A0_0 l0_0.length c0_0, .slice A0_1 l0_1.length c0_1] 28 (0, 0)))
 by_cases q : e = 0 ∧ ¬ ((l0_0.length : Int) > 1) ∧ ¬ ((l0_0.length : Int) = 1 ∧ (l0_1.length : Int) = 1)
 ·have hv : core_Literal.litV e l0_0 l0_1 = l0_1.all (fun x => !core_Literal.litB (l0_1.getD 0 z60).f0 x) := by unfold core_Literal.litV; rw [if_pos q]
  have HV := Aside0.mk hv
  clear hv
  obtain ⟨q1, q2, q3⟩ := q
  subst q1
  have q2b : decide ((l0_0.length : Int) > 1) = false := decide_eq_false q2
  have q3' : ((l0_0.length : Int) == 1) = false ∨ (((l0_0.length : Int) == 1) = true ∧ ((l0_1.length : Int) == 1) = false) := by
   by_cases a : (l0_0.length : Int) = 1
   ·exact .inr ⟨by simpa using a, by simpa using fun b => q3 ⟨a, b⟩⟩
   ·exact .inl (by simpa using a)
  clear q2 q3
  rcases q3' with q3 | ⟨q3, q4⟩
  all_goals
   go_enter Try.func24, Try.ntmps24
   go_wp2_with (first | (go_at_call 36; (with_reducible refine (arr_Check.calls k _ _ l0_0 _ _ l0_1 0 _ (Kd.C_below HR0.out HB.out) HC0.out (Kd.C_below HR1.out HB.out) HC1.out HE.out).mono ?_); rintro e w1 ⟨rfl, hb1⟩; have HB1 := Aside0.mk (HB.out.trans (hb1.mono HB.out.size)); have BK1 := Aside0.mk (blk_below BK.out hb1); clear hb1; have hz0 : w1.cell? ⟨w.heap.size, 0, none⟩ = some (.slice A0_0 l0_0.length c0_0) := (blk_cell BK1.out 0).trans rfl; have hz1 : w1.cell? ⟨w.heap.size, 1, none⟩ = some (.slice A0_1 l0_1.length c0_1) := (blk_cell BK1.out 1).trans rfl))
   have HR := Aside0.mk (Kd.C_below HR1.out HB1.out)
   clear hz0 hz1 HB BK
   go_loopg [29] l0_1.length (fun kq v29 W => ∃ (j : Nat), v29 = .int .i64 (j : Int) ∧ Aside0 (j + kq = l0_1.length) ∧ Aside0 (core_Literal.litV 0 l0_0 l0_1 = (l0_1.drop j).all (fun x => !core_Literal.litB (l0_1.getD 0 z60).f0 x)) ∧ Aside0 (W.heap[w.heap.size]? = some (.cells #[.slice A0_0 l0_0.length c0_0, .slice A0_1 l0_1.length c0_1] 28 (0, 0))) ∧ Aside0 (Below w.heap.size w W))
   case atStart => exact ⟨0, rfl, ⟨by omega⟩, ⟨HV.out⟩, ⟨BK1.out⟩, ⟨HB1.out⟩⟩
   case round =>
    obtain ⟨j, rfl, HJ, HG, HK, HW⟩ := hrel
    have hz1 : wr.cell? ⟨w.heap.size, 1, none⟩ = some (.slice A0_1 l0_1.length c0_1) := (blk_cell HK.out 1).trans rfl
    by_cases hlt : j < l0_1.length
    ·obtain ⟨q, rfl⟩ : ∃ q, gk = q + 1 := ⟨gk - 1, by have := HJ.out; omega⟩
     have hlti : (j : Int) < (l0_1.length : Int) := by omega
     have hlt0 : (0 : Int) < (l0_1.length : Int) := by omega
     have HWR : Aside0 (wrap64 ((j : Int) + 1) = ((j + 1 : Nat) : Int)) := ⟨by have := HL.out; unfold wrap64; omega⟩
     obtain ⟨ad, E1, k1, e1, hx0, hx1, hx2, hxl, hxc⟩ := at_T60 (Kd.C_below HR1.out HW.out) (j : Int) (by omega) (by omega)
     obtain ⟨bd, E2, k2, e2, hy0, hy1, hy2, hyl, hyc⟩ := at_T60 (Kd.C_below HR1.out HW.out) 0 (by omega) (by omega)
     rw [e1] at hz1 ⊢
     obtain rfl := Option.some.inj (e1.symm.trans e2)
     have r1 : rd_T60 l0_1 (j : Int) = l0_1[j] := by simp [rd_T60, hlt]
     have r2 : rd_T60 l0_1 0 = l0_1.getD 0 z60 := by simp [rd_T60]
     have HD := Aside0.mk (show l0_1.drop j = l0_1[j] :: l0_1.drop (j + 1) from List.drop_eq_getElem_cons hlt)
     rw [Int.toNat_natCast, r1] at hx0 hx1 hx2
     rw [show Int.toNat 0 * 3 = 0 from rfl, r2] at hy0
     have E0 := Aside0.mk e1
     clear hxl hxc hyl hyc hy1 hy2 e1 e2 r1 r2
     rw [show ad.add 0 = ad by simp [Addr.add]] at hy0
     generalize l0_1[j] = x at hx0 hx1 hx2 HD
     generalize hk0 : (l0_1.getD 0 z60).f0 = k0 at hy0 HG HV
     have HN := HG.out
     rw [HD.out, List.all_cons] at HN
     obtain ⟨x0, x1, x2⟩ := x
     simp only [core_Literal.litB] at HN hx0 hx1 hx2
     clear HD
     have hz1a : (wr.alloc (.cells #[.int .i64 x0, .int .i64 x1, .slice E1 x2.length k1] 60)).cell? ⟨w.heap.size, 1, none⟩ = some (.slice (some ad) l0_1.length c0_1) := pw_cell_below (below_alloc (Below.refl _ _) _) hz1
     have hy0a : (wr.alloc (.cells #[.int .i64 x0, .int .i64 x1, .slice E1 x2.length k1] 60)).cell? ad = some (.int .i64 k0) := pw_cell_below (below_alloc (Below.refl _ _) _) hy0
     cases h1 : (x0 == 2) <;> simp only [h1, Bool.true_or, Bool.false_or, Bool.not_true, Bool.false_and] at HN
     rotate_left 1
     ·(have HN := Aside0.mk HN; go_wp2_with (fail); go_quiet (fail); go_wp2_with (fail); go_ret; exact ⟨by rw [HN.out]; rfl, pw_below_drewN (below_alloc HW.out _) _⟩)
     cases h2 : (x0 != k0) <;> simp only [h2, Bool.true_or, Bool.false_or, Bool.not_true, Bool.false_and] at HN
     rotate_left 1
     ·(have HN := Aside0.mk HN; go_wp2_with (fail); go_quiet (fail); go_wp2_with (fail); go_ret; exact ⟨by rw [HN.out]; rfl, pw_below_drewN (below_alloc HW.out _) _⟩)
     cases h3 : (x0 == 1) <;> simp only [h3, Bool.true_and, Bool.false_and, Bool.not_false] at HN
     ·(have HN := Aside0.mk HN; go_wp2_with (fail); go_quiet (fail); go_wp2_with (fail); rw [← E0.out]; go_roundg q; (case measure => omega); (case rel => exact ⟨j + 1, congrArg (Value.int .i64) HWR.out, ⟨by have := HJ.out; omega⟩, ⟨by rw [hk0]; exact HN.out⟩, ⟨blk_drewN (blk_alloc HK.out _) _⟩, ⟨pw_below_drewN (below_alloc HW.out _) _⟩⟩))
     cases h4 : decide (x1 < 32) <;> simp only [h4, Bool.true_or, Bool.false_or, Bool.not_true, Bool.false_and] at HN
     rotate_left 1
     ·(have HN := Aside0.mk HN; go_wp2_with (fail); go_quiet (fail); go_wp2_with (fail); go_ret; exact ⟨by rw [HN.out]; rfl, pw_below_drewN (below_alloc HW.out _) _⟩)
     cases h5 : (x1 == 127) <;> simp only [h5, Bool.not_true, Bool.not_false, Bool.false_and, Bool.true_and] at HN
     ·(have HN := Aside0.mk HN; go_wp2_with (fail); go_quiet (fail); go_wp2_with (fail); rw [← E0.out]; go_roundg q; (case measure => omega); (case rel => exact ⟨j + 1, congrArg (Value.int .i64) HWR.out, ⟨by have := HJ.out; omega⟩, ⟨by rw [hk0]; exact HN.out⟩, ⟨blk_drewN (blk_alloc HK.out _) _⟩, ⟨pw_below_drewN (below_alloc HW.out _) _⟩⟩))
     ·(have HN := Aside0.mk HN; go_wp2_with (fail); go_quiet (fail); go_wp2_with (fail); go_ret; exact ⟨by rw [HN.out]; rfl, pw_below_drewN (below_alloc HW.out _) _⟩)
    ·have hk : gk = 0 := by have := HJ.out; omega
     subst hk
     have hj : j = l0_1.length := by have := HJ.out; omega
     subst hj
     have HN := HG.out
     rw [List.drop_length, List.all_nil] at HN
     have HN := Aside0.mk HN
     go_wp2_with (fail)
     go_ret
     exact ⟨by rw [HN.out]; rfl, HW.out⟩
 ·have hv : core_Literal.litV e l0_0 l0_1 = false := by unfold core_Literal.litV; rw [if_neg q]
  rw [hv]
  clear hv
  by_cases q1 : e = 0
  ·subst q1
   have q1b : ((0 : Int) != 0) = false := rfl
   by_cases q2 : (l0_0.length : Int) > 1
   ·have q2b : decide ((l0_0.length : Int) > 1) = true := decide_eq_true q2
    go_enter Try.func24, Try.ntmps24
    go_wp2_with (first | (go_at_call 36; (with_reducible refine (arr_Check.calls k _ _ l0_0 _ _ l0_1 0 _ (Kd.C_below HR0.out HB.out) HC0.out (Kd.C_below HR1.out HB.out) HC1.out HE.out).mono ?_); rintro e w1 ⟨rfl, hb1⟩; have HB1 := Aside0.mk (HB.out.trans (hb1.mono HB.out.size)); have BK1 := Aside0.mk (blk_below BK.out hb1); clear hb1; have hz0 : w1.cell? ⟨w.heap.size, 0, none⟩ = some (.slice A0_0 l0_0.length c0_0) := (blk_cell BK1.out 0).trans rfl; have hz1 : w1.cell? ⟨w.heap.size, 1, none⟩ = some (.slice A0_1 l0_1.length c0_1) := (blk_cell BK1.out 1).trans rfl))
    go_ret
    exact ⟨rfl, HB1.out⟩
   ·have q2b : decide ((l0_0.length : Int) > 1) = false := decide_eq_false q2
    have q3 : (l0_0.length : Int) = 1 ∧ (l0_1.length : Int) = 1 := by
     by_cases a : (l0_0.length : Int) = 1 ∧ (l0_1.length : Int) = 1
     ·exact a
     ·exact absurd ⟨rfl, q2, a⟩ q
    have q3b : ((l0_0.length : Int) == 1) = true := by simpa using q3.1
    have q4b : ((l0_1.length : Int) == 1) = true := by simpa using q3.2
    clear q q2 q3
    go_enter Try.func24, Try.ntmps24
    go_wp2_with (first | (go_at_call 36; (with_reducible refine (arr_Check.calls k _ _ l0_0 _ _ l0_1 0 _ (Kd.C_below HR0.out HB.out) HC0.out (Kd.C_below HR1.out HB.out) HC1.out HE.out).mono ?_); rintro e w1 ⟨rfl, hb1⟩; have HB1 := Aside0.mk (HB.out.trans (hb1.mono HB.out.size)); have BK1 := Aside0.mk (blk_below BK.out hb1); clear hb1; have hz0 : w1.cell? ⟨w.heap.size, 0, none⟩ = some (.slice A0_0 l0_0.length c0_0) := (blk_cell BK1.out 0).trans rfl; have hz1 : w1.cell? ⟨w.heap.size, 1, none⟩ = some (.slice A0_1 l0_1.length c0_1) := (blk_cell BK1.out 1).trans rfl))
    go_ret
    exact ⟨rfl, HB1.out⟩
  ·have q1b : (e != 0) = true := by simpa using q1
   clear q
   go_enter Try.func24, Try.ntmps24
   go_wp2_with (first | (go_at_call 36; (with_reducible refine (arr_Check.calls k _ _ l0_0 _ _ l0_1 e _ (Kd.C_below HR0.out HB.out) HC0.out (Kd.C_below HR1.out HB.out) HC1.out HE.out).mono ?_); rintro e w1 ⟨rfl, hb1⟩; have HB1 := Aside0.mk (HB.out.trans (hb1.mono HB.out.size)); have BK1 := Aside0.mk (blk_below BK.out hb1); clear hb1; have hz0 : w1.cell? ⟨w.heap.size, 0, none⟩ = some (.slice A0_0 l0_0.length c0_0) := (blk_cell BK1.out 0).trans rfl; have hz1 : w1.cell? ⟨w.heap.size, 1, none⟩ = some (.slice A0_1 l0_1.length c0_1) := (blk_cell BK1.out 1).trans rfl))
   go_ret
   exact ⟨rfl, HB1.out⟩
def strings_Join.v (l : List ByteArray) (s : ByteArray) : ByteArray := ⟨(Lib.join (l.map (·.data.toList)) s.data.toList).toArray⟩
def strings_Join.f (l0 : List ByteArray) (a1 : ByteArray) : Option ByteArray := if l0.length ≤ 140737488355328 ∧ (strings_Join.v l0 a1).size ≤ 140737488355328 then some (strings_Join.v l0 a1) else none
theorem strings_Join.calls (A0 : Option Addr) (c0 : Nat) (l0 : List ByteArray) (a1 : ByteArray) (r : ByteArray) (w : World) (hr0 : Kd.C Kd.string w A0 l0.length l0) (hc0 : l0.length ≤ c0) (h : strings_Join.f l0 a1 = some r) :
  Calls Try.prog 25 #[.slice A0 l0.length c0, .string a1] w fun e w' => e = .returned (.string r) ∧ Below w.heap.size w w' := by
 unfold strings_Join.f at h
 by_cases hl : l0.length ≤ 140737488355328 ∧ (strings_Join.v l0 a1).size ≤ 140737488355328
 ·rw [if_pos hl] at h
  obtain rfl := Option.some.inj h
  rcases Nat.eq_zero_or_pos l0.length with hz | hz
  ·obtain rfl := List.eq_nil_of_length_eq_zero hz
   refine (sh_strings_Join_none A0 c0 a1 w).mono ?_
   rintro e w' ⟨rfl, rfl⟩
   exact ⟨rfl, Below.refl _ _⟩
  ·obtain ⟨ad, rfl, hx⟩ := hr0.2.2 hz
   have hcell : ∀ (j : Nat) x, l0[j]? = some x → w.cell? (ad.add j) = some (.string x) := by
    intro j x hj
    obtain ⟨c, h1, h2, h3⟩ := hx j x hj
    have h2' : c = [Value.string x] := h2
    subst h2'
    have := h3 0 _ rfl
    rwa [show j * (Kd.string).sz + 0 = j from by show j * 1 + 0 = j; omega] at this
   have h0 := hcell 0 _ (List.getElem?_eq_getElem hz)
   rw [Addr.add_zero'] at h0
   have hs : ad = ⟨ad.block, ad.off, none⟩ := by
    obtain ⟨b, o, s⟩ := ad
    cases s with
    | none => rfl
    | some q =>
     unfold World.cell? at h0
     simp at h0
     split at h0 <;> simp_all
   rw [hs]
   refine (sh_strings_Join ad.block ad.off c0 l0 a1 w ?_ (World.block_lt_of_cell? w _ h0) hl.1 hc0 ?_).mono ?_
   ·intro j x hj
    have := hcell j x hj
    rw [hs] at this
    unfold Addr.add at this
    split at this
    ·next hj0 => subst hj0; simpa using this
    ·exact this
   ·exact hl.2
   ·rintro e w' ⟨rfl, hb⟩
    exact ⟨rfl, hb⟩
 ·rw [if_neg hl] at h
  cases h
def runes_Good.f (a0 : Int) : Option (Bool) := if a0 ≥ 0 then (if a0 ≤ 1114111 then (if a0 < 55296 then (some true) else (some (decide (a0 > 57343)))) else (some false)) else (some false)
set_option maxHeartbeats 8000000 in
set_option maxRecDepth 100000 in
theorem runes_Good.calls (a0 : Int) (r : Bool) (w : World) (h : runes_Good.f a0 = some r) :
  Calls Try.prog 40 #[.int .i64 a0] w fun e w' => e = .returned (.bool r) ∧ Drawn0 w w' := by
 have H : (if a0 ≥ 0 then (if a0 ≤ 1114111 then (if a0 < 55296 then (some true) else (some (decide (a0 > 57343)))) else (some false)) else (some false)) = some r := h
 clear h
 by_cases c2 : a0 ≥ 0
 ·rw [if_pos c2] at H
  have c2b0 : decide (0 ≤ a0) = true := decide_eq_true c2
  clear c2
  by_cases c3 : a0 ≤ 1114111
  ·rw [if_pos c3] at H
   have c3b0 := decide_eq_true c3
   clear c3
   by_cases c4 : a0 < 55296
   ·rw [if_pos c4] at H
    have c4b0 := decide_eq_true c4
    clear c4
    obtain rfl := Option.some.inj H
    go_enter Try.func40, Try.ntmps40
    go_wp2
    go_ret
    exact ⟨rfl, by repeat (first | exact Drawn0.refl _ | apply Drawn0.step)⟩
   ·rw [if_neg c4] at H
    have c4b0 := decide_eq_false c4
    clear c4
    obtain rfl := Option.some.inj H
    go_enter Try.func40, Try.ntmps40
    go_wp2
    go_ret
    exact ⟨rfl, by repeat (first | exact Drawn0.refl _ | apply Drawn0.step)⟩
  ·rw [if_neg c3] at H
   have c3b0 := decide_eq_false c3
   clear c3
   obtain rfl := Option.some.inj H
   go_enter Try.func40, Try.ntmps40
   go_wp2
   go_ret
   exact ⟨rfl, by repeat (first | exact Drawn0.refl _ | apply Drawn0.step)⟩
 ·rw [if_neg c2] at H
  have c2b0 : decide (0 ≤ a0) = false := decide_eq_false c2
  clear c2
  obtain rfl := Option.some.inj H
  go_enter Try.func40, Try.ntmps40
  go_wp2
  go_ret
  exact ⟨rfl, by repeat (first | exact Drawn0.refl _ | apply Drawn0.step)⟩
end Go.Proofs.Yteamkcgkhcalhaa.P
